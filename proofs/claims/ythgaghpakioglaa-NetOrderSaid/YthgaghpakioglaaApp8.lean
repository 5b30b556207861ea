/- append of bytes to bytes of the call's own: the new slice lies where the old one lay, or in new memory. -/
import Derived.Test.YthgaghpakioglaaApp3
import Derived.Test.YthgaghpakioglaaKit
namespace Go.Proofs.Ythgaghpakioglaa
open Go.RowKit
set_option maxRecDepth 10000

theorem app8x {w : World} {ops : Array Oper} {rest : List Oper} {o : Oper} {a : Act} {Q : Exit → Act → World → Prop} (hgd : o.guard = none) (s x : Operand)
    (ho : o.op = .call { callee := .builtin .append, args := #[s, x], argTypes := #[51, 51] })
    (base : Nat) (v : Value) (n : Nat) (l : List UInt8) (hsv : a.eval s = v) (hown : w.ownsRow base 5 1 v n (bvs l))
    (xa : Option Addr) (m c : Nat) (k : List UInt8) (hxv : a.eval x = .slice xa m c) (hr : RdB w xa k) (em : k.length = m)
    (hb : n + m ≤ 2147483648) (hbase : base ≤ w.heap.size)
    (h : ∀ a' c' w', n + m ≤ c' → w'.ownsRow base 5 1 (.slice a' (n + m) c') (n + m) (bvs (l ++ k)) → w.grownBy w' v.ownBlock → ((Value.slice a' (n + m) c').ownBlock = v.ownBlock ∨ ∀ k, (Value.slice a' (n + m) c').ownBlock = some k → w.heap.size ≤ k) → wpList Try.prog ops Q rest (a.put o.dst (.slice a' (n + m) c')) w') :
    wpList Try.prog ops Q (o :: rest) a w := by
  obtain ⟨i0, hi, hz0, hz1, hz2⟩ := info_parts u8Info
  refine wpList_app3 hgd s x 51 51 ho base 5 i0 _ 1 1 Try.underlying51 hi hz0 hz1 hz2 rfl v n (bvs l) hsv hown _ hxv m (bvs k) (src_of_rdc Try.underlying51 hr (by simp [bvs, em]) (bvs_oneCell k)) (by unfold maxLen; omega) (by omega) hbase ?_
  intro v' w' hO hg hv
  rw [← bvs_append] at hO
  obtain ⟨a', c', rfl, hc, _, _⟩ := owns_slice hO
  exact h a' c' w' hc hO hg hv

theorem app8xG {w : World} {ops : Array Oper} {rest : List Oper} {o : Oper} {a : Act} {Q : Exit → Act → World → Prop} (hw : Region.wanted o (yielded ops a.tmps) = true) (s x : Operand)
    (ho : o.op = .call { callee := .builtin .append, args := #[s, x], argTypes := #[51, 51] })
    (base : Nat) (v : Value) (n : Nat) (l : List UInt8) (hsv : a.eval s = v) (hown : w.ownsRow base 5 1 v n (bvs l))
    (xa : Option Addr) (m c : Nat) (k : List UInt8) (hxv : a.eval x = .slice xa m c) (hr : RdB w xa k) (em : k.length = m)
    (hb : n + m ≤ 2147483648) (hbase : base ≤ w.heap.size)
    (h : ∀ a' c' w', n + m ≤ c' → w'.ownsRow base 5 1 (.slice a' (n + m) c') (n + m) (bvs (l ++ k)) → w.grownBy w' v.ownBlock → ((Value.slice a' (n + m) c').ownBlock = v.ownBlock ∨ ∀ k, (Value.slice a' (n + m) c').ownBlock = some k → w.heap.size ≤ k) → wpList Try.prog ops Q rest (a.put o.dst (.slice a' (n + m) c')) w') :
    wpList Try.prog ops Q (o :: rest) a w := by
  obtain ⟨i0, hi, hz0, hz1, hz2⟩ := info_parts u8Info
  obtain ⟨v', w', hr2, hO, hg, hv⟩ := run_app3 (P := Try.prog) w base 51 51 o.type 5 i0 _ 1 1 Try.underlying51 hi hz0 hz1 hz2 rfl v n (bvs l) hown (.slice xa m c) m (bvs k) (src_of_rdc Try.underlying51 hr (by simp [bvs, em]) (bvs_oneCell k)) (by unfold maxLen; omega) (by omega) hbase
  refine wpList_step fun K hK => ?_
  rw [if_pos hw]
  unfold Oper.wp execOp
  simp only [ho, resolve, invoke, builtin, Sem.run_bind, Sem.run_pure, Result.andThen_ok, List.map_toArray, List.map_cons, List.map_nil, hsv, hxv, hr2]
  rw [← bvs_append] at hO
  obtain ⟨a', c', rfl, hc, _, _⟩ := owns_slice hO
  exact hK _ _ (h a' c' w' hc hO hg hv)

/-- What is owned, behind a call that wrote another row. -/
theorem owns_other_row {w w' : World} {base e size : Nat} {v : Value} {n : Nat} {xs : List Value} {o : Option Nat} (h : w.ownsRow base e size v n xs) (hg : w.grownBy w' o) (hne : ∀ k, v.ownBlock = some k → o ≠ some k) : w'.ownsRow base e size v n xs := by
  refine ⟨h.1, ?_⟩
  rcases h.2 with h2 | ⟨g, cap, cur, hv, hb, hh, r⟩
  · exact .inl h2
  · refine .inr ⟨g, cap, cur, hv, hb, ?_, r⟩
    rw [hg.block g (Array.getElem?_eq_some_iff.1 hh).1 (fun e => hne g (by rw [hv]; rfl) e.symm)]
    exact hh

end Go.Proofs.Ythgaghpakioglaa
