/- Connections in memory (package net): Open; what a stored connection makes of them. -/
import Derived.Test.YthgaghpakioglaaNetA
import Derived.Test.YthgaghpakioglaaWord
namespace Go.Proofs.Ythgaghpakioglaa
set_option linter.unusedSimpArgs false
set_option linter.unusedVariables false
open Go.RowKit
set_option maxRecDepth 10000
--@PUT2

theorem conns_put (cs : List Conn) (k : Nat) (hk : k < cs.length) (y : Conn) : splice (cs.flatMap Conn.cells) (k * 3) y.cells = (cs.set k y).flatMap Conn.cells := by
  have hl : ∀ l : List Conn, (l.flatMap Conn.cells).length = l.length * 3 := fun l => by
    induction l with
    | nil => rfl
    | cons x xs ih => rw [List.flatMap_cons, List.length_append, ih, Conn.cells_length, List.length_cons]; omega
  have e : cs.flatMap Conn.cells = (cs.take k).flatMap Conn.cells ++ (cs[k].cells ++ (cs.drop (k + 1)).flatMap Conn.cells) := by
    rw [← List.flatMap_cons, ← List.flatMap_append, ← List.drop_eq_getElem_cons hk, List.take_append_drop]
  have ht : ((cs.take k).flatMap Conn.cells).length = k * 3 := by rw [hl, List.length_take, Nat.min_eq_left (by omega)]
  rw [List.set_eq_take_append_cons_drop, if_pos hk, List.flatMap_append, List.flatMap_cons]
  unfold splice
  rw [Conn.cells_length, e]
  congr 1
  · rw [← ht, List.take_left]
  · congr 1
    rw [← List.append_assoc, List.drop_left' (by rw [List.length_append, ht, Conn.cells_length])]

theorem Conn.Ok.grown {w w' : World} {g : Nat} {c : Conn} (h : c.Ok w g) (hg : w.grownBy w' (some g)) : c.Ok w' g := by
  have key : ∀ (a : Option Addr) (l : List UInt8), RdB w a l → (0 < l.length → ∀ b o, a = some ⟨b, o, Option.none⟩ → b ≠ g) → RdB w' a l := by
    intro a l hr ho
    rcases Nat.eq_zero_or_pos l.length with h0 | h0
    · rw [List.eq_nil_of_length_eq_zero h0]; exact RdC.nil _ _
    · exact RdC.congr hr (fun b o e hlt => hg.block b hlt (fun e2 => ho h0 b o e (Option.some.inj e2)))
  exact ⟨h.wlen, h.wcap, h.wmax, key _ _ h.wrd h.woff, h.woff, h.rlen, h.rcap, h.rmax, key _ _ h.rrd h.roff, h.roff⟩

theorem NetAt.put {w w' : World} {g k : Nat} {cs : List Conn} {y : Conn} (h : NetAt w g cs) (hk : k < cs.length) (hr : w'.heap[g]? = some (.cells (splice (cs.flatMap Conn.cells) (k * 3) y.cells).toArray 100 (0, 0))) (hg : w.grownBy w' (some g)) (hy : y.Ok w' g) : NetAt w' g (cs.set k y) := by
  rw [conns_put cs k hk y] at hr
  refine ⟨hr, by rw [List.length_set]; exact h.len, fun c hc => ?_⟩
  rcases List.mem_or_eq_of_mem_set hc with h1 | h1
  · exact (h.ok c h1).grown hg
  · rw [h1]; exact hy

theorem connSize : (Try.prog.info? 97).map (·.size) = some 3 := by kernel_rfl
def Conn.fresh : Conn := { Conn.none with op := true }
theorem Conn.fresh_ok (w : World) (g : Nat) : Conn.fresh.Ok w g := ⟨rfl, Nat.le_refl _, by decide, RdC.nil _ _, fun h => absurd h (by decide), rfl, Nat.le_refl _, by decide, RdC.nil _ _, fun h => absurd h (by decide)⟩
/-- What Open answers, and what it leaves. -/
def openR (cs : List Conn) (c : Int) : Int × List Conn := match connAt cs c with
  | Option.none => (1, cs)
  | some x => if x.op then (13, cs) else (0, cs.set (c - 1).toNat Conn.fresh)

set_option maxHeartbeats 1000000 in
theorem netOpen (g : Nat) (c : Int) (cs : List Conn) (w : World) (h : NetAt w g cs) (hc : -9223372036854775808 ≤ c ∧ c ≤ 9223372036854775807) :
    Calls Try.prog 56 #[.pointer (some ⟨g, 0, Option.none⟩), .int .i64 c] w fun e w' => e = .returned (.int .i64 (openR cs c).1) ∧ NetAt w' g (openR cs c).2 ∧ w.grownBy w' (some g) := by
  by_cases h1 : 1 ≤ c ∧ c ≤ 8
  · obtain ⟨k, hk, hkc, hca, hcp⟩ := connAt_some h.len c h1
    have hcell := (h.cell k hk).1
    have HN := Lib.hid h
    have HCP := Lib.hid (hcp g)
    have hkt : (c - 1).toNat = k := by omega
    obtain ⟨op, hop⟩ : ∃ op, cs[k].op = op := ⟨_, rfl⟩
    have HRES := Lib.hid (show openR cs c = if op then (13, cs) else (0, cs.set k Conn.fresh) by unfold openR; rw [hca]; simp only [hop, hkt])
    rw [hop] at hcell
    have hrow := h.row
    have HROW := Lib.hid hrow
    have HK := Lib.hid hk
    have HFT := Lib.hid (show k * 3 + Conn.fresh.cells.length ≤ (cs.flatMap Conn.cells).toArray.size by
      have hl : ∀ l : List Conn, (l.flatMap Conn.cells).length = l.length * 3 := fun l => by
        induction l with
        | nil => rfl
        | cons x xs ih => rw [List.flatMap_cons, List.length_append, ih, Conn.cells_length, List.length_cons]; omega
      rw [List.size_toArray, hl, Conn.cells_length]; omega)
    have HFO := Lib.hid (show ∀ v ∈ Conn.fresh.cells, v.oneCell' = true by intro v hv; simp [Conn.cells, Conn.fresh, Conn.none] at hv; rcases hv with rfl | rfl <;> rfl)
    have HSZ := Lib.hid (show (Try.prog.info? 97).map (·.size) = some Conn.fresh.cells.length from connSize)
    have hcE : (#[.bool true, .slice Option.none 0 0, .slice Option.none 0 0] : Array Value) = Conn.fresh.cells.toArray := rfl
    have HCE := Lib.hid hcE
    clear h hca hcp hkc hkt hop hrow hk hcE
    cases op with
    | true =>
      go_enter Try.func56, Try.ntmps56
      (repeat' ((fail_if_success at_builtin); first | go_values | go_skip | go_guarded | go_step | go_upon))
      refine (netAt_ g c w hc).mono ?_
      rintro _ w1 ⟨rfl, rfl⟩
      dsimp only
      rw [HCP.out]
      (repeat' ((fail_if_success at_builtin); first | go_values | go_skip | go_guarded | go_step | go_upon))
      go_ret
      rw [HRES.out]
      exact ⟨rfl, HN.out, World.grownBy.refl _ _⟩
    | false =>
      go_enter Try.func56, Try.ntmps56
      (repeat' ((fail_if_success at_builtin); first | go_values | go_skip | go_guarded | go_step | go_upon))
      refine (netAt_ g c w hc).mono ?_
      rintro _ w1 ⟨rfl, rfl⟩
      dsimp only
      rw [HCP.out]
      (repeat' ((fail_if_success at_builtin); first | (((refine wpList_store_blk rfl 97 _ _ rfl g (k * 3) Conn.fresh.cells rfl rfl _ _ HROW.out HFT.out HSZ.out HFO.out ?_); intro w2 hg2 hG2; rw [List.toList_toArray] at hg2; have HG2 := Lib.hid hg2; clear hg2)) | go_values | go_skip | go_guarded | go_step | go_upon))
      go_ret
      rw [HRES.out]
      exact ⟨rfl, HN.out.put HK.out HG2.out hG2 (Conn.fresh_ok _ _), hG2⟩
  · obtain ⟨hca, hcp⟩ := connAt_none cs c h1
    have HRES := Lib.hid (show openR cs c = (1, cs) by unfold openR; rw [hca])
    have HCP := Lib.hid (hcp g)
    have HN := Lib.hid h
    clear h hca hcp
    go_enter Try.func56, Try.ntmps56
    (repeat' ((fail_if_success at_builtin); first | go_values | go_skip | go_guarded | go_step | go_upon))
    refine (netAt_ g c w hc).mono ?_
    rintro _ w1 ⟨rfl, rfl⟩
    dsimp only
    rw [HCP.out]
    (repeat' ((fail_if_success at_builtin); first | go_values | go_skip | go_guarded | go_step | go_upon))
    go_ret
    rw [HRES.out]
    exact ⟨rfl, HN.out, World.grownBy.refl _ _⟩

end Go.Proofs.Ythgaghpakioglaa
