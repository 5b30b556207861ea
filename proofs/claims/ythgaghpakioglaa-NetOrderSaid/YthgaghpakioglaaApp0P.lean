/- append(x, make([]byte, n)...) . -/
import Derived.Test.YthgaghpakioglaaKit
namespace Go.Proofs.Ythgaghpakioglaa
set_option linter.unusedSimpArgs false
set_option linter.unusedVariables false
open Go.RowKit
set_option maxRecDepth 10000

theorem zeroCells_bytes (n : Nat) : (Builtin.zeroCells #[Value.int .u8 0] n) = (bvs (List.replicate n 0)).toArray := by
  apply Array.ext_getElem?
  intro j
  by_cases hj : j < n
  · simp [Builtin.zeroCells, bvs, bv, hj, Nat.mod_one]
  · simp [Builtin.zeroCells, bvs, bv, hj]

theorem run_grow0 {P : Program} (w : World) (t tx ty e : TypeId) (i : TypeInfo) (ht : P.underlying t = some (.slice e)) (hx : P.underlying tx = some (.int .i64)) (hi : P.info? e = some i) (hz : i.zero = some (.int .u8 0)) (hsz : i.size = 1) (hby : i.bytes = 1)
    (base : Option Addr) (sLen sCap n : Nat) (olds : List Value) (hold : (Builtin.firstCells 1 sLen (.slice base sLen sCap)).run P w.drew = .ok olds.toArray w.drew) (h0 : 0 < n)
    (hg : sCap < sLen + n) (hb : sLen + n ≤ 1000000) (hfit : Builtin.nextslicecap (sLen + n) sCap ≤ 281474976710656) :
    (Builtin.append_ #[t, tx] ty #[.slice base sLen sCap, .int .i64 (n : Int)]).run P w =
      .ok (.slice (some ⟨w.heap.size, 0, none⟩) (sLen + n) (grownCap w (sLen + n) sCap e))
        (w.drew.alloc (.cells ((olds ++ bvs (List.replicate n 0)).toArray ++ Builtin.zeroCells #[Value.int .u8 0] (grownCap w (sLen + n) sCap e - (sLen + n))) e)) := by
  have hn : ¬ (sLen + n ≤ sCap) := by omega
  have h63' : ¬ (9223372036854775807 < ((sLen : Int) + (n : Int))) := by omega
  have h48' : ¬ (281474976710656 < Builtin.nextslicecap (sLen + n) sCap) := by omega
  have hw : IntKind.i64.wrap (n : Int) = (n : Int) := IntWalk.i64_in _ (by omega)
  have hneg : ¬ ((n : Int) < 0) := by omega
  have h48 : ¬ (281474976710656 < (n : Int)) := by omega
  have hn0 : ¬ (n = 0) := by omega
  simp [Builtin.append_, run_underlying ht, run_underlying hx, sizeOf, typeInfo, zeroValue, hi, hz, hsz, hby, hw, hneg, h48, hn, hn0, h63', h48', Question.forced, hold, newRow, grownCap, asInt, asIntOf, Value.cells, zeroCells_bytes]

theorem run_none0 {P : Program} (w : World) (t tx ty e : TypeId) (i : TypeInfo) (ht : P.underlying t = some (.slice e)) (hx : P.underlying tx = some (.int .i64)) (hi : P.info? e = some i) (hsz : i.size = 1) (hby : i.bytes = 1)
    (base : Option Addr) (n cap : Nat) (hc : n ≤ cap) :
    (Builtin.append_ #[t, tx] ty #[.slice base n cap, .int .i64 0]).run P w = .ok (.slice base n cap) w := by
  have hw : IntKind.i64.wrap 0 = 0 := rfl
  cases base <;> simp [Builtin.append_, run_underlying ht, run_underlying hx, sizeOf, typeInfo, hi, hsz, hby, hw, hc, asInt, asIntOf, storeCells]

theorem run_fit0 {P : Program} (w : World) (t tx ty e : TypeId) (i : TypeInfo) (ht : P.underlying t = some (.slice e)) (hx : P.underlying tx = some (.int .i64)) (hi : P.info? e = some i) (hz : i.zero = some (.int .u8 0)) (hsz : i.size = 1) (hby : i.bytes = 1)
    (g n cap m : Nat) (h0 : 0 < m) (hroom : n + m ≤ cap) (hb : n + m ≤ 1000000) (w' : World) (hst : (storeCells ⟨g, n, none⟩ (bvs (List.replicate m 0))).run P w = .ok () w') :
    (Builtin.append_ #[t, tx] ty #[.slice (some ⟨g, 0, none⟩) n cap, .int .i64 (m : Int)]).run P w = .ok (.slice (some ⟨g, 0, none⟩) (n + m) cap) w' := by
  have hw : IntKind.i64.wrap (m : Int) = (m : Int) := IntWalk.i64_in _ (by omega)
  have hneg : ¬ ((m : Int) < 0) := by omega
  have h48 : ¬ (281474976710656 < (m : Int)) := by omega
  have hn0 : ¬ (m = 0) := by omega
  simp [Builtin.append_, run_underlying ht, run_underlying hx, sizeOf, typeInfo, zeroValue, hi, hz, hsz, hby, hw, hneg, h48, hroom, hn0, asInt, asIntOf, Value.cells, zeroCells_bytes, Addr.add_lit, hst]

theorem run_app0 {P : Program} (w : World) (base : Nat) (t tx ty e : TypeId) (ht : P.underlying t = some (.slice e)) (hx : P.underlying tx = some (.int .i64)) (hinfo : (P.info? e).map (fun i => (i.zero, i.size, i.bytes)) = some (some (.int .u8 0), 1, 1))
    (v : Value) (n : Nat) (l : List UInt8) (hown : w.ownsRow base e 1 v n (bvs l)) (m : Nat) (hb : n + m ≤ 100000) (hbase : base ≤ w.heap.size) :
    ∃ v' w', (Builtin.append_ #[t, tx] ty #[v, .int .i64 (m : Int)]).run P w = .ok v' w' ∧ w'.ownsRow base e 1 v' (n + m) (bvs (l ++ List.replicate m 0)) ∧ w.grownBy w' v.ownBlock := by
  obtain ⟨i, hi, hz, hsz, hby⟩ := info_parts hinfo
  rw [bvs_append]
  have hl : (bvs (List.replicate m 0)).length = m := by rw [bvs_length, List.length_replicate]
  have hlen : (bvs l ++ bvs (List.replicate m 0)).length = (n + m) * 1 := by rw [List.length_append, hown.1, hl, Nat.mul_one, Nat.mul_one]
  have hnl : (bvs l).length = n := by have := hown.1; omega
  have grown : ∀ (old : Nat), old < n + m → ∀ (row : Option Nat),
      (w.drew.alloc (.cells ((bvs l ++ bvs (List.replicate m 0)).toArray ++ Builtin.zeroCells #[Value.int .u8 0] (grownCap w (n + m) old e - (n + m))) e)).ownsRow base e 1
        (.slice (some ⟨w.heap.size, 0, none⟩) (n + m) (grownCap w (n + m) old e)) (n + m) (bvs l ++ bvs (List.replicate m 0)) ∧
      w.grownBy (w.drew.alloc (.cells ((bvs l ++ bvs (List.replicate m 0)).toArray ++ Builtin.zeroCells #[Value.int .u8 0] (grownCap w (n + m) old e - (n + m))) e)) row := by
    intro old ho row
    have hge := grownCap_ge w (n + m) old e
    have hcm : grownCap w (n + m) old e ≤ maxLen := grownCap_le_maxLen w (n + m) old e (by unfold maxLen; omega)
    refine ⟨⟨hlen, .inr ⟨w.heap.size, _, _, rfl, hbase, heap_alloc_new w.drew _, hge, hcm, ?_, ?_⟩⟩, ⟨rfl, rfl, rfl, by simp, fun k hk _ => Go.heap_alloc_old w.drew _ hk⟩⟩
    · rw [Array.size_append, List.size_toArray, hlen, size_zeroCells]
      simp
      omega
    · simp only [Array.toList_append]
      rw [← hlen]
      exact List.take_left
  by_cases hm : m = 0
  · subst hm
    obtain ⟨a, cap, rfl, hc, _, _⟩ := owns_slice hown
    refine ⟨_, w, run_none0 w t tx ty e i ht hx hi hsz hby a n cap hc, ?_, World.grownBy.refl _ _⟩
    simpa [bvs] using hown
  · rcases hown.2 with ⟨rfl, rfl⟩ | ⟨g, cap, cur, rfl, hbg, hg, hnc, hcm, hcs, htake⟩
    · have hx0 : l = [] := List.eq_nil_of_length_eq_zero (by rw [bvs_length] at hnl; exact hnl)
      subst hx0
      have hr := run_grow0 w t tx ty e i ht hx hi hz hsz hby none 0 0 m [] (run_firstCells_none w.drew 1 0 0 0) (by omega) (by omega) (by omega) (by have h := growslice_fits (need := 0 + m) (old := 0) (bytes := 1) (by omega) (by omega); rwa [Nat.mul_one] at h)
      have hgr := grown 0 (by omega) (Value.ownBlock (.slice none 0 0))
      exact ⟨_, _, hr, hgr.1, hgr.2⟩
    · by_cases hroom : n + m ≤ cap
      · have hfit : n * 1 + (bvs (List.replicate m 0)).length ≤ cur.size := by rw [hl, hcs]; omega
        have hst := run_storeCells_at P g (n * 1) e (bvs (List.replicate m 0)) 0 cur w hg (by simpa using hfit) (bvs_oneCell _)
        simp only [Nat.add_zero, Nat.mul_one] at hst
        refine ⟨_, _, run_fit0 w t tx ty e i ht hx hi hz hsz hby g n cap m (by omega) hroom (by omega) _ hst, ⟨hlen, .inr ⟨g, cap, _, rfl, hbg, setRow_heap w g cur _ e _ hg, hroom, hcm, ?_, ?_⟩⟩, ⟨rfl, rfl, rfl, by simp, fun k _ hk => setRow_other w g k _ (fun e => hk (by simp [Value.ownBlock, e]))⟩⟩
        · simp only [List.size_toArray, List.length_append, List.length_take, List.length_drop, Array.length_toList]
          omega
        · rw [Nat.mul_one] at htake
          rw [htake, ← hlen]
          exact List.take_left
      · have holds : ∀ j u, (bvs l)[j]? = some u → w.cell? ((⟨g, 0, none⟩ : Addr).add j) = some u := hown.cells (g := g) rfl
        have hr := run_grow0 w t tx ty e i ht hx hi hz hsz hby (some ⟨g, 0, none⟩) n cap m (bvs l) (run_firstCells_some w.drew 1 n ⟨g, 0, none⟩ n cap (bvs l) hown.1 (by simpa using holds)) (by omega) (by omega) (by omega) (by have h := growslice_fits (need := n + m) (old := cap) (bytes := 1) (by omega) (by omega); rwa [Nat.mul_one] at h)
        have hgr := grown cap (by omega) (Value.ownBlock (.slice (some ⟨g, 0, none⟩) n cap))
        exact ⟨_, _, hr, hgr.1, hgr.2⟩

/-- 'append(x, make([]byte, m)...)' onto bytes of the call's own. -/
theorem wpList_app0 {w : World} {ops : Array Oper} {rest : List Oper} {o : Oper} {a : Act} {Q : Exit → Act → World → Prop} (hgd : o.guard = none) (s x : Operand)
    (ho : o.op = .call { callee := .builtin .append, args := #[s, x], argTypes := #[51, 3] })
    (base : Nat) (v : Value) (n : Nat) (l : List UInt8) (hsv : a.eval s = v) (hown : w.ownsRow base 5 1 v n (bvs l)) (m : Nat) (hxv : a.eval x = .int .i64 (m : Int)) (hb : n + m ≤ 100000) (hbase : base ≤ w.heap.size)
    (h : ∀ a' c' w', n + m ≤ c' → RdB w' a' (l ++ List.replicate m 0) → w.grownBy w' v.ownBlock → wpList Try.prog ops Q rest (a.put o.dst (.slice a' (n + m) c')) w') :
    wpList Try.prog ops Q (o :: rest) a w := by
  obtain ⟨v', w', hr, h2, h3⟩ := run_app0 (P := Try.prog) w base 51 3 o.type 5 Try.underlying51 Try.underlying3 u8Info v n l hown m hb hbase
  refine wpList_plain hgd fun K hK => ?_
  unfold Oper.wp execOp
  simp only [ho, resolve, invoke, builtin, Sem.run_bind, Sem.run_pure, Result.andThen_ok, List.map_toArray, List.map_cons, List.map_nil, hsv, hxv, hr]
  obtain ⟨a', c', rfl, hc, _, _⟩ := owns_slice h2
  exact hK _ _ (h a' c' w' hc (rdc_of_owns h2) h3)

end Go.Proofs.Ythgaghpakioglaa
