/- The reference's chains, as they lie in memory: New, All, Count, Head. -/
import Derived.Test.YtdpfemhfmofmlaaDoorRefV21
namespace Go.Proofs.YtdpfemhfmofmlaaDoor
set_option linter.unusedSimpArgs false
set_option linter.unusedVariables false
open Go.RowKit
set_option maxRecDepth 10000
--@PUT2

/-- A tenant's chain of the reference. -/
structure RCh where
  t : ByteArray
  v : Value
  l : List Ent
def RCh.cells (x : RCh) : List Value := [.string x.t, x.v]
theorem RCh.cells_length (x : RCh) : x.cells.length = 2 := rfl
/-- What a tenant's rows are. -/
def rowsOf (cs : List RCh) (s : ByteArray) : List Ent := ((cs.find? (fun x => decide (x.t = s))).map (·.l)).getD []

structure RLogAt (w : World) (S : Nat → Prop) (g cnt : Nat) (cs : List RCh) : Prop where
  out : ∃ v : Value, w.heap[g]? = some (.cells #[v] 127 (0, 0)) ∧ w.ownsRow 0 129 2 v cs.length (cs.flatMap RCh.cells) ∧ ∀ k, v.ownBlock = some k → S k
  chains : ∀ x ∈ cs, w.ownsRow 0 73 39 x.v x.l.length (x.l.flatMap Ent.cells) ∧ ∀ k, x.v.ownBlock = some k → S k
  apart : ∀ (i j : Nat) (hi : i < cs.length) (hj : j < cs.length) k, cs[i].v.ownBlock = some k → cs[j].v.ownBlock = some k → i = j
  foot : S g
  low : ∀ k, S k → k < w.heap.size
  rows : ∀ x ∈ cs, ∀ y ∈ x.l, y.Fit
  many : cs.length ≤ cnt
  len : ∀ x ∈ cs, x.l.length ≤ cnt

theorem RLogAt.frm {w w' : World} {S T : Nat → Prop} {g cnt : Nat} {cs : List RCh} (h : RLogAt w S g cnt cs) (hF : Frm w.heap.size T w w') (hd : ∀ k, S k → ¬ T k) : RLogAt w' S g cnt cs := by
  obtain ⟨v, h1, h2, h3⟩ := h.out
  have hb : ∀ k, S k → w'.heap[k]? = w.heap[k]? := fun k hk => hF.block k (h.low k hk) (hd k hk)
  exact ⟨⟨v, (hb g h.foot).trans h1, owns_block h2 (fun k hk => hb k (h3 k hk)), h3⟩, fun x hx => ⟨owns_block (h.chains x hx).1 (fun k hk => hb k ((h.chains x hx).2 k hk)), (h.chains x hx).2⟩, h.apart, h.foot, fun k hk => Nat.lt_of_lt_of_le (h.low k hk) hF.size, h.rows, h.many, h.len⟩
theorem RLogAt.below {w w' : World} {S : Nat → Prop} {g cnt : Nat} {cs : List RCh} (h : RLogAt w S g cnt cs) (hB : Below w.heap.size w w') : RLogAt w' S g cnt cs :=
  h.frm (T := fun _ => False) (Frm.ofBelow hB) (fun _ _ => id)
theorem RLogAt.mono {w : World} {S S' : Nat → Prop} {g cnt cnt' : Nat} {cs : List RCh} (h : RLogAt w S g cnt cs) (hS : ∀ k, S k → S' k) (hl : ∀ k, S' k → k < w.heap.size) (hc : cnt ≤ cnt') : RLogAt w S' g cnt' cs := by
  obtain ⟨v, h1, h2, h3⟩ := h.out
  exact ⟨⟨v, h1, h2, fun k hk => hS k (h3 k hk)⟩, fun x hx => ⟨(h.chains x hx).1, fun k hk => hS k ((h.chains x hx).2 k hk)⟩, h.apart, hS g h.foot, hl, h.rows, Nat.le_trans h.many hc, fun x hx => Nat.le_trans (h.len x hx) hc⟩

/-- What chain k is, in memory. -/
theorem RLogAt.at_ {w : World} {S : Nat → Prop} {g cnt : Nat} {cs : List RCh} (h : RLogAt w S g cnt cs) : ∃ (a : Option Addr) (c : Nat), w.heap[g]? = some (.cells #[.slice a cs.length c] 127 (0, 0)) ∧ cs.length ≤ c ∧ c ≤ maxLen ∧ (∀ k, (Value.slice a cs.length c).ownBlock = some k → S k) ∧ w.ownsRow 0 129 2 (.slice a cs.length c) cs.length (cs.flatMap RCh.cells) ∧
    ∀ (k : Nat) (hk : k < cs.length), ∃ b, a = some ⟨b, 0, none⟩ ∧ w.cell? ⟨b, k * 2, none⟩ = some (.string cs[k].t) ∧ w.cell? ⟨b, k * 2 + 1, none⟩ = some cs[k].v := by
  obtain ⟨v, h1, h2, h3⟩ := h.out
  obtain ⟨a, c, rfl, hc, hm, _⟩ := owns_slice h2
  refine ⟨a, c, h1, hc, hm, h3, h2, fun k hk => ?_⟩
  have hl := flat_length RCh.cells 2 RCh.cells_length cs
  rcases h2.2 with ⟨e, e2⟩ | ⟨b, cap, cur, e, _, hh, _, _, _, ht⟩
  · omega
  · cases e
    have hr := rdc_of_owns h2
    have c0 := hr.cell (k * 2) (by rw [hl]; omega)
    have c1 := hr.cell (k * 2 + 1) (by rw [hl]; omega)
    have g0 := flat_get RCh.cells 2 (by omega) RCh.cells_length cs (k * 2)
    have g1 := flat_get RCh.cells 2 (by omega) RCh.cells_length cs (k * 2 + 1)
    rw [List.getElem?_eq_getElem (by rw [hl]; omega), show k * 2 / 2 = k by omega, show k * 2 % 2 = 0 by omega, List.getElem?_eq_getElem hk] at g0
    rw [List.getElem?_eq_getElem (by rw [hl]; omega), show (k * 2 + 1) / 2 = k by omega, show (k * 2 + 1) % 2 = 1 by omega, List.getElem?_eq_getElem hk] at g1
    rw [Nat.zero_add] at c0 c1
    exact ⟨b, rfl, by rw [c0, g0]; rfl, by rw [c1, g1]; rfl⟩

theorem rowsOf_hit (cs : List RCh) (s : ByteArray) (k : Nat) (hk : k < cs.length) (h : cs[k].t = s) (hn : ∀ j (hj : j < k), cs[j].t ≠ s) : rowsOf cs s = cs[k].l := by
  unfold rowsOf
  have e : cs.find? (fun x => decide (x.t = s)) = some cs[k] := by
    rw [List.find?_eq_some_iff_getElem]
    exact ⟨by simp [h], k, hk, rfl, fun j hj => by simpa using hn j hj⟩
  rw [e]; rfl
theorem rowsOf_miss (cs : List RCh) (s : ByteArray) (hn : ∀ j (hj : j < cs.length), cs[j].t ≠ s) : rowsOf cs s = [] := by
  unfold rowsOf
  have e : cs.find? (fun x => decide (x.t = s)) = none := by
    rw [List.find?_eq_none]
    intro x hx
    obtain ⟨j, hj, rfl⟩ := List.mem_iff_getElem.1 hx
    simpa using hn j hj
  rw [e]; rfl
theorem rowsOf_mem {cs : List RCh} {s : ByteArray} {y : Ent} (h : y ∈ rowsOf cs s) : ∃ x ∈ cs, y ∈ x.l := by
  unfold rowsOf at h
  cases e : cs.find? (fun x => decide (x.t = s)) with
  | none => rw [e] at h; cases h
  | some x => rw [e] at h; exact ⟨x, List.mem_of_find?_eq_some e, h⟩

set_option maxHeartbeats 400000 in
theorem refNew21 (w : World) : Calls Tryd.prog 59 #[] w fun e w' => ∃ g, e = .returned (.pointer (some ⟨g, 0, none⟩)) ∧ RLogAt w' (fun k => w.heap.size ≤ k ∧ k < w'.heap.size) g 0 [] ∧ Below w.heap.size w w' := by
  go_enter Tryd.func59, Tryd.ntmps59
  (repeat' ((fail_if_success at_builtin); first | go_values | go_skip | go_guarded | go_step | go_upon))
  go_ret
  refine ⟨w.heap.size, rfl, ⟨⟨.slice none 0 0, heap_alloc_new w _, World.ownsRow_nil _ _ _ _, fun k e => (by cases e)⟩, fun x hx => (by cases hx), fun i j hi => (by simp at hi), ⟨Nat.le_refl _, by simp⟩, fun k hk => hk.2, fun x hx => (by cases hx), Nat.le_refl _, fun x hx => (by cases hx)⟩, (Below.refl _ _).alloc (Nat.le_refl _) _⟩

set_option maxHeartbeats 1000000 in
theorem refAll21 (S : Nat → Prop) (g cnt : Nat) (cs : List RCh) (s : ByteArray) (w : World) (h : RLogAt w S g cnt cs) (hc : cnt ≤ 100000) :
    Calls Tryd.prog 64 #[.pointer (some ⟨g, 0, none⟩), .string s] w fun e w' => ∃ a c, e = .returned (.slice a (rowsOf cs s).length c) ∧ (rowsOf cs s).length ≤ c ∧ RdC w a ((rowsOf cs s).flatMap Ent.cells) ∧ w = w' := by
  obtain ⟨a, c, hg, hc1, hc2, hS, hO, hat⟩ := h.at_
  have c0 : w.cell? ⟨g, 0, none⟩ = some (.slice a cs.length c) := cell_of_row w g 0 _ _ _ hg
  have hm := h.many
  have HCH := Lib.hid (fun x hx => (h.chains x hx).1)
  have HAT := Lib.hid hat
  clear h hg hS hO hat
  go_enter Tryd.func64, Tryd.ntmps64
  (repeat' ((fail_if_success at_builtin); first | go_values | go_skip | go_guarded | go_step | go_upon))
  go_loopw [5] (fun i wr => ∃ k : Nat, k ≤ cs.length ∧ i = .int .i64 k ∧ wr = w ∧ ∀ j (hj : j < cs.length), j < k → cs[j].t ≠ s) (fun i _ => cs.length - (intOf i).toNat)
  case atStart => exact ⟨0, by omega, rfl, rfl, fun j hj h => by omega⟩
  case round =>
    obtain ⟨k, hk, rfl, rfl, hno⟩ := hrel
    have HNO := Lib.hid hno; clear hno
    by_cases hlt : k < cs.length
    · obtain ⟨b, hba, q0, q1⟩ := HAT.out k hlt
      have hch := HCH.out cs[k] (List.getElem_mem hlt)
      have HHIT := Lib.hid (rowsOf_hit cs s k hlt)
      have HNX := Lib.hid (show cs[k].t ≠ s → ∀ j (hj : j < cs.length), j < k + 1 → cs[j].t ≠ s from fun hne j hj h2 => by
        by_cases e : j = k
        · subst e; exact hne
        · exact HNO.out j hj (by omega))
      obtain ⟨x, hxe⟩ : ∃ x, cs[k] = x := ⟨_, rfl⟩
      rw [hxe] at q0 q1 hch HHIT HNX
      clear hxe
      obtain ⟨t, v, l⟩ := x
      dsimp only at q0 q1
      obtain ⟨ra, rc, hve, hrc, _, _⟩ := owns_slice hch
      dsimp only at hve hrc hch
      subst hve
      subst hba
      have bk : (0 : Int) ≤ (k : Int) ∧ (k : Int) < (cs.length : Int) := by omega
      have HRD := Lib.hid (rdc_of_owns hch)
      clear hch
      by_cases hts : t = s
      · have t1 : (t.toList == s.toList) = true := by rw [hts]; simp
        have hfin := HHIT.out hts (fun j hj => HNO.out j (by omega) hj)
        dsimp only at hfin
        have HFIN := Lib.hid hfin
        clear hts hfin
        (repeat' ((fail_if_success at_builtin); first | go_values | go_skip | go_guarded | go_step | go_upon))
        go_ret
        rw [HFIN.out]
        exact ⟨ra, rc, rfl, hrc, HRD.out, rfl⟩
      · have t1 : (t.toList == s.toList) = false := by
          rw [ByteArray.toList_eq, ByteArray.toList_eq]
          simp only [beq_eq_false_iff_ne, ne_eq]
          exact fun h2 => hts (by cases t; cases s; simp at h2; simp [h2])
        have HTS := Lib.hid hts; clear hts
        (repeat' ((fail_if_success at_builtin); first | go_values | go_skip | go_guarded | go_step | go_upon))
        go_roundw
        case rel => exact ⟨k + 1, by omega, by go_num, by trivial, HNX.out HTS.out⟩
        case measure => simp [intOf]; omega
    · have hfin := rowsOf_miss cs s (fun j hj => HNO.out j hj (by omega))
      have HFIN := Lib.hid hfin
      clear hfin
      (repeat' ((fail_if_success at_builtin); first | go_values | go_skip | go_guarded | go_step | go_upon))
      go_ret
      refine ⟨none, 0, ?_, by rw [HFIN.out]; exact Nat.le_refl _, by rw [HFIN.out]; exact RdC.nil _ _, rfl⟩
      rw [HFIN.out]
      rfl

set_option maxHeartbeats 400000 in
theorem refCount21 (S : Nat → Prop) (g cnt : Nat) (cs : List RCh) (s : ByteArray) (w : World) (h : RLogAt w S g cnt cs) (hc : cnt ≤ 100000) :
    Calls Tryd.prog 75 #[.pointer (some ⟨g, 0, none⟩), .string s] w fun e w' => e = .returned (.int .i64 ((rowsOf cs s).length : Int)) ∧ w = w' := by
  have HL := Lib.hid h; clear h
  obtain ⟨n, hn⟩ : ∃ n, (rowsOf cs s).length = n := ⟨_, rfl⟩
  have HN := Lib.hid hn; clear hn
  rw [HN.out]
  go_enter Tryd.func75, Tryd.ntmps75
  (repeat' ((fail_if_success at_builtin); first | go_values | go_skip | go_guarded | go_step | go_upon))
  refine (refAll21 S g cnt cs s w HL.out hc).mono ?_
  rintro _ w1 ⟨a, c, rfl, _, _, rfl⟩
  dsimp only
  rw [HN.out]
  (repeat' ((fail_if_success at_builtin); first | go_values | go_skip | go_guarded | go_step | go_upon))
  go_ret
  exact ⟨rfl, rfl⟩

set_option maxHeartbeats 1000000 in
theorem refHead21 (S : Nat → Prop) (g cnt : Nat) (cs : List RCh) (s : ByteArray) (H : List UInt8) (w : World) (h : RLogAt w S g cnt cs) (hc : cnt ≤ 100000) (hH : headOf (rowsOf cs s) = H) :
    Calls Tryd.prog 66 #[.pointer (some ⟨g, 0, none⟩), .string s] w fun e w' => e = .returned (.agg (bvs H).toArray) ∧ Below w.heap.size w w' := by
  obtain ⟨iS, zS, hiS, hzS, hcS⟩ := fresh_parts zeroSum
  have HIS := Lib.hid hiS; clear hiS
  have HZS := Lib.hid hzS; clear hzS
  have HCS := Lib.hid hcS; clear hcS
  have hfit : ∀ y ∈ rowsOf cs s, y.Fit := fun y hy => by obtain ⟨x, hx, h2⟩ := rowsOf_mem hy; exact h.rows x hx y h2
  have hlen : (rowsOf cs s).length ≤ cnt := by
    unfold rowsOf
    cases e : cs.find? (fun x => decide (x.t = s)) with
    | none => simp
    | some x => exact h.len x (List.mem_of_find?_eq_some e)
  have hHl : (bvs H).length = 32 := by rw [bvs_length, ← hH]; exact headOf_length _ (fun y hy => (hfit y hy).ok)
  have HIH := Lib.hid (show (Tryd.prog.info? 26).map (·.size) = some (bvs H).length by rw [hHl]; exact sizeSum)
  have HFH := Lib.hid (show 0 + (bvs H).length ≤ (List.replicate 32 (Value.int .u8 0)).toArray.size by rw [hHl]; simp)
  have HHO := Lib.hid (bvs_oneCell H)
  have HHL := Lib.hid hHl; clear hHl
  have HL := Lib.hid h; clear h
  have hu26 : Tryd.prog.underlying 26 = some _ := Tryd.underlying26
  have HFIT := Lib.hid hfit; clear hfit
  obtain ⟨xs, hxs⟩ : ∃ xs, rowsOf cs s = xs := ⟨_, rfl⟩
  rw [hxs] at hH HFIT hlen
  have HXS := Lib.hid hxs; clear hxs
  have HH := Lib.hid hH; clear hH
  go_enter Tryd.func66, Tryd.ntmps66
  (repeat' ((fail_if_success at_builtin); first | (((with_reducible refine wpList_alloc_fresh (w := w) rfl 26 rfl _ iS zS HIS.out HZS.out HCS.out ?_); intro w1 hg1 hB1 hs1; have HG1 := Lib.hid hg1; clear hg1; have HS1 := Lib.hid hs1; clear hs1)) | go_values | go_skip | go_guarded | go_step | go_upon))
  refine (refAll21 S g cnt cs s w1 (HL.out.below hB1) hc).mono ?_
  rintro _ w2 ⟨a, c, rfl, hrc, hrd, rfl⟩
  dsimp only
  rw [HXS.out] at hrc hrd ⊢
  have HRD := Lib.hid hrd; clear hrd
  by_cases h0 : xs.length = 0
  · obtain rfl : xs = [] := List.eq_nil_of_length_eq_zero h0
    have hHz : bvs H = List.replicate 32 (Value.int .u8 0) := by rw [← HH.out, headOf_nil]; rfl
    have HFZ := Lib.hid (show 0 + (List.replicate 32 (Value.int .u8 0)).length ≤ (List.replicate 32 (Value.int .u8 0)).toArray.size by simp)
    have HIZ := Lib.hid (show (Tryd.prog.info? 26).map (·.size) = some (List.replicate 32 (Value.int .u8 0)).length by rw [List.length_replicate]; exact sizeSum)
    have HOZ := Lib.hid (show ∀ v ∈ List.replicate 32 (Value.int .u8 0), v.oneCell' = true from fun v hv => by rw [List.eq_of_mem_replicate hv]; rfl)
    have HHZ := Lib.hid hHz
    clear hHz h0
    (repeat' ((fail_if_success at_builtin); first | (((with_reducible refine wpList_store_blk rfl 26 _ _ rfl w.heap.size 0 (List.replicate 32 (Value.int .u8 0)) rfl rfl _ _ HG1.out HFZ.out HIZ.out HOZ.out ?_); intro w3 hg3 hG3; rw [splice_whole _ _ (by simp), ← HHZ.out] at hg3; have HG3 := Lib.hid hg3; clear hg3)) | go_values | go_skip | go_guarded | go_step | go_upon))
    have hR := run_loadVar_mid (P := Tryd.prog) w3 w.heap.size 0 26 (bvs H) _ (rangeAt_whole HG3.out) Tryd.underlying26 rfl HIH.out
    have HR2 := Lib.hid hR; clear hR
    exact bodyPost_ret (results_cell rfl _ _ _ ⟨w.heap.size, 0, none⟩ rfl _ HR2.out) rfl ⟨rfl, hB1.grown hG3 (by have := HS1.out; omega) (fun k e => by cases e; exact Nat.le_refl _)⟩
  · obtain ⟨b, off, rfl, hr⟩ := ents_at HRD.out (fun x hx => (HFIT.out x hx).ok.sum) (xs.length - 1) (by omega)
    have hs := ent_sum hr
    have hH2 : (xs[xs.length - 1]).sum = H := by rw [← headOf_last xs (by omega)]; exact HH.out
    rw [hH2] at hs
    have HRA := Lib.hid hs; clear hs hr hH2
    have t1 : ((xs.length : Int) == 0) = false := by rw [beq_eq_false_iff_ne]; omega
    (repeat' ((fail_if_success at_builtin); first | (first | (with_reducible refine wpList_load_mid rfl 26 _ rfl b (off + (xs.length - 1) * 39 + 7) rfl (bvs H) _ HRA.out Tryd.underlying26 rfl HIH.out ?_) | ((with_reducible refine wpList_store_blk rfl 26 _ _ rfl w.heap.size 0 (bvs H) rfl rfl _ _ HG1.out HFH.out HIH.out HHO.out ?_); intro w3 hg3 hG3; rw [splice_whole _ _ (by rw [HHL.out];simp)] at hg3; have HG3 := Lib.hid hg3; clear hg3)) | go_values | go_skip | go_guarded | go_step | go_upon))
    have hR := run_loadVar_mid (P := Tryd.prog) w3 w.heap.size 0 26 (bvs H) _ (rangeAt_whole HG3.out) Tryd.underlying26 rfl HIH.out
    have HR2 := Lib.hid hR; clear hR
    exact bodyPost_ret (results_cell rfl _ _ _ ⟨w.heap.size, 0, none⟩ rfl _ HR2.out) rfl ⟨rfl, hB1.grown hG3 (by have := HS1.out; omega) (fun k e => by cases e; exact Nat.le_refl _)⟩

end Go.Proofs.YtdpfemhfmofmlaaDoor
