/- What the kit's functions on rows of an audit answer. -/
import Derived.Test.YtdpfemhfmofmlaaDoorRAddW
namespace Go.Proofs.YtdpfemhfmofmlaaDoor
set_option linter.unusedSimpArgs false
set_option linter.unusedVariables false
open Go.RowKit
set_option maxRecDepth 10000
--@PUT2

def markE (i : Int) : Ent := { zEnt with no := -9 - i }
theorem markE_sum (i : Int) : (markE i).sum.length = 32 := rfl
def marksE : List Ent := [markE 0, markE 1, markE 2, markE 3, markE 4]
theorem marksE_sum : ∀ x ∈ marksE, x.sum.length = 32 := by
  intro x hx
  simp [marksE] at hx
  rcases hx with rfl | rfl | rfl | rfl | rfl <;> rfl

set_option maxHeartbeats 1000000 in
theorem markEntries (i : Int) (w : World) (h0 : 0 ≤ i) (h : i ≤ 1000000000) :
    Calls Tryd.prog 100 #[.int .i64 i] w fun e w' => e = .returned (.agg (markE i).cells.toArray) ∧ Below w.heap.size w w' := by
  obtain ⟨iE, zE, hiE, hzE, hcE⟩ := fresh_parts zeroEnt
  have HIE := Lib.hid hiE; clear hiE
  have HZE := Lib.hid hzE; clear hzE
  have HCE := Lib.hid hcE; clear hcE
  have hbld : ∀ (w : World) (v : Int), (Instr.build 73 #[(0, .int .i64 v)]).run Tryd.prog w = .ok (.agg ({ zEnt with no := v } : Ent).cells.toArray) w := fun w v => by kernel_rfl
  have hl : (markE i).cells.length = 39 := Ent.cells_length (markE_sum i)
  have HI := Lib.hid (show (Tryd.prog.info? 73).map (·.size) = some (markE i).cells.length by rw [hl]; exact entSize)
  have HF := Lib.hid (show 0 + (markE i).cells.length ≤ zEnt.cells.toArray.size by rw [hl]; exact Nat.le_refl _)
  have HO := Lib.hid (markE i).cells_oneCell
  have HLL := Lib.hid hl; clear hl
  go_enter Tryd.func100, Tryd.ntmps100
  (repeat' ((fail_if_success at_builtin); first | (first | ((with_reducible refine wpList_alloc_fresh (w := w) rfl 73 rfl _ iE zE HIE.out HZE.out HCE.out ?_); intro w1 hg1 hB1 hs1; have HG1 := Lib.hid hg1; clear hg1; have HS1 := Lib.hid hs1; clear hs1) | ((refine wpList_store_blk rfl 73 _ _ rfl w.heap.size 0 (markE i).cells rfl rfl _ _ HG1.out HF.out HI.out HO.out ?_); intro w2 hg2 hG2; rw [splice_whole _ _ (by rw [HLL.out];rfl)] at hg2; have HG2 := Lib.hid hg2; clear hg2)) | go_values | go_skip | go_guarded | go_step | go_upon))
  have hR := run_loadVar_mid (P := Tryd.prog) w2 w.heap.size 0 73 (markE i).cells _ (rangeAt_whole HG2.out) Tryd.underlying73 rfl HI.out
  have HR2 := Lib.hid hR; clear hR
  exact bodyPost_ret (results_cell rfl _ _ _ ⟨w.heap.size, 0, none⟩ rfl _ HR2.out) rfl ⟨rfl, hB1.grown hG2 (by have := HS1.out; omega) (fun k e => by cases e; exact Nat.le_refl _)⟩


theorem ents_snoc (xs : List Ent) (k : Nat) (h : k < xs.length) : (xs.take k).flatMap Ent.cells ++ xs[k].cells = (xs.take (k + 1)).flatMap Ent.cells := by
  rw [List.take_succ_eq_append_getElem h, List.flatMap_append, List.flatMap_singleton]

structure CopE (w : World) (xs : List Ent) (o i : Value) (wr : World) : Prop where
  out : ∃ k : Nat, k ≤ xs.length ∧ i = .int .i64 k ∧ Below w.heap.size w wr ∧ wr.ownsRow w.heap.size 73 39 o k ((xs.take k).flatMap Ent.cells)

set_option maxHeartbeats 1000000 in
theorem copyEntries (a : Option Addr) (n c : Nat) (xs : List Ent) (w : World) (ha : RdC w a (xs.flatMap Ent.cells)) (hsum : ∀ x ∈ xs, x.sum.length = 32) (en : xs.length = n) (hn : n ≤ 1000000) :
    Calls Tryd.prog 63 #[.slice a n c] w (GotE w xs) := by
  subst en
  obtain ⟨iE, zE, hiE, hzE, hsE, hbE, hcE⟩ := entInfo_parts
  have HIE := Lib.hid hiE; clear hiE
  have HZE := Lib.hid hzE; clear hzE
  have HCE := Lib.hid hcE; clear hcE
  have HA := Lib.hid ha; clear ha
  have HSUM := Lib.hid hsum; clear hsum
  have hu73 : Tryd.prog.underlying 73 = some _ := Tryd.underlying73
  go_enter Tryd.func63, Tryd.ntmps63
  (repeat' ((fail_if_success at_builtin); first | go_values | go_skip | go_guarded | go_step | go_upon))
  go_loopw [3, 4] (fun o i wr => CopE w xs o i wr) (fun _ i _ => xs.length - (intOf i).toNat)
  case atStart => exact ⟨0, by omega, rfl, Below.refl _ _, World.ownsRow_nil _ _ _ _⟩
  case round =>
    obtain ⟨k, hk, rfl, hB, hO⟩ := hrel
    obtain ⟨oa, oc, rfl, hoc, _, _⟩ := owns_slice hO
    have HO := Lib.hid hO; clear hO
    by_cases hlt : k < xs.length
    · obtain ⟨b, off, hba, hra⟩ := ents_at (HA.out.below hB (Nat.le_refl _)) HSUM.out k hlt
      have hx := HSUM.out xs[k] (List.getElem_mem hlt)
      have HSN := Lib.hid (ents_snoc xs k hlt)
      obtain ⟨x, hxe⟩ : ∃ x, xs[k] = x := ⟨_, rfl⟩
      rw [hxe] at hra hx HSN
      clear hxe
      have HRA := Lib.hid hra; clear hra
      have HX := Lib.hid hx; clear hx
      have hiX : (Tryd.prog.info? 73).map (·.size) = some x.cells.length := by rw [Ent.cells_length HX.out]; exact entSize
      subst hba
      (repeat' ((fail_if_success at_builtin); first | (first | (with_reducible refine wpList_load_mid rfl 73 _ rfl b (off + k * 39) rfl x.cells _ HRA.out hu73 rfl hiX ?_) | ((with_reducible refine wpList_build_one rfl 68 73 _ rfl Tryd.underlying68 x.cells rfl iE zE HIE.out HZE.out (by rw [Ent.cells_length HX.out];exact hsE) (by rw [Ent.cells_length HX.out];omega) (by rw [Ent.cells_length HX.out];omega) ?_); intro w1 hg1 hB1 hs1; have HG1 := Lib.hid hg1; clear hg1)) | go_values | go_skip | go_guarded | go_step | go_upon))
      have hB01 : Below w.heap.size w w1 := hB.trans (hB1.mono hB.size)
      have HO1 := Lib.hid (owns_below HO.out hB1 (Nat.le_refl _))
      have HROW := Lib.hid (rd_rowC HG1.out)
      refine wpList_app _ rfl _ _ _ _ rfl w.heap.size 73 iE _ 39 104 Tryd.underlying68 HIE.out HZE.out hsE hbE (by rw [HCE.out]; rfl) _ k _ rfl HO1.out _ rfl 1 x.cells (src_of_rdc Tryd.underlying68 HROW.out (by rw [Ent.cells_length HX.out]) x.cells_oneCell) (by unfold maxLen; omega) (by omega) hB01.size ?_
      intro v1 w3 hO3 hg3
      have hB3 : Below w.heap.size w w3 := hB01.grown hg3 hB01.size (fun g e => (HO1.out.lt g e).1)
      rw [HSN.out] at hO3
      have HO3 := Lib.hid hO3; clear hO3 hg3
      (repeat' ((fail_if_success at_builtin); first | go_values | go_skip | go_guarded | go_step | go_upon))
      go_roundw
      case rel => exact ⟨k + 1, by omega, by go_num, hB3, HO3.out⟩
      case measure => simp [intOf]; omega
    · obtain rfl : k = xs.length := by omega
      (repeat' ((fail_if_success at_builtin); first | go_values | go_skip | go_guarded | go_step | go_upon))
      go_ret
      have hO2 := HO.out
      rw [List.take_length] at hO2
      exact gotE hB hO2

structure LenE (w : World) (xs : List Ent) (o i : Value) (wr : World) : Prop where
  out : ∃ k : Nat, k ≤ 5 ∧ i = .int .i64 k ∧ Below w.heap.size w wr ∧ wr.ownsRow w.heap.size 73 39 o (xs.length + k) ((xs ++ marksE.take k).flatMap Ent.cells)
theorem marksE_snoc (xs : List Ent) (k : Nat) (hk : k < 5) : (xs ++ marksE.take k).flatMap Ent.cells ++ (markE k).cells = (xs ++ marksE.take (k + 1)).flatMap Ent.cells := by
  have hm : marksE[k]? = some (markE k) := by
    have : k = 0 ∨ k = 1 ∨ k = 2 ∨ k = 3 ∨ k = 4 := by omega
    rcases this with rfl | rfl | rfl | rfl | rfl <;> rfl
  obtain ⟨hl, he⟩ := List.getElem?_eq_some_iff.1 hm
  rw [List.take_succ_eq_append_getElem hl, he]
  simp only [List.flatMap_append, List.flatMap_singleton, List.append_assoc]

set_option maxHeartbeats 1000000 in
theorem lentEntries (a : Option Addr) (n c : Nat) (xs : List Ent) (w : World) (ha : RdC w a (xs.flatMap Ent.cells)) (hsum : ∀ x ∈ xs, x.sum.length = 32) (en : xs.length = n) (hn : n ≤ 100000) :
    Calls Tryd.prog 67 #[.slice a n c] w (GotE w (xs ++ marksE)) := by
  obtain ⟨iE, zE, hiE, hzE, hsE, hbE, hcE⟩ := entInfo_parts
  have HIE := Lib.hid hiE; clear hiE
  have HZE := Lib.hid hzE; clear hzE
  have HCE := Lib.hid hcE; clear hcE
  have HA := Lib.hid ha; clear ha
  have HSUM := Lib.hid hsum; clear hsum
  subst en
  go_enter Tryd.func67, Tryd.ntmps67
  (repeat' ((fail_if_success at_builtin); first | go_values | go_skip | go_guarded | go_step | go_upon))
  refine (copyEntries a _ c xs w HA.out HSUM.out rfl (by omega)).mono ?_
  rintro _ w0 ⟨a0, c0, rfl, hc0, hm0, hr0, hB0, hO0⟩
  dsimp only
  have HO0 := Lib.hid hO0; clear hO0 hr0
  (repeat' ((fail_if_success at_builtin); first | go_values | go_skip | go_guarded | go_step | go_upon))
  go_loopw [3, 4] (fun o i wr => LenE w xs o i wr) (fun _ i _ => 5 - (intOf i).toNat)
  case atStart => exact ⟨0, by omega, rfl, hB0, by simpa using HO0.out⟩
  case round =>
    obtain ⟨k, hk, rfl, hB, hO⟩ := hrel
    have HO := Lib.hid hO; clear hO
    by_cases hlt : k < 5
    · have HSN := Lib.hid (marksE_snoc xs k hlt)
      have HX := Lib.hid (Ent.cells_length (markE_sum k))
      (repeat' ((fail_if_success at_builtin); first | go_values | go_skip | go_guarded | go_step | go_upon))
      refine (markEntries k wr (by omega) (by omega)).mono ?_
      rintro _ w1 ⟨rfl, hB1⟩
      dsimp only
      (repeat' ((fail_if_success at_builtin); first | (((with_reducible refine wpList_build_one rfl 68 73 _ rfl Tryd.underlying68 (markE k).cells rfl iE zE HIE.out HZE.out (by rw [HX.out];exact hsE) (by rw [HX.out];omega) (by rw [HX.out];omega) ?_); intro w2 hg2 hB2 hs2; have HG2 := Lib.hid hg2; clear hg2)) | go_values | go_skip | go_guarded | go_step | go_upon))
      have hB12 : Below wr.heap.size wr w2 := hB1.trans (hB2.mono hB1.size)
      have hB02 : Below w.heap.size w w2 := hB.trans (hB12.mono hB.size)
      have HO1 := Lib.hid (owns_below HO.out hB12 (Nat.le_refl _))
      have HROW := Lib.hid (rd_rowC HG2.out)
      refine wpList_app _ rfl _ _ _ _ rfl w.heap.size 73 iE _ 39 104 Tryd.underlying68 HIE.out HZE.out hsE hbE (by rw [HCE.out]; rfl) _ (xs.length + k) _ rfl HO1.out _ rfl 1 (markE k).cells (src_of_rdc Tryd.underlying68 HROW.out (by rw [HX.out]) (markE k).cells_oneCell) (by unfold maxLen; omega) (by omega) hB02.size ?_
      intro v1 w3 hO3 hg3
      have hB3 : Below w.heap.size w w3 := hB02.grown hg3 hB02.size (fun g e => (HO1.out.lt g e).1)
      rw [HSN.out] at hO3
      have HO3 := Lib.hid hO3; clear hO3 hg3
      (repeat' ((fail_if_success at_builtin); first | go_values | go_skip | go_guarded | go_step | go_upon))
      go_roundw
      case rel => exact ⟨k + 1, by omega, by go_num, hB3, HO3.out⟩
      case measure => simp [intOf]; omega
    · obtain rfl : k = 5 := by omega
      (repeat' ((fail_if_success at_builtin); first | go_values | go_skip | go_guarded | go_step | go_upon))
      go_ret
      refine gotE hB ?_
      rw [List.length_append]
      exact HO.out

theorem eqEnt (w : World) (x y : Ent) (hx : x.sum.length = 32) (hy : y.sum.length = 32) : (binOp .eql 73 (.agg x.cells.toArray) (.agg y.cells.toArray)).run Tryd.prog w = .ok (.bool (decide (x = y))) w := by
  rw [run_eql_struct, eqFieldsEnt w x y hx hy]; rfl

abbrev SamS (w2 : World) (b o b' o' : Nat) (x y : Ent) (w' : World) : Prop := (w'.rangeAt b o x.cells ∧ w'.rangeAt b' o' y.cells) ∧ Still w2 w'

set_option maxHeartbeats 1000000 in
theorem sameEntries (a b : Option Addr) (n1 n2 c d : Nat) (l m : List Ent) (w : World) (hl : RdC w a (l.flatMap Ent.cells)) (hm : RdC w b (m.flatMap Ent.cells)) (hs1 : ∀ x ∈ l, x.sum.length = 32) (hs2 : ∀ x ∈ m, x.sum.length = 32) (e1 : l.length = n1) (e2 : m.length = n2) (hn : n1 ≤ 1073741824) :
    Calls Tryd.prog 78 #[.slice a n1 c, .slice b n2 d] w fun e w' => e = .returned (.bool (decide (l = m))) ∧ Still w w' := by
  subst e1 e2
  have HS1 := Lib.hid hs1; clear hs1
  have HS2 := Lib.hid hs2; clear hs2
  have HA := Lib.hid hl; clear hl
  have HB := Lib.hid hm; clear hm
  have hu73 : Tryd.prog.underlying 73 = some _ := Tryd.underlying73
  by_cases hlen : l.length = m.length
  · have h0 : ((l.length : Int) != (m.length : Int)) = false := by simp [hlen]
    have HL := Lib.hid hlen; clear hlen
    go_enter Tryd.func78, Tryd.ntmps78
    (repeat' ((fail_if_success at_builtin); first | go_values | go_skip | go_guarded | go_step | go_upon))
    go_loopw [5] (fun i wr => ∃ k : Nat, k ≤ l.length ∧ i = .int .i64 k ∧ Still w wr ∧ l.take k = m.take k) (fun i _ => l.length - (intOf i).toNat)
    case atStart => exact ⟨0, Nat.zero_le _, rfl, still_drewN w 0, by simp⟩
    case round =>
      obtain ⟨k, hk, rfl, hst, he⟩ := hrel
      have HE := Lib.hid he; clear he
      by_cases hlt : k < l.length
      · have hltm : k < m.length := by have := HL.out; omega
        obtain ⟨b1, o1, hba, hra⟩ := ents_at (HA.out.still hst) HS1.out k hlt
        obtain ⟨b2, o2, hbb, hrb⟩ := ents_at (HB.out.still hst) HS2.out k hltm
        have hx := HS1.out l[k] (List.getElem_mem hlt)
        have hy := HS2.out m[k] (List.getElem_mem hltm)
        have HSN := Lib.hid (show l[k] = m[k] → l.take (k + 1) = m.take (k + 1) from fun e => by rw [List.take_succ_eq_append_getElem hlt, List.take_succ_eq_append_getElem hltm, HE.out, e])
        have HNE := Lib.hid (show l[k] ≠ m[k] → l ≠ m from fun e e2 => by subst e2; exact e rfl)
        obtain ⟨x, hxe⟩ : ∃ x, l[k] = x := ⟨_, rfl⟩
        obtain ⟨y, hye⟩ : ∃ y, m[k] = y := ⟨_, rfl⟩
        rw [hxe] at hra hx HSN HNE
        rw [hye] at hrb hy HSN HNE
        clear hxe hye
        have hiX : (Tryd.prog.info? 73).map (·.size) = some x.cells.length := by rw [Ent.cells_length hx]; exact entSize
        have hiY : (Tryd.prog.info? 73).map (·.size) = some y.cells.length := by rw [Ent.cells_length hy]; exact entSize
        obtain ⟨tb, htb⟩ : ∃ tb, decide (x = y) = tb := ⟨_, rfl⟩
        have heq := fun w => eqEnt w x y hx hy
        rw [htb] at heq
        have HTB := Lib.hid htb; clear htb hx hy
        have hS0 : SamS wr b1 (o1 + k * 39) b2 (o2 + k * 39) x y wr.drew := ⟨⟨hra, hrb⟩, still_drewN wr 1⟩
        have bk : (0 : Int) ≤ (k : Int) ∧ (k : Int) < (l.length : Int) ∧ (k : Int) < (m.length : Int) := by omega
        clear hra hrb
        subst hba
        subst hbb
        (repeat' ((fail_if_success at_builtin); first | go_values | go_skip | go_guarded | go_step | go_upon))
        refine wp_region_noPanic ?_
        refine wp_region_held_drew (S := SamS wr b1 (o1 + k * 39) b2 (o2 + k * 39) x y) (by kernel_rfl) ?_ (fun hHeld => ?_)
        · (exact hS0)
        refine wpAnyH_take (i := 0) (oi := _) (v := ?_) rfl (by kernel_rfl) (by kernel_rfl) (by kernel_rfl) (fun _ _ _ h => h) (Or.inl ⟨by rfl, ?_⟩) (by assumption) ?_
        rotate_left 1
        · (intro w hSw; (try dsimp only at hSw); go_simp; all_goals (with_reducible rfl))
        try simp only [Act.put, List.getElem_toArray, List.getElem_cons_zero, List.getElem_cons_succ, List.setIfInBounds_toArray, List.set_cons_zero, List.set_cons_succ]
        refine wpAnyH_take (i := 1) (oi := _) (v := ?_) rfl (by kernel_rfl) (by kernel_rfl) (by kernel_rfl) (fun _ _ _ h => h) (Or.inl ⟨by rfl, ?_⟩) (by assumption) ?_
        rotate_left 1
        · (intro w hSw; (try dsimp only at hSw); go_simp; all_goals (with_reducible rfl))
        try simp only [Act.put, List.getElem_toArray, List.getElem_cons_zero, List.getElem_cons_succ, List.setIfInBounds_toArray, List.set_cons_zero, List.set_cons_succ]
        refine wpAnyH_take (i := 2) (oi := _) (v := ?_) rfl (by kernel_rfl) (by kernel_rfl) (by kernel_rfl) (fun _ _ _ h => h) (Or.inl ⟨by rfl, ?_⟩) (by assumption) ?_
        rotate_left 1
        · (intro w hSw; (try dsimp only at hSw); go_simp; all_goals (with_reducible rfl))
        try simp only [Act.put, List.getElem_toArray, List.getElem_cons_zero, List.getElem_cons_succ, List.setIfInBounds_toArray, List.set_cons_zero, List.set_cons_succ]
        refine' wpAnyH_take (i := 3) (oi := _) (v := _) rfl (by kernel_rfl) (by kernel_rfl) (by kernel_rfl) (fun _ _ _ h => h) (yieldsIf_load_mid (by rfl) _ _ rfl _ _ rfl _ _ ?ls1 ?lu1 ?ld1 ?li1) (by assumption) ?lr1
        case ls1 => (intro w hSw; (try dsimp only at hSw); go_split_ands; assumption)
        case lu1 => assumption
        case ld1 => rfl
        case li1 => first | assumption | (simp only [*]; done)
        try simp only [Act.put, List.getElem_toArray, List.getElem_cons_zero, List.getElem_cons_succ, List.setIfInBounds_toArray, List.set_cons_zero, List.set_cons_succ]
        refine wpAnyH_take (i := 4) (oi := _) (v := ?_) rfl (by kernel_rfl) (by kernel_rfl) (by kernel_rfl) (fun _ _ _ h => h) (Or.inl ⟨by rfl, ?_⟩) (by assumption) ?_
        rotate_left 1
        · (intro w hSw; (try dsimp only at hSw); go_simp; all_goals (with_reducible rfl))
        try simp only [Act.put, List.getElem_toArray, List.getElem_cons_zero, List.getElem_cons_succ, List.setIfInBounds_toArray, List.set_cons_zero, List.set_cons_succ]
        refine wpAnyH_take (i := 5) (oi := _) (v := ?_) rfl (by kernel_rfl) (by kernel_rfl) (by kernel_rfl) (fun _ _ _ h => h) (Or.inl ⟨by rfl, ?_⟩) (by assumption) ?_
        rotate_left 1
        · (intro w hSw; (try dsimp only at hSw); go_simp; all_goals (with_reducible rfl))
        try simp only [Act.put, List.getElem_toArray, List.getElem_cons_zero, List.getElem_cons_succ, List.setIfInBounds_toArray, List.set_cons_zero, List.set_cons_succ]
        refine wpAnyH_take (i := 6) (oi := _) (v := ?_) rfl (by kernel_rfl) (by kernel_rfl) (by kernel_rfl) (fun _ _ _ h => h) (Or.inl ⟨by rfl, ?_⟩) (by assumption) ?_
        rotate_left 1
        · (intro w hSw; (try dsimp only at hSw); go_simp; all_goals (with_reducible rfl))
        try simp only [Act.put, List.getElem_toArray, List.getElem_cons_zero, List.getElem_cons_succ, List.setIfInBounds_toArray, List.set_cons_zero, List.set_cons_succ]
        refine' wpAnyH_take (i := 7) (oi := _) (v := _) rfl (by kernel_rfl) (by kernel_rfl) (by kernel_rfl) (fun _ _ _ h => h) (yieldsIf_load_mid (by rfl) _ _ rfl _ _ rfl _ _ ?ls2 ?lu2 ?ld2 ?li2) (by assumption) ?lr2
        case ls2 => (intro w hSw; (try dsimp only at hSw); go_split_ands; assumption)
        case lu2 => assumption
        case ld2 => rfl
        case li2 => first | assumption | (simp only [*]; done)
        try simp only [Act.put, List.getElem_toArray, List.getElem_cons_zero, List.getElem_cons_succ, List.setIfInBounds_toArray, List.set_cons_zero, List.set_cons_succ]
        refine wpAnyH_take (i := 8) (oi := _) (v := ?_) rfl (by kernel_rfl) (by kernel_rfl) (by kernel_rfl) (fun _ _ _ h => h) (Or.inl ⟨by rfl, ?_⟩) (by assumption) ?_
        rotate_left 1
        · (intro w hSw; (try dsimp only at hSw); go_simp; all_goals (with_reducible rfl))
        try simp only [Act.put, List.getElem_toArray, List.getElem_cons_zero, List.getElem_cons_succ, List.setIfInBounds_toArray, List.set_cons_zero, List.set_cons_succ]
        refine wpAnyH_take (i := 9) (oi := _) (v := ?_) rfl (by kernel_rfl) (by kernel_rfl) (by kernel_rfl) (fun _ _ _ h => h) (Or.inl ⟨by rfl, ?_⟩) (by assumption) ?_
        rotate_left 1
        · (intro w hSw; (try dsimp only at hSw); go_simp; all_goals (with_reducible rfl))
        try simp only [Act.put, List.getElem_toArray, List.getElem_cons_zero, List.getElem_cons_succ, List.setIfInBounds_toArray, List.set_cons_zero, List.set_cons_succ]
        refine wpAnyH_done (by kernel_rfl) ?_ _
        refine NoPanic.normal ?_
        have hsd : Still w wr.drew := ⟨(still_drewN wr 1).heap.trans hst.heap, fun B => (hst.below B).trans ((still_drewN wr 1).below B)⟩
        clear hHeld hS0
        cases tb with
        | true =>
          have hxy := of_decide_eq_true HTB.out
          have HXY := Lib.hid hxy; clear hxy
          (repeat' ((fail_if_success at_builtin); first | go_values | go_skip | go_guarded | go_step | go_upon))
          go_roundw
          case rel => exact ⟨k + 1, by omega, by go_num, hsd, HSN.out HXY.out⟩
          case measure => simp [intOf]; omega
        | false =>
          have hxy := HNE.out (of_decide_eq_false HTB.out)
          have HXY := Lib.hid hxy; clear hxy
          (repeat' ((fail_if_success at_builtin); first | go_values | go_skip | go_guarded | go_step | go_upon))
          go_ret
          exact ⟨by rw [decide_eq_false HXY.out]; rfl, hsd⟩
      · (repeat' ((fail_if_success at_builtin); first | go_values | go_skip | go_guarded | go_step | go_upon))
        go_ret
        refine ⟨?_, hst⟩
        have h1 := HE.out
        have h2 := HL.out
        obtain rfl : k = l.length := by omega
        have : l = m := by
          rw [List.take_of_length_le (Nat.le_refl _)] at h1
          rw [h1, h2, List.take_of_length_le (Nat.le_refl _)]
        rw [decide_eq_true this]; rfl
  · have h0 : ((l.length : Int) != (m.length : Int)) = true := by simp; omega
    go_enter Tryd.func78, Tryd.ntmps78
    (repeat' ((fail_if_success at_builtin); first | go_values | go_skip | go_guarded | go_step | go_upon))
    go_ret
    exact ⟨by rw [decide_eq_false (by intro e; exact hlen (by rw [e]))]; rfl, still_drewN w 0⟩

end Go.Proofs.YtdpfemhfmofmlaaDoor
