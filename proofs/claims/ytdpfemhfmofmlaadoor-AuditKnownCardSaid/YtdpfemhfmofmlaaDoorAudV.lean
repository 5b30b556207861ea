/- Whether rows hold (audit.Verify). -/
import Derived.Test.YtdpfemhfmofmlaaDoorLogD
namespace Go.Proofs.YtdpfemhfmofmlaaDoor
set_option linter.unusedSimpArgs false
set_option linter.unusedVariables false
open Go.RowKit
set_option maxRecDepth 10000
--@PUT2

theorem neqEnt (w : World) (x y : Ent) (hx : x.sum.length = 32) (hy : y.sum.length = 32) : (binOp .neq 73 (.agg x.cells.toArray) (.agg y.cells.toArray)).run Tryd.prog w = .ok (.bool (!decide (x = y))) w := by
  rw [run_neq_struct, eqFieldsEnt w x y hx hy]; rfl
theorem neqSum (w : World) (a b : List UInt8) (ha : a.length = 32) (hb : b.length = 32) : (binOp .neq 26 (.agg (bvs a).toArray) (.agg (bvs b).toArray)).run Tryd.prog w = .ok (.bool (!decide (a = b))) w := by
  rw [run_neq_struct, show bvs a = a.map Extern.Stop.cell from rfl, show bvs b = b.map Extern.Stop.cell from rfl, run_equalIn_bytes w 9998 26 5 32 Tryd.underlying26 Tryd.underlying5 (fun w => by kernel_rfl) a b ha hb]
  have e : (a == b) = decide (a = b) := by by_cases h : a = b <;> simp [h]
  rw [e]; rfl

/-- Whether rows hold behind others: the first that does not; 24: ErrChain. -/
def verGo (pre : List Ent) : List Ent → List UInt8 → Nat × Int
  | [], head => if headOf pre = head then (0, 0) else (pre.length + 1, 24)
  | x :: r, head => if rowOf pre x = x then verGo (pre ++ [x]) r head else (pre.length + 1, 24)
def verify (l : List Ent) (head : List UInt8) : Nat × Int := verGo [] l head
theorem verGo_step (l : List Ent) (head : List UInt8) (k : Nat) (hk : k < l.length) (h : rowOf (l.take k) l[k] = l[k]) : verGo (l.take k) (l.drop k) head = verGo (l.take (k + 1)) (l.drop (k + 1)) head := by
  rw [List.drop_eq_getElem_cons hk, verGo, if_pos h, List.take_succ_eq_append_getElem hk]
theorem verGo_bad (l : List Ent) (head : List UInt8) (k : Nat) (hk : k < l.length) (h : rowOf (l.take k) l[k] ≠ l[k]) : verGo (l.take k) (l.drop k) head = (k + 1, 24) := by
  rw [List.drop_eq_getElem_cons hk, verGo, if_neg h, List.length_take, Nat.min_eq_left (by omega)]
theorem verGo_end (l : List Ent) (head : List UInt8) : verGo (l.take l.length) (l.drop l.length) head = if headOf l = head then (0, 0) else (l.length + 1, 24) := by
  rw [List.take_length, List.drop_length]; rfl

structure VerRel (w : World) (l : List Ent) (head : List UInt8) (n : Nat) (i : Value) (wr : World) : Prop where
  out : ∃ k : Nat, k ≤ n ∧ i = .int .i64 k ∧ Below w.heap.size w wr ∧ wr.heap[w.heap.size]? = some (.cells (bvs head).toArray 26 (0, 0)) ∧ verify l head = verGo (l.take k) (l.drop k) head

abbrev VerS (w2 : World) (z : Nat) (y : Ent) (w' : World) : Prop := w'.rangeAt z 0 y.cells ∧ Below w2.heap.size w2 w'
theorem vers_below {w2 w' w'' : World} {z : Nat} {y : Ent} (hb : Below w'.heap.size w' w'') (h : VerS w2 z y w') : VerS w2 z y w'' := ⟨rangeAt_below h.1 hb (Nat.le_refl _), h.2.trans (hb.mono h.2.size)⟩

abbrev SumS (w2 : World) (z : Nat) (l : List UInt8) (w' : World) : Prop := w'.rangeAt z 0 (bvs l) ∧ Below w2.heap.size w2 w'
theorem sums_below {w2 w' w'' : World} {z : Nat} {l : List UInt8} (hb : Below w'.heap.size w' w'') (h : SumS w2 z l w') : SumS w2 z l w'' := ⟨rangeAt_below h.1 hb (Nat.le_refl _), h.2.trans (hb.mono h.2.size)⟩

set_option maxHeartbeats 2000000 in
theorem auditVerify (a : Option Addr) (n c : Nat) (l : List Ent) (head : List UInt8) (vn : Nat) (ve : Int) (w : World) (hv : verify l head = (vn, ve)) (hT : Tabs w) (h : RdC w a (l.flatMap Ent.cells)) (hok : ∀ x ∈ l, x.Ok ∧ x.stream.size ≤ 4096 ∧ x.subject.size ≤ 4096) (en : l.length = n) (hc : n ≤ c) (hn : n ≤ 1000000) (hh : head.length = 32) :
    Calls Tryd.prog 68 #[.slice a n c, .agg (bvs head).toArray] w fun e w' => e = .returned (.tuple #[.int .i64 vn, .int .i64 ve]) ∧ Below w.heap.size w w' := by
  obtain ⟨iE, zE, hiE, hzE, hcE⟩ := fresh_parts zeroEnt
  have HIE := Lib.hid hiE; clear hiE
  have HZE := Lib.hid hzE; clear hzE
  have HCE := Lib.hid hcE; clear hcE
  have hts := hT.size
  have HT := Lib.hid hT; clear hT
  have HR := Lib.hid h; clear h
  have HOK := Lib.hid hok; clear hok
  have HV := Lib.hid hv; clear hv
  have HH := Lib.hid hh; clear hh
  subst en
  have hu73 : Tryd.prog.underlying 73 = some _ := Tryd.underlying73
  have hg0 := heap_alloc_new w (.cells (bvs head).toArray 26)
  have HG0 := Lib.hid hg0; clear hg0
  have hB0 : Below w.heap.size w (w.alloc (.cells (bvs head).toArray 26)) := (Below.refl _ _).alloc (Nat.le_refl _) _
  have HB0 := Lib.hid hB0; clear hB0
  go_enter Tryd.func68, Tryd.ntmps68
  (repeat' ((fail_if_success at_builtin); first | go_values | go_skip | go_guarded | go_step | go_upon))
  go_loopw [10] (fun i wr => VerRel w l head l.length i wr) (fun i _ => l.length - (intOf i).toNat)
  case atStart => exact ⟨0, by omega, rfl, HB0.out, HG0.out, rfl⟩
  case round =>
    obtain ⟨k, hk, rfl, hB, hgh, hver⟩ := hrel
    have HGH := Lib.hid hgh; clear hgh
    have HVER := Lib.hid hver; clear hver
    by_cases hlt : k < l.length
    · obtain ⟨b, off, hba, hra⟩ := ents_at (HR.out.below hB (Nat.le_refl _)) (fun x hx => (HOK.out x hx).1.sum) k hlt
      have hx := HOK.out l[k] (List.getElem_mem hlt)
      have HST := Lib.hid (verGo_step l head k hlt)
      have HBAD := Lib.hid (verGo_bad l head k hlt)
      obtain ⟨x, hxe⟩ : ∃ x, l[k] = x := ⟨_, rfl⟩
      rw [hxe] at hra hx HST HBAD
      clear hxe
      obtain ⟨r, hr⟩ : ∃ r, rowOf (l.take k) x = r := ⟨_, rfl⟩
      rw [hr] at HST HBAD
      have hrl : r.sum.length = 32 := by rw [← hr]; exact Ent.next_length _ _
      have HRR := Lib.hid hr; clear hr
      have HX := Lib.hid hx; clear hx
      have HRA := Lib.hid hra; clear hra
      have hiX := Lib.hid (show (Tryd.prog.info? 73).map (·.size) = some x.cells.length by rw [Ent.cells_length HX.out.1.sum]; exact entSize)
      have HFX := Lib.hid (show 0 + x.cells.length ≤ zEnt.cells.toArray.size by rw [Ent.cells_length HX.out.1.sum]; exact Nat.le_refl _)
      have HXO := Lib.hid x.cells_oneCell
      have hneq := fun w => neqEnt w r x hrl HX.out.1.sum
      subst hba
      obtain ⟨tb, htb⟩ : ∃ tb, (!decide (r = x)) = tb := ⟨_, rfl⟩
      rw [htb] at hneq
      have HTB := Lib.hid htb; clear htb
      have bk : (0 : Int) ≤ (k : Int) ∧ (k : Int) ≤ (c : Int) := by omega
      (repeat' ((fail_if_success at_builtin); first | (first | (with_reducible refine wpList_load_mid rfl 73 _ rfl b (off + k * 39) rfl x.cells _ HRA.out hu73 rfl hiX.out ?_) | ((with_reducible refine wpList_alloc_fresh (w := wr) rfl 73 rfl _ iE zE HIE.out HZE.out HCE.out ?_); intro w1 hg1 hB1 hs1; have HG1 := Lib.hid hg1; clear hg1; have HS1 := Lib.hid hs1; clear hs1) | ((with_reducible refine wpList_store_blk rfl 73 _ _ rfl wr.heap.size 0 x.cells rfl rfl _ _ HG1.out HFX.out hiX.out HXO.out ?_); intro w2 hg2 hG2; rw [splice_whole _ _ (by rw [Ent.cells_length HX.out.1.sum];rfl)] at hg2; have HG2 := Lib.hid hg2; clear hg2)) | go_values | go_skip | go_guarded | go_step | go_upon))
      have hs1 := HS1.out
      have hB2 : Below wr.heap.size wr w2 := hB1.grown hG2 (by omega) (fun g e => by cases e; exact Nat.le_refl _)
      have hBw2 : Below w.heap.size w w2 := hB.trans (hB2.mono hB.size)
      have hgh2 := (hB2.block w.heap.size (Array.getElem?_eq_some_iff.1 HGH.out).1).trans HGH.out
      have HGH2 := Lib.hid hgh2; clear hgh2
      have hS0 : VerS w2 wr.heap.size x w2.drew := ⟨rangeAt_whole (w := w2.drew) HG2.out, (Below.refl _ _).drew⟩
      have hiXX := hiX.out
      have hrk : RdC w (some ⟨b, off, none⟩) ((l.take k).flatMap Ent.cells) := by
        rw [ents_take l k (fun x hx => (HOK.out x hx).1.sum)]
        exact HR.out.take _
      have HRK := Lib.hid hrk; clear hrk
      clear HG1 HS1 hs1
      refine wp_region_noPanic ?_
      refine wp_region_held_drew (S := VerS w2 wr.heap.size x) (by kernel_rfl) ?_ (fun hHeld => ?_)
      · (exact hS0)
      refine wpAnyH_take (i := 0) (oi := _) (v := ?_) rfl (by kernel_rfl) (by kernel_rfl) (by kernel_rfl) (fun _ _ _ h => h) (Or.inl ⟨by rfl, ?_⟩) (by assumption) ?_
      rotate_left 1
      · (intro w hSw; (try dsimp only at hSw); go_simp; all_goals (with_reducible rfl))
      try simp only [Act.put, List.getElem_toArray, List.getElem_cons_zero, List.getElem_cons_succ, List.setIfInBounds_toArray, List.set_cons_zero, List.set_cons_succ]
      refine wpAnyH_take (i := 1) (oi := _) (v := ?_) rfl (by kernel_rfl) (by kernel_rfl) (by kernel_rfl) (fun _ _ _ h => h) (Or.inl ⟨by rfl, ?_⟩) (by assumption) ?_
      rotate_left 1
      · (intro w hSw; (try dsimp only at hSw); go_simp; all_goals (with_reducible rfl))
      try simp only [Act.put, List.getElem_toArray, List.getElem_cons_zero, List.getElem_cons_succ, List.setIfInBounds_toArray, List.set_cons_zero, List.set_cons_succ]
      refine wpAnyH_take (i := 2) (oi := _) (v := ?_) rfl (by kernel_rfl) (by kernel_rfl) (by kernel_rfl) (fun _ _ _ h => h) (Or.inl ⟨by rfl, ?_⟩) (by assumption) ?_
      rotate_left 1
      · (intro w hSw; (try dsimp only at hSw); go_simp; all_goals (with_reducible rfl))
      try simp only [Act.put, List.getElem_toArray, List.getElem_cons_zero, List.getElem_cons_succ, List.setIfInBounds_toArray, List.set_cons_zero, List.set_cons_succ]
      refine' wpAnyH_take (i := 3) (oi := _) (v := _) rfl (by kernel_rfl) (by kernel_rfl) (by kernel_rfl) (fun _ _ _ h => h) (yieldsIf_load_mid (by rfl) _ _ rfl _ _ rfl _ _ ?ls1 ?lu1 ?ld1 ?li1) (by assumption) ?lr1
      case ls1 => (intro w hSw; (try dsimp only at hSw); go_split_ands; assumption)
      case lu1 => assumption
      case ld1 => rfl
      case li1 => first | assumption | (simp only [*]; done)
      try simp only [Act.put, List.getElem_toArray, List.getElem_cons_zero, List.getElem_cons_succ, List.setIfInBounds_toArray, List.set_cons_zero, List.set_cons_succ]
      refine' wpAnyH_take (i := 5) (oi := _) (v := _) rfl (by kernel_rfl) (by kernel_rfl) (by kernel_rfl) (fun _ _ _ h => h) (yieldsIf_load_mid (by rfl) _ _ rfl _ _ rfl _ _ ?ls2 ?lu2 ?ld2 ?li2) (by assumption) ?lr2
      case ls2 => (intro w hSw; (try dsimp only at hSw); go_split_ands; assumption)
      case lu2 => assumption
      case ld2 => rfl
      case li2 => first | assumption | (simp only [*]; done)
      try simp only [Act.put, List.getElem_toArray, List.getElem_cons_zero, List.getElem_cons_succ, List.setIfInBounds_toArray, List.set_cons_zero, List.set_cons_succ]
      refine wpAnyH_ready (rs := [4]) (by kernel_rfl) (by simp) ?_
      refine AllReadyH.cons (o := _) rfl (fun K hK => ?_) ?_
      rotate_left 1
      · exact AllReadyH.nil
      go_simp
      go_at_call 101
      refine (chainRow _ k c (l.take k) x r _ HRR.out (HT.out.below (hBw2.trans (hHeld.2.mono hBw2.size)) hts) (HRK.out.below (hBw2.trans (hHeld.2.mono hBw2.size)) (Nat.le_refl _)) (fun y hy => (HOK.out y (List.mem_of_mem_take hy)).1) HX.out.1 (by rw [List.length_take];omega) (by omega) HX.out.2.1 HX.out.2.2).mono ?_
      rintro _ wA ⟨rfl, hBA⟩
      dsimp only
      refine hK.out _ _ ?_ (fun hHeld => ?_)
      · (apply vers_below; assumption; assumption)
      clear hK K
      try simp only [Act.put, List.getElem_toArray, List.getElem_cons_zero, List.getElem_cons_succ, List.setIfInBounds_toArray, List.set_cons_zero, List.set_cons_succ]
      refine wpAnyH_take (i := 6) (oi := _) (v := ?_) rfl (by kernel_rfl) (by kernel_rfl) (by kernel_rfl) (fun _ _ _ h => h) (Or.inl ⟨by rfl, ?_⟩) (by assumption) ?_
      rotate_left 1
      · (intro w hSw; (try dsimp only at hSw); go_simp; all_goals (with_reducible rfl))
      try simp only [Act.put, List.getElem_toArray, List.getElem_cons_zero, List.getElem_cons_succ, List.setIfInBounds_toArray, List.set_cons_zero, List.set_cons_succ]
      refine wpAnyH_done (by kernel_rfl) ?_ _
      refine NoPanic.normal ?_
      have hB2A := hHeld.2
      have hBwA : Below w.heap.size w wA := hBw2.trans (hB2A.mono hBw2.size)
      have hghA := (hB2A.block w.heap.size (Array.getElem?_eq_some_iff.1 HGH2.out).1).trans HGH2.out
      have HGHA := Lib.hid hghA; clear hghA
      clear hHeld hS0 hBA
      cases tb with
      | false =>
        have hrx : r = x := by have := HTB.out; simpa using this
        (repeat' ((fail_if_success at_builtin); first | go_values | go_skip | go_guarded | go_step | go_upon))
        go_roundw
        case rel => exact ⟨k + 1, by omega, by go_num, hBwA, HGHA.out, by rw [HVER.out]; exact HST.out hrx⟩
        case measure => simp [intOf]; omega
      | true =>
        have hrx : r ≠ x := by have := HTB.out; simpa using this
        have hfin := HVER.out.symm.trans HV.out
        rw [HBAD.out hrx] at hfin
        have e1 : k + 1 = vn := congrArg Prod.fst hfin
        have e2 : (24 : Int) = ve := congrArg Prod.snd hfin
        have HE1 := Lib.hid e1; clear e1
        have HE2 := Lib.hid e2; clear e2
        clear hfin
        (repeat' ((fail_if_success at_builtin); first | go_values | go_skip | go_guarded | go_step | go_upon))
        go_ret2
        refine ⟨?_, hBwA⟩
        rw [← HE1.out, ← HE2.out]; rfl
    · obtain rfl : k = l.length := by omega
      have hend := HVER.out.symm.trans HV.out
      rw [verGo_end] at hend
      obtain ⟨P, hP⟩ : ∃ P, headOf l = P := ⟨_, rfl⟩
      rw [hP] at hend
      have hPl : P.length = 32 := by rw [← hP]; exact headOf_length l (fun x hx => (HOK.out x hx).1)
      have HP := Lib.hid hP; clear hP
      obtain ⟨tb, htb⟩ : ∃ tb, (!decide (P = head)) = tb := ⟨_, rfl⟩
      have hneq := fun w => neqSum w P head hPl HH.out
      rw [htb] at hneq
      have HTB := Lib.hid htb; clear htb
      have HEND := Lib.hid hend; clear hend hPl
      have hu26 : Tryd.prog.underlying 26 = some _ := Tryd.underlying26
      have hiH : (Tryd.prog.info? 26).map (·.size) = some (bvs head).length := by rw [bvs_length, HH.out]; exact sizeSum
      have hS0 : SumS wr w.heap.size head wr.drew := ⟨rangeAt_whole (w := wr.drew) HGH.out, (Below.refl _ _).drew⟩
      clear HVER
      (repeat' ((fail_if_success at_builtin); first | go_values | go_skip | go_guarded | go_step | go_upon))
      refine wp_region_noPanic ?_
      refine wp_region_held_drew (S := SumS wr w.heap.size head) (by kernel_rfl) ?_ (fun hHeld => ?_)
      · (exact hS0)
      refine wpAnyH_take (i := 0) (oi := _) (v := ?_) rfl (by kernel_rfl) (by kernel_rfl) (by kernel_rfl) (fun _ _ _ h => h) (Or.inl ⟨by rfl, ?_⟩) (by assumption) ?_
      rotate_left 1
      · (intro w hSw; (try dsimp only at hSw); go_simp; all_goals (with_reducible rfl))
      try simp only [Act.put, List.getElem_toArray, List.getElem_cons_zero, List.getElem_cons_succ, List.setIfInBounds_toArray, List.set_cons_zero, List.set_cons_succ]
      refine' wpAnyH_take (i := 2) (oi := _) (v := _) rfl (by kernel_rfl) (by kernel_rfl) (by kernel_rfl) (fun _ _ _ h => h) (yieldsIf_load_mid (by rfl) _ _ rfl _ _ rfl _ _ ?ls3 ?lu3 ?ld3 ?li3) (by assumption) ?lr3
      case ls3 => (intro w hSw; (try dsimp only at hSw); go_split_ands; assumption)
      case lu3 => assumption
      case ld3 => rfl
      case li3 => first | assumption | (simp only [*]; done)
      try simp only [Act.put, List.getElem_toArray, List.getElem_cons_zero, List.getElem_cons_succ, List.setIfInBounds_toArray, List.set_cons_zero, List.set_cons_succ]
      refine wpAnyH_ready (rs := [1]) (by kernel_rfl) (by simp) ?_
      refine AllReadyH.cons (o := _) rfl (fun K hK => ?_) ?_
      rotate_left 1
      · exact AllReadyH.nil
      go_simp
      go_at_call 102
      refine (chainHead a l.length c l P _ HP.out (HR.out.below (hB.trans (hHeld.2.mono hB.size)) (Nat.le_refl _)) (fun x hx => (HOK.out x hx).1) rfl hn).mono ?_
      rintro _ wA ⟨rfl, hBA⟩
      dsimp only
      refine hK.out _ _ ?_ (fun hHeld => ?_)
      · (apply sums_below; assumption; assumption)
      clear hK K
      try simp only [Act.put, List.getElem_toArray, List.getElem_cons_zero, List.getElem_cons_succ, List.setIfInBounds_toArray, List.set_cons_zero, List.set_cons_succ]
      refine wpAnyH_take (i := 3) (oi := _) (v := ?_) rfl (by kernel_rfl) (by kernel_rfl) (by kernel_rfl) (fun _ _ _ h => h) (Or.inl ⟨by rfl, ?_⟩) (by assumption) ?_
      rotate_left 1
      · (intro w hSw; (try dsimp only at hSw); go_simp; all_goals (with_reducible rfl))
      try simp only [Act.put, List.getElem_toArray, List.getElem_cons_zero, List.getElem_cons_succ, List.setIfInBounds_toArray, List.set_cons_zero, List.set_cons_succ]
      refine wpAnyH_done (by kernel_rfl) ?_ _
      refine NoPanic.normal ?_
      have hBwA : Below w.heap.size w wA := hB.trans (hHeld.2.mono hB.size)
      clear hHeld hS0 hBA
      cases tb with
      | false =>
        have hph : P = head := by have := HTB.out; simpa using this
        have hfin := HEND.out
        rw [if_pos hph] at hfin
        have HE1 := Lib.hid (show 0 = vn from congrArg Prod.fst hfin)
        have HE2 := Lib.hid (show (0 : Int) = ve from congrArg Prod.snd hfin)
        clear hfin hph
        (repeat' ((fail_if_success at_builtin); first | go_values | go_skip | go_guarded | go_step | go_upon))
        go_ret2
        refine ⟨?_, hBwA⟩
        rw [← HE1.out, ← HE2.out]; rfl
      | true =>
        have hph : P ≠ head := by have := HTB.out; simpa using this
        have hfin := HEND.out
        rw [if_neg hph] at hfin
        have HE1 := Lib.hid (show l.length + 1 = vn from congrArg Prod.fst hfin)
        have HE2 := Lib.hid (show (24 : Int) = ve from congrArg Prod.snd hfin)
        clear hfin hph
        (repeat' ((fail_if_success at_builtin); first | go_values | go_skip | go_guarded | go_step | go_upon))
        go_ret2
        refine ⟨?_, hBwA⟩
        rw [← HE1.out, ← HE2.out]; rfl

end Go.Proofs.YtdpfemhfmofmlaaDoor
