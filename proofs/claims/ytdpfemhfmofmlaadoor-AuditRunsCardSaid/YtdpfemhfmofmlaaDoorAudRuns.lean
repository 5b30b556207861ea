/- The law AuditRuns, walked. -/
import Derived.Test.YtdpfemhfmofmlaaDoorRuns21
import Derived.Deep.DeepCutAuto
import Derived.Deep.CutRange
namespace Go.Proofs.YtdpfemhfmofmlaaDoor
set_option linter.unusedSimpArgs false
set_option linter.unusedVariables false
open Go.RowKit
set_option maxRecDepth 10000
--@PUT2

structure RunI (w : World) (g o m k : Nat) (wr : World) : Prop where
  out : ∃ f, Logs w g o m k k f f 0 wr ∧ ∀ u, Numbered (f u)

set_option maxHeartbeats 16000000 in
theorem auditRuns_walk (a : Option Addr) (n c : Nat) (xs : List Rw) (w : World) (hT : Tabs w) (hr : RdC w a (xs.flatMap Rw.cells)) (hok : ∀ x ∈ xs, x.Ok) (en : xs.length = n) (hn : n ≤ maxLen) :
    Calls Tryd.prog 16 #[.slice a n c] w fun e w' => e = .returned (.bool true) ∧ Below w.heap.size w w' := by
  have hts := hT.size
  have HT := Lib.hid hT; clear hT
  have hn9 : (n : Int) ≤ 9223372036854775807 := by unfold maxLen at hn; omega
  subst en
  have hsum : ∀ x ∈ xs, x.e.sum.length = 32 := fun x hx => (hok x hx).e.sum
  have HR := Lib.hid hr; clear hr
  have HOK := Lib.hid hok; clear hok
  have HSUM := Lib.hid hsum; clear hsum
  obtain ⟨iE, zE, hiE, hzE, hsE, hbE, hcE⟩ := entInfo_parts
  have HIE := Lib.hid hiE; clear hiE
  have HZE := Lib.hid hzE; clear hzE
  have HSE := Lib.hid hsE; clear hsE
  obtain ⟨iR, zR, hiR, hzR, hcR⟩ := fresh_parts zeroRw
  have HIR := Lib.hid hiR; clear hiR
  have HZR := Lib.hid hzR; clear hzR
  have HCR := Lib.hid hcR; clear hcR
  clear hbE hcE
  have hu73 : Tryd.prog.underlying 73 = some _ := Tryd.underlying73
  have hu89 : Tryd.prog.underlying 89 = some _ := Tryd.underlying89
  go_enter Tryd.func16, Tryd.ntmps16
  (repeat' ((fail_if_success at_builtin); first | go_values | go_skip | go_guarded | go_step | go_upon))
  refine (auditNew w).mono ?_
  rintro _ w1 ⟨g, rfl, hL1, hB1⟩
  dsimp only
  have HL1 := Lib.hid hL1; clear hL1
  (repeat' ((fail_if_success at_builtin); first | go_values | go_skip | go_guarded | go_step | go_upon))
  refine (auditNew w1).mono ?_
  rintro _ w2 ⟨o, rfl, hL2, hB2⟩
  dsimp only
  have HL2 := Lib.hid hL2; clear hL2
  have hB02 : Below w.heap.size w w2 := hB1.trans (hB2.mono hB1.size)
  by_cases h1 : 100 < xs.length
  · (repeat' ((fail_if_success at_builtin); first | go_values | go_skip | go_guarded | go_step | go_upon))
    refine (works21 w2 (HT.out.below hB02 hts)).mono ?_
    rintro _ w3 ⟨rfl, hB3⟩
    dsimp only
    (repeat' ((fail_if_success at_builtin); first | go_values | go_skip | go_guarded | go_step | go_upon))
    go_ret
    exact ⟨rfl, hB02.trans (hB3.mono hB02.size)⟩
  (repeat' ((fail_if_success at_builtin); first | go_values | go_skip | go_guarded | go_step | go_upon))
  refine (refNew21 w2).mono ?_
  rintro _ w3 ⟨m, rfl, hL3, hB3⟩
  dsimp only
  have hI : RunI w g o m 0 w3 := by
    have s1 := hB1.size
    have s2 := hB2.size
    have s3 := hB3.size
    refine ⟨⟨fun _ => [], ⟨⟨_, _, _, [], HL1.out.below (hB2.trans (hB3.mono hB2.size)), HL2.out.below hB3, hL3, fun _ => rfl, ?_, ?_, ?_, ?_, ?_, ?_, ?_, ?_, ?_⟩, hB02.trans (hB3.mono hB02.size), by omega⟩, fun _ => numbered_nil⟩⟩
    · exact fun j hj => hj.1
    · exact fun j hj => by omega
    · exact fun j hj => by omega
    · exact fun j hj hj2 => by omega
    · exact fun j hj hj2 => by omega
    · exact fun j hj hj2 => by omega
    · exact fun hj => by omega
    · exact fun hj => by omega
    · exact fun hj => by omega
  have HI := Lib.hid hI
  clear hI HL1 HL2 hL3 hB02
  (repeat' ((fail_if_success at_builtin); first | go_values | go_skip | go_guarded | go_step | go_upon))
  go_loopw [6] (fun i wr => ∃ k : Nat, k ≤ xs.length ∧ i = .int .i64 k ∧ RunI w g o m k wr) (fun i _ => xs.length - (intOf i).toNat)
  case atStart => exact ⟨0, by omega, rfl, HI.out⟩
  case round =>
    obtain ⟨k, hk, rfl, hI⟩ := hrel
    obtain ⟨f, hLg, hnum⟩ := hI.out
    have hB := hLg.blw
    have HLG := Lib.hid hLg; clear hLg
    have HNUM := Lib.hid hnum; clear hnum
    clear hI HI hB1 hB2 hB3
    by_cases hlt : k < xs.length
    · obtain ⟨b, off, hba, hrr, _, _, _, _⟩ := rws_at HR.out HSUM.out k hlt
      have HM := List.getElem_mem hlt
      generalize xs[k] = r at *
      have hrk := HOK.out r HM
      have hrs : r.e.sum.length = 32 := hrk.e.sum
      have HRK := Lib.hid hrk; clear hrk
      have HRS := Lib.hid hrs
      have HIE2 := Lib.hid (show (Tryd.prog.info? 73).map (·.size) = some r.e.cells.length by rw [Ent.cells_length hrs]; exact entSize)
      have HIR2 := Lib.hid (show (Tryd.prog.info? 89).map (·.size) = some r.cells.length by rw [Rw.cells_length hrs]; exact rwSize)
      have HFR := Lib.hid (show 0 + r.cells.length ≤ zRw.cells.toArray.size by rw [Rw.cells_length hrs]; exact Nat.le_refl _)
      have HFL := Lib.hid (show r.cells.length = zRw.cells.toArray.toList.length by rw [Rw.cells_length hrs]; rfl)
      have HOR := Lib.hid r.cells_oneCell
      clear hrs
      have bk : (0 : Int) ≤ (k : Int) ∧ (k : Int) < (xs.length : Int) := by omega
      have HRR := Lib.hid (rangeAt_below hrr hB (Nat.le_refl _)); clear hrr
      subst hba
      (repeat' ((fail_if_success at_builtin); (fail_if_success (show wpList _ _ _ ({ dst := some 43, op := _, type := _, pos := _, after := _, guard := _ } :: _) _ _)); first | (first | (with_reducible refine wpList_load_mid rfl 89 _ rfl b (off + k * 42) rfl r.cells _ HRR.out hu89 rfl HIR2.out ?_) | ((with_reducible refine wpList_alloc_fresh (w := wr) rfl 89 rfl _ iR zR HIR.out HZR.out HCR.out ?_); intro w3 hg3 hB3 hs3; have HG3 := Lib.hid hg3; clear hg3; have HS3 := Lib.hid hs3; clear hs3) | ((with_reducible refine wpList_store_blk rfl 89 _ _ rfl wr.heap.size 0 r.cells rfl rfl _ _ HG3.out HFR.out HIR2.out HOR.out ?_); intro w4 hg4 hG4; rw [splice_whole _ _ HFL.out] at hg4; have HG4 := Lib.hid hg4; clear hg4 HG3)) | go_values | go_skip | go_guarded | go_step | go_upon))
      have hB4 : Below wr.heap.size wr w4 := hB3.grown hG4 (by rw [HS3.out]; omega) (fun j e => by cases e; exact Nat.le_refl _)
      have hz4 : wr.heap.size < w4.heap.size := by have := hG4.size; have := HS3.out; omega
      obtain ⟨z, hz⟩ : ∃ z, wr.heap.size = z := ⟨_, rfl⟩
      have hL4 : Logs w g o m k k f f z w4 := HLG.out.fresh hB4 z (by omega) (by omega)
      clear hB3 hG4 HS3 HLG
      have hg4 := HG4.out
      rw [hz] at hg4 hz4 ⊢
      clear HG4 hB4 hz hB
      have HL4 := Lib.hid hL4; clear hL4
      have HZ4 := Lib.hid (rowZ HRS.out hg4)
      have HQ4 := Lib.hid hg4; clear hg4
      (repeat' ((fail_if_success at_builtin); first | (first | (with_reducible refine wpList_load_mid rfl 73 _ rfl z 1 rfl r.e.cells _ HZ4.out.1.1.2 hu73 rfl HIE2.out ?_) | ((with_reducible refine wpList_build_one rfl 68 73 _ rfl Tryd.underlying68 r.e.cells rfl iE zE HIE.out HZE.out (by rw [Ent.cells_length HRS.out];exact HSE.out) (by rw [Ent.cells_length HRS.out];omega) (by rw [Ent.cells_length HRS.out];omega) ?_); intro w5 hg5 hB5 hs5; have HG5 := Lib.hid hg5; clear hg5)) | go_values | go_skip | go_guarded | go_step | go_upon))
      refine (big21 (some ⟨w4.heap.size, 0, none⟩) 1 1 [r.e] w5 (by rw [List.flatMap_singleton]; exact rd_rowC HG5.out) (fun x hx => by rw [List.mem_singleton.1 hx]; exact HRS.out) rfl).mono ?_
      rintro _ w6 ⟨rfl, hB6⟩
      have hbg : decide (100 < 1 ∨ ∃ x ∈ [r.e], x.big) = decide r.e.big := by simp
      rw [hbg]
      dsimp only
      have hB46 : Below w4.heap.size w4 w6 := hB5.trans (hB6.mono hB5.size)
      have hL6 : Logs w g o m k k f f z w6 := HL4.out.below hB46
      have hz6 := (hB46.block z hz4).trans HQ4.out
      have c6 := (rowZ HRS.out hz6).1.1.1
      have hB06 := hL6.blw
      have HL6 := Lib.hid hL6; clear hL6
      have HQ6 := Lib.hid hz6; clear hz6
      clear HG5 hB5 hB6 hs5 hbg hB46 HL4 HZ4 HQ4 hz4
      by_cases hb : r.e.big
      · have t1 : decide r.e.big = true := decide_eq_true hb
        (repeat' ((fail_if_success at_builtin); first | go_values | go_skip | go_guarded | go_step | go_upon))
        refine (works21 w6 (HT.out.below hB06 hts)).mono ?_
        rintro _ w7 ⟨rfl, hB7⟩
        dsimp only
        (repeat' ((fail_if_success at_builtin); first | go_values | go_skip | go_guarded | go_step | go_upon))
        go_ret
        exact ⟨rfl, hB06.trans (hB7.mono hB06.size)⟩
      have t1 : decide r.e.big = false := decide_eq_false hb
      by_cases ht : 512 < r.tenant.size
      · (repeat' ((fail_if_success at_builtin); first | go_values | go_skip | go_guarded | go_step | go_upon))
        refine (works21 w6 (HT.out.below hB06 hts)).mono ?_
        rintro _ w7 ⟨rfl, hB7⟩
        dsimp only
        (repeat' ((fail_if_success at_builtin); first | go_values | go_skip | go_guarded | go_step | go_upon))
        go_ret
        exact ⟨rfl, hB06.trans (hB7.mono hB06.size)⟩
      have HFIT := Lib.hid (fit_of_small HRK.out.e hb)
      have HTL := Lib.hid (show r.tenant.size ≤ maxLen by unfold maxLen; omega)
      obtain ⟨R, hR⟩ : ∃ R, rowOf (f r.tenant) r.e = R := ⟨_, rfl⟩
      obtain ⟨f', hf'⟩ : ∃ f', lput f r.tenant (f r.tenant ++ [R]) = f' := ⟨_, rfl⟩
      have hfr' : f' r.tenant = f r.tenant ++ [R] := by rw [← hf', lput_same]
      have hRs : R.sum.length = 32 := by rw [← hR]; exact Ent.next_length _ _
      obtain ⟨H, hH⟩ : ∃ H, headOf (f' r.tenant) = H := ⟨_, rfl⟩
      obtain ⟨N, hN⟩ : ∃ N, (f' r.tenant).length = N := ⟨_, rfl⟩
      have hNk : N ≤ k + 1 := by
        obtain ⟨S, h1⟩ := HL6.out.G
        have := h1.len r.tenant
        rw [← hN, hfr', List.length_append]
        simp
        omega
      have hnum' : ∀ u, Numbered (f' u) := fun u => by
        rw [← hf']
        unfold lput
        split
        · rw [← hR]; exact numbered_row (HNUM.out _) _
        · exact HNUM.out u
      have hfit' : ∀ x ∈ f' r.tenant, x.sum.length = 32 := fun x hx => by
        rw [hfr'] at hx
        rcases List.mem_append.1 hx with h2 | h2
        · obtain ⟨S, h1⟩ := HL6.out.G
          exact (h1.rows _ x h2).ok.sum
        · rw [List.mem_singleton.1 h2]; exact hRs
      have hHl : H.length = 32 := by rw [← hH, hfr']; unfold headOf; simp [hRs]
      have hneqE := fun w => neqEnt w R R hRs hRs
      rw [decide_eq_true (rfl : R = R)] at hneqE
      have hneqH := fun w => neqSum w H H hHl hHl
      rw [decide_eq_true (rfl : H = H)] at hneqH
      have HRR0 := Lib.hid hR
      have HH1 := Lib.hid hH
      have HN1 := Lib.hid hN
      have HF1 := Lib.hid hf'
      have HFIT1 := Lib.hid hfit'
      have HNUM1 := Lib.hid hnum'
      have hie2 := HIE2.out
      clear hR hfr' hRs hH hN hnum' hfit' hHl hf'
      have hS0 : RowZ z r w6.drew := rowZ HRS.out HQ6.out
      go_upto_region 12 with fail
      go_cut [88] from 33 to 121 (fun cc wx => cc = .bool false ∧ Logs w g o m (k + 1) (k + 1) f' f' z wx ∧ wx.heap[z]? = some (.cells r.cells.toArray 89 (0, 0)))
      case first =>
        have hL0 : Logs w g o m k k f f z w6.drew := HL6.out.below (Below.refl _ _).drew
        have hz0 : w6.drew.heap[z]? = some (.cells r.cells.toArray 89 (0, 0)) := HQ6.out
        have hT0 : Tabs w6.drew := HT.out.below hB06.drew hts
        have hTM : ∀ wx, Below w.heap.size w wx → Tabs wx := fun wx h => HT.out.below h hts
        have hkk : k ≤ 100 := by omega
        refine wp_region_noPanic ?_
        refine wp_region_held_drew (S := RowZ z r) (by kernel_rfl) ?_ (fun hHeld => ?_)
        · exact hS0
        · skip
          refine wpAnyH_take (i := 0) (oi := _) (v := ?_) rfl (by kernel_rfl) (by kernel_rfl) (by kernel_rfl) (fun _ _ _ h => h) (Or.inl ⟨by rfl, ?_⟩) (by assumption) ?_
          rotate_left 1
          · (intro w hSw; (try dsimp only at hSw); go_simp; all_goals (with_reducible rfl))
          try simp only [Act.put, List.getElem_toArray, List.getElem_cons_zero, List.getElem_cons_succ, List.setIfInBounds_toArray, List.set_cons_zero, List.set_cons_succ]
          refine wpAnyH_take (i := 1) (oi := _) (v := ?_) rfl (by kernel_rfl) (by kernel_rfl) (by kernel_rfl) (fun _ _ _ h => h) (Or.inl ⟨by rfl, ?_⟩) (by assumption) ?_
          rotate_left 1
          · (intro w hSw; (try dsimp only at hSw); go_simp; all_goals (with_reducible rfl))
          try simp only [Act.put, List.getElem_toArray, List.getElem_cons_zero, List.getElem_cons_succ, List.setIfInBounds_toArray, List.set_cons_zero, List.set_cons_succ]
          refine wpAnyH_take (i := 2) (oi := _) (v := ?_) rfl (by kernel_rfl) (by kernel_rfl) (by kernel_rfl) (fun _ _ _ h => h) (Or.inl ⟨by rfl, ?_⟩) (by assumption) ?_
          rotate_left 1
          · (intro w hSw; (try dsimp only at hSw); go_simp; all_goals (with_reducible rfl))
          try simp only [Act.put, List.getElem_toArray, List.getElem_cons_zero, List.getElem_cons_succ, List.setIfInBounds_toArray, List.set_cons_zero, List.set_cons_succ]
          refine wpAnyH_take (i := 3) (oi := _) (v := ?_) rfl (by kernel_rfl) (by kernel_rfl) (by kernel_rfl) (fun _ _ _ h => h) (Or.inl ⟨by rfl, ?_⟩) (by assumption) ?_
          rotate_left 1
          · (intro w hSw; (try dsimp only at hSw); go_simp; all_goals (with_reducible rfl))
          try simp only [Act.put, List.getElem_toArray, List.getElem_cons_zero, List.getElem_cons_succ, List.setIfInBounds_toArray, List.set_cons_zero, List.set_cons_succ]
          refine' wpAnyH_take (i := 4) (oi := _) (v := _) rfl (by kernel_rfl) (by kernel_rfl) (by kernel_rfl) (fun _ _ _ h => h) (yieldsIf_load_mid (by rfl) _ _ rfl _ _ rfl _ _ ?ls1 ?lu1 ?ld1 ?li1) (by assumption) ?lr1
          case ls1 => (intro w hSw; (try dsimp only at hSw); go_split_ands; assumption)
          case lu1 => assumption
          case ld1 => rfl
          case li1 => first | assumption | (simp only [*]; done)
          try simp only [Act.put, List.getElem_toArray, List.getElem_cons_zero, List.getElem_cons_succ, List.setIfInBounds_toArray, List.set_cons_zero, List.set_cons_succ]
          refine wpAnyH_take (i := 6) (oi := _) (v := ?_) rfl (by kernel_rfl) (by kernel_rfl) (by kernel_rfl) (fun _ _ _ h => h) (Or.inl ⟨by rfl, ?_⟩) (by assumption) ?_
          rotate_left 1
          · (intro w hSw; (try dsimp only at hSw); go_simp; all_goals (with_reducible rfl))
          try simp only [Act.put, List.getElem_toArray, List.getElem_cons_zero, List.getElem_cons_succ, List.setIfInBounds_toArray, List.set_cons_zero, List.set_cons_succ]
          refine wpAnyH_take (i := 7) (oi := _) (v := ?_) rfl (by kernel_rfl) (by kernel_rfl) (by kernel_rfl) (fun _ _ _ h => h) (Or.inl ⟨by rfl, ?_⟩) (by assumption) ?_
          rotate_left 1
          · (intro w hSw; (try dsimp only at hSw); go_simp; all_goals (with_reducible rfl))
          try simp only [Act.put, List.getElem_toArray, List.getElem_cons_zero, List.getElem_cons_succ, List.setIfInBounds_toArray, List.set_cons_zero, List.set_cons_succ]
          refine wpAnyH_take (i := 8) (oi := _) (v := ?_) rfl (by kernel_rfl) (by kernel_rfl) (by kernel_rfl) (fun _ _ _ h => h) (Or.inl ⟨by rfl, ?_⟩) (by assumption) ?_
          rotate_left 1
          · (intro w hSw; (try dsimp only at hSw); go_simp; all_goals (with_reducible rfl))
          try simp only [Act.put, List.getElem_toArray, List.getElem_cons_zero, List.getElem_cons_succ, List.setIfInBounds_toArray, List.set_cons_zero, List.set_cons_succ]
          refine wpAnyH_take (i := 9) (oi := _) (v := ?_) rfl (by kernel_rfl) (by kernel_rfl) (by kernel_rfl) (fun _ _ _ h => h) (Or.inl ⟨by rfl, ?_⟩) (by assumption) ?_
          rotate_left 1
          · (intro w hSw; (try dsimp only at hSw); go_simp; all_goals (with_reducible rfl))
          try simp only [Act.put, List.getElem_toArray, List.getElem_cons_zero, List.getElem_cons_succ, List.setIfInBounds_toArray, List.set_cons_zero, List.set_cons_succ]
          refine' wpAnyH_take (i := 10) (oi := _) (v := _) rfl (by kernel_rfl) (by kernel_rfl) (by kernel_rfl) (fun _ _ _ h => h) (yieldsIf_load_mid (by rfl) _ _ rfl _ _ rfl _ _ ?ls2 ?lu2 ?ld2 ?li2) (by assumption) ?lr2
          case ls2 => (intro w hSw; (try dsimp only at hSw); go_split_ands; assumption)
          case lu2 => assumption
          case ld2 => rfl
          case li2 => first | assumption | (simp only [*]; done)
          try simp only [Act.put, List.getElem_toArray, List.getElem_cons_zero, List.getElem_cons_succ, List.setIfInBounds_toArray, List.set_cons_zero, List.set_cons_succ]
          refine wpAnyH_ready (rs := [5]) (by kernel_rfl) (by simp) ?_
          refine AllReadyH.cons (o := _) rfl (fun K hK => ?_) ?_
          rotate_left 1
          · exact AllReadyH.nil
          go_simp
          go_at_call 72
          refine (logsAddG r.tenant r.e R HF1.out hL0 hT0 HTL.out (by omega) HFIT.out HRR0.out).mono ?_
          rintro _ wA ⟨rfl, hLA, hzA⟩
          dsimp only
          refine hK.out _ _ ?_ (fun hHeld => ?_)
          · (exact rowZ HRS.out (hzA.trans hz0))
          clear hK K
          try simp only [Act.put, List.getElem_toArray, List.getElem_cons_zero, List.getElem_cons_succ, List.setIfInBounds_toArray, List.set_cons_zero, List.set_cons_succ]
          refine wpAnyH_ready (rs := [11]) (by kernel_rfl) (by simp) ?_
          refine AllReadyH.cons (o := _) rfl (fun K hK => ?_) ?_
          rotate_left 1
          · exact AllReadyH.nil
          go_simp
          go_at_call 60
          refine (logsAddM r.tenant r.e R HF1.out hLA (by omega) HFIT.out HRR0.out).mono ?_
          rintro _ wB ⟨rfl, hLB, hzB⟩
          dsimp only
          refine hK.out _ _ ?_ (fun hHeld => ?_)
          · (exact rowZ HRS.out (hzB.trans (hzA.trans hz0)))
          clear hK K
          try simp only [Act.put, List.getElem_toArray, List.getElem_cons_zero, List.getElem_cons_succ, List.setIfInBounds_toArray, List.set_cons_zero, List.set_cons_succ]
          have hzB0 := hzB.trans (hzA.trans hz0)
          clear hzB
          have hzB := hzB0
          clear hzB0
          refine wpAnyH_take (i := 12) (oi := _) (v := ?_) rfl (by kernel_rfl) (by kernel_rfl) (by kernel_rfl) (fun _ _ _ h => h) (Or.inl ⟨by rfl, ?_⟩) (by assumption) ?_
          rotate_left 1
          · (intro w hSw; (try dsimp only at hSw); go_simp; all_goals (with_reducible rfl))
          try simp only [Act.put, List.getElem_toArray, List.getElem_cons_zero, List.getElem_cons_succ, List.setIfInBounds_toArray, List.set_cons_zero, List.set_cons_succ]
          refine wpAnyH_take (i := 13) (oi := _) (v := ?_) rfl (by kernel_rfl) (by kernel_rfl) (by kernel_rfl) (fun _ _ _ h => h) (Or.inl ⟨by rfl, ?_⟩) (by assumption) ?_
          rotate_left 1
          · (intro w hSw; (try dsimp only at hSw); go_simp; all_goals (with_reducible rfl))
          try simp only [Act.put, List.getElem_toArray, List.getElem_cons_zero, List.getElem_cons_succ, List.setIfInBounds_toArray, List.set_cons_zero, List.set_cons_succ]
          refine wpAnyH_take (i := 14) (oi := _) (v := ?_) rfl (by kernel_rfl) (by kernel_rfl) (by kernel_rfl) (fun _ _ _ h => h) (Or.inl ⟨by rfl, ?_⟩) (by assumption) ?_
          rotate_left 1
          · (intro w hSw; (try dsimp only at hSw); go_simp; all_goals (with_reducible rfl))
          try simp only [Act.put, List.getElem_toArray, List.getElem_cons_zero, List.getElem_cons_succ, List.setIfInBounds_toArray, List.set_cons_zero, List.set_cons_succ]
          refine wpAnyH_take (i := 15) (oi := _) (v := ?_) rfl (by kernel_rfl) (by kernel_rfl) (by kernel_rfl) (fun _ _ _ h => h) (Or.inl ⟨by rfl, ?_⟩) (by assumption) ?_
          rotate_left 1
          · (intro w hSw; (try dsimp only at hSw); go_simp; all_goals (with_reducible rfl))
          try simp only [Act.put, List.getElem_toArray, List.getElem_cons_zero, List.getElem_cons_succ, List.setIfInBounds_toArray, List.set_cons_zero, List.set_cons_succ]
          refine wpAnyH_take (i := 16) (oi := _) (v := ?_) rfl (by kernel_rfl) (by kernel_rfl) (by kernel_rfl) (fun _ _ _ h => h) (Or.inl ⟨by rfl, ?_⟩) (by assumption) ?_
          rotate_left 1
          · (intro w hSw; (try dsimp only at hSw); go_simp; all_goals (with_reducible rfl))
          try simp only [Act.put, List.getElem_toArray, List.getElem_cons_zero, List.getElem_cons_succ, List.setIfInBounds_toArray, List.set_cons_zero, List.set_cons_succ]
          refine wpAnyH_take (i := 18) (oi := _) (v := ?_) rfl (by kernel_rfl) (by kernel_rfl) (by kernel_rfl) (fun _ _ _ h => h) (Or.inl ⟨by rfl, ?_⟩) (by assumption) ?_
          rotate_left 1
          · (intro w hSw; (try dsimp only at hSw); go_simp; all_goals (with_reducible rfl))
          try simp only [Act.put, List.getElem_toArray, List.getElem_cons_zero, List.getElem_cons_succ, List.setIfInBounds_toArray, List.set_cons_zero, List.set_cons_succ]
          refine wpAnyH_take (i := 19) (oi := _) (v := ?_) rfl (by kernel_rfl) (by kernel_rfl) (by kernel_rfl) (fun _ _ _ h => h) (Or.inl ⟨by rfl, ?_⟩) (by assumption) ?_
          rotate_left 1
          · (intro w hSw; (try dsimp only at hSw); go_simp; all_goals (with_reducible rfl))
          try simp only [Act.put, List.getElem_toArray, List.getElem_cons_zero, List.getElem_cons_succ, List.setIfInBounds_toArray, List.set_cons_zero, List.set_cons_succ]
          refine wpAnyH_take (i := 20) (oi := _) (v := ?_) rfl (by kernel_rfl) (by kernel_rfl) (by kernel_rfl) (fun _ _ _ h => h) (Or.inl ⟨by rfl, ?_⟩) (by assumption) ?_
          rotate_left 1
          · (intro w hSw; (try dsimp only at hSw); go_simp; all_goals (with_reducible rfl))
          try simp only [Act.put, List.getElem_toArray, List.getElem_cons_zero, List.getElem_cons_succ, List.setIfInBounds_toArray, List.set_cons_zero, List.set_cons_succ]
          refine wpAnyH_ready (rs := [17]) (by kernel_rfl) (by simp) ?_
          refine AllReadyH.cons (o := _) rfl (fun K hK => ?_) ?_
          rotate_left 1
          · exact AllReadyH.nil
          go_simp
          go_at_call 73
          refine (logsHeadG r.tenant H hLB HTL.out (by omega) HH1.out).mono ?_
          rintro _ wC ⟨rfl, hBC⟩
          dsimp only
          have hLC := hLB.below hBC
          have hzC := (hBC.block z hLB.lt).trans hzB
          refine hK.out _ _ ?_ (fun hHeld => ?_)
          · (exact rowZ HRS.out hzC)
          clear hK K
          try simp only [Act.put, List.getElem_toArray, List.getElem_cons_zero, List.getElem_cons_succ, List.setIfInBounds_toArray, List.set_cons_zero, List.set_cons_succ]
          refine wpAnyH_ready (rs := [21]) (by kernel_rfl) (by simp) ?_
          refine AllReadyH.cons (o := _) rfl (fun K hK => ?_) ?_
          rotate_left 1
          · exact AllReadyH.nil
          go_simp
          go_at_call 66
          refine (logsHeadM r.tenant H hLC (by omega) HH1.out).mono ?_
          rintro _ wD ⟨rfl, hBD⟩
          dsimp only
          have hLD := hLC.below hBD
          have hzD := (hBD.block z hLC.lt).trans hzC
          refine hK.out _ _ ?_ (fun hHeld => ?_)
          · (exact rowZ HRS.out hzD)
          clear hK K
          try simp only [Act.put, List.getElem_toArray, List.getElem_cons_zero, List.getElem_cons_succ, List.setIfInBounds_toArray, List.set_cons_zero, List.set_cons_succ]
          refine wpAnyH_take (i := 22) (oi := _) (v := ?_) rfl (by kernel_rfl) (by kernel_rfl) (by kernel_rfl) (fun _ _ _ h => h) (Or.inl ⟨by rfl, ?_⟩) (by assumption) ?_
          rotate_left 1
          · (intro w hSw; (try dsimp only at hSw); go_simp; all_goals (with_reducible rfl))
          try simp only [Act.put, List.getElem_toArray, List.getElem_cons_zero, List.getElem_cons_succ, List.setIfInBounds_toArray, List.set_cons_zero, List.set_cons_succ]
          refine wpAnyH_take (i := 23) (oi := _) (v := ?_) rfl (by kernel_rfl) (by kernel_rfl) (by kernel_rfl) (fun _ _ _ h => h) (Or.inl ⟨by rfl, ?_⟩) (by assumption) ?_
          rotate_left 1
          · (intro w hSw; (try dsimp only at hSw); go_simp; all_goals (with_reducible rfl))
          try simp only [Act.put, List.getElem_toArray, List.getElem_cons_zero, List.getElem_cons_succ, List.setIfInBounds_toArray, List.set_cons_zero, List.set_cons_succ]
          refine wpAnyH_take (i := 24) (oi := _) (v := ?_) rfl (by kernel_rfl) (by kernel_rfl) (by kernel_rfl) (fun _ _ _ h => h) (Or.inl ⟨by rfl, ?_⟩) (by assumption) ?_
          rotate_left 1
          · (intro w hSw; (try dsimp only at hSw); go_simp; all_goals (with_reducible rfl))
          try simp only [Act.put, List.getElem_toArray, List.getElem_cons_zero, List.getElem_cons_succ, List.setIfInBounds_toArray, List.set_cons_zero, List.set_cons_succ]
          refine wpAnyH_take (i := 25) (oi := _) (v := ?_) rfl (by kernel_rfl) (by kernel_rfl) (by kernel_rfl) (fun _ _ _ h => h) (Or.inl ⟨by rfl, ?_⟩) (by assumption) ?_
          rotate_left 1
          · (intro w hSw; (try dsimp only at hSw); go_simp; all_goals (with_reducible rfl))
          try simp only [Act.put, List.getElem_toArray, List.getElem_cons_zero, List.getElem_cons_succ, List.setIfInBounds_toArray, List.set_cons_zero, List.set_cons_succ]
          refine wpAnyH_take (i := 26) (oi := _) (v := ?_) rfl (by kernel_rfl) (by kernel_rfl) (by kernel_rfl) (fun _ _ _ h => h) (Or.inl ⟨by rfl, ?_⟩) (by assumption) ?_
          rotate_left 1
          · (intro w hSw; (try dsimp only at hSw); go_simp; all_goals (with_reducible rfl))
          try simp only [Act.put, List.getElem_toArray, List.getElem_cons_zero, List.getElem_cons_succ, List.setIfInBounds_toArray, List.set_cons_zero, List.set_cons_succ]
          refine wpAnyH_take (i := 27) (oi := _) (v := ?_) rfl (by kernel_rfl) (by kernel_rfl) (by kernel_rfl) (fun _ _ _ h => h) (Or.inl ⟨by rfl, ?_⟩) (by assumption) ?_
          rotate_left 1
          · (intro w hSw; (try dsimp only at hSw); go_simp; all_goals (with_reducible rfl))
          try simp only [Act.put, List.getElem_toArray, List.getElem_cons_zero, List.getElem_cons_succ, List.setIfInBounds_toArray, List.set_cons_zero, List.set_cons_succ]
          refine wpAnyH_take (i := 29) (oi := _) (v := ?_) rfl (by kernel_rfl) (by kernel_rfl) (by kernel_rfl) (fun _ _ _ h => h) (Or.inl ⟨by rfl, ?_⟩) (by assumption) ?_
          rotate_left 1
          · (intro w hSw; (try dsimp only at hSw); go_simp; all_goals (with_reducible rfl))
          try simp only [Act.put, List.getElem_toArray, List.getElem_cons_zero, List.getElem_cons_succ, List.setIfInBounds_toArray, List.set_cons_zero, List.set_cons_succ]
          refine wpAnyH_take (i := 30) (oi := _) (v := ?_) rfl (by kernel_rfl) (by kernel_rfl) (by kernel_rfl) (fun _ _ _ h => h) (Or.inl ⟨by rfl, ?_⟩) (by assumption) ?_
          rotate_left 1
          · (intro w hSw; (try dsimp only at hSw); go_simp; all_goals (with_reducible rfl))
          try simp only [Act.put, List.getElem_toArray, List.getElem_cons_zero, List.getElem_cons_succ, List.setIfInBounds_toArray, List.set_cons_zero, List.set_cons_succ]
          refine wpAnyH_take (i := 31) (oi := _) (v := ?_) rfl (by kernel_rfl) (by kernel_rfl) (by kernel_rfl) (fun _ _ _ h => h) (Or.inl ⟨by rfl, ?_⟩) (by assumption) ?_
          rotate_left 1
          · (intro w hSw; (try dsimp only at hSw); go_simp; all_goals (with_reducible rfl))
          try simp only [Act.put, List.getElem_toArray, List.getElem_cons_zero, List.getElem_cons_succ, List.setIfInBounds_toArray, List.set_cons_zero, List.set_cons_succ]
          refine wpAnyH_ready (rs := [28]) (by kernel_rfl) (by simp) ?_
          refine AllReadyH.cons (o := _) rfl (fun K hK => ?_) ?_
          rotate_left 1
          · exact AllReadyH.nil
          go_simp
          go_at_call 74
          refine (logsCountG r.tenant N hLD HTL.out (by omega) HN1.out).mono ?_
          rintro _ wE ⟨rfl, rfl⟩
          dsimp only
          refine hK.out _ _ ?_ (fun hHeld => ?_)
          · (exact rowZ HRS.out hzD)
          clear hK K
          try simp only [Act.put, List.getElem_toArray, List.getElem_cons_zero, List.getElem_cons_succ, List.setIfInBounds_toArray, List.set_cons_zero, List.set_cons_succ]
          refine wpAnyH_ready (rs := [32]) (by kernel_rfl) (by simp) ?_
          refine AllReadyH.cons (o := _) rfl (fun K hK => ?_) ?_
          rotate_left 1
          · exact AllReadyH.nil
          go_simp
          go_at_call 75
          refine (logsCountM r.tenant N hLD (by omega) HN1.out).mono ?_
          rintro _ wF ⟨rfl, rfl⟩
          dsimp only
          refine hK.out _ _ ?_ (fun hHeld => ?_)
          · (exact rowZ HRS.out hzD)
          clear hK K
          try simp only [Act.put, List.getElem_toArray, List.getElem_cons_zero, List.getElem_cons_succ, List.setIfInBounds_toArray, List.set_cons_zero, List.set_cons_succ]
          refine wpAnyH_take (i := 33) (oi := _) (v := ?_) rfl (by kernel_rfl) (by kernel_rfl) (by kernel_rfl) (fun _ _ _ h => h) (Or.inl ⟨by rfl, ?_⟩) (by assumption) ?_
          rotate_left 1
          · (intro w hSw; (try dsimp only at hSw); go_simp; all_goals (with_reducible rfl))
          try simp only [Act.put, List.getElem_toArray, List.getElem_cons_zero, List.getElem_cons_succ, List.setIfInBounds_toArray, List.set_cons_zero, List.set_cons_succ]
          refine wpAnyH_take (i := 34) (oi := _) (v := ?_) rfl (by kernel_rfl) (by kernel_rfl) (by kernel_rfl) (fun _ _ _ h => h) (Or.inl ⟨by rfl, ?_⟩) (by assumption) ?_
          rotate_left 1
          · (intro w hSw; (try dsimp only at hSw); go_simp; all_goals (with_reducible rfl))
          try simp only [Act.put, List.getElem_toArray, List.getElem_cons_zero, List.getElem_cons_succ, List.setIfInBounds_toArray, List.set_cons_zero, List.set_cons_succ]
          refine wpAnyH_done (by kernel_rfl) ?_ _
          refine NoPanic.normal ?_
          (repeat' ((fail_if_success at_builtin); first | go_values | go_skip | go_guarded | go_step | go_upon))
          go_meet
          exact ⟨rfl, hLD, hzD⟩
      case rest =>
        obtain ⟨rfl, hL7, hz7⟩ := hcut
        obtain ⟨l, hl⟩ : ∃ l, told (f' r.tenant) r.fr r.many = l := ⟨_, rfl⟩
        have hls : ∀ x ∈ l, x.sum.length = 32 := fun x hx => HFIT1.out x (told_mem (by rw [hl]; exact hx))
        have hll : l.length ≤ 64 := by rw [← hl, told_length]; unfold toldN; omega
        have HE := Lib.hid hl
        have HLS := Lib.hid hls
        have HL7 := Lib.hid hL7
        have HQ7 := Lib.hid (rowZ HRS.out hz7)
        have hc7 := rw_cell (rangeAt_whole hz7) HRS.out
        rw [Nat.zero_add, Nat.zero_add] at hc7
        have hf7 := HRK.out.fr
        have hm7 := HRK.out.many
        have HC7 := Lib.hid hc7
        have hzlt := hL7.lt
        have HZ7 := Lib.hid hz7
        clear hl hls hL7 hz7 hS0 hneqE hneqH
        have c0 := HC7.out.1
        have c40 := HC7.out.2.2.1
        have c41 := HC7.out.2.2.2
        clear hc7
        (repeat' ((fail_if_success at_builtin); first | go_values | go_skip | go_guarded | go_step | go_upon))
        refine (logsRowsG r.tenant r.fr r.many l HL7.out HTL.out (by omega) hf7 hm7 HE.out).mono ?_
        rintro _ w8 ⟨a8, c8, rfl, hc8, hm8, _, hB8, hO8⟩
        dsimp only
        clear c0 c40 c41
        have hz8 := (hB8.block z hzlt).trans HZ7.out
        have hc8' := rw_cell (rangeAt_whole hz8) HRS.out
        rw [Nat.zero_add, Nat.zero_add] at hc8'
        have c0 := hc8'.1
        have c40 := hc8'.2.2.1
        have c41 := hc8'.2.2.2
        clear hc8'
        have HO8 := Lib.hid hO8
        have HZ8 := Lib.hid hz8
        clear hO8 hz8
        (repeat' ((fail_if_success at_builtin); first | go_values | go_skip | go_guarded | go_step | go_upon))
        refine (logsRowsM r.tenant r.fr r.many l (HL7.out.below hB8) (by omega) hf7 hm7 (HNUM1.out _) HE.out).mono ?_
        rintro _ w9 ⟨a9, c9, rfl, hc9, hm9, hr9, hB9, hO9⟩
        dsimp only
        clear c0 c40 c41
        have HR9 := Lib.hid hr9
        have HO9 := Lib.hid hO9
        have HO89 := Lib.hid (owns_block HO8.out (fun j hj => hB9.block j (owns_range HO8.out j hj).2))
        clear hr9 hO9
        (repeat' ((fail_if_success at_builtin); first | go_values | go_skip | go_guarded | go_step | go_upon))
        refine (sameEntries a8 a9 l.length l.length c8 c9 l l w9 (rdc_of_owns HO89.out) HR9.out HLS.out HLS.out rfl rfl (by omega)).mono ?_
        rintro _ w10 ⟨rfl, hSt⟩
        dsimp only
        have td : decide (l = l) = true := decide_eq_true rfl
        have HO8a := Lib.hid (owns_still HO89.out hSt)
        have HO9a := Lib.hid (owns_still HO9.out hSt)
        have hBa := hSt.below
        clear hSt HR9
        (repeat' ((fail_if_success at_builtin); first | go_values | go_skip | go_guarded | go_step | go_upon))
        refine (spoilEntries _ l.length c8 a8 _ w10 HO8a.out (by omega)).mono ?_
        rintro _ w11 ⟨rfl, hF⟩
        dsimp only
        have hown : ∀ j, (Value.slice a8 l.length c8).ownBlock = some j → _ := fun j hj => owns_range HO8.out j hj
        have hB7a : Below wc.heap.size wc w10 := (hB8.trans (hB9.mono hB8.size)).trans (hBa _)
        have hB7b : Below wc.heap.size wc w11 := hB7a.trans (hF.belowOf hB7a.size (fun j hj => (hown j hj).1))
        have HO9b := Lib.hid (owns_block HO9a.out (fun j hj => hF.block j (owns_range HO9a.out j hj).2 (fun h2 => by
          have q1 := (owns_range HO9.out j hj).1
          have q2 := (hown j h2).2
          omega)))
        have hzb := (hB7b.block z hzlt).trans HZ7.out
        have hcb := rw_cell (rangeAt_whole hzb) HRS.out
        rw [Nat.zero_add, Nat.zero_add] at hcb
        have c0 := hcb.1
        have c40 := hcb.2.2.1
        have c41 := hcb.2.2.2
        clear hcb hzb hF HO8a HO9a HO89 HO8
        (repeat' ((fail_if_success at_builtin); first | go_values | go_skip | go_guarded | go_step | go_upon))
        refine (logsRowsG r.tenant r.fr r.many l (HL7.out.below hB7b) HTL.out (by omega) hf7 hm7 HE.out).mono ?_
        rintro _ w12 ⟨a12, c12, rfl, hc12, hm12, hr12, hB12, _⟩
        dsimp only
        have HR12 := Lib.hid hr12
        clear hr12 c0 c40 c41
        (repeat' ((fail_if_success at_builtin); first | go_values | go_skip | go_guarded | go_step | go_upon))
        refine (sameEntries a12 a9 l.length l.length c12 c9 l l w12 HR12.out ((rdc_of_owns HO9b.out).below hB12 (Nat.le_refl _)) HLS.out HLS.out rfl rfl (by omega)).mono ?_
        rintro _ w13 ⟨rfl, hSt⟩
        dsimp only
        have hN : RunI w g o m (k + 1) w13 := ⟨f', (HL7.out.below (hB7b.trans ((hB12.mono hB7b.size).trans (hSt.below _)))).zero hts, HNUM1.out⟩
        have HN := Lib.hid hN
        clear hN hSt HR12 HO9b
        (repeat' ((fail_if_success at_builtin); first | go_values | go_skip | go_guarded | go_step | go_upon))
        go_roundw
        case rel => exact ⟨k + 1, by omega, by go_num, HN.out⟩
        case measure => simp [intOf]; omega
    · obtain ⟨So, hO⟩ := HLG.out.O
      have HO := Lib.hid hO
      clear hO
      have hann : (⟨#[97, 110, 110]⟩ : ByteArray).size ≤ maxLen := by unfold maxLen; decide
      (repeat' ((fail_if_success at_builtin); first | go_values | go_skip | go_guarded | go_step | go_upon))
      refine (emptyCount ⟨#[97, 110, 110]⟩ HO.out hann).mono ?_
      rintro _ w4 ⟨rfl, rfl⟩
      dsimp only
      (repeat' ((fail_if_success at_builtin); first | go_values | go_skip | go_guarded | go_step | go_upon))
      refine (emptyHead ⟨#[97, 110, 110]⟩ HO.out hann).mono ?_
      rintro _ w5 ⟨rfl, hB5⟩
      dsimp only
      have heqZ : ∀ w, (binOp .eql 26 (.agg (bvs zeros32).toArray) (.agg #[.int .u8 0, .int .u8 0, .int .u8 0, .int .u8 0, .int .u8 0, .int .u8 0, .int .u8 0, .int .u8 0, .int .u8 0, .int .u8 0, .int .u8 0, .int .u8 0, .int .u8 0, .int .u8 0, .int .u8 0, .int .u8 0, .int .u8 0, .int .u8 0, .int .u8 0, .int .u8 0, .int .u8 0, .int .u8 0, .int .u8 0, .int .u8 0, .int .u8 0, .int .u8 0, .int .u8 0, .int .u8 0, .int .u8 0, .int .u8 0, .int .u8 0, .int .u8 0])).run Tryd.prog w = .ok (.bool true) w := fun w => eqSumSame zeros32 rfl w
      (repeat' ((fail_if_success at_builtin); first | go_values | go_skip | go_guarded | go_step | go_upon))
      refine (emptyRows ⟨#[97, 110, 110]⟩ (HO.out.below hB5) hann).mono ?_
      rintro _ w6 ⟨⟨a6, c6, rfl⟩, hB6⟩
      dsimp only
      have hB06 : Below w.heap.size w w6 := hB.trans ((hB5.trans (hB6.mono hB5.size)).mono hB.size)
      (repeat' ((fail_if_success at_builtin); first | go_values | go_skip | go_guarded | go_step | go_upon))
      refine (works21 w6 (HT.out.below hB06 hts)).mono ?_
      rintro _ w7 ⟨rfl, hB7⟩
      dsimp only
      (repeat' ((fail_if_success at_builtin); first | go_values | go_skip | go_guarded | go_step | go_upon))
      go_ret
      exact ⟨rfl, hB06.trans (hB7.mono hB06.size)⟩

end Go.Proofs.YtdpfemhfmofmlaaDoor
