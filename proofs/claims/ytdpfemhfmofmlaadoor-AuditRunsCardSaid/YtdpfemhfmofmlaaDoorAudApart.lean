/- The law AuditApart, walked. -/
import Derived.Test.YtdpfemhfmofmlaaDoorWorks21
import Derived.Test.YtdpfemhfmofmlaaDoorRowT
import Derived.Test.YtdpfemhfmofmlaaDoorKitF
namespace Go.Proofs.YtdpfemhfmofmlaaDoor
set_option linter.unusedSimpArgs false
set_option linter.unusedVariables false
open Go.RowKit
set_option maxRecDepth 10000
--@PUT2

theorem beqYes (t s : ByteArray) (h : t = s) : (t.toList == s.toList) = true := by rw [h]; simp
theorem beqNo (t s : ByteArray) (h : t ≠ s) : (t.toList == s.toList) = false := by
  rw [ByteArray.toList_eq, ByteArray.toList_eq]
  simp only [beq_eq_false_iff_ne, ne_eq]
  exact fun h2 => h (by cases t; cases s; simp at h2; simp [h2])
theorem rw_cell {w : World} {b o : Nat} {r : Rw} (h : w.rangeAt b o r.cells) (hs : r.e.sum.length = 32) : w.cell? ⟨b, o, none⟩ = some (.string r.tenant) ∧ w.rangeAt b (o + 1) r.e.cells ∧ w.cell? ⟨b, o + 40, none⟩ = some (.int .i64 r.fr) ∧ w.cell? ⟨b, o + 41, none⟩ = some (.int .i64 r.many) := by
  have hel := Ent.cells_length hs
  refine ⟨h 0 _ rfl, fun j v hj => ?_, h 40 _ ?_, h 41 _ ?_⟩
  · have hj' : j < 39 := by rw [← hel]; exact (List.getElem?_eq_some_iff.1 hj).1
    have := h (j + 1) v (by unfold Rw.cells; rw [List.getElem?_cons_succ, List.getElem?_append_left (by rw [hel]; omega)]; exact hj)
    rw [show o + 1 + j = o + (j + 1) by omega]
    exact this
  · unfold Rw.cells; rw [List.getElem?_cons_succ, List.getElem?_append_right (by rw [hel]; omega), hel]; rfl
  · unfold Rw.cells; rw [List.getElem?_cons_succ, List.getElem?_append_right (by rw [hel]; omega), hel]; rfl
abbrev RwS (w : World) (b o : Nat) (r : Rw) (w' : World) : Prop := (w'.cell? ⟨b, o, none⟩ = some (.string r.tenant) ∧ w'.rangeAt b (o + 1) r.e.cells) ∧ Below w.heap.size w w'
theorem rwS {w w' : World} {b o : Nat} {r : Rw} (h : w.rangeAt b o r.cells) (hs : r.e.sum.length = 32) (hB : Below w.heap.size w w') : RwS w b o r w' :=
  have h1 := rw_cell (rangeAt_below h hB (Nat.le_refl _)) hs
  ⟨⟨h1.1, h1.2.1⟩, hB⟩

abbrev WasS (w8 : World) (z : Nat) (H : List UInt8) (w' : World) : Prop := w'.rangeAt z 0 (bvs H) ∧ Below w8.heap.size w8 w'
theorem wasS_below {w8 w1 w2 : World} {z : Nat} {H : List UInt8} (h : WasS w8 z H w1) (hb : Below w1.heap.size w1 w2) : WasS w8 z H w2 :=
  ⟨rangeAt_below h.1 hb (Nat.le_refl _), h.2.trans (hb.mono h.2.size)⟩

/-- While steps go: two logs, that tell the same of one tenant. -/
structure TwoL (w : World) (g o : Nat) (who : ByteArray) (k : Nat) (wr : World) : Prop where
  out : ∃ (S S' : Nat → Prop) (f f' : ByteArray → List Ent) (c : Nat), LogAt wr S g k f ∧ LogAt wr S' o c f' ∧ c ≤ k ∧ f' who = f who ∧ (∀ j, S j → w.heap.size ≤ j) ∧ (∀ j, S' j → w.heap.size ≤ j) ∧ (∀ j, S j → ¬ S' j) ∧ Below w.heap.size w wr

set_option maxHeartbeats 8000000 in
theorem auditApart_walk (a : Option Addr) (n c : Nat) (xs : List Rw) (who : ByteArray) (w : World) (hT : Tabs w) (hr : RdC w a (xs.flatMap Rw.cells)) (hok : ∀ x ∈ xs, x.Ok) (en : xs.length = n) (hn : n ≤ maxLen) :
    Calls Tryd.prog 18 #[.slice a n c, .string who] w fun e w' => e = .returned (.bool true) ∧ Below w.heap.size w w' := by
  have hts := hT.size
  have HT := Lib.hid hT; clear hT
  have hn9 : (n : Int) ≤ 9223372036854775807 := by unfold maxLen at hn; omega
  by_cases h1 : 100 < n
  · go_enter Tryd.func18, Tryd.ntmps18
    (repeat' ((fail_if_success at_builtin); first | go_values | go_skip | go_guarded | go_step | go_upon))
    refine (works21 w HT.out).mono ?_
    rintro _ w1 ⟨rfl, hB1⟩
    dsimp only
    (repeat' ((fail_if_success at_builtin); first | go_values | go_skip | go_guarded | go_step | go_upon))
    go_ret
    exact ⟨rfl, hB1⟩
  by_cases h2 : 512 < who.size
  · go_enter Tryd.func18, Tryd.ntmps18
    (repeat' ((fail_if_success at_builtin); first | go_values | go_skip | go_guarded | go_step | go_upon))
    refine (works21 w HT.out).mono ?_
    rintro _ w1 ⟨rfl, hB1⟩
    dsimp only
    (repeat' ((fail_if_success at_builtin); first | go_values | go_skip | go_guarded | go_step | go_upon))
    go_ret
    exact ⟨rfl, hB1⟩
  subst en
  have hwl : who.size ≤ maxLen := by unfold maxLen; omega
  have hsum : ∀ x ∈ xs, x.e.sum.length = 32 := fun x hx => (hok x hx).e.sum
  have HR := Lib.hid hr; clear hr
  have HOK := Lib.hid hok; clear hok
  have HSUM := Lib.hid hsum; clear hsum
  have HWL := Lib.hid hwl; clear hwl
  obtain ⟨iE, zE, hiE, hzE, hsE, hbE, hcE⟩ := entInfo_parts
  have HIE := Lib.hid hiE; clear hiE
  have HZE := Lib.hid hzE; clear hzE
  have HSE := Lib.hid hsE; clear hsE
  obtain ⟨iS, zS, hiS, hzS, hcS⟩ := fresh_parts zeroSum
  have HIS := Lib.hid hiS; clear hiS
  have HZS := Lib.hid hzS; clear hzS
  have HCS := Lib.hid hcS; clear hcS
  clear hbE hcE
  have hu73 : Tryd.prog.underlying 73 = some _ := Tryd.underlying73
  have hu26 : Tryd.prog.underlying 26 = some _ := Tryd.underlying26
  go_enter Tryd.func18, Tryd.ntmps18
  (repeat' ((fail_if_success at_builtin); first | go_values | go_skip | go_guarded | go_step | go_upon))
  refine (auditNew w).mono ?_
  rintro _ w1 ⟨g, rfl, hL1, hB1⟩
  dsimp only
  have HL1 := Lib.hid hL1; clear hL1
  (repeat' ((fail_if_success at_builtin); first | go_values | go_skip | go_guarded | go_step | go_upon))
  refine (auditNew w1).mono ?_
  rintro _ w2 ⟨o, rfl, hL2, hB2⟩
  dsimp only
  have HL2 := Lib.hid (show TwoL w g o who 0 w2 from ⟨⟨_, _, _, _, 0, HL1.out.below hB2, hL2, Nat.le_refl _, rfl, fun j hj => hj.1, fun j hj => Nat.le_trans hB1.size hj.1, fun j hj hj' => Nat.lt_irrefl _ (Nat.lt_of_lt_of_le hj.2 hj'.1), hB1.trans (hB2.mono hB1.size)⟩⟩)
  clear hL2 HL1 hB1 hB2
  (repeat' ((fail_if_success at_builtin); first | go_values | go_skip | go_guarded | go_step | go_upon))
  go_loopw [7] (fun i wr => ∃ k : Nat, k ≤ xs.length ∧ i = .int .i64 k ∧ TwoL w g o who k wr) (fun i _ => xs.length - (intOf i).toNat)
  case atStart => exact ⟨0, by omega, rfl, HL2.out⟩
  case round =>
    obtain ⟨k, hk, rfl, hL⟩ := hrel
    obtain ⟨S, S', f, f', c', h3, h4, h5, h6, h7, h8, h9, hB⟩ := hL.out
    have HG := Lib.hid h3; clear h3
    have HO := Lib.hid h4; clear h4
    have H6 := Lib.hid h6; clear h6
    have H7 := Lib.hid h7; clear h7
    have H8 := Lib.hid h8; clear h8
    have H9 := Lib.hid h9; clear h9
    clear hL HL2
    by_cases hlt : k < xs.length
    · obtain ⟨b, off, hba, hrr, _, _, _, _⟩ := rws_at HR.out HSUM.out k hlt
      have HM := List.getElem_mem hlt
      generalize xs[k] = r at *
      have hrk := HOK.out r HM
      have hrs : r.e.sum.length = 32 := hrk.e.sum
      have HRK := Lib.hid hrk; clear hrk
      have HRS := Lib.hid hrs
      have HRR := Lib.hid hrr; clear hrr
      have HIE2 := Lib.hid (show (Tryd.prog.info? 73).map (·.size) = some r.e.cells.length by rw [Ent.cells_length hrs]; exact entSize)
      clear hrs
      have bk : (0 : Int) ≤ (k : Int) ∧ (k : Int) < (xs.length : Int) := by omega
      have HC0 := Lib.hid (rw_cell (rangeAt_below HRR.out hB (Nat.le_refl _)) HRS.out)
      subst hba
      (repeat' ((fail_if_success at_builtin); first | (first | (with_reducible refine wpList_load_mid rfl 73 _ rfl b (off + k * 42 + 1) rfl r.e.cells _ HC0.out.2.1 hu73 rfl HIE2.out ?_) | ((with_reducible refine wpList_build_one rfl 68 73 _ rfl Tryd.underlying68 r.e.cells rfl iE zE HIE.out HZE.out (by rw [Ent.cells_length HRS.out];exact HSE.out) (by rw [Ent.cells_length HRS.out];omega) (by rw [Ent.cells_length HRS.out];omega) ?_); intro w3 hg3 hB3 hs3; have HG3 := Lib.hid hg3; clear hg3)) | go_values | go_skip | go_guarded | go_step | go_upon))
      refine (big21 (some ⟨wr.heap.size, 0, none⟩) 1 1 [r.e] w3 (by rw [List.flatMap_singleton]; exact rd_rowC HG3.out) (fun x hx => by rw [List.mem_singleton.1 hx]; exact HRS.out) rfl).mono ?_
      rintro _ w4 ⟨rfl, hB4⟩
      have hbg : decide (100 < 1 ∨ ∃ x ∈ [r.e], x.big) = decide r.e.big := by simp
      rw [hbg]
      dsimp only
      have hB04 : Below w.heap.size w w4 := (hB.trans (hB3.mono hB.size)).trans (hB4.mono (Nat.le_trans hB.size hB3.size))
      have hBr4 : Below wr.heap.size wr w4 := hB3.trans (hB4.mono hB3.size)
      have c4 := (rw_cell (rangeAt_below HRR.out hB04 (Nat.le_refl _)) HRS.out).1
      clear HG3 hB3 hB4 hs3 hbg
      by_cases hb : r.e.big
      · have t1 : decide r.e.big = true := decide_eq_true hb
        (repeat' ((fail_if_success at_builtin); first | go_values | go_skip | go_guarded | go_step | go_upon))
        refine (works21 w4 (HT.out.below hB04 hts)).mono ?_
        rintro _ w5 ⟨rfl, hB5⟩
        dsimp only
        (repeat' ((fail_if_success at_builtin); first | go_values | go_skip | go_guarded | go_step | go_upon))
        go_ret
        exact ⟨rfl, hB04.trans (hB5.mono hB04.size)⟩
      have t1 : decide r.e.big = false := decide_eq_false hb
      by_cases ht : 512 < r.tenant.size
      · (repeat' ((fail_if_success at_builtin); first | go_values | go_skip | go_guarded | go_step | go_upon))
        refine (works21 w4 (HT.out.below hB04 hts)).mono ?_
        rintro _ w5 ⟨rfl, hB5⟩
        dsimp only
        (repeat' ((fail_if_success at_builtin); first | go_values | go_skip | go_guarded | go_step | go_upon))
        go_ret
        exact ⟨rfl, hB04.trans (hB5.mono hB04.size)⟩
      have HFIT := Lib.hid (fit_of_small HRK.out.e hb)
      obtain ⟨H, hH⟩ : ∃ H, headOf (f who) = H := ⟨_, rfl⟩
      have hHl : (bvs H).length = 32 := by rw [bvs_length, ← hH]; exact headOf_length _ (fun x hx => (HG.out.rows who x hx).ok)
      have HH := Lib.hid hH; clear hH
      have HIH := Lib.hid (show (Tryd.prog.info? 26).map (·.size) = some (bvs H).length by rw [hHl]; exact sizeSum)
      have HFH := Lib.hid (show 0 + (bvs H).length ≤ (List.replicate 32 (Value.int .u8 0)).toArray.size by rw [hHl]; simp)
      have HHO := Lib.hid (bvs_oneCell H)
      have HHL := Lib.hid hHl; clear hHl
      (repeat' ((fail_if_success at_builtin); first | go_values | go_skip | go_guarded | go_step | go_upon))
      refine (auditHead S g k f who H w4 (HG.out.below hBr4) HWL.out (by omega) HH.out).mono ?_
      rintro _ w5 ⟨rfl, hB5⟩
      dsimp only
      have hBr5 : Below wr.heap.size wr w5 := hBr4.trans (hB5.mono hBr4.size)
      clear hB5 c4
      (repeat' ((fail_if_success at_builtin); first | (first | ((with_reducible refine wpList_alloc_fresh (w := w5) rfl 26 rfl _ iS zS HIS.out HZS.out HCS.out ?_); intro w6 hg6 hB6 hs6; have HG6 := Lib.hid hg6; clear hg6; have HS6 := Lib.hid hs6; clear hs6) | ((with_reducible refine wpList_store_blk rfl 26 _ _ rfl w5.heap.size 0 (bvs H) rfl rfl _ _ HG6.out HFH.out HIH.out HHO.out ?_); intro w7 hg7 hG7; rw [splice_whole _ _ (by rw [HHL.out];simp)] at hg7; have HG7 := Lib.hid hg7; clear hg7 HG6)) | go_values | go_skip | go_guarded | go_step | go_upon))
      have hB67 : Below w5.heap.size w5 w7 := hB6.grown hG7 (by rw [HS6.out]; omega) (fun j e => by cases e; exact Nat.le_refl _)
      have hz57 : w5.heap.size < w7.heap.size := by have := hG7.size; have := HS6.out; omega
      have hBr7 : Below wr.heap.size wr w7 := hBr5.trans (hB67.mono hBr5.size)
      have hB07 : Below w.heap.size w w7 := hB.trans (hBr7.mono hB.size)
      clear hB6 hG7 HS6 hB67
      have hS0 : RwS w b (off + k * 42) r w7.drew := rwS HRR.out HRS.out hB07.drew
      have hS0T := HT.out
      have hie2 := HIE2.out
      have hB78 : ∀ w8, Frm w7.drew.heap.size S w7.drew w8 → Below w.heap.size w w8 := fun w8 hF => hB07.drew.trans (hF.belowOf hB07.size (fun k hk => H7.out k hk))
      refine wp_region_noPanic ?_
      refine wp_region_held_drew (S := RwS w b (off + k * 42) r) (by kernel_rfl) ?_ (fun hHeld => ?_)
      · (exact hS0)
      refine wpAnyH_take (i := 0) (oi := _) (v := ?_) rfl (by kernel_rfl) (by kernel_rfl) (by kernel_rfl) (fun _ _ _ h => h) (Or.inl ⟨by rfl, ?_⟩) (by assumption) ?_
      rotate_left 1
      · (intro w hSw; (try dsimp only at hSw); go_simp; all_goals (with_reducible rfl))
      try simp only [Act.put, List.getElem_toArray, List.getElem_cons_zero, List.getElem_cons_succ, List.setIfInBounds_toArray, List.set_cons_zero, List.set_cons_succ]
      refine wpAnyH_take (i := 1) (oi := _) (v := ?_) rfl (by kernel_rfl) (by kernel_rfl) (by kernel_rfl) (fun _ _ _ h => h) (Or.inl ⟨by rfl, ?_⟩) (by assumption) ?_
      rotate_left 1
      · (intro w hSw; (try dsimp only at hSw); go_simp; all_goals (with_reducible rfl))
      try simp only [Act.put, List.getElem_toArray, List.getElem_cons_zero, List.getElem_cons_succ, List.setIfInBounds_toArray, List.set_cons_zero, List.set_cons_succ]
      refine wpAnyH_take (i := 2) (oi := _) (v := ?_) rfl (by kernel_rfl) (by kernel_rfl) (by kernel_rfl) (fun _ _ _ h => h) (Or.inl ⟨by rfl, ?_⟩) (by assumption) ?_
      rotate_left 1
      · (intro w hSw; (try dsimp only at hSw); go_simp; all_goals (with_reducible rfl))
      try simp only [Act.put, List.getElem_toArray, List.getElem_cons_zero, List.getElem_cons_succ, List.setIfInBounds_toArray, List.set_cons_zero, List.set_cons_succ]
      refine wpAnyH_take (i := 3) (oi := _) (v := ?_) rfl (by kernel_rfl) (by kernel_rfl) (by kernel_rfl) (fun _ _ _ h => h) (Or.inl ⟨by rfl, ?_⟩) (by assumption) ?_
      rotate_left 1
      · (intro w hSw; (try dsimp only at hSw); go_simp; all_goals (with_reducible rfl))
      try simp only [Act.put, List.getElem_toArray, List.getElem_cons_zero, List.getElem_cons_succ, List.setIfInBounds_toArray, List.set_cons_zero, List.set_cons_succ]
      refine wpAnyH_take (i := 4) (oi := _) (v := ?_) rfl (by kernel_rfl) (by kernel_rfl) (by kernel_rfl) (fun _ _ _ h => h) (Or.inl ⟨by rfl, ?_⟩) (by assumption) ?_
      rotate_left 1
      · (intro w hSw; (try dsimp only at hSw); go_simp; all_goals (with_reducible rfl))
      try simp only [Act.put, List.getElem_toArray, List.getElem_cons_zero, List.getElem_cons_succ, List.setIfInBounds_toArray, List.set_cons_zero, List.set_cons_succ]
      refine wpAnyH_take (i := 5) (oi := _) (v := ?_) rfl (by kernel_rfl) (by kernel_rfl) (by kernel_rfl) (fun _ _ _ h => h) (Or.inl ⟨by rfl, ?_⟩) (by assumption) ?_
      rotate_left 1
      · (intro w hSw; (try dsimp only at hSw); go_simp; all_goals (with_reducible rfl))
      try simp only [Act.put, List.getElem_toArray, List.getElem_cons_zero, List.getElem_cons_succ, List.setIfInBounds_toArray, List.set_cons_zero, List.set_cons_succ]
      refine wpAnyH_take (i := 6) (oi := _) (v := ?_) rfl (by kernel_rfl) (by kernel_rfl) (by kernel_rfl) (fun _ _ _ h => h) (Or.inl ⟨by rfl, ?_⟩) (by assumption) ?_
      rotate_left 1
      · (intro w hSw; (try dsimp only at hSw); go_simp; all_goals (with_reducible rfl))
      try simp only [Act.put, List.getElem_toArray, List.getElem_cons_zero, List.getElem_cons_succ, List.setIfInBounds_toArray, List.set_cons_zero, List.set_cons_succ]
      refine wpAnyH_take (i := 7) (oi := _) (v := ?_) rfl (by kernel_rfl) (by kernel_rfl) (by kernel_rfl) (fun _ _ _ h => h) (Or.inl ⟨by rfl, ?_⟩) (by assumption) ?_
      rotate_left 1
      · (intro w hSw; (try dsimp only at hSw); go_simp; all_goals (with_reducible rfl))
      try simp only [Act.put, List.getElem_toArray, List.getElem_cons_zero, List.getElem_cons_succ, List.setIfInBounds_toArray, List.set_cons_zero, List.set_cons_succ]
      refine wpAnyH_take (i := 8) (oi := _) (v := ?_) rfl (by kernel_rfl) (by kernel_rfl) (by kernel_rfl) (fun _ _ _ h => h) (Or.inl ⟨by rfl, ?_⟩) (by assumption) ?_
      rotate_left 1
      · (intro w hSw; (try dsimp only at hSw); go_simp; all_goals (with_reducible rfl))
      try simp only [Act.put, List.getElem_toArray, List.getElem_cons_zero, List.getElem_cons_succ, List.setIfInBounds_toArray, List.set_cons_zero, List.set_cons_succ]
      refine wpAnyH_take (i := 9) (oi := _) (v := ?_) rfl (by kernel_rfl) (by kernel_rfl) (by kernel_rfl) (fun _ _ _ h => h) (Or.inl ⟨by rfl, ?_⟩) (by assumption) ?_
      rotate_left 1
      · (intro w hSw; (try dsimp only at hSw); go_simp; all_goals (with_reducible rfl))
      try simp only [Act.put, List.getElem_toArray, List.getElem_cons_zero, List.getElem_cons_succ, List.setIfInBounds_toArray, List.set_cons_zero, List.set_cons_succ]
      refine' wpAnyH_take (i := 10) (oi := _) (v := _) rfl (by kernel_rfl) (by kernel_rfl) (by kernel_rfl) (fun _ _ _ h => h) (yieldsIf_load_mid (by rfl) _ _ rfl _ _ rfl _ _ ?ls1 ?lu1 ?ld1 ?li1) (by assumption) ?lr1
      case ls1 => (intro w hSw; (try dsimp only at hSw); go_split_ands; assumption)
      case lu1 => assumption
      case ld1 => rfl
      case li1 => first | assumption | (simp only [*]; done)
      try simp only [Act.put, List.getElem_toArray, List.getElem_cons_zero, List.getElem_cons_succ, List.setIfInBounds_toArray, List.set_cons_zero, List.set_cons_succ]
      refine wpAnyH_ready (rs := [11]) (by kernel_rfl) (by simp) ?_
      refine AllReadyH.cons (o := _) rfl (fun K hK => ?_) ?_
      rotate_left 1
      · exact AllReadyH.nil
      go_simp
      go_at_call 72
      refine (auditAdd S g k f r.tenant r.e _ _ (HG.out.below hBr7.drew) (hS0T.below hB07.drew hts) (by unfold maxLen;omega) (by omega) HFIT.out rfl).mono ?_
      rintro _ w8 ⟨rfl, hL8, hF8⟩
      dsimp only
      have hB08 := hB78 w8 hF8
      refine hK.out _ _ ?_ (fun hHeld => ?_)
      · (exact rwS HRR.out HRS.out hB08)
      clear hK K
      try simp only [Act.put, List.getElem_toArray, List.getElem_cons_zero, List.getElem_cons_succ, List.setIfInBounds_toArray, List.set_cons_zero, List.set_cons_succ]
      refine wpAnyH_done (by kernel_rfl) ?_ _
      refine NoPanic.normal ?_
      have hs78 : w7.heap.size ≤ w8.heap.size := hF8.size
      have hswr : wr.heap.size ≤ w7.heap.size := hBr7.size
      have hg8 := (hF8.block w5.heap.size hz57 (fun hs => by have := HG.out.low _ hs; have := hBr5.size; omega)).trans HG7.out
      have HG8 := Lib.hid hg8; clear hg8
      have HO8 := Lib.hid ((HO.out.below hBr7.drew).frm hF8 (fun j hj hs => H9.out j hs hj))
      have HLG := Lib.hid hL8; clear hL8
      have hcell8 := hHeld.1.1
      have hent8 := hHeld.1.2
      clear hHeld hS0 hS0T hB78 HG7 hF8
      have HC8 := Lib.hid hent8; clear hent8
      by_cases heq : r.tenant = who
      · have t2 := beqYes _ _ heq
        (repeat' ((fail_if_success at_builtin); first | ((with_reducible refine wpList_load_mid rfl 73 _ rfl b (off + k * 42 + 1) rfl r.e.cells _ HC8.out hu73 rfl HIE2.out ?_)) | go_values | go_skip | go_guarded | go_step | go_upon))
        refine (auditAdd S' o c' f' who r.e _ w8 HO8.out (HT.out.below hB08 hts) HWL.out (by omega) HFIT.out rfl).mono ?_
        rintro _ w9 ⟨rfl, hL9, hF9⟩
        dsimp only
        have hs89 := hF9.size
        have hlow' : ∀ j, S' j → j < wr.heap.size := fun j hj => HO.out.low j hj
        have HLG9 := Lib.hid (HLG.out.frm hF9 (by
          rintro j (hj | hj) hj2
          · exact H9.out j hj hj2
          · have := hlow' j hj2; have : w7.heap.size ≤ j := hj.1; omega))
        have hN : TwoL w g o who (k + 1) w9 := by
          refine ⟨⟨_, _, _, _, c' + 1, HLG9.out, hL9, by omega, ?_, ?_, ?_, ?_, hB08.trans (hF9.belowOf hB08.size (fun j hj => H8.out j hj))⟩⟩
          · rw [heq, lput_same, lput_same, H6.out]
          · rintro j (hj | hj)
            · exact H7.out j hj
            · have := hj.1; have := hB07.size; exact Nat.le_trans (Nat.le_trans hB.size hswr) hj.1
          · rintro j (hj | hj)
            · exact H8.out j hj
            · exact Nat.le_trans hB08.size hj.1
          · rintro j (hj | hj) (hj2 | hj2)
            · exact H9.out j hj hj2
            · have := HG.out.low j hj; have := hj2.1; omega
            · have := hlow' j hj2; have : w7.heap.size ≤ j := hj.1; omega
            · have := hj.2; have := hj2.1; omega
        have HN := Lib.hid hN
        clear hN hL9 hF9 HLG9 HLG HO8
        (repeat' ((fail_if_success at_builtin); first | go_values | go_skip | go_guarded | go_step | go_upon))
        go_roundw
        case rel => exact ⟨k + 1, by omega, by go_num, HN.out⟩
        case measure => simp [intOf]; omega
      · have t2 := beqNo _ _ heq
        have HWH := Lib.hid (show headOf (lput f r.tenant (f r.tenant ++ [rowOf (f r.tenant) r.e]) who) = H by rw [lput_other _ _ _ _ (fun e => heq e.symm)]; exact HH.out)
        have hS1 : WasS w8 w5.heap.size H w8.drew := ⟨rangeAt_whole HG8.out, (Below.refl _ _).drew⟩
        have hneq : ∀ w, (binOp .neq 26 (.agg (bvs H).toArray) (.agg (bvs H).toArray)).run Tryd.prog w = .ok (.bool false) w := fun w => by
          have hl : H.length = 32 := by have := HHL.out; rwa [bvs_length] at this
          rw [neqSum w H H hl hl]; simp
        have hih := HIH.out
        (repeat' ((fail_if_success at_builtin); first | go_values | go_skip | go_guarded | go_step | go_upon))
        refine wp_region_noPanic ?_
        refine wp_region_held_drew (S := WasS w8 w5.heap.size H) (by kernel_rfl) ?_ (fun hHeld => ?_)
        · (exact hS1)
        refine wpAnyH_take (i := 0) (oi := _) (v := ?_) rfl (by kernel_rfl) (by kernel_rfl) (by kernel_rfl) (fun _ _ _ h => h) (Or.inl ⟨by rfl, ?_⟩) (by assumption) ?_
        rotate_left 1
        · (intro w hSw; (try dsimp only at hSw); go_simp; all_goals (with_reducible rfl))
        try simp only [Act.put, List.getElem_toArray, List.getElem_cons_zero, List.getElem_cons_succ, List.setIfInBounds_toArray, List.set_cons_zero, List.set_cons_succ]
        refine wpAnyH_take (i := 1) (oi := _) (v := ?_) rfl (by kernel_rfl) (by kernel_rfl) (by kernel_rfl) (fun _ _ _ h => h) (Or.inl ⟨by rfl, ?_⟩) (by assumption) ?_
        rotate_left 1
        · (intro w hSw; (try dsimp only at hSw); go_simp; all_goals (with_reducible rfl))
        try simp only [Act.put, List.getElem_toArray, List.getElem_cons_zero, List.getElem_cons_succ, List.setIfInBounds_toArray, List.set_cons_zero, List.set_cons_succ]
        refine' wpAnyH_take (i := 3) (oi := _) (v := _) rfl (by kernel_rfl) (by kernel_rfl) (by kernel_rfl) (fun _ _ _ h => h) (yieldsIf_load_mid (by rfl) _ _ rfl _ _ rfl _ _ ?ls2 ?lu2 ?ld2 ?li2) (by assumption) ?lr2
        case ls2 => (intro w hSw; (try dsimp only at hSw); go_split_ands; assumption)
        case lu2 => assumption
        case ld2 => rfl
        case li2 => first | assumption | (simp only [*]; done)
        try simp only [Act.put, List.getElem_toArray, List.getElem_cons_zero, List.getElem_cons_succ, List.setIfInBounds_toArray, List.set_cons_zero, List.set_cons_succ]
        refine wpAnyH_ready (rs := [2]) (by kernel_rfl) (by simp) ?_
        refine AllReadyH.cons (o := _) rfl (fun K hK => ?_) ?_
        rotate_left 1
        · exact AllReadyH.nil
        go_simp
        go_at_call 73
        refine (auditHead _ g (k+1) _ who H _ (HLG.out.below (Below.refl _ _).drew) HWL.out (by omega) HWH.out).mono ?_
        rintro _ w9 ⟨rfl, hB9⟩
        dsimp only
        refine hK.out _ _ ?_ (fun hHeld => ?_)
        · (exact wasS_below hS1 hB9)
        clear hK K
        try simp only [Act.put, List.getElem_toArray, List.getElem_cons_zero, List.getElem_cons_succ, List.setIfInBounds_toArray, List.set_cons_zero, List.set_cons_succ]
        refine wpAnyH_take (i := 4) (oi := _) (v := ?_) rfl (by kernel_rfl) (by kernel_rfl) (by kernel_rfl) (fun _ _ _ h => h) (Or.inl ⟨by rfl, ?_⟩) (by assumption) ?_
        rotate_left 1
        · (intro w hSw; (try dsimp only at hSw); go_simp; all_goals (with_reducible rfl))
        try simp only [Act.put, List.getElem_toArray, List.getElem_cons_zero, List.getElem_cons_succ, List.setIfInBounds_toArray, List.set_cons_zero, List.set_cons_succ]
        refine wpAnyH_done (by kernel_rfl) ?_ _
        refine NoPanic.normal ?_
        have hB89 : Below w8.heap.size w8 w9 := hHeld.2
        have hN : TwoL w g o who (k + 1) w9 := by
          refine ⟨⟨_, _, _, _, c', HLG.out.below hB89, HO8.out.below hB89, by omega, ?_, ?_, H8.out, ?_, hB08.trans (hB89.mono hB08.size)⟩⟩
          · rw [lput_other _ _ _ _ (fun e => heq e.symm), H6.out]
          · rintro j (hj | hj)
            · exact H7.out j hj
            · exact Nat.le_trans (Nat.le_trans hB.size hswr) hj.1
          · rintro j (hj | hj) hj2
            · exact H9.out j hj hj2
            · have := HO.out.low j hj2; have : w7.heap.size ≤ j := hj.1; omega
        have HN := Lib.hid hN
        clear hN hHeld hS1 hneq hB9 hB89 HLG HO8
        (repeat' ((fail_if_success at_builtin); first | go_values | go_skip | go_guarded | go_step | go_upon))
        go_roundw
        case rel => exact ⟨k + 1, by omega, by go_num, HN.out⟩
        case measure => simp [intOf]; omega
    · obtain rfl : k = xs.length := by omega
      obtain ⟨l, hl⟩ : ∃ l, f who = l := ⟨_, rfl⟩
      have hl' : f' who = l := by rw [H6.out]; exact hl
      obtain ⟨H, hH⟩ : ∃ H, headOf l = H := ⟨_, rfl⟩
      have hlf : ∀ x ∈ l, x.Ok := fun x hx => (HG.out.rows who x (by rw [hl]; exact hx)).ok
      have hHl : H.length = 32 := by rw [← hH]; exact headOf_length _ hlf
      have hll : l.length ≤ 100 := by have := HG.out.len who; rw [hl] at this; omega
      have HLF := Lib.hid (fun x hx => (hlf x hx).sum : ∀ x ∈ l, x.sum.length = 32)
      have HE1 := Lib.hid hl
      have HE2 := Lib.hid hl'
      have HHH := Lib.hid hH
      clear hl hl' hH hlf
      (repeat' ((fail_if_success at_builtin); first | go_values | go_skip | go_guarded | go_step | go_upon))
      refine (all21 S g xs.length f who wr HG.out HWL.out (by omega)).mono ?_
      rw [HE1.out]
      rintro _ w3 ⟨a3, c3, rfl, hc3, hm3, hr3, hB3, _⟩
      dsimp only
      have HR3 := Lib.hid hr3; clear hr3
      (repeat' ((fail_if_success at_builtin); first | go_values | go_skip | go_guarded | go_step | go_upon))
      refine (all21 S' o c' f' who w3 (HO.out.below hB3) HWL.out (by omega)).mono ?_
      rw [HE2.out]
      rintro _ w4 ⟨a4, c4, rfl, hc4, hm4, hr4, hB4, _⟩
      dsimp only
      have HR4 := Lib.hid hr4; clear hr4
      (repeat' ((fail_if_success at_builtin); first | go_values | go_skip | go_guarded | go_step | go_upon))
      refine (sameEntries a3 a4 l.length l.length c3 c4 l l w4 (HR3.out.below hB4 (Nat.le_refl _)) HR4.out HLF.out HLF.out rfl rfl (by omega)).mono ?_
      rintro _ w5 ⟨rfl, hSt⟩
      dsimp only
      have hB5 : Below w4.heap.size w4 w5 := hSt.below _
      have td : decide (l = l) = true := decide_eq_true rfl
      have hBr5 : Below wr.heap.size wr w5 := (hB3.trans (hB4.mono hB3.size)).trans (hB5.mono (Nat.le_trans hB3.size hB4.size))
      clear hSt HR3 HR4 hB3 hB4 hB5
      have hB05 : Below w.heap.size w w5 := hB.trans (hBr5.mono hB.size)
      (repeat' ((fail_if_success at_builtin); first | go_values | go_skip | go_guarded | go_step | go_upon))
      refine (auditHead S g xs.length f who H w5 (HG.out.below hBr5) HWL.out (by omega) (by rw [HE1.out]; exact HHH.out)).mono ?_
      rintro _ w6 ⟨rfl, hB6⟩
      dsimp only
      have hBr6 : Below wr.heap.size wr w6 := hBr5.trans (hB6.mono hBr5.size)
      (repeat' ((fail_if_success at_builtin); first | go_values | go_skip | go_guarded | go_step | go_upon))
      refine (auditHead S' o c' f' who H w6 (HO.out.below hBr6) HWL.out (by omega) (by rw [HE2.out]; exact HHH.out)).mono ?_
      rintro _ w7 ⟨rfl, hB7⟩
      dsimp only
      have hBr7 : Below wr.heap.size wr w7 := hBr6.trans (hB7.mono hBr6.size)
      have hB07 : Below w.heap.size w w7 := hB.trans (hBr7.mono hB.size)
      have heqH := fun w => eqSumSame H hHl w
      (repeat' ((fail_if_success at_builtin); first | go_values | go_skip | go_guarded | go_step | go_upon))
      refine (works21 w7 (HT.out.below hB07 hts)).mono ?_
      rintro _ w8 ⟨rfl, hB8⟩
      dsimp only
      (repeat' ((fail_if_success at_builtin); first | go_values | go_skip | go_guarded | go_step | go_upon))
      go_ret
      exact ⟨rfl, hB07.trans (hB8.mono hB07.size)⟩

end Go.Proofs.YtdpfemhfmofmlaaDoor
