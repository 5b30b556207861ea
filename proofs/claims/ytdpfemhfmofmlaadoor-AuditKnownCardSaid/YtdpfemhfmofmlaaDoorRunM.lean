/- The law AuditApart, walked. -/
import Derived.Test.YtdpfemhfmofmlaaDoorWorks21
import Derived.Test.YtdpfemhfmofmlaaDoorHolM
import Derived.Test.YtdpfemhfmofmlaaDoorKitF
import Derived.Test.YtdpfemhfmofmlaaDoorRAddW
import Derived.Deep.DeepCutAuto
import Derived.Deep.CutRange
namespace Go.Proofs.YtdpfemhfmofmlaaDoor
set_option linter.unusedSimpArgs false
set_option linter.unusedVariables false
open Go.RowKit
set_option maxRecDepth 10000
--@PUT2

theorem beqYes (t s : ByteArray) (h : t = s) : (t.toList == s.toList) = true := by rw [h]; simp
theorem beqNo (t s : ByteArray) (h : t ≠ s) : (t.toList == s.toList) = false := by
  rw [ByteArray.toList_eq, ByteArray.toList_eq]
  simp only [beq_eq_false_iff_ne, ne_eq]
  exact fun h2 => h (by cases t; cases s; simp at h2; simp [h2])
theorem rw_cell {w : World} {b o : Nat} {r : Rw} (h : w.rangeAt b o r.cells) (hs : r.e.sum.length = 32) : w.cell? ⟨b, o, none⟩ = some (.string r.tenant) ∧ w.rangeAt b (o + 1) r.e.cells ∧ w.cell? ⟨b, o + 40, none⟩ = some (.int .i64 r.fr) ∧ w.cell? ⟨b, o + 41, none⟩ = some (.int .i64 r.many) := by
  have hel := Ent.cells_length hs
  refine ⟨h 0 _ rfl, fun j v hj => ?_, h 40 _ ?_, h 41 _ ?_⟩
  · have hj' : j < 39 := by rw [← hel]; exact (List.getElem?_eq_some_iff.1 hj).1
    have := h (j + 1) v (by unfold Rw.cells; rw [List.getElem?_cons_succ, List.getElem?_append_left (by rw [hel]; omega)]; exact hj)
    rw [show o + 1 + j = o + (j + 1) by omega]
    exact this
  · unfold Rw.cells; rw [List.getElem?_cons_succ, List.getElem?_append_right (by rw [hel]; omega), hel]; rfl
  · unfold Rw.cells; rw [List.getElem?_cons_succ, List.getElem?_append_right (by rw [hel]; omega), hel]; rfl
abbrev RwS (w : World) (b o : Nat) (r : Rw) (w' : World) : Prop := (w'.cell? ⟨b, o, none⟩ = some (.string r.tenant) ∧ w'.rangeAt b (o + 1) r.e.cells) ∧ Below w.heap.size w w'
theorem rwS {w w' : World} {b o : Nat} {r : Rw} (h : w.rangeAt b o r.cells) (hs : r.e.sum.length = 32) (hB : Below w.heap.size w w') : RwS w b o r w' :=
  have h1 := rw_cell (rangeAt_below h hB (Nat.le_refl _)) hs
  ⟨⟨h1.1, h1.2.1⟩, hB⟩

abbrev WasS (w8 : World) (z : Nat) (H : List UInt8) (w' : World) : Prop := w'.rangeAt z 0 (bvs H) ∧ Below w8.heap.size w8 w'
theorem wasS_below {w8 w1 w2 : World} {z : Nat} {H : List UInt8} (h : WasS w8 z H w1) (hb : Below w1.heap.size w1 w2) : WasS w8 z H w2 :=
  ⟨rangeAt_below h.1 hb (Nat.le_refl _), h.2.trans (hb.mono h.2.size)⟩

/-- While steps go: two logs, that tell the same of one tenant. -/
structure TwoL (w : World) (g o : Nat) (who : ByteArray) (k : Nat) (wr : World) : Prop where
  out : ∃ (S S' : Nat → Prop) (f f' : ByteArray → List Ent) (c : Nat), LogAt wr S g k f ∧ LogAt wr S' o c f' ∧ c ≤ k ∧ f' who = f who ∧ (∀ j, S j → w.heap.size ≤ j) ∧ (∀ j, S' j → w.heap.size ≤ j) ∧ (∀ j, S j → ¬ S' j) ∧ Below w.heap.size w wr

set_option maxHeartbeats 8000000 in
theorem auditApart_walk (a : Option Addr) (n c : Nat) (xs : List Rw) (who : ByteArray) (w : World) (hT : Tabs w) (hr : RdC w a (xs.flatMap Rw.cells)) (hok : ∀ x ∈ xs, x.Ok) (en : xs.length = n) (hn : n ≤ maxLen) :
    Calls Tryd.prog 18 #[.slice a n c, .string who] w fun e w' => e = .returned (.bool true) ∧ Below w.heap.size w w' := by
  have hts := hT.size
  have HT := Lib.hid hT; clear hT
  have hn9 : (n : Int) ≤ 9223372036854775807 := by unfold maxLen at hn; omega
  by_cases h1 : 100 < n
  · go_enter Tryd.func18, Tryd.ntmps18
    (repeat' ((fail_if_success at_builtin); first | go_values | go_skip | go_guarded | go_step | go_upon))
    refine (works21 w HT.out).mono ?_
    rintro _ w1 ⟨rfl, hB1⟩
    dsimp only
    (repeat' ((fail_if_success at_builtin); first | go_values | go_skip | go_guarded | go_step | go_upon))
    go_ret
    exact ⟨rfl, hB1⟩
  by_cases h2 : 512 < who.size
  · go_enter Tryd.func18, Tryd.ntmps18
    (repeat' ((fail_if_success at_builtin); first | go_values | go_skip | go_guarded | go_step | go_upon))
    refine (works21 w HT.out).mono ?_
    rintro _ w1 ⟨rfl, hB1⟩
    dsimp only
    (repeat' ((fail_if_success at_builtin); first | go_values | go_skip | go_guarded | go_step | go_upon))
    go_ret
    exact ⟨rfl, hB1⟩
  subst en
  have hwl : who.size ≤ maxLen := by unfold maxLen; omega
  have hsum : ∀ x ∈ xs, x.e.sum.length = 32 := fun x hx => (hok x hx).e.sum
  have HR := Lib.hid hr; clear hr
  have HOK := Lib.hid hok; clear hok
  have HSUM := Lib.hid hsum; clear hsum
  have HWL := Lib.hid hwl; clear hwl
  obtain ⟨iE, zE, hiE, hzE, hsE, hbE, hcE⟩ := entInfo_parts
  have HIE := Lib.hid hiE; clear hiE
  have HZE := Lib.hid hzE; clear hzE
  have HSE := Lib.hid hsE; clear hsE
  obtain ⟨iS, zS, hiS, hzS, hcS⟩ := fresh_parts zeroSum
  have HIS := Lib.hid hiS; clear hiS
  have HZS := Lib.hid hzS; clear hzS
  have HCS := Lib.hid hcS; clear hcS
  clear hbE hcE
  have hu73 : Tryd.prog.underlying 73 = some _ := Tryd.underlying73
  have hu26 : Tryd.prog.underlying 26 = some _ := Tryd.underlying26
  go_enter Tryd.func18, Tryd.ntmps18
  (repeat' ((fail_if_success at_builtin); first | go_values | go_skip | go_guarded | go_step | go_upon))
  refine (auditNew w).mono ?_
  rintro _ w1 ⟨g, rfl, hL1, hB1⟩
  dsimp only
  have HL1 := Lib.hid hL1; clear hL1
  (repeat' ((fail_if_success at_builtin); first | go_values | go_skip | go_guarded | go_step | go_upon))
  refine (auditNew w1).mono ?_
  rintro _ w2 ⟨o, rfl, hL2, hB2⟩
  dsimp only
  have HL2 := Lib.hid (show TwoL w g o who 0 w2 from ⟨⟨_, _, _, _, 0, HL1.out.below hB2, hL2, Nat.le_refl _, rfl, fun j hj => hj.1, fun j hj => Nat.le_trans hB1.size hj.1, fun j hj hj' => Nat.lt_irrefl _ (Nat.lt_of_lt_of_le hj.2 hj'.1), hB1.trans (hB2.mono hB1.size)⟩⟩)
  clear hL2 HL1 hB1 hB2
  (repeat' ((fail_if_success at_builtin); first | go_values | go_skip | go_guarded | go_step | go_upon))
  go_loopw [7] (fun i wr => ∃ k : Nat, k ≤ xs.length ∧ i = .int .i64 k ∧ TwoL w g o who k wr) (fun i _ => xs.length - (intOf i).toNat)
  case atStart => exact ⟨0, by omega, rfl, HL2.out⟩
  case round =>
    obtain ⟨k, hk, rfl, hL⟩ := hrel
    obtain ⟨S, S', f, f', c', h3, h4, h5, h6, h7, h8, h9, hB⟩ := hL.out
    have HG := Lib.hid h3; clear h3
    have HO := Lib.hid h4; clear h4
    have H6 := Lib.hid h6; clear h6
    have H7 := Lib.hid h7; clear h7
    have H8 := Lib.hid h8; clear h8
    have H9 := Lib.hid h9; clear h9
    clear hL HL2
    by_cases hlt : k < xs.length
    · obtain ⟨b, off, hba, hrr, _, _, _, _⟩ := rws_at HR.out HSUM.out k hlt
      have HM := List.getElem_mem hlt
      generalize xs[k] = r at *
      have hrk := HOK.out r HM
      have hrs : r.e.sum.length = 32 := hrk.e.sum
      have HRK := Lib.hid hrk; clear hrk
      have HRS := Lib.hid hrs
      have HRR := Lib.hid hrr; clear hrr
      have HIE2 := Lib.hid (show (Tryd.prog.info? 73).map (·.size) = some r.e.cells.length by rw [Ent.cells_length hrs]; exact entSize)
      clear hrs
      have bk : (0 : Int) ≤ (k : Int) ∧ (k : Int) < (xs.length : Int) := by omega
      have HC0 := Lib.hid (rw_cell (rangeAt_below HRR.out hB (Nat.le_refl _)) HRS.out)
      subst hba
      (repeat' ((fail_if_success at_builtin); first | (first | (with_reducible refine wpList_load_mid rfl 73 _ rfl b (off + k * 42 + 1) rfl r.e.cells _ HC0.out.2.1 hu73 rfl HIE2.out ?_) | ((with_reducible refine wpList_build_one rfl 68 73 _ rfl Tryd.underlying68 r.e.cells rfl iE zE HIE.out HZE.out (by rw [Ent.cells_length HRS.out];exact HSE.out) (by rw [Ent.cells_length HRS.out];omega) (by rw [Ent.cells_length HRS.out];omega) ?_); intro w3 hg3 hB3 hs3; have HG3 := Lib.hid hg3; clear hg3)) | go_values | go_skip | go_guarded | go_step | go_upon))
      refine (big21 (some ⟨wr.heap.size, 0, none⟩) 1 1 [r.e] w3 (by rw [List.flatMap_singleton]; exact rd_rowC HG3.out) (fun x hx => by rw [List.mem_singleton.1 hx]; exact HRS.out) rfl).mono ?_
      rintro _ w4 ⟨rfl, hB4⟩
      have hbg : decide (100 < 1 ∨ ∃ x ∈ [r.e], x.big) = decide r.e.big := by simp
      rw [hbg]
      dsimp only
      have hB04 : Below w.heap.size w w4 := (hB.trans (hB3.mono hB.size)).trans (hB4.mono (Nat.le_trans hB.size hB3.size))
      have hBr4 : Below wr.heap.size wr w4 := hB3.trans (hB4.mono hB3.size)
      have c4 := (rw_cell (rangeAt_below HRR.out hB04 (Nat.le_refl _)) HRS.out).1
      clear HG3 hB3 hB4 hs3 hbg
      by_cases hb : r.e.big
      · have t1 : decide r.e.big = true := decide_eq_true hb
        (repeat' ((fail_if_success at_builtin); first | go_values | go_skip | go_guarded | go_step | go_upon))
        refine (works21 w4 (HT.out.below hB04 hts)).mono ?_
        rintro _ w5 ⟨rfl, hB5⟩
        dsimp only
        (repeat' ((fail_if_success at_builtin); first | go_values | go_skip | go_guarded | go_step | go_upon))
        go_ret
        exact ⟨rfl, hB04.trans (hB5.mono hB04.size)⟩
      have t1 : decide r.e.big = false := decide_eq_false hb
      by_cases ht : 512 < r.tenant.size
      · (repeat' ((fail_if_success at_builtin); first | go_values | go_skip | go_guarded | go_step | go_upon))
        refine (works21 w4 (HT.out.below hB04 hts)).mono ?_
        rintro _ w5 ⟨rfl, hB5⟩
        dsimp only
        (repeat' ((fail_if_success at_builtin); first | go_values | go_skip | go_guarded | go_step | go_upon))
        go_ret
        exact ⟨rfl, hB04.trans (hB5.mono hB04.size)⟩
      have HFIT := Lib.hid (fit_of_small HRK.out.e hb)
      obtain ⟨H, hH⟩ : ∃ H, headOf (f who) = H := ⟨_, rfl⟩
      have hHl : (bvs H).length = 32 := by rw [bvs_length, ← hH]; exact headOf_length _ (fun x hx => (HG.out.rows who x hx).ok)
      have HH := Lib.hid hH; clear hH
      have HIH := Lib.hid (show (Tryd.prog.info? 26).map (·.size) = some (bvs H).length by rw [hHl]; exact sizeSum)
      have HFH := Lib.hid (show 0 + (bvs H).length ≤ (List.replicate 32 (Value.int .u8 0)).toArray.size by rw [hHl]; simp)
      have HHO := Lib.hid (bvs_oneCell H)
      have HHL := Lib.hid hHl; clear hHl
      (repeat' ((fail_if_success at_builtin); first | go_values | go_skip | go_guarded | go_step | go_upon))
      refine (auditHead S g k f who H w4 (HG.out.below hBr4) HWL.out (by omega) HH.out).mono ?_
      rintro _ w5 ⟨rfl, hB5⟩
      dsimp only
      have hBr5 : Below wr.heap.size wr w5 := hBr4.trans (hB5.mono hBr4.size)
      clear hB5 c4
      (repeat' ((fail_if_success at_builtin); first | (first | ((with_reducible refine wpList_alloc_fresh (w := w5) rfl 26 rfl _ iS zS HIS.out HZS.out HCS.out ?_); intro w6 hg6 hB6 hs6; have HG6 := Lib.hid hg6; clear hg6; have HS6 := Lib.hid hs6; clear hs6) | ((with_reducible refine wpList_store_blk rfl 26 _ _ rfl w5.heap.size 0 (bvs H) rfl rfl _ _ HG6.out HFH.out HIH.out HHO.out ?_); intro w7 hg7 hG7; rw [splice_whole _ _ (by rw [HHL.out];simp)] at hg7; have HG7 := Lib.hid hg7; clear hg7 HG6)) | go_values | go_skip | go_guarded | go_step | go_upon))
      have hB67 : Below w5.heap.size w5 w7 := hB6.grown hG7 (by rw [HS6.out]; omega) (fun j e => by cases e; exact Nat.le_refl _)
      have hz57 : w5.heap.size < w7.heap.size := by have := hG7.size; have := HS6.out; omega
      have hBr7 : Below wr.heap.size wr w7 := hBr5.trans (hB67.mono hBr5.size)
      have hB07 : Below w.heap.size w w7 := hB.trans (hBr7.mono hB.size)
      clear hB6 hG7 HS6 hB67
      have hS0 : RwS w b (off + k * 42) r w7.drew := rwS HRR.out HRS.out hB07.drew
      have hS0T := HT.out
      have hie2 := HIE2.out
      have hB78 : ∀ w8, Frm w7.drew.heap.size S w7.drew w8 → Below w.heap.size w w8 := fun w8 hF => hB07.drew.trans (hF.belowOf hB07.size (fun k hk => H7.out k hk))
      refine wp_region_noPanic ?_
      refine wp_region_held_drew (S := RwS w b (off + k * 42) r) (by kernel_rfl) ?_ (fun hHeld => ?_)
      · (exact hS0)
      refine wpAnyH_take (i := 0) (oi := _) (v := ?_) rfl (by kernel_rfl) (by kernel_rfl) (by kernel_rfl) (fun _ _ _ h => h) (Or.inl ⟨by rfl, ?_⟩) (by assumption) ?_
      rotate_left 1
      · (intro w hSw; (try dsimp only at hSw); go_simp; all_goals (with_reducible rfl))
      try simp only [Act.put, List.getElem_toArray, List.getElem_cons_zero, List.getElem_cons_succ, List.setIfInBounds_toArray, List.set_cons_zero, List.set_cons_succ]
      refine wpAnyH_take (i := 1) (oi := _) (v := ?_) rfl (by kernel_rfl) (by kernel_rfl) (by kernel_rfl) (fun _ _ _ h => h) (Or.inl ⟨by rfl, ?_⟩) (by assumption) ?_
      rotate_left 1
      · (intro w hSw; (try dsimp only at hSw); go_simp; all_goals (with_reducible rfl))
      try simp only [Act.put, List.getElem_toArray, List.getElem_cons_zero, List.getElem_cons_succ, List.setIfInBounds_toArray, List.set_cons_zero, List.set_cons_succ]
      refine wpAnyH_take (i := 2) (oi := _) (v := ?_) rfl (by kernel_rfl) (by kernel_rfl) (by kernel_rfl) (fun _ _ _ h => h) (Or.inl ⟨by rfl, ?_⟩) (by assumption) ?_
      rotate_left 1
      · (intro w hSw; (try dsimp only at hSw); go_simp; all_goals (with_reducible rfl))
      try simp only [Act.put, List.getElem_toArray, List.getElem_cons_zero, List.getElem_cons_succ, List.setIfInBounds_toArray, List.set_cons_zero, List.set_cons_succ]
      refine wpAnyH_take (i := 3) (oi := _) (v := ?_) rfl (by kernel_rfl) (by kernel_rfl) (by kernel_rfl) (fun _ _ _ h => h) (Or.inl ⟨by rfl, ?_⟩) (by assumption) ?_
      rotate_left 1
      · (intro w hSw; (try dsimp only at hSw); go_simp; all_goals (with_reducible rfl))
      try simp only [Act.put, List.getElem_toArray, List.getElem_cons_zero, List.getElem_cons_succ, List.setIfInBounds_toArray, List.set_cons_zero, List.set_cons_succ]
      refine wpAnyH_take (i := 4) (oi := _) (v := ?_) rfl (by kernel_rfl) (by kernel_rfl) (by kernel_rfl) (fun _ _ _ h => h) (Or.inl ⟨by rfl, ?_⟩) (by assumption) ?_
      rotate_left 1
      · (intro w hSw; (try dsimp only at hSw); go_simp; all_goals (with_reducible rfl))
      try simp only [Act.put, List.getElem_toArray, List.getElem_cons_zero, List.getElem_cons_succ, List.setIfInBounds_toArray, List.set_cons_zero, List.set_cons_succ]
      refine wpAnyH_take (i := 5) (oi := _) (v := ?_) rfl (by kernel_rfl) (by kernel_rfl) (by kernel_rfl) (fun _ _ _ h => h) (Or.inl ⟨by rfl, ?_⟩) (by assumption) ?_
      rotate_left 1
      · (intro w hSw; (try dsimp only at hSw); go_simp; all_goals (with_reducible rfl))
      try simp only [Act.put, List.getElem_toArray, List.getElem_cons_zero, List.getElem_cons_succ, List.setIfInBounds_toArray, List.set_cons_zero, List.set_cons_succ]
      refine wpAnyH_take (i := 6) (oi := _) (v := ?_) rfl (by kernel_rfl) (by kernel_rfl) (by kernel_rfl) (fun _ _ _ h => h) (Or.inl ⟨by rfl, ?_⟩) (by assumption) ?_
      rotate_left 1
      · (intro w hSw; (try dsimp only at hSw); go_simp; all_goals (with_reducible rfl))
      try simp only [Act.put, List.getElem_toArray, List.getElem_cons_zero, List.getElem_cons_succ, List.setIfInBounds_toArray, List.set_cons_zero, List.set_cons_succ]
      refine wpAnyH_take (i := 7) (oi := _) (v := ?_) rfl (by kernel_rfl) (by kernel_rfl) (by kernel_rfl) (fun _ _ _ h => h) (Or.inl ⟨by rfl, ?_⟩) (by assumption) ?_
      rotate_left 1
      · (intro w hSw; (try dsimp only at hSw); go_simp; all_goals (with_reducible rfl))
      try simp only [Act.put, List.getElem_toArray, List.getElem_cons_zero, List.getElem_cons_succ, List.setIfInBounds_toArray, List.set_cons_zero, List.set_cons_succ]
      refine wpAnyH_take (i := 8) (oi := _) (v := ?_) rfl (by kernel_rfl) (by kernel_rfl) (by kernel_rfl) (fun _ _ _ h => h) (Or.inl ⟨by rfl, ?_⟩) (by assumption) ?_
      rotate_left 1
      · (intro w hSw; (try dsimp only at hSw); go_simp; all_goals (with_reducible rfl))
      try simp only [Act.put, List.getElem_toArray, List.getElem_cons_zero, List.getElem_cons_succ, List.setIfInBounds_toArray, List.set_cons_zero, List.set_cons_succ]
      refine wpAnyH_take (i := 9) (oi := _) (v := ?_) rfl (by kernel_rfl) (by kernel_rfl) (by kernel_rfl) (fun _ _ _ h => h) (Or.inl ⟨by rfl, ?_⟩) (by assumption) ?_
      rotate_left 1
      · (intro w hSw; (try dsimp only at hSw); go_simp; all_goals (with_reducible rfl))
      try simp only [Act.put, List.getElem_toArray, List.getElem_cons_zero, List.getElem_cons_succ, List.setIfInBounds_toArray, List.set_cons_zero, List.set_cons_succ]
      refine' wpAnyH_take (i := 10) (oi := _) (v := _) rfl (by kernel_rfl) (by kernel_rfl) (by kernel_rfl) (fun _ _ _ h => h) (yieldsIf_load_mid (by rfl) _ _ rfl _ _ rfl _ _ ?ls1 ?lu1 ?ld1 ?li1) (by assumption) ?lr1
      case ls1 => (intro w hSw; (try dsimp only at hSw); go_split_ands; assumption)
      case lu1 => assumption
      case ld1 => rfl
      case li1 => first | assumption | (simp only [*]; done)
      try simp only [Act.put, List.getElem_toArray, List.getElem_cons_zero, List.getElem_cons_succ, List.setIfInBounds_toArray, List.set_cons_zero, List.set_cons_succ]
      refine wpAnyH_ready (rs := [11]) (by kernel_rfl) (by simp) ?_
      refine AllReadyH.cons (o := _) rfl (fun K hK => ?_) ?_
      rotate_left 1
      · exact AllReadyH.nil
      go_simp
      go_at_call 72
      refine (auditAdd S g k f r.tenant r.e _ _ (HG.out.below hBr7.drew) (hS0T.below hB07.drew hts) (by unfold maxLen;omega) (by omega) HFIT.out rfl).mono ?_
      rintro _ w8 ⟨rfl, hL8, hF8⟩
      dsimp only
      have hB08 := hB78 w8 hF8
      refine hK.out _ _ ?_ (fun hHeld => ?_)
      · (exact rwS HRR.out HRS.out hB08)
      clear hK K
      try simp only [Act.put, List.getElem_toArray, List.getElem_cons_zero, List.getElem_cons_succ, List.setIfInBounds_toArray, List.set_cons_zero, List.set_cons_succ]
      refine wpAnyH_done (by kernel_rfl) ?_ _
      refine NoPanic.normal ?_
      have hs78 : w7.heap.size ≤ w8.heap.size := hF8.size
      have hswr : wr.heap.size ≤ w7.heap.size := hBr7.size
      have hg8 := (hF8.block w5.heap.size hz57 (fun hs => by have := HG.out.low _ hs; have := hBr5.size; omega)).trans HG7.out
      have HG8 := Lib.hid hg8; clear hg8
      have HO8 := Lib.hid ((HO.out.below hBr7.drew).frm hF8 (fun j hj hs => H9.out j hs hj))
      have HLG := Lib.hid hL8; clear hL8
      have hcell8 := hHeld.1.1
      have hent8 := hHeld.1.2
      clear hHeld hS0 hS0T hB78 HG7 hF8
      have HC8 := Lib.hid hent8; clear hent8
      by_cases heq : r.tenant = who
      · have t2 := beqYes _ _ heq
        (repeat' ((fail_if_success at_builtin); first | ((with_reducible refine wpList_load_mid rfl 73 _ rfl b (off + k * 42 + 1) rfl r.e.cells _ HC8.out hu73 rfl HIE2.out ?_)) | go_values | go_skip | go_guarded | go_step | go_upon))
        refine (auditAdd S' o c' f' who r.e _ w8 HO8.out (HT.out.below hB08 hts) HWL.out (by omega) HFIT.out rfl).mono ?_
        rintro _ w9 ⟨rfl, hL9, hF9⟩
        dsimp only
        have hs89 := hF9.size
        have hlow' : ∀ j, S' j → j < wr.heap.size := fun j hj => HO.out.low j hj
        have HLG9 := Lib.hid (HLG.out.frm hF9 (by
          rintro j (hj | hj) hj2
          · exact H9.out j hj hj2
          · have := hlow' j hj2; have : w7.heap.size ≤ j := hj.1; omega))
        have hN : TwoL w g o who (k + 1) w9 := by
          refine ⟨⟨_, _, _, _, c' + 1, HLG9.out, hL9, by omega, ?_, ?_, ?_, ?_, hB08.trans (hF9.belowOf hB08.size (fun j hj => H8.out j hj))⟩⟩
          · rw [heq, lput_same, lput_same, H6.out]
          · rintro j (hj | hj)
            · exact H7.out j hj
            · have := hj.1; have := hB07.size; exact Nat.le_trans (Nat.le_trans hB.size hswr) hj.1
          · rintro j (hj | hj)
            · exact H8.out j hj
            · exact Nat.le_trans hB08.size hj.1
          · rintro j (hj | hj) (hj2 | hj2)
            · exact H9.out j hj hj2
            · have := HG.out.low j hj; have := hj2.1; omega
            · have := hlow' j hj2; have : w7.heap.size ≤ j := hj.1; omega
            · have := hj.2; have := hj2.1; omega
        have HN := Lib.hid hN
        clear hN hL9 hF9 HLG9 HLG HO8
        (repeat' ((fail_if_success at_builtin); first | go_values | go_skip | go_guarded | go_step | go_upon))
        go_roundw
        case rel => exact ⟨k + 1, by omega, by go_num, HN.out⟩
        case measure => simp [intOf]; omega
      · have t2 := beqNo _ _ heq
        have HWH := Lib.hid (show headOf (lput f r.tenant (f r.tenant ++ [rowOf (f r.tenant) r.e]) who) = H by rw [lput_other _ _ _ _ (fun e => heq e.symm)]; exact HH.out)
        have hS1 : WasS w8 w5.heap.size H w8.drew := ⟨rangeAt_whole HG8.out, (Below.refl _ _).drew⟩
        have hneq : ∀ w, (binOp .neq 26 (.agg (bvs H).toArray) (.agg (bvs H).toArray)).run Tryd.prog w = .ok (.bool false) w := fun w => by
          have hl : H.length = 32 := by have := HHL.out; rwa [bvs_length] at this
          rw [neqSum w H H hl hl]; simp
        have hih := HIH.out
        (repeat' ((fail_if_success at_builtin); first | go_values | go_skip | go_guarded | go_step | go_upon))
        refine wp_region_noPanic ?_
        refine wp_region_held_drew (S := WasS w8 w5.heap.size H) (by kernel_rfl) ?_ (fun hHeld => ?_)
        · (exact hS1)
        refine wpAnyH_take (i := 0) (oi := _) (v := ?_) rfl (by kernel_rfl) (by kernel_rfl) (by kernel_rfl) (fun _ _ _ h => h) (Or.inl ⟨by rfl, ?_⟩) (by assumption) ?_
        rotate_left 1
        · (intro w hSw; (try dsimp only at hSw); go_simp; all_goals (with_reducible rfl))
        try simp only [Act.put, List.getElem_toArray, List.getElem_cons_zero, List.getElem_cons_succ, List.setIfInBounds_toArray, List.set_cons_zero, List.set_cons_succ]
        refine wpAnyH_take (i := 1) (oi := _) (v := ?_) rfl (by kernel_rfl) (by kernel_rfl) (by kernel_rfl) (fun _ _ _ h => h) (Or.inl ⟨by rfl, ?_⟩) (by assumption) ?_
        rotate_left 1
        · (intro w hSw; (try dsimp only at hSw); go_simp; all_goals (with_reducible rfl))
        try simp only [Act.put, List.getElem_toArray, List.getElem_cons_zero, List.getElem_cons_succ, List.setIfInBounds_toArray, List.set_cons_zero, List.set_cons_succ]
        refine' wpAnyH_take (i := 3) (oi := _) (v := _) rfl (by kernel_rfl) (by kernel_rfl) (by kernel_rfl) (fun _ _ _ h => h) (yieldsIf_load_mid (by rfl) _ _ rfl _ _ rfl _ _ ?ls2 ?lu2 ?ld2 ?li2) (by assumption) ?lr2
        case ls2 => (intro w hSw; (try dsimp only at hSw); go_split_ands; assumption)
        case lu2 => assumption
        case ld2 => rfl
        case li2 => first | assumption | (simp only [*]; done)
        try simp only [Act.put, List.getElem_toArray, List.getElem_cons_zero, List.getElem_cons_succ, List.setIfInBounds_toArray, List.set_cons_zero, List.set_cons_succ]
        refine wpAnyH_ready (rs := [2]) (by kernel_rfl) (by simp) ?_
        refine AllReadyH.cons (o := _) rfl (fun K hK => ?_) ?_
        rotate_left 1
        · exact AllReadyH.nil
        go_simp
        go_at_call 73
        refine (auditHead _ g (k+1) _ who H _ (HLG.out.below (Below.refl _ _).drew) HWL.out (by omega) HWH.out).mono ?_
        rintro _ w9 ⟨rfl, hB9⟩
        dsimp only
        refine hK.out _ _ ?_ (fun hHeld => ?_)
        · (exact wasS_below hS1 hB9)
        clear hK K
        try simp only [Act.put, List.getElem_toArray, List.getElem_cons_zero, List.getElem_cons_succ, List.setIfInBounds_toArray, List.set_cons_zero, List.set_cons_succ]
        refine wpAnyH_take (i := 4) (oi := _) (v := ?_) rfl (by kernel_rfl) (by kernel_rfl) (by kernel_rfl) (fun _ _ _ h => h) (Or.inl ⟨by rfl, ?_⟩) (by assumption) ?_
        rotate_left 1
        · (intro w hSw; (try dsimp only at hSw); go_simp; all_goals (with_reducible rfl))
        try simp only [Act.put, List.getElem_toArray, List.getElem_cons_zero, List.getElem_cons_succ, List.setIfInBounds_toArray, List.set_cons_zero, List.set_cons_succ]
        refine wpAnyH_done (by kernel_rfl) ?_ _
        refine NoPanic.normal ?_
        have hB89 : Below w8.heap.size w8 w9 := hHeld.2
        have hN : TwoL w g o who (k + 1) w9 := by
          refine ⟨⟨_, _, _, _, c', HLG.out.below hB89, HO8.out.below hB89, by omega, ?_, ?_, H8.out, ?_, hB08.trans (hB89.mono hB08.size)⟩⟩
          · rw [lput_other _ _ _ _ (fun e => heq e.symm), H6.out]
          · rintro j (hj | hj)
            · exact H7.out j hj
            · exact Nat.le_trans (Nat.le_trans hB.size hswr) hj.1
          · rintro j (hj | hj) hj2
            · exact H9.out j hj hj2
            · have := HO.out.low j hj2; have : w7.heap.size ≤ j := hj.1; omega
        have HN := Lib.hid hN
        clear hN hHeld hS1 hneq hB9 hB89 HLG HO8
        (repeat' ((fail_if_success at_builtin); first | go_values | go_skip | go_guarded | go_step | go_upon))
        go_roundw
        case rel => exact ⟨k + 1, by omega, by go_num, HN.out⟩
        case measure => simp [intOf]; omega
    · obtain rfl : k = xs.length := by omega
      obtain ⟨l, hl⟩ : ∃ l, f who = l := ⟨_, rfl⟩
      have hl' : f' who = l := by rw [H6.out]; exact hl
      obtain ⟨H, hH⟩ : ∃ H, headOf l = H := ⟨_, rfl⟩
      have hlf : ∀ x ∈ l, x.Ok := fun x hx => (HG.out.rows who x (by rw [hl]; exact hx)).ok
      have hHl : H.length = 32 := by rw [← hH]; exact headOf_length _ hlf
      have hll : l.length ≤ 100 := by have := HG.out.len who; rw [hl] at this; omega
      have HLF := Lib.hid (fun x hx => (hlf x hx).sum : ∀ x ∈ l, x.sum.length = 32)
      have HE1 := Lib.hid hl
      have HE2 := Lib.hid hl'
      have HHH := Lib.hid hH
      clear hl hl' hH hlf
      (repeat' ((fail_if_success at_builtin); first | go_values | go_skip | go_guarded | go_step | go_upon))
      refine (all21 S g xs.length f who wr HG.out HWL.out (by omega)).mono ?_
      rw [HE1.out]
      rintro _ w3 ⟨a3, c3, rfl, hc3, hm3, hr3, hB3, _⟩
      dsimp only
      have HR3 := Lib.hid hr3; clear hr3
      (repeat' ((fail_if_success at_builtin); first | go_values | go_skip | go_guarded | go_step | go_upon))
      refine (all21 S' o c' f' who w3 (HO.out.below hB3) HWL.out (by omega)).mono ?_
      rw [HE2.out]
      rintro _ w4 ⟨a4, c4, rfl, hc4, hm4, hr4, hB4, _⟩
      dsimp only
      have HR4 := Lib.hid hr4; clear hr4
      (repeat' ((fail_if_success at_builtin); first | go_values | go_skip | go_guarded | go_step | go_upon))
      refine (sameEntries a3 a4 l.length l.length c3 c4 l l w4 (HR3.out.below hB4 (Nat.le_refl _)) HR4.out HLF.out HLF.out rfl rfl (by omega)).mono ?_
      rintro _ w5 ⟨rfl, hSt⟩
      dsimp only
      have hB5 : Below w4.heap.size w4 w5 := hSt.below _
      have td : decide (l = l) = true := decide_eq_true rfl
      have hBr5 : Below wr.heap.size wr w5 := (hB3.trans (hB4.mono hB3.size)).trans (hB5.mono (Nat.le_trans hB3.size hB4.size))
      clear hSt HR3 HR4 hB3 hB4 hB5
      have hB05 : Below w.heap.size w w5 := hB.trans (hBr5.mono hB.size)
      (repeat' ((fail_if_success at_builtin); first | go_values | go_skip | go_guarded | go_step | go_upon))
      refine (auditHead S g xs.length f who H w5 (HG.out.below hBr5) HWL.out (by omega) (by rw [HE1.out]; exact HHH.out)).mono ?_
      rintro _ w6 ⟨rfl, hB6⟩
      dsimp only
      have hBr6 : Below wr.heap.size wr w6 := hBr5.trans (hB6.mono hBr5.size)
      (repeat' ((fail_if_success at_builtin); first | go_values | go_skip | go_guarded | go_step | go_upon))
      refine (auditHead S' o c' f' who H w6 (HO.out.below hBr6) HWL.out (by omega) (by rw [HE2.out]; exact HHH.out)).mono ?_
      rintro _ w7 ⟨rfl, hB7⟩
      dsimp only
      have hBr7 : Below wr.heap.size wr w7 := hBr6.trans (hB7.mono hBr6.size)
      have hB07 : Below w.heap.size w w7 := hB.trans (hBr7.mono hB.size)
      have heqH := fun w => eqSumSame H hHl w
      (repeat' ((fail_if_success at_builtin); first | go_values | go_skip | go_guarded | go_step | go_upon))
      refine (works21 w7 (HT.out.below hB07 hts)).mono ?_
      rintro _ w8 ⟨rfl, hB8⟩
      dsimp only
      (repeat' ((fail_if_success at_builtin); first | go_values | go_skip | go_guarded | go_step | go_upon))
      go_ret
      exact ⟨rfl, hB07.trans (hB8.mono hB07.size)⟩

end Go.Proofs.YtdpfemhfmofmlaaDoor

namespace Go.Proofs.YtdpfemhfmofmlaaDoor
set_option linter.unusedSimpArgs false
set_option linter.unusedVariables false
open Go.RowKit
set_option maxRecDepth 10000

structure Logs (w : World) (g o m kg km : Nat) (fg fm : ByteArray → List Ent) (z : Nat) (wr : World) : Prop where
  out : ∃ (S So S2 : Nat → Prop) (cs : List RCh), LogAt wr S g kg fg ∧ LogAt wr So o 0 (fun _ => []) ∧ RLogAt wr S2 m km cs ∧ (∀ u, rowsOf cs u = fm u) ∧
    (∀ j, S j → w.heap.size ≤ j) ∧ (∀ j, So j → w.heap.size ≤ j) ∧ (∀ j, S2 j → w.heap.size ≤ j) ∧ (∀ j, S j → ¬ So j) ∧ (∀ j, S j → ¬ S2 j) ∧ (∀ j, So j → ¬ S2 j) ∧ ¬ S z ∧ ¬ So z ∧ ¬ S2 z
  blw : Below w.heap.size w wr
  lt : z < wr.heap.size
theorem Logs.below {w wr w' : World} {g o m kg km z : Nat} {fg fm : ByteArray → List Ent} (h : Logs w g o m kg km fg fm z wr) (hB : Below wr.heap.size wr w') : Logs w g o m kg km fg fm z w' := by
  obtain ⟨S, So, S2, cs, h1, h2, h3, h4, h5⟩ := h.out
  exact ⟨⟨S, So, S2, cs, h1.below hB, h2.below hB, h3.below hB, h4, h5⟩, h.blw.trans (hB.mono h.blw.size), Nat.lt_of_lt_of_le h.lt hB.size⟩
/-- A new private block. -/
theorem Logs.fresh {w wr w' : World} {g o m kg km z : Nat} {fg fm : ByteArray → List Ent} (h : Logs w g o m kg km fg fm z wr) (hB : Below wr.heap.size wr w') (z' : Nat) (h1 : wr.heap.size ≤ z') (h2 : z' < w'.heap.size) : Logs w g o m kg km fg fm z' w' := by
  obtain ⟨S, So, S2, cs, q1, q2, q3, q4, q5, q6, q7, q8, q9, q10, _, _, _⟩ := h.out
  exact ⟨⟨S, So, S2, cs, q1.below hB, q2.below hB, q3.below hB, q4, q5, q6, q7, q8, q9, q10, fun hz => by have := q1.low _ hz; omega, fun hz => by have := q2.low _ hz; omega, fun hz => by have := q3.low _ hz; omega⟩, h.blw.trans (hB.mono h.blw.size), h2⟩
theorem Logs.G {w wr : World} {g o m kg km z : Nat} {fg fm : ByteArray → List Ent} (h : Logs w g o m kg km fg fm z wr) : ∃ S, LogAt wr S g kg fg := by
  obtain ⟨S, So, S2, cs, q1, _⟩ := h.out
  exact ⟨S, q1⟩
theorem Logs.O {w wr : World} {g o m kg km z : Nat} {fg fm : ByteArray → List Ent} (h : Logs w g o m kg km fg fm z wr) : ∃ S, LogAt wr S o 0 (fun _ => []) := by
  obtain ⟨S, So, S2, cs, _, q1, _⟩ := h.out
  exact ⟨So, q1⟩
theorem Logs.M {w wr : World} {g o m kg km z : Nat} {fg fm : ByteArray → List Ent} (h : Logs w g o m kg km fg fm z wr) : ∃ S cs, RLogAt wr S m km cs ∧ ∀ u, rowsOf cs u = fm u := by
  obtain ⟨S, So, S2, cs, _, _, q1, q2, _⟩ := h.out
  exact ⟨S2, cs, q1, q2⟩
theorem logsAddG {w u : World} {g o m kg km z : Nat} {fg fm f' : ByteArray → List Ent} (s : ByteArray) (x r : Ent) (hf' : lput fg s (fg s ++ [r]) = f') (h : Logs w g o m kg km fg fm z u) (hT : Tabs u) (hs : s.size ≤ maxLen) (hc : kg ≤ 100000) (hx : x.Fit) (hr : rowOf (fg s) x = r) :
    Calls Tryd.prog 72 #[.pointer (some ⟨g, 0, none⟩), .string s, .agg x.cells.toArray] u fun e w' => e = .returned (.agg r.cells.toArray) ∧ Logs w g o m (kg + 1) km f' fm z w' ∧ w'.heap[z]? = u.heap[z]? := by
  subst hf'
  obtain ⟨S, So, S2, cs, q1, q2, q3, q4, q5, q6, q7, q8, q9, q10, q11, q12, q13⟩ := h.out
  refine (auditAdd S g kg fg s x r u q1 hT hs hc hx hr).mono ?_
  rintro _ w' ⟨rfl, hL, hF⟩
  have hb := h.blw.size
  refine ⟨rfl, ⟨⟨_, So, S2, cs, hL, q2.frm hF (fun j hj hs => q8 j hs hj), q3.frm hF (fun j hj hs => q9 j hs hj), q4, ?_, q6, q7, ?_, ?_, q10, ?_, q12, q13⟩, h.blw.trans (hF.belowOf hb q5), Nat.lt_of_lt_of_le h.lt hF.size⟩, hF.block z h.lt q11⟩
  · rintro j (hj | hj)
    · exact q5 j hj
    · omega
  · rintro j (hj | hj) hj2
    · exact q8 j hj hj2
    · have := q2.low j hj2; omega
  · rintro j (hj | hj) hj2
    · exact q9 j hj hj2
    · have := q3.low j hj2; omega
  · rintro (hj | hj)
    · exact q11 hj
    · have := h.lt; omega
theorem logsAddM {w u : World} {g o m kg km z : Nat} {fg fm f' : ByteArray → List Ent} (s : ByteArray) (x r : Ent) (hf' : lput fm s (fm s ++ [r]) = f') (h : Logs w g o m kg km fg fm z u) (hc : km ≤ 100000) (hx : x.Fit) (hr : rowOf (fm s) x = r) :
    Calls Tryd.prog 60 #[.pointer (some ⟨m, 0, none⟩), .string s, .agg x.cells.toArray] u fun e w' => e = .returned (.agg r.cells.toArray) ∧ Logs w g o m kg (km + 1) fg f' z w' ∧ w'.heap[z]? = u.heap[z]? := by
  subst hf'
  obtain ⟨S, So, S2, cs, q1, q2, q3, q4, q5, q6, q7, q8, q9, q10, q11, q12, q13⟩ := h.out
  refine (refAdd21 S2 m km cs s x r u q3 hc hx (by rw [q4]; exact hr)).mono ?_
  rintro _ w' ⟨rfl, ⟨cs', hL, hcs⟩, hF⟩
  have hb := h.blw.size
  refine ⟨rfl, ⟨⟨S, So, _, cs', q1.frm hF (fun j hj hs => q9 j hj hs), q2.frm hF (fun j hj hs => q10 j hj hs), hL, ?_, q5, q6, ?_, q8, ?_, ?_, q11, q12, ?_⟩, h.blw.trans (hF.belowOf hb q7), Nat.lt_of_lt_of_le h.lt hF.size⟩, hF.block z h.lt q13⟩
  · intro t
    rw [hcs t]
    unfold lput
    split
    · rw [q4]
    · exact q4 t
  · rintro j (hj | hj)
    · exact q7 j hj
    · omega
  · rintro j hj (hj2 | hj2)
    · exact q9 j hj hj2
    · have := q1.low j hj; omega
  · rintro j hj (hj2 | hj2)
    · exact q10 j hj hj2
    · have := q2.low j hj; omega
  · rintro (hj | hj)
    · exact q13 hj
    · have := h.lt; omega
theorem logsHeadG {w u : World} {g o m kg km z : Nat} {fg fm : ByteArray → List Ent} (s : ByteArray) (H : List UInt8) (h : Logs w g o m kg km fg fm z u) (hs : s.size ≤ maxLen) (hc : kg ≤ 100000) (hH : headOf (fg s) = H) :
    Calls Tryd.prog 73 #[.pointer (some ⟨g, 0, none⟩), .string s] u fun e w' => e = .returned (.agg (bvs H).toArray) ∧ Below u.heap.size u w' := by
  obtain ⟨S, h1⟩ := h.G
  exact auditHead S g kg fg s H u h1 hs hc hH
theorem logsHeadM {w u : World} {g o m kg km z : Nat} {fg fm : ByteArray → List Ent} (s : ByteArray) (H : List UInt8) (h : Logs w g o m kg km fg fm z u) (hc : km ≤ 100000) (hH : headOf (fm s) = H) :
    Calls Tryd.prog 66 #[.pointer (some ⟨m, 0, none⟩), .string s] u fun e w' => e = .returned (.agg (bvs H).toArray) ∧ Below u.heap.size u w' := by
  obtain ⟨S, cs, h1, h2⟩ := h.M
  exact refHead21 S m km cs s H u h1 hc (by rw [h2]; exact hH)
theorem logsCountG {w u : World} {g o m kg km z : Nat} {fg fm : ByteArray → List Ent} (s : ByteArray) (N : Nat) (h : Logs w g o m kg km fg fm z u) (hs : s.size ≤ maxLen) (hc : kg ≤ 100000) (hH : (fg s).length = N) :
    Calls Tryd.prog 74 #[.pointer (some ⟨g, 0, none⟩), .string s] u fun e w' => e = .returned (.int .i64 (N : Int)) ∧ u = w' := by
  obtain ⟨S, h1⟩ := h.G
  subst hH
  exact auditCount S g kg fg s u h1 hs hc
theorem logsCountM {w u : World} {g o m kg km z : Nat} {fg fm : ByteArray → List Ent} (s : ByteArray) (N : Nat) (h : Logs w g o m kg km fg fm z u) (hc : km ≤ 100000) (hH : (fm s).length = N) :
    Calls Tryd.prog 75 #[.pointer (some ⟨m, 0, none⟩), .string s] u fun e w' => e = .returned (.int .i64 (N : Int)) ∧ u = w' := by
  obtain ⟨S, cs, h1, h2⟩ := h.M
  subst hH
  rw [← h2]
  exact refCount21 S m km cs s u h1 hc
theorem logsRowsG {w u : World} {g o m kg km z : Nat} {fg fm : ByteArray → List Ent} (s : ByteArray) (fr many : Int) (l : List Ent) (h : Logs w g o m kg km fg fm z u) (hs : s.size ≤ maxLen) (hc : kg ≤ 100000) (hfr : I64 fr) (hmany : I64 many) (hl : told (fg s) fr many = l) :
    Calls Tryd.prog 76 #[.pointer (some ⟨g, 0, none⟩), .string s, .int .i64 fr, .int .i64 many] u (GotE u l) := by
  obtain ⟨S, h1⟩ := h.G
  subst hl
  exact auditRows S g kg fg s fr many u h1 hs hc hfr hmany
theorem logsRowsM {w u : World} {g o m kg km z : Nat} {fg fm : ByteArray → List Ent} (s : ByteArray) (fr many : Int) (l : List Ent) (h : Logs w g o m kg km fg fm z u) (hc : km ≤ 100000) (hfr : I64 fr) (hmany : I64 many) (hn : Numbered (fm s)) (hl : told (fm s) fr many = l) :
    Calls Tryd.prog 77 #[.pointer (some ⟨m, 0, none⟩), .string s, .int .i64 fr, .int .i64 many] u (GotE u l) := by
  obtain ⟨S, cs, h1, h2⟩ := h.M
  subst hl
  rw [← h2]
  exact refRows21 S m km cs s fr many u h1 hc hfr hmany (by rw [h2]; exact hn)

theorem Logs.zero {w wr : World} {g o m kg km z : Nat} {fg fm : ByteArray → List Ent} (h : Logs w g o m kg km fg fm z wr) (h2 : 2 ≤ w.heap.size) : Logs w g o m kg km fg fm 0 wr := by
  obtain ⟨S, So, S2, cs, q1, q2, q3, q4, q5, q6, q7, q8, q9, q10, _, _, _⟩ := h.out
  exact ⟨⟨S, So, S2, cs, q1, q2, q3, q4, q5, q6, q7, q8, q9, q10, fun hz => by have := q5 _ hz; omega, fun hz => by have := q6 _ hz; omega, fun hz => by have := q7 _ hz; omega⟩, h.blw, by have := h.blw.size; omega⟩
theorem owns_range {w : World} {base e size : Nat} {v : Value} {n : Nat} {xs : List Value} (h : w.ownsRow base e size v n xs) : ∀ k, v.ownBlock = some k → base ≤ k ∧ k < w.heap.size := by
  intro k hk
  rcases h.2 with ⟨rfl, _⟩ | ⟨g', cap, cur, rfl, hg', hh, _⟩
  · cases hk
  · cases hk
    exact ⟨hg', (Array.getElem?_eq_some_iff.1 hh).1⟩
theorem emptyCount {w : World} {S : Nat → Prop} {o : Nat} (s : ByteArray) (h : LogAt w S o 0 (fun _ => [])) (hs : s.size ≤ maxLen) :
    Calls Tryd.prog 74 #[.pointer (some ⟨o, 0, none⟩), .string s] w fun e w' => e = .returned (.int .i64 0) ∧ w = w' := auditCount S o 0 (fun _ => []) s w h hs (by omega)
theorem emptyHead {w : World} {S : Nat → Prop} {o : Nat} (s : ByteArray) (h : LogAt w S o 0 (fun _ => [])) (hs : s.size ≤ maxLen) :
    Calls Tryd.prog 73 #[.pointer (some ⟨o, 0, none⟩), .string s] w fun e w' => e = .returned (.agg (bvs zeros32).toArray) ∧ Below w.heap.size w w' := auditHead S o 0 (fun _ => []) s zeros32 w h hs (by omega) rfl
theorem emptyRows {w : World} {S : Nat → Prop} {o : Nat} (s : ByteArray) (h : LogAt w S o 0 (fun _ => [])) (hs : s.size ≤ maxLen) :
    Calls Tryd.prog 76 #[.pointer (some ⟨o, 0, none⟩), .string s, .int .i64 1, .int .i64 9] w fun e w' => (∃ a c, e = .returned (.slice a 0 c)) ∧ Below w.heap.size w w' := by
  refine (auditRows S o 0 (fun _ => []) s 1 9 w h hs (by omega) (by unfold I64; omega) (by unfold I64; omega)).mono ?_
  have ht : told [] 1 9 = [] := by unfold told; simp
  show ∀ e w', GotE w (told [] 1 9) e w' → _
  rw [ht]
  rintro _ w' ⟨a, c, rfl, _, _, _, hB, _⟩
  exact ⟨⟨a, c, rfl⟩, hB⟩

/-- A step, read into a variable. -/
def zRw : Rw := ⟨ByteArray.empty, zEnt, 0, 0⟩
theorem zeroRw : (Tryd.prog.info? 89).bind (fun i => i.zero.map (·.cells)) = some zRw.cells.toArray := by kernel_rfl
theorem rwSize : (Tryd.prog.info? 89).map (·.size) = some 42 := by kernel_rfl
theorem Rw.cells_oneCell (x : Rw) : ∀ u ∈ x.cells, u.oneCell' = true := by
  intro u hu
  unfold Rw.cells at hu
  rcases List.mem_cons.1 hu with rfl | h
  · rfl
  · rcases List.mem_append.1 h with h | h
    · exact x.e.cells_oneCell u h
    · simp at h
      rcases h with rfl | rfl <;> rfl
abbrev RowZ (z : Nat) (r : Rw) (w' : World) : Prop := ((w'.cell? ⟨z, 0, none⟩ = some (.string r.tenant) ∧ w'.rangeAt z 1 r.e.cells) ∧ w'.heap[z]? = some (.cells r.cells.toArray 89 (0, 0))) ∧ True
theorem rowZ {z : Nat} {r : Rw} {w' : World} (hs : r.e.sum.length = 32) (h : w'.heap[z]? = some (.cells r.cells.toArray 89 (0, 0))) : RowZ z r w' := by
  have h1 := rw_cell (rangeAt_whole h) hs
  rw [Nat.zero_add] at h1
  exact ⟨⟨⟨h1.1, h1.2.1⟩, h⟩, trivial⟩

end Go.Proofs.YtdpfemhfmofmlaaDoor

namespace Go.Proofs.YtdpfemhfmofmlaaDoor
set_option linter.unusedSimpArgs false
set_option linter.unusedVariables false
open Go.RowKit
set_option maxRecDepth 10000
--@PUT2

structure RunI (w : World) (g o m k : Nat) (wr : World) : Prop where
  out : ∃ f, Logs w g o m k k f f 0 wr ∧ ∀ u, Numbered (f u)

set_option maxHeartbeats 16000000 in
theorem auditRuns_walk (a : Option Addr) (n c : Nat) (xs : List Rw) (w : World) (hT : Tabs w) (hr : RdC w a (xs.flatMap Rw.cells)) (hok : ∀ x ∈ xs, x.Ok) (en : xs.length = n) (hn : n ≤ maxLen) :
    Calls Tryd.prog 16 #[.slice a n c] w fun e w' => e = .returned (.bool true) ∧ Below w.heap.size w w' := by
  have hts := hT.size
  have HT := Lib.hid hT; clear hT
  have hn9 : (n : Int) ≤ 9223372036854775807 := by unfold maxLen at hn; omega
  subst en
  have hsum : ∀ x ∈ xs, x.e.sum.length = 32 := fun x hx => (hok x hx).e.sum
  have HR := Lib.hid hr; clear hr
  have HOK := Lib.hid hok; clear hok
  have HSUM := Lib.hid hsum; clear hsum
  obtain ⟨iE, zE, hiE, hzE, hsE, hbE, hcE⟩ := entInfo_parts
  have HIE := Lib.hid hiE; clear hiE
  have HZE := Lib.hid hzE; clear hzE
  have HSE := Lib.hid hsE; clear hsE
  obtain ⟨iR, zR, hiR, hzR, hcR⟩ := fresh_parts zeroRw
  have HIR := Lib.hid hiR; clear hiR
  have HZR := Lib.hid hzR; clear hzR
  have HCR := Lib.hid hcR; clear hcR
  clear hbE hcE
  have hu73 : Tryd.prog.underlying 73 = some _ := Tryd.underlying73
  have hu89 : Tryd.prog.underlying 89 = some _ := Tryd.underlying89
  go_enter Tryd.func16, Tryd.ntmps16
  (repeat' ((fail_if_success at_builtin); first | go_values | go_skip | go_guarded | go_step | go_upon))
  refine (auditNew w).mono ?_
  rintro _ w1 ⟨g, rfl, hL1, hB1⟩
  dsimp only
  have HL1 := Lib.hid hL1; clear hL1
  (repeat' ((fail_if_success at_builtin); first | go_values | go_skip | go_guarded | go_step | go_upon))
  refine (auditNew w1).mono ?_
  rintro _ w2 ⟨o, rfl, hL2, hB2⟩
  dsimp only
  have HL2 := Lib.hid hL2; clear hL2
  have hB02 : Below w.heap.size w w2 := hB1.trans (hB2.mono hB1.size)
  by_cases h1 : 100 < xs.length
  · (repeat' ((fail_if_success at_builtin); first | go_values | go_skip | go_guarded | go_step | go_upon))
    refine (works21 w2 (HT.out.below hB02 hts)).mono ?_
    rintro _ w3 ⟨rfl, hB3⟩
    dsimp only
    (repeat' ((fail_if_success at_builtin); first | go_values | go_skip | go_guarded | go_step | go_upon))
    go_ret
    exact ⟨rfl, hB02.trans (hB3.mono hB02.size)⟩
  (repeat' ((fail_if_success at_builtin); first | go_values | go_skip | go_guarded | go_step | go_upon))
  refine (refNew21 w2).mono ?_
  rintro _ w3 ⟨m, rfl, hL3, hB3⟩
  dsimp only
  have hI : RunI w g o m 0 w3 := by
    have s1 := hB1.size
    have s2 := hB2.size
    have s3 := hB3.size
    refine ⟨⟨fun _ => [], ⟨⟨_, _, _, [], HL1.out.below (hB2.trans (hB3.mono hB2.size)), HL2.out.below hB3, hL3, fun _ => rfl, ?_, ?_, ?_, ?_, ?_, ?_, ?_, ?_, ?_⟩, hB02.trans (hB3.mono hB02.size), by omega⟩, fun _ => numbered_nil⟩⟩
    · exact fun j hj => hj.1
    · exact fun j hj => by omega
    · exact fun j hj => by omega
    · exact fun j hj hj2 => by omega
    · exact fun j hj hj2 => by omega
    · exact fun j hj hj2 => by omega
    · exact fun hj => by omega
    · exact fun hj => by omega
    · exact fun hj => by omega
  have HI := Lib.hid hI
  clear hI HL1 HL2 hL3 hB02
  (repeat' ((fail_if_success at_builtin); first | go_values | go_skip | go_guarded | go_step | go_upon))
  go_loopw [6] (fun i wr => ∃ k : Nat, k ≤ xs.length ∧ i = .int .i64 k ∧ RunI w g o m k wr) (fun i _ => xs.length - (intOf i).toNat)
  case atStart => exact ⟨0, by omega, rfl, HI.out⟩
  case round =>
    obtain ⟨k, hk, rfl, hI⟩ := hrel
    obtain ⟨f, hLg, hnum⟩ := hI.out
    have hB := hLg.blw
    have HLG := Lib.hid hLg; clear hLg
    have HNUM := Lib.hid hnum; clear hnum
    clear hI HI hB1 hB2 hB3
    by_cases hlt : k < xs.length
    · obtain ⟨b, off, hba, hrr, _, _, _, _⟩ := rws_at HR.out HSUM.out k hlt
      have HM := List.getElem_mem hlt
      generalize xs[k] = r at *
      have hrk := HOK.out r HM
      have hrs : r.e.sum.length = 32 := hrk.e.sum
      have HRK := Lib.hid hrk; clear hrk
      have HRS := Lib.hid hrs
      have HIE2 := Lib.hid (show (Tryd.prog.info? 73).map (·.size) = some r.e.cells.length by rw [Ent.cells_length hrs]; exact entSize)
      have HIR2 := Lib.hid (show (Tryd.prog.info? 89).map (·.size) = some r.cells.length by rw [Rw.cells_length hrs]; exact rwSize)
      have HFR := Lib.hid (show 0 + r.cells.length ≤ zRw.cells.toArray.size by rw [Rw.cells_length hrs]; exact Nat.le_refl _)
      have HFL := Lib.hid (show r.cells.length = zRw.cells.toArray.toList.length by rw [Rw.cells_length hrs]; rfl)
      have HOR := Lib.hid r.cells_oneCell
      clear hrs
      have bk : (0 : Int) ≤ (k : Int) ∧ (k : Int) < (xs.length : Int) := by omega
      have HRR := Lib.hid (rangeAt_below hrr hB (Nat.le_refl _)); clear hrr
      subst hba
      (repeat' ((fail_if_success at_builtin); (fail_if_success (show wpList _ _ _ ({ dst := some 43, op := _, type := _, pos := _, after := _, guard := _ } :: _) _ _)); first | (first | (with_reducible refine wpList_load_mid rfl 89 _ rfl b (off + k * 42) rfl r.cells _ HRR.out hu89 rfl HIR2.out ?_) | ((with_reducible refine wpList_alloc_fresh (w := wr) rfl 89 rfl _ iR zR HIR.out HZR.out HCR.out ?_); intro w3 hg3 hB3 hs3; have HG3 := Lib.hid hg3; clear hg3; have HS3 := Lib.hid hs3; clear hs3) | ((with_reducible refine wpList_store_blk rfl 89 _ _ rfl wr.heap.size 0 r.cells rfl rfl _ _ HG3.out HFR.out HIR2.out HOR.out ?_); intro w4 hg4 hG4; rw [splice_whole _ _ HFL.out] at hg4; have HG4 := Lib.hid hg4; clear hg4 HG3)) | go_values | go_skip | go_guarded | go_step | go_upon))
      have hB4 : Below wr.heap.size wr w4 := hB3.grown hG4 (by rw [HS3.out]; omega) (fun j e => by cases e; exact Nat.le_refl _)
      have hz4 : wr.heap.size < w4.heap.size := by have := hG4.size; have := HS3.out; omega
      obtain ⟨z, hz⟩ : ∃ z, wr.heap.size = z := ⟨_, rfl⟩
      have hL4 : Logs w g o m k k f f z w4 := HLG.out.fresh hB4 z (by omega) (by omega)
      clear hB3 hG4 HS3 HLG
      have hg4 := HG4.out
      rw [hz] at hg4 hz4 ⊢
      clear HG4 hB4 hz hB
      have HL4 := Lib.hid hL4; clear hL4
      have HZ4 := Lib.hid (rowZ HRS.out hg4)
      have HQ4 := Lib.hid hg4; clear hg4
      (repeat' ((fail_if_success at_builtin); first | (first | (with_reducible refine wpList_load_mid rfl 73 _ rfl z 1 rfl r.e.cells _ HZ4.out.1.1.2 hu73 rfl HIE2.out ?_) | ((with_reducible refine wpList_build_one rfl 68 73 _ rfl Tryd.underlying68 r.e.cells rfl iE zE HIE.out HZE.out (by rw [Ent.cells_length HRS.out];exact HSE.out) (by rw [Ent.cells_length HRS.out];omega) (by rw [Ent.cells_length HRS.out];omega) ?_); intro w5 hg5 hB5 hs5; have HG5 := Lib.hid hg5; clear hg5)) | go_values | go_skip | go_guarded | go_step | go_upon))
      refine (big21 (some ⟨w4.heap.size, 0, none⟩) 1 1 [r.e] w5 (by rw [List.flatMap_singleton]; exact rd_rowC HG5.out) (fun x hx => by rw [List.mem_singleton.1 hx]; exact HRS.out) rfl).mono ?_
      rintro _ w6 ⟨rfl, hB6⟩
      have hbg : decide (100 < 1 ∨ ∃ x ∈ [r.e], x.big) = decide r.e.big := by simp
      rw [hbg]
      dsimp only
      have hB46 : Below w4.heap.size w4 w6 := hB5.trans (hB6.mono hB5.size)
      have hL6 : Logs w g o m k k f f z w6 := HL4.out.below hB46
      have hz6 := (hB46.block z hz4).trans HQ4.out
      have c6 := (rowZ HRS.out hz6).1.1.1
      have hB06 := hL6.blw
      have HL6 := Lib.hid hL6; clear hL6
      have HQ6 := Lib.hid hz6; clear hz6
      clear HG5 hB5 hB6 hs5 hbg hB46 HL4 HZ4 HQ4 hz4
      by_cases hb : r.e.big
      · have t1 : decide r.e.big = true := decide_eq_true hb
        (repeat' ((fail_if_success at_builtin); first | go_values | go_skip | go_guarded | go_step | go_upon))
        refine (works21 w6 (HT.out.below hB06 hts)).mono ?_
        rintro _ w7 ⟨rfl, hB7⟩
        dsimp only
        (repeat' ((fail_if_success at_builtin); first | go_values | go_skip | go_guarded | go_step | go_upon))
        go_ret
        exact ⟨rfl, hB06.trans (hB7.mono hB06.size)⟩
      have t1 : decide r.e.big = false := decide_eq_false hb
      by_cases ht : 512 < r.tenant.size
      · (repeat' ((fail_if_success at_builtin); first | go_values | go_skip | go_guarded | go_step | go_upon))
        refine (works21 w6 (HT.out.below hB06 hts)).mono ?_
        rintro _ w7 ⟨rfl, hB7⟩
        dsimp only
        (repeat' ((fail_if_success at_builtin); first | go_values | go_skip | go_guarded | go_step | go_upon))
        go_ret
        exact ⟨rfl, hB06.trans (hB7.mono hB06.size)⟩
      have HFIT := Lib.hid (fit_of_small HRK.out.e hb)
      have HTL := Lib.hid (show r.tenant.size ≤ maxLen by unfold maxLen; omega)
      obtain ⟨R, hR⟩ : ∃ R, rowOf (f r.tenant) r.e = R := ⟨_, rfl⟩
      obtain ⟨f', hf'⟩ : ∃ f', lput f r.tenant (f r.tenant ++ [R]) = f' := ⟨_, rfl⟩
      have hfr' : f' r.tenant = f r.tenant ++ [R] := by rw [← hf', lput_same]
      have hRs : R.sum.length = 32 := by rw [← hR]; exact Ent.next_length _ _
      obtain ⟨H, hH⟩ : ∃ H, headOf (f' r.tenant) = H := ⟨_, rfl⟩
      obtain ⟨N, hN⟩ : ∃ N, (f' r.tenant).length = N := ⟨_, rfl⟩
      have hNk : N ≤ k + 1 := by
        obtain ⟨S, h1⟩ := HL6.out.G
        have := h1.len r.tenant
        rw [← hN, hfr', List.length_append]
        simp
        omega
      have hnum' : ∀ u, Numbered (f' u) := fun u => by
        rw [← hf']
        unfold lput
        split
        · rw [← hR]; exact numbered_row (HNUM.out _) _
        · exact HNUM.out u
      have hfit' : ∀ x ∈ f' r.tenant, x.sum.length = 32 := fun x hx => by
        rw [hfr'] at hx
        rcases List.mem_append.1 hx with h2 | h2
        · obtain ⟨S, h1⟩ := HL6.out.G
          exact (h1.rows _ x h2).ok.sum
        · rw [List.mem_singleton.1 h2]; exact hRs
      have hHl : H.length = 32 := by rw [← hH, hfr']; unfold headOf; simp [hRs]
      have hneqE := fun w => neqEnt w R R hRs hRs
      rw [decide_eq_true (rfl : R = R)] at hneqE
      have hneqH := fun w => neqSum w H H hHl hHl
      rw [decide_eq_true (rfl : H = H)] at hneqH
      have HRR0 := Lib.hid hR
      have HH1 := Lib.hid hH
      have HN1 := Lib.hid hN
      have HF1 := Lib.hid hf'
      have HFIT1 := Lib.hid hfit'
      have HNUM1 := Lib.hid hnum'
      have hie2 := HIE2.out
      clear hR hfr' hRs hH hN hnum' hfit' hHl hf'
      have hS0 : RowZ z r w6.drew := rowZ HRS.out HQ6.out
      go_upto_region 12 with fail
      go_cut [88] from 33 to 121 (fun cc wx => cc = .bool false ∧ Logs w g o m (k + 1) (k + 1) f' f' z wx ∧ wx.heap[z]? = some (.cells r.cells.toArray 89 (0, 0)))
      case first =>
        have hL0 : Logs w g o m k k f f z w6.drew := HL6.out.below (Below.refl _ _).drew
        have hz0 : w6.drew.heap[z]? = some (.cells r.cells.toArray 89 (0, 0)) := HQ6.out
        have hT0 : Tabs w6.drew := HT.out.below hB06.drew hts
        have hTM : ∀ wx, Below w.heap.size w wx → Tabs wx := fun wx h => HT.out.below h hts
        have hkk : k ≤ 100 := by omega
        refine wp_region_noPanic ?_
        refine wp_region_held_drew (S := RowZ z r) (by kernel_rfl) ?_ (fun hHeld => ?_)
        · exact hS0
        · skip
          refine wpAnyH_take (i := 0) (oi := _) (v := ?_) rfl (by kernel_rfl) (by kernel_rfl) (by kernel_rfl) (fun _ _ _ h => h) (Or.inl ⟨by rfl, ?_⟩) (by assumption) ?_
          rotate_left 1
          · (intro w hSw; (try dsimp only at hSw); go_simp; all_goals (with_reducible rfl))
          try simp only [Act.put, List.getElem_toArray, List.getElem_cons_zero, List.getElem_cons_succ, List.setIfInBounds_toArray, List.set_cons_zero, List.set_cons_succ]
          refine wpAnyH_take (i := 1) (oi := _) (v := ?_) rfl (by kernel_rfl) (by kernel_rfl) (by kernel_rfl) (fun _ _ _ h => h) (Or.inl ⟨by rfl, ?_⟩) (by assumption) ?_
          rotate_left 1
          · (intro w hSw; (try dsimp only at hSw); go_simp; all_goals (with_reducible rfl))
          try simp only [Act.put, List.getElem_toArray, List.getElem_cons_zero, List.getElem_cons_succ, List.setIfInBounds_toArray, List.set_cons_zero, List.set_cons_succ]
          refine wpAnyH_take (i := 2) (oi := _) (v := ?_) rfl (by kernel_rfl) (by kernel_rfl) (by kernel_rfl) (fun _ _ _ h => h) (Or.inl ⟨by rfl, ?_⟩) (by assumption) ?_
          rotate_left 1
          · (intro w hSw; (try dsimp only at hSw); go_simp; all_goals (with_reducible rfl))
          try simp only [Act.put, List.getElem_toArray, List.getElem_cons_zero, List.getElem_cons_succ, List.setIfInBounds_toArray, List.set_cons_zero, List.set_cons_succ]
          refine wpAnyH_take (i := 3) (oi := _) (v := ?_) rfl (by kernel_rfl) (by kernel_rfl) (by kernel_rfl) (fun _ _ _ h => h) (Or.inl ⟨by rfl, ?_⟩) (by assumption) ?_
          rotate_left 1
          · (intro w hSw; (try dsimp only at hSw); go_simp; all_goals (with_reducible rfl))
          try simp only [Act.put, List.getElem_toArray, List.getElem_cons_zero, List.getElem_cons_succ, List.setIfInBounds_toArray, List.set_cons_zero, List.set_cons_succ]
          refine' wpAnyH_take (i := 4) (oi := _) (v := _) rfl (by kernel_rfl) (by kernel_rfl) (by kernel_rfl) (fun _ _ _ h => h) (yieldsIf_load_mid (by rfl) _ _ rfl _ _ rfl _ _ ?ls1 ?lu1 ?ld1 ?li1) (by assumption) ?lr1
          case ls1 => (intro w hSw; (try dsimp only at hSw); go_split_ands; assumption)
          case lu1 => assumption
          case ld1 => rfl
          case li1 => first | assumption | (simp only [*]; done)
          try simp only [Act.put, List.getElem_toArray, List.getElem_cons_zero, List.getElem_cons_succ, List.setIfInBounds_toArray, List.set_cons_zero, List.set_cons_succ]
          refine wpAnyH_take (i := 6) (oi := _) (v := ?_) rfl (by kernel_rfl) (by kernel_rfl) (by kernel_rfl) (fun _ _ _ h => h) (Or.inl ⟨by rfl, ?_⟩) (by assumption) ?_
          rotate_left 1
          · (intro w hSw; (try dsimp only at hSw); go_simp; all_goals (with_reducible rfl))
          try simp only [Act.put, List.getElem_toArray, List.getElem_cons_zero, List.getElem_cons_succ, List.setIfInBounds_toArray, List.set_cons_zero, List.set_cons_succ]
          refine wpAnyH_take (i := 7) (oi := _) (v := ?_) rfl (by kernel_rfl) (by kernel_rfl) (by kernel_rfl) (fun _ _ _ h => h) (Or.inl ⟨by rfl, ?_⟩) (by assumption) ?_
          rotate_left 1
          · (intro w hSw; (try dsimp only at hSw); go_simp; all_goals (with_reducible rfl))
          try simp only [Act.put, List.getElem_toArray, List.getElem_cons_zero, List.getElem_cons_succ, List.setIfInBounds_toArray, List.set_cons_zero, List.set_cons_succ]
          refine wpAnyH_take (i := 8) (oi := _) (v := ?_) rfl (by kernel_rfl) (by kernel_rfl) (by kernel_rfl) (fun _ _ _ h => h) (Or.inl ⟨by rfl, ?_⟩) (by assumption) ?_
          rotate_left 1
          · (intro w hSw; (try dsimp only at hSw); go_simp; all_goals (with_reducible rfl))
          try simp only [Act.put, List.getElem_toArray, List.getElem_cons_zero, List.getElem_cons_succ, List.setIfInBounds_toArray, List.set_cons_zero, List.set_cons_succ]
          refine wpAnyH_take (i := 9) (oi := _) (v := ?_) rfl (by kernel_rfl) (by kernel_rfl) (by kernel_rfl) (fun _ _ _ h => h) (Or.inl ⟨by rfl, ?_⟩) (by assumption) ?_
          rotate_left 1
          · (intro w hSw; (try dsimp only at hSw); go_simp; all_goals (with_reducible rfl))
          try simp only [Act.put, List.getElem_toArray, List.getElem_cons_zero, List.getElem_cons_succ, List.setIfInBounds_toArray, List.set_cons_zero, List.set_cons_succ]
          refine' wpAnyH_take (i := 10) (oi := _) (v := _) rfl (by kernel_rfl) (by kernel_rfl) (by kernel_rfl) (fun _ _ _ h => h) (yieldsIf_load_mid (by rfl) _ _ rfl _ _ rfl _ _ ?ls2 ?lu2 ?ld2 ?li2) (by assumption) ?lr2
          case ls2 => (intro w hSw; (try dsimp only at hSw); go_split_ands; assumption)
          case lu2 => assumption
          case ld2 => rfl
          case li2 => first | assumption | (simp only [*]; done)
          try simp only [Act.put, List.getElem_toArray, List.getElem_cons_zero, List.getElem_cons_succ, List.setIfInBounds_toArray, List.set_cons_zero, List.set_cons_succ]
          refine wpAnyH_ready (rs := [5]) (by kernel_rfl) (by simp) ?_
          refine AllReadyH.cons (o := _) rfl (fun K hK => ?_) ?_
          rotate_left 1
          · exact AllReadyH.nil
          go_simp
          go_at_call 72
          refine (logsAddG r.tenant r.e R HF1.out hL0 hT0 HTL.out (by omega) HFIT.out HRR0.out).mono ?_
          rintro _ wA ⟨rfl, hLA, hzA⟩
          dsimp only
          refine hK.out _ _ ?_ (fun hHeld => ?_)
          · (exact rowZ HRS.out (hzA.trans hz0))
          clear hK K
          try simp only [Act.put, List.getElem_toArray, List.getElem_cons_zero, List.getElem_cons_succ, List.setIfInBounds_toArray, List.set_cons_zero, List.set_cons_succ]
          refine wpAnyH_ready (rs := [11]) (by kernel_rfl) (by simp) ?_
          refine AllReadyH.cons (o := _) rfl (fun K hK => ?_) ?_
          rotate_left 1
          · exact AllReadyH.nil
          go_simp
          go_at_call 60
          refine (logsAddM r.tenant r.e R HF1.out hLA (by omega) HFIT.out HRR0.out).mono ?_
          rintro _ wB ⟨rfl, hLB, hzB⟩
          dsimp only
          refine hK.out _ _ ?_ (fun hHeld => ?_)
          · (exact rowZ HRS.out (hzB.trans (hzA.trans hz0)))
          clear hK K
          try simp only [Act.put, List.getElem_toArray, List.getElem_cons_zero, List.getElem_cons_succ, List.setIfInBounds_toArray, List.set_cons_zero, List.set_cons_succ]
          have hzB0 := hzB.trans (hzA.trans hz0)
          clear hzB
          have hzB := hzB0
          clear hzB0
          refine wpAnyH_take (i := 12) (oi := _) (v := ?_) rfl (by kernel_rfl) (by kernel_rfl) (by kernel_rfl) (fun _ _ _ h => h) (Or.inl ⟨by rfl, ?_⟩) (by assumption) ?_
          rotate_left 1
          · (intro w hSw; (try dsimp only at hSw); go_simp; all_goals (with_reducible rfl))
          try simp only [Act.put, List.getElem_toArray, List.getElem_cons_zero, List.getElem_cons_succ, List.setIfInBounds_toArray, List.set_cons_zero, List.set_cons_succ]
          refine wpAnyH_take (i := 13) (oi := _) (v := ?_) rfl (by kernel_rfl) (by kernel_rfl) (by kernel_rfl) (fun _ _ _ h => h) (Or.inl ⟨by rfl, ?_⟩) (by assumption) ?_
          rotate_left 1
          · (intro w hSw; (try dsimp only at hSw); go_simp; all_goals (with_reducible rfl))
          try simp only [Act.put, List.getElem_toArray, List.getElem_cons_zero, List.getElem_cons_succ, List.setIfInBounds_toArray, List.set_cons_zero, List.set_cons_succ]
          refine wpAnyH_take (i := 14) (oi := _) (v := ?_) rfl (by kernel_rfl) (by kernel_rfl) (by kernel_rfl) (fun _ _ _ h => h) (Or.inl ⟨by rfl, ?_⟩) (by assumption) ?_
          rotate_left 1
          · (intro w hSw; (try dsimp only at hSw); go_simp; all_goals (with_reducible rfl))
          try simp only [Act.put, List.getElem_toArray, List.getElem_cons_zero, List.getElem_cons_succ, List.setIfInBounds_toArray, List.set_cons_zero, List.set_cons_succ]
          refine wpAnyH_take (i := 15) (oi := _) (v := ?_) rfl (by kernel_rfl) (by kernel_rfl) (by kernel_rfl) (fun _ _ _ h => h) (Or.inl ⟨by rfl, ?_⟩) (by assumption) ?_
          rotate_left 1
          · (intro w hSw; (try dsimp only at hSw); go_simp; all_goals (with_reducible rfl))
          try simp only [Act.put, List.getElem_toArray, List.getElem_cons_zero, List.getElem_cons_succ, List.setIfInBounds_toArray, List.set_cons_zero, List.set_cons_succ]
          refine wpAnyH_take (i := 16) (oi := _) (v := ?_) rfl (by kernel_rfl) (by kernel_rfl) (by kernel_rfl) (fun _ _ _ h => h) (Or.inl ⟨by rfl, ?_⟩) (by assumption) ?_
          rotate_left 1
          · (intro w hSw; (try dsimp only at hSw); go_simp; all_goals (with_reducible rfl))
          try simp only [Act.put, List.getElem_toArray, List.getElem_cons_zero, List.getElem_cons_succ, List.setIfInBounds_toArray, List.set_cons_zero, List.set_cons_succ]
          refine wpAnyH_take (i := 18) (oi := _) (v := ?_) rfl (by kernel_rfl) (by kernel_rfl) (by kernel_rfl) (fun _ _ _ h => h) (Or.inl ⟨by rfl, ?_⟩) (by assumption) ?_
          rotate_left 1
          · (intro w hSw; (try dsimp only at hSw); go_simp; all_goals (with_reducible rfl))
          try simp only [Act.put, List.getElem_toArray, List.getElem_cons_zero, List.getElem_cons_succ, List.setIfInBounds_toArray, List.set_cons_zero, List.set_cons_succ]
          refine wpAnyH_take (i := 19) (oi := _) (v := ?_) rfl (by kernel_rfl) (by kernel_rfl) (by kernel_rfl) (fun _ _ _ h => h) (Or.inl ⟨by rfl, ?_⟩) (by assumption) ?_
          rotate_left 1
          · (intro w hSw; (try dsimp only at hSw); go_simp; all_goals (with_reducible rfl))
          try simp only [Act.put, List.getElem_toArray, List.getElem_cons_zero, List.getElem_cons_succ, List.setIfInBounds_toArray, List.set_cons_zero, List.set_cons_succ]
          refine wpAnyH_take (i := 20) (oi := _) (v := ?_) rfl (by kernel_rfl) (by kernel_rfl) (by kernel_rfl) (fun _ _ _ h => h) (Or.inl ⟨by rfl, ?_⟩) (by assumption) ?_
          rotate_left 1
          · (intro w hSw; (try dsimp only at hSw); go_simp; all_goals (with_reducible rfl))
          try simp only [Act.put, List.getElem_toArray, List.getElem_cons_zero, List.getElem_cons_succ, List.setIfInBounds_toArray, List.set_cons_zero, List.set_cons_succ]
          refine wpAnyH_ready (rs := [17]) (by kernel_rfl) (by simp) ?_
          refine AllReadyH.cons (o := _) rfl (fun K hK => ?_) ?_
          rotate_left 1
          · exact AllReadyH.nil
          go_simp
          go_at_call 73
          refine (logsHeadG r.tenant H hLB HTL.out (by omega) HH1.out).mono ?_
          rintro _ wC ⟨rfl, hBC⟩
          dsimp only
          have hLC := hLB.below hBC
          have hzC := (hBC.block z hLB.lt).trans hzB
          refine hK.out _ _ ?_ (fun hHeld => ?_)
          · (exact rowZ HRS.out hzC)
          clear hK K
          try simp only [Act.put, List.getElem_toArray, List.getElem_cons_zero, List.getElem_cons_succ, List.setIfInBounds_toArray, List.set_cons_zero, List.set_cons_succ]
          refine wpAnyH_ready (rs := [21]) (by kernel_rfl) (by simp) ?_
          refine AllReadyH.cons (o := _) rfl (fun K hK => ?_) ?_
          rotate_left 1
          · exact AllReadyH.nil
          go_simp
          go_at_call 66
          refine (logsHeadM r.tenant H hLC (by omega) HH1.out).mono ?_
          rintro _ wD ⟨rfl, hBD⟩
          dsimp only
          have hLD := hLC.below hBD
          have hzD := (hBD.block z hLC.lt).trans hzC
          refine hK.out _ _ ?_ (fun hHeld => ?_)
          · (exact rowZ HRS.out hzD)
          clear hK K
          try simp only [Act.put, List.getElem_toArray, List.getElem_cons_zero, List.getElem_cons_succ, List.setIfInBounds_toArray, List.set_cons_zero, List.set_cons_succ]
          refine wpAnyH_take (i := 22) (oi := _) (v := ?_) rfl (by kernel_rfl) (by kernel_rfl) (by kernel_rfl) (fun _ _ _ h => h) (Or.inl ⟨by rfl, ?_⟩) (by assumption) ?_
          rotate_left 1
          · (intro w hSw; (try dsimp only at hSw); go_simp; all_goals (with_reducible rfl))
          try simp only [Act.put, List.getElem_toArray, List.getElem_cons_zero, List.getElem_cons_succ, List.setIfInBounds_toArray, List.set_cons_zero, List.set_cons_succ]
          refine wpAnyH_take (i := 23) (oi := _) (v := ?_) rfl (by kernel_rfl) (by kernel_rfl) (by kernel_rfl) (fun _ _ _ h => h) (Or.inl ⟨by rfl, ?_⟩) (by assumption) ?_
          rotate_left 1
          · (intro w hSw; (try dsimp only at hSw); go_simp; all_goals (with_reducible rfl))
          try simp only [Act.put, List.getElem_toArray, List.getElem_cons_zero, List.getElem_cons_succ, List.setIfInBounds_toArray, List.set_cons_zero, List.set_cons_succ]
          refine wpAnyH_take (i := 24) (oi := _) (v := ?_) rfl (by kernel_rfl) (by kernel_rfl) (by kernel_rfl) (fun _ _ _ h => h) (Or.inl ⟨by rfl, ?_⟩) (by assumption) ?_
          rotate_left 1
          · (intro w hSw; (try dsimp only at hSw); go_simp; all_goals (with_reducible rfl))
          try simp only [Act.put, List.getElem_toArray, List.getElem_cons_zero, List.getElem_cons_succ, List.setIfInBounds_toArray, List.set_cons_zero, List.set_cons_succ]
          refine wpAnyH_take (i := 25) (oi := _) (v := ?_) rfl (by kernel_rfl) (by kernel_rfl) (by kernel_rfl) (fun _ _ _ h => h) (Or.inl ⟨by rfl, ?_⟩) (by assumption) ?_
          rotate_left 1
          · (intro w hSw; (try dsimp only at hSw); go_simp; all_goals (with_reducible rfl))
          try simp only [Act.put, List.getElem_toArray, List.getElem_cons_zero, List.getElem_cons_succ, List.setIfInBounds_toArray, List.set_cons_zero, List.set_cons_succ]
          refine wpAnyH_take (i := 26) (oi := _) (v := ?_) rfl (by kernel_rfl) (by kernel_rfl) (by kernel_rfl) (fun _ _ _ h => h) (Or.inl ⟨by rfl, ?_⟩) (by assumption) ?_
          rotate_left 1
          · (intro w hSw; (try dsimp only at hSw); go_simp; all_goals (with_reducible rfl))
          try simp only [Act.put, List.getElem_toArray, List.getElem_cons_zero, List.getElem_cons_succ, List.setIfInBounds_toArray, List.set_cons_zero, List.set_cons_succ]
          refine wpAnyH_take (i := 27) (oi := _) (v := ?_) rfl (by kernel_rfl) (by kernel_rfl) (by kernel_rfl) (fun _ _ _ h => h) (Or.inl ⟨by rfl, ?_⟩) (by assumption) ?_
          rotate_left 1
          · (intro w hSw; (try dsimp only at hSw); go_simp; all_goals (with_reducible rfl))
          try simp only [Act.put, List.getElem_toArray, List.getElem_cons_zero, List.getElem_cons_succ, List.setIfInBounds_toArray, List.set_cons_zero, List.set_cons_succ]
          refine wpAnyH_take (i := 29) (oi := _) (v := ?_) rfl (by kernel_rfl) (by kernel_rfl) (by kernel_rfl) (fun _ _ _ h => h) (Or.inl ⟨by rfl, ?_⟩) (by assumption) ?_
          rotate_left 1
          · (intro w hSw; (try dsimp only at hSw); go_simp; all_goals (with_reducible rfl))
          try simp only [Act.put, List.getElem_toArray, List.getElem_cons_zero, List.getElem_cons_succ, List.setIfInBounds_toArray, List.set_cons_zero, List.set_cons_succ]
          refine wpAnyH_take (i := 30) (oi := _) (v := ?_) rfl (by kernel_rfl) (by kernel_rfl) (by kernel_rfl) (fun _ _ _ h => h) (Or.inl ⟨by rfl, ?_⟩) (by assumption) ?_
          rotate_left 1
          · (intro w hSw; (try dsimp only at hSw); go_simp; all_goals (with_reducible rfl))
          try simp only [Act.put, List.getElem_toArray, List.getElem_cons_zero, List.getElem_cons_succ, List.setIfInBounds_toArray, List.set_cons_zero, List.set_cons_succ]
          refine wpAnyH_take (i := 31) (oi := _) (v := ?_) rfl (by kernel_rfl) (by kernel_rfl) (by kernel_rfl) (fun _ _ _ h => h) (Or.inl ⟨by rfl, ?_⟩) (by assumption) ?_
          rotate_left 1
          · (intro w hSw; (try dsimp only at hSw); go_simp; all_goals (with_reducible rfl))
          try simp only [Act.put, List.getElem_toArray, List.getElem_cons_zero, List.getElem_cons_succ, List.setIfInBounds_toArray, List.set_cons_zero, List.set_cons_succ]
          refine wpAnyH_ready (rs := [28]) (by kernel_rfl) (by simp) ?_
          refine AllReadyH.cons (o := _) rfl (fun K hK => ?_) ?_
          rotate_left 1
          · exact AllReadyH.nil
          go_simp
          go_at_call 74
          refine (logsCountG r.tenant N hLD HTL.out (by omega) HN1.out).mono ?_
          rintro _ wE ⟨rfl, rfl⟩
          dsimp only
          refine hK.out _ _ ?_ (fun hHeld => ?_)
          · (exact rowZ HRS.out hzD)
          clear hK K
          try simp only [Act.put, List.getElem_toArray, List.getElem_cons_zero, List.getElem_cons_succ, List.setIfInBounds_toArray, List.set_cons_zero, List.set_cons_succ]
          refine wpAnyH_ready (rs := [32]) (by kernel_rfl) (by simp) ?_
          refine AllReadyH.cons (o := _) rfl (fun K hK => ?_) ?_
          rotate_left 1
          · exact AllReadyH.nil
          go_simp
          go_at_call 75
          refine (logsCountM r.tenant N hLD (by omega) HN1.out).mono ?_
          rintro _ wF ⟨rfl, rfl⟩
          dsimp only
          refine hK.out _ _ ?_ (fun hHeld => ?_)
          · (exact rowZ HRS.out hzD)
          clear hK K
          try simp only [Act.put, List.getElem_toArray, List.getElem_cons_zero, List.getElem_cons_succ, List.setIfInBounds_toArray, List.set_cons_zero, List.set_cons_succ]
          refine wpAnyH_take (i := 33) (oi := _) (v := ?_) rfl (by kernel_rfl) (by kernel_rfl) (by kernel_rfl) (fun _ _ _ h => h) (Or.inl ⟨by rfl, ?_⟩) (by assumption) ?_
          rotate_left 1
          · (intro w hSw; (try dsimp only at hSw); go_simp; all_goals (with_reducible rfl))
          try simp only [Act.put, List.getElem_toArray, List.getElem_cons_zero, List.getElem_cons_succ, List.setIfInBounds_toArray, List.set_cons_zero, List.set_cons_succ]
          refine wpAnyH_take (i := 34) (oi := _) (v := ?_) rfl (by kernel_rfl) (by kernel_rfl) (by kernel_rfl) (fun _ _ _ h => h) (Or.inl ⟨by rfl, ?_⟩) (by assumption) ?_
          rotate_left 1
          · (intro w hSw; (try dsimp only at hSw); go_simp; all_goals (with_reducible rfl))
          try simp only [Act.put, List.getElem_toArray, List.getElem_cons_zero, List.getElem_cons_succ, List.setIfInBounds_toArray, List.set_cons_zero, List.set_cons_succ]
          refine wpAnyH_done (by kernel_rfl) ?_ _
          refine NoPanic.normal ?_
          (repeat' ((fail_if_success at_builtin); first | go_values | go_skip | go_guarded | go_step | go_upon))
          go_meet
          exact ⟨rfl, hLD, hzD⟩
      case rest =>
        obtain ⟨rfl, hL7, hz7⟩ := hcut
        obtain ⟨l, hl⟩ : ∃ l, told (f' r.tenant) r.fr r.many = l := ⟨_, rfl⟩
        have hls : ∀ x ∈ l, x.sum.length = 32 := fun x hx => HFIT1.out x (told_mem (by rw [hl]; exact hx))
        have hll : l.length ≤ 64 := by rw [← hl, told_length]; unfold toldN; omega
        have HE := Lib.hid hl
        have HLS := Lib.hid hls
        have HL7 := Lib.hid hL7
        have HQ7 := Lib.hid (rowZ HRS.out hz7)
        have hc7 := rw_cell (rangeAt_whole hz7) HRS.out
        rw [Nat.zero_add, Nat.zero_add] at hc7
        have hf7 := HRK.out.fr
        have hm7 := HRK.out.many
        have HC7 := Lib.hid hc7
        have hzlt := hL7.lt
        have HZ7 := Lib.hid hz7
        clear hl hls hL7 hz7 hS0 hneqE hneqH
        have c0 := HC7.out.1
        have c40 := HC7.out.2.2.1
        have c41 := HC7.out.2.2.2
        clear hc7
        (repeat' ((fail_if_success at_builtin); first | go_values | go_skip | go_guarded | go_step | go_upon))
        refine (logsRowsG r.tenant r.fr r.many l HL7.out HTL.out (by omega) hf7 hm7 HE.out).mono ?_
        rintro _ w8 ⟨a8, c8, rfl, hc8, hm8, _, hB8, hO8⟩
        dsimp only
        clear c0 c40 c41
        have hz8 := (hB8.block z hzlt).trans HZ7.out
        have hc8' := rw_cell (rangeAt_whole hz8) HRS.out
        rw [Nat.zero_add, Nat.zero_add] at hc8'
        have c0 := hc8'.1
        have c40 := hc8'.2.2.1
        have c41 := hc8'.2.2.2
        clear hc8'
        have HO8 := Lib.hid hO8
        have HZ8 := Lib.hid hz8
        clear hO8 hz8
        (repeat' ((fail_if_success at_builtin); first | go_values | go_skip | go_guarded | go_step | go_upon))
        refine (logsRowsM r.tenant r.fr r.many l (HL7.out.below hB8) (by omega) hf7 hm7 (HNUM1.out _) HE.out).mono ?_
        rintro _ w9 ⟨a9, c9, rfl, hc9, hm9, hr9, hB9, hO9⟩
        dsimp only
        clear c0 c40 c41
        have HR9 := Lib.hid hr9
        have HO9 := Lib.hid hO9
        have HO89 := Lib.hid (owns_block HO8.out (fun j hj => hB9.block j (owns_range HO8.out j hj).2))
        clear hr9 hO9
        (repeat' ((fail_if_success at_builtin); first | go_values | go_skip | go_guarded | go_step | go_upon))
        refine (sameEntries a8 a9 l.length l.length c8 c9 l l w9 (rdc_of_owns HO89.out) HR9.out HLS.out HLS.out rfl rfl (by omega)).mono ?_
        rintro _ w10 ⟨rfl, hSt⟩
        dsimp only
        have td : decide (l = l) = true := decide_eq_true rfl
        have HO8a := Lib.hid (owns_still HO89.out hSt)
        have HO9a := Lib.hid (owns_still HO9.out hSt)
        have hBa := hSt.below
        clear hSt HR9
        (repeat' ((fail_if_success at_builtin); first | go_values | go_skip | go_guarded | go_step | go_upon))
        refine (spoilEntries _ l.length c8 a8 _ w10 HO8a.out (by omega)).mono ?_
        rintro _ w11 ⟨rfl, hF⟩
        dsimp only
        have hown : ∀ j, (Value.slice a8 l.length c8).ownBlock = some j → _ := fun j hj => owns_range HO8.out j hj
        have hB7a : Below wc.heap.size wc w10 := (hB8.trans (hB9.mono hB8.size)).trans (hBa _)
        have hB7b : Below wc.heap.size wc w11 := hB7a.trans (hF.belowOf hB7a.size (fun j hj => (hown j hj).1))
        have HO9b := Lib.hid (owns_block HO9a.out (fun j hj => hF.block j (owns_range HO9a.out j hj).2 (fun h2 => by
          have q1 := (owns_range HO9.out j hj).1
          have q2 := (hown j h2).2
          omega)))
        have hzb := (hB7b.block z hzlt).trans HZ7.out
        have hcb := rw_cell (rangeAt_whole hzb) HRS.out
        rw [Nat.zero_add, Nat.zero_add] at hcb
        have c0 := hcb.1
        have c40 := hcb.2.2.1
        have c41 := hcb.2.2.2
        clear hcb hzb hF HO8a HO9a HO89 HO8
        (repeat' ((fail_if_success at_builtin); first | go_values | go_skip | go_guarded | go_step | go_upon))
        refine (logsRowsG r.tenant r.fr r.many l (HL7.out.below hB7b) HTL.out (by omega) hf7 hm7 HE.out).mono ?_
        rintro _ w12 ⟨a12, c12, rfl, hc12, hm12, hr12, hB12, _⟩
        dsimp only
        have HR12 := Lib.hid hr12
        clear hr12 c0 c40 c41
        (repeat' ((fail_if_success at_builtin); first | go_values | go_skip | go_guarded | go_step | go_upon))
        refine (sameEntries a12 a9 l.length l.length c12 c9 l l w12 HR12.out ((rdc_of_owns HO9b.out).below hB12 (Nat.le_refl _)) HLS.out HLS.out rfl rfl (by omega)).mono ?_
        rintro _ w13 ⟨rfl, hSt⟩
        dsimp only
        have hN : RunI w g o m (k + 1) w13 := ⟨f', (HL7.out.below (hB7b.trans ((hB12.mono hB7b.size).trans (hSt.below _)))).zero hts, HNUM1.out⟩
        have HN := Lib.hid hN
        clear hN hSt HR12 HO9b
        (repeat' ((fail_if_success at_builtin); first | go_values | go_skip | go_guarded | go_step | go_upon))
        go_roundw
        case rel => exact ⟨k + 1, by omega, by go_num, HN.out⟩
        case measure => simp [intOf]; omega
    · obtain ⟨So, hO⟩ := HLG.out.O
      have HO := Lib.hid hO
      clear hO
      have hann : (⟨#[97, 110, 110]⟩ : ByteArray).size ≤ maxLen := by unfold maxLen; decide
      (repeat' ((fail_if_success at_builtin); first | go_values | go_skip | go_guarded | go_step | go_upon))
      refine (emptyCount ⟨#[97, 110, 110]⟩ HO.out hann).mono ?_
      rintro _ w4 ⟨rfl, rfl⟩
      dsimp only
      (repeat' ((fail_if_success at_builtin); first | go_values | go_skip | go_guarded | go_step | go_upon))
      refine (emptyHead ⟨#[97, 110, 110]⟩ HO.out hann).mono ?_
      rintro _ w5 ⟨rfl, hB5⟩
      dsimp only
      have heqZ : ∀ w, (binOp .eql 26 (.agg (bvs zeros32).toArray) (.agg #[.int .u8 0, .int .u8 0, .int .u8 0, .int .u8 0, .int .u8 0, .int .u8 0, .int .u8 0, .int .u8 0, .int .u8 0, .int .u8 0, .int .u8 0, .int .u8 0, .int .u8 0, .int .u8 0, .int .u8 0, .int .u8 0, .int .u8 0, .int .u8 0, .int .u8 0, .int .u8 0, .int .u8 0, .int .u8 0, .int .u8 0, .int .u8 0, .int .u8 0, .int .u8 0, .int .u8 0, .int .u8 0, .int .u8 0, .int .u8 0, .int .u8 0, .int .u8 0])).run Tryd.prog w = .ok (.bool true) w := fun w => eqSumSame zeros32 rfl w
      (repeat' ((fail_if_success at_builtin); first | go_values | go_skip | go_guarded | go_step | go_upon))
      refine (emptyRows ⟨#[97, 110, 110]⟩ (HO.out.below hB5) hann).mono ?_
      rintro _ w6 ⟨⟨a6, c6, rfl⟩, hB6⟩
      dsimp only
      have hB06 : Below w.heap.size w w6 := hB.trans ((hB5.trans (hB6.mono hB5.size)).mono hB.size)
      (repeat' ((fail_if_success at_builtin); first | go_values | go_skip | go_guarded | go_step | go_upon))
      refine (works21 w6 (HT.out.below hB06 hts)).mono ?_
      rintro _ w7 ⟨rfl, hB7⟩
      dsimp only
      (repeat' ((fail_if_success at_builtin); first | go_values | go_skip | go_guarded | go_step | go_upon))
      go_ret
      exact ⟨rfl, hB06.trans (hB7.mono hB06.size)⟩

end Go.Proofs.YtdpfemhfmofmlaaDoor

namespace Go.Proofs.YtdpfemhfmofmlaaDoor
set_option linter.unusedSimpArgs false
set_option linter.unusedVariables false
open Go.RowKit
set_option maxRecDepth 10000
--@PUT2

set_option maxHeartbeats 16000000 in
theorem auditHolds_walk (a : Option Addr) (n c : Nat) (xs : List Ent) (cut : Int) (w : World) (hT : Tabs w) (hr : RdC w a (xs.flatMap Ent.cells)) (hok : ∀ x ∈ xs, x.Ok) (en : xs.length = n) (hn : n ≤ maxLen) (hcut : I64 cut) :
    Calls Tryd.prog 17 #[.slice a n c, .int .i64 cut] w fun e w' => e = .returned (.bool true) ∧ Below w.heap.size w w' := by
  have hts := hT.size
  have HT := Lib.hid hT; clear hT
  have hn9 : (n : Int) ≤ 9223372036854775807 := by unfold maxLen at hn; omega
  subst en
  have hsum : ∀ x ∈ xs, x.sum.length = 32 := fun x hx => (hok x hx).sum
  have HR := Lib.hid hr; clear hr
  have HOK := Lib.hid hok; clear hok
  have HSUM := Lib.hid hsum; clear hsum
  obtain ⟨iE, zE, hiE, hzE, hsE, hbE, hcE⟩ := entInfo_parts
  have HIE := Lib.hid hiE; clear hiE
  have HZE := Lib.hid hzE; clear hzE
  have HCE := Lib.hid hcE; clear hcE
  obtain ⟨iS, zS, hiS, hzS, hcS⟩ := fresh_parts zeroSum
  have HIS := Lib.hid hiS; clear hiS
  have HZS := Lib.hid hzS; clear hzS
  have HCS := Lib.hid hcS; clear hcS
  clear hsE hbE
  have hu73 : Tryd.prog.underlying 73 = some _ := Tryd.underlying73
  have hu26 : Tryd.prog.underlying 26 = some _ := Tryd.underlying26
  go_enter Tryd.func17, Tryd.ntmps17
  (repeat' ((fail_if_success at_builtin); first | go_values | go_skip | go_guarded | go_step | go_upon))
  refine (big21 a xs.length c xs w HR.out HSUM.out rfl).mono ?_
  rintro _ w0 ⟨rfl, hB0⟩
  dsimp only
  obtain ⟨tb, htb⟩ : ∃ tb, decide (100 < xs.length ∨ ∃ x ∈ xs, x.big) = tb := ⟨_, rfl⟩
  rw [htb]
  cases tb
  rotate_left 1
  · (repeat' ((fail_if_success at_builtin); first | go_values | go_skip | go_guarded | go_step | go_upon))
    refine (works21 w0 (HT.out.below hB0 hts)).mono ?_
    rintro _ w1 ⟨rfl, hB1⟩
    dsimp only
    (repeat' ((fail_if_success at_builtin); first | go_values | go_skip | go_guarded | go_step | go_upon))
    go_ret
    exact ⟨rfl, hB0.trans (hB1.mono hB0.size)⟩
  have hb := of_decide_eq_false htb
  clear htb
  have hlen : xs.length ≤ 100 := by
    rcases Nat.lt_or_ge 100 xs.length with h | h
    · exact absurd (Or.inl h) hb
    · exact h
  have hfit : ∀ x ∈ xs, x.Fit := fun x hx => fit_of_small (HOK.out x hx) (fun h => hb (Or.inr ⟨x, hx, h⟩))
  have HFIT := Lib.hid hfit; clear hfit
  have HT0 := Lib.hid (HT.out.below hB0 hts)
  have hts0 := HT0.out.size
  have HR0 := Lib.hid (HR.out.below hB0 (Nat.le_refl _))
  clear hb HR
  (repeat' ((fail_if_success at_builtin); first | go_values | go_skip | go_guarded | go_step | go_upon))
  refine (oneNew w0).mono ?_
  rintro _ w1 ⟨g, rfl, hL⟩
  dsimp only
  have HL := Lib.hid (hL annBA); clear hL
  (repeat' ((fail_if_success at_builtin); first | go_values | go_skip | go_guarded | go_step | go_upon))
  go_loopw [6] (fun i wr => ∃ k : Nat, k ≤ xs.length ∧ i = .int .i64 k ∧ OneLog w0 g annBA (xs.take k) wr) (fun i _ => xs.length - (intOf i).toNat)
  case atStart => exact ⟨0, by omega, rfl, HL.out⟩
  case round =>
    obtain ⟨k, hk, rfl, hL⟩ := hrel
    have HL := Lib.hid hL; clear hL
    by_cases hlt : k < xs.length
    · have hBr : Below w0.heap.size w0 wr := by obtain ⟨S, f, h1, h2, h3, h4⟩ := HL.out.out; exact h4
      obtain ⟨b, off, hba, hra⟩ := ents_at (HR0.out.below hBr (Nat.le_refl _)) HSUM.out k hlt
      have HX := Lib.hid (List.getElem_mem hlt)
      have HSN := Lib.hid (show xs.take (k + 1) = xs.take k ++ [xs[k]] from List.take_succ_eq_append_getElem hlt)
      have HTK := Lib.hid (show (xs.take k).length ≤ 100000 by rw [List.length_take]; omega)
      generalize xs[k] = x at *
      have HRA := Lib.hid hra; clear hra
      have HIX := Lib.hid (show (Tryd.prog.info? 73).map (·.size) = some x.cells.length by rw [Ent.cells_length (HSUM.out x HX.out)]; exact entSize)
      have bk : (0 : Int) ≤ (k : Int) ∧ (k : Int) < (xs.length : Int) := by omega
      subst hba
      (repeat' ((fail_if_success at_builtin); first | ((with_reducible refine wpList_load_mid rfl 73 _ rfl b (off + k * 39) rfl x.cells _ HRA.out hu73 rfl HIX.out ?_)) | go_values | go_skip | go_guarded | go_step | go_upon))
      refine (oneAdd w0 g annBA (xs.take k) x wr HL.out HT0.out annBA_le HTK.out (HFIT.out x HX.out)).mono ?_
      rintro _ w2 ⟨⟨v, rfl⟩, hL2⟩
      dsimp only
      rw [← HSN.out] at hL2
      have HL2 := Lib.hid hL2; clear hL2
      (repeat' ((fail_if_success at_builtin); first | go_values | go_skip | go_guarded | go_step | go_upon))
      go_roundw
      case rel => exact ⟨k + 1, by omega, by go_num, HL2.out⟩
      case measure => simp [intOf]; omega
    obtain rfl : k = xs.length := by omega
    have hL := HL.out
    rw [List.take_length] at hL
    obtain ⟨S, f, h1, h2, h3, hBr⟩ := hL.out
    obtain ⟨rs, hrs⟩ : ∃ rs, addAll xs = rs := ⟨_, rfl⟩
    have hrl : rs.length = xs.length := by rw [← hrs, addAll_length]
    rw [hrs] at h2
    have hrfit : ∀ x ∈ rs, x.Fit := fun x hx => h1.rows annBA x (by rw [h2]; exact hx)
    have hfacts : ∀ k (hk : k < xs.length) (hk' : k < rs.length), ({ xs[k] with no := (k : Int) + 1, sum := (rs[k]).sum } : Ent) = rs[k] ∧ wdig (rs[k].bytes (headOf (rs.take k))) = (rs[k]).sum ∧ headOf (rs.take (k + 1)) = (rs[k]).sum := by
      subst hrs; exact fun k hk hk' => row_facts xs k hk hk'
    have hvy : ∀ K, K ≤ xs.length → verify (rs.take K) (headOf (rs.take K)) = (0, 0) := by subst hrs; exact fun K hK => verify_yes xs K hK
    have hvn : ∀ K, K ≤ xs.length → ∀ H, headOf (rs.take K) ≠ H → verify (rs.take K) H = (K + 1, 24) := by subst hrs; exact fun K hK H hH => verify_no xs K hK H hH
    have hrsum : ∀ x ∈ rs, x.sum.length = 32 := fun x hx => (hrfit x hx).ok.sum
    have HLOG := Lib.hid h1
    have HF2 := Lib.hid h2
    have HRFIT := Lib.hid hrfit
    have HFACTS := Lib.hid hfacts
    have HVY := Lib.hid hvy
    have HVN := Lib.hid hvn
    have HRSUM := Lib.hid hrsum
    have HRL := Lib.hid hrl
    clear h1 h2 h3 hrfit hfacts hvy hvn hrsum hrs hL HL
    (repeat' ((fail_if_success at_builtin); first | go_values | go_skip | go_guarded | go_step | go_upon))
    refine (all21 S g xs.length f annBA wr HLOG.out annBA_le (by omega)).mono ?_
    rw [HF2.out]
    rintro _ w3 ⟨a3, c3, rfl, hc3, hm3, hr3, hB3, _⟩
    dsimp only
    rw [hrl] at hc3 ⊢
    have HR3 := Lib.hid hr3; clear hr3
    have tn : ((xs.length : Int) != (xs.length : Int)) = false := by simp
    (repeat' ((fail_if_success at_builtin); first | go_values | go_skip | go_guarded | go_step | go_upon))
    have hcn := auditCount S g xs.length f annBA w3 (HLOG.out.below hB3) annBA_le (by omega)
    rw [HF2.out, hrl] at hcn
    refine hcn.mono ?_
    rintro _ w3' ⟨rfl, rfl⟩
    dsimp only
    clear hcn
    have hB03 : Below w0.heap.size w0 w3 := hBr.trans (hB3.mono hBr.size)
    have ez : (#[.int .u8 0, .int .u8 0, .int .u8 0, .int .u8 0, .int .u8 0, .int .u8 0, .int .u8 0, .int .u8 0, .int .u8 0, .int .u8 0, .int .u8 0, .int .u8 0, .int .u8 0, .int .u8 0, .int .u8 0, .int .u8 0, .int .u8 0, .int .u8 0, .int .u8 0, .int .u8 0, .int .u8 0, .int .u8 0, .int .u8 0, .int .u8 0, .int .u8 0, .int .u8 0, .int .u8 0, .int .u8 0, .int .u8 0, .int .u8 0, .int .u8 0, .int .u8 0] : Array Value) = (bvs zeros32).toArray := rfl
    have hzl : (bvs zeros32).length = 32 := rfl
    have HEZ := Lib.hid ez
    have HIZ := Lib.hid (show (Tryd.prog.info? 26).map (·.size) = some (bvs zeros32).length by rw [hzl]; exact sizeSum)
    have HFZ := Lib.hid (show 0 + (bvs zeros32).length ≤ (List.replicate 32 (Value.int .u8 0)).toArray.size by rw [hzl]; simp)
    have HOZ := Lib.hid (bvs_oneCell zeros32)
    have HLZ := Lib.hid (show (bvs zeros32).length = (List.replicate 32 (Value.int .u8 0)).toArray.toList.length by rw [hzl]; simp)
    clear ez hzl
    (repeat' ((fail_if_success at_builtin); first | (first | ((with_reducible refine wpList_alloc_fresh (w := w3) rfl 26 rfl _ iS zS HIS.out HZS.out HCS.out ?_); rw [HEZ.out]; intro w4 hg4 hB4 hs4; have HG4 := Lib.hid hg4; clear hg4; have HS4 := Lib.hid hs4; clear hs4) | ((with_reducible refine wpList_store_blk rfl 26 _ _ rfl w3.heap.size 0 (bvs zeros32) rfl rfl _ _ HG4.out HFZ.out HIZ.out HOZ.out ?_); intro w5 hg5 hG5; rw [splice_whole _ _ HLZ.out] at hg5; have HG5 := Lib.hid hg5; clear hg5 HG4)) | go_values | go_skip | go_guarded | go_step | go_upon))
    obtain ⟨z8, hz8⟩ : ∃ z8, w3.heap.size = z8 := ⟨_, rfl⟩
    have hs35 : w3.heap.size < w5.heap.size := by have := hG5.size; have := HS4.out; omega
    have hB35 : Below w3.heap.size w3 w5 := hB4.grown hG5 (by rw [HS4.out]; omega) (fun j e => by cases e; exact Nat.le_refl _)
    have hI : HolI w3 z8 (headOf (rs.take 0)) w5 := ⟨by rw [← hz8]; exact HG5.out, by rw [← hz8]; exact hB35⟩
    have HI := Lib.hid hI
    clear hI hG5 HS4 hB4 HG5 hB35
    rw [hz8] at hs35 ⊢
    have HZ8 := Lib.hid hz8
    clear hz8
    go_loopw [9] (fun i wr => ∃ k : Nat, k ≤ xs.length ∧ i = .int .i64 k ∧ HolI w3 z8 (headOf (rs.take k)) wr) (fun i _ => xs.length - (intOf i).toNat)
    case atStart => exact ⟨0, by omega, rfl, HI.out⟩
    case round =>
      rename_i wr0 wr
      obtain ⟨k, hk, rfl, hI⟩ := hrel
      have hc8 := hI.cell
      have hBI : Below w3.heap.size w3 wr := by rw [HZ8.out]; exact hI.blw
      have hzlt := (Array.getElem?_eq_some_iff.1 hc8).1
      have hB0r : Below w0.heap.size w0 wr := hB03.trans (hBI.mono hB03.size)
      clear HI hI
      by_cases hlt : k < xs.length
      · have hlt3 : k < rs.length := by rw [HRL.out]; exact hlt
        obtain ⟨b, off, hba, hra⟩ := ents_at (HR0.out.below hB0r (Nat.le_refl _)) HSUM.out k hlt
        obtain ⟨b3, o3, hba3, hra3⟩ := ents_at (HR3.out.below hBI (Nat.le_refl _)) HRSUM.out k hlt3
        obtain ⟨hf1, hf2, hf3⟩ := HFACTS.out k hlt hlt3
        have hrm : rs[k] ∈ rs := List.getElem_mem hlt3
        have HXF := Lib.hid (HFIT.out _ (List.getElem_mem hlt))
        obtain ⟨P, hP⟩ : ∃ P, headOf (rs.take k) = P := ⟨_, rfl⟩
        have hPl : P.length = 32 := by rw [← hP]; exact headOf_length _ (fun x hx => (HRFIT.out x (List.mem_of_mem_take hx)).ok)
        rw [hP] at hc8 hf2
        have HRF := Lib.hid (HRFIT.out _ hrm)
        have HHD := Lib.hid hf3
        generalize rs[k] = R at *
        generalize xs[k] = x at *
        have HRA := Lib.hid hra; clear hra
        have HR3A := Lib.hid hra3; clear hra3
        have HF1 := Lib.hid hf1
        have HFN := Lib.hid hf2
        have HC8 := Lib.hid hc8
        have HPL := Lib.hid hPl
        have hxl : x.cells.length = 39 := Ent.cells_length HXF.out.ok.sum
        have HIX := Lib.hid (show (Tryd.prog.info? 73).map (·.size) = some x.cells.length by rw [hxl]; exact entSize)
        have HFX := Lib.hid (show 0 + x.cells.length ≤ zEnt.cells.toArray.size by rw [hxl]; exact Nat.le_refl _)
        have HOX := Lib.hid x.cells_oneCell
        have HLX := Lib.hid (show x.cells.length = zEnt.cells.toArray.toList.length by rw [hxl]; rfl)
        have hRl : R.sum.length = 32 := HRF.out.ok.sum
        have HIS2 := Lib.hid (show (Tryd.prog.info? 26).map (·.size) = some (bvs R.sum).length by rw [bvs_length, hRl]; exact sizeSum)
        have HIR2 := Lib.hid (show (Tryd.prog.info? 73).map (·.size) = some R.cells.length by rw [Ent.cells_length hRl]; exact entSize)
        have HIP2 := Lib.hid (show (Tryd.prog.info? 26).map (·.size) = some (bvs P).length by rw [bvs_length, hPl]; exact sizeSum)
        have HFS := Lib.hid (show 7 + (bvs R.sum).length ≤ ({ x with no := (k : Int) + 1 } : Ent).cells.toArray.size by rw [List.size_toArray, Ent.cells_length (show ({ x with no := (k : Int) + 1 } : Ent).sum.length = 32 from HXF.out.ok.sum), bvs_length, hRl]; omega)
        have HFP := Lib.hid (show 0 + (bvs R.sum).length ≤ (bvs P).toArray.size by rw [List.size_toArray, bvs_length, bvs_length, hRl, hPl]; omega)
        have HLP := Lib.hid (show (bvs R.sum).length = (bvs P).toArray.toList.length by rw [List.toList_toArray, bvs_length, bvs_length, hRl, hPl])
        have HOS := Lib.hid (bvs_oneCell R.sum)
        have HSPL := Lib.hid (show splice ({ x with no := (k : Int) + 1 } : Ent).cells 7 (bvs R.sum) = R.cells by
          rw [ent_set_sum _ R.sum (show ({ x with no := (k : Int) + 1 } : Ent).sum.length = 32 from HXF.out.ok.sum) hRl]; exact congrArg Ent.cells HF1.out)
        have HRLN := Lib.hid hRl
        have bk : (0 : Int) ≤ (k : Int) ∧ (k : Int) < (xs.length : Int) := by omega
        clear hf1 hf2 hf3 hrm hPl hRl hxl hc8 hlt3
        subst hba hba3
        (repeat' ((fail_if_success at_builtin); (fail_if_success (show wpList _ _ _ ({ dst := some 57, op := _, type := _, pos := _, after := _, guard := _ } :: _) _ _)); first | (first | (with_reducible refine wpList_load_mid rfl 73 _ rfl b (off + k * 39) rfl x.cells _ HRA.out hu73 rfl HIX.out ?_) | ((with_reducible refine wpList_alloc_fresh (w := wr) rfl 73 rfl _ iE zE HIE.out HZE.out HCE.out ?_); intro w6 hg6 hB6 hs6; have HG6 := Lib.hid hg6; clear hg6; have HS6 := Lib.hid hs6; clear hs6) | ((with_reducible refine wpList_store_blk rfl 73 _ _ rfl wr.heap.size 0 x.cells rfl rfl _ _ HG6.out HFX.out HIX.out HOX.out ?_); intro w7 hg7 hG7; rw [splice_whole _ _ HLX.out] at hg7; have HG7 := Lib.hid hg7; clear hg7 HG6)) | go_values | go_skip | go_guarded | go_step | go_upon))
        obtain ⟨z, hz⟩ : ∃ z, wr.heap.size = z := ⟨_, rfl⟩
        have hB7 : Below wr.heap.size wr w7 := hB6.grown hG7 (by rw [HS6.out]; omega) (fun j e => by cases e; exact Nat.le_refl _)
        have hz7 : z < w7.heap.size := by have := hG7.size; have := HS6.out; omega
        have hg7 := HG7.out
        rw [hz] at hg7 ⊢
        have c0 : w7.cell? ⟨z, 0, none⟩ = some (.int .i64 x.no) := cell_of_row w7 z 0 _ _ _ hg7
        have f0 := frozen_of_row w7 z 0 _ _ hg7
        have HG8 := Lib.hid hg7
        have HZ := Lib.hid hz
        clear HG7 hG7 HS6 hB6 hg7 hz
        (repeat' ((fail_if_success at_builtin); (fail_if_success (show wpList _ _ _ ({ dst := some 60, op := _, type := _, pos := _, after := _, guard := _ } :: _) _ _)); first | (fail) | go_values | go_skip | go_guarded | go_step | go_upon))
        obtain ⟨w8, hw8⟩ : ∃ w8, w7.setCell ⟨z, 0, none⟩ (.int .i64 ((k : Int) + 1)) = w8 := ⟨_, rfl⟩
        rw [hw8]
        have hg8 : w8.heap[z]? = some (.cells ({ x with no := (k : Int) + 1 } : Ent).cells.toArray 73 (0, 0)) := by
          rw [← hw8, row_set HG8.out, List.setIfInBounds_toArray]; rfl
        have hB8 : Below wr.heap.size wr w8 := by rw [← hw8]; exact hB7.setCell (by rw [HZ.out]; exact Nat.le_refl _) _
        have hz8' : z < w8.heap.size := by rw [← hw8]; simpa [World.setCell] using hz7
        have HW8 := Lib.hid hg8
        have hr3s := ent_sum (rangeAt_below HR3A.out hB8 (Nat.le_refl _))
        have HR3S := Lib.hid hr3s
        clear c0 f0 HG8 hw8 hB7 hz7 hg8 hr3s
        (repeat' ((fail_if_success at_builtin); first | (first | (with_reducible refine wpList_load_mid rfl 26 _ rfl b3 (o3 + k * 39 + 7) rfl (bvs R.sum) _ HR3S.out hu26 rfl HIS2.out ?_) | ((with_reducible refine wpList_store_blk rfl 26 _ _ rfl z 7 (bvs R.sum) rfl rfl _ _ HW8.out HFS.out HIS2.out HOS.out ?_); intro w9 hg9 hG9; rw [List.toList_toArray, HSPL.out] at hg9; have HG9 := Lib.hid hg9; clear hg9)) | go_values | go_skip | go_guarded | go_step | go_upon))
        have hB9 : Below wr.heap.size wr w9 := hB8.grown hG9 (by have := hB8.size; exact this) (fun j e => by cases e; rw [HZ.out]; exact Nat.le_refl _)
        have hz9 : z < w9.heap.size := by have := hG9.size; omega
        have hzz : z8 < z := by rw [← HZ.out]; exact hzlt
        have hrz := rangeAt_whole HG9.out
        have hrzs := ent_sum hrz
        rw [Nat.zero_add] at hrzs
        have hg98 := (hB9.block z8 hzlt).trans HC8.out
        have hr8 := rangeAt_whole hg98
        have HG98 := Lib.hid hg98
        have hS0 : HolS w9 b3 (o3 + k * 39) z z8 R P w9.drew := holS_below (w1 := w9) ⟨⟨rangeAt_below HR3A.out hB9 (Nat.le_refl _), hrz, hr8, hrzs⟩, Below.refl _ _⟩ (Below.refl _ _).drew
        have hB09 : Below w0.heap.size w0 w9 := hB0r.trans (hB9.mono hB0r.size)
        have hneqE := fun w => neqEnt w R R HRLN.out HRLN.out
        rw [decide_eq_true (rfl : R = R)] at hneqE
        have hneqS := fun w => neqSum w R.sum R.sum HRLN.out HRLN.out
        rw [decide_eq_true (rfl : R.sum = R.sum)] at hneqS
        have hiR := HIR2.out
        have hiS := HIS2.out
        have hiP := HIP2.out
        have hTb : ∀ wx, Below w9.heap.size w9 wx → Tabs wx := fun wx h => HT0.out.below (hB09.trans (h.mono hB09.size)) hts0
        clear hrz hrzs hg98 hr8 hG9 HW8 HR3S
        refine wp_region_noPanic ?_
        refine wp_region_held_drew (S := HolS w9 b3 (o3 + k * 39) z z8 R P) (by kernel_rfl) ?_ (fun hHeld => ?_)
        · (exact hS0)
        refine wpAnyH_take (i := 0) (oi := _) (v := ?_) rfl (by kernel_rfl) (by kernel_rfl) (by kernel_rfl) (fun _ _ _ h => h) (Or.inl ⟨by rfl, ?_⟩) (by assumption) ?_
        rotate_left 1
        · (intro w hSw; (try dsimp only at hSw); go_simp; all_goals (with_reducible rfl))
        try simp only [Act.put, List.getElem_toArray, List.getElem_cons_zero, List.getElem_cons_succ, List.setIfInBounds_toArray, List.set_cons_zero, List.set_cons_succ]
        refine wpAnyH_take (i := 1) (oi := _) (v := ?_) rfl (by kernel_rfl) (by kernel_rfl) (by kernel_rfl) (fun _ _ _ h => h) (Or.inl ⟨by rfl, ?_⟩) (by assumption) ?_
        rotate_left 1
        · (intro w hSw; (try dsimp only at hSw); go_simp; all_goals (with_reducible rfl))
        try simp only [Act.put, List.getElem_toArray, List.getElem_cons_zero, List.getElem_cons_succ, List.setIfInBounds_toArray, List.set_cons_zero, List.set_cons_succ]
        refine wpAnyH_take (i := 2) (oi := _) (v := ?_) rfl (by kernel_rfl) (by kernel_rfl) (by kernel_rfl) (fun _ _ _ h => h) (Or.inl ⟨by rfl, ?_⟩) (by assumption) ?_
        rotate_left 1
        · (intro w hSw; (try dsimp only at hSw); go_simp; all_goals (with_reducible rfl))
        try simp only [Act.put, List.getElem_toArray, List.getElem_cons_zero, List.getElem_cons_succ, List.setIfInBounds_toArray, List.set_cons_zero, List.set_cons_succ]
        refine' wpAnyH_take (i := 3) (oi := _) (v := _) rfl (by kernel_rfl) (by kernel_rfl) (by kernel_rfl) (fun _ _ _ h => h) (yieldsIf_load_mid (by rfl) _ _ rfl _ _ rfl _ _ ?ls1 ?lu1 ?ld1 ?li1) (by assumption) ?lr1
        case ls1 => (intro w hSw; (try dsimp only at hSw); go_split_ands; assumption)
        case lu1 => assumption
        case ld1 => rfl
        case li1 => first | assumption | (simp only [*]; done)
        try simp only [Act.put, List.getElem_toArray, List.getElem_cons_zero, List.getElem_cons_succ, List.setIfInBounds_toArray, List.set_cons_zero, List.set_cons_succ]
        refine' wpAnyH_take (i := 4) (oi := _) (v := _) rfl (by kernel_rfl) (by kernel_rfl) (by kernel_rfl) (fun _ _ _ h => h) (yieldsIf_load_mid (by rfl) _ _ rfl _ _ rfl _ _ ?ls2 ?lu2 ?ld2 ?li2) (by assumption) ?lr2
        case ls2 => (intro w hSw; (try dsimp only at hSw); go_split_ands; assumption)
        case lu2 => assumption
        case ld2 => rfl
        case li2 => first | assumption | (simp only [*]; done)
        try simp only [Act.put, List.getElem_toArray, List.getElem_cons_zero, List.getElem_cons_succ, List.setIfInBounds_toArray, List.set_cons_zero, List.set_cons_succ]
        refine wpAnyH_take (i := 5) (oi := _) (v := ?_) rfl (by kernel_rfl) (by kernel_rfl) (by kernel_rfl) (fun _ _ _ h => h) (Or.inl ⟨by rfl, ?_⟩) (by assumption) ?_
        rotate_left 1
        · (intro w hSw; (try dsimp only at hSw); go_simp; all_goals (with_reducible rfl))
        try simp only [Act.put, List.getElem_toArray, List.getElem_cons_zero, List.getElem_cons_succ, List.setIfInBounds_toArray, List.set_cons_zero, List.set_cons_succ]
        refine wpAnyH_take (i := 6) (oi := _) (v := ?_) rfl (by kernel_rfl) (by kernel_rfl) (by kernel_rfl) (fun _ _ _ h => h) (Or.inl ⟨by rfl, ?_⟩) (by assumption) ?_
        rotate_left 1
        · (intro w hSw; (try dsimp only at hSw); go_simp; all_goals (with_reducible rfl))
        try simp only [Act.put, List.getElem_toArray, List.getElem_cons_zero, List.getElem_cons_succ, List.setIfInBounds_toArray, List.set_cons_zero, List.set_cons_succ]
        refine' wpAnyH_take (i := 7) (oi := _) (v := _) rfl (by kernel_rfl) (by kernel_rfl) (by kernel_rfl) (fun _ _ _ h => h) (yieldsIf_load_mid (by rfl) _ _ rfl _ _ rfl _ _ ?ls3 ?lu3 ?ld3 ?li3) (by assumption) ?lr3
        case ls3 => (intro w hSw; (try dsimp only at hSw); go_split_ands; assumption)
        case lu3 => assumption
        case ld3 => rfl
        case li3 => first | assumption | (simp only [*]; done)
        try simp only [Act.put, List.getElem_toArray, List.getElem_cons_zero, List.getElem_cons_succ, List.setIfInBounds_toArray, List.set_cons_zero, List.set_cons_succ]
        refine' wpAnyH_take (i := 8) (oi := _) (v := _) rfl (by kernel_rfl) (by kernel_rfl) (by kernel_rfl) (fun _ _ _ h => h) (yieldsIf_load_mid (by rfl) _ _ rfl _ _ rfl _ _ ?ls4 ?lu4 ?ld4 ?li4) (by assumption) ?lr4
        case ls4 => (intro w hSw; (try dsimp only at hSw); go_split_ands; assumption)
        case lu4 => assumption
        case ld4 => rfl
        case li4 => first | assumption | (simp only [*]; done)
        try simp only [Act.put, List.getElem_toArray, List.getElem_cons_zero, List.getElem_cons_succ, List.setIfInBounds_toArray, List.set_cons_zero, List.set_cons_succ]
        refine wpAnyH_take (i := 10) (oi := _) (v := ?_) rfl (by kernel_rfl) (by kernel_rfl) (by kernel_rfl) (fun _ _ _ h => h) (Or.inl ⟨by rfl, ?_⟩) (by assumption) ?_
        rotate_left 1
        · (intro w hSw; (try dsimp only at hSw); go_simp; all_goals (with_reducible rfl))
        try simp only [Act.put, List.getElem_toArray, List.getElem_cons_zero, List.getElem_cons_succ, List.setIfInBounds_toArray, List.set_cons_zero, List.set_cons_succ]
        refine' wpAnyH_take (i := 11) (oi := _) (v := _) rfl (by kernel_rfl) (by kernel_rfl) (by kernel_rfl) (fun _ _ _ h => h) (yieldsIf_load_mid (by rfl) _ _ rfl _ _ rfl _ _ ?ls5 ?lu5 ?ld5 ?li5) (by assumption) ?lr5
        case ls5 => (intro w hSw; (try dsimp only at hSw); go_split_ands; assumption)
        case lu5 => assumption
        case ld5 => rfl
        case li5 => first | assumption | (simp only [*]; done)
        try simp only [Act.put, List.getElem_toArray, List.getElem_cons_zero, List.getElem_cons_succ, List.setIfInBounds_toArray, List.set_cons_zero, List.set_cons_succ]
        refine wpAnyH_ready (rs := [9]) (by kernel_rfl) (by simp) ?_
        refine AllReadyH.cons (o := _) rfl (fun K hK => ?_) ?_
        rotate_left 1
        · exact AllReadyH.nil
        go_simp
        go_at_call 61
        refine (auditNext P R.sum R _ HFN.out (hTb _ hHeld.2) HPL.out HRF.out.ok HRF.out.str HRF.out.sub).mono ?_
        rintro _ wA ⟨rfl, hBA⟩
        dsimp only
        refine hK.out _ _ ?_ (fun hHeld => ?_)
        · (apply holS_below; assumption; assumption)
        clear hK K
        try simp only [Act.put, List.getElem_toArray, List.getElem_cons_zero, List.getElem_cons_succ, List.setIfInBounds_toArray, List.set_cons_zero, List.set_cons_succ]
        refine wpAnyH_take (i := 12) (oi := _) (v := ?_) rfl (by kernel_rfl) (by kernel_rfl) (by kernel_rfl) (fun _ _ _ h => h) (Or.inl ⟨by rfl, ?_⟩) (by assumption) ?_
        rotate_left 1
        · (intro w hSw; (try dsimp only at hSw); go_simp; all_goals (with_reducible rfl))
        try simp only [Act.put, List.getElem_toArray, List.getElem_cons_zero, List.getElem_cons_succ, List.setIfInBounds_toArray, List.set_cons_zero, List.set_cons_succ]
        refine wpAnyH_take (i := 13) (oi := _) (v := ?_) rfl (by kernel_rfl) (by kernel_rfl) (by kernel_rfl) (fun _ _ _ h => h) (Or.inl ⟨by rfl, ?_⟩) (by assumption) ?_
        rotate_left 1
        · (intro w hSw; (try dsimp only at hSw); go_simp; all_goals (with_reducible rfl))
        try simp only [Act.put, List.getElem_toArray, List.getElem_cons_zero, List.getElem_cons_succ, List.setIfInBounds_toArray, List.set_cons_zero, List.set_cons_succ]
        refine wpAnyH_take (i := 14) (oi := _) (v := ?_) rfl (by kernel_rfl) (by kernel_rfl) (by kernel_rfl) (fun _ _ _ h => h) (Or.inl ⟨by rfl, ?_⟩) (by assumption) ?_
        rotate_left 1
        · (intro w hSw; (try dsimp only at hSw); go_simp; all_goals (with_reducible rfl))
        try simp only [Act.put, List.getElem_toArray, List.getElem_cons_zero, List.getElem_cons_succ, List.setIfInBounds_toArray, List.set_cons_zero, List.set_cons_succ]
        refine wpAnyH_take (i := 15) (oi := _) (v := ?_) rfl (by kernel_rfl) (by kernel_rfl) (by kernel_rfl) (fun _ _ _ h => h) (Or.inl ⟨by rfl, ?_⟩) (by assumption) ?_
        rotate_left 1
        · (intro w hSw; (try dsimp only at hSw); go_simp; all_goals (with_reducible rfl))
        try simp only [Act.put, List.getElem_toArray, List.getElem_cons_zero, List.getElem_cons_succ, List.setIfInBounds_toArray, List.set_cons_zero, List.set_cons_succ]
        refine' wpAnyH_take (i := 16) (oi := _) (v := _) rfl (by kernel_rfl) (by kernel_rfl) (by kernel_rfl) (fun _ _ _ h => h) (yieldsIf_load_mid (by rfl) _ _ rfl _ _ rfl _ _ ?ls6 ?lu6 ?ld6 ?li6) (by assumption) ?lr6
        case ls6 => (intro w hSw; (try dsimp only at hSw); go_split_ands; assumption)
        case lu6 => assumption
        case ld6 => rfl
        case li6 => first | assumption | (simp only [*]; done)
        try simp only [Act.put, List.getElem_toArray, List.getElem_cons_zero, List.getElem_cons_succ, List.setIfInBounds_toArray, List.set_cons_zero, List.set_cons_succ]
        refine' wpAnyH_take (i := 17) (oi := _) (v := _) rfl (by kernel_rfl) (by kernel_rfl) (by kernel_rfl) (fun _ _ _ h => h) (yieldsIf_load_mid (by rfl) _ _ rfl _ _ rfl _ _ ?ls7 ?lu7 ?ld7 ?li7) (by assumption) ?lr7
        case ls7 => (intro w hSw; (try dsimp only at hSw); go_split_ands; assumption)
        case lu7 => assumption
        case ld7 => rfl
        case li7 => first | assumption | (simp only [*]; done)
        try simp only [Act.put, List.getElem_toArray, List.getElem_cons_zero, List.getElem_cons_succ, List.setIfInBounds_toArray, List.set_cons_zero, List.set_cons_succ]
        refine' wpAnyH_take (i := 18) (oi := _) (v := _) rfl (by kernel_rfl) (by kernel_rfl) (by kernel_rfl) (fun _ _ _ h => h) (yieldsIf_load_mid (by rfl) _ _ rfl _ _ rfl _ _ ?ls8 ?lu8 ?ld8 ?li8) (by assumption) ?lr8
        case ls8 => (intro w hSw; (try dsimp only at hSw); go_split_ands; assumption)
        case lu8 => assumption
        case ld8 => rfl
        case li8 => first | assumption | (simp only [*]; done)
        try simp only [Act.put, List.getElem_toArray, List.getElem_cons_zero, List.getElem_cons_succ, List.setIfInBounds_toArray, List.set_cons_zero, List.set_cons_succ]
        refine wpAnyH_ready (rs := [19]) (by kernel_rfl) (by simp) ?_
        refine AllReadyH.cons (o := _) rfl (fun K hK => ?_) ?_
        rotate_left 1
        · exact AllReadyH.nil
        go_simp
        go_at_call 81
        refine (of21 P R _ HPL.out HRF.out.ok HRF.out.str HRF.out.sub).mono ?_
        rintro _ wB ⟨aB, cB, rfl, hcB, hrB, hBB, _⟩
        dsimp only
        refine hK.out _ _ ?_ (fun hHeld => ?_)
        · (apply holS_below; assumption; assumption)
        clear hK K
        try simp only [Act.put, List.getElem_toArray, List.getElem_cons_zero, List.getElem_cons_succ, List.setIfInBounds_toArray, List.set_cons_zero, List.set_cons_succ]
        refine wpAnyH_ready (rs := [20]) (by kernel_rfl) (by simp) ?_
        refine AllReadyH.cons (o := _) rfl (fun K hK => ?_) ?_
        rotate_left 1
        · exact AllReadyH.nil
        go_simp
        go_at_call 24
        refine (shaSumOf aB _ cB (R.bytes P) R.sum _ HFN.out (hTb _ hHeld.2) hrB (by rw [Ent.bytes_length, HPL.out]) hcB (by have := HRF.out.str;have := HRF.out.sub;omega)).mono ?_
        rintro _ wC ⟨rfl, hBC⟩
        dsimp only
        refine hK.out _ _ ?_ (fun hHeld => ?_)
        · (apply holS_below; assumption; assumption)
        clear hK K
        try simp only [Act.put, List.getElem_toArray, List.getElem_cons_zero, List.getElem_cons_succ, List.setIfInBounds_toArray, List.set_cons_zero, List.set_cons_succ]
        refine wpAnyH_take (i := 21) (oi := _) (v := ?_) rfl (by kernel_rfl) (by kernel_rfl) (by kernel_rfl) (fun _ _ _ h => h) (Or.inl ⟨by rfl, ?_⟩) (by assumption) ?_
        rotate_left 1
        · (intro w hSw; (try dsimp only at hSw); go_simp; all_goals (with_reducible rfl))
        try simp only [Act.put, List.getElem_toArray, List.getElem_cons_zero, List.getElem_cons_succ, List.setIfInBounds_toArray, List.set_cons_zero, List.set_cons_succ]
        refine wpAnyH_take (i := 22) (oi := _) (v := ?_) rfl (by kernel_rfl) (by kernel_rfl) (by kernel_rfl) (fun _ _ _ h => h) (Or.inl ⟨by rfl, ?_⟩) (by assumption) ?_
        rotate_left 1
        · (intro w hSw; (try dsimp only at hSw); go_simp; all_goals (with_reducible rfl))
        try simp only [Act.put, List.getElem_toArray, List.getElem_cons_zero, List.getElem_cons_succ, List.setIfInBounds_toArray, List.set_cons_zero, List.set_cons_succ]
        refine wpAnyH_done (by kernel_rfl) ?_ _
        refine NoPanic.normal ?_
        have hB9C := hHeld.2
        have hBrC : Below wr.heap.size wr wC := hB9.trans (hB9C.mono hB9.size)
        have hc8C := (hBrC.block z8 hzlt).trans HC8.out
        have HC8C := Lib.hid hc8C
        have HRZS := Lib.hid hHeld.1.2.2.2
        clear hHeld hS0 hneqE hneqS hiR hiS hiP hTb hBA hBB hBC hrB hc8C
        (repeat' ((fail_if_success at_builtin); first | (first | (with_reducible refine wpList_load_mid rfl 26 _ rfl z 7 rfl (bvs R.sum) _ HRZS.out hu26 rfl HIS2.out ?_) | ((with_reducible refine wpList_store_blk rfl 26 _ _ rfl z8 0 (bvs R.sum) rfl rfl _ _ HC8C.out HFP.out HIS2.out HOS.out ?_); intro wD hgD hGD; rw [splice_whole _ _ HLP.out] at hgD; have HGD := Lib.hid hgD; clear hgD)) | go_values | go_skip | go_guarded | go_step | go_upon))
        have hN : HolI w3 z8 (headOf (rs.take (k + 1))) wD := ⟨by rw [HHD.out]; exact HGD.out, by rw [← HZ8.out]; exact (hBI.trans (hBrC.mono hBI.size)).grown hGD (by have := hBI.size; have := hBrC.size; omega) (fun j e => by cases e; rw [HZ8.out]; exact Nat.le_refl _)⟩
        have HN := Lib.hid hN
        clear hN hGD HGD HC8C HRZS
        (repeat' ((fail_if_success at_builtin); first | go_values | go_skip | go_guarded | go_step | go_upon))
        go_roundw
        case rel => exact ⟨k + 1, by omega, by go_num, HN.out⟩
        case measure => simp [intOf]; omega
      · obtain rfl : k = xs.length := by omega
        obtain ⟨P, hP⟩ : ∃ P, headOf (rs.take xs.length) = P := ⟨_, rfl⟩
        have htk : rs.take xs.length = rs := by rw [← HRL.out, List.take_length]
        have hPl : P.length = 32 := by rw [← hP]; exact headOf_length _ (fun x hx => (HRFIT.out x (List.mem_of_mem_take hx)).ok)
        have hvP := HVY.out xs.length (Nat.le_refl _)
        rw [hP, htk] at hvP
        rw [hP] at hc8
        have HHP := Lib.hid (show headOf (f annBA) = P by rw [HF2.out, ← hP, htk])
        have HC8 := Lib.hid hc8
        have HPL := Lib.hid hPl
        have HVP := Lib.hid hvP
        have hLr := HLOG.out.below (hB3.trans (hBI.mono hB3.size))
        have HLR := Lib.hid hLr
        have b1 := pick_lt cut ((xs.length : Int) + 1) (by omega)
        obtain ⟨p1, hp1⟩ : ∃ p, pick cut ((xs.length : Int) + 1) = p := ⟨_, rfl⟩
        rw [hp1] at b1
        obtain ⟨M, hM⟩ : ∃ M : Nat, p1 = (M : Int) := ⟨p1.toNat, by omega⟩
        subst hM
        have HP1 := Lib.hid hp1
        have hMn : M ≤ xs.length := by omega
        clear hc8 hPl hvP hP htk hLr hp1
        (repeat' ((fail_if_success at_builtin); first | go_values | go_skip | go_guarded | go_step | go_upon))
        refine (auditHead S g xs.length f annBA P wr HLR.out annBA_le (by omega) HHP.out).mono ?_
        rintro _ wA ⟨rfl, hBA⟩
        dsimp only
        have hB3A : Below w3.heap.size w3 wA := hBI.trans (hBA.mono hBI.size)
        have hB0A : Below w0.heap.size w0 wA := hB03.trans (hB3A.mono hB03.size)
        (repeat' ((fail_if_success at_builtin); first | go_values | go_skip | go_guarded | go_step | go_upon))
        refine (auditVerify a3 xs.length c3 rs P 0 0 wA HVP.out (HT0.out.below hB0A hts0) (HR3.out.below hB3A (Nat.le_refl _)) (fun x hx => ⟨(HRFIT.out x hx).ok, (HRFIT.out x hx).str, (HRFIT.out x hx).sub⟩) HRL.out (by omega) (by omega) HPL.out).mono ?_
        rintro _ wB ⟨rfl, hBB⟩
        dsimp only
        have hBrB : Below wr.heap.size wr wB := hBA.trans (hBB.mono hBA.size)
        (repeat' ((fail_if_success at_builtin); first | go_values | go_skip | go_guarded | go_step | go_upon))
        refine (pickAny cut ((xs.length : Int) + 1) wB hcut (by omega)).mono ?_
        rintro _ wB' ⟨rfl, rfl⟩
        dsimp only
        rw [HP1.out]
        (repeat' ((fail_if_success at_builtin); (fail_if_success (show wpList _ _ _ ({ dst := some 104, op := _, type := _, pos := _, after := _, guard := _ } :: _) _ _)); first | (first | ((with_reducible refine wpList_alloc_fresh (w := wB) rfl 26 rfl _ iS zS HIS.out HZS.out HCS.out ?_); rw [HEZ.out]; intro wC hgC hBC hsC; have HGC := Lib.hid hgC; clear hgC; have HSC := Lib.hid hsC; clear hsC) | ((with_reducible refine wpList_store_blk rfl 26 _ _ rfl wB.heap.size 0 (bvs zeros32) rfl rfl _ _ HGC.out HFZ.out HIZ.out HOZ.out ?_); intro wD hgD hGD; rw [splice_whole _ _ HLZ.out] at hgD; have HGD := Lib.hid hgD; clear hgD HGC)) | go_values | go_skip | go_guarded | go_step | go_upon))
        obtain ⟨z13, hz13e⟩ : ∃ z, wB.heap.size = z := ⟨_, rfl⟩
        have hz13D : z13 < wD.heap.size := by have := hGD.size; have := HSC.out; omega
        have hBBD : Below wB.heap.size wB wD := hBC.grown hGD (by rw [HSC.out]; omega) (fun j e => by cases e; exact Nat.le_refl _)
        have hBrD : Below wr.heap.size wr wD := hBrB.trans (hBBD.mono hBrB.size)
        have hz13l : w3.heap.size ≤ z13 := by have := hBI.size; have := hBrB.size; omega
        have hz13r : wr.heap.size ≤ z13 := by have := hBrB.size; omega
        have hgD := HGD.out
        rw [hz13e] at hgD ⊢
        have HGD2 := Lib.hid hgD
        clear HGD hgD hGD HSC hBC hBBD hz13e hBA hBB hBrB hB3A hB0A HVP HLR
        by_cases hM0 : 0 < M
        · obtain ⟨j, hj⟩ : ∃ j, M = j + 1 := ⟨M - 1, by omega⟩
          have hj3 : j < rs.length := by rw [HRL.out]; omega
          have hBD3 : Below w3.heap.size w3 wD := hBI.trans (hBrD.mono hBI.size)
          obtain ⟨b3, o3, hba3, hra3⟩ := ents_at (HR3.out.below hBD3 (Nat.le_refl _)) HRSUM.out j hj3
          have hsm := ent_sum hra3
          have hq : headOf (rs.take M) = rs[j].sum := by rw [hj, List.take_succ_eq_append_getElem hj3, headOf_snoc]
          have hql : (rs[j].sum).length = 32 := HRSUM.out _ (List.getElem_mem hj3)
          obtain ⟨Q, hQ⟩ : ∃ Q, (rs[j].sum) = Q := ⟨_, rfl⟩
          rw [hQ] at hq hql hsm
          have HQ := Lib.hid hq
          have HQL := Lib.hid hql
          have HSM := Lib.hid hsm
          have HIQ := Lib.hid (show (Tryd.prog.info? 26).map (·.size) = some (bvs Q).length by rw [bvs_length, hql]; exact sizeSum)
          have HFQ := Lib.hid (show 0 + (bvs Q).length ≤ (bvs zeros32).toArray.size by rw [List.size_toArray, bvs_length, bvs_length, hql]; exact Nat.le_refl _)
          have HLQ := Lib.hid (show (bvs Q).length = (bvs zeros32).toArray.toList.length by rw [List.toList_toArray, bvs_length, bvs_length, hql]; rfl)
          have HOQ := Lib.hid (bvs_oneCell Q)
          have hj1 : ((M : Int) - 1) = (j : Int) := by omega
          have bj : (0 : Int) ≤ (j : Int) ∧ (j : Int) < (xs.length : Int) := by omega
          clear hra3 hsm hq hql hQ hj3 hj
          have hba0 := hba3
          rw [hba3]
          (repeat' ((fail_if_success at_builtin); first | (first | (with_reducible refine wpList_load_mid rfl 26 _ rfl b3 (o3 + j * 39 + 7) rfl (bvs Q) _ HSM.out hu26 rfl HIQ.out ?_) | ((with_reducible refine wpList_store_blk rfl 26 _ _ rfl z13 0 (bvs Q) rfl rfl _ _ HGD2.out HFQ.out HIQ.out HOQ.out ?_); intro wH hgH hGH; rw [splice_whole _ _ HLQ.out] at hgH; have HG13 := Lib.hid hgH; clear hgH)) | go_values | go_skip | go_guarded | go_step | go_upon))
          have hBH : Below wr.heap.size wr wH := hBrD.grown hGH hBrD.size (fun j e => by cases e; exact hz13r)
          have hz13 : z13 < wH.heap.size := by have := hGH.size; omega
          rw [← hba0]
          clear hba3 hba0 hGH hBD3 HGD2 HSM
          clear hj1 bj
          have hBH3 : Below w3.heap.size w3 wH := hBI.trans (hBH.mono hBI.size)
          have hBH0 : Below w0.heap.size w0 wH := hB03.trans (hBH3.mono hB03.size)
          have hTb : ∀ wx, Below wH.heap.size wH wx → Tabs wx := fun wx h => HT0.out.below (hBH0.trans (h.mono hBH0.size)) hts0
          have HTB := Lib.hid hTb
          have HP8 := Lib.hid ((hBH.block z8 hzlt).trans HC8.out)
          have hz8H : z8 < wH.heap.size := Nat.lt_of_lt_of_le hzlt hBH.size
          have hRM : ∀ wx, Below wH.heap.size wH wx → RdC wx a3 ((rs.take M).flatMap Ent.cells) := fun wx h => by
            rw [ents_take rs M HRSUM.out]
            exact rdc_take (HR3.out.below (hBH3.trans (h.mono hBH3.size)) (Nat.le_refl _)) _
          have HRM := Lib.hid hRM
          have hML : (rs.take M).length = M := by rw [List.length_take, HRL.out]; omega
          have HML := Lib.hid hML
          have hFM : ∀ x ∈ rs.take M, x.Ok ∧ x.stream.size ≤ 4096 ∧ x.subject.size ≤ 4096 := fun x hx => ⟨(HRFIT.out x (List.mem_of_mem_take hx)).ok, (HRFIT.out x (List.mem_of_mem_take hx)).str, (HRFIT.out x (List.mem_of_mem_take hx)).sub⟩
          have HFM := Lib.hid hFM
          have hsl := fun w => run_slice_toS (P := Tryd.prog) 68 73 39 Tryd.underlying68 entSize a3 xs.length c3 M (by omega) w
          have hvQ := HVY.out M (by omega)
          rw [HQ.out] at hvQ
          have HVQ := Lib.hid hvQ
          have hiQ : (Tryd.prog.info? 26).map (·.size) = some (bvs Q).length := by rw [bvs_length, HQL.out]; exact sizeSum
          have hS0 : Hol2 wH z13 Q wH.drew := ⟨rangeAt_whole (w := wH.drew) HG13.out, (Below.refl _ _).drew⟩
          clear hTb hRM hML hFM hvQ
          refine wp_region_noPanic ?_
          refine wp_region_held_drew (S := Hol2 wH z13 Q) (by kernel_rfl) ?_ (fun hHeld => ?_)
          · (exact hS0)
          refine wpAnyH_take (i := 0) (oi := _) (v := ?_) rfl (by kernel_rfl) (by kernel_rfl) (by kernel_rfl) (fun _ _ _ h => h) (Or.inl ⟨by rfl, ?_⟩) (by assumption) ?_
          rotate_left 1
          · (intro w hSw; (try dsimp only at hSw); go_simp; all_goals (with_reducible rfl))
          try simp only [Act.put, List.getElem_toArray, List.getElem_cons_zero, List.getElem_cons_succ, List.setIfInBounds_toArray, List.set_cons_zero, List.set_cons_succ]
          refine wpAnyH_take (i := 1) (oi := _) (v := ?_) rfl (by kernel_rfl) (by kernel_rfl) (by kernel_rfl) (fun _ _ _ h => h) (Or.inl ⟨by rfl, ?_⟩) (by assumption) ?_
          rotate_left 1
          · (intro w hSw; (try dsimp only at hSw); go_simp; all_goals (with_reducible rfl))
          try simp only [Act.put, List.getElem_toArray, List.getElem_cons_zero, List.getElem_cons_succ, List.setIfInBounds_toArray, List.set_cons_zero, List.set_cons_succ]
          refine wpAnyH_take (i := 2) (oi := _) (v := ?_) rfl (by kernel_rfl) (by kernel_rfl) (by kernel_rfl) (fun _ _ _ h => h) (Or.inl ⟨by rfl, ?_⟩) (by assumption) ?_
          rotate_left 1
          · (intro w hSw; (try dsimp only at hSw); go_simp; all_goals (with_reducible rfl))
          try simp only [Act.put, List.getElem_toArray, List.getElem_cons_zero, List.getElem_cons_succ, List.setIfInBounds_toArray, List.set_cons_zero, List.set_cons_succ]
          refine' wpAnyH_take (i := 3) (oi := _) (v := _) rfl (by kernel_rfl) (by kernel_rfl) (by kernel_rfl) (fun _ _ _ h => h) (yieldsIf_load_mid (by rfl) _ _ rfl _ _ rfl _ _ ?ls9 ?lu9 ?ld9 ?li9) (by assumption) ?lr9
          case ls9 => (intro w hSw; (try dsimp only at hSw); go_split_ands; assumption)
          case lu9 => assumption
          case ld9 => rfl
          case li9 => first | assumption | (simp only [*]; done)
          try simp only [Act.put, List.getElem_toArray, List.getElem_cons_zero, List.getElem_cons_succ, List.setIfInBounds_toArray, List.set_cons_zero, List.set_cons_succ]
          refine wpAnyH_ready (rs := [4]) (by kernel_rfl) (by simp) ?_
          refine AllReadyH.cons (o := _) rfl (fun K hK => ?_) ?_
          rotate_left 1
          · exact AllReadyH.nil
          go_simp
          go_at_call 68
          refine (auditVerify a3 M c3 (rs.take M) Q 0 0 _ HVQ.out (HTB.out _ hHeld.2) (HRM.out _ hHeld.2) HFM.out HML.out (by omega) (by omega) HQL.out).mono ?_
          rintro _ wI ⟨rfl, hBI2⟩
          dsimp only
          refine hK.out _ _ ?_ (fun hHeld => ?_)
          · (apply hol2_below; assumption; assumption)
          clear hK K
          try simp only [Act.put, List.getElem_toArray, List.getElem_cons_zero, List.getElem_cons_succ, List.setIfInBounds_toArray, List.set_cons_zero, List.set_cons_succ]
          refine wpAnyH_take (i := 5) (oi := _) (v := ?_) rfl (by kernel_rfl) (by kernel_rfl) (by kernel_rfl) (fun _ _ _ h => h) (Or.inl ⟨by rfl, ?_⟩) (by assumption) ?_
          rotate_left 1
          · (intro w hSw; (try dsimp only at hSw); go_simp; all_goals (with_reducible rfl))
          try simp only [Act.put, List.getElem_toArray, List.getElem_cons_zero, List.getElem_cons_succ, List.setIfInBounds_toArray, List.set_cons_zero, List.set_cons_succ]
          refine wpAnyH_take (i := 6) (oi := _) (v := ?_) rfl (by kernel_rfl) (by kernel_rfl) (by kernel_rfl) (fun _ _ _ h => h) (Or.inl ⟨by rfl, ?_⟩) (by assumption) ?_
          rotate_left 1
          · (intro w hSw; (try dsimp only at hSw); go_simp; all_goals (with_reducible rfl))
          try simp only [Act.put, List.getElem_toArray, List.getElem_cons_zero, List.getElem_cons_succ, List.setIfInBounds_toArray, List.set_cons_zero, List.set_cons_succ]
          refine wpAnyH_take (i := 7) (oi := _) (v := ?_) rfl (by kernel_rfl) (by kernel_rfl) (by kernel_rfl) (fun _ _ _ h => h) (Or.inl ⟨by rfl, ?_⟩) (by assumption) ?_
          rotate_left 1
          · (intro w hSw; (try dsimp only at hSw); go_simp; all_goals (with_reducible rfl))
          try simp only [Act.put, List.getElem_toArray, List.getElem_cons_zero, List.getElem_cons_succ, List.setIfInBounds_toArray, List.set_cons_zero, List.set_cons_succ]
          refine wpAnyH_take (i := 8) (oi := _) (v := ?_) rfl (by kernel_rfl) (by kernel_rfl) (by kernel_rfl) (fun _ _ _ h => h) (Or.inl ⟨by rfl, ?_⟩) (by assumption) ?_
          rotate_left 1
          · (intro w hSw; (try dsimp only at hSw); go_simp; all_goals (with_reducible rfl))
          try simp only [Act.put, List.getElem_toArray, List.getElem_cons_zero, List.getElem_cons_succ, List.setIfInBounds_toArray, List.set_cons_zero, List.set_cons_succ]
          refine wpAnyH_take (i := 9) (oi := _) (v := ?_) rfl (by kernel_rfl) (by kernel_rfl) (by kernel_rfl) (fun _ _ _ h => h) (Or.inl ⟨by rfl, ?_⟩) (by assumption) ?_
          rotate_left 1
          · (intro w hSw; (try dsimp only at hSw); go_simp; all_goals (with_reducible rfl))
          try simp only [Act.put, List.getElem_toArray, List.getElem_cons_zero, List.getElem_cons_succ, List.setIfInBounds_toArray, List.set_cons_zero, List.set_cons_succ]
          refine wpAnyH_done (by kernel_rfl) ?_ _
          refine NoPanic.normal ?_
          have hHI := hHeld.2
          have HGI := Lib.hid ((hHI.block z13 hz13).trans HG13.out)
          have HP8I := Lib.hid ((hHI.block z8 hz8H).trans HP8.out)
          clear hHeld hS0 hBI2
          have hiP : (Tryd.prog.info? 26).map (·.size) = some (bvs P).length := by rw [bvs_length, HPL.out]; exact sizeSum
          have hneqP := fun w => neqSum w P P HPL.out HPL.out
          rw [decide_eq_true (rfl : P = P)] at hneqP
          have hSP : Hol2 wI z8 P wI.drew := ⟨rangeAt_whole (w := wI.drew) HP8I.out, (Below.refl _ _).drew⟩
          have hLI := HLOG.out.below (hB3.trans ((hBH3.trans (hHI.mono hBH3.size)).mono hB3.size))
          have HLI := Lib.hid hLI
          clear hLI
          (repeat' ((fail_if_success at_builtin); first | go_values | go_skip | go_guarded | go_step | go_upon))
          refine wp_region_noPanic ?_
          refine wp_region_held_drew (S := Hol2 wI z8 P) (by kernel_rfl) ?_ (fun hHeld => ?_)
          · (exact hSP)
          refine wpAnyH_take (i := 0) (oi := _) (v := ?_) rfl (by kernel_rfl) (by kernel_rfl) (by kernel_rfl) (fun _ _ _ h => h) (Or.inl ⟨by rfl, ?_⟩) (by assumption) ?_
          rotate_left 1
          · (intro w hSw; (try dsimp only at hSw); go_simp; all_goals (with_reducible rfl))
          try simp only [Act.put, List.getElem_toArray, List.getElem_cons_zero, List.getElem_cons_succ, List.setIfInBounds_toArray, List.set_cons_zero, List.set_cons_succ]
          refine wpAnyH_take (i := 1) (oi := _) (v := ?_) rfl (by kernel_rfl) (by kernel_rfl) (by kernel_rfl) (fun _ _ _ h => h) (Or.inl ⟨by rfl, ?_⟩) (by assumption) ?_
          rotate_left 1
          · (intro w hSw; (try dsimp only at hSw); go_simp; all_goals (with_reducible rfl))
          try simp only [Act.put, List.getElem_toArray, List.getElem_cons_zero, List.getElem_cons_succ, List.setIfInBounds_toArray, List.set_cons_zero, List.set_cons_succ]
          refine wpAnyH_take (i := 2) (oi := _) (v := ?_) rfl (by kernel_rfl) (by kernel_rfl) (by kernel_rfl) (fun _ _ _ h => h) (Or.inl ⟨by rfl, ?_⟩) (by assumption) ?_
          rotate_left 1
          · (intro w hSw; (try dsimp only at hSw); go_simp; all_goals (with_reducible rfl))
          try simp only [Act.put, List.getElem_toArray, List.getElem_cons_zero, List.getElem_cons_succ, List.setIfInBounds_toArray, List.set_cons_zero, List.set_cons_succ]
          refine wpAnyH_take (i := 3) (oi := _) (v := ?_) rfl (by kernel_rfl) (by kernel_rfl) (by kernel_rfl) (fun _ _ _ h => h) (Or.inl ⟨by rfl, ?_⟩) (by assumption) ?_
          rotate_left 1
          · (intro w hSw; (try dsimp only at hSw); go_simp; all_goals (with_reducible rfl))
          try simp only [Act.put, List.getElem_toArray, List.getElem_cons_zero, List.getElem_cons_succ, List.setIfInBounds_toArray, List.set_cons_zero, List.set_cons_succ]
          refine wpAnyH_take (i := 4) (oi := _) (v := ?_) rfl (by kernel_rfl) (by kernel_rfl) (by kernel_rfl) (fun _ _ _ h => h) (Or.inl ⟨by rfl, ?_⟩) (by assumption) ?_
          rotate_left 1
          · (intro w hSw; (try dsimp only at hSw); go_simp; all_goals (with_reducible rfl))
          try simp only [Act.put, List.getElem_toArray, List.getElem_cons_zero, List.getElem_cons_succ, List.setIfInBounds_toArray, List.set_cons_zero, List.set_cons_succ]
          refine wpAnyH_take (i := 5) (oi := _) (v := ?_) rfl (by kernel_rfl) (by kernel_rfl) (by kernel_rfl) (fun _ _ _ h => h) (Or.inl ⟨by rfl, ?_⟩) (by assumption) ?_
          rotate_left 1
          · (intro w hSw; (try dsimp only at hSw); go_simp; all_goals (with_reducible rfl))
          try simp only [Act.put, List.getElem_toArray, List.getElem_cons_zero, List.getElem_cons_succ, List.setIfInBounds_toArray, List.set_cons_zero, List.set_cons_succ]
          refine wpAnyH_take (i := 6) (oi := _) (v := ?_) rfl (by kernel_rfl) (by kernel_rfl) (by kernel_rfl) (fun _ _ _ h => h) (Or.inl ⟨by rfl, ?_⟩) (by assumption) ?_
          rotate_left 1
          · (intro w hSw; (try dsimp only at hSw); go_simp; all_goals (with_reducible rfl))
          try simp only [Act.put, List.getElem_toArray, List.getElem_cons_zero, List.getElem_cons_succ, List.setIfInBounds_toArray, List.set_cons_zero, List.set_cons_succ]
          refine wpAnyH_take (i := 7) (oi := _) (v := ?_) rfl (by kernel_rfl) (by kernel_rfl) (by kernel_rfl) (fun _ _ _ h => h) (Or.inl ⟨by rfl, ?_⟩) (by assumption) ?_
          rotate_left 1
          · (intro w hSw; (try dsimp only at hSw); go_simp; all_goals (with_reducible rfl))
          try simp only [Act.put, List.getElem_toArray, List.getElem_cons_zero, List.getElem_cons_succ, List.setIfInBounds_toArray, List.set_cons_zero, List.set_cons_succ]
          refine wpAnyH_take (i := 8) (oi := _) (v := ?_) rfl (by kernel_rfl) (by kernel_rfl) (by kernel_rfl) (fun _ _ _ h => h) (Or.inl ⟨by rfl, ?_⟩) (by assumption) ?_
          rotate_left 1
          · (intro w hSw; (try dsimp only at hSw); go_simp; all_goals (with_reducible rfl))
          try simp only [Act.put, List.getElem_toArray, List.getElem_cons_zero, List.getElem_cons_succ, List.setIfInBounds_toArray, List.set_cons_zero, List.set_cons_succ]
          refine wpAnyH_take (i := 9) (oi := _) (v := ?_) rfl (by kernel_rfl) (by kernel_rfl) (by kernel_rfl) (fun _ _ _ h => h) (Or.inl ⟨by rfl, ?_⟩) (by assumption) ?_
          rotate_left 1
          · (intro w hSw; (try dsimp only at hSw); go_simp; all_goals (with_reducible rfl))
          try simp only [Act.put, List.getElem_toArray, List.getElem_cons_zero, List.getElem_cons_succ, List.setIfInBounds_toArray, List.set_cons_zero, List.set_cons_succ]
          refine wpAnyH_take (i := 10) (oi := _) (v := ?_) rfl (by kernel_rfl) (by kernel_rfl) (by kernel_rfl) (fun _ _ _ h => h) (Or.inl ⟨by rfl, ?_⟩) (by assumption) ?_
          rotate_left 1
          · (intro w hSw; (try dsimp only at hSw); go_simp; all_goals (with_reducible rfl))
          try simp only [Act.put, List.getElem_toArray, List.getElem_cons_zero, List.getElem_cons_succ, List.setIfInBounds_toArray, List.set_cons_zero, List.set_cons_succ]
          refine wpAnyH_take (i := 11) (oi := _) (v := ?_) rfl (by kernel_rfl) (by kernel_rfl) (by kernel_rfl) (fun _ _ _ h => h) (Or.inl ⟨by rfl, ?_⟩) (by assumption) ?_
          rotate_left 1
          · (intro w hSw; (try dsimp only at hSw); go_simp; all_goals (with_reducible rfl))
          try simp only [Act.put, List.getElem_toArray, List.getElem_cons_zero, List.getElem_cons_succ, List.setIfInBounds_toArray, List.set_cons_zero, List.set_cons_succ]
          refine wpAnyH_take (i := 12) (oi := _) (v := ?_) rfl (by kernel_rfl) (by kernel_rfl) (by kernel_rfl) (fun _ _ _ h => h) (Or.inl ⟨by rfl, ?_⟩) (by assumption) ?_
          rotate_left 1
          · (intro w hSw; (try dsimp only at hSw); go_simp; all_goals (with_reducible rfl))
          try simp only [Act.put, List.getElem_toArray, List.getElem_cons_zero, List.getElem_cons_succ, List.setIfInBounds_toArray, List.set_cons_zero, List.set_cons_succ]
          refine wpAnyH_take (i := 13) (oi := _) (v := ?_) rfl (by kernel_rfl) (by kernel_rfl) (by kernel_rfl) (fun _ _ _ h => h) (Or.inl ⟨by rfl, ?_⟩) (by assumption) ?_
          rotate_left 1
          · (intro w hSw; (try dsimp only at hSw); go_simp; all_goals (with_reducible rfl))
          try simp only [Act.put, List.getElem_toArray, List.getElem_cons_zero, List.getElem_cons_succ, List.setIfInBounds_toArray, List.set_cons_zero, List.set_cons_succ]
          refine wpAnyH_take (i := 14) (oi := _) (v := ?_) rfl (by kernel_rfl) (by kernel_rfl) (by kernel_rfl) (fun _ _ _ h => h) (Or.inl ⟨by rfl, ?_⟩) (by assumption) ?_
          rotate_left 1
          · (intro w hSw; (try dsimp only at hSw); go_simp; all_goals (with_reducible rfl))
          try simp only [Act.put, List.getElem_toArray, List.getElem_cons_zero, List.getElem_cons_succ, List.setIfInBounds_toArray, List.set_cons_zero, List.set_cons_succ]
          refine wpAnyH_take (i := 15) (oi := _) (v := ?_) rfl (by kernel_rfl) (by kernel_rfl) (by kernel_rfl) (fun _ _ _ h => h) (Or.inl ⟨by rfl, ?_⟩) (by assumption) ?_
          rotate_left 1
          · (intro w hSw; (try dsimp only at hSw); go_simp; all_goals (with_reducible rfl))
          try simp only [Act.put, List.getElem_toArray, List.getElem_cons_zero, List.getElem_cons_succ, List.setIfInBounds_toArray, List.set_cons_zero, List.set_cons_succ]
          refine' wpAnyH_take (i := 17) (oi := _) (v := _) rfl (by kernel_rfl) (by kernel_rfl) (by kernel_rfl) (fun _ _ _ h => h) (yieldsIf_load_mid (by rfl) _ _ rfl _ _ rfl _ _ ?ls10 ?lu10 ?ld10 ?li10) (by assumption) ?lr10
          case ls10 => (intro w hSw; (try dsimp only at hSw); go_split_ands; assumption)
          case lu10 => assumption
          case ld10 => rfl
          case li10 => first | assumption | (simp only [*]; done)
          try simp only [Act.put, List.getElem_toArray, List.getElem_cons_zero, List.getElem_cons_succ, List.setIfInBounds_toArray, List.set_cons_zero, List.set_cons_succ]
          refine wpAnyH_ready (rs := [16]) (by kernel_rfl) (by simp) ?_
          refine AllReadyH.cons (o := _) rfl (fun K hK => ?_) ?_
          rotate_left 1
          · exact AllReadyH.nil
          go_simp
          go_at_call 73
          refine (auditHead S g xs.length f annBA P _ (HLI.out.below hHeld.2) annBA_le (by omega) HHP.out).mono ?_
          rintro _ wJ ⟨rfl, hBJ2⟩
          dsimp only
          refine hK.out _ _ ?_ (fun hHeld => ?_)
          · (apply hol2_below; assumption; assumption)
          clear hK K
          try simp only [Act.put, List.getElem_toArray, List.getElem_cons_zero, List.getElem_cons_succ, List.setIfInBounds_toArray, List.set_cons_zero, List.set_cons_succ]
          refine wpAnyH_take (i := 18) (oi := _) (v := ?_) rfl (by kernel_rfl) (by kernel_rfl) (by kernel_rfl) (fun _ _ _ h => h) (Or.inl ⟨by rfl, ?_⟩) (by assumption) ?_
          rotate_left 1
          · (intro w hSw; (try dsimp only at hSw); go_simp; all_goals (with_reducible rfl))
          try simp only [Act.put, List.getElem_toArray, List.getElem_cons_zero, List.getElem_cons_succ, List.setIfInBounds_toArray, List.set_cons_zero, List.set_cons_succ]
          refine wpAnyH_take (i := 19) (oi := _) (v := ?_) rfl (by kernel_rfl) (by kernel_rfl) (by kernel_rfl) (fun _ _ _ h => h) (Or.inl ⟨by rfl, ?_⟩) (by assumption) ?_
          rotate_left 1
          · (intro w hSw; (try dsimp only at hSw); go_simp; all_goals (with_reducible rfl))
          try simp only [Act.put, List.getElem_toArray, List.getElem_cons_zero, List.getElem_cons_succ, List.setIfInBounds_toArray, List.set_cons_zero, List.set_cons_succ]
          refine wpAnyH_done (by kernel_rfl) ?_ _
          refine NoPanic.normal ?_
          have hHJ := hHI.trans (hHeld.2.mono hHI.size)
          have hgJ := (hHJ.block z13 hz13).trans HG13.out
          clear hHeld hSP hBJ2 hneqP HGI HP8I HLI
          obtain ⟨q0, qt, hqq⟩ : ∃ q0 qt, Q = q0 :: qt := by
            match Q, HQL.out with
            | q0 :: qt, _ => exact ⟨q0, qt, rfl⟩
          have c0 : wJ.cell? ⟨z13, 0, none⟩ = some (.int .u8 (q0.toNat : Int)) := cell_of_row wJ z13 0 _ _ _ (by rw [hqq] at hgJ; exact hgJ)
          have f0 := frozen_of_row wJ z13 0 _ _ hgJ
          have hx1 := xor_one q0
          have HGJ := Lib.hid hgJ
          clear hgJ
          (repeat' ((fail_if_success at_builtin); first | go_values | go_skip | go_guarded | go_step | go_upon))
          obtain ⟨wK, hwK⟩ : ∃ wK, wJ.setCell ⟨z13, 0, none⟩ (.int .u8 ((xor1 q0).toNat : Int)) = wK := ⟨_, rfl⟩
          rw [hwK]
          have hgK : wK.heap[z13]? = some (.cells (bvs (flip0 Q)).toArray 26 (0, 0)) := by
            rw [← hwK, row_set HGJ.out, List.setIfInBounds_toArray, hqq]; rfl
          have hHJ13 : Below z13 wH wJ := hHJ.mono (by omega)
          have hBHK : Below z13 wH wK := by rw [← hwK]; exact hHJ13.setCell (Nat.le_refl _) _
          have hBK3 : Below w3.heap.size w3 wK := hBH3.trans (hBHK.mono hz13l)
          have hBK0 : Below w0.heap.size w0 wK := hB03.trans (hBK3.mono hB03.size)
          have hTb : ∀ wx, Below wK.heap.size wK wx → Tabs wx := fun wx h => HT0.out.below (hBK0.trans (h.mono hBK0.size)) hts0
          have HTB2 := Lib.hid hTb
          have hRM : ∀ wx, Below wK.heap.size wK wx → RdC wx a3 ((rs.take M).flatMap Ent.cells) := fun wx h => by
            rw [ents_take rs M HRSUM.out]
            exact rdc_take (HR3.out.below (hBK3.trans (h.mono hBK3.size)) (Nat.le_refl _)) _
          have HRM2 := Lib.hid hRM
          obtain ⟨Q', hQ'⟩ : ∃ Q', flip0 Q = Q' := ⟨_, rfl⟩
          have hQl' : Q'.length = 32 := by rw [← hQ', flip0_length]; exact HQL.out
          have HQL2 := Lib.hid hQl'
          have hvQ2 := HVN.out M (by omega) Q' (by rw [HQ.out, ← hQ']; exact flip0_ne HQL.out)
          have HVQ2 := Lib.hid hvQ2
          rw [hQ'] at hgK
          have hiQ2 : (Tryd.prog.info? 26).map (·.size) = some (bvs Q').length := by rw [bvs_length, hQl']; exact sizeSum
          have hS2 : Hol2 wK z13 Q' wK.drew := ⟨rangeAt_whole (w := wK.drew) hgK, (Below.refl _ _).drew⟩
          clear hTb hRM hvQ2 hgK hwK c0 f0 hx1 hQl' hqq hQ' HGJ
          refine wp_region_noPanic ?_
          refine wp_region_held_drew (S := Hol2 wK z13 Q') (by kernel_rfl) ?_ (fun hHeld => ?_)
          · (exact hS2)
          refine wpAnyH_take (i := 0) (oi := _) (v := ?_) rfl (by kernel_rfl) (by kernel_rfl) (by kernel_rfl) (fun _ _ _ h => h) (Or.inl ⟨by rfl, ?_⟩) (by assumption) ?_
          rotate_left 1
          · (intro w hSw; (try dsimp only at hSw); go_simp; all_goals (with_reducible rfl))
          try simp only [Act.put, List.getElem_toArray, List.getElem_cons_zero, List.getElem_cons_succ, List.setIfInBounds_toArray, List.set_cons_zero, List.set_cons_succ]
          refine wpAnyH_take (i := 1) (oi := _) (v := ?_) rfl (by kernel_rfl) (by kernel_rfl) (by kernel_rfl) (fun _ _ _ h => h) (Or.inl ⟨by rfl, ?_⟩) (by assumption) ?_
          rotate_left 1
          · (intro w hSw; (try dsimp only at hSw); go_simp; all_goals (with_reducible rfl))
          try simp only [Act.put, List.getElem_toArray, List.getElem_cons_zero, List.getElem_cons_succ, List.setIfInBounds_toArray, List.set_cons_zero, List.set_cons_succ]
          refine wpAnyH_take (i := 2) (oi := _) (v := ?_) rfl (by kernel_rfl) (by kernel_rfl) (by kernel_rfl) (fun _ _ _ h => h) (Or.inl ⟨by rfl, ?_⟩) (by assumption) ?_
          rotate_left 1
          · (intro w hSw; (try dsimp only at hSw); go_simp; all_goals (with_reducible rfl))
          try simp only [Act.put, List.getElem_toArray, List.getElem_cons_zero, List.getElem_cons_succ, List.setIfInBounds_toArray, List.set_cons_zero, List.set_cons_succ]
          refine' wpAnyH_take (i := 3) (oi := _) (v := _) rfl (by kernel_rfl) (by kernel_rfl) (by kernel_rfl) (fun _ _ _ h => h) (yieldsIf_load_mid (by rfl) _ _ rfl _ _ rfl _ _ ?ls11 ?lu11 ?ld11 ?li11) (by assumption) ?lr11
          case ls11 => (intro w hSw; (try dsimp only at hSw); go_split_ands; assumption)
          case lu11 => assumption
          case ld11 => rfl
          case li11 => first | assumption | (simp only [*]; done)
          try simp only [Act.put, List.getElem_toArray, List.getElem_cons_zero, List.getElem_cons_succ, List.setIfInBounds_toArray, List.set_cons_zero, List.set_cons_succ]
          refine wpAnyH_ready (rs := [4]) (by kernel_rfl) (by simp) ?_
          refine AllReadyH.cons (o := _) rfl (fun K hK => ?_) ?_
          rotate_left 1
          · exact AllReadyH.nil
          go_simp
          go_at_call 68
          refine (auditVerify a3 M c3 (rs.take M) Q' (M+1) 24 _ HVQ2.out (HTB2.out _ hHeld.2) (HRM2.out _ hHeld.2) HFM.out HML.out (by omega) (by omega) HQL2.out).mono ?_
          rintro _ wL ⟨rfl, hBL2⟩
          dsimp only
          rw [show ((M + 1 : Nat) : Int) = (M : Int) + 1 from rfl]
          refine hK.out _ _ ?_ (fun hHeld => ?_)
          · (apply hol2_below; assumption; assumption)
          clear hK K
          try simp only [Act.put, List.getElem_toArray, List.getElem_cons_zero, List.getElem_cons_succ, List.setIfInBounds_toArray, List.set_cons_zero, List.set_cons_succ]
          refine wpAnyH_take (i := 5) (oi := _) (v := ?_) rfl (by kernel_rfl) (by kernel_rfl) (by kernel_rfl) (fun _ _ _ h => h) (Or.inl ⟨by rfl, ?_⟩) (by assumption) ?_
          rotate_left 1
          · (intro w hSw; (try dsimp only at hSw); go_simp; all_goals (with_reducible rfl))
          try simp only [Act.put, List.getElem_toArray, List.getElem_cons_zero, List.getElem_cons_succ, List.setIfInBounds_toArray, List.set_cons_zero, List.set_cons_succ]
          refine wpAnyH_take (i := 6) (oi := _) (v := ?_) rfl (by kernel_rfl) (by kernel_rfl) (by kernel_rfl) (fun _ _ _ h => h) (Or.inl ⟨by rfl, ?_⟩) (by assumption) ?_
          rotate_left 1
          · (intro w hSw; (try dsimp only at hSw); go_simp; all_goals (with_reducible rfl))
          try simp only [Act.put, List.getElem_toArray, List.getElem_cons_zero, List.getElem_cons_succ, List.setIfInBounds_toArray, List.set_cons_zero, List.set_cons_succ]
          refine wpAnyH_take (i := 7) (oi := _) (v := ?_) rfl (by kernel_rfl) (by kernel_rfl) (by kernel_rfl) (fun _ _ _ h => h) (Or.inl ⟨by rfl, ?_⟩) (by assumption) ?_
          rotate_left 1
          · (intro w hSw; (try dsimp only at hSw); go_simp; all_goals (with_reducible rfl))
          try simp only [Act.put, List.getElem_toArray, List.getElem_cons_zero, List.getElem_cons_succ, List.setIfInBounds_toArray, List.set_cons_zero, List.set_cons_succ]
          refine wpAnyH_take (i := 8) (oi := _) (v := ?_) rfl (by kernel_rfl) (by kernel_rfl) (by kernel_rfl) (fun _ _ _ h => h) (Or.inl ⟨by rfl, ?_⟩) (by assumption) ?_
          rotate_left 1
          · (intro w hSw; (try dsimp only at hSw); go_simp; all_goals (with_reducible rfl))
          try simp only [Act.put, List.getElem_toArray, List.getElem_cons_zero, List.getElem_cons_succ, List.setIfInBounds_toArray, List.set_cons_zero, List.set_cons_succ]
          refine wpAnyH_take (i := 9) (oi := _) (v := ?_) rfl (by kernel_rfl) (by kernel_rfl) (by kernel_rfl) (fun _ _ _ h => h) (Or.inl ⟨by rfl, ?_⟩) (by assumption) ?_
          rotate_left 1
          · (intro w hSw; (try dsimp only at hSw); go_simp; all_goals (with_reducible rfl))
          try simp only [Act.put, List.getElem_toArray, List.getElem_cons_zero, List.getElem_cons_succ, List.setIfInBounds_toArray, List.set_cons_zero, List.set_cons_succ]
          refine wpAnyH_done (by kernel_rfl) ?_ _
          refine NoPanic.normal ?_
          have hHL := hHeld.2
          have hTL := HTB2.out _ hHL
          have hB0L : Below w0.heap.size w0 wL := hBK0.trans (hHL.mono hBK0.size)
          have tq : ((M : Int) + 1 == (M : Int) + 1) = true := by simp
          clear hHeld hS2 hBL2
          (repeat' ((fail_if_success at_builtin); first | go_values | go_skip | go_guarded | go_step | go_upon))
          refine (works21 wL hTL).mono ?_
          rintro _ wM ⟨rfl, hBM⟩
          dsimp only
          (repeat' ((fail_if_success at_builtin); first | go_values | go_skip | go_guarded | go_step | go_upon))
          go_ret
          exact ⟨rfl, hB0.trans ((hB0L.trans (hBM.mono hB0L.size)).mono hB0.size)⟩
        · have hM00 : M = 0 := by omega
          obtain ⟨Q, hQ⟩ : ∃ Q, zeros32 = Q := ⟨_, rfl⟩
          have HQ := Lib.hid (show headOf (rs.take M) = Q by rw [hM00, ← hQ]; rfl)
          have HQL := Lib.hid (show Q.length = 32 by rw [← hQ]; rfl)
          have hgH := HGD2.out
          rw [hQ] at hgH
          have HG13 := Lib.hid hgH
          have hBH := hBrD
          have hz13 := hz13D
          clear hQ hgH HGD2 hM00
          (repeat' ((fail_if_success at_builtin); first | go_values | go_skip | go_guarded | go_step | go_upon))
          clear hM0
          have hBH3 : Below w3.heap.size w3 wD := hBI.trans (hBH.mono hBI.size)
          have hBH0 : Below w0.heap.size w0 wD := hB03.trans (hBH3.mono hB03.size)
          have hTb : ∀ wx, Below wD.heap.size wD wx → Tabs wx := fun wx h => HT0.out.below (hBH0.trans (h.mono hBH0.size)) hts0
          have HTB := Lib.hid hTb
          have HP8 := Lib.hid ((hBH.block z8 hzlt).trans HC8.out)
          have hz8H : z8 < wD.heap.size := Nat.lt_of_lt_of_le hzlt hBH.size
          have hRM : ∀ wx, Below wD.heap.size wD wx → RdC wx a3 ((rs.take M).flatMap Ent.cells) := fun wx h => by
            rw [ents_take rs M HRSUM.out]
            exact rdc_take (HR3.out.below (hBH3.trans (h.mono hBH3.size)) (Nat.le_refl _)) _
          have HRM := Lib.hid hRM
          have hML : (rs.take M).length = M := by rw [List.length_take, HRL.out]; omega
          have HML := Lib.hid hML
          have hFM : ∀ x ∈ rs.take M, x.Ok ∧ x.stream.size ≤ 4096 ∧ x.subject.size ≤ 4096 := fun x hx => ⟨(HRFIT.out x (List.mem_of_mem_take hx)).ok, (HRFIT.out x (List.mem_of_mem_take hx)).str, (HRFIT.out x (List.mem_of_mem_take hx)).sub⟩
          have HFM := Lib.hid hFM
          have hsl := fun w => run_slice_toS (P := Tryd.prog) 68 73 39 Tryd.underlying68 entSize a3 xs.length c3 M (by omega) w
          have hvQ := HVY.out M (by omega)
          rw [HQ.out] at hvQ
          have HVQ := Lib.hid hvQ
          have hiQ : (Tryd.prog.info? 26).map (·.size) = some (bvs Q).length := by rw [bvs_length, HQL.out]; exact sizeSum
          have hS0 : Hol2 wD z13 Q wD.drew := ⟨rangeAt_whole (w := wD.drew) HG13.out, (Below.refl _ _).drew⟩
          clear hTb hRM hML hFM hvQ
          refine wp_region_noPanic ?_
          refine wp_region_held_drew (S := Hol2 wD z13 Q) (by kernel_rfl) ?_ (fun hHeld => ?_)
          · (exact hS0)
          refine wpAnyH_take (i := 0) (oi := _) (v := ?_) rfl (by kernel_rfl) (by kernel_rfl) (by kernel_rfl) (fun _ _ _ h => h) (Or.inl ⟨by rfl, ?_⟩) (by assumption) ?_
          rotate_left 1
          · (intro w hSw; (try dsimp only at hSw); go_simp; all_goals (with_reducible rfl))
          try simp only [Act.put, List.getElem_toArray, List.getElem_cons_zero, List.getElem_cons_succ, List.setIfInBounds_toArray, List.set_cons_zero, List.set_cons_succ]
          refine wpAnyH_take (i := 1) (oi := _) (v := ?_) rfl (by kernel_rfl) (by kernel_rfl) (by kernel_rfl) (fun _ _ _ h => h) (Or.inl ⟨by rfl, ?_⟩) (by assumption) ?_
          rotate_left 1
          · (intro w hSw; (try dsimp only at hSw); go_simp; all_goals (with_reducible rfl))
          try simp only [Act.put, List.getElem_toArray, List.getElem_cons_zero, List.getElem_cons_succ, List.setIfInBounds_toArray, List.set_cons_zero, List.set_cons_succ]
          refine wpAnyH_take (i := 2) (oi := _) (v := ?_) rfl (by kernel_rfl) (by kernel_rfl) (by kernel_rfl) (fun _ _ _ h => h) (Or.inl ⟨by rfl, ?_⟩) (by assumption) ?_
          rotate_left 1
          · (intro w hSw; (try dsimp only at hSw); go_simp; all_goals (with_reducible rfl))
          try simp only [Act.put, List.getElem_toArray, List.getElem_cons_zero, List.getElem_cons_succ, List.setIfInBounds_toArray, List.set_cons_zero, List.set_cons_succ]
          refine' wpAnyH_take (i := 3) (oi := _) (v := _) rfl (by kernel_rfl) (by kernel_rfl) (by kernel_rfl) (fun _ _ _ h => h) (yieldsIf_load_mid (by rfl) _ _ rfl _ _ rfl _ _ ?ls12 ?lu12 ?ld12 ?li12) (by assumption) ?lr12
          case ls12 => (intro w hSw; (try dsimp only at hSw); go_split_ands; assumption)
          case lu12 => assumption
          case ld12 => rfl
          case li12 => first | assumption | (simp only [*]; done)
          try simp only [Act.put, List.getElem_toArray, List.getElem_cons_zero, List.getElem_cons_succ, List.setIfInBounds_toArray, List.set_cons_zero, List.set_cons_succ]
          refine wpAnyH_ready (rs := [4]) (by kernel_rfl) (by simp) ?_
          refine AllReadyH.cons (o := _) rfl (fun K hK => ?_) ?_
          rotate_left 1
          · exact AllReadyH.nil
          go_simp
          go_at_call 68
          refine (auditVerify a3 M c3 (rs.take M) Q 0 0 _ HVQ.out (HTB.out _ hHeld.2) (HRM.out _ hHeld.2) HFM.out HML.out (by omega) (by omega) HQL.out).mono ?_
          rintro _ wI ⟨rfl, hBI2⟩
          dsimp only
          refine hK.out _ _ ?_ (fun hHeld => ?_)
          · (apply hol2_below; assumption; assumption)
          clear hK K
          try simp only [Act.put, List.getElem_toArray, List.getElem_cons_zero, List.getElem_cons_succ, List.setIfInBounds_toArray, List.set_cons_zero, List.set_cons_succ]
          refine wpAnyH_take (i := 5) (oi := _) (v := ?_) rfl (by kernel_rfl) (by kernel_rfl) (by kernel_rfl) (fun _ _ _ h => h) (Or.inl ⟨by rfl, ?_⟩) (by assumption) ?_
          rotate_left 1
          · (intro w hSw; (try dsimp only at hSw); go_simp; all_goals (with_reducible rfl))
          try simp only [Act.put, List.getElem_toArray, List.getElem_cons_zero, List.getElem_cons_succ, List.setIfInBounds_toArray, List.set_cons_zero, List.set_cons_succ]
          refine wpAnyH_take (i := 6) (oi := _) (v := ?_) rfl (by kernel_rfl) (by kernel_rfl) (by kernel_rfl) (fun _ _ _ h => h) (Or.inl ⟨by rfl, ?_⟩) (by assumption) ?_
          rotate_left 1
          · (intro w hSw; (try dsimp only at hSw); go_simp; all_goals (with_reducible rfl))
          try simp only [Act.put, List.getElem_toArray, List.getElem_cons_zero, List.getElem_cons_succ, List.setIfInBounds_toArray, List.set_cons_zero, List.set_cons_succ]
          refine wpAnyH_take (i := 7) (oi := _) (v := ?_) rfl (by kernel_rfl) (by kernel_rfl) (by kernel_rfl) (fun _ _ _ h => h) (Or.inl ⟨by rfl, ?_⟩) (by assumption) ?_
          rotate_left 1
          · (intro w hSw; (try dsimp only at hSw); go_simp; all_goals (with_reducible rfl))
          try simp only [Act.put, List.getElem_toArray, List.getElem_cons_zero, List.getElem_cons_succ, List.setIfInBounds_toArray, List.set_cons_zero, List.set_cons_succ]
          refine wpAnyH_take (i := 8) (oi := _) (v := ?_) rfl (by kernel_rfl) (by kernel_rfl) (by kernel_rfl) (fun _ _ _ h => h) (Or.inl ⟨by rfl, ?_⟩) (by assumption) ?_
          rotate_left 1
          · (intro w hSw; (try dsimp only at hSw); go_simp; all_goals (with_reducible rfl))
          try simp only [Act.put, List.getElem_toArray, List.getElem_cons_zero, List.getElem_cons_succ, List.setIfInBounds_toArray, List.set_cons_zero, List.set_cons_succ]
          refine wpAnyH_take (i := 9) (oi := _) (v := ?_) rfl (by kernel_rfl) (by kernel_rfl) (by kernel_rfl) (fun _ _ _ h => h) (Or.inl ⟨by rfl, ?_⟩) (by assumption) ?_
          rotate_left 1
          · (intro w hSw; (try dsimp only at hSw); go_simp; all_goals (with_reducible rfl))
          try simp only [Act.put, List.getElem_toArray, List.getElem_cons_zero, List.getElem_cons_succ, List.setIfInBounds_toArray, List.set_cons_zero, List.set_cons_succ]
          refine wpAnyH_done (by kernel_rfl) ?_ _
          refine NoPanic.normal ?_
          have hHI := hHeld.2
          have HGI := Lib.hid ((hHI.block z13 hz13).trans HG13.out)
          have HP8I := Lib.hid ((hHI.block z8 hz8H).trans HP8.out)
          clear hHeld hS0 hBI2
          have hiP : (Tryd.prog.info? 26).map (·.size) = some (bvs P).length := by rw [bvs_length, HPL.out]; exact sizeSum
          have hneqP := fun w => neqSum w P P HPL.out HPL.out
          rw [decide_eq_true (rfl : P = P)] at hneqP
          have hSP : Hol2 wI z8 P wI.drew := ⟨rangeAt_whole (w := wI.drew) HP8I.out, (Below.refl _ _).drew⟩
          have hLI := HLOG.out.below (hB3.trans ((hBH3.trans (hHI.mono hBH3.size)).mono hB3.size))
          have HLI := Lib.hid hLI
          clear hLI
          (repeat' ((fail_if_success at_builtin); first | go_values | go_skip | go_guarded | go_step | go_upon))
          refine wp_region_noPanic ?_
          refine wp_region_held_drew (S := Hol2 wI z8 P) (by kernel_rfl) ?_ (fun hHeld => ?_)
          · (exact hSP)
          refine wpAnyH_take (i := 0) (oi := _) (v := ?_) rfl (by kernel_rfl) (by kernel_rfl) (by kernel_rfl) (fun _ _ _ h => h) (Or.inl ⟨by rfl, ?_⟩) (by assumption) ?_
          rotate_left 1
          · (intro w hSw; (try dsimp only at hSw); go_simp; all_goals (with_reducible rfl))
          try simp only [Act.put, List.getElem_toArray, List.getElem_cons_zero, List.getElem_cons_succ, List.setIfInBounds_toArray, List.set_cons_zero, List.set_cons_succ]
          refine wpAnyH_take (i := 1) (oi := _) (v := ?_) rfl (by kernel_rfl) (by kernel_rfl) (by kernel_rfl) (fun _ _ _ h => h) (Or.inl ⟨by rfl, ?_⟩) (by assumption) ?_
          rotate_left 1
          · (intro w hSw; (try dsimp only at hSw); go_simp; all_goals (with_reducible rfl))
          try simp only [Act.put, List.getElem_toArray, List.getElem_cons_zero, List.getElem_cons_succ, List.setIfInBounds_toArray, List.set_cons_zero, List.set_cons_succ]
          refine wpAnyH_take (i := 2) (oi := _) (v := ?_) rfl (by kernel_rfl) (by kernel_rfl) (by kernel_rfl) (fun _ _ _ h => h) (Or.inl ⟨by rfl, ?_⟩) (by assumption) ?_
          rotate_left 1
          · (intro w hSw; (try dsimp only at hSw); go_simp; all_goals (with_reducible rfl))
          try simp only [Act.put, List.getElem_toArray, List.getElem_cons_zero, List.getElem_cons_succ, List.setIfInBounds_toArray, List.set_cons_zero, List.set_cons_succ]
          refine wpAnyH_take (i := 3) (oi := _) (v := ?_) rfl (by kernel_rfl) (by kernel_rfl) (by kernel_rfl) (fun _ _ _ h => h) (Or.inl ⟨by rfl, ?_⟩) (by assumption) ?_
          rotate_left 1
          · (intro w hSw; (try dsimp only at hSw); go_simp; all_goals (with_reducible rfl))
          try simp only [Act.put, List.getElem_toArray, List.getElem_cons_zero, List.getElem_cons_succ, List.setIfInBounds_toArray, List.set_cons_zero, List.set_cons_succ]
          refine wpAnyH_take (i := 4) (oi := _) (v := ?_) rfl (by kernel_rfl) (by kernel_rfl) (by kernel_rfl) (fun _ _ _ h => h) (Or.inl ⟨by rfl, ?_⟩) (by assumption) ?_
          rotate_left 1
          · (intro w hSw; (try dsimp only at hSw); go_simp; all_goals (with_reducible rfl))
          try simp only [Act.put, List.getElem_toArray, List.getElem_cons_zero, List.getElem_cons_succ, List.setIfInBounds_toArray, List.set_cons_zero, List.set_cons_succ]
          refine wpAnyH_take (i := 5) (oi := _) (v := ?_) rfl (by kernel_rfl) (by kernel_rfl) (by kernel_rfl) (fun _ _ _ h => h) (Or.inl ⟨by rfl, ?_⟩) (by assumption) ?_
          rotate_left 1
          · (intro w hSw; (try dsimp only at hSw); go_simp; all_goals (with_reducible rfl))
          try simp only [Act.put, List.getElem_toArray, List.getElem_cons_zero, List.getElem_cons_succ, List.setIfInBounds_toArray, List.set_cons_zero, List.set_cons_succ]
          refine wpAnyH_take (i := 6) (oi := _) (v := ?_) rfl (by kernel_rfl) (by kernel_rfl) (by kernel_rfl) (fun _ _ _ h => h) (Or.inl ⟨by rfl, ?_⟩) (by assumption) ?_
          rotate_left 1
          · (intro w hSw; (try dsimp only at hSw); go_simp; all_goals (with_reducible rfl))
          try simp only [Act.put, List.getElem_toArray, List.getElem_cons_zero, List.getElem_cons_succ, List.setIfInBounds_toArray, List.set_cons_zero, List.set_cons_succ]
          refine wpAnyH_take (i := 7) (oi := _) (v := ?_) rfl (by kernel_rfl) (by kernel_rfl) (by kernel_rfl) (fun _ _ _ h => h) (Or.inl ⟨by rfl, ?_⟩) (by assumption) ?_
          rotate_left 1
          · (intro w hSw; (try dsimp only at hSw); go_simp; all_goals (with_reducible rfl))
          try simp only [Act.put, List.getElem_toArray, List.getElem_cons_zero, List.getElem_cons_succ, List.setIfInBounds_toArray, List.set_cons_zero, List.set_cons_succ]
          refine wpAnyH_take (i := 8) (oi := _) (v := ?_) rfl (by kernel_rfl) (by kernel_rfl) (by kernel_rfl) (fun _ _ _ h => h) (Or.inl ⟨by rfl, ?_⟩) (by assumption) ?_
          rotate_left 1
          · (intro w hSw; (try dsimp only at hSw); go_simp; all_goals (with_reducible rfl))
          try simp only [Act.put, List.getElem_toArray, List.getElem_cons_zero, List.getElem_cons_succ, List.setIfInBounds_toArray, List.set_cons_zero, List.set_cons_succ]
          refine wpAnyH_take (i := 9) (oi := _) (v := ?_) rfl (by kernel_rfl) (by kernel_rfl) (by kernel_rfl) (fun _ _ _ h => h) (Or.inl ⟨by rfl, ?_⟩) (by assumption) ?_
          rotate_left 1
          · (intro w hSw; (try dsimp only at hSw); go_simp; all_goals (with_reducible rfl))
          try simp only [Act.put, List.getElem_toArray, List.getElem_cons_zero, List.getElem_cons_succ, List.setIfInBounds_toArray, List.set_cons_zero, List.set_cons_succ]
          refine wpAnyH_take (i := 10) (oi := _) (v := ?_) rfl (by kernel_rfl) (by kernel_rfl) (by kernel_rfl) (fun _ _ _ h => h) (Or.inl ⟨by rfl, ?_⟩) (by assumption) ?_
          rotate_left 1
          · (intro w hSw; (try dsimp only at hSw); go_simp; all_goals (with_reducible rfl))
          try simp only [Act.put, List.getElem_toArray, List.getElem_cons_zero, List.getElem_cons_succ, List.setIfInBounds_toArray, List.set_cons_zero, List.set_cons_succ]
          refine wpAnyH_take (i := 11) (oi := _) (v := ?_) rfl (by kernel_rfl) (by kernel_rfl) (by kernel_rfl) (fun _ _ _ h => h) (Or.inl ⟨by rfl, ?_⟩) (by assumption) ?_
          rotate_left 1
          · (intro w hSw; (try dsimp only at hSw); go_simp; all_goals (with_reducible rfl))
          try simp only [Act.put, List.getElem_toArray, List.getElem_cons_zero, List.getElem_cons_succ, List.setIfInBounds_toArray, List.set_cons_zero, List.set_cons_succ]
          refine wpAnyH_take (i := 12) (oi := _) (v := ?_) rfl (by kernel_rfl) (by kernel_rfl) (by kernel_rfl) (fun _ _ _ h => h) (Or.inl ⟨by rfl, ?_⟩) (by assumption) ?_
          rotate_left 1
          · (intro w hSw; (try dsimp only at hSw); go_simp; all_goals (with_reducible rfl))
          try simp only [Act.put, List.getElem_toArray, List.getElem_cons_zero, List.getElem_cons_succ, List.setIfInBounds_toArray, List.set_cons_zero, List.set_cons_succ]
          refine wpAnyH_take (i := 13) (oi := _) (v := ?_) rfl (by kernel_rfl) (by kernel_rfl) (by kernel_rfl) (fun _ _ _ h => h) (Or.inl ⟨by rfl, ?_⟩) (by assumption) ?_
          rotate_left 1
          · (intro w hSw; (try dsimp only at hSw); go_simp; all_goals (with_reducible rfl))
          try simp only [Act.put, List.getElem_toArray, List.getElem_cons_zero, List.getElem_cons_succ, List.setIfInBounds_toArray, List.set_cons_zero, List.set_cons_succ]
          refine wpAnyH_take (i := 14) (oi := _) (v := ?_) rfl (by kernel_rfl) (by kernel_rfl) (by kernel_rfl) (fun _ _ _ h => h) (Or.inl ⟨by rfl, ?_⟩) (by assumption) ?_
          rotate_left 1
          · (intro w hSw; (try dsimp only at hSw); go_simp; all_goals (with_reducible rfl))
          try simp only [Act.put, List.getElem_toArray, List.getElem_cons_zero, List.getElem_cons_succ, List.setIfInBounds_toArray, List.set_cons_zero, List.set_cons_succ]
          refine wpAnyH_take (i := 15) (oi := _) (v := ?_) rfl (by kernel_rfl) (by kernel_rfl) (by kernel_rfl) (fun _ _ _ h => h) (Or.inl ⟨by rfl, ?_⟩) (by assumption) ?_
          rotate_left 1
          · (intro w hSw; (try dsimp only at hSw); go_simp; all_goals (with_reducible rfl))
          try simp only [Act.put, List.getElem_toArray, List.getElem_cons_zero, List.getElem_cons_succ, List.setIfInBounds_toArray, List.set_cons_zero, List.set_cons_succ]
          refine' wpAnyH_take (i := 17) (oi := _) (v := _) rfl (by kernel_rfl) (by kernel_rfl) (by kernel_rfl) (fun _ _ _ h => h) (yieldsIf_load_mid (by rfl) _ _ rfl _ _ rfl _ _ ?ls13 ?lu13 ?ld13 ?li13) (by assumption) ?lr13
          case ls13 => (intro w hSw; (try dsimp only at hSw); go_split_ands; assumption)
          case lu13 => assumption
          case ld13 => rfl
          case li13 => first | assumption | (simp only [*]; done)
          try simp only [Act.put, List.getElem_toArray, List.getElem_cons_zero, List.getElem_cons_succ, List.setIfInBounds_toArray, List.set_cons_zero, List.set_cons_succ]
          refine wpAnyH_ready (rs := [16]) (by kernel_rfl) (by simp) ?_
          refine AllReadyH.cons (o := _) rfl (fun K hK => ?_) ?_
          rotate_left 1
          · exact AllReadyH.nil
          go_simp
          go_at_call 73
          refine (auditHead S g xs.length f annBA P _ (HLI.out.below hHeld.2) annBA_le (by omega) HHP.out).mono ?_
          rintro _ wJ ⟨rfl, hBJ2⟩
          dsimp only
          refine hK.out _ _ ?_ (fun hHeld => ?_)
          · (apply hol2_below; assumption; assumption)
          clear hK K
          try simp only [Act.put, List.getElem_toArray, List.getElem_cons_zero, List.getElem_cons_succ, List.setIfInBounds_toArray, List.set_cons_zero, List.set_cons_succ]
          refine wpAnyH_take (i := 18) (oi := _) (v := ?_) rfl (by kernel_rfl) (by kernel_rfl) (by kernel_rfl) (fun _ _ _ h => h) (Or.inl ⟨by rfl, ?_⟩) (by assumption) ?_
          rotate_left 1
          · (intro w hSw; (try dsimp only at hSw); go_simp; all_goals (with_reducible rfl))
          try simp only [Act.put, List.getElem_toArray, List.getElem_cons_zero, List.getElem_cons_succ, List.setIfInBounds_toArray, List.set_cons_zero, List.set_cons_succ]
          refine wpAnyH_take (i := 19) (oi := _) (v := ?_) rfl (by kernel_rfl) (by kernel_rfl) (by kernel_rfl) (fun _ _ _ h => h) (Or.inl ⟨by rfl, ?_⟩) (by assumption) ?_
          rotate_left 1
          · (intro w hSw; (try dsimp only at hSw); go_simp; all_goals (with_reducible rfl))
          try simp only [Act.put, List.getElem_toArray, List.getElem_cons_zero, List.getElem_cons_succ, List.setIfInBounds_toArray, List.set_cons_zero, List.set_cons_succ]
          refine wpAnyH_done (by kernel_rfl) ?_ _
          refine NoPanic.normal ?_
          have hHJ := hHI.trans (hHeld.2.mono hHI.size)
          have hgJ := (hHJ.block z13 hz13).trans HG13.out
          clear hHeld hSP hBJ2 hneqP HGI HP8I HLI
          obtain ⟨q0, qt, hqq⟩ : ∃ q0 qt, Q = q0 :: qt := by
            match Q, HQL.out with
            | q0 :: qt, _ => exact ⟨q0, qt, rfl⟩
          have c0 : wJ.cell? ⟨z13, 0, none⟩ = some (.int .u8 (q0.toNat : Int)) := cell_of_row wJ z13 0 _ _ _ (by rw [hqq] at hgJ; exact hgJ)
          have f0 := frozen_of_row wJ z13 0 _ _ hgJ
          have hx1 := xor_one q0
          have HGJ := Lib.hid hgJ
          clear hgJ
          (repeat' ((fail_if_success at_builtin); first | go_values | go_skip | go_guarded | go_step | go_upon))
          obtain ⟨wK, hwK⟩ : ∃ wK, wJ.setCell ⟨z13, 0, none⟩ (.int .u8 ((xor1 q0).toNat : Int)) = wK := ⟨_, rfl⟩
          rw [hwK]
          have hgK : wK.heap[z13]? = some (.cells (bvs (flip0 Q)).toArray 26 (0, 0)) := by
            rw [← hwK, row_set HGJ.out, List.setIfInBounds_toArray, hqq]; rfl
          have hHJ13 : Below z13 wD wJ := hHJ.mono (by omega)
          have hBHK : Below z13 wD wK := by rw [← hwK]; exact hHJ13.setCell (Nat.le_refl _) _
          have hBK3 : Below w3.heap.size w3 wK := hBH3.trans (hBHK.mono hz13l)
          have hBK0 : Below w0.heap.size w0 wK := hB03.trans (hBK3.mono hB03.size)
          have hTb : ∀ wx, Below wK.heap.size wK wx → Tabs wx := fun wx h => HT0.out.below (hBK0.trans (h.mono hBK0.size)) hts0
          have HTB2 := Lib.hid hTb
          have hRM : ∀ wx, Below wK.heap.size wK wx → RdC wx a3 ((rs.take M).flatMap Ent.cells) := fun wx h => by
            rw [ents_take rs M HRSUM.out]
            exact rdc_take (HR3.out.below (hBK3.trans (h.mono hBK3.size)) (Nat.le_refl _)) _
          have HRM2 := Lib.hid hRM
          obtain ⟨Q', hQ'⟩ : ∃ Q', flip0 Q = Q' := ⟨_, rfl⟩
          have hQl' : Q'.length = 32 := by rw [← hQ', flip0_length]; exact HQL.out
          have HQL2 := Lib.hid hQl'
          have hvQ2 := HVN.out M (by omega) Q' (by rw [HQ.out, ← hQ']; exact flip0_ne HQL.out)
          have HVQ2 := Lib.hid hvQ2
          rw [hQ'] at hgK
          have hiQ2 : (Tryd.prog.info? 26).map (·.size) = some (bvs Q').length := by rw [bvs_length, hQl']; exact sizeSum
          have hS2 : Hol2 wK z13 Q' wK.drew := ⟨rangeAt_whole (w := wK.drew) hgK, (Below.refl _ _).drew⟩
          clear hTb hRM hvQ2 hgK hwK c0 f0 hx1 hQl' hqq hQ' HGJ
          refine wp_region_noPanic ?_
          refine wp_region_held_drew (S := Hol2 wK z13 Q') (by kernel_rfl) ?_ (fun hHeld => ?_)
          · (exact hS2)
          refine wpAnyH_take (i := 0) (oi := _) (v := ?_) rfl (by kernel_rfl) (by kernel_rfl) (by kernel_rfl) (fun _ _ _ h => h) (Or.inl ⟨by rfl, ?_⟩) (by assumption) ?_
          rotate_left 1
          · (intro w hSw; (try dsimp only at hSw); go_simp; all_goals (with_reducible rfl))
          try simp only [Act.put, List.getElem_toArray, List.getElem_cons_zero, List.getElem_cons_succ, List.setIfInBounds_toArray, List.set_cons_zero, List.set_cons_succ]
          refine wpAnyH_take (i := 1) (oi := _) (v := ?_) rfl (by kernel_rfl) (by kernel_rfl) (by kernel_rfl) (fun _ _ _ h => h) (Or.inl ⟨by rfl, ?_⟩) (by assumption) ?_
          rotate_left 1
          · (intro w hSw; (try dsimp only at hSw); go_simp; all_goals (with_reducible rfl))
          try simp only [Act.put, List.getElem_toArray, List.getElem_cons_zero, List.getElem_cons_succ, List.setIfInBounds_toArray, List.set_cons_zero, List.set_cons_succ]
          refine wpAnyH_take (i := 2) (oi := _) (v := ?_) rfl (by kernel_rfl) (by kernel_rfl) (by kernel_rfl) (fun _ _ _ h => h) (Or.inl ⟨by rfl, ?_⟩) (by assumption) ?_
          rotate_left 1
          · (intro w hSw; (try dsimp only at hSw); go_simp; all_goals (with_reducible rfl))
          try simp only [Act.put, List.getElem_toArray, List.getElem_cons_zero, List.getElem_cons_succ, List.setIfInBounds_toArray, List.set_cons_zero, List.set_cons_succ]
          refine' wpAnyH_take (i := 3) (oi := _) (v := _) rfl (by kernel_rfl) (by kernel_rfl) (by kernel_rfl) (fun _ _ _ h => h) (yieldsIf_load_mid (by rfl) _ _ rfl _ _ rfl _ _ ?ls14 ?lu14 ?ld14 ?li14) (by assumption) ?lr14
          case ls14 => (intro w hSw; (try dsimp only at hSw); go_split_ands; assumption)
          case lu14 => assumption
          case ld14 => rfl
          case li14 => first | assumption | (simp only [*]; done)
          try simp only [Act.put, List.getElem_toArray, List.getElem_cons_zero, List.getElem_cons_succ, List.setIfInBounds_toArray, List.set_cons_zero, List.set_cons_succ]
          refine wpAnyH_ready (rs := [4]) (by kernel_rfl) (by simp) ?_
          refine AllReadyH.cons (o := _) rfl (fun K hK => ?_) ?_
          rotate_left 1
          · exact AllReadyH.nil
          go_simp
          go_at_call 68
          refine (auditVerify a3 M c3 (rs.take M) Q' (M+1) 24 _ HVQ2.out (HTB2.out _ hHeld.2) (HRM2.out _ hHeld.2) HFM.out HML.out (by omega) (by omega) HQL2.out).mono ?_
          rintro _ wL ⟨rfl, hBL2⟩
          dsimp only
          rw [show ((M + 1 : Nat) : Int) = (M : Int) + 1 from rfl]
          refine hK.out _ _ ?_ (fun hHeld => ?_)
          · (apply hol2_below; assumption; assumption)
          clear hK K
          try simp only [Act.put, List.getElem_toArray, List.getElem_cons_zero, List.getElem_cons_succ, List.setIfInBounds_toArray, List.set_cons_zero, List.set_cons_succ]
          refine wpAnyH_take (i := 5) (oi := _) (v := ?_) rfl (by kernel_rfl) (by kernel_rfl) (by kernel_rfl) (fun _ _ _ h => h) (Or.inl ⟨by rfl, ?_⟩) (by assumption) ?_
          rotate_left 1
          · (intro w hSw; (try dsimp only at hSw); go_simp; all_goals (with_reducible rfl))
          try simp only [Act.put, List.getElem_toArray, List.getElem_cons_zero, List.getElem_cons_succ, List.setIfInBounds_toArray, List.set_cons_zero, List.set_cons_succ]
          refine wpAnyH_take (i := 6) (oi := _) (v := ?_) rfl (by kernel_rfl) (by kernel_rfl) (by kernel_rfl) (fun _ _ _ h => h) (Or.inl ⟨by rfl, ?_⟩) (by assumption) ?_
          rotate_left 1
          · (intro w hSw; (try dsimp only at hSw); go_simp; all_goals (with_reducible rfl))
          try simp only [Act.put, List.getElem_toArray, List.getElem_cons_zero, List.getElem_cons_succ, List.setIfInBounds_toArray, List.set_cons_zero, List.set_cons_succ]
          refine wpAnyH_take (i := 7) (oi := _) (v := ?_) rfl (by kernel_rfl) (by kernel_rfl) (by kernel_rfl) (fun _ _ _ h => h) (Or.inl ⟨by rfl, ?_⟩) (by assumption) ?_
          rotate_left 1
          · (intro w hSw; (try dsimp only at hSw); go_simp; all_goals (with_reducible rfl))
          try simp only [Act.put, List.getElem_toArray, List.getElem_cons_zero, List.getElem_cons_succ, List.setIfInBounds_toArray, List.set_cons_zero, List.set_cons_succ]
          refine wpAnyH_take (i := 8) (oi := _) (v := ?_) rfl (by kernel_rfl) (by kernel_rfl) (by kernel_rfl) (fun _ _ _ h => h) (Or.inl ⟨by rfl, ?_⟩) (by assumption) ?_
          rotate_left 1
          · (intro w hSw; (try dsimp only at hSw); go_simp; all_goals (with_reducible rfl))
          try simp only [Act.put, List.getElem_toArray, List.getElem_cons_zero, List.getElem_cons_succ, List.setIfInBounds_toArray, List.set_cons_zero, List.set_cons_succ]
          refine wpAnyH_take (i := 9) (oi := _) (v := ?_) rfl (by kernel_rfl) (by kernel_rfl) (by kernel_rfl) (fun _ _ _ h => h) (Or.inl ⟨by rfl, ?_⟩) (by assumption) ?_
          rotate_left 1
          · (intro w hSw; (try dsimp only at hSw); go_simp; all_goals (with_reducible rfl))
          try simp only [Act.put, List.getElem_toArray, List.getElem_cons_zero, List.getElem_cons_succ, List.setIfInBounds_toArray, List.set_cons_zero, List.set_cons_succ]
          refine wpAnyH_done (by kernel_rfl) ?_ _
          refine NoPanic.normal ?_
          have hHL := hHeld.2
          have hTL := HTB2.out _ hHL
          have hB0L : Below w0.heap.size w0 wL := hBK0.trans (hHL.mono hBK0.size)
          have tq : ((M : Int) + 1 == (M : Int) + 1) = true := by simp
          clear hHeld hS2 hBL2
          (repeat' ((fail_if_success at_builtin); first | go_values | go_skip | go_guarded | go_step | go_upon))
          refine (works21 wL hTL).mono ?_
          rintro _ wM ⟨rfl, hBM⟩
          dsimp only
          (repeat' ((fail_if_success at_builtin); first | go_values | go_skip | go_guarded | go_step | go_upon))
          go_ret
          exact ⟨rfl, hB0.trans ((hB0L.trans (hBM.mono hB0L.size)).mono hB0.size)⟩

end Go.Proofs.YtdpfemhfmofmlaaDoor
