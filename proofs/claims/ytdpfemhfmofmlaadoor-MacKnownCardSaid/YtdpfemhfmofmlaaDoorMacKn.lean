/- The law MacKnown, walked. -/
import Derived.Test.YtdpfemhfmofmlaaDoorMacR
namespace Go.Proofs.YtdpfemhfmofmlaaDoor
set_option linter.unusedSimpArgs false
open Go.RowKit
set_option maxRecDepth 10000

theorem macOfRow (w : World) (a : Option Addr) (n c : Nat) (k t H : List UInt8) (cs : Array Value) (fr : Nat × Nat) (n2 : Nat) (hH : hmac k t = H) (hT : Tabs w) (hr : RdB w a k) (e1 : k.length = n) (hc : n ≤ c) (ht : (bvs t).toArray = cs) (e2 : t.length = n2) (b1 : n ≤ 200000000) (b2 : n2 ≤ 100000000) :
    Calls Tryd.prog 39 #[.slice a n c, .slice (some ⟨w.heap.size, 0, none⟩) n2 n2] (w.alloc (.cells cs 5 fr)) fun e w' => e = .returned (.agg (bvs H).toArray) ∧ Below w.heap.size w w' := by
  subst ht
  have hB1 : Below w.heap.size w (w.alloc (.cells (bvs t).toArray 5 fr)) := (Below.refl w.heap.size w).alloc (Nat.le_refl _) _
  refine (macOf _ _ n n2 c n2 k t H _ hH (hT.below hB1 hT.size) (hr.alloc _) (rdb_newF w t _ fr) e1 e2 hc (Nat.le_refl _) b1 b2).mono fun e w' ⟨he, hb⟩ => ⟨he, hB1.trans (hb.mono hB1.size)⟩

def oneD : List UInt8 := List.replicate 31 0 ++ [1]
theorem one_set : (List.replicate 32 (Value.int .u8 0)).toArray.setIfInBounds 31 (.int .u8 1) = (bvs oneD).toArray := by kernel_rfl

abbrev KS (w : World) (z1 z2 z3 : Nat) (w' : World) : Prop := (w'.rangeAt z1 0 (bvs hiD) ∧ w'.rangeAt z2 0 (bvs bigD) ∧ w'.rangeAt z3 0 (bvs oneD)) ∧ (Tabs w' ∧ Below w.heap.size w w')
theorem ks_below {w w1 w2 : World} {z1 z2 z3 : Nat} (hb : Below w1.heap.size w1 w2) (h : KS w z1 z2 z3 w1) : KS w z1 z2 z3 w2 :=
  ⟨⟨rangeAt_below h.1.1 hb (Nat.le_refl _), rangeAt_below h.1.2.1 hb (Nat.le_refl _), rangeAt_below h.1.2.2 hb (Nat.le_refl _)⟩, h.2.1.below hb h.2.1.size, h.2.2.trans (hb.mono h.2.2.size)⟩
theorem ks_drew {w w1 : World} {z1 z2 z3 : Nat} (h : KS w z1 z2 z3 w1) : KS w z1 z2 z3 w1.drew := ks_below ((Below.refl w1.heap.size w1).drew) h

/-- 'make([]byte, n)' at a step of a statement that draws its order. -/
theorem step_make0 {P : Program} {w : World} {ops : Array Oper} {o : Oper} {a : Act} {K : Act → World → Prop} {Q : Exit → Act → World → Prop} {E : Prop} (hw : Region.wanted o (yielded ops a.tmps) = true) (l c : Operand) (t e : TypeId) (hop : o.op = Op.makeSlice t l c)
    (ht : P.underlying t = some (.slice e)) (hinfo : (P.info? e).map (fun i => (i.zero, i.size, i.bytes)) = some (some (.int .u8 0), 1, 1)) (n : Nat) (hl : a.eval l = .int .i64 (n : Int)) (hc : a.eval c = .int .i64 (n : Int)) (hn : n ≤ 1073741824)
    (h : ∀ w1, RdB w1 (some ⟨w.heap.size, 0, none⟩) (List.replicate n 0) → Below w.heap.size w w1 → K (a.put o.dst (.slice (some ⟨w.heap.size, 0, none⟩) n n)) w1) :
    if Region.wanted o (yielded ops a.tmps) = true then Oper.wp P o a w K Q else E := by
  rw [if_pos hw]
  obtain ⟨i, hi, hz, hs, hb⟩ := info_parts hinfo
  have hrun := run_make_row (P := P) t e i (.int .u8 0) ht hi hz hs rfl .i64 .i64 n (by rw [hb]; omega) (by omega) w
  have e : madeCells #[Value.int .u8 0] n = (bvs (List.replicate n 0)).toArray := by
    apply Array.ext_getElem?
    intro j
    by_cases hj : j < n
    · simp [madeCells, bvs, bv, hj, Nat.mod_one]
    · simp [madeCells, bvs, bv, hj]
  rw [e] at hrun
  unfold Oper.wp
  simp [execOp, hop, hl, hc, hrun, Result.andThen]
  exact h _ (rdb_new w _ _) ((Below.refl _ _).alloc (Nat.le_refl _) _)

set_option maxHeartbeats 4000000 in
theorem macKnown_walk (w : World) (hT : Tabs w) :
    Calls Tryd.prog 9 #[] w fun e w' => e = .returned (.bool true) ∧ Below w.heap.size w w' := by
  obtain ⟨iS, zS, hiS, hzS, hcS⟩ := fresh_parts zeroSum
  have HIS := Lib.hid hiS; clear hiS
  have HZS := Lib.hid hzS; clear hzS
  have HCS := Lib.hid hcS; clear hcS
  have hts := hT.size
  have HT := Lib.hid hT; clear hT
  have kc := fun (w : World) (C : Array Value) (n c : Nat) => Lib.run_convert_bytes_const (P := Tryd.prog) w 22 5 C n c Tryd.underlying22 Tryd.underlying5
  have HI1 := Lib.hid (show (Tryd.prog.info? 26).map (·.size) = some (bvs hiD).length by exact sizeSum)
  have HI2 := Lib.hid (show (Tryd.prog.info? 26).map (·.size) = some (bvs bigD).length by exact sizeSum)
  have HI3 := Lib.hid (show (Tryd.prog.info? 26).map (·.size) = some (bvs oneD).length by exact sizeSum)
  have HF1 := Lib.hid (show 0 + (bvs hiD).length ≤ (List.replicate 32 (Value.int .u8 0)).toArray.size by exact Nat.le_refl 32)
  have HF2 := Lib.hid (show 0 + (bvs bigD).length ≤ (List.replicate 32 (Value.int .u8 0)).toArray.size by exact Nat.le_refl 32)
  have HO1 := Lib.hid (bvs_oneCell hiD)
  have HO2 := Lib.hid (bvs_oneCell bigD)
  obtain ⟨H, hH⟩ : ∃ H, hmac [] [] = H := ⟨_, rfl⟩
  have hH2 : hmac (List.replicate 64 0) [] = H := hmac_none.trans hH
  have heqH := fun w => eqSumSame H (by rw [← hH]; exact hmac_length _ _) w
  have HEQ := Lib.hid heqH; clear heqH
  have HH := Lib.hid hH; clear hH
  have HH2 := Lib.hid hH2; clear hH2
  go_enter Tryd.func9, Tryd.ntmps9
  (repeat' ((fail_if_success at_builtin); first | go_values | go_skip | go_guarded | go_step | go_upon))
  refine (macRow 20 11 20 11 w rfl rfl (by decide)).mono ?_
  rintro _ w1 ⟨rfl, hr1, hB1⟩
  dsimp only
  have HR1 := Lib.hid hr1; clear hr1
  (repeat' ((fail_if_success at_builtin); first | go_values | go_skip | go_guarded | go_step | go_upon))
  refine (macOfRow w1 _ 20 20 (List.replicate 20 11) hiT hiD _ _ 8 hmac_hi (HT.out.below hB1 hts) HR1.out (by rfl) (Nat.le_refl _) (by kernel_rfl) rfl (by decide) (by decide)).mono ?_
  rintro _ w2 ⟨rfl, hB2⟩
  dsimp only
  have hB02 : Below w.heap.size w w2 := hB1.trans (hB2.mono hB1.size)
  (repeat' ((fail_if_success at_builtin); first | (first | ((with_reducible refine wpList_alloc_fresh (w := w2) rfl 26 rfl _ iS zS HIS.out HZS.out HCS.out ?_); intro w3 hg3 hB3 hs3; have HG3 := Lib.hid hg3; clear hg3; have HS3 := Lib.hid hs3; clear hs3) | ((with_reducible refine wpList_store_blk rfl 26 _ _ rfl w2.heap.size 0 (bvs hiD) rfl rfl _ _ HG3.out HF1.out HI1.out HO1.out ?_); intro w4 hg4 hG4; rw [splice_whole _ _ (by rfl)] at hg4; have HA4 := Lib.hid (rangeAt_whole hg4); have HG4 := Lib.hid hg4; clear hg4)) | go_values | go_skip | go_guarded | go_step | go_upon))
  have hB24 : Below w2.heap.size w2 w4 := hB3.grown hG4 (by have := HS3.out; omega) (fun k e => by cases e; exact Nat.le_refl _)
  have hB04 : Below w.heap.size w w4 := hB02.trans (hB24.mono hB02.size)
  refine (macRow 131 170 131 170 w4 rfl rfl (by decide)).mono ?_
  rintro _ w5 ⟨rfl, hr5, hB5⟩
  dsimp only
  have HR5 := Lib.hid hr5; clear hr5
  have hB05 : Below w.heap.size w w5 := hB04.trans (hB5.mono hB04.size)
  (repeat' ((fail_if_success at_builtin); first | go_values | go_skip | go_guarded | go_step | go_upon))
  refine (macOfRow w5 _ 131 131 (List.replicate 131 170) bigT bigD _ _ 54 hmac_big (HT.out.below hB05 hts) HR5.out (by rfl) (Nat.le_refl _) (by kernel_rfl) rfl (by decide) (by decide)).mono ?_
  rintro _ w6 ⟨rfl, hB6⟩
  dsimp only
  have hB06 : Below w.heap.size w w6 := hB05.trans (hB6.mono hB05.size)
  have hB46 : Below w4.heap.size w4 w6 := hB5.trans (hB6.mono hB5.size)
  have HA6 := Lib.hid (rangeAt_below HA4.out hB46 (Nat.le_refl _))
  (repeat' ((fail_if_success at_builtin); (fail_if_success (show wpList _ _ _ ({ dst := some 12, op := _, type := _, pos := _, after := _, guard := _ } :: _) _ _)); first | (first | ((with_reducible refine wpList_alloc_fresh (w := w6) rfl 26 rfl _ iS zS HIS.out HZS.out HCS.out ?_); intro w7 hg7 hB7 hs7; have HG7 := Lib.hid hg7; clear hg7; have HS7 := Lib.hid hs7; clear hs7) | ((with_reducible refine wpList_store_blk rfl 26 _ _ rfl w6.heap.size 0 (bvs bigD) rfl rfl _ _ HG7.out HF2.out HI2.out HO2.out ?_); intro w8 hg8 hG8; rw [splice_whole _ _ (by rfl)] at hg8; have HA8 := Lib.hid (rangeAt_whole hg8); have HG8 := Lib.hid hg8; clear hg8) | ((with_reducible refine wpList_alloc_fresh (w := w8) rfl 26 rfl _ iS zS HIS.out HZS.out HCS.out ?_); intro w9 hg9 hB9 hs9; have HG9 := Lib.hid hg9; clear hg9)) | go_values | go_skip | go_guarded | go_step | go_upon))
  have hB68 : Below w6.heap.size w6 w8 := hB7.grown hG8 (by have := HS7.out; omega) (fun k e => by cases e; exact Nat.le_refl _)
  have hB69 : Below w6.heap.size w6 w9 := hB68.trans (hB9.mono hB68.size)
  have hc9 : w9.cell? ⟨w8.heap.size, 31, none⟩ = some (.int .u8 0) := by rw [cell_of_row w9 _ 31 _ _ _ HG9.out]; rfl
  have hf9 := frozen_of_row w9 w8.heap.size 31 _ _ HG9.out
  have hks : ∀ wx, wx = w9.setCell ⟨w8.heap.size, 31, none⟩ (.int .u8 1) → KS w w2.heap.size w6.heap.size w8.heap.size wx.drew := by
    rintro _ rfl
    have hb : Below w8.heap.size w8 (w9.setCell ⟨w8.heap.size, 31, none⟩ (.int .u8 1)) := hB9.setCell (Nat.le_refl w8.heap.size) _
    have hb6 : Below w6.heap.size w6 (w9.setCell ⟨w8.heap.size, 31, none⟩ (.int .u8 1)) := hB68.trans (hb.mono hB68.size)
    have hb0 : Below w.heap.size w (w9.setCell ⟨w8.heap.size, 31, none⟩ (.int .u8 1)) := hB06.trans (hb6.mono hB06.size)
    have h3 := row_set HG9.out 31 (.int .u8 1)
    rw [one_set] at h3
    exact ks_drew ⟨⟨rangeAt_below HA6.out hb6 (Nat.le_refl _), rangeAt_below HA8.out hb (Nat.le_refl _), rangeAt_whole h3⟩, HT.out.below hb0 hts, hb0⟩
  have HKS := Lib.hid hks; clear hks
  clear HG3 HS3 HG4 HA4 HG7 HS7 HG8 HG9
  (repeat' ((fail_if_success at_builtin); first | go_values | go_skip | go_guarded | go_step | go_upon))
  have hks := HKS.out _ rfl
  have heqH := HEQ.out
  have hu26 : Tryd.prog.underlying 26 = some _ := Tryd.underlying26
  have hi1 := HI1.out
  have hi2 := HI2.out
  have hi3 := HI3.out
  refine wp_region_noPanic ?_
  refine wp_region_held_drew (S := KS w w2.heap.size w6.heap.size w8.heap.size) (by kernel_rfl) ?_ (fun hHeld => ?_)
  · (assumption)
  refine' wpAnyH_take (i := 0) (oi := _) (v := _) rfl (by kernel_rfl) (by kernel_rfl) (by kernel_rfl) (fun _ _ _ h => h) (yieldsIf_load_mid (by rfl) _ _ rfl _ _ rfl _ _ ?ls1 ?lu1 ?ld1 ?li1) (by assumption) ?lr1
  case ls1 => (intro w hSw; (try dsimp only at hSw); go_split_ands; assumption)
  case lu1 => assumption
  case ld1 => rfl
  case li1 => first | assumption | (simp only [*]; done)
  try simp only [Act.put, List.setIfInBounds_toArray, List.set_cons_zero, List.set_cons_succ]
  refine wpAnyH_ready (rs := [1]) (by kernel_rfl) (by simp) ?_
  refine AllReadyH.cons (o := _) rfl (fun K hK => ?_) ?_
  rotate_left 1
  · exact AllReadyH.nil
  go_simp
  go_at_call 41
  refine (begins_hi _).mono ?_
  rintro _ wA ⟨rfl, hBA⟩
  dsimp only
  refine hK.out _ _ ?_ (fun hHeld => ?_)
  · (apply ks_below; assumption; assumption)
  clear hK K
  try simp only [Act.put, List.setIfInBounds_toArray, List.set_cons_zero, List.set_cons_succ]
  refine wpAnyH_take (i := 2) (oi := _) (v := ?_) rfl (by kernel_rfl) (by kernel_rfl) (by kernel_rfl) (fun _ _ _ h => h) (Or.inl ⟨by rfl, ?_⟩) (by assumption) ?_
  rotate_left 1
  · (intro w hSw; (try dsimp only at hSw); go_simp; all_goals (with_reducible rfl))
  try simp only [Act.put, List.setIfInBounds_toArray, List.set_cons_zero, List.set_cons_succ]
  refine' wpAnyH_take (i := 3) (oi := _) (v := _) rfl (by kernel_rfl) (by kernel_rfl) (by kernel_rfl) (fun _ _ _ h => h) (yieldsIf_load_mid (by rfl) _ _ rfl _ _ rfl _ _ ?ls2 ?lu2 ?ld2 ?li2) (by assumption) ?lr2
  case ls2 => (intro w hSw; (try dsimp only at hSw); go_split_ands; assumption)
  case lu2 => assumption
  case ld2 => rfl
  case li2 => first | assumption | (simp only [*]; done)
  try simp only [Act.put, List.setIfInBounds_toArray, List.set_cons_zero, List.set_cons_succ]
  refine wpAnyH_ready (rs := [4]) (by kernel_rfl) (by simp) ?_
  refine AllReadyH.cons (o := _) rfl (fun K hK => ?_) ?_
  rotate_left 1
  · exact AllReadyH.nil
  go_simp
  go_at_call 41
  refine (begins_big _).mono ?_
  rintro _ wB ⟨rfl, hBB⟩
  dsimp only
  refine hK.out _ _ ?_ (fun hHeld => ?_)
  · (apply ks_below; assumption; assumption)
  clear hK K
  try simp only [Act.put, List.setIfInBounds_toArray, List.set_cons_zero, List.set_cons_succ]
  refine wpAnyH_take (i := 5) (oi := _) (v := ?_) rfl (by kernel_rfl) (by kernel_rfl) (by kernel_rfl) (fun _ _ _ h => h) (Or.inl ⟨by rfl, ?_⟩) (by assumption) ?_
  rotate_left 1
  · (intro w hSw; (try dsimp only at hSw); go_simp; all_goals (with_reducible rfl))
  try simp only [Act.put, List.setIfInBounds_toArray, List.set_cons_zero, List.set_cons_succ]
  refine wpAnyH_take (i := 6) (oi := _) (v := ?_) rfl (by kernel_rfl) (by kernel_rfl) (by kernel_rfl) (fun _ _ _ h => h) (Or.inl ⟨by rfl, ?_⟩) (by assumption) ?_
  rotate_left 1
  · (intro w hSw; (try dsimp only at hSw); go_simp; all_goals (with_reducible rfl))
  try simp only [Act.put, List.setIfInBounds_toArray, List.set_cons_zero, List.set_cons_succ]
  refine' wpAnyH_take (i := 7) (oi := _) (v := _) rfl (by kernel_rfl) (by kernel_rfl) (by kernel_rfl) (fun _ _ _ h => h) (yieldsIf_load_mid (by rfl) _ _ rfl _ _ rfl _ _ ?ls3 ?lu3 ?ld3 ?li3) (by assumption) ?lr3
  case ls3 => (intro w hSw; (try dsimp only at hSw); go_split_ands; assumption)
  case lu3 => assumption
  case ld3 => rfl
  case li3 => first | assumption | (simp only [*]; done)
  try simp only [Act.put, List.setIfInBounds_toArray, List.set_cons_zero, List.set_cons_succ]
  refine wpAnyH_take (i := 8) (oi := _) (v := ?_) rfl (by kernel_rfl) (by kernel_rfl) (by kernel_rfl) (fun _ _ _ h => h) (Or.inl ⟨by rfl, ?_⟩) (by assumption) ?_
  rotate_left 1
  · (intro w hSw; (try dsimp only at hSw); go_simp; all_goals (with_reducible rfl))
  try simp only [Act.put, List.setIfInBounds_toArray, List.set_cons_zero, List.set_cons_succ]
  refine wpAnyH_ready (rs := [9]) (by kernel_rfl) (by simp) ?_
  refine AllReadyH.cons (o := _) rfl (fun K hK => ?_) ?_
  rotate_left 1
  · exact AllReadyH.nil
  go_simp
  go_at_call 37
  refine (macSame oneD none32 _ rfl rfl).mono ?_
  rintro _ wC ⟨rfl, hBC⟩
  dsimp only
  rw [show (oneD == none32) = false by decide]
  refine hK.out _ _ ?_ (fun hHeld => ?_)
  · (apply ks_below; assumption; assumption)
  clear hK K
  try simp only [Act.put, List.setIfInBounds_toArray, List.set_cons_zero, List.set_cons_succ]
  refine wpAnyH_take (i := 10) (oi := _) (v := ?_) rfl (by kernel_rfl) (by kernel_rfl) (by kernel_rfl) (fun _ _ _ h => h) (Or.inl ⟨by rfl, ?_⟩) (by assumption) ?_
  rotate_left 1
  · (intro w hSw; (try dsimp only at hSw); go_simp; all_goals (with_reducible rfl))
  try simp only [Act.put, List.setIfInBounds_toArray, List.set_cons_zero, List.set_cons_succ]
  refine wpAnyH_take (i := 11) (oi := _) (v := ?_) rfl (by kernel_rfl) (by kernel_rfl) (by kernel_rfl) (fun _ _ _ h => h) (Or.inl ⟨by rfl, ?_⟩) (by assumption) ?_
  rotate_left 1
  · (intro w hSw; (try dsimp only at hSw); go_simp; all_goals (with_reducible rfl))
  try simp only [Act.put, List.setIfInBounds_toArray, List.set_cons_zero, List.set_cons_succ]
  refine wpAnyH_take (i := 12) (oi := _) (v := ?_) rfl (by kernel_rfl) (by kernel_rfl) (by kernel_rfl) (fun _ _ _ h => h) (Or.inl ⟨by rfl, ?_⟩) (by assumption) ?_
  rotate_left 1
  · (intro w hSw; (try dsimp only at hSw); go_simp; all_goals (with_reducible rfl))
  try simp only [Act.put, List.setIfInBounds_toArray, List.set_cons_zero, List.set_cons_succ]
  refine wpAnyH_ready (rs := [13, 14]) (by kernel_rfl) (by simp) ?_
  refine AllReadyH.cons (o := _) rfl (fun K hK => ?_) ?_
  rotate_left 1
  · refine AllReadyH.cons (o := _) rfl (fun K hK => ?_) ?_
    rotate_left 1
    · exact AllReadyH.nil
    refine step_make0 (by rfl) _ _ 22 5 rfl Tryd.underlying22 u8Info 64 rfl rfl (by decide) ?_
    intro wE hrE hBE
    refine hK.out _ _ ?_ (fun hHeld => ?_)
    · (apply ks_below; assumption; assumption)
    clear hK K
    try simp only [Act.put, List.setIfInBounds_toArray, List.set_cons_zero, List.set_cons_succ]
    refine wpAnyH_ready (rs := [13]) (by kernel_rfl) (by simp) ?_
    refine AllReadyH.cons (o := _) rfl (fun K hK => ?_) ?_
    rotate_left 1
    · exact AllReadyH.nil
    go_simp
    go_at_call 39
    refine (macOf none none 0 0 0 0 [] [] H _ HH.out hHeld.2.1 (RdC.nil _ _) (RdC.nil _ _) rfl rfl (by decide) (by decide) (by decide) (by decide)).mono ?_
    rintro _ wD ⟨rfl, hBD⟩
    dsimp only
    have hrD := hrE.below hBD (Nat.le_refl _)
    refine hK.out _ _ ?_ (fun hHeld => ?_)
    · (apply ks_below; assumption; assumption)
    clear hK K
    try simp only [Act.put, List.setIfInBounds_toArray, List.set_cons_zero, List.set_cons_succ]
    refine wpAnyH_ready (rs := [15]) (by kernel_rfl) (by simp) ?_
    refine AllReadyH.cons (o := _) rfl (fun K hK => ?_) ?_
    rotate_left 1
    · exact AllReadyH.nil
    go_simp
    go_at_call 39
    refine (macOf _ none 64 0 64 0 (List.replicate 64 0) [] H _ HH2.out hHeld.2.1 hrD (RdC.nil _ _) (by rfl) rfl (Nat.le_refl _) (Nat.le_refl _) (by decide) (by decide)).mono ?_
    rintro _ wF ⟨rfl, hBF⟩
    dsimp only
    refine hK.out _ _ ?_ (fun hHeld => ?_)
    · (apply ks_below; assumption; assumption)
    clear hK K
    try simp only [Act.put, List.setIfInBounds_toArray, List.set_cons_zero, List.set_cons_succ]
    refine wpAnyH_take (i := 16) (oi := _) (v := ?_) rfl (by kernel_rfl) (by kernel_rfl) (by kernel_rfl) (fun _ _ _ h => h) (Or.inl ⟨by rfl, ?_⟩) (by assumption) ?_
    rotate_left 1
    · (intro w hSw; (try dsimp only at hSw); go_simp; all_goals (with_reducible rfl))
    try simp only [Act.put, List.setIfInBounds_toArray, List.set_cons_zero, List.set_cons_succ]
    refine wpAnyH_take (i := 17) (oi := _) (v := ?_) rfl (by kernel_rfl) (by kernel_rfl) (by kernel_rfl) (fun _ _ _ h => h) (Or.inl ⟨by rfl, ?_⟩) (by assumption) ?_
    rotate_left 1
    · (intro w hSw; (try dsimp only at hSw); go_simp; all_goals (with_reducible rfl))
    try simp only [Act.put, List.setIfInBounds_toArray, List.set_cons_zero, List.set_cons_succ]
    refine wpAnyH_take (i := 18) (oi := _) (v := ?_) rfl (by kernel_rfl) (by kernel_rfl) (by kernel_rfl) (fun _ _ _ h => h) (Or.inl ⟨by rfl, ?_⟩) (by assumption) ?_
    rotate_left 1
    · (intro w hSw; (try dsimp only at hSw); go_simp; all_goals (with_reducible rfl))
    try simp only [Act.put, List.setIfInBounds_toArray, List.set_cons_zero, List.set_cons_succ]
    refine wpAnyH_ready (rs := [19]) (by kernel_rfl) (by simp) ?_
    refine AllReadyH.cons (o := _) rfl (fun K hK => ?_) ?_
    rotate_left 1
    · exact AllReadyH.nil
    go_simp
    go_at_call 38
    refine (macKnown _ hHeld.2.1).mono ?_
    rintro _ wG ⟨rfl, hBG⟩
    dsimp only
    refine hK.out _ _ ?_ (fun hHeld => ?_)
    · (apply ks_below; assumption; assumption)
    clear hK K
    try simp only [Act.put, List.setIfInBounds_toArray, List.set_cons_zero, List.set_cons_succ]
    refine wpAnyH_take (i := 20) (oi := _) (v := ?_) rfl (by kernel_rfl) (by kernel_rfl) (by kernel_rfl) (fun _ _ _ h => h) (Or.inl ⟨by rfl, ?_⟩) (by assumption) ?_
    rotate_left 1
    · (intro w hSw; (try dsimp only at hSw); go_simp; all_goals (with_reducible rfl))
    try simp only [Act.put, List.setIfInBounds_toArray, List.set_cons_zero, List.set_cons_succ]
    refine wpAnyH_take (i := 21) (oi := _) (v := ?_) rfl (by kernel_rfl) (by kernel_rfl) (by kernel_rfl) (fun _ _ _ h => h) (Or.inl ⟨by rfl, ?_⟩) (by assumption) ?_
    rotate_left 1
    · (intro w hSw; (try dsimp only at hSw); go_simp; all_goals (with_reducible rfl))
    try simp only [Act.put, List.setIfInBounds_toArray, List.set_cons_zero, List.set_cons_succ]
    refine wpAnyH_done (by kernel_rfl) ?_ _
    refine NoPanic.normal ?_
    (repeat' ((fail_if_success at_builtin); first | go_values | go_skip | go_guarded | go_step | go_upon))
    go_ret
    exact ⟨rfl, hHeld.2.2⟩
  go_simp
  go_at_call 39
  refine (macOf none none 0 0 0 0 [] [] H _ HH.out hHeld.2.1 (RdC.nil _ _) (RdC.nil _ _) rfl rfl (by decide) (by decide) (by decide) (by decide)).mono ?_
  rintro _ wD ⟨rfl, hBD⟩
  dsimp only
  refine hK.out _ _ ?_ (fun hHeld => ?_)
  · (apply ks_below; assumption; assumption)
  clear hK K
  try simp only [Act.put, List.setIfInBounds_toArray, List.set_cons_zero, List.set_cons_succ]
  refine wpAnyH_ready (rs := [14]) (by kernel_rfl) (by simp) ?_
  refine AllReadyH.cons (o := _) rfl (fun K hK => ?_) ?_
  rotate_left 1
  · exact AllReadyH.nil
  refine step_make0 (by rfl) _ _ 22 5 rfl Tryd.underlying22 u8Info 64 rfl rfl (by decide) ?_
  intro wE hrE hBE
  refine hK.out _ _ ?_ (fun hHeld => ?_)
  · (apply ks_below; assumption; assumption)
  clear hK K
  try simp only [Act.put, List.setIfInBounds_toArray, List.set_cons_zero, List.set_cons_succ]
  refine wpAnyH_ready (rs := [15]) (by kernel_rfl) (by simp) ?_
  refine AllReadyH.cons (o := _) rfl (fun K hK => ?_) ?_
  rotate_left 1
  · exact AllReadyH.nil
  go_simp
  go_at_call 39
  refine (macOf _ none 64 0 64 0 (List.replicate 64 0) [] H _ HH2.out hHeld.2.1 hrE (RdC.nil _ _) (by rfl) rfl (Nat.le_refl _) (Nat.le_refl _) (by decide) (by decide)).mono ?_
  rintro _ wF ⟨rfl, hBF⟩
  dsimp only
  refine hK.out _ _ ?_ (fun hHeld => ?_)
  · (apply ks_below; assumption; assumption)
  clear hK K
  try simp only [Act.put, List.setIfInBounds_toArray, List.set_cons_zero, List.set_cons_succ]
  refine wpAnyH_take (i := 16) (oi := _) (v := ?_) rfl (by kernel_rfl) (by kernel_rfl) (by kernel_rfl) (fun _ _ _ h => h) (Or.inl ⟨by rfl, ?_⟩) (by assumption) ?_
  rotate_left 1
  · (intro w hSw; (try dsimp only at hSw); go_simp; all_goals (with_reducible rfl))
  try simp only [Act.put, List.setIfInBounds_toArray, List.set_cons_zero, List.set_cons_succ]
  refine wpAnyH_take (i := 17) (oi := _) (v := ?_) rfl (by kernel_rfl) (by kernel_rfl) (by kernel_rfl) (fun _ _ _ h => h) (Or.inl ⟨by rfl, ?_⟩) (by assumption) ?_
  rotate_left 1
  · (intro w hSw; (try dsimp only at hSw); go_simp; all_goals (with_reducible rfl))
  try simp only [Act.put, List.setIfInBounds_toArray, List.set_cons_zero, List.set_cons_succ]
  refine wpAnyH_take (i := 18) (oi := _) (v := ?_) rfl (by kernel_rfl) (by kernel_rfl) (by kernel_rfl) (fun _ _ _ h => h) (Or.inl ⟨by rfl, ?_⟩) (by assumption) ?_
  rotate_left 1
  · (intro w hSw; (try dsimp only at hSw); go_simp; all_goals (with_reducible rfl))
  try simp only [Act.put, List.setIfInBounds_toArray, List.set_cons_zero, List.set_cons_succ]
  refine wpAnyH_ready (rs := [19]) (by kernel_rfl) (by simp) ?_
  refine AllReadyH.cons (o := _) rfl (fun K hK => ?_) ?_
  rotate_left 1
  · exact AllReadyH.nil
  go_simp
  go_at_call 38
  refine (macKnown _ hHeld.2.1).mono ?_
  rintro _ wG ⟨rfl, hBG⟩
  dsimp only
  refine hK.out _ _ ?_ (fun hHeld => ?_)
  · (apply ks_below; assumption; assumption)
  clear hK K
  try simp only [Act.put, List.setIfInBounds_toArray, List.set_cons_zero, List.set_cons_succ]
  refine wpAnyH_take (i := 20) (oi := _) (v := ?_) rfl (by kernel_rfl) (by kernel_rfl) (by kernel_rfl) (fun _ _ _ h => h) (Or.inl ⟨by rfl, ?_⟩) (by assumption) ?_
  rotate_left 1
  · (intro w hSw; (try dsimp only at hSw); go_simp; all_goals (with_reducible rfl))
  try simp only [Act.put, List.setIfInBounds_toArray, List.set_cons_zero, List.set_cons_succ]
  refine wpAnyH_take (i := 21) (oi := _) (v := ?_) rfl (by kernel_rfl) (by kernel_rfl) (by kernel_rfl) (fun _ _ _ h => h) (Or.inl ⟨by rfl, ?_⟩) (by assumption) ?_
  rotate_left 1
  · (intro w hSw; (try dsimp only at hSw); go_simp; all_goals (with_reducible rfl))
  try simp only [Act.put, List.setIfInBounds_toArray, List.set_cons_zero, List.set_cons_succ]
  refine wpAnyH_done (by kernel_rfl) ?_ _
  refine NoPanic.normal ?_
  (repeat' ((fail_if_success at_builtin); first | go_values | go_skip | go_guarded | go_step | go_upon))
  go_ret
  exact ⟨rfl, hHeld.2.2⟩

end Go.Proofs.YtdpfemhfmofmlaaDoor
