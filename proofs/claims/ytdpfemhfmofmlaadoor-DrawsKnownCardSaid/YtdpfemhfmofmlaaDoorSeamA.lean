/- The law DrawsSeam, walked: one of four cases. -/
import Derived.Test.YtdpfemhfmofmlaaDoorSeam
namespace Go.Proofs.YtdpfemhfmofmlaaDoor
set_option linter.unusedSimpArgs false
set_option linter.unusedVariables false
open Go.RowKit
set_option maxRecDepth 10000

set_option maxHeartbeats 8000000 in
theorem drawsSeam_a (xa ya : Option Addr) (xn xc yn yc : Nat) (xl yl : List UInt8) (xt xs yt ys : ByteArray) (xv yv : Int) (w : World) (hT : Tabs w) (hx : (⟨xa, xn, xc, xl, xt, xs, xv⟩ : Ask).Ok w) (hy : (⟨ya, yn, yc, yl, yt, ys, yv⟩ : Ask).Ok w) (h1 : xt = yt) (h2 : xs = ys) (h3 : xv = yv) :
    Calls Tryd.prog 13 #[.agg #[.slice xa xn xc, .string xt, .string xs, .int .i64 xv], .agg #[.slice ya yn yc, .string yt, .string ys, .int .i64 yv]] w fun e w' => e = .returned (.bool true) ∧ Below w.heap.size w w' := by
  have hts := hT.size
  have HT := Lib.hid hT; clear hT
  have HX := Lib.hid hx; clear hx
  have HY := Lib.hid hy; clear hy
  obtain ⟨bg, hbg⟩ : ∃ bg, decide (40 < 2 ∨ ∃ z ∈ [(⟨xa, xn, xc, xl, xt, xs, xv⟩ : Ask), ⟨ya, yn, yc, yl, yt, ys, yv⟩], z.big) = bg := ⟨_, rfl⟩
  have HBG := Lib.hid hbg; clear hbg
  obtain ⟨w0, hw0⟩ : ∃ w0, (w.alloc (.cells #[.slice xa xn xc, .string xt, .string xs, .int .i64 xv] 56)).alloc (.cells #[.slice ya yn yc, .string yt, .string ys, .int .i64 yv] 56) = w0 := ⟨_, rfl⟩
  have hW0 : w0.heap.size = w.heap.size + 2 := by rw [← hw0]; simp
  have hB0 : Below w.heap.size w w0 := by rw [← hw0]; exact ((Below.refl _ _).alloc (Nat.le_refl _) _).alloc (by simp) _
  have hg1 : w0.heap[w.heap.size]? = some (.cells #[.slice xa xn xc, .string xt, .string xs, .int .i64 xv] 56 (0, 0)) := by
    rw [← hw0, Below.heap_alloc _ _ _ (by simp)]; exact heap_alloc_new w _
  have hg2 : w0.heap[w.heap.size + 1]? = some (.cells #[.slice ya yn yc, .string yt, .string ys, .int .i64 yv] 56 (0, 0)) := by
    have h := heap_alloc_new (w.alloc (.cells #[.slice xa xn xc, .string xt, .string xs, .int .i64 xv] 56)) (.cells #[.slice ya yn yc, .string yt, .string ys, .int .i64 yv] 56)
    rw [hw0, show (w.alloc (.cells #[.slice xa xn xc, .string xt, .string xs, .int .i64 xv] 56)).heap.size = w.heap.size + 1 by simp] at h
    exact h
  have HW0 := Lib.hid hw0; clear hw0
  have HS0 := Lib.hid hW0; clear hW0
  have HG1 := Lib.hid hg1; clear hg1
  have HG2 := Lib.hid hg2; clear hg2
  have Kh1 := Lib.hid h1; clear h1
  have Kh2 := Lib.hid h2; clear h2
  have Kh3 := Lib.hid h3; clear h3
  go_enter Tryd.func13, Tryd.ntmps13
  (repeat' ((fail_if_success at_builtin); first | go_values | go_skip | go_guarded | go_step | go_upon))
  rw [HW0.out, show w.heap.size + 1 + 1 = w0.heap.size by rw [HS0.out]]
  have hrx : RdC (w0.alloc (.cells #[.slice xa xn xc, .string xt, .string xs, .int .i64 xv, .slice ya yn yc, .string yt, .string ys, .int .i64 yv] 56)) (some ⟨w0.heap.size, 0, none⟩) ([(⟨xa, xn, xc, xl, xt, xs, xv⟩ : Ask), ⟨ya, yn, yc, yl, yt, ys, yv⟩].flatMap Ask.cells) := rdc_newF w0 _ _ _
  have hBa : Below w.heap.size w (w0.alloc (.cells #[.slice xa xn xc, .string xt, .string xs, .int .i64 xv, .slice ya yn yc, .string yt, .string ys, .int .i64 yv] 56)) := hB0.alloc hB0.size _
  refine (big15 _ 2 2 [(⟨xa, xn, xc, xl, xt, xs, xv⟩ : Ask), ⟨ya, yn, yc, yl, yt, ys, yv⟩] _ hrx (by intro z hz; simp at hz; rcases hz with rfl | rfl; exact HX.out.below hBa (Nat.le_refl _); exact HY.out.below hBa (Nat.le_refl _)) rfl).mono ?_
  rintro _ w1 ⟨rfl, hB1⟩
  dsimp only
  rw [HBG.out]
  clear hrx
  have hB01 : Below w.heap.size w w1 := hBa.trans (hB1.mono hBa.size)
  have hB11 : Below w0.heap.size w0 w1 := ((Below.refl _ _).alloc (Nat.le_refl _) _).trans (hB1.mono (by simp))
  have hg1 := (hB11.block w.heap.size (by rw [HS0.out]; omega)).trans HG1.out
  have hg2 := (hB11.block (w.heap.size + 1) (by rw [HS0.out]; omega)).trans HG2.out
  clear hB1 hBa
  have HR1 := Lib.hid hg1; clear hg1
  have HR2 := Lib.hid hg2; clear hg2
  have hs1 : w.heap.size + 2 ≤ w1.heap.size := by have := hB11.size; rw [HS0.out] at this; exact this
  clear HW0 HS0 HG1 HG2 hB11 hB0
  cases bg with
  | true =>
    (repeat' ((fail_if_success at_builtin); first | go_values | go_skip | go_guarded | go_step | go_upon))
    refine (works15 w1 (HT.out.below hB01 hts)).mono ?_
    rintro _ w2 ⟨rfl, hB2⟩
    dsimp only
    (repeat' ((fail_if_success at_builtin); first | go_values | go_skip | go_guarded | go_step | go_upon))
    go_ret
    exact ⟨rfl, hB01.trans (hB2.mono hB01.size)⟩
  | false =>
    have hnb := of_decide_eq_false HBG.out
    have hbx : xn ≤ 512 ∧ xt.size ≤ 512 ∧ xs.size ≤ 512 := by
      have h1 : ¬ (512 : Int) < max (max (xn : Int) (xt.size : Int)) (xs.size : Int) := fun h => hnb (Or.inr ⟨⟨xa, xn, xc, xl, xt, xs, xv⟩, by simp, h⟩)
      omega
    have hby : yn ≤ 512 ∧ yt.size ≤ 512 ∧ ys.size ≤ 512 := by
      have h1 : ¬ (512 : Int) < max (max (yn : Int) (yt.size : Int)) (ys.size : Int) := fun h => hnb (Or.inr ⟨⟨ya, yn, yc, yl, yt, ys, yv⟩, by simp, h⟩)
      omega
    clear hnb HBG
    have c0 : w1.cell? ⟨w.heap.size, 0, none⟩ = _ := cell_of_row w1 w.heap.size 0 _ _ _ HR1.out
    have c1 : w1.cell? ⟨w.heap.size, 1, none⟩ = _ := cell_of_row w1 w.heap.size 1 _ _ _ HR1.out
    have c2 : w1.cell? ⟨w.heap.size, 2, none⟩ = _ := cell_of_row w1 w.heap.size 2 _ _ _ HR1.out
    have c3 : w1.cell? ⟨w.heap.size, 3, none⟩ = _ := cell_of_row w1 w.heap.size 3 _ _ _ HR1.out
    (repeat' ((fail_if_success at_builtin); first | go_values | go_skip | go_guarded | go_step | go_upon))
    have hnx : -9223372036854775808 ≤ xv ∧ xv ≤ 9223372036854775807 := HX.out.num
    refine (of15 xa xn xc xt xs xv w1 (by omega) (by omega) hnx).mono ?_
    rintro _ w2 ⟨a2, k2, rfl, hk2, hr2, hB2, _⟩
    dsimp only
    clear c0 c1 c2 c3
    have hB02 : Below w.heap.size w w2 := hB01.trans (hB2.mono hB01.size)
    have hq1 := (hB2.block w.heap.size (by omega)).trans HR1.out
    have hq2 := (hB2.block (w.heap.size + 1) (by omega)).trans HR2.out
    have hs2 : w.heap.size + 2 ≤ w2.heap.size := by have := hB2.size; omega
    have HR2' := Lib.hid hr2; clear hr2
    clear HR1 HR2
    have HQ1 := Lib.hid hq1; clear hq1
    have HQ2 := Lib.hid hq2; clear hq2
    (repeat' ((fail_if_success at_builtin); first | go_values | go_skip | go_guarded | go_step | go_upon))
    refine (packRead a2 _ k2 (drawn xt xs xv) w2 HR2'.out (drawn_length _ _ _) (by omega)).mono ?_
    rintro _ w3 ⟨g, rfl, hB3, hge, hrd3⟩
    dsimp only
    have HD3 := Lib.hid hrd3; clear hrd3
    (repeat' ((fail_if_success at_builtin); first | go_values | go_skip | go_guarded | go_step | go_upon))
    have hd := HD3.out
    rw [drawn_cut] at hd
    refine (rdText g 512 _ 0 w3 hd).mono ?_
    rw [text_back 512 xt _ (by omega) (by decide)]
    rintro _ w4 ⟨rfl, hg4, hrd4⟩
    dsimp only
    clear hd
    have hB24 : Below w2.heap.size w2 w4 := hB3.grown hg4 hB3.size (fun k e => by cases e; exact hge)
    have HD4 := Lib.hid hrd4; clear hrd4
    clear hg4
    have ex : (⟨xt.data.toList.toArray⟩ : ByteArray) = xt := by simp
    rw [ex]
    (repeat' ((fail_if_success at_builtin); first | go_values | go_skip | go_guarded | go_step | go_upon))
    refine (rdText g 512 _ 0 w4 HD4.out).mono ?_
    rw [text_back 512 xs _ (by omega) (by decide)]
    rintro _ w5 ⟨rfl, hg5, hrd5⟩
    dsimp only
    have hB25 : Below w2.heap.size w2 w5 := hB24.grown hg5 hB24.size (fun k e => by cases e; exact hge)
    have HD5 := Lib.hid hrd5; clear hrd5
    clear hg5
    have ex2 : (⟨xs.data.toList.toArray⟩ : ByteArray) = xs := by simp
    rw [ex2]
    (repeat' ((fail_if_success at_builtin); first | go_values | go_skip | go_guarded | go_step | go_upon))
    refine (rdInt g (be8 xv) 0 w5 HD5.out).mono ?_
    have hri := rsInt_be8 xv [] hnx
    rw [List.append_nil] at hri
    rw [hri]
    clear hri
    rintro _ w6 ⟨rfl, hg6, hrd6⟩
    dsimp only
    have hB26 : Below w2.heap.size w2 w6 := hB25.grown hg6 hB25.size (fun k e => by cases e; exact hge)
    have hd6 := hrd6
    have HD6 := Lib.hid hrd6; clear hrd6
    clear hg6 ex ex2
    have hB06 : Below w.heap.size w w6 := hB02.trans (hB26.mono hB02.size)
    have hp1 := (hB26.block w.heap.size (by omega)).trans HQ1.out
    have hp2 := (hB26.block (w.heap.size + 1) (by omega)).trans HQ2.out
    have c0 : w6.cell? ⟨w.heap.size, 0, none⟩ = _ := cell_of_row w6 w.heap.size 0 _ _ _ hp1
    have c1 : w6.cell? ⟨w.heap.size, 1, none⟩ = _ := cell_of_row w6 w.heap.size 1 _ _ _ hp1
    have c2 : w6.cell? ⟨w.heap.size, 2, none⟩ = _ := cell_of_row w6 w.heap.size 2 _ _ _ hp1
    have c3 : w6.cell? ⟨w.heap.size, 3, none⟩ = _ := cell_of_row w6 w.heap.size 3 _ _ _ hp1
    have d0 : w6.cell? ⟨w.heap.size + 1, 0, none⟩ = _ := cell_of_row w6 (w.heap.size + 1) 0 _ _ _ hp2
    have d1 : w6.cell? ⟨w.heap.size + 1, 1, none⟩ = _ := cell_of_row w6 (w.heap.size + 1) 1 _ _ _ hp2
    have d2 : w6.cell? ⟨w.heap.size + 1, 2, none⟩ = _ := cell_of_row w6 (w.heap.size + 1) 2 _ _ _ hp2
    have d3 : w6.cell? ⟨w.heap.size + 1, 3, none⟩ = _ := cell_of_row w6 (w.heap.size + 1) 3 _ _ _ hp2
    have HP1 := Lib.hid hp1; clear hp1
    have HP2 := Lib.hid hp2; clear hp2
    clear HQ1 HQ2 HD3 HD4 HD5 hd6 HR2'
    (repeat' ((fail_if_success at_builtin); first | go_values | go_skip | go_guarded | go_step | go_upon))
    refine (rdEnd g [] 0 w6 HD6.out).mono ?_
    rintro _ w7 ⟨rfl, rfl⟩
    rw [if_pos rfl]
    dsimp only
    have hny : -9223372036854775808 ≤ yv ∧ yv ≤ 9223372036854775807 := HY.out.num
    have hu56 : Tryd.prog.underlying 56 = some _ := Tryd.underlying56
    have hi56 : (Tryd.prog.info? 56).map (·.size) = some 4 := by kernel_rfl
    have h1 := Kh1.out; clear Kh1
    have h2 := Kh2.out; clear Kh2
    have h3 := Kh3.out; clear Kh3
    subst h1 h2 h3
    obtain ⟨H, hH⟩ : ∃ H, hmac xl (drawn xt xs xv) = H := ⟨_, rfl⟩
    have hHl : H.length = 32 := by rw [← hH]; exact hmac_length _ _
    have heq := fun w => eqKeySame H hHl w
    have HH := Lib.hid hH; clear hH hHl
    have hsm : SeamS w w.heap.size (w.heap.size + 1) xa ya xn xc yn yc xt xs xt xs xv xv w6.drew := seam_of HP1.out HP2.out (HT.out.below hB06 hts) hB06
    (repeat' ((fail_if_success at_builtin); first | go_values | go_skip | go_guarded | go_step | go_upon))
    clear c0 c1 c2 c3 d0 d1 d2 d3 HP1 HP2
    refine wp_region_noPanic ?_
    refine wp_region_held_drew (S := SeamS w w.heap.size (w.heap.size + 1) xa ya xn xc yn yc xt xs xt xs xv xv) (by kernel_rfl) ?_ (fun hHeld => ?_)
    · (exact hsm)
    refine' wpAnyH_take (i := 0) (oi := _) (v := _) rfl (by kernel_rfl) (by kernel_rfl) (by kernel_rfl) (fun _ _ _ h => h) (yieldsIf_load_mid (by rfl) _ _ rfl _ _ rfl _ _ ?ls1 ?lu1 ?ld1 ?li1) (by assumption) ?lr1
    case ls1 => (intro w hSw; (try dsimp only at hSw); go_split_ands; assumption)
    case lu1 => assumption
    case ld1 => rfl
    case li1 => first | assumption | (simp only [*]; done)
    try simp only [Act.put, List.setIfInBounds_toArray, List.set_cons_zero, List.set_cons_succ]
    refine' wpAnyH_take (i := 2) (oi := _) (v := _) rfl (by kernel_rfl) (by kernel_rfl) (by kernel_rfl) (fun _ _ _ h => h) (yieldsIf_load_mid (by rfl) _ _ rfl _ _ rfl _ _ ?ls2 ?lu2 ?ld2 ?li2) (by assumption) ?lr2
    case ls2 => (intro w hSw; (try dsimp only at hSw); go_split_ands; assumption)
    case lu2 => assumption
    case ld2 => rfl
    case li2 => first | assumption | (simp only [*]; done)
    try simp only [Act.put, List.setIfInBounds_toArray, List.set_cons_zero, List.set_cons_succ]
    refine wpAnyH_take (i := 5) (oi := _) (v := ?_) rfl (by kernel_rfl) (by kernel_rfl) (by kernel_rfl) (fun _ _ _ h => h) (Or.inl ⟨by kernel_rfl, ?_⟩) (by assumption) ?_
    rotate_left 1
    · (intro w hSw; (try dsimp only at hSw); go_simp; all_goals (with_reducible rfl))
    try simp only [Act.put, List.setIfInBounds_toArray, List.set_cons_zero, List.set_cons_succ]
    refine wpAnyH_ready (rs := [1]) (by kernel_rfl) (by simp) ?_
    refine AllReadyH.cons (o := _) rfl (fun K hK => ?_) ?_
    rotate_left 1
    · exact AllReadyH.nil
    go_simp
    go_at_call 51
    refine (of15 xa xn xc xt xs xv _ (by omega) (by omega) hnx).mono ?_
    rintro _ wA ⟨a5, k5, rfl, hk5, hr5, hBA, _⟩
    dsimp only
    refine hK.out _ _ ?_ (fun hHeld => ?_)
    · (apply seam_below; assumption; assumption)
    clear hK K
    try simp only [Act.put, List.setIfInBounds_toArray, List.set_cons_zero, List.set_cons_succ]
    refine wpAnyH_ready (rs := [3]) (by kernel_rfl) (by simp) ?_
    refine AllReadyH.cons (o := _) rfl (fun K hK => ?_) ?_
    rotate_left 1
    · exact AllReadyH.nil
    go_simp
    go_at_call 51
    refine (of15 ya yn yc xt xs xv _ (by omega) (by omega) hny).mono ?_
    rintro _ wB ⟨a6, k6, rfl, hk6, hr6, hBB, _⟩
    dsimp only
    refine hK.out _ _ ?_ (fun hHeld => ?_)
    · (apply seam_below; assumption; assumption)
    clear hK K
    try simp only [Act.put, List.setIfInBounds_toArray, List.set_cons_zero, List.set_cons_succ]
    refine wpAnyH_ready (rs := [4]) (by kernel_rfl) (by simp) ?_
    refine AllReadyH.cons (o := _) rfl (fun K hK => ?_) ?_
    rotate_left 1
    · exact AllReadyH.nil
    go_simp
    go_at_call 55
    refine (same_yes (hr5.below hBB (Nat.le_refl _)) hr6 (drawn_length _ _ _) (drawn_length _ _ _) (by omega) rfl).mono ?_
    rintro _ wC ⟨rfl, hsC⟩
    dsimp only
    have hBC := hsC.below wB.heap.size
    refine hK.out _ _ ?_ (fun hHeld => ?_)
    · (apply seam_below; assumption; assumption)
    clear hK K
    try simp only [Act.put, List.setIfInBounds_toArray, List.set_cons_zero, List.set_cons_succ]
    refine wpAnyH_take (i := 6) (oi := _) (v := ?_) rfl (by kernel_rfl) (by kernel_rfl) (by kernel_rfl) (fun _ _ _ h => h) (Or.inl ⟨by kernel_rfl, ?_⟩) (by assumption) ?_
    rotate_left 1
    · (intro w hSw; (try dsimp only at hSw); go_simp; all_goals (with_reducible rfl))
    try simp only [Act.put, List.setIfInBounds_toArray, List.set_cons_zero, List.set_cons_succ]
    refine wpAnyH_take (i := 7) (oi := _) (v := ?_) rfl (by kernel_rfl) (by kernel_rfl) (by kernel_rfl) (fun _ _ _ h => h) (Or.inl ⟨by kernel_rfl, ?_⟩) (by assumption) ?_
    rotate_left 1
    · (intro w hSw; (try dsimp only at hSw); go_simp; all_goals (with_reducible rfl))
    try simp only [Act.put, List.setIfInBounds_toArray, List.set_cons_zero, List.set_cons_succ]
    refine wpAnyH_take (i := 8) (oi := _) (v := ?_) rfl (by kernel_rfl) (by kernel_rfl) (by kernel_rfl) (fun _ _ _ h => h) (Or.inl ⟨by kernel_rfl, ?_⟩) (by assumption) ?_
    rotate_left 1
    · (intro w hSw; (try dsimp only at hSw); go_simp; all_goals (with_reducible rfl))
    try simp only [Act.put, List.setIfInBounds_toArray, List.set_cons_zero, List.set_cons_succ]
    refine wpAnyH_take (i := 9) (oi := _) (v := ?_) rfl (by kernel_rfl) (by kernel_rfl) (by kernel_rfl) (fun _ _ _ h => h) (Or.inl ⟨by kernel_rfl, ?_⟩) (by assumption) ?_
    rotate_left 1
    · (intro w hSw; (try dsimp only at hSw); go_simp; all_goals (with_reducible rfl))
    try simp only [Act.put, List.setIfInBounds_toArray, List.set_cons_zero, List.set_cons_succ]
    refine wpAnyH_take (i := 10) (oi := _) (v := ?_) rfl (by kernel_rfl) (by kernel_rfl) (by kernel_rfl) (fun _ _ _ h => h) (Or.inl ⟨by kernel_rfl, ?_⟩) (by assumption) ?_
    rotate_left 1
    · (intro w hSw; (try dsimp only at hSw); go_simp; all_goals (with_reducible rfl))
    try simp only [Act.put, List.setIfInBounds_toArray, List.set_cons_zero, List.set_cons_succ]
    refine wpAnyH_take (i := 11) (oi := _) (v := ?_) rfl (by kernel_rfl) (by kernel_rfl) (by kernel_rfl) (fun _ _ _ h => h) (Or.inl ⟨by kernel_rfl, ?_⟩) (by assumption) ?_
    rotate_left 1
    · (intro w hSw; (try dsimp only at hSw); go_simp; all_goals (with_reducible rfl))
    try simp only [Act.put, List.setIfInBounds_toArray, List.set_cons_zero, List.set_cons_succ]
    refine wpAnyH_take (i := 12) (oi := _) (v := ?_) rfl (by kernel_rfl) (by kernel_rfl) (by kernel_rfl) (fun _ _ _ h => h) (Or.inl ⟨by kernel_rfl, ?_⟩) (by assumption) ?_
    rotate_left 1
    · (intro w hSw; (try dsimp only at hSw); go_simp; all_goals (with_reducible rfl))
    try simp only [Act.put, List.setIfInBounds_toArray, List.set_cons_zero, List.set_cons_succ]
    refine wpAnyH_take (i := 13) (oi := _) (v := ?_) rfl (by kernel_rfl) (by kernel_rfl) (by kernel_rfl) (fun _ _ _ h => h) (Or.inl ⟨by kernel_rfl, ?_⟩) (by assumption) ?_
    rotate_left 1
    · (intro w hSw; (try dsimp only at hSw); go_simp; all_goals (with_reducible rfl))
    try simp only [Act.put, List.setIfInBounds_toArray, List.set_cons_zero, List.set_cons_succ]
    refine wpAnyH_take (i := 14) (oi := _) (v := ?_) rfl (by kernel_rfl) (by kernel_rfl) (by kernel_rfl) (fun _ _ _ h => h) (Or.inl ⟨by kernel_rfl, ?_⟩) (by assumption) ?_
    rotate_left 1
    · (intro w hSw; (try dsimp only at hSw); go_simp; all_goals (with_reducible rfl))
    try simp only [Act.put, List.setIfInBounds_toArray, List.set_cons_zero, List.set_cons_succ]
    refine wpAnyH_take (i := 15) (oi := _) (v := ?_) rfl (by kernel_rfl) (by kernel_rfl) (by kernel_rfl) (fun _ _ _ h => h) (Or.inl ⟨by kernel_rfl, ?_⟩) (by assumption) ?_
    rotate_left 1
    · (intro w hSw; (try dsimp only at hSw); go_simp; all_goals (with_reducible rfl))
    try simp only [Act.put, List.setIfInBounds_toArray, List.set_cons_zero, List.set_cons_succ]
    refine wpAnyH_take (i := 16) (oi := _) (v := ?_) rfl (by kernel_rfl) (by kernel_rfl) (by kernel_rfl) (fun _ _ _ h => h) (Or.inl ⟨by kernel_rfl, ?_⟩) (by assumption) ?_
    rotate_left 1
    · (intro w hSw; (try dsimp only at hSw); go_simp; all_goals (with_reducible rfl))
    try simp only [Act.put, List.setIfInBounds_toArray, List.set_cons_zero, List.set_cons_succ]
    refine wpAnyH_take (i := 17) (oi := _) (v := ?_) rfl (by kernel_rfl) (by kernel_rfl) (by kernel_rfl) (fun _ _ _ h => h) (Or.inl ⟨by kernel_rfl, ?_⟩) (by assumption) ?_
    rotate_left 1
    · (intro w hSw; (try dsimp only at hSw); go_simp; all_goals (with_reducible rfl))
    try simp only [Act.put, List.setIfInBounds_toArray, List.set_cons_zero, List.set_cons_succ]
    refine wpAnyH_take (i := 18) (oi := _) (v := ?_) rfl (by kernel_rfl) (by kernel_rfl) (by kernel_rfl) (fun _ _ _ h => h) (Or.inl ⟨by kernel_rfl, ?_⟩) (by assumption) ?_
    rotate_left 1
    · (intro w hSw; (try dsimp only at hSw); go_simp; all_goals (with_reducible rfl))
    try simp only [Act.put, List.setIfInBounds_toArray, List.set_cons_zero, List.set_cons_succ]
    refine wpAnyH_take (i := 20) (oi := _) (v := ?_) rfl (by kernel_rfl) (by kernel_rfl) (by kernel_rfl) (fun _ _ _ h => h) (Or.inl ⟨by kernel_rfl, ?_⟩) (by assumption) ?_
    rotate_left 1
    · (intro w hSw; (try dsimp only at hSw); go_simp; all_goals (with_reducible rfl))
    try simp only [Act.put, List.setIfInBounds_toArray, List.set_cons_zero, List.set_cons_succ]
    refine wpAnyH_take (i := 21) (oi := _) (v := ?_) rfl (by kernel_rfl) (by kernel_rfl) (by kernel_rfl) (fun _ _ _ h => h) (Or.inl ⟨by kernel_rfl, ?_⟩) (by assumption) ?_
    rotate_left 1
    · (intro w hSw; (try dsimp only at hSw); go_simp; all_goals (with_reducible rfl))
    try simp only [Act.put, List.setIfInBounds_toArray, List.set_cons_zero, List.set_cons_succ]
    refine wpAnyH_take (i := 22) (oi := _) (v := ?_) rfl (by kernel_rfl) (by kernel_rfl) (by kernel_rfl) (fun _ _ _ h => h) (Or.inl ⟨by kernel_rfl, ?_⟩) (by assumption) ?_
    rotate_left 1
    · (intro w hSw; (try dsimp only at hSw); go_simp; all_goals (with_reducible rfl))
    try simp only [Act.put, List.setIfInBounds_toArray, List.set_cons_zero, List.set_cons_succ]
    refine wpAnyH_take (i := 23) (oi := _) (v := ?_) rfl (by kernel_rfl) (by kernel_rfl) (by kernel_rfl) (fun _ _ _ h => h) (Or.inl ⟨by kernel_rfl, ?_⟩) (by assumption) ?_
    rotate_left 1
    · (intro w hSw; (try dsimp only at hSw); go_simp; all_goals (with_reducible rfl))
    try simp only [Act.put, List.setIfInBounds_toArray, List.set_cons_zero, List.set_cons_succ]
    refine wpAnyH_take (i := 24) (oi := _) (v := ?_) rfl (by kernel_rfl) (by kernel_rfl) (by kernel_rfl) (fun _ _ _ h => h) (Or.inl ⟨by kernel_rfl, ?_⟩) (by assumption) ?_
    rotate_left 1
    · (intro w hSw; (try dsimp only at hSw); go_simp; all_goals (with_reducible rfl))
    try simp only [Act.put, List.setIfInBounds_toArray, List.set_cons_zero, List.set_cons_succ]
    refine wpAnyH_take (i := 25) (oi := _) (v := ?_) rfl (by kernel_rfl) (by kernel_rfl) (by kernel_rfl) (fun _ _ _ h => h) (Or.inl ⟨by kernel_rfl, ?_⟩) (by assumption) ?_
    rotate_left 1
    · (intro w hSw; (try dsimp only at hSw); go_simp; all_goals (with_reducible rfl))
    try simp only [Act.put, List.setIfInBounds_toArray, List.set_cons_zero, List.set_cons_succ]
    refine wpAnyH_take (i := 26) (oi := _) (v := ?_) rfl (by kernel_rfl) (by kernel_rfl) (by kernel_rfl) (fun _ _ _ h => h) (Or.inl ⟨by kernel_rfl, ?_⟩) (by assumption) ?_
    rotate_left 1
    · (intro w hSw; (try dsimp only at hSw); go_simp; all_goals (with_reducible rfl))
    try simp only [Act.put, List.setIfInBounds_toArray, List.set_cons_zero, List.set_cons_succ]
    refine wpAnyH_take (i := 27) (oi := _) (v := ?_) rfl (by kernel_rfl) (by kernel_rfl) (by kernel_rfl) (fun _ _ _ h => h) (Or.inl ⟨by kernel_rfl, ?_⟩) (by assumption) ?_
    rotate_left 1
    · (intro w hSw; (try dsimp only at hSw); go_simp; all_goals (with_reducible rfl))
    try simp only [Act.put, List.setIfInBounds_toArray, List.set_cons_zero, List.set_cons_succ]
    refine wpAnyH_ready (rs := [19]) (by kernel_rfl) (by simp) ?_
    refine AllReadyH.cons (o := _) rfl (fun K hK => ?_) ?_
    rotate_left 1
    · exact AllReadyH.nil
    go_simp
    go_at_call 47
    refine (drawsKey xa xn xc xl xt xs xv H _ HH.out hHeld.2.1 (HX.out.rd.below hHeld.2.2 (Nat.le_refl _)) HX.out.len HX.out.cap (by omega) (by omega) (by omega) hnx).mono ?_
    rintro _ wD ⟨rfl, hBD⟩
    dsimp only
    refine hK.out _ _ ?_ (fun hHeld => ?_)
    · (apply seam_below; assumption; assumption)
    clear hK K
    try simp only [Act.put, List.setIfInBounds_toArray, List.set_cons_zero, List.set_cons_succ]
    refine wpAnyH_ready (rs := [28]) (by kernel_rfl) (by simp) ?_
    refine AllReadyH.cons (o := _) rfl (fun K hK => ?_) ?_
    rotate_left 1
    · exact AllReadyH.nil
    go_simp
    go_at_call 47
    refine (drawsKey xa xn xc xl xt xs xv H _ HH.out hHeld.2.1 (HX.out.rd.below hHeld.2.2 (Nat.le_refl _)) HX.out.len HX.out.cap (by omega) (by omega) (by omega) hnx).mono ?_
    rintro _ wE ⟨rfl, hBE⟩
    dsimp only
    refine hK.out _ _ ?_ (fun hHeld => ?_)
    · (apply seam_below; assumption; assumption)
    clear hK K
    try simp only [Act.put, List.setIfInBounds_toArray, List.set_cons_zero, List.set_cons_succ]
    refine wpAnyH_take (i := 29) (oi := _) (v := ?_) rfl (by kernel_rfl) (by kernel_rfl) (by kernel_rfl) (fun _ _ _ h => h) (Or.inl ⟨by kernel_rfl, ?_⟩) (by assumption) ?_
    rotate_left 1
    · (intro w hSw; (try dsimp only at hSw); go_simp; all_goals (with_reducible rfl))
    try simp only [Act.put, List.setIfInBounds_toArray, List.set_cons_zero, List.set_cons_succ]
    refine wpAnyH_take (i := 30) (oi := _) (v := ?_) rfl (by kernel_rfl) (by kernel_rfl) (by kernel_rfl) (fun _ _ _ h => h) (Or.inl ⟨by kernel_rfl, ?_⟩) (by assumption) ?_
    rotate_left 1
    · (intro w hSw; (try dsimp only at hSw); go_simp; all_goals (with_reducible rfl))
    try simp only [Act.put, List.setIfInBounds_toArray, List.set_cons_zero, List.set_cons_succ]
    refine wpAnyH_take (i := 31) (oi := _) (v := ?_) rfl (by kernel_rfl) (by kernel_rfl) (by kernel_rfl) (fun _ _ _ h => h) (Or.inl ⟨by kernel_rfl, ?_⟩) (by assumption) ?_
    rotate_left 1
    · (intro w hSw; (try dsimp only at hSw); go_simp; all_goals (with_reducible rfl))
    try simp only [Act.put, List.setIfInBounds_toArray, List.set_cons_zero, List.set_cons_succ]
    refine wpAnyH_take (i := 32) (oi := _) (v := ?_) rfl (by kernel_rfl) (by kernel_rfl) (by kernel_rfl) (fun _ _ _ h => h) (Or.inl ⟨by kernel_rfl, ?_⟩) (by assumption) ?_
    rotate_left 1
    · (intro w hSw; (try dsimp only at hSw); go_simp; all_goals (with_reducible rfl))
    try simp only [Act.put, List.setIfInBounds_toArray, List.set_cons_zero, List.set_cons_succ]
    refine wpAnyH_ready (rs := [33]) (by kernel_rfl) (by simp) ?_
    refine AllReadyH.cons (o := _) rfl (fun K hK => ?_) ?_
    rotate_left 1
    · exact AllReadyH.nil
    go_simp
    go_at_call 46
    refine (works15 _ hHeld.2.1).mono ?_
    rintro _ wF ⟨rfl, hBF⟩
    dsimp only
    refine hK.out _ _ ?_ (fun hHeld => ?_)
    · (apply seam_below; assumption; assumption)
    clear hK K
    try simp only [Act.put, List.setIfInBounds_toArray, List.set_cons_zero, List.set_cons_succ]
    refine wpAnyH_take (i := 34) (oi := _) (v := ?_) rfl (by kernel_rfl) (by kernel_rfl) (by kernel_rfl) (fun _ _ _ h => h) (Or.inl ⟨by kernel_rfl, ?_⟩) (by assumption) ?_
    rotate_left 1
    · (intro w hSw; (try dsimp only at hSw); go_simp; all_goals (with_reducible rfl))
    try simp only [Act.put, List.setIfInBounds_toArray, List.set_cons_zero, List.set_cons_succ]
    refine wpAnyH_take (i := 35) (oi := _) (v := ?_) rfl (by kernel_rfl) (by kernel_rfl) (by kernel_rfl) (fun _ _ _ h => h) (Or.inl ⟨by kernel_rfl, ?_⟩) (by assumption) ?_
    rotate_left 1
    · (intro w hSw; (try dsimp only at hSw); go_simp; all_goals (with_reducible rfl))
    try simp only [Act.put, List.setIfInBounds_toArray, List.set_cons_zero, List.set_cons_succ]
    refine wpAnyH_done (by kernel_rfl) ?_ _
    refine NoPanic.normal ?_
    (repeat' ((fail_if_success at_builtin); first | go_values | go_skip | go_guarded | go_step | go_upon))
    go_ret
    exact ⟨rfl, hHeld.2.2⟩

end Go.Proofs.YtdpfemhfmofmlaaDoor
