/- What package sha computes: the state behind a block. -/
import Derived.Test.YtdpfemhfmofmlaaDoorSha
namespace Go.Proofs.YtdpfemhfmofmlaaDoor
open Go.RowKit
set_option maxRecDepth 10000

/-- The tables lie in the first two blocks. -/
structure Tabs (w : World) : Prop where
  begins : w.rangeAt 0 0 (wvs wH)
  k : ∀ t (_ : t < 64), w.cell? ⟨1, t, none⟩ = some (.int .u32 ((wK[t]?.getD 0).toNat : Int))
  size : 2 ≤ w.heap.size

theorem Tabs.below {w w' : World} (h : Tabs w) {B : Nat} (hb : Below B w w') (hB : 2 ≤ B) : Tabs w' :=
  ⟨fun j v hj => by rw [hb.cell (p := ⟨0, 0 + j, none⟩) (by show 0 < B; omega)]; exact h.begins j v hj, fun t ht => by rw [hb.cell (p := ⟨1, t, none⟩) (by show 1 < B; omega)]; exact h.k t ht, Nat.le_trans h.size hb.size⟩

structure TakeRel (H ws : List UInt32) (w : World) (i : Value) (wr : World) : Prop where
  out : ∃ t : Nat, t ≤ 64 ∧ i = .int .i64 t ∧ Below w.heap.size w wr ∧ wr.heap[w.heap.size]? = some (.cells (wvs H).toArray 103 (0, 0)) ∧ wr.heap[w.heap.size + 1]? = some (.cells (zeros 8) 103 (0, 0)) ∧
    wr.heap[w.heap.size + 2]? = some (.cells (wvs (wrounds H ws t)).toArray 103 (0, 0))

structure UpRel (H S : List UInt32) (w : World) (i : Value) (wr : World) : Prop where
  out : ∃ t : Nat, t ≤ 8 ∧ i = .int .i64 t ∧ Below w.heap.size w wr ∧ wr.heap[w.heap.size]? = some (.cells (wvs H).toArray 103 (0, 0)) ∧ wr.heap[w.heap.size + 1]? = some (.cells (zeros 8) 103 (0, 0)) ∧
    wr.heap[w.heap.size + 2]? = some (.cells (wvs (addUp S H t)).toArray 103 (0, 0))

theorem zero8 : (Tryd.prog.info? 103).bind (fun i => i.zero.map (·.cells)) = some (zeros 8) := by kernel_rfl
theorem size8 : (Tryd.prog.info? 103).map (·.size) = some 8 := by kernel_rfl
theorem size32 : (Tryd.prog.info? 41).map (·.size) = some 1 := by kernel_rfl

theorem spread' (g o : Nat) (b : List UInt8) (w : World) (hb : w.rangeAt g o (bvs b)) (hl : b.length = 64) (R : List UInt32) (hR : wrow b 64 = R) :
    Calls Tryd.prog 108 #[.pointer (some ⟨g, o, none⟩)] w fun e w' => e = .returned (.agg (wvs R).toArray) ∧ Below w.heap.size w w' := by
  subst hR; exact spread g o b w hb hl

set_option maxHeartbeats 1000000 in
theorem take (g o : Nat) (H : List UInt32) (b : List UInt8) (w : World) (hT : Tabs w) (hH : H.length = 8) (hb : w.rangeAt g o (bvs b)) (hl : b.length = 64) :
    Calls Tryd.prog 86 #[.agg (wvs H).toArray, .pointer (some ⟨g, o, none⟩)] w fun e w' => e = .returned (.agg (wvs (wblock H b)).toArray) ∧ Below w.heap.size w w' := by
  obtain ⟨R, hR⟩ : ∃ R, wrow b 64 = R := ⟨_, rfl⟩
  have HR := Lib.hid hR; clear hR
  have HH := Lib.hid hH; clear hH
  have HL := Lib.hid hl; clear hl
  have HB := Lib.hid hb; clear hb
  have HT := Lib.hid hT; clear hT
  obtain ⟨i0, z0, hi0, hz0, hc0⟩ := fresh_parts zero8
  have HI0 := Lib.hid hi0; clear hi0
  have HZ0 := Lib.hid hz0; clear hz0
  have HC0 := Lib.hid hc0; clear hc0
  have hiH : (Tryd.prog.info? 103).map (·.size) = some (wvs H).length := by rw [wvs_length, HH.out]; exact size8
  have HIH := Lib.hid hiH; clear hiH
  have HO := Lib.hid (wvs_oneCell H)
  obtain ⟨wb, hwb⟩ : ∃ wb, w.alloc (.cells (wvs H).toArray 103) = wb := ⟨_, rfl⟩
  have hsb : wb.heap.size = w.heap.size + 1 := by rw [← hwb]; simp
  have hgb : wb.heap[w.heap.size]? = some (.cells (wvs H).toArray 103 (0, 0)) := by rw [← hwb]; exact heap_alloc_new w _
  have hBb : Below w.heap.size w wb := by rw [← hwb]; exact (Below.refl _ _).alloc (Nat.le_refl _) _
  go_enter Tryd.func86, Tryd.ntmps86
  have HWB := Lib.hid hwb; clear hwb
  have HSB := Lib.hid hsb; clear hsb
  have HGB := Lib.hid hgb; clear hgb
  (repeat' ((fail_if_success at_builtin); first | (first | ((with_reducible refine wpList_alloc_fresh (w := w.alloc (.cells (wvs H).toArray 103)) rfl 103 rfl (zeros 8) i0 z0 HI0.out HZ0.out HC0.out ?_); rw [HWB.out]; intro w1 hg1 hB1 hs1; rw [HSB.out] at hg1 hs1; have HS1 := Lib.hid hs1; clear hs1; have hq1 := (hB1.block w.heap.size (by rw [HSB.out]; omega)).trans HGB.out; have HA1 := Lib.hid (rangeAt_whole hq1); have HQ1 := Lib.hid hq1; clear hq1; have HG1 := Lib.hid hg1; clear hg1; try rw [HSB.out]) | (with_reducible refine wpList_load_mid rfl 103 _ rfl w.heap.size 0 rfl (wvs H) _ HA1.out Tryd.underlying103 rfl HIH.out ?_) | ((with_reducible refine wpList_alloc_fresh (w := w1) rfl 103 rfl (zeros 8) i0 z0 HI0.out HZ0.out HC0.out ?_); intro w2 hg2 hB2 hs2; rw [HS1.out] at hg2 hs2; have HS2 := Lib.hid hs2; clear hs2; have HG2 := Lib.hid hg2; clear hg2; try rw [HS1.out]) | ((with_reducible refine wpList_store_blk rfl 103 _ _ rfl (w.heap.size + 1 + 1) 0 (wvs H) rfl rfl _ _ HG2.out (by rw [wvs_length, HH.out]; simp [zeros]) HIH.out HO.out ?_); intro w3 hg3 hG3; rw [splice_whole _ _ (by rw [wvs_length, HH.out]; simp [zeros])] at hg3; have HG3 := Lib.hid hg3; clear hg3)) | go_values | go_skip | go_guarded | go_step | go_upon))
  have hB03 : Below w.heap.size w w3 := by
    have h1 := HSB.out
    have h2 := HS1.out
    have h3 := HS2.out
    exact ((hBb.trans (hB1.mono (by omega))).trans (hB2.mono (by omega))).grown hG3 (by omega) (fun k e => by cases e; omega)
  have hq3 : w3.heap[w.heap.size]? = some (.cells (wvs H).toArray 103 (0, 0)) := by
    have h2 := HS1.out
    have h3 := HS2.out
    exact (hG3.block _ (by omega) (by simp; omega)).trans ((hB2.block _ (by omega)).trans HQ1.out)
  have hr3 : w3.heap[w.heap.size + 1]? = some (.cells (zeros 8) 103 (0, 0)) := by
    have h2 := HS1.out
    have h3 := HS2.out
    exact (hG3.block _ (by omega) (by simp)).trans ((hB2.block _ (by omega)).trans HG1.out)
  have hs3 : w.heap.size + 3 ≤ w3.heap.size := by have h3 := HS2.out; have := hG3.size; omega
  have HQ3 := Lib.hid hq3; clear hq3
  have HR3 := Lib.hid hr3; clear hr3
  clear hG3 hB2 hB1 hBb HWB
  refine (spread' g o b w3 (rangeAt_below HB.out hB03 (Nat.le_refl _)) HL.out R HR.out).mono ?_
  rintro _ w4 ⟨rfl, hB4⟩
  dsimp only
  (repeat' ((fail_if_success at_builtin); first | go_values | go_skip | go_guarded | go_step | go_upon))
  have hB04 := hB03.trans (hB4.mono (by omega))
  have hq4 := (hB4.block w.heap.size (by omega)).trans HQ3.out
  have hr4 := (hB4.block (w.heap.size + 1) (by omega)).trans HR3.out
  have hg4 := (hB4.block (w.heap.size + 1 + 1) (by omega)).trans HG3.out
  have HQ4 := Lib.hid hq4; clear hq4
  have HR4 := Lib.hid hr4; clear hr4
  have HG4 := Lib.hid hg4; clear hg4
  go_loopw [16] (fun i wr => TakeRel H R w i wr) (fun i _ => 64 - (intOf i).toNat)
  case atStart => exact ⟨⟨0, by omega, rfl, hB04, HQ4.out, HR4.out, HG4.out⟩⟩
  case round =>
    obtain ⟨⟨t, ht, rfl, hB, h0, h1, h2⟩⟩ := hrel
    by_cases h64 : t < 64
    · obtain ⟨a, b1, c, d, e, f, g1, k, hs⟩ := eight (wrounds H R t) (by rw [wrounds_length, HH.out])
      obtain ⟨kt, hkt⟩ : ∃ x, wK[t]?.getD 0 = x := ⟨_, rfl⟩
      obtain ⟨x, hx⟩ : ∃ x, R[t]?.getD 0 = x := ⟨_, rfl⟩
      obtain ⟨y1, y2, ch, z1, z2, z3, mo, te, ta, u1, u2, u3, u4, v, n1, n2, e1, e2, e3, e4, e5, e6, e7, e8, e9, e10, e11, e12, e13, e14, e15, e16, hw⟩ := round_parts a b1 c d e f g1 k kt x
      have hnext : wrounds H R (t + 1) = [n1, a, b1, c, n2, e, f, g1] := by rw [wrounds, hs, hkt, hx, hw]
      rw [hs] at h2
      have c0 : wr.cell? ⟨w.heap.size + 1 + 1, 0, none⟩ = some (.int .u32 (a.toNat : Int)) := by rw [cell_of_row wr _ 0 _ _ _ h2]; rfl
      have c1 : wr.cell? ⟨w.heap.size + 1 + 1, 1, none⟩ = some (.int .u32 (b1.toNat : Int)) := by rw [cell_of_row wr _ 1 _ _ _ h2]; rfl
      have c2 : wr.cell? ⟨w.heap.size + 1 + 1, 2, none⟩ = some (.int .u32 (c.toNat : Int)) := by rw [cell_of_row wr _ 2 _ _ _ h2]; rfl
      have c3 : wr.cell? ⟨w.heap.size + 1 + 1, 3, none⟩ = some (.int .u32 (d.toNat : Int)) := by rw [cell_of_row wr _ 3 _ _ _ h2]; rfl
      have c4 : wr.cell? ⟨w.heap.size + 1 + 1, 4, none⟩ = some (.int .u32 (e.toNat : Int)) := by rw [cell_of_row wr _ 4 _ _ _ h2]; rfl
      have c5 : wr.cell? ⟨w.heap.size + 1 + 1, 5, none⟩ = some (.int .u32 (f.toNat : Int)) := by rw [cell_of_row wr _ 5 _ _ _ h2]; rfl
      have c6 : wr.cell? ⟨w.heap.size + 1 + 1, 6, none⟩ = some (.int .u32 (g1.toNat : Int)) := by rw [cell_of_row wr _ 6 _ _ _ h2]; rfl
      have c7 : wr.cell? ⟨w.heap.size + 1 + 1, 7, none⟩ = some (.int .u32 (k.toNat : Int)) := by rw [cell_of_row wr _ 7 _ _ _ h2]; rfl
      have ck : wr.cell? ⟨1, t, none⟩ = some (.int .u32 (kt.toNat : Int)) := by rw [← hkt]; exact (HT.out.below hB HT.out.size).k t h64
      have hR64 : R.length = 64 := by rw [← HR.out, wrow_length]
      have hxv : (wvs R).toArray[t]? = some (.int .u32 (x.toNat : Int)) := by
        rw [List.getElem?_toArray, wvs_get R t (by omega), ← hx, List.getElem?_eq_getElem (by omega)]
        rfl
      have hz := (Array.getElem?_eq_some_iff.1 h2).1
      have bt : (0 : Int) ≤ (t : Int) ∧ (t : Int) < 64 := by omega
      have HXV := Lib.hid hxv; clear hxv
      have HR64 := Lib.hid hR64; clear hR64
      have H0 := Lib.hid h0; clear h0
      have H1 := Lib.hid h1; clear h1
      have H2 := Lib.hid h2; clear h2
      have HKT := Lib.hid hkt; clear hkt
      have HX := Lib.hid hx; clear hx
      have HS := Lib.hid hs; clear hs
      have HN := Lib.hid hnext; clear hnext
      have HW := Lib.hid hw; clear hw
      have e10w := (IntKind.wrap_u32 _).trans e10
      have e11w := (IntKind.wrap_u32 _).trans e11
      have e12w := (IntKind.wrap_u32 _).trans e12
      have e13w := (IntKind.wrap_u32 _).trans e13
      have E8 := Lib.hid e8; clear e8
      have E9 := Lib.hid e9; clear e9
      (repeat' ((fail_if_success at_builtin); first | ((with_reducible refine wpList_index_arr rfl 143 _ _ rfl 64 41 .u32 Tryd.underlying143 Tryd.underlying41 size32 _ rfl t rfl h64 _ HXV.out ?_)) | go_values | go_skip | go_guarded | go_step | go_upon))
      go_region_held3 (fun w' => w'.cell? ⟨w.heap.size + 1 + 1, 7, none⟩ = some (.int .u32 (k.toNat : Int)) ∧ w'.cell? ⟨w.heap.size + 1 + 1, 4, none⟩ = some (.int .u32 (e.toNat : Int)) ∧ w'.cell? ⟨1, t, none⟩ = some (.int .u32 (kt.toNat : Int))) (go_keep) (first | (go_at_call 109; refine (turnsAt e te [6, 11, 25] wr.heap.size 3 _ _ E8.out rfl (show (wr.alloc (.cells #[.int .i64 6, .int .i64 11, .int .i64 25] 3)).drew.heap[wr.heap.size]? = _ from heap_alloc_new wr _) rfl (by omega) (by decide)).mono ?_; rintro e w' ⟨rfl, rfl⟩))
      (repeat' ((fail_if_success at_builtin); first | go_values | go_skip | go_guarded | go_step | go_upon))
      obtain ⟨w5, hw5⟩ : ∃ w5, ((wr.alloc (.cells #[.int .i64 6, .int .i64 11, .int .i64 25] 3)).alloc (.cells #[.int .i64 2, .int .i64 13, .int .i64 22] 3)).drew = w5 := ⟨_, rfl⟩
      have hB5 : Below wr.heap.size wr w5 := by rw [← hw5]; exact (((Below.refl _ _).alloc (Nat.le_refl _) _).alloc (by simp) _).drew
      have hg5 : w5.heap[wr.heap.size + 1]? = some (.cells #[.int .i64 2, .int .i64 13, .int .i64 22] 3 (0, 0)) := by
        rw [← hw5]
        have := heap_alloc_new (wr.alloc (.cells #[.int .i64 6, .int .i64 11, .int .i64 25] 3)) (.cells #[.int .i64 2, .int .i64 13, .int .i64 22] 3)
        rw [show (wr.alloc (.cells #[.int .i64 6, .int .i64 11, .int .i64 25] 3)).heap.size = wr.heap.size + 1 by simp] at this
        exact this
      rw [hw5]
      clear hw5
      refine (turnsAt a ta [2, 13, 22] _ 3 _ _ E9.out rfl hg5 rfl (by omega) (by decide)).mono ?_
      clear hg5
      rintro _ w6 ⟨rfl, rfl⟩
      dsimp only
      have d0 := (hB5.cell (p := ⟨w.heap.size + 1 + 1, 0, none⟩) hz).trans c0
      have d1 := (hB5.cell (p := ⟨w.heap.size + 1 + 1, 1, none⟩) hz).trans c1
      have d2 := (hB5.cell (p := ⟨w.heap.size + 1 + 1, 2, none⟩) hz).trans c2
      have d3 := (hB5.cell (p := ⟨w.heap.size + 1 + 1, 3, none⟩) hz).trans c3
      have d4 := (hB5.cell (p := ⟨w.heap.size + 1 + 1, 4, none⟩) hz).trans c4
      have d5 := (hB5.cell (p := ⟨w.heap.size + 1 + 1, 5, none⟩) hz).trans c5
      have d6 := (hB5.cell (p := ⟨w.heap.size + 1 + 1, 6, none⟩) hz).trans c6
      have h05 := (hB5.block _ (by omega)).trans H0.out
      have h15 := (hB5.block _ (by omega)).trans H1.out
      have h25 := (hB5.block _ (by omega)).trans H2.out
      have H05 := Lib.hid h05; clear h05
      have H15 := Lib.hid h15; clear h15
      have H25 := Lib.hid h25; clear h25
      clear c0 c1 c2 c3 c4 c5 c6 c7 ck H0 H1 H2
      have h8 : (0 : Nat) + [Value.int .u32 (n1.toNat : Int), .int .u32 (a.toNat : Int), .int .u32 (b1.toNat : Int), .int .u32 (c.toNat : Int), .int .u32 (n2.toNat : Int), .int .u32 (e.toNat : Int), .int .u32 (f.toNat : Int), .int .u32 (g1.toNat : Int)].length ≤ (wvs [a, b1, c, d, e, f, g1, k]).toArray.size := Nat.le_refl 8
      have H8 := Lib.hid h8; clear h8
      have hi8 : (Tryd.prog.info? 103).map (·.size) = some [Value.int .u32 (n1.toNat : Int), .int .u32 (a.toNat : Int), .int .u32 (b1.toNat : Int), .int .u32 (c.toNat : Int), .int .u32 (n2.toNat : Int), .int .u32 (e.toNat : Int), .int .u32 (f.toNat : Int), .int .u32 (g1.toNat : Int)].length := by
        rw [size8]; rfl
      have HI8 := Lib.hid hi8; clear hi8
      have HA8 := Lib.hid (all8 n1 a b1 c n2 e f g1)
      (repeat' ((fail_if_success at_builtin); first | (((with_reducible refine wpList_store_blk rfl 103 _ _ rfl (w.heap.size + 1 + 1) 0 [.int .u32 (n1.toNat : Int), .int .u32 (a.toNat : Int), .int .u32 (b1.toNat : Int), .int .u32 (c.toNat : Int), .int .u32 (n2.toNat : Int), .int .u32 (e.toNat : Int), .int .u32 (f.toNat : Int), .int .u32 (g1.toNat : Int)] rfl rfl _ _ H25.out H8.out HI8.out HA8.out ?_); intro w7 hg7 hG7; rw [splice8 [a, b1, c, d, e, f, g1, k] n1 a b1 c n2 e f g1 rfl] at hg7; have HG7 := Lib.hid hg7; clear hg7)) | go_values | go_skip | go_guarded | go_step | go_upon))
      go_roundw
      case rel =>
        go_light
        refine ⟨⟨t + 1, by omega, by go_num, (hB.trans (hB5.mono (by omega))).grown hG7 (by have := hB5.size; omega) (fun k e => by cases e; omega), ?_, ?_, ?_⟩⟩
        · exact (hG7.block _ (by have := hB5.size; omega) (by simp; omega)).trans H05.out
        · exact (hG7.block _ (by have := hB5.size; omega) (by simp)).trans H15.out
        · rw [HN.out]; exact HG7.out
      case measure => go_light; simp [intOf]; omega
    · rw [show t = 64 by omega] at h2
      have b64 : ¬ ((t : Int) < 64) := by omega
      have b64' : decide ((t : Int) < 64) = false := by simp; omega
      obtain ⟨S, hS⟩ : ∃ S, wrounds H R 64 = S := ⟨_, rfl⟩
      have hSl : S.length = 8 := by rw [← hS, wrounds_length, HH.out]
      rw [hS] at h2
      have hfin : wblock H b = List.zipWith wadd S H := by unfold wblock; rw [HR.out, hS]
      have HS := Lib.hid hS; clear hS
      have HF := Lib.hid hfin; clear hfin
      have HSL := Lib.hid hSl; clear hSl
      have H0 := Lib.hid h0; clear h0
      have H1 := Lib.hid h1; clear h1
      have H2 := Lib.hid h2; clear h2
      (repeat' ((fail_if_success at_builtin); first | go_values | go_skip | go_guarded | go_step | go_upon))
      go_loopw [87] (fun i wr => UpRel H S w i wr) (fun i _ => 8 - (intOf i).toNat)
      case atStart => exact ⟨⟨0, by omega, rfl, hB, H0.out, H1.out, by rw [addUp_zero]; exact H2.out⟩⟩
      case round =>
        clear hB H0 H1 H2
        obtain ⟨⟨q, hq, rfl, hB, h0, h1, h2⟩⟩ := hrel
        by_cases h8 : q < 8
        · obtain ⟨x, y, hx, hy, hxa, hset⟩ := addUp_step S H HSL.out HH.out q h8
          have c1 : wr.cell? ⟨w.heap.size + 1 + 1, q, none⟩ = some (.int .u32 (x.toNat : Int)) := by
            obtain ⟨hl, he⟩ := List.getElem?_eq_some_iff.1 hxa
            rw [cell_of_row wr _ q _ _ _ h2, List.getElem?_toArray, wvs_get _ q hl, he]
          have c2 : wr.cell? ⟨w.heap.size, q, none⟩ = some (.int .u32 (y.toNat : Int)) := by
            obtain ⟨hl, he⟩ := List.getElem?_eq_some_iff.1 hy
            rw [cell_of_row wr _ q _ _ _ h0, List.getElem?_toArray, wvs_get _ q hl, he]
          have f1 := frozen_of_row wr (w.heap.size + 1 + 1) q _ _ h2
          have p1 := w_add x y
          have p1w := (IntKind.wrap_u32 _).trans p1
          have bq : (0 : Int) ≤ (q : Int) ∧ (q : Int) < 8 := by omega
          have hz := (Array.getElem?_eq_some_iff.1 h2).1
          have H0 := Lib.hid h0; clear h0
          have H1 := Lib.hid h1; clear h1
          have H2 := Lib.hid h2; clear h2
          have HX := Lib.hid hx; clear hx
          have HY := Lib.hid hy; clear hy
          have HXA := Lib.hid hxa; clear hxa
          have HSE := Lib.hid hset; clear hset
          (repeat' ((fail_if_success at_builtin); first | go_values | go_skip | go_guarded | go_step | go_upon))
          go_still_tail 8, (by kernel_rfl)
          (repeat' ((fail_if_success at_builtin); first | go_values | go_skip | go_guarded | go_step | go_upon))
          go_roundw
          case rel =>
            go_light
            refine ⟨⟨q + 1, by omega, by go_num, ((hB.setCell (by simp; omega) _).drew), ?_, ?_, ?_⟩⟩
            · show (wr.setCell _ _).heap[w.heap.size]? = _
              rw [Below.heap_setCell _ _ _ _ (by simp; omega)]
              exact H0.out
            · show (wr.setCell _ _).heap[w.heap.size + 1]? = _
              rw [Below.heap_setCell _ _ _ _ (by simp)]
              exact H1.out
            · show (wr.setCell _ _).heap[w.heap.size + 1 + 1]? = _
              rw [row_set H2.out, HSE.out]
          case measure => go_light; simp [intOf]; omega
        · obtain rfl : q = 8 := by omega
          rw [addUp_all S H HSL.out HH.out] at h2
          have hUl : (List.zipWith wadd S H).length = 8 := by rw [List.length_zipWith, HSL.out, HH.out]; rfl
          obtain ⟨U, hU⟩ : ∃ U, List.zipWith wadd S H = U := ⟨_, rfl⟩
          rw [hU] at h2 hUl
          have hfin := HF.out
          rw [hU] at hfin
          clear hU HF
          have HF := Lib.hid hfin; clear hfin
          have HA := Lib.hid (rangeAt_whole h2)
          have hiU : (Tryd.prog.info? 103).map (·.size) = some (wvs U).length := by rw [wvs_length, hUl]; exact size8
          have HI := Lib.hid hiU; clear hiU
          have hfU : 0 + (wvs U).length ≤ (zeros 8).size := by rw [wvs_length, hUl]; exact Nat.le_refl 8
          have HFU := Lib.hid hfU; clear hfU
          have HUL := Lib.hid hUl; clear hUl
          have HO2 := Lib.hid (wvs_oneCell U)
          have hz := (Array.getElem?_eq_some_iff.1 h2).1
          have H0 := Lib.hid h0; clear h0
          have H1 := Lib.hid h1; clear h1
          have H2 := Lib.hid h2; clear h2
          (repeat' ((fail_if_success at_builtin); first | (first | (with_reducible refine wpList_load_mid rfl 103 _ rfl (w.heap.size + 1 + 1) 0 rfl (wvs U) _ HA.out Tryd.underlying103 rfl HI.out ?_) | ((with_reducible refine wpList_store_blk rfl 103 _ _ rfl (w.heap.size + 1) 0 (wvs U) rfl rfl _ _ H1.out HFU.out HI.out HO2.out ?_); intro w5 hg5 hG5; have HG5 := Lib.hid hg5; clear hg5)) | go_values | go_skip | go_guarded | go_step | go_upon))
          have hg5 := HG5.out
          rw [splice_whole _ _ (by rw [wvs_length, HUL.out]; rfl)] at hg5
          have hR := run_loadVar_mid (P := Tryd.prog) w5 (w.heap.size + 1) 0 103 (wvs U) _ (rangeAt_whole hg5) Tryd.underlying103 rfl HI.out
          have HR := Lib.hid hR; clear hR
          clear hg5
          exact bodyPost_ret (results_cell rfl _ _ _ ⟨w.heap.size + 1, 0, none⟩ rfl _ HR.out) rfl ⟨by rw [HF.out], hB.grown hG5 hB.size (fun k e => by cases e; omega)⟩

end Go.Proofs.YtdpfemhfmofmlaaDoor
