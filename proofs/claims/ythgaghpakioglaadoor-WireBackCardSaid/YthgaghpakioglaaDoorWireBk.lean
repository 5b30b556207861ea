/- The law WireBack, walked. -/
import Derived.Test.YthgaghpakioglaaDoorBack27
namespace Go.Proofs.YthgaghpakioglaaDoor
set_option linter.unusedSimpArgs false
set_option linter.unusedVariables false
open Go.RowKit
set_option maxRecDepth 10000
--@PUT2

set_option maxHeartbeats 16000000 in
theorem wireBack_walk (a : Option Addr) (n c : Nat) (ps : List Piece) (x : Int) (w : World) (h : Pieces w a ps) (en : ps.length = n) (hc : n ≤ 9223372036854775807) (hx : -9223372036854775808 ≤ x ∧ x ≤ 9223372036854775807) :
    Calls Tryd.prog 4 #[.slice a n c, .int .i64 x] w fun e w' => e = .returned (.bool true) ∧ Below w.heap.size w w' := by
  have HP := Lib.hid h; clear h
  by_cases hA : 40 < n
  · have t1 : decide ((40 : Int) < (n : Int)) = true := by simp; omega
    go_enter Tryd.func4, Tryd.ntmps4
    (repeat' ((fail_if_success at_builtin); first | go_values | go_skip | go_guarded | go_step | go_upon))
    refine (works27 w).mono ?_
    rintro _ w1 ⟨rfl, hB1⟩
    dsimp only
    (repeat' ((fail_if_success at_builtin); first | go_values | go_skip | go_guarded | go_step | go_upon))
    go_ret
    exact ⟨rfl, hB1⟩
  have t1 : decide ((40 : Int) < (n : Int)) = false := by simp; omega
  obtain ⟨T, hT⟩ : ∃ T, totalM ps = T := ⟨_, rfl⟩
  by_cases hB : 65536 < T
  · have t2 : decide ((65536 : Int) < (T : Int)) = true := by simp; omega
    go_enter Tryd.func4, Tryd.ntmps4
    (repeat' ((fail_if_success at_builtin); first | go_values | go_skip | go_guarded | go_step | go_upon))
    refine (kitAll a n c ps w HP.out en hc).mono ?_
    rintro _ w1 ⟨rfl, hs1⟩
    dsimp only
    rw [hT]
    (repeat' ((fail_if_success at_builtin); first | go_values | go_skip | go_guarded | go_step | go_upon))
    refine (works27 w1).mono ?_
    rintro _ w2 ⟨rfl, hB2⟩
    dsimp only
    (repeat' ((fail_if_success at_builtin); first | go_values | go_skip | go_guarded | go_step | go_upon))
    go_ret
    exact ⟨rfl, (hs1.below _).trans (hB2.mono (by rw [hs1.heap]; exact Nat.le_refl _))⟩
  have t2 : decide ((65536 : Int) < (T : Int)) = false := by simp; omega
  have hT4 : total ps ≤ 65536 := by unfold totalM at hT; omega
  have hlen : ∀ p ∈ ps, p.l.length = p.n := fun p hp => (HP.out.ok p hp).len
  have hfl := wnt_le ps hlen
  have hmayq := wnt_may ps
  have hql := wnt_len ps
  have b1 := pick_lt x 600 (by omega)
  obtain ⟨p1, hp1⟩ : ∃ p, pick x 600 = p := ⟨_, rfl⟩
  rw [hp1] at b1
  obtain ⟨s, hs⟩ : ∃ s : Nat, 1 + p1 = (s : Int) := ⟨(1 + p1).toNat, by omega⟩
  have hsb : 1 ≤ s ∧ s ≤ 1000 := by omega
  have HS := Lib.hid hs
  have HP1 := Lib.hid hp1
  have HLEN := Lib.hid hlen; clear hlen
  have HT4 := Lib.hid hT4
  have HEN := Lib.hid en
  clear hs hp1
  go_enter Tryd.func4, Tryd.ntmps4
  (repeat' ((fail_if_success at_builtin); first | go_values | go_skip | go_guarded | go_step | go_upon))
  refine (kitAll a n c ps w HP.out en hc).mono ?_
  rintro _ w0' ⟨rfl, hs0⟩
  dsimp only
  rw [hT]
  have HP0 := Lib.hid (HP.out.below (hs0.below _))
  have hB00 := hs0.below w.heap.size
  have hz0 : w0'.heap.size = w.heap.size := by rw [hs0.heap]
  clear hs0 hT HP t1
  (repeat' ((fail_if_success at_builtin); first | go_values | go_skip | go_guarded | go_step | go_upon))
  refine (pickAny x 600 w0' hx (by omega)).mono ?_
  rintro _ w0 ⟨rfl, rfl⟩
  dsimp only
  rw [HP1.out]
  (repeat' ((fail_if_success at_builtin); first | go_values | go_skip | go_guarded | go_step | go_upon))
  rw [HS.out]
  obtain ⟨w0, hw0⟩ : ∃ w0, w0' = w0 := ⟨_, rfl⟩
  rw [hw0] at HP0 hB00 hz0 ⊢
  clear hw0
  go_loopw [5, 6, 7, 8] (fun vb vw ve i wr => ∃ k : Nat, k ≤ n ∧ i = .int .i64 k ∧ LaidW w0 wr vb vw ve (wnt (ps.take k))) (fun _ _ _ i _ => n - (intOf i).toNat)
  case atStart => exact ⟨0, Nat.zero_le _, rfl, ⟨World.ownsRow_nil _ _ _ _, World.ownsRow_nil _ _ _ _, World.ownsRow_nil _ _ _ _, Below.refl _ _⟩⟩
  case round =>
    obtain ⟨k, hk, rfl, hL⟩ := hrel
    obtain ⟨ab, cb, rfl, hcb, _, _⟩ := owns_slice hL.b
    obtain ⟨aw, cw, rfl, hcw, _, _⟩ := owns_slice hL.want
    obtain ⟨ae, ce, rfl, hce, _, _⟩ := owns_slice hL.ends
    have hBr := hL.blw
    have hz1 := hBr.size
    by_cases hlt : k < n
    · obtain ⟨p, b, off, hba, hcell, hp, hmem, htt, htk⟩ := HP0.out.get k (by omega)
      have hpn := hp.len
      have hpb := piece_le hmem
      have hpb2 : p.n ≤ 65536 := by have := HT4.out; omega
      have hpr := Lib.hid (hp.rd.below hBr (Nat.le_refl _))
      have hflk := wnt_le (ps.take k) (fun q hq => HLEN.out q (List.mem_of_mem_take hq))
      have htot := total_le ps k
      have hqk := wnt_len (ps.take k)
      rw [List.length_take] at hflk hqk
      have HCELL := Lib.hid hcell
      have HTK := Lib.hid htk
      have hcr := cell_below hBr hcell (Nat.le_refl _)
      obtain ⟨q, hq⟩ : ∃ q, wnt (ps.take k) = q := ⟨_, rfl⟩
      rw [hq] at hL hflk hqk hcb hcw hce ⊢
      obtain ⟨M, hM⟩ : ∃ M, ((bod q).flatMap parcel).length = M := ⟨_, rfl⟩
      rw [hM] at hflk hcb ⊢
      have hLb := hL.b
      rw [hM] at hLb
      have HOB := Lib.hid hLb
      have HOW := Lib.hid hL.want
      have HOE := Lib.hid hL.ends
      have HQ := Lib.hid hq
      have HM := Lib.hid hM
      have hM80 : M ≤ 80000 := by have := HT4.out; omega
      have hq40 : q.length ≤ 40 := by omega
      have bk : (0 : Int) ≤ (k : Int) ∧ (k : Int) < (n : Int) := by omega
      subst hba
      clear hL hLb hp hmem htt htk hq hM hcell
      cases hmy : mayB p.n with
      | true =>
        have HMY := Lib.hid hmy
        have hmb : 1 ≤ p.n ∧ p.n ≤ 32768 := by unfold mayB at hmy; exact of_decide_eq_true hmy
        have u1 : decide ((1 : Int) ≤ (p.n : Int)) = true := by simp; omega
        have u2 : decide ((p.n : Int) ≤ 32768) = true := by simp; omega
        clear hmy
        (repeat' ((fail_if_success at_builtin); first | go_values | go_skip | go_guarded | go_step | go_upon))
        refine (wirePutYes p.a p.n p.c p.l wr hpr.out hpn (by omega) HMY.out).mono ?_
        rintro _ w4 ⟨a4, c4, rfl, hc4, hr4, hB4, hO4⟩
        dsimp only
        have HR4 := Lib.hid hr4; clear hr4 hO4
        have hc4r := cell_below hB4 hcr (Nat.le_refl _)
        have hBr4 : Below w0.heap.size w0 w4 := hBr.trans (hB4.mono hBr.size)
        have HOB4 := Lib.hid (owns_below HOB.out hB4 (Nat.le_refl _))
        have HOW4 := Lib.hid (owns_below HOW.out hB4 (Nat.le_refl _))
        have HOE4 := Lib.hid (owns_below HOE.out hB4 (Nat.le_refl _))
        clear hcr
        (repeat' ((fail_if_success at_builtin); first | go_values | go_skip | go_guarded | go_step | go_upon))
        refine app8 rfl _ _ rfl w0.heap.size _ M ((bod q).flatMap parcel) rfl HOB4.out _ (4 + p.n) _ (parcel p.l) rfl HR4.out (by rw [parcel_length, hpn]) (by omega) hBr4.size ?_
        intro a5 c5 w5 h51 h52 h53 h54
        have hBr5 : Below w0.heap.size w0 w5 := hBr4.grown h54 hBr4.size (fun g e => (HOB4.out.lt g e).1)
        have HOB5 := Lib.hid h53
        have HOW5 := Lib.hid (owns_other HOB4.out HOW4.out (by decide) h54)
        have HOE5 := Lib.hid (owns_other HOB4.out HOE4.out (by decide) h54)
        have hc5r := cell_below hBr5 HCELL.out (Nat.le_refl _)
        clear h52 h53 h54 hc4r
        (repeat' ((fail_if_success at_builtin); first | go_values | go_skip | go_guarded | go_step | go_upon))
        refine appPc w5 (pcOf p) rfl _ _ rfl w0.heap.size _ q.length (q.map Pc.cell) rfl HOW5.out rfl (by omega) hBr5.size ?_
        intro v6 w6 h61 h62
        have hBr6 : Below w0.heap.size w0 w6 := hBr5.grown h62 hBr5.size (fun g e => (HOW5.out.lt g e).1)
        have HOW6 := Lib.hid h61
        have HOB6 := Lib.hid (owns_other HOW5.out HOB5.out (by decide) h62)
        have HOE6 := Lib.hid (owns_other HOW5.out HOE5.out (by decide) h62)
        obtain ⟨a6, c6, rfl, _, _, _⟩ := owns_slice h61
        clear h61 h62 hc5r
        (repeat' ((fail_if_success at_builtin); first | go_values | go_skip | go_guarded | go_step | go_upon))
        refine appNum w6 _ rfl _ _ rfl w0.heap.size _ q.length (endsI (bod q)) rfl HOE6.out rfl (by omega) hBr6.size ?_
        intro v7 w7 h71 h72
        have hBr7 : Below w0.heap.size w0 w7 := hBr6.grown h72 hBr6.size (fun g e => (HOE6.out.lt g e).1)
        have HOE7 := Lib.hid h71
        have HOB7 := Lib.hid (owns_other HOE6.out HOB6.out (by decide) h72)
        have HOW7 := Lib.hid (owns_other HOE6.out HOW6.out (by decide) h72)
        obtain ⟨a7, c7, rfl, _, _, _⟩ := owns_slice h71
        clear h71 h72
        (repeat' ((fail_if_success at_builtin); first | go_values | go_skip | go_guarded | go_step | go_upon))
        go_roundw
        case rel =>
          have hmm := wnt_yes HTK.out (by rw [hpn]; exact HMY.out)
          have hbod : bod (q ++ [pcOf p]) = bod q ++ [p.l] := by unfold bod; rw [List.map_append]; rfl
          have hfm : (bod (q ++ [pcOf p])).flatMap parcel = (bod q).flatMap parcel ++ parcel p.l := by rw [hbod, List.flatMap_append, List.flatMap_cons, List.flatMap_nil, List.append_nil]
          have hml : ((bod (q ++ [pcOf p])).flatMap parcel).length = M + (4 + p.n) := by rw [hfm, List.length_append, HM.out, parcel_length, hpn]
          refine ⟨k + 1, by omega, by go_num, ?_⟩
          rw [hmm, HQ.out]
          refine ⟨?_, ?_, ?_, hBr7⟩
          · rw [hml, hfm]; exact HOB7.out
          · rw [List.length_append, List.map_append]; exact HOW7.out
          · rw [List.length_append, hbod, endsI_snoc, ← hbod, hml]
            exact HOE7.out
        case measure => simp [intOf]; omega
      | false =>
        have HMY := Lib.hid hmy
        have hmb : p.n = 0 ∨ 32768 < p.n := by unfold mayB at hmy; have := of_decide_eq_false hmy; omega
        have hcs : decide ((1 : Int) ≤ (p.n : Int)) = false ∨ (decide ((1 : Int) ≤ (p.n : Int)) = true ∧ decide ((p.n : Int) ≤ 32768) = false) := by
          rcases hmb with h | h
          · left; simp; omega
          · right; constructor <;> simp <;> omega
        clear hmy hmb
        (repeat' ((fail_if_success at_builtin); first | go_values | go_skip | go_guarded | go_step | go_upon))
        refine (wirePutNo p.a p.n p.c p.l wr hpn (by omega) HMY.out).mono ?_
        rintro _ w4 ⟨rfl, hB4⟩
        dsimp only
        have hc4r := cell_below hB4 hcr (Nat.le_refl _)
        have hBr4 : Below w0.heap.size w0 w4 := hBr.trans (hB4.mono hBr.size)
        have HOB4 := Lib.hid (owns_below HOB.out hB4 (Nat.le_refl _))
        have HOW4 := Lib.hid (owns_below HOW.out hB4 (Nat.le_refl _))
        have HOE4 := Lib.hid (owns_below HOE.out hB4 (Nat.le_refl _))
        clear hcr
        rcases hcs with u1 | ⟨u1, u2⟩
        all_goals
          (repeat' ((fail_if_success at_builtin); first | go_values | go_skip | go_guarded | go_step | go_upon))
          go_roundw
          case rel =>
            have hmm := wnt_no HTK.out (by rw [hpn]; exact HMY.out)
            refine ⟨k + 1, by omega, by go_num, ?_⟩
            rw [hmm, HQ.out]
            exact ⟨by rw [HM.out]; exact HOB4.out, HOW4.out, HOE4.out, hBr4⟩
          case measure => simp [intOf]; omega
    · obtain rfl : k = n := by omega
      rw [← HEN.out, List.take_length] at hL hcb hcw hce ⊢
      have hps40 : ps.length ≤ 40 := by omega
      clear en
      obtain ⟨q, hq⟩ : ∃ q, wnt ps = q := ⟨_, rfl⟩
      have HQM := Lib.hid (show ∀ y ∈ q, ∃ p ∈ ps, pcOf p = y from fun y hy => wnt_mem (by rw [hq]; exact hy))
      rw [hq] at hL hfl hmayq hql hcb hcw hce ⊢
      obtain ⟨bs, hbs⟩ : ∃ bs, bod q = bs := ⟨_, rfl⟩
      have hbl : bs.length = q.length := by rw [← hbs]; unfold bod; rw [List.length_map]
      obtain ⟨F, hF⟩ : ∃ F, bs.flatMap parcel = F := ⟨_, rfl⟩
      have hLb := hL.b
      have hLe := hL.ends
      rw [hbs, hF] at hLb
      rw [hbs] at hLe hfl hmayq hcb ⊢
      rw [hF] at hfl hcb ⊢
      obtain ⟨m, hm⟩ : ∃ m, F.length = m := ⟨_, rfl⟩
      rw [hm] at hLb hfl hcb ⊢
      have hm8 : m ≤ 70000 := by have := HT4.out; omega
      have HFB := Lib.hid (rdc_of_owns hLb)
      have HFW := Lib.hid (rdc_of_owns hL.want)
      have HFE := Lib.hid (rdc_of_owns hLe)
      have HMAY := Lib.hid hmayq
      have HBS := Lib.hid hbs
      have HBL := Lib.hid hbl
      have HF := Lib.hid hF
      have HMM := Lib.hid hm
      have hq40 : q.length ≤ 40 := by omega
      have hBrw : Below w.heap.size w wr := hB00.trans (hBr.mono (by omega))
      have HPr := Lib.hid (HP0.out.below hBr)
      clear hL hLb hLe hfl hmayq hbs hF hm hq hql
      obtain ⟨wL, hwL⟩ : ∃ x, wr = x := ⟨_, rfl⟩
      rw [hwL] at HFB HFW HFE HPr hBr hBrw hz1 ⊢
      clear hwL
      (repeat' ((fail_if_success at_builtin); first | go_values | go_skip | go_guarded | go_step | go_upon))
      refine (inNew wL).mono ?_
      rintro _ w1 ⟨rfl, hi1, hB1, hs1⟩
      dsimp only
      obtain ⟨g, hg⟩ : ∃ g, wL.heap.size = g := ⟨_, rfl⟩
      have HIN1 := Lib.hid (show InB g w1 g [] false from ⟨none, by rw [← hg]; exact hi1, Nat.le_refl _, (fun k e => by cases e), by omega⟩)
      have hbg : ∀ blk o, ab = some ⟨blk, o, none⟩ → 0 < m → blk < g := fun blk o e h0 => by
        obtain ⟨b', o', e', hlt⟩ := HFB.out.lt (by rw [bvs_length, HMM.out]; exact h0)
        rw [e] at e'
        cases e'
        omega
      have HBG := Lib.hid hbg
      rw [hg] at hB1 ⊢
      have HG := Lib.hid hg
      have hBr1 : Below wL.heap.size wL w1 := by rw [HG.out]; exact hB1
      clear hi1 hg hbg
      (repeat' ((fail_if_success at_builtin); first | go_values | go_skip | go_guarded | go_step | go_upon))
      go_loopw [12, 13] (fun kk i wr => ∃ (i0 k0 : Nat) (R : List UInt8), i0 ≤ m + 1000 ∧ k0 ≤ bs.length ∧ kk = .int .i64 k0 ∧ i = .int .i64 i0 ∧ tell (F.take i0) = (bs.take k0, R, false) ∧ InB g wr g R false ∧ Below g w1 wr) (fun _ i _ => m - (intOf i).toNat)
      case atStart => exact ⟨0, 0, [], by omega, Nat.zero_le _, rfl, rfl, by rw [List.take_zero, List.take_zero]; rfl, HIN1.out, Below.refl _ _⟩
      case round =>
        obtain ⟨i0, k0, R, hi0, hk0, rfl, rfl, hte, hin, hBg⟩ := hrel
        have HTE := Lib.hid hte
        have HIN := Lib.hid hin
        clear hte hin
        by_cases hlt : i0 < m
        · obtain ⟨b, off, hab, hblt⟩ := HFB.out.lt (by rw [bvs_length, HMM.out]; omega)
          have hbgb := HBG.out b off hab (by omega)
          obtain ⟨e, he⟩ : ∃ e, min m (i0 + s) = e := ⟨_, rfl⟩
          have hek : i0 ≤ e ∧ e ≤ m := by omega
          have bk : (0 : Int) ≤ (i0 : Int) ∧ (i0 : Int) ≤ (e : Int) ∧ (e : Int) ≤ (cb : Int) := by omega
          have hpt := piece_take F i0 s (by rw [HMM.out]; exact hlt)
          rw [HMM.out, he] at hpt
          obtain ⟨k1, R1, g1, g2, g3, g4, g5⟩ := tell_more HMAY.out (i := i0) (s := s) (by rw [HF.out]; exact HTE.out) hk0 ((F.drop i0).take (e - i0)) (by rw [HF.out]; exact hpt)
          rw [HF.out] at g4
          have hRl : R.length ≤ i0 := by
            have := tell_rest_le (F.take i0)
            rw [HTE.out, List.length_take] at this
            simp only at this
            omega
          have HG3 := Lib.hid g3
          have HG4 := Lib.hid g4
          have HG5 := Lib.hid g5
          have hBL : Below wL.heap.size wL wr := by rw [HG.out]; exact hB1.trans hBg
          have hrp : RdB wr (some ⟨b, off + i0, none⟩) ((F.drop i0).take (e - i0)) := ((HFB.out.below hBL (Nat.le_refl _)).dropB i0 (fun _ => by rw [hab]; simp [Addr.add_lit])).takeB (e - i0)
          have hxl : ((F.drop i0).take (e - i0)).length = e - i0 := by rw [List.length_take, List.length_drop, HMM.out]; omega
          have HRP := Lib.hid hrp
          have HXL := Lib.hid hxl
          have HE := Lib.hid he
          have hck : ¬ cb = i0 := by omega
          have HAB := Lib.hid hab
          have hR80 : (R ++ (F.drop i0).take (e - i0)).length ≤ 80000 := by rw [List.length_append, hxl]; omega
          have HR80 := Lib.hid hR80
          clear hrp hxl he hpt g3 g4 g5 hR80
          subst hab
          (repeat' ((fail_if_success at_builtin); first | go_values | go_skip | go_guarded | go_step | go_upon))
          rw [show (min (m : Int) ((i0 : Int) + (s : Int))).toNat = e by rw [← HE.out]; omega]
          refine (feedOld g g R (some ⟨b, off + i0, none⟩) (e - i0) (cb - i0) ((F.drop i0).take (e - i0)) wr HIN.out HRP.out HXL.out (fun _ blk o e => by cases e; omega) (by omega)).mono ?_
          rintro _ w3 ⟨rfl, hin3, hB3⟩
          dsimp only
          have HIN3 := Lib.hid hin3
          clear hin3
          (repeat' ((fail_if_success at_builtin); first | go_values | go_skip | go_guarded | go_step | go_upon))
          refine (toldB g g _ w3 HIN3.out HR80.out).mono ?_
          rintro _ w4 ⟨a4, c4, qs, rfl, hT4, hqs, hin4, hB4⟩
          dsimp only
          rw [HG3.out] at hqs hin4 ⊢
          dsimp only at hqs hin4 ⊢
          rw [show (if (false : Bool) = true then (5 : Int) else 0) = 0 from rfl]
          obtain ⟨got, hgot⟩ : ∃ got, (bs.take k1).drop k0 = got := ⟨_, rfl⟩
          have hgl : got.length = k1 - k0 := by rw [← hgot, List.length_drop, List.length_take]; omega
          have hgg : ∀ j, j < k1 - k0 → got[j]? = bs[k0 + j]? := fun j hj => by rw [← hgot, List.getElem?_drop, List.getElem?_take, if_pos (by omega)]
          rw [hgot] at hqs
          have hqs2 : qs.map (·.l) = got := hqs
          have hqn : qs.length = k1 - k0 := by rw [← hgl, ← hqs2, List.length_map]
          have HQN := Lib.hid hqn
          have hqs40 : qs.length ≤ 40 := by omega
          have hB14 : Below g w1 w4 := hBg.trans (hB3.trans hB4)
          have hBL4 : Below wL.heap.size wL w4 := by rw [HG.out]; exact hB1.trans hB14
          have HT := Lib.hid hT4
          have HQS := Lib.hid hqs2
          have HIN4 := Lib.hid (show InB g w4 g R1 false from hin4)
          have HGG := Lib.hid hgg
          have hc4 := hT4.cap
          clear hqn hgl hT4 hqs hqs2 hin4 hgot hgg hB3 hB4
          (repeat' ((fail_if_success at_builtin); first | go_values | go_skip | go_guarded | go_step | go_upon))
          go_loopw [12, 16] (fun kk j wr => ∃ (j0 K : Nat), j0 ≤ qs.length ∧ K = k0 + j0 ∧ kk = .int .i64 K ∧ j = .int .i64 j0 ∧ Below w4.heap.size w4 wr) (fun _ j _ => qs.length - (intOf j).toNat)
          case atStart => exact ⟨0, k0, Nat.zero_le _, rfl, rfl, rfl, Below.refl _ _⟩
          case round =>
            obtain ⟨j0, K, hj0, hK, rfl, rfl, hBj⟩ := hrel
            have hqn := HQN.out
            by_cases hltj : j0 < qs.length
            · obtain ⟨p, bq, oq, hqa, hcq, hrq, hlq, hcq2, _, _, _, hgq⟩ := HT.out.at HQS.out hBj j0 hltj
              have hKq : K < q.length := by rw [← HBL.out]; omega
              obtain ⟨bw, ow, haw, _⟩ := HFW.out.lt (by rw [List.length_map]; omega)
              have hBLj : Below wL.heap.size wL wr := hBL4.trans (hBj.mono hBL4.size)
              have hFWj := HFW.out.below hBLj (Nat.le_refl _)
              rw [haw] at hFWj
              have hcw := hFWj.cell K (by rw [List.length_map]; exact hKq)
              rw [List.getElem_map] at hcw
              obtain ⟨P, hPm, hPe⟩ := HQM.out q[K] (List.getElem_mem hKq)
              have hPok := HPr.out.ok P hPm
              have hyl : (q[K]).l = p.l := by
                have h1 : bs[K]? = some (q[K]).l := by
                  rw [← HBS.out]
                  unfold bod
                  rw [List.getElem?_map, List.getElem?_eq_getElem hKq]
                  rfl
                rw [HGG.out j0 (by omega), ← hK, h1] at hgq
                exact Option.some.inj hgq
              have hry : RdB wr (q[K]).a (q[K]).l := by rw [← hPe]; exact hPok.rd.below hBLj (Nat.le_refl _)
              have hny : (q[K]).l.length = (q[K]).n := by rw [← hPe]; exact hPok.len
              have hny2 : p.n ≤ 1073741824 := by rw [← hlq, ← hyl, hny, ← hPe]; exact Nat.le_trans (Nat.le_of_lt (piece_le hPm)) (by have := HT4.out; omega)
              generalize q[K] = y at *
              have HRQ := Lib.hid hrq
              have HRY := Lib.hid hry
              have HYL := Lib.hid hyl
              have HLQ := Lib.hid hlq
              have HNY := Lib.hid hny
              have bK : (0 : Int) ≤ (K : Int) ∧ (K : Int) < (q.length : Int) := by omega
              have bj : (0 : Int) ≤ (j0 : Int) ∧ (j0 : Int) < (qs.length : Int) := by omega
              have u1 : decide ((q.length : Int) ≤ (K : Int)) = false := by simp; omega
              have u3 : decide (q.length ≤ K) = false := by simp; omega
              have u4 : decide ((K : Int) ≥ (q.length : Int)) = false := by simp; omega
              have u5 : ¬ q.length ≤ K := by omega
              have hcw2 : wr.cell? ⟨bw, ow + K, none⟩ = some (.slice y.a y.n y.c) := hcw
              have hS0 : PairS wr bq (oq + j0) bw (ow + K) (.slice p.a p.n p.c) (.slice y.a y.n y.c) wr.drew := pairs_below (w1 := wr) ⟨⟨hcq, hcw2⟩, Below.refl _ _⟩ (Below.refl _ _).drew
              have HKE := Lib.hid hK
              clear hrq hry hyl hlq hny hcw hcw2 hcq hgq hFWj hPm hPe hPok hK hqn
              subst hqa
              subst haw
              (repeat' ((fail_if_success at_builtin); first | go_values | go_skip | go_guarded | go_step | go_upon))
              refine wp_region_noPanic ?_
              refine wp_region_held_drew (S := PairS wr bq (oq + j0) bw (ow + K) (.slice p.a p.n p.c) (.slice y.a y.n y.c)) (by kernel_rfl) ?_ (fun hHeld => ?_)
              · (exact hS0)
              refine wpAnyH_take (i := 0) (oi := _) (v := ?_) rfl (by kernel_rfl) (by kernel_rfl) (by kernel_rfl) (fun _ _ _ h => h) (Or.inl ⟨by rfl, ?_⟩) (by assumption) ?_
              rotate_left 1
              · (intro w hSw; (try dsimp only at hSw); go_simp; all_goals (with_reducible rfl))
              try simp only [Act.put, List.getElem_toArray, List.getElem_cons_zero, List.getElem_cons_succ, List.setIfInBounds_toArray, List.set_cons_zero, List.set_cons_succ]
              refine wpAnyH_take (i := 1) (oi := _) (v := ?_) rfl (by kernel_rfl) (by kernel_rfl) (by kernel_rfl) (fun _ _ _ h => h) (Or.inl ⟨by rfl, ?_⟩) (by assumption) ?_
              rotate_left 1
              · (intro w hSw; (try dsimp only at hSw); go_simp; all_goals (with_reducible rfl))
              try simp only [Act.put, List.getElem_toArray, List.getElem_cons_zero, List.getElem_cons_succ, List.setIfInBounds_toArray, List.set_cons_zero, List.set_cons_succ]
              refine wpAnyH_take (i := 2) (oi := _) (v := ?_) rfl (by kernel_rfl) (by kernel_rfl) (by kernel_rfl) (fun _ _ _ h => h) (Or.inl ⟨by rfl, ?_⟩) (by assumption) ?_
              rotate_left 1
              · (intro w hSw; (try dsimp only at hSw); go_simp; all_goals (with_reducible rfl))
              try simp only [Act.put, List.getElem_toArray, List.getElem_cons_zero, List.getElem_cons_succ, List.setIfInBounds_toArray, List.set_cons_zero, List.set_cons_succ]
              refine wpAnyH_take (i := 3) (oi := _) (v := ?_) rfl (by kernel_rfl) (by kernel_rfl) (by kernel_rfl) (fun _ _ _ h => h) (Or.inl ⟨by rfl, ?_⟩) (by assumption) ?_
              rotate_left 1
              · (intro w hSw; (try dsimp only at hSw); go_simp; all_goals (with_reducible rfl))
              try simp only [Act.put, List.getElem_toArray, List.getElem_cons_zero, List.getElem_cons_succ, List.setIfInBounds_toArray, List.set_cons_zero, List.set_cons_succ]
              refine wpAnyH_take (i := 4) (oi := _) (v := ?_) rfl (by kernel_rfl) (by kernel_rfl) (by kernel_rfl) (fun _ _ _ h => h) (Or.inl ⟨by rfl, ?_⟩) (by assumption) ?_
              rotate_left 1
              · (intro w hSw; (try dsimp only at hSw); go_simp; all_goals (with_reducible rfl))
              try simp only [Act.put, List.getElem_toArray, List.getElem_cons_zero, List.getElem_cons_succ, List.setIfInBounds_toArray, List.set_cons_zero, List.set_cons_succ]
              refine wpAnyH_take (i := 5) (oi := _) (v := ?_) rfl (by kernel_rfl) (by kernel_rfl) (by kernel_rfl) (fun _ _ _ h => h) (Or.inl ⟨by kernel_rfl, ?_⟩) (by assumption) ?_
              rotate_left 1
              · (intro w hSw; (try dsimp only at hSw); go_simp; all_goals (with_reducible rfl))
              try simp only [Act.put, List.getElem_toArray, List.getElem_cons_zero, List.getElem_cons_succ, List.setIfInBounds_toArray, List.set_cons_zero, List.set_cons_succ]
              refine wpAnyH_take (i := 6) (oi := _) (v := ?_) rfl (by kernel_rfl) (by kernel_rfl) (by kernel_rfl) (fun _ _ _ h => h) (Or.inl ⟨by kernel_rfl, ?_⟩) (by assumption) ?_
              rotate_left 1
              · (intro w hSw; (try dsimp only at hSw); go_simp; all_goals (with_reducible rfl))
              try simp only [Act.put, List.getElem_toArray, List.getElem_cons_zero, List.getElem_cons_succ, List.setIfInBounds_toArray, List.set_cons_zero, List.set_cons_succ]
              refine wpAnyH_take (i := 7) (oi := _) (v := ?_) rfl (by kernel_rfl) (by kernel_rfl) (by kernel_rfl) (fun _ _ _ h => h) (Or.inl ⟨by kernel_rfl, ?_⟩) (by assumption) ?_
              rotate_left 1
              · (intro w hSw; (try dsimp only at hSw); go_simp; all_goals (with_reducible rfl))
              try simp only [Act.put, List.getElem_toArray, List.getElem_cons_zero, List.getElem_cons_succ, List.setIfInBounds_toArray, List.set_cons_zero, List.set_cons_succ]
              refine wpAnyH_take (i := 8) (oi := _) (v := ?_) rfl (by kernel_rfl) (by kernel_rfl) (by kernel_rfl) (fun _ _ _ h => h) (Or.inl ⟨by kernel_rfl, ?_⟩) (by assumption) ?_
              rotate_left 1
              · (intro w hSw; (try dsimp only at hSw); go_simp; all_goals (with_reducible rfl))
              try simp only [Act.put, List.getElem_toArray, List.getElem_cons_zero, List.getElem_cons_succ, List.setIfInBounds_toArray, List.set_cons_zero, List.set_cons_succ]
              refine wpAnyH_take (i := 9) (oi := _) (v := ?_) rfl (by kernel_rfl) (by kernel_rfl) (by kernel_rfl) (fun _ _ _ h => h) (Or.inl ⟨by kernel_rfl, ?_⟩) (by assumption) ?_
              rotate_left 1
              · (intro w hSw; (try dsimp only at hSw); go_simp; all_goals (with_reducible rfl))
              try simp only [Act.put, List.getElem_toArray, List.getElem_cons_zero, List.getElem_cons_succ, List.setIfInBounds_toArray, List.set_cons_zero, List.set_cons_succ]
              refine wpAnyH_take (i := 10) (oi := _) (v := ?_) rfl (by kernel_rfl) (by kernel_rfl) (by kernel_rfl) (fun _ _ _ h => h) (Or.inl ⟨by kernel_rfl, ?_⟩) (by assumption) ?_
              rotate_left 1
              · (intro w hSw; (try dsimp only at hSw); go_simp; all_goals (with_reducible rfl))
              try simp only [Act.put, List.getElem_toArray, List.getElem_cons_zero, List.getElem_cons_succ, List.setIfInBounds_toArray, List.set_cons_zero, List.set_cons_succ]
              refine wpAnyH_take (i := 11) (oi := _) (v := ?_) rfl (by kernel_rfl) (by kernel_rfl) (by kernel_rfl) (fun _ _ _ h => h) (Or.inl ⟨by kernel_rfl, ?_⟩) (by assumption) ?_
              rotate_left 1
              · (intro w hSw; (try dsimp only at hSw); go_simp; all_goals (with_reducible rfl))
              try simp only [Act.put, List.getElem_toArray, List.getElem_cons_zero, List.getElem_cons_succ, List.setIfInBounds_toArray, List.set_cons_zero, List.set_cons_succ]
              refine wpAnyH_take (i := 12) (oi := _) (v := ?_) rfl (by kernel_rfl) (by kernel_rfl) (by kernel_rfl) (fun _ _ _ h => h) (Or.inl ⟨by kernel_rfl, ?_⟩) (by assumption) ?_
              rotate_left 1
              · (intro w hSw; (try dsimp only at hSw); go_simp; all_goals (with_reducible rfl))
              try simp only [Act.put, List.getElem_toArray, List.getElem_cons_zero, List.getElem_cons_succ, List.setIfInBounds_toArray, List.set_cons_zero, List.set_cons_succ]
              refine wpAnyH_ready (rs := [13]) (by kernel_rfl) (by simp) ?_
              refine AllReadyH.cons (o := _) rfl (fun K hK => ?_) ?_
              rotate_left 1
              · exact AllReadyH.nil
              go_simp
              go_at_call 12
              refine (same_yes (HRQ.out.below hHeld.2 (Nat.le_refl _)) (HRY.out.below hHeld.2 (Nat.le_refl _)) HLQ.out HNY.out hny2 HYL.out.symm).mono ?_
              rintro _ wA ⟨rfl, hsA⟩
              dsimp only
              refine hK.out _ _ ?_ (fun hHeld => ?_)
              · (exact pairs_below hHeld (hsA.below _))
              clear hK K
              try simp only [Act.put, List.getElem_toArray, List.getElem_cons_zero, List.getElem_cons_succ, List.setIfInBounds_toArray, List.set_cons_zero, List.set_cons_succ]
              refine wpAnyH_take (i := 14) (oi := _) (v := ?_) rfl (by kernel_rfl) (by kernel_rfl) (by kernel_rfl) (fun _ _ _ h => h) (Or.inl ⟨by kernel_rfl, ?_⟩) (by assumption) ?_
              rotate_left 1
              · (intro w hSw; (try dsimp only at hSw); go_simp; all_goals (with_reducible rfl))
              try simp only [Act.put, List.getElem_toArray, List.getElem_cons_zero, List.getElem_cons_succ, List.setIfInBounds_toArray, List.set_cons_zero, List.set_cons_succ]
              refine wpAnyH_take (i := 15) (oi := _) (v := ?_) rfl (by kernel_rfl) (by kernel_rfl) (by kernel_rfl) (fun _ _ _ h => h) (Or.inl ⟨by kernel_rfl, ?_⟩) (by assumption) ?_
              rotate_left 1
              · (intro w hSw; (try dsimp only at hSw); go_simp; all_goals (with_reducible rfl))
              try simp only [Act.put, List.getElem_toArray, List.getElem_cons_zero, List.getElem_cons_succ, List.setIfInBounds_toArray, List.set_cons_zero, List.set_cons_succ]
              refine wpAnyH_done (by kernel_rfl) ?_ _
              refine NoPanic.normal ?_
              have hBjA : Below w4.heap.size w4 wA := hBj.trans (hHeld.2.mono hBj.size)
              clear hHeld hS0 hsA
              (repeat' ((fail_if_success at_builtin); first | go_values | go_skip | go_guarded | go_step | go_upon))
              go_roundw
              case rel =>
               exact ⟨j0 + 1, K + 1, by omega, by have := HKE.out; omega, by go_num, by go_num, hBjA⟩
              case measure => simp [intOf]; omega
            · obtain rfl : j0 = qs.length := by omega
              have hKk : K = k1 := by omega
              subst hKk
              clear hK hqn
              have hBgj : Below g w1 wr := hB14.trans (hBj.mono (by have := hB14.size; have := HG.out; omega))
              have HINj := Lib.hid (HIN4.out.below hBj)
              have hBLj : Below wL.heap.size wL wr := hBL4.trans (hBj.mono hBL4.size)
              by_cases hk1 : K < q.length
              · have u1 : decide ((K : Int) < (q.length : Int)) = true := by simp; omega
                have hkb : K < bs.length := by rw [HBL.out]; exact hk1
                have hg5 := HG5.out hkb
                obtain ⟨be, oe, hae, _⟩ := HFE.out.lt (by rw [endsI_length]; omega)
                have hFEj := HFE.out.below hBLj (Nat.le_refl _)
                rw [hae] at hFEj
                have hce2 := hFEj.cell K (by rw [endsI_length]; exact hkb)
                rw [endsI_get bs K hkb (by rw [endsI_length]; exact hkb)] at hce2
                generalize ((bs.take (K + 1)).flatMap parcel).length = Z at hce2 hg5
                have u2 : decide ((Z : Int) ≤ (i0 : Int) + (s : Int)) = false := by simp; omega
                have bK : (0 : Int) ≤ (K : Int) ∧ (K : Int) < (q.length : Int) := by omega
                clear hFEj
                subst hae
                (repeat' ((fail_if_success at_builtin); first | go_values | go_skip | go_guarded | go_step | go_upon))
                go_roundw
                case rel => exact ⟨i0 + s, K, R1, by omega, g2, rfl, by go_num, HG4.out, HINj.out, hBgj⟩
                case measure => simp [intOf]; omega
              · have u1 : decide ((K : Int) < (q.length : Int)) = false := by simp; omega
                (repeat' ((fail_if_success at_builtin); first | go_values | go_skip | go_guarded | go_step | go_upon))
                go_roundw
                case rel => exact ⟨i0 + s, K, R1, by omega, g2, rfl, by go_num, HG4.out, HINj.out, hBgj⟩
                case measure => simp [intOf]; omega
        · obtain ⟨k2, R2, g1, g2, _, g4⟩ := tell_take bs HMAY.out i0
          obtain ⟨g5, g6⟩ := g4 (by rw [HF.out, HMM.out]; omega)
          rw [HF.out, HTE.out] at g2
          simp only [Prod.mk.injEq] at g2
          obtain ⟨e1, e2, _⟩ := g2
          have hkq : k0 = q.length := by
            have := congrArg List.length e1
            rw [List.length_take, List.length_take] at this
            rw [← HBL.out]
            omega
          have hR0 : R = [] := by rw [e2, g6]
          subst hR0
          have u1 : ((k0 : Int) == (q.length : Int)) = true := by rw [hkq]; simp
          have hBw : Below w.heap.size w wr := by
            have h1 := hB1.trans hBg
            have h2 : Below wL.heap.size wL wr := by rw [HG.out]; exact h1
            exact hBrw.trans (h2.mono hBrw.size)
          clear e1 e2 g1 g4 g5 g6
          (repeat' ((fail_if_success at_builtin); first | go_values | go_skip | go_guarded | go_step | go_upon))
          refine (waitsB g g [] false wr HIN.out).mono ?_
          rintro _ w3 ⟨rfl, _, hB3⟩
          dsimp only
          (repeat' ((fail_if_success at_builtin); first | go_values | go_skip | go_guarded | go_step | go_upon))
          refine (works27 w3).mono ?_
          rintro _ w4 ⟨rfl, hB4⟩
          dsimp only
          (repeat' ((fail_if_success at_builtin); first | go_values | go_skip | go_guarded | go_step | go_upon))
          go_ret
          exact ⟨rfl, hBw.trans ((hB3.trans (hB4.mono hB3.size)).mono hBw.size)⟩

end Go.Proofs.YthgaghpakioglaaDoor
