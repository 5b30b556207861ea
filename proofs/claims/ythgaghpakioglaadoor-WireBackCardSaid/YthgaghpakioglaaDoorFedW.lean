/- The walk of sealerylaw27.fed; the law WirePieces, walked. -/
import Derived.Test.YthgaghpakioglaaDoorFed27
namespace Go.Proofs.YthgaghpakioglaaDoor
set_option linter.unusedSimpArgs false
set_option linter.unusedVariables false
open Go.RowKit
set_option maxRecDepth 10000

theorem piece_take (l : List UInt8) (k s : Nat) (hk : k < l.length) : l.take k ++ (l.drop k).take (min l.length (k + s) - k) = l.take (k + s) := by
  rw [← List.take_add]
  by_cases h : k + s ≤ l.length
  · rw [show k + (min l.length (k + s) - k) = k + s by omega]
  · rw [show k + (min l.length (k + s) - k) = l.length by omega, List.take_of_length_le (Nat.le_refl _), List.take_of_length_le (by omega)]

/-- How fed's loop stands. -/
structure FedAt (w w1 : World) (B n : Nat) (l : List UInt8) (v e i : Value) (wr : World) : Prop where
  out : ∃ (k : Nat) (r : Option Nat) (ps : List Pc), k ≤ n + 1000 ∧ i = .int .i64 k ∧ e = .int .i64 (if (tell (l.take k)).2.2 then 5 else 0) ∧ RdSt B wr B r v ps (tell (l.take k)).2.1 (tell (l.take k)).2.2 ∧ ps.map (·.l) = (tell (l.take k)).1 ∧ Below B w wr

/-- A list of bytes, and a reader, in new memory. -/
structure FedOut (w w' : World) (g : Nat) (a : Option Addr) (n c : Nat) (ps : List Pc) (R : List UInt8) (br : Bool) : Prop where
  rdr : InB w.heap.size w' g R br
  row : PcRow w' a ps
  len : ps.length = n
  cap : n ≤ c

set_option maxHeartbeats 4000000 in
theorem fed27 (a : Option Addr) (n c : Nat) (l : List UInt8) (s : Nat) (w : World) (h : RdB w a l) (en : l.length = n) (hn : n ≤ c) (hc : c ≤ 9223372036854775807) (hn2 : n ≤ 70000) (hs : 1 ≤ s ∧ s ≤ 1000) :
    Calls Tryd.prog 21 #[.slice a n c, .int .i64 (s : Int)] w fun e w' => ∃ (g : Nat) (a3 : Option Addr) (n3 c3 : Nat) (ps : List Pc), e = .returned (.tuple #[.pointer (some ⟨g, 0, none⟩), .slice a3 n3 c3, .int .i64 (if (tell l).2.2 then 5 else 0)]) ∧ FedOut w w' g a3 n3 c3 ps (tell l).2.1 (tell l).2.2 ∧ ps.map (·.l) = (tell l).1 ∧ Below w.heap.size w w' := by
  have HR := Lib.hid h; clear h
  go_enter Tryd.func21, Tryd.ntmps21
  (repeat' ((fail_if_success at_builtin); first | go_values | go_skip | go_guarded | go_step | go_upon))
  refine (inNew w).mono ?_
  rintro _ w1 ⟨rfl, hi1, hB1, hs1⟩
  dsimp only
  obtain ⟨B, hB⟩ : ∃ B, w.heap.size = B := ⟨_, rfl⟩
  rw [hB] at hi1 hB1 hs1 ⊢
  have HI1 := Lib.hid hi1; clear hi1
  (repeat' ((fail_if_success at_builtin); first | go_values | go_skip | go_guarded | go_step | go_upon))
  go_loopw [8, 9, 10] (fun v e i wr => FedAt w w1 B n l v e i wr) (fun _ _ i _ => n - (intOf i).toNat)
  case atStart => exact ⟨⟨0, none, [], by omega, rfl, rfl, ⟨World.ownsRow_nil _ _ _ _, (fun p hp => by cases hp), HI1.out, Nat.le_refl _, (fun k e => by cases e), by omega⟩, rfl, hB1⟩⟩
  case round =>
    obtain ⟨⟨k, r, ps, hk, rfl, rfl, hst, hps, hBr⟩⟩ := hrel
    obtain ⟨a8, c8, rfl, hc8, _, _⟩ := owns_slice hst.own
    by_cases hlt : k < n
    · obtain ⟨b, off, rfl, hblt⟩ := HR.out.lt (by rw [bvs_length]; omega)
      obtain ⟨e, he⟩ : ∃ e, min n (k + s) = e := ⟨_, rfl⟩
      have hek : k ≤ e ∧ e ≤ n := by omega
      have bk : (0 : Int) ≤ (k : Int) ∧ (k : Int) ≤ (e : Int) ∧ (e : Int) ≤ (c : Int) := by omega
      have hpt := piece_take l k s (by omega)
      rw [en, he] at hpt
      have hrp : RdB wr (some ⟨b, off + k, none⟩) ((l.drop k).take (e - k)) := ((HR.out.below (show Below w.heap.size w wr by rw [hB]; exact hBr) (Nat.le_refl _)).dropB k (fun _ => by simp [Addr.add_lit])).takeB (e - k)
      have hck : ¬ c = k := by omega
      have hrl := tell_rest_le (l.take k)
      rw [List.length_take] at hrl
      have hxl : ((l.drop k).take (e - k)).length = e - k := by rw [List.length_take, List.length_drop]; omega
      have hml := tell_many_le (l.take (k + s))
      rw [List.length_take] at hml
      have hstep := tell_step (l.take k) ((l.drop k).take (e - k))
      rw [hpt] at hstep
      have HSTEP := Lib.hid hstep
      have HRP := Lib.hid hrp; clear hrp
      have HE := Lib.hid he; clear he
      have HST := Lib.hid hst; clear hst
      have HPS := Lib.hid hps; clear hps
      have HXL := Lib.hid hxl; clear hxl
      clear hpt hstep
      obtain ⟨E0, hE0⟩ : ∃ E0 : Int, (if (tell (l.take k)).2.2 then 5 else 0) = E0 := ⟨_, rfl⟩
      rw [hE0]
      clear hE0
      (repeat' ((fail_if_success at_builtin); first | go_values | go_skip | go_guarded | go_step | go_upon))
      rw [show (min (n : Int) ((k : Int) + (s : Int))).toNat = e by rw [← HE.out]; omega]
      refine (feedSt HST.out (some ⟨b, off + k, none⟩) (e - k) (c - k) _ HRP.out HXL.out (fun _ blk o e => by cases e; omega) (by omega)).mono ?_
      rintro _ w3 ⟨rfl, r3, hst3, hB3⟩
      dsimp only
      obtain ⟨R3, hR3⟩ : ∃ R3, (if (tell (l.take k)).2.2 = true then (tell (l.take k)).2.1 else (tell (l.take k)).2.1 ++ (l.drop k).take (e - k)) = R3 := ⟨_, rfl⟩
      have hR3l : R3.length ≤ 80000 := by
        rw [← hR3]; split
        · omega
        · rw [List.length_append, HXL.out]; omega
      rw [hR3] at hst3
      have HS2 := HSTEP.out
      rw [hR3] at HS2
      have HSTEP2 := Lib.hid HS2; clear HS2
      have HST3 := Lib.hid hst3; clear hst3 hR3
      have hBr3 : Below B w w3 := hBr.trans hB3
      (repeat' ((fail_if_success at_builtin); first | go_values | go_skip | go_guarded | go_step | go_upon))
      refine (toldSt HST3.out hR3l).mono ?_
      rintro _ w4 ⟨a4, c4, qs, rfl, hst4, hgot, hqs, hB4⟩
      dsimp only
      have hBr4 : Below B w w4 := hBr3.trans hB4
      have hc4 := hgot.cap
      have hall : (ps ++ qs).map (·.l) = (tell (l.take (k + s))).1 := by rw [List.map_append, HPS.out, hqs, HSTEP2.out]
      have hcnt : ps.length + qs.length ≤ 1000000 := by
        have h1 := congrArg List.length hall
        rw [List.length_map, List.length_append] at h1
        omega
      have HST4 := Lib.hid hst4; clear hst4
      have HGOT := Lib.hid hgot; clear hgot
      have HALL := Lib.hid hall; clear hall hqs
      have hrd3 := HST3.out.rdr
      have hg3 := hrd3.lt
      have hr3lt : ∀ k, r3 = some k → k < w3.heap.size := fun k e => by subst e; exact hrd3.rlt
      have hz3 := HST3.out.size
      clear hrd3
      obtain ⟨E1, hE1⟩ : ∃ E1 : Int, (if (toldS R3 (tell (l.take k)).2.2).2.2 = true then 5 else 0) = E1 := ⟨_, rfl⟩
      rw [hE1]
      (repeat' ((fail_if_success at_builtin); first | go_values | go_skip | go_guarded | go_step | go_upon))
      refine appSt HST4.out HGOT.out ⟨hg3, hz3⟩ hr3lt rfl _ _ rfl rfl rfl hcnt ?_
      intro v5 w5 hst5 hB5
      have HST5 := Lib.hid hst5; clear hst5
      obtain ⟨a5, c5, rfl, hc5, _, _⟩ := owns_slice HST5.out.own
      (repeat' ((fail_if_success at_builtin); first | go_values | go_skip | go_guarded | go_step | go_upon))
      go_roundw
      case rel =>
        have h2 := congrArg (fun x => x.2) HSTEP2.out
        simp only at h2
        refine ⟨⟨k + s, r3, ps ++ qs, by omega, by go_num, by rw [h2, hE1], ?_, HALL.out, hBr4.trans hB5⟩⟩
        rw [h2]
        have h5 := HST5.out
        rw [List.length_append] at h5
        exact h5
      case measure => simp [intOf]; omega
    · have htk : l.take k = l := List.take_of_length_le (by omega)
      rw [htk] at hst hps ⊢
      obtain ⟨E0, hE0⟩ : ∃ E0 : Int, (if (tell l).2.2 then 5 else 0) = E0 := ⟨_, rfl⟩
      rw [hE0]
      have HST := Lib.hid hst; clear hst
      (repeat' ((fail_if_success at_builtin); first | go_values | go_skip | go_guarded | go_step | go_upon))
      go_ret3
      exact ⟨B, a8, _, c8, ps, (by rw [hE0]; rfl), ⟨⟨r, HST.out.rdr, by rw [hB]; exact Nat.le_refl _, by rw [hB]; exact HST.out.low2, by rw [hB]; exact HST.out.size⟩, ⟨rdc_of_owns HST.out.own, fun p hp => (HST.out.ok p hp).1⟩, rfl, hc8⟩, hps, by rw [hB]; exact hBr⟩

theorem tell_small {l b : List UInt8} (h : b ∈ (tell l).1) : b.length ≤ l.length := by
  obtain ⟨m, h1, _⟩ := (tell_form l).eq
  have hl := congrArg List.length h1
  rw [List.length_append] at hl
  have key : ∀ L : List (List UInt8), b ∈ L → b.length ≤ (L.flatMap parcel).length := by
    intro L
    induction L with
    | nil => intro h; cases h
    | cons x L ih =>
      intro h
      rw [List.flatMap_cons, List.length_append]
      rcases List.mem_cons.1 h with rfl | h
      · rw [parcel_length]; omega
      · have := ih h; omega
  have := key _ h
  omega
theorem pcs_small {ps : List Pc} {l : List UInt8} {w : World} (h : ps.map (·.l) = (tell l).1) (hok : ∀ p ∈ ps, p.Ok w) (hl : l.length ≤ 70000) : ∀ p ∈ ps, p.n ≤ 1073741824 := fun p hp => by
  have h1 := tell_small (l := l) (b := p.l) (by rw [← h]; exact List.mem_map.2 ⟨p, hp, rfl⟩)
  have h2 := (hok p hp).len
  omega
theorem pcs_count {ps : List Pc} {l : List UInt8} (h : ps.map (·.l) = (tell l).1) (hl : l.length ≤ 70000) : ps.length ≤ 70000 := by
  have h1 := tell_many_le l
  rw [← h, List.length_map] at h1
  omega

set_option maxHeartbeats 8000000 in
theorem wirePieces_walk (a : Option Addr) (n c : Nat) (l : List UInt8) (x y : Int) (w : World) (h : RdB w a l) (en : l.length = n) (hn : n ≤ c) (hc : c ≤ 9223372036854775807)
    (hx : -9223372036854775808 ≤ x ∧ x ≤ 9223372036854775807) (hy : -9223372036854775808 ≤ y ∧ y ≤ 9223372036854775807) :
    Calls Tryd.prog 5 #[.slice a n c, .int .i64 x, .int .i64 y] w fun e w' => e = .returned (.bool true) ∧ Below w.heap.size w w' := by
  have HR := Lib.hid h; clear h
  by_cases hb : 2048 < n
  · have t1 : decide ((2048 : Int) < (n : Int)) = true := by simp; omega
    go_enter Tryd.func5, Tryd.ntmps5
    (repeat' ((fail_if_success at_builtin); first | go_values | go_skip | go_guarded | go_step | go_upon))
    refine (works27 w).mono ?_
    rintro _ w1 ⟨rfl, hB1⟩
    dsimp only
    (repeat' ((fail_if_success at_builtin); first | go_values | go_skip | go_guarded | go_step | go_upon))
    go_ret
    exact ⟨rfl, hB1⟩
  have t1 : decide ((2048 : Int) < (n : Int)) = false := by simp; omega
  have b1 := pick_lt x 700 (by omega)
  have b2 := pick_lt y 700 (by omega)
  obtain ⟨p1, hp1⟩ : ∃ p, pick x 700 = p := ⟨_, rfl⟩
  obtain ⟨p2, hp2⟩ : ∃ p, pick y 700 = p := ⟨_, rfl⟩
  rw [hp1] at b1
  rw [hp2] at b2
  obtain ⟨s1, hs1⟩ : ∃ s : Nat, 1 + p1 = (s : Int) := ⟨(1 + p1).toNat, by omega⟩
  obtain ⟨s2, hs2⟩ : ∃ s : Nat, 1 + p2 = (s : Int) := ⟨(1 + p2).toNat, by omega⟩
  go_enter Tryd.func5, Tryd.ntmps5
  (repeat' ((fail_if_success at_builtin); first | go_values | go_skip | go_guarded | go_step | go_upon))
  refine (pickAny x 700 w hx (by omega)).mono ?_
  rintro _ w0 ⟨rfl, rfl⟩
  dsimp only
  rw [hp1]
  have hsb1 : 1 ≤ s1 ∧ s1 ≤ 1000 := by omega
  have hsb2 : 1 ≤ s2 ∧ s2 ≤ 1000 := by omega
  have HS1 := Lib.hid hs1
  have HS2 := Lib.hid hs2
  have HP2 := Lib.hid hp2
  clear hs1 hs2 hp1 hp2
  (repeat' ((fail_if_success at_builtin); first | go_values | go_skip | go_guarded | go_step | go_upon))
  rw [HS1.out]
  refine (fed27 a n c l s1 w HR.out en hn hc (by omega) hsb1).mono ?_
  rintro _ w1 ⟨g1, a1, n1, c1, ps1, rfl, hF1, hm1, hB1⟩
  dsimp only
  obtain ⟨E, hE⟩ : ∃ E : Int, (if (tell l).2.2 = true then 5 else 0) = E := ⟨_, rfl⟩
  rw [hE]
  have HF1 := Lib.hid hF1
  have HM1 := Lib.hid hm1
  clear hF1 hm1
  (repeat' ((fail_if_success at_builtin); first | go_values | go_skip | go_guarded | go_step | go_upon))
  refine (pickAny y 700 w1 hy (by omega)).mono ?_
  rintro _ w1' ⟨rfl, rfl⟩
  dsimp only
  rw [HP2.out]
  (repeat' ((fail_if_success at_builtin); first | go_values | go_skip | go_guarded | go_step | go_upon))
  rw [HS2.out]
  refine (fed27 a n c l s2 w1 (HR.out.below hB1 (Nat.le_refl _)) en hn hc (by omega) hsb2).mono ?_
  rintro _ w2 ⟨g2, a2, n2, c2, ps2, rfl, hF2, hm2, hB2⟩
  dsimp only
  rw [hE]
  have HF2 := Lib.hid hF2
  have HM2 := Lib.hid hm2
  clear hF2 hm2
  have hB02 : Below w.heap.size w w2 := hB1.trans (hB2.mono hB1.size)
  (repeat' ((fail_if_success at_builtin); first | go_values | go_skip | go_guarded | go_step | go_upon))
  refine (inNew w2).mono ?_
  rintro _ w3 ⟨rfl, hi3, hB3, hs3⟩
  dsimp only
  obtain ⟨g, hg⟩ : ∃ g, w2.heap.size = g := ⟨_, rfl⟩
  have hin3 : InB g w3 g [] false := ⟨none, by rw [← hg]; exact hi3, Nat.le_refl _, (fun k e => by cases e), by omega⟩
  have HI3 := Lib.hid hin3
  have hB03 : Below w.heap.size w w3 := hB02.trans (hB3.mono hB02.size)
  have hwg : w.heap.size ≤ g := by have := hB02.size; omega
  rw [hg] at hB3 ⊢
  have HG := Lib.hid hg
  clear hin3 hi3 hg
  have HOLD := Lib.hid (show 0 < l.length → ∀ blk o, a = some ⟨blk, o, none⟩ → blk < g from fun h0 blk o e => by
    obtain ⟨b', o', e', hlt⟩ := HR.out.lt (by rw [bvs_length]; exact h0)
    rw [e] at e'
    cases e'
    omega)
  (repeat' ((fail_if_success at_builtin); first | go_values | go_skip | go_guarded | go_step | go_upon))
  refine (feedOld g g [] a n c l w3 HI3.out (HR.out.below hB03 (Nat.le_refl _)) en HOLD.out (by show 0 + n ≤ 1000000; omega)).mono ?_
  rintro _ w4 ⟨rfl, hi4, hB4⟩
  dsimp only
  rw [List.nil_append] at hi4
  have HI4 := Lib.hid hi4
  clear hi4
  (repeat' ((fail_if_success at_builtin); first | go_values | go_skip | go_guarded | go_step | go_upon))
  refine (toldB g g l w4 HI4.out (by omega)).mono ?_
  rintro _ w5 ⟨a5, c5, qs, rfl, hT5, hqs, hi5, hB5⟩
  dsimp only
  rw [hE]
  have HI5 := Lib.hid hi5
  have HT5 := Lib.hid hT5
  have HQS := Lib.hid hqs
  have hB2' : Below g w2 w5 := hB3.trans (hB4.trans hB5)
  have hB25 : Below w2.heap.size w2 w5 := by rw [HG.out]; exact hB2'
  have hB15 : Below w1.heap.size w1 w5 := hB2.trans (hB25.mono hB2.size)
  have hB05 : Below w.heap.size w w5 := hB1.trans (hB15.mono hB1.size)
  have hR1 : InB w.heap.size w5 g1 (tell l).2.1 (tell l).2.2 := HF1.out.rdr.below hB15
  have hR2 : InB w1.heap.size w5 g2 (tell l).2.1 (tell l).2.2 := HF2.out.rdr.below hB25
  have HR1 := Lib.hid hR1
  have HR2 := Lib.hid hR2
  have HQ1 := Lib.hid (HF1.out.row.below hB15)
  have HQ2 := Lib.hid (HF2.out.row.below hB25)
  have HQ5 := Lib.hid (show PcRow w5 a5 qs from ⟨rdc_of_owns HT5.out.own, fun p hp => (HT5.out.ok p hp).1⟩)
  clear hi5 hT5 hR1 hR2
  by_cases hn0 : n = 0
  · have hl0 : l = [] := List.eq_nil_of_length_eq_zero (by omega)
    have hE0 : E = 0 := by rw [← hE, hl0]; rfl
    have hq0 : qs.length = 0 := by
      rw [hl0] at hqs
      have := congrArg List.length hqs
      simpa using this.trans (show (tell []).1.length = 0 from rfl)
    rw [hq0]
    clear hqs hE hl0
    subst hE0
    have t0 : ((n : Int) == 0) = true := by simp; omega
    (repeat' ((fail_if_success at_builtin); first | go_values | go_skip | go_guarded | go_step | go_upon))
    refine (works27 w5).mono ?_
    rintro _ w6 ⟨rfl, hB6⟩
    dsimp only
    (repeat' ((fail_if_success at_builtin); first | go_values | go_skip | go_guarded | go_step | go_upon))
    go_ret
    exact ⟨rfl, hB05.trans (hB6.mono hB05.size)⟩
  · have t0 : ((n : Int) == 0) = false := by rw [beq_eq_false_iff_ne]; omega
    have tE : (E == E) = true := by simp
    obtain ⟨R, hRe⟩ : ∃ R, (tell l).2.1 = R := ⟨_, rfl⟩
    obtain ⟨br, hbr⟩ : ∃ br, (tell l).2.2 = br := ⟨_, rfl⟩
    rw [hRe, hbr] at HR1 HR2 HI5
    have tR : ((R.length : Int) == (R.length : Int)) = true := by simp
    have HQSC := Lib.hid hqs
    clear hqs hE hRe hbr
    (repeat' ((fail_if_success at_builtin); first | go_values | go_skip | go_guarded | go_step | go_upon))
    refine (waitsB _ g1 R br w5 HR1.out).mono ?_
    rintro _ w6 ⟨rfl, _, hB6⟩
    dsimp only
    (repeat' ((fail_if_success at_builtin); first | go_values | go_skip | go_guarded | go_step | go_upon))
    refine (waitsB _ g2 R br w6 (HR2.out.below hB6)).mono ?_
    rintro _ w7 ⟨rfl, _, hB7⟩
    dsimp only
    have hB57 := hB6.trans (hB7.mono hB6.size)
    (repeat' ((fail_if_success at_builtin); first | go_values | go_skip | go_guarded | go_step | go_upon))
    refine (waitsB _ g2 R br w7 (HR2.out.below hB57)).mono ?_
    rintro _ w8 ⟨rfl, _, hB8⟩
    dsimp only
    have hB58 := hB57.trans (hB8.mono hB57.size)
    (repeat' ((fail_if_success at_builtin); first | go_values | go_skip | go_guarded | go_step | go_upon))
    refine (waitsB _ g R br w8 (HI5.out.below hB58)).mono ?_
    rintro _ w9 ⟨rfl, _, hB9⟩
    dsimp only
    have hB59 := hB58.trans (hB9.mono hB58.size)
    have HL1 := Lib.hid HF1.out.len
    have HL2 := Lib.hid HF2.out.len
    have hn1 : n1 ≤ 70000 := by have := pcs_count HM1.out (by omega); have := HL1.out; omega
    have hn2 : n2 ≤ 70000 := by have := pcs_count HM2.out (by omega); have := HL2.out; omega
    (repeat' ((fail_if_success at_builtin); first | go_values | go_skip | go_guarded | go_step | go_upon))
    refine (sameNested a1 a2 n1 n2 c1 c2 ps1 ps2 w9 (HQ1.out.below hB59) (HQ2.out.below hB59) HL1.out HL2.out (by omega) (pcs_small HM1.out HQ1.out.ok (by omega)) (HM1.out.trans HM2.out.symm)).mono ?_
    rintro _ wA ⟨rfl, hSA⟩
    dsimp only
    have hB5A := hB59.trans ((hSA.below w9.heap.size).mono hB59.size)
    (repeat' ((fail_if_success at_builtin); first | go_values | go_skip | go_guarded | go_step | go_upon))
    refine (sameNested a2 a5 n2 _ c2 c5 ps2 qs wA (HQ2.out.below hB5A) (HQ5.out.below hB5A) HL2.out rfl (by omega) (pcs_small HM2.out HQ2.out.ok (by omega)) (HM2.out.trans HQSC.out.symm)).mono ?_
    rintro _ wB ⟨rfl, hSB⟩
    dsimp only
    have hB5B := hB5A.trans ((hSB.below wA.heap.size).mono hB5A.size)
    have hB0B : Below w.heap.size w wB := hB05.trans (hB5B.mono hB05.size)
    (repeat' ((fail_if_success at_builtin); first | go_values | go_skip | go_guarded | go_step | go_upon))
    refine (works27 wB).mono ?_
    rintro _ wC ⟨rfl, hBC⟩
    dsimp only
    (repeat' ((fail_if_success at_builtin); first | go_values | go_skip | go_guarded | go_step | go_upon))
    go_ret
    exact ⟨rfl, hB0B.trans (hBC.mono hB0B.size)⟩

end Go.Proofs.YthgaghpakioglaaDoor
