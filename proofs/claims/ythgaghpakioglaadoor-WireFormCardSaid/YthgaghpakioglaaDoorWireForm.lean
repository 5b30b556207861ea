/- The law WireForm, walked. -/
import Derived.Test.YthgaghpakioglaaDoorForm27
namespace Go.Proofs.YthgaghpakioglaaDoor
set_option linter.unusedSimpArgs false
set_option linter.unusedVariables false
open Go.RowKit
set_option maxRecDepth 10000

/-- How the loop stands: k bodies were put again. -/
structure FormAt (wt : World) (bs : List (List UInt8)) (n : Nat) (v i : Value) (wr : World) : Prop where
  out : ∃ (k m : Nat), k ≤ n ∧ i = .int .i64 k ∧ Below wt.heap.size wt wr ∧ ((bs.take k).flatMap parcel).length = m ∧ wr.ownsRow wt.heap.size 5 1 v m (bvs ((bs.take k).flatMap parcel))

set_option maxHeartbeats 4000000 in
theorem wireForm_walk (a : Option Addr) (n c : Nat) (l : List UInt8) (w : World) (h : RdB w a l) (en : l.length = n) (hn : n ≤ c) (hc : c ≤ 9223372036854775807) :
    Calls Tryd.prog 6 #[.slice a n c] w fun e w' => e = .returned (.bool true) ∧ Below w.heap.size w w' := by
  have HR := Lib.hid h; clear h
  by_cases hb : 65536 < n
  · have t1 : decide ((65536 : Int) < (n : Int)) = true := by simp; omega
    go_enter Tryd.func6, Tryd.ntmps6
    (repeat' ((fail_if_success at_builtin); first | go_values | go_skip | go_guarded | go_step | go_upon))
    refine (works27 w).mono ?_
    rintro _ w1 ⟨rfl, hB1⟩
    dsimp only
    (repeat' ((fail_if_success at_builtin); first | go_values | go_skip | go_guarded | go_step | go_upon))
    go_ret
    exact ⟨rfl, hB1⟩
  · have t1 : decide ((65536 : Int) < (n : Int)) = false := by simp; omega
    go_enter Tryd.func6, Tryd.ntmps6
    (repeat' ((fail_if_success at_builtin); first | go_values | go_skip | go_guarded | go_step | go_upon))
    refine (inNew w).mono ?_
    rintro _ w1 ⟨rfl, hi1, hB1, hs1⟩
    dsimp only
    obtain ⟨g, hg⟩ : ∃ g, w.heap.size = g := ⟨_, rfl⟩
    have hr1 := HR.out.below hB1 (Nat.le_refl _)
    have hab : 0 < l.length → ∀ blk o, a = some ⟨blk, o, none⟩ → blk ≠ g ∧ (none : Option Nat) ≠ some blk := fun h0 blk o e => by
      obtain ⟨b', o', e', hlt⟩ := HR.out.lt (by rw [bvs_length]; exact h0)
      rw [e] at e'
      cases e'
      exact ⟨by omega, by simp⟩
    rw [hg] at hi1 ⊢
    have HI1 := Lib.hid hi1; clear hi1
    (repeat' ((fail_if_success at_builtin); first | go_values | go_skip | go_guarded | go_step | go_upon))
    refine (inFeed g none [] a n c l w1 HI1.out hr1 en hab (by simp; omega)).mono ?_
    rintro _ w2 ⟨rfl, r2, hi2, hn2, hf2⟩
    dsimp only
    have hB12 : Below g w1 w2 := frm_below hf2 (Nat.le_refl _) (fun k e => by cases e) (by omega)
    have hin2 : InB g w2 g l false := ⟨r2, hi2, Nat.le_refl _, (fun k e => by
      rcases hn2 with h | ⟨k', h, hk'⟩
      · rw [h] at e; cases e
      · rw [h] at e; cases e; omega), by have := hB12.size; omega⟩
    have HI2 := Lib.hid hin2; clear hin2 hi2 hn2 hf2 hr1
    have hB02 : Below g w w2 := (show Below g w w1 by rw [← hg]; exact hB1).trans hB12
    (repeat' ((fail_if_success at_builtin); first | go_values | go_skip | go_guarded | go_step | go_upon))
    refine (toldB g g l w2 HI2.out (by omega)).mono ?_
    rintro _ w3 ⟨a3, c3, ps, rfl, hT, hps, hi3, hB3⟩
    dsimp only
    have hF := tell_form l
    obtain ⟨bs, hbs⟩ : ∃ bs, (tell l).1 = bs := ⟨_, rfl⟩
    obtain ⟨rest, hrest⟩ : ∃ rest, (tell l).2.1 = rest := ⟨_, rfl⟩
    obtain ⟨br, hbr⟩ : ∃ br, (tell l).2.2 = br := ⟨_, rfl⟩
    rw [hbs] at hps
    rw [hbs, hrest, hbr] at hF
    rw [hrest, hbr] at hi3
    rw [hbr]
    clear hbs hrest hbr
    obtain ⟨E, hE⟩ : ∃ E : Int, (if br = true then 5 else 0) = E := ⟨_, rfl⟩
    rw [hE]
    obtain ⟨m, hm1, hm2, hm3⟩ := hF.eq
    have hmay := hF.may
    have hlen : bs.length = ps.length := by rw [← hps, List.length_map]
    have hfl : (bs.flatMap parcel).length + m.length = n := by rw [← en, hm1, List.length_append]
    have hB03 : Below g w w3 := hB02.trans hB3
    have HT := Lib.hid hT; clear hT
    have HPS := Lib.hid hps; clear hps
    have HI3 := Lib.hid hi3; clear hi3
    have HF := Lib.hid hF; clear hF
    have HM := Lib.hid (show l = bs.flatMap parcel ++ m ∧ (br = false → m = rest) ∧ (br = true → 4 ≤ m.length ∧ rest = []) from ⟨hm1, hm2, hm3⟩)
    have HMAY := Lib.hid hmay
    have HFL := Lib.hid hfl
    clear hm1 hm2 hm3 hmay hfl
    have hcap := HT.out.cap
    have hpl : ps.length ≤ 65536 := by have := flat_count bs; have := HFL.out; omega
    (repeat' ((fail_if_success at_builtin); first | go_values | go_skip | go_guarded | go_step | go_upon))
    go_loopw [6, 7] (fun v i wr => FormAt w3 bs ps.length v i wr) (fun _ i _ => ps.length - (intOf i).toNat)
    case atStart => exact ⟨⟨0, 0, Nat.zero_le _, rfl, Below.refl _ _, rfl, World.ownsRow_nil _ _ _ _⟩⟩
    case round =>
      obtain ⟨⟨k, M, hk, rfl, hB, hM, hO⟩⟩ := hrel
      obtain ⟨a6, c6, rfl, hc6, hm6, _⟩ := owns_slice hO
      have hMle : M ≤ n := by have := flat_le bs k; have := HFL.out; omega
      by_cases hlt : k < ps.length
      · obtain ⟨p, b, off, rfl, hcell, hrd, hpl2, hpc, hmem, hsn, _, _⟩ := HT.out.at HPS.out hB k hlt
        have hmk := HMAY.out p.l hmem
        rw [hpl2] at hmk
        have hsl : M + (4 + p.n) ≤ n := by
          have h1 := congrArg List.length hsn
          have h2 := flat_le bs (k + 1)
          have h3 := HFL.out
          rw [List.length_append, hM, parcel_length, hpl2] at h1
          omega
        have HSN := Lib.hid hsn; clear hsn
        have HO := Lib.hid hO; clear hO
        have HMK := Lib.hid hmk; clear hmk
        have HRD := Lib.hid hrd; clear hrd
        clear hmem
        (repeat' ((fail_if_success at_builtin); first | go_values | go_skip | go_guarded | go_step | go_upon))
        refine (wirePutYes p.a p.n p.c p.l wr HRD.out hpl2 (by omega) HMK.out).mono ?_
        rintro _ w4 ⟨a4, c4, rfl, hc4, hr4, hB4, _⟩
        dsimp only
        have HR4 := Lib.hid hr4; clear hr4
        have hO4 := owns_below HO.out hB4 (Nat.le_refl _)
        have hB34 : Below w3.heap.size w3 w4 := hB.trans (hB4.mono hB.size)
        (repeat' ((fail_if_success at_builtin); first | go_values | go_skip | go_guarded | go_step | go_upon))
        refine app8 rfl _ _ rfl w3.heap.size _ M ((bs.take k).flatMap parcel) rfl hO4 _ (4 + p.n) _ (parcel p.l) rfl HR4.out (by rw [parcel_length, hpl2]) (by omega) hB34.size ?_
        intro a5 c5 w5 h51 h52 h53 h54
        have hB35 : Below w3.heap.size w3 w5 := hB34.grown h54 hB34.size (fun g e => (hO4.lt g e).1)
        rw [← HSN.out] at h53
        have H53 := Lib.hid h53; clear h53 h52 h54
        (repeat' ((fail_if_success at_builtin); first | go_values | go_skip | go_guarded | go_step | go_upon))
        go_roundw
        case rel => exact ⟨k + 1, M + (4 + p.n), by omega, by go_num, hB35, (by rw [HSN.out, List.length_append, hM, parcel_length, hpl2]), H53.out⟩
        case measure => simp [intOf]; omega
      · obtain rfl : k = ps.length := by omega
        have htk : bs.take ps.length = bs := by rw [← hlen]; exact List.take_length
        rw [htk] at hM hO
        have hro := rdc_of_owns hO
        have HRO := Lib.hid hro; clear hro
        have HO := Lib.hid hO; clear hO
        have t2 : decide ((n : Int) < (M : Int)) = false := by simp; omega
        have bcc : (0 : Int) ≤ (M : Int) ∧ (M : Int) ≤ (c : Int) := by omega
        have hra := (HR.out.below hB03 (Nat.le_of_eq hg)).below hB (Nat.le_refl _)
        have HM' := HM.out
        clear HM
        (repeat' ((fail_if_success at_builtin); first | go_values | go_skip | go_guarded | go_step | go_upon))
        refine (same_yes HRO.out (hra.takeB M) hM (by rw [List.length_take]; omega) (by omega) (by rw [HM'.1, ← hM, List.take_append_of_le_length (Nat.le_refl _), List.take_of_length_le (Nat.le_refl _)])).mono ?_
        rintro _ w4 ⟨rfl, hs4⟩
        dsimp only
        have hi4 := HI3.out.below (hB.trans (hs4.below _))
        have hB04 : Below g w w4 := hB03.trans ((hB.mono (by have := hB03.size; omega)).trans (hs4.below _))
        have HI4 := Lib.hid hi4; clear hi4
        have HB04 := Lib.hid hB04; clear hB04 hs4
        cases br with
        | false =>
          obtain rfl : E = 0 := by rw [← hE]; rfl
          have hmr : m = rest := HM'.2.1 rfl
          subst hmr
          have HFL' := HFL.out
          rw [hM] at HFL'
          have t3 : decide ((m.length : Int) = (n : Int) - (M : Int)) = true := by simp; omega
          (repeat' ((fail_if_success at_builtin); first | go_values | go_skip | go_guarded | go_step | go_upon))
          refine (waitsB g g m false w4 HI4.out).mono ?_
          rintro _ w5 ⟨rfl, _, hB5⟩
          dsimp only
          have HB05 := Lib.hid (HB04.out.trans (hB5.mono (by have := HB04.out.size; omega)))
          (repeat' ((fail_if_success at_builtin); first | go_values | go_skip | go_guarded | go_step | go_upon))
          refine (works27 w5).mono ?_
          rintro _ w6 ⟨rfl, hB6⟩
          dsimp only
          (repeat' ((fail_if_success at_builtin); first | go_values | go_skip | go_guarded | go_step | go_upon))
          go_ret
          exact ⟨rfl, by rw [hg]; exact HB05.out.trans (hB6.mono (by have := HB05.out.size; omega))⟩
        | true =>
          obtain rfl : E = 5 := by rw [← hE]; rfl
          obtain ⟨hm4, hrest⟩ := HM'.2.2 rfl
          subst hrest
          have HFL' := HFL.out
          rw [hM] at HFL'
          have t3 : decide ((4 : Int) ≤ (n : Int) - (M : Int)) = true := by simp; omega
          (repeat' ((fail_if_success at_builtin); first | go_values | go_skip | go_guarded | go_step | go_upon))
          refine (waitsB g g [] true w4 HI4.out).mono ?_
          rintro _ w5 ⟨rfl, _, hB5⟩
          dsimp only
          have HB05 := Lib.hid (HB04.out.trans (hB5.mono (by have := HB04.out.size; omega)))
          (repeat' ((fail_if_success at_builtin); first | go_values | go_skip | go_guarded | go_step | go_upon))
          refine (works27 w5).mono ?_
          rintro _ w6 ⟨rfl, hB6⟩
          dsimp only
          (repeat' ((fail_if_success at_builtin); first | go_values | go_skip | go_guarded | go_step | go_upon))
          go_ret
          exact ⟨rfl, by rw [hg]; exact HB05.out.trans (hB6.mono (by have := HB05.out.size; omega))⟩

end Go.Proofs.YthgaghpakioglaaDoor
