/- The walk of the law PackMany. -/
import Derived.Test.YticpdpnkmeicjaaLaw07a
namespace Go.Proofs.Yticpdpnkmeicjaa
open Go.RowKit

theorem be8_beU (v : Int) (h : -9223372036854775808 ≤ v ∧ v ≤ 9223372036854775807) : wrap64 (beU (be8 v)) = v := by
  have e : ∀ k, ((u8 (nb v k)).toNat : Int) = nb v k := fun k => by
    have := bv_u8 (nb v k) (nb_lt v k)
    unfold bv at this
    exact (Value.int.inj this).2
  have h0 := e 0
  have h1 := e 1
  have h2 := e 2
  have h3 := e 3
  have h4 := e 4
  have h5 := e 5
  have h6 := e 6
  have h7 := e 7
  simp only [beU, be8, List.foldl_cons, List.foldl_nil]
  clear e
  generalize (u8 (nb v 0)).toNat = c0 at *
  generalize (u8 (nb v 1)).toNat = c1 at *
  generalize (u8 (nb v 2)).toNat = c2 at *
  generalize (u8 (nb v 3)).toNat = c3 at *
  generalize (u8 (nb v 4)).toNat = c4 at *
  generalize (u8 (nb v 5)).toNat = c5 at *
  generalize (u8 (nb v 6)).toNat = c6 at *
  generalize (u8 (nb v 7)).toNat = c7 at *
  simp only [nb, Nat.mul_zero, Nat.mul_one, Int.pow_zero, Int.ediv_one, Nat.reduceMul, Int.reducePow] at h0 h1 h2 h3 h4 h5 h6 h7
  have e2 : v / 65536 = v / 256 / 256 := by omega
  have e3 : v / 16777216 = v / 65536 / 256 := by omega
  have e4 : v / 4294967296 = v / 16777216 / 256 := by omega
  have e5 : v / 1099511627776 = v / 4294967296 / 256 := by omega
  have e6 : v / 281474976710656 = v / 1099511627776 / 256 := by omega
  have e7 : v / 72057594037927936 = v / 281474976710656 / 256 := by omega
  rw [e7, e6, e5, e4, e3, e2] at h7
  rw [e6, e5, e4, e3, e2] at h6
  rw [e5, e4, e3, e2] at h5
  rw [e4, e3, e2] at h4
  rw [e3, e2] at h3
  rw [e2] at h2
  clear e2 e3 e4 e5 e6 e7
  generalize hq1 : v / 256 = q1 at *
  generalize hq2 : q1 / 256 = q2 at *
  generalize hq3 : q2 / 256 = q3 at *
  generalize hq4 : q3 / 256 = q4 at *
  generalize hq5 : q4 / 256 = q5 at *
  generalize hq6 : q5 / 256 = q6 at *
  generalize hq7 : q6 / 256 = q7 at *
  unfold wrap64
  omega

theorem rsInt_be8 (v : Int) (l : List UInt8) (h : -9223372036854775808 ≤ v ∧ v ≤ 9223372036854775807) : rsInt (be8 v ++ l) 0 = (v, l, 0) := by
  unfold rsInt
  rw [if_pos (by rw [List.length_append, be8_length]; omega)]
  rw [List.take_append_of_le_length (by rw [be8_length]; omega), List.drop_append_of_le_length (by rw [be8_length]; omega),
    List.take_of_length_le (by rw [be8_length]; omega), List.drop_of_length_le (by rw [be8_length]; omega), be8_beU v h]
  rfl

theorem rsCount_be8 (most v : Int) (l : List UInt8) (h : -9223372036854775808 ≤ v ∧ v ≤ 9223372036854775807) : rsCount most (be8 v ++ l) 0 = if v < 0 ∨ most < v then (0, [], 3) else (v, l, 0) := by
  unfold rsCount
  rw [rsInt_be8 v l h]
  simp

theorem rsBlob_be8 (most v : Int) (l : List UInt8) (h : -9223372036854775808 ≤ v ∧ v ≤ 9223372036854775807) :
    rsBlob most (be8 v ++ l) 0 = if v < 0 ∨ most < v then ([], [], 3) else if v.toNat ≤ l.length then (l.take v.toNat, l.drop v.toNat, 0) else ([], [], 4) := by
  unfold rsBlob
  rw [rsCount_be8 most v l h]
  split <;> simp

set_option maxHeartbeats 1000000 in
theorem packMany_walk (n room : Int) (a : Option Addr) (m cap : Nat) (l : List UInt8) (w : World) (hr : RdB w a l) (en : l.length = m) (hcap : m ≤ cap) (hn : -9223372036854775808 ≤ n ∧ n ≤ 9223372036854775807) :
    Calls Try.prog 3 #[.int .i64 n, .int .i64 room, .slice a m cap] w fun e w' => e = .returned (.bool true) ∧ Below w.heap.size w w' := by
  by_cases hbig : 512 < m
  · go_enter Try.func3, Try.ntmps3
    (repeat' ((fail_if_success at_builtin); first | go_values | go_skip | go_guarded | go_step | go_upon))
    refine (works07 w).mono ?_
    rintro _ w1 ⟨rfl, hB1⟩
    dsimp only
    (repeat' ((fail_if_success at_builtin); first | go_values | go_skip | go_guarded | go_step | go_upon))
    go_ret
    exact ⟨rfl, hB1⟩
  · go_enter Try.func3, Try.ntmps3
    (repeat' ((fail_if_success at_builtin); first | go_values | go_skip | go_guarded | go_step | go_upon))
    refine (packInt none 0 0 [] n w (RdC.nil _ _) rfl (by omega) hn).mono ?_
    rintro _ w1 ⟨a1, c1, rfl, hc1, hr1, hB1, hO1⟩
    dsimp only
    (repeat' ((fail_if_success at_builtin); first | go_values | go_skip | go_guarded | go_step | go_upon))
    refine app8 rfl _ _ rfl w.heap.size _ _ _ rfl hO1 _ m _ l rfl (hr.below hB1 (Nat.le_refl _)) en (by omega) hB1.size ?_
    intro a2 c2 w2 hc2 hr2 hO2 hg2
    rw [List.nil_append] at hr2 hO2
    have hB2 : Below w.heap.size w w2 := hB1.grown hg2 hB1.size (fun g e => (hO1.lt g e).1)
    have hlen : (be8 n ++ l).length = 0 + 8 + m := by rw [List.length_append, be8_length, en]
    have HL := Lib.hid hlen; clear hlen
    (repeat' ((fail_if_success at_builtin); first | go_values | go_skip | go_guarded | go_step | go_upon))
    refine (packRead a2 _ c2 _ w2 hr2 HL.out (by omega)).mono ?_
    rintro _ w3 ⟨g1, rfl, hB3, hg1, hR1⟩
    dsimp only
    (repeat' ((fail_if_success at_builtin); first | go_values | go_skip | go_guarded | go_step | go_upon))
    have hr3 : RdB w3 a2 _ := hr2.below hB3 (Nat.le_refl _)
    have hB3' := hB2.trans (hB3.mono hB2.size)
    refine (packRead a2 _ c2 _ w3 hr3 HL.out (by omega)).mono ?_
    rintro _ w4 ⟨g2, rfl, hB4, hg2', hR2⟩
    dsimp only
    (repeat' ((fail_if_success at_builtin); first | go_values | go_skip | go_guarded | go_step | go_upon))
    have hr4 : RdB w4 a2 _ := hr3.below hB4 (Nat.le_refl _)
    have hB4' := hB3'.trans (hB4.mono hB3'.size)
    have hR1_4 := hR1.below hB4 (Nat.le_refl _)
    refine (packRead a2 _ c2 _ w4 hr4 HL.out (by omega)).mono ?_
    rintro _ w5 ⟨g3, rfl, hB5, hg3, hR3⟩
    dsimp only
    (repeat' ((fail_if_success at_builtin); first | go_values | go_skip | go_guarded | go_step | go_upon))
    have hB5' := hB4'.trans (hB5.mono hB4'.size)
    have hA1 := hR1_4.below hB5 (Nat.le_refl _)
    have hA2 := hR2.below hB5 (Nat.le_refl _)
    have hrm : RdB w5 a l := hr.below hB5' (Nat.le_refl _)
    have hn12 : g1 < g2 := Nat.lt_of_lt_of_le hR1.lt hg2'
    have hn23 : g2 < g3 := Nat.lt_of_lt_of_le hR2.lt hg3
    have hgb : w.heap.size ≤ g1 := Nat.le_trans hB2.size hg1
    have hX := rdCount g1 room _ 0 w5 hA1
    rw [rsCount_be8 room n l hn] at hX
    by_cases hc : n < 0 ∨ room < n
    · rw [if_pos hc] at hX
      have HX := Lib.hid hX; clear hX
      have HC := Lib.hid hc; clear hc
      refine (HX.out).mono ?_
      rintro _ w6 ⟨rfl, hg6, hX6⟩
      dsimp only
      have hA2' := hA2.other hA1 (by omega) hg6
      have hA3' := hR3.other hA1 (by omega) hg6
      have hY := rdBlob g2 room _ 0 w6 hA2'
      rw [rsBlob_be8 room n l hn, if_pos HC.out] at hY
      have HY := Lib.hid hY; clear hY
      (repeat' ((fail_if_success at_builtin); first | go_values | go_skip | go_guarded | go_step | go_upon))
      refine (HY.out).mono ?_
      rintro _ w7 ⟨⟨a7, c7, rfl, hc7, hr7⟩, hg7, hX7⟩
      dsimp only
      have hX6' := hX6.other hA2' (by omega) hg7
      have hA3'' := hA3'.other hA2' (by omega) hg7
      have hZ := rdText g3 room _ 0 w7 hA3''
      rw [rsBlob_be8 room n l hn, if_pos HC.out] at hZ
      have HZ := Lib.hid hZ; clear hZ
      (repeat' ((fail_if_success at_builtin); first | go_values | go_skip | go_guarded | go_step | go_upon))
      refine (HZ.out).mono ?_
      rintro _ w8 ⟨rfl, hg8, hX8⟩
      dsimp only
      have hD1 := hX6'.other hA3'' (by omega) hg8
      have hD2 := hX7.other hA3'' (by omega) hg8
      have hB8 : Below w.heap.size w w8 := ((hB5'.grown hg6 hB5'.size (fun k e => by cases e; omega)).grown hg7 (Nat.le_trans hB5'.size hg6.size) (fun k e => by cases e; omega)).grown hg8 (Nat.le_trans (Nat.le_trans hB5'.size hg6.size) hg7.size) (fun k e => by cases e; omega)
      by_cases h0 : n < 0
      · clear HC
        (repeat' ((fail_if_success at_builtin); first | go_values | go_skip | go_guarded | go_step | go_upon))
        refine (rdEnd g1 _ _ w8 hD1).mono ?_
        rintro _ w9 ⟨rfl, rfl⟩
        dsimp only
        (repeat' ((fail_if_success at_builtin); first | go_values | go_skip | go_guarded | go_step | go_upon))
        refine (rdEnd g2 _ _ w8 hD2).mono ?_
        rintro _ w9 ⟨rfl, rfl⟩
        dsimp only
        (repeat' ((fail_if_success at_builtin); first | go_values | go_skip | go_guarded | go_step | go_upon))
        refine (rdEnd g3 _ _ w8 hX8).mono ?_
        rintro _ w9 ⟨rfl, rfl⟩
        dsimp only
        (repeat' ((fail_if_success at_builtin); first | go_values | go_skip | go_guarded | go_step | go_upon))
        refine (works07 w8).mono ?_
        rintro _ w9 ⟨rfl, hB9⟩
        dsimp only
        (repeat' ((fail_if_success at_builtin); first | go_values | go_skip | go_guarded | go_step | go_upon))
        go_ret
        exact ⟨rfl, hB8.trans (hB9.mono hB8.size)⟩
      · have h1 : room < n := by rcases HC.out with h | h; exact absurd h h0; exact h
        clear HC
        (repeat' ((fail_if_success at_builtin); first | go_values | go_skip | go_guarded | go_step | go_upon))
        refine (rdEnd g1 _ _ w8 hD1).mono ?_
        rintro _ w9 ⟨rfl, rfl⟩
        dsimp only
        (repeat' ((fail_if_success at_builtin); first | go_values | go_skip | go_guarded | go_step | go_upon))
        refine (rdEnd g2 _ _ w8 hD2).mono ?_
        rintro _ w9 ⟨rfl, rfl⟩
        dsimp only
        (repeat' ((fail_if_success at_builtin); first | go_values | go_skip | go_guarded | go_step | go_upon))
        refine (rdEnd g3 _ _ w8 hX8).mono ?_
        rintro _ w9 ⟨rfl, rfl⟩
        dsimp only
        (repeat' ((fail_if_success at_builtin); first | go_values | go_skip | go_guarded | go_step | go_upon))
        refine (works07 w8).mono ?_
        rintro _ w9 ⟨rfl, hB9⟩
        dsimp only
        (repeat' ((fail_if_success at_builtin); first | go_values | go_skip | go_guarded | go_step | go_upon))
        go_ret
        exact ⟨rfl, hB8.trans (hB9.mono hB8.size)⟩
    · rw [if_neg hc] at hX
      have h0 : 0 ≤ n := by omega
      have h1 : n ≤ room := by omega
      have HC := Lib.hid hc; clear hc
      have HX := Lib.hid hX; clear hX
      refine (HX.out).mono ?_
      rintro _ w6 ⟨rfl, hg6, hX6⟩
      dsimp only
      have hA2' := hA2.other hA1 (by omega) hg6
      have hA3' := hR3.other hA1 (by omega) hg6
      have hY := rdBlob g2 room _ 0 w6 hA2'
      rw [rsBlob_be8 room n l hn, if_neg HC.out] at hY
      obtain ⟨k, rfl⟩ := Int.eq_ofNat_of_zero_le h0
      rw [Int.toNat_natCast] at hY
      have hB6 : Below w.heap.size w w6 := hB5'.grown hg6 hB5'.size (fun k e => by cases e; omega)
      by_cases hk : k ≤ l.length
      · rw [if_pos hk] at hY
        have HY := Lib.hid (hY.mono fun _ _ hh => And.intro (hh.1.num (n := k) (by simp; omega)) hh.2); clear hY
        (repeat' ((fail_if_success at_builtin); first | go_values | go_skip | go_guarded | go_step | go_upon))
        refine (HY.out).mono ?_
        rintro _ w7 ⟨⟨a7, c7, rfl, hc7, hr7⟩, hg7, hX7⟩
        dsimp only
        have hX6' := hX6.other hA2' (by omega) hg7
        have hA3'' := hA3'.other hA2' (by omega) hg7
        have hZ := rdText g3 room _ 0 w7 hA3''
        rw [rsBlob_be8 room _ l hn, if_neg HC.out, Int.toNat_natCast, if_pos hk] at hZ
        have HZ := Lib.hid hZ; clear hZ
        have hkm : k ≤ m := by omega
        have HK := Lib.hid hk; clear hk
        have HE := Lib.hid en; clear en
        have HT := Lib.hid (show (l.take k).length = k by have := HK.out; simp; omega)
        (repeat' ((fail_if_success at_builtin); first | go_values | go_skip | go_guarded | go_step | go_upon))
        refine (HZ.out).mono ?_
        rintro _ w8 ⟨rfl, hg8, hX8⟩
        dsimp only
        have hD1 := hX6'.other hA3'' (by omega) hg8
        have hD2 := hX7.other hA3'' (by omega) hg8
        have hr8 : RdB w8 a7 (l.take k) := hA3''.keeps hg8 hr7
        have hB7 : Below w.heap.size w w7 := hB6.grown hg7 hB6.size (fun k e => by cases e; omega)
        have hB8 : Below w.heap.size w w8 := hB7.grown hg8 hB7.size (fun k e => by cases e; omega)
        have hcv := convStr (P := Try.prog) (c := c7) Try.underlying22 Try.underlying5 Try.underlying9 hr8 HT.out
        have HL1 := Lib.hid (show l.length = m from HE.out)
        have hm8 : RdB w8 a (l.take k) := (hr.below hB8 (Nat.le_refl _)).takeB k
        have HD := Lib.hid (show (l.drop k).length = m - k by rw [List.length_drop, HE.out])
        have hlm : ((l.length : Int) != (m : Int)) = false := by rw [HE.out]; simp
        (repeat' ((fail_if_success at_builtin); first | go_values | go_skip | go_guarded | go_step | go_upon))
        refine (rdLeft g1 _ _ w8 hD1).mono ?_
        rintro _ w9 ⟨rfl, rfl⟩
        dsimp only
        (repeat' ((fail_if_success at_builtin); first | go_values | go_skip | go_guarded | go_step | go_upon))
        refine (rdEnd g2 _ _ w8 hD2).mono ?_
        rintro _ w9 ⟨rfl, rfl⟩
        dsimp only
        (repeat' ((fail_if_success at_builtin); first | go_values | go_skip | go_guarded | go_step | go_upon))
        refine (rdEnd g3 _ _ w8 hX8).mono ?_
        rintro _ w9 ⟨rfl, rfl⟩
        dsimp only
        (repeat' ((fail_if_success at_builtin); first | go_values | go_skip | go_guarded | go_step | go_upon))
        refine (same_yes hr8 hm8 HT.out HT.out (by omega) rfl).mono ?_
        rintro _ w9 ⟨rfl, hs9⟩
        dsimp only
        have hE2 := hD2.still hs9
        have hB9 : Below w.heap.size w w9 := hB8.trans (hs9.below _)
        (repeat' ((fail_if_success at_builtin); first | go_values | go_skip | go_guarded | go_step | go_upon))
        refine (rdLeft g2 _ _ w9 hE2).mono ?_
        rintro _ w10 ⟨rfl, rfl⟩
        dsimp only
        rw [HD.out]
        have hmk : (((m - k : Nat) : Int) == (m : Int) - (k : Int)) = true := by simp; omega
        (repeat' ((fail_if_success at_builtin); first | go_values | go_skip | go_guarded | go_step | go_upon))
        refine (works07 w9).mono ?_
        rintro _ w10 ⟨rfl, hB10⟩
        dsimp only
        (repeat' ((fail_if_success at_builtin); first | go_values | go_skip | go_guarded | go_step | go_upon))
        go_ret
        exact ⟨rfl, hB9.trans (hB10.mono hB9.size)⟩
      · rw [if_neg hk] at hY
        have HY := Lib.hid hY; clear hY
        (repeat' ((fail_if_success at_builtin); first | go_values | go_skip | go_guarded | go_step | go_upon))
        refine (HY.out).mono ?_
        rintro _ w7 ⟨⟨a7, c7, rfl, hc7, hr7⟩, hg7, hX7⟩
        dsimp only
        have hX6' := hX6.other hA2' (by omega) hg7
        have hA3'' := hA3'.other hA2' (by omega) hg7
        have hZ := rdText g3 room _ 0 w7 hA3''
        rw [rsBlob_be8 room _ l hn, if_neg HC.out, Int.toNat_natCast, if_neg hk] at hZ
        have HZ := Lib.hid hZ; clear hZ
        have hkm : m < k := by omega
        have hlm : ((l.length : Int) != (m : Int)) = false := by rw [en]; simp
        have HK := Lib.hid hk; clear hk
        have HE := Lib.hid en; clear en
        (repeat' ((fail_if_success at_builtin); first | go_values | go_skip | go_guarded | go_step | go_upon))
        refine (HZ.out).mono ?_
        rintro _ w8 ⟨rfl, hg8, hX8⟩
        dsimp only
        have hD1 := hX6'.other hA3'' (by omega) hg8
        have hD2 := hX7.other hA3'' (by omega) hg8
        have hr8 : RdB w8 a7 [] := hA3''.keeps hg8 hr7
        have hB7 : Below w.heap.size w w7 := hB6.grown hg7 hB6.size (fun k e => by cases e; omega)
        have hB8 : Below w.heap.size w w8 := hB7.grown hg8 hB7.size (fun k e => by cases e; omega)
        have hcv := convStr (P := Try.prog) (c := c7) Try.underlying22 Try.underlying5 Try.underlying9 hr8 (n := 0) rfl
        (repeat' ((fail_if_success at_builtin); first | go_values | go_skip | go_guarded | go_step | go_upon))
        refine (rdLeft g1 _ _ w8 hD1).mono ?_
        rintro _ w9 ⟨rfl, rfl⟩
        dsimp only
        (repeat' ((fail_if_success at_builtin); first | go_values | go_skip | go_guarded | go_step | go_upon))
        refine (rdEnd g2 _ _ w8 hD2).mono ?_
        rintro _ w9 ⟨rfl, rfl⟩
        dsimp only
        (repeat' ((fail_if_success at_builtin); first | go_values | go_skip | go_guarded | go_step | go_upon))
        refine (rdEnd g3 _ _ w8 hX8).mono ?_
        rintro _ w9 ⟨rfl, rfl⟩
        dsimp only
        (repeat' ((fail_if_success at_builtin); first | go_values | go_skip | go_guarded | go_step | go_upon))
        refine (rdEnd g2 _ _ w8 hD2).mono ?_
        rintro _ w9 ⟨rfl, rfl⟩
        dsimp only
        (repeat' ((fail_if_success at_builtin); first | go_values | go_skip | go_guarded | go_step | go_upon))
        refine (works07 w8).mono ?_
        rintro _ w10 ⟨rfl, hB10⟩
        dsimp only
        (repeat' ((fail_if_success at_builtin); first | go_values | go_skip | go_guarded | go_step | go_upon))
        go_ret
        exact ⟨rfl, hB8.trans (hB10.mono hB8.size)⟩

end Go.Proofs.Yticpdpnkmeicjaa
