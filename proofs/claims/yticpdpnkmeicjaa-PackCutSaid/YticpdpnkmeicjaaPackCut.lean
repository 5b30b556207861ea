/- The walk of the law PackCut. -/
import Derived.Test.YticpdpnkmeicjaaPackBack
namespace Go.Proofs.Yticpdpnkmeicjaa
open Go.RowKit

theorem Things.take {w : World} {a : Option Addr} {ts : List Thg} (h : Things w a ts) (k : Nat) : Things w a (ts.take k) := by
  refine ⟨?_, fun t ht => h.ok t (List.mem_of_mem_take ht)⟩
  have e : (ts.take k).flatMap Thg.cells = (ts.flatMap Thg.cells).take (((ts.take k).flatMap Thg.cells).length) := by
    conv => rhs; rw [← List.take_append_drop k ts]
    rw [List.flatMap_append]
    simp
  rw [e]
  exact h.rd.take _

/-- What is left of what was cut short, behind k things. -/
def cutAt (ts : List Thg) (k K : Nat) : List UInt8 := ((ts.drop k).flatMap Thg.enc).take (K - ((ts.take k).flatMap Thg.enc).length)

theorem cutAt_zero (ts : List Thg) (K : Nat) : cutAt ts 0 K = (ts.flatMap Thg.enc).take K := by simp [cutAt]

theorem enc_take_len (ts : List Thg) (k : Nat) (h : k < ts.length) : ((ts.take (k + 1)).flatMap Thg.enc).length = ((ts.take k).flatMap Thg.enc).length + ts[k].enc.length := by
  rw [enc_snoc ts k h, List.length_append]

theorem cutAt_whole (ts : List Thg) (k K : Nat) (h : k < ts.length) (hK : ((ts.take (k + 1)).flatMap Thg.enc).length ≤ K) : cutAt ts k K = ts[k].enc ++ cutAt ts (k + 1) K := by
  have e := enc_take_len ts k h
  unfold cutAt
  rw [enc_drop ts k h, List.take_append, List.take_of_length_le (by omega)]
  congr 2
  omega

theorem cutAt_short (ts : List Thg) (k K : Nat) (h : k < ts.length) (hK : K < ((ts.take (k + 1)).flatMap Thg.enc).length) (hk : ((ts.take k).flatMap Thg.enc).length ≤ K) : cutAt ts k K = ts[k].enc.take (K - ((ts.take k).flatMap Thg.enc).length) := by
  have e := enc_take_len ts k h
  unfold cutAt
  rw [enc_drop ts k h, List.take_append_of_le_length (by omega)]

theorem cutAt_end (ts : List Thg) (k K : Nat) (h : k = ts.length) : cutAt ts k K = [] := by
  subst h
  simp [cutAt]

section
variable (g : Nat) (w : World) (h : Rd w g [] 4)
include h
theorem rdInt4 : Calls Try.prog 32 #[.pointer (some ⟨g, 0, none⟩)] w fun e w' => e = .returned (.int .i64 0) ∧ RdTo w g [] 4 w' := rdInt g [] 4 w h
theorem rdCount4 (most : Int) : Calls Try.prog 11 #[.pointer (some ⟨g, 0, none⟩), .int .i64 most] w fun e w' => e = .returned (.int .i64 0) ∧ RdTo w g [] 4 w' := rdCount g most [] 4 w h
theorem rdBlob4 (most : Int) : Calls Try.prog 12 #[.pointer (some ⟨g, 0, none⟩), .int .i64 most] w fun e w' => SomeN w' 0 [] e ∧ RdTo w g [] 4 w' :=
  (rdBlob g most [] 4 w h).mono fun _ _ hh => ⟨hh.1.num rfl, hh.2⟩
theorem rdText4 (most : Int) : Calls Try.prog 13 #[.pointer (some ⟨g, 0, none⟩), .int .i64 most] w fun e w' => e = .returned (.string ⟨#[]⟩) ∧ RdTo w g [] 4 w' := rdText g most [] 4 w h
theorem rdSum4 : Calls Try.prog 33 #[.pointer (some ⟨g, 0, none⟩)] w fun e w' => (∃ Z, Z = z32 ∧ e = .returned (.agg Z)) ∧ RdTo w g [] 4 w' :=
  (rdSum g [] 4 w h).mono fun _ _ hh => ⟨⟨_, rfl, hh.1⟩, hh.2⟩
end

theorem eqZero (Z : Array Value) (h : Z = z32) (w : World) : (binOp .eql 36 (.agg Z) (.agg #[.int .u8 0, .int .u8 0, .int .u8 0, .int .u8 0, .int .u8 0, .int .u8 0, .int .u8 0, .int .u8 0, .int .u8 0, .int .u8 0, .int .u8 0, .int .u8 0, .int .u8 0, .int .u8 0, .int .u8 0, .int .u8 0, .int .u8 0, .int .u8 0, .int .u8 0, .int .u8 0, .int .u8 0, .int .u8 0, .int .u8 0, .int .u8 0, .int .u8 0, .int .u8 0, .int .u8 0, .int .u8 0, .int .u8 0, .int .u8 0, .int .u8 0, .int .u8 0])).run Try.prog w = .ok (.bool true) w := by
  subst h
  exact eqSum (List.replicate 32 0) (List.replicate 32 0) rfl rfl w

set_option maxHeartbeats 2000000 in
theorem packCut_walk (a : Option Addr) (n c : Nat) (ts : List Thg) (cut room : Int) (w : World) (h : Things w a ts) (en : ts.length = n) (hc : n ≤ c)
    (hcut : -9223372036854775808 ≤ cut ∧ cut ≤ 9223372036854775807) (hroom : -9223372036854775808 ≤ room ∧ room ≤ 9223372036854775807) :
    Calls Try.prog 6 #[.slice a n c, .int .i64 cut, .int .i64 room] w fun e w' => e = .returned (.bool true) ∧ Below w.heap.size w w' := by
  by_cases hb : 40 < n ∨ ∃ t ∈ ts, 512 < t.bn
  · go_enter Try.func6, Try.ntmps6
    have HB := Lib.hid hb; clear hb
    (repeat' ((fail_if_success at_builtin); first | go_values | go_skip | go_guarded | go_step | go_upon))
    refine (bigYes a n c ts w h en HB.out).mono ?_
    rintro _ w1 ⟨rfl, rfl⟩
    dsimp only
    (repeat' ((fail_if_success at_builtin); first | go_values | go_skip | go_guarded | go_step | go_upon))
    refine (works07 w).mono ?_
    rintro _ w1 ⟨rfl, hB1⟩
    dsimp only
    (repeat' ((fail_if_success at_builtin); first | go_values | go_skip | go_guarded | go_step | go_upon))
    go_ret
    exact ⟨rfl, hB1⟩
  · have hn40 : n ≤ 40 := by
      by_cases h1 : 40 < n
      · exact absurd (Or.inl h1) hb
      · omega
    have hbn : ∀ t ∈ ts, t.bn ≤ 512 := fun t ht => by
      by_cases h1 : 512 < t.bn
      · exact absurd (Or.inr ⟨t, ht, h1⟩) hb
      · omega
    have hel := encs_len w ts h.ok hbn
    obtain ⟨E, hE⟩ : ∃ E, (ts.flatMap Thg.enc).length = E := ⟨_, rfl⟩
    have hE8 : E ≤ 20800 := by omega
    have HEL := Lib.hid hE; clear hel hE
    have HB := Lib.hid hb; clear hb
    have HBN := Lib.hid hbn; clear hbn
    go_enter Try.func6, Try.ntmps6
    (repeat' ((fail_if_success at_builtin); first | go_values | go_skip | go_guarded | go_step | go_upon))
    refine (bigNo a n c ts w h en HB.out).mono ?_
    rintro _ w1 ⟨rfl, rfl⟩
    dsimp only
    (repeat' ((fail_if_success at_builtin); first | go_values | go_skip | go_guarded | go_step | go_upon))
    refine (pickAny room 1000 w hroom (by omega)).mono ?_
    rintro _ w1 ⟨rfl, rfl⟩
    dsimp only
    have hp := pick_lt room 1000 (by omega)
    generalize pick room 1000 = rm at *
    (repeat' ((fail_if_success at_builtin); first | go_values | go_skip | go_guarded | go_step | go_upon))
    refine (laidNil a n c E ts w h en HEL.out (by omega) (by omega)).mono ?_
    rintro _ w1 ⟨a1, c1, rfl, hl1, hc1, hm1, hB1, hO1⟩
    dsimp only
    (repeat' ((fail_if_success at_builtin); first | go_values | go_skip | go_guarded | go_step | go_upon))
    have hr1 := rdc_of_owns hO1
    have HL1 := Lib.hid hl1; clear hl1 hO1
    refine (pickAny cut E w1 hcut (by omega)).mono ?_
    rintro _ w2 ⟨rfl, rfl⟩
    dsimp only
    have hq := pick_le cut E
    obtain ⟨K, hK⟩ : ∃ K : Nat, pick cut E = K := Int.eq_ofNat_of_zero_le hq.1
    rw [hK] at hq ⊢
    have hKE : K ≤ E := by omega
    clear hK hq
    (repeat' ((fail_if_success at_builtin); first | go_values | go_skip | go_guarded | go_step | go_upon))
    have hrK : RdB w1 a1 (cutAt ts 0 K) := by rw [cutAt_zero]; exact hr1.takeB K
    have hlK : (cutAt ts 0 K).length = K := by rw [cutAt_zero, List.length_take, HEL.out]; omega
    have HLK := Lib.hid hlK; clear hlK
    refine (packRead a1 K c1 _ w1 hrK HLK.out (by omega)).mono ?_
    rintro _ w3 ⟨g, rfl, hB3, hg3', hR3⟩
    dsimp only
    have hB3' : Below w.heap.size w w3 := hB1.trans (hB3.mono hB1.size)
    have hgb : w.heap.size ≤ g := Nat.le_trans hB1.size hg3'
    clear hg3' hrK hr1
    (repeat' ((fail_if_success at_builtin); first | go_values | go_skip | go_guarded | go_step | go_upon))
    go_loopw [9] (fun i wr => ∃ k : Nat, k ≤ n ∧ i = .int .i64 k ∧ Below w.heap.size w wr ∧ Rd wr g (cutAt ts k K) 0 ∧ ((ts.take k).flatMap Thg.enc).length ≤ K) (fun i _ => n - (intOf i).toNat)
    case atStart => exact ⟨0, by omega, rfl, hB3', hR3, by simp⟩
    case round =>
      obtain ⟨k, hk, rfl, hB, hR, hKk⟩ := hrel
      have HKK := Lib.hid hKk; clear hKk
      by_cases hlt : k < n
      · subst en
        have hs := h.below hB (Nat.le_refl _)
        obtain ⟨F, hF⟩ : ∃ F, ((ts.take (k + 1)).flatMap Thg.enc).length = F := ⟨_, rfl⟩
        have HF := Lib.hid hF
        have hFE : F ≤ E := by rw [← hF, ← HEL.out]; exact enc_take_le ts (k + 1)
        clear hF
        have HTL := Lib.hid (show (ts.take (k + 1)).length = k + 1 by rw [List.length_take]; omega)
        (repeat' ((fail_if_success at_builtin); first | go_values | go_skip | go_guarded | go_step | go_upon))
        refine (laidNil a (k + 1) c F (ts.take (k + 1)) wr (hs.take (k + 1)) HTL.out HF.out (by omega) (by omega)).mono ?_
        rintro _ w4 ⟨a4, c4, rfl, hl4, hc4, hm4, hB4, hO4⟩
        dsimp only
        clear hl4 hO4
        have hB4' : Below w.heap.size w w4 := hB.trans (hB4.mono hB.size)
        have hR4 := hR.below hB4 (Nat.le_refl _)
        have hs4 := hs.below hB4 (Nat.le_refl _)
        obtain ⟨b, off, rfl, hra⟩ := hs4.at_ k hlt
        have ht := hs4.ok ts[k] (List.getElem_mem hlt)
        have hbk := HBN.out ts[k] (List.getElem_mem hlt)
        have hi1 : (Try.prog.info? 38).map (·.size) = some ts[k].cells.length := by rw [Thg.cells_length]; kernel_rfl
        have HR := Lib.hid hra; clear hra
        have HI := Lib.hid hi1; clear hi1
        by_cases hFK : F ≤ K
        · rw [cutAt_whole ts k K hlt (by rw [HF.out]; exact hFK)] at hR4
          (repeat' ((fail_if_success at_builtin); first | ((with_reducible refine wpList_load_mid rfl 38 _ rfl b (off + k * 35) rfl ts[k].cells _ HR.out Try.underlying38 rfl HI.out ?_)) | go_values | go_skip | go_guarded | go_step | go_upon))
          refine (readWhole g ts[k] rm _ w4 hR4 ht (by omega) (by omega) (by omega)).mono ?_
          rintro _ w5 ⟨rfl, hg5, hR5⟩
          dsimp only
          (repeat' ((fail_if_success at_builtin); first | go_values | go_skip | go_guarded | go_step | go_upon))
          refine (rdBad g _ _ w5 hR5).mono ?_
          rintro _ w6 ⟨rfl, rfl⟩
          dsimp only
          (repeat' ((fail_if_success at_builtin); first | go_values | go_skip | go_guarded | go_step | go_upon))
          go_roundw
          case rel => exact ⟨k + 1, by omega, by go_num, hB4'.grown hg5 hB4'.size (fun k e => by cases e; exact hgb), hR5, by rw [HF.out]; exact hFK⟩
          case measure => simp [intOf]; omega
        · rw [cutAt_short ts k K hlt (by rw [HF.out]; omega) HKK.out] at hR4
          have hj : K - ((ts.take k).flatMap Thg.enc).length < ts[k].enc.length := by
            have h1 := enc_take_len ts k hlt
            have h2 := HF.out
            have h3 := HKK.out
            omega
          have HJ := Lib.hid hj; clear hj
          have hkn : ((k : Int) == (ts.length : Int)) = false := by rw [beq_eq_false_iff_ne]; omega
          (repeat' ((fail_if_success at_builtin); first | ((with_reducible refine wpList_load_mid rfl 38 _ rfl b (off + k * 35) rfl ts[k].cells _ HR.out Try.underlying38 rfl HI.out ?_)) | go_values | go_skip | go_guarded | go_step | go_upon))
          refine (readShort g ts[k] rm _ w4 hR4 HJ.out ht (by omega) (by omega) (by omega)).mono ?_
          rintro _ w5 ⟨⟨bx, rfl⟩, hg5, hR5⟩
          dsimp only
          have hB5 : Below w.heap.size w w5 := hB4'.grown hg5 hB4'.size (fun k e => by cases e; exact hgb)
          (repeat' ((fail_if_success at_builtin); first | go_values | go_skip | go_guarded | go_step | go_upon))
          refine (rdBad g _ _ w5 hR5).mono ?_
          rintro _ w6 ⟨rfl, rfl⟩
          dsimp only
          (repeat' ((fail_if_success at_builtin); first | go_values | go_skip | go_guarded | go_step | go_upon))
          refine (rdEnd g _ _ w5 hR5).mono ?_
          rintro _ w6 ⟨rfl, rfl⟩
          dsimp only
          (repeat' ((fail_if_success at_builtin); first | go_values | go_skip | go_guarded | go_step | go_upon))
          refine (rdLeft g _ _ w5 hR5).mono ?_
          rintro _ w6 ⟨rfl, rfl⟩
          dsimp only
          (repeat' ((fail_if_success at_builtin); first | go_values | go_skip | go_guarded | go_step | go_upon))
          refine (rdInt4 g w5 hR5).mono ?_
          rintro _ w6 ⟨rfl, hg6, hR6⟩
          dsimp only
          (repeat' ((fail_if_success at_builtin); first | go_values | go_skip | go_guarded | go_step | go_upon))
          have hB6 : Below w.heap.size w w6 := hB5.grown hg6 hB5.size (fun k e => by cases e; exact hgb)
          refine (rdSum4 g w6 hR6).mono ?_
          rintro _ w7 ⟨⟨Z, hZ, rfl⟩, hg7, hR7⟩
          dsimp only
          have hB7 : Below w.heap.size w w7 := hB6.grown hg7 hB6.size (fun k e => by cases e; exact hgb)
          have hez := eqZero Z hZ
          clear hZ
          (repeat' ((fail_if_success at_builtin); first | go_values | go_skip | go_guarded | go_step | go_upon))
          refine (rdCount4 g w7 hR7 9).mono ?_
          rintro _ w8 ⟨rfl, hg8, hR8⟩
          dsimp only
          (repeat' ((fail_if_success at_builtin); first | go_values | go_skip | go_guarded | go_step | go_upon))
          have hB8 : Below w.heap.size w w8 := hB7.grown hg8 hB7.size (fun k e => by cases e; exact hgb)
          refine (rdBlob4 g w8 hR8 9).mono ?_
          rintro _ w9 ⟨⟨a9, c9, rfl, hc9, hr9⟩, hg9, hR9⟩
          dsimp only
          (repeat' ((fail_if_success at_builtin); first | go_values | go_skip | go_guarded | go_step | go_upon))
          have hB9 : Below w.heap.size w w9 := hB8.grown hg9 hB8.size (fun k e => by cases e; exact hgb)
          refine (rdText4 g w9 hR9 9).mono ?_
          rintro _ w10 ⟨rfl, hg10, hR10⟩
          dsimp only
          (repeat' ((fail_if_success at_builtin); first | go_values | go_skip | go_guarded | go_step | go_upon))
          have hB10 : Below w.heap.size w w10 := hB9.grown hg10 hB9.size (fun k e => by cases e; exact hgb)
          refine (rdEnd g _ _ w10 hR10).mono ?_
          rintro _ w11 ⟨rfl, rfl⟩
          dsimp only
          (repeat' ((fail_if_success at_builtin); first | go_values | go_skip | go_guarded | go_step | go_upon))
          refine (works07 w10).mono ?_
          rintro _ w11 ⟨rfl, hB11⟩
          dsimp only
          (repeat' ((fail_if_success at_builtin); first | go_values | go_skip | go_guarded | go_step | go_upon))
          go_ret
          exact ⟨rfl, hB10.trans (hB11.mono hB10.size)⟩
      · obtain rfl : k = n := by omega
        rw [cutAt_end ts k K en.symm] at hR
        (repeat' ((fail_if_success at_builtin); first | go_values | go_skip | go_guarded | go_step | go_upon))
        refine (rdEnd g _ _ wr hR).mono ?_
        rintro _ w4 ⟨rfl, rfl⟩
        dsimp only
        (repeat' ((fail_if_success at_builtin); first | go_values | go_skip | go_guarded | go_step | go_upon))
        refine (works07 wr).mono ?_
        rintro _ w5 ⟨rfl, hB5⟩
        dsimp only
        (repeat' ((fail_if_success at_builtin); first | go_values | go_skip | go_guarded | go_step | go_upon))
        go_ret
        exact ⟨rfl, hB.trans (hB5.mono hB.size)⟩

end Go.Proofs.Yticpdpnkmeicjaa
