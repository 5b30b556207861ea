/- The walk of the law PackBack. -/
import Derived.Test.YticpdpnkmeicjaaReadsTwo
import Derived.Test.YticpdpnkmeicjaaLaw07a
namespace Go.Proofs.Yticpdpnkmeicjaa
open Go.RowKit

theorem bigYes (a : Option Addr) (n c : Nat) (ts : List Thg) (w : World) (h : Things w a ts) (en : ts.length = n) (hb : 40 < n ∨ ∃ t ∈ ts, 512 < t.bn) :
    Calls Try.prog 27 #[.slice a n c] w fun e w' => e = .returned (.bool true) ∧ w = w' :=
  (bigThings a n c ts w h en).mono fun _ _ hh => ⟨by rw [hh.1, decide_eq_true hb], hh.2⟩

theorem bigNo (a : Option Addr) (n c : Nat) (ts : List Thg) (w : World) (h : Things w a ts) (en : ts.length = n) (hb : ¬ (40 < n ∨ ∃ t ∈ ts, 512 < t.bn)) :
    Calls Try.prog 27 #[.slice a n c] w fun e w' => e = .returned (.bool false) ∧ w = w' :=
  (bigThings a n c ts w h en).mono fun _ _ hh => ⟨by rw [hh.1, decide_eq_false hb], hh.2⟩

theorem enc_len (t : Thg) (w : World) (ht : t.Ok w) (hb : t.bn ≤ 512) : t.enc.length ≤ 520 := by
  have := ht.len
  have := ht.sum
  unfold Thg.enc
  split
  · rw [List.length_append, be8_length]; omega
  · split
    · omega
    · rw [be8_length]; omega

theorem encs_len (w : World) : ∀ (ts : List Thg), (∀ t ∈ ts, t.Ok w) → (∀ t ∈ ts, t.bn ≤ 512) → (ts.flatMap Thg.enc).length ≤ 520 * ts.length
  | [], _, _ => by simp
  | t :: ts, h, k => by
    have ih := encs_len w ts (fun x hx => h x (by simp [hx])) (fun x hx => k x (by simp [hx]))
    have := enc_len t w (h t (by simp)) (k t (by simp))
    rw [List.flatMap_cons, List.length_append, List.length_cons]
    omega

theorem enc_drop (ts : List Thg) (k : Nat) (h : k < ts.length) : (ts.drop k).flatMap Thg.enc = ts[k].enc ++ (ts.drop (k + 1)).flatMap Thg.enc := by
  rw [List.drop_eq_getElem_cons h, List.flatMap_cons]

/-- Things laid behind nothing. -/
theorem laidNil (a : Option Addr) (n c E : Nat) (ts : List Thg) (w : World) (h : Things w a ts) (en : ts.length = n) (hE : (ts.flatMap Thg.enc).length = E) (hm : E ≤ 1000000000) (hn : n ≤ 1000000000) :
    Calls Try.prog 29 #[.slice none 0 0, .slice a n c] w (LaidTo w.heap.size w (ts.flatMap Thg.enc) E) := by
  subst hE
  have := laidThings w.heap.size (.slice none 0 0) 0 [] a n c ts w (World.ownsRow_nil _ _ _ _) (Nat.le_refl _) rfl h en (by omega) hn
  rw [List.nil_append, Nat.zero_add] at this
  exact this

set_option maxHeartbeats 1000000 in
theorem packBack_walk (a a2 : Option Addr) (n c m c2 : Nat) (ts : List Thg) (l : List UInt8) (room : Int) (w : World) (h : Things w a ts) (en : ts.length = n) (hr : RdB w a2 l) (em : l.length = m) (hm : m ≤ 9223372036854775807) (hn : n ≤ 9223372036854775807)
    (hroom : -9223372036854775808 ≤ room ∧ room ≤ 9223372036854775807) :
    Calls Try.prog 5 #[.slice a n c, .slice a2 m c2, .int .i64 room] w fun e w' => e = .returned (.bool true) ∧ Below w.heap.size w w' := by
  by_cases hb : 40 < n ∨ ∃ t ∈ ts, 512 < t.bn
  · go_enter Try.func5, Try.ntmps5
    have HB := Lib.hid hb; clear hb
    (repeat' ((fail_if_success at_builtin); first | go_values | go_skip | go_guarded | go_step | go_upon))
    refine (bigYes a n c ts w h en HB.out).mono ?_
    rintro _ w1 ⟨rfl, rfl⟩
    dsimp only
    (repeat' ((fail_if_success at_builtin); first | go_values | go_skip | go_guarded | go_step | go_upon))
    refine (works07 w).mono ?_
    rintro _ w1 ⟨rfl, hB1⟩
    dsimp only
    (repeat' ((fail_if_success at_builtin); first | go_values | go_skip | go_guarded | go_step | go_upon))
    go_ret
    exact ⟨rfl, hB1⟩
  · by_cases hbig : 4096 < m
    · go_enter Try.func5, Try.ntmps5
      have HB := Lib.hid hb; clear hb
      (repeat' ((fail_if_success at_builtin); first | go_values | go_skip | go_guarded | go_step | go_upon))
      refine (bigNo a n c ts w h en HB.out).mono ?_
      rintro _ w1 ⟨rfl, rfl⟩
      dsimp only
      (repeat' ((fail_if_success at_builtin); first | go_values | go_skip | go_guarded | go_step | go_upon))
      refine (works07 w).mono ?_
      rintro _ w1 ⟨rfl, hB1⟩
      dsimp only
      (repeat' ((fail_if_success at_builtin); first | go_values | go_skip | go_guarded | go_step | go_upon))
      go_ret
      exact ⟨rfl, hB1⟩
    · have hn40 : n ≤ 40 := by
        by_cases h1 : 40 < n
        · exact absurd (Or.inl h1) hb
        · omega
      have hbn : ∀ t ∈ ts, t.bn ≤ 512 := fun t ht => by
        by_cases h1 : 512 < t.bn
        · exact absurd (Or.inr ⟨t, ht, h1⟩) hb
        · omega
      have hel := encs_len w ts h.ok hbn
      obtain ⟨E, hE⟩ : ∃ E, (ts.flatMap Thg.enc).length = E := ⟨_, rfl⟩
      have hE8 : E ≤ 20800 := by omega
      have HEL := Lib.hid hE; clear hel hE
      have HB := Lib.hid hb; clear hb
      have HBN := Lib.hid hbn; clear hbn
      subst em
      go_enter Try.func5, Try.ntmps5
      (repeat' ((fail_if_success at_builtin); first | go_values | go_skip | go_guarded | go_step | go_upon))
      refine (bigNo a n c ts w h en HB.out).mono ?_
      rintro _ w1 ⟨rfl, rfl⟩
      dsimp only
      (repeat' ((fail_if_success at_builtin); first | go_values | go_skip | go_guarded | go_step | go_upon))
      refine (pickAny room 1000 w hroom (by omega)).mono ?_
      rintro _ w1 ⟨rfl, rfl⟩
      dsimp only
      have hp := pick_lt room 1000 (by omega)
      generalize pick room 1000 = rm at *
      (repeat' ((fail_if_success at_builtin); first | go_values | go_skip | go_guarded | go_step | go_upon))
      refine (laidNil a n c E ts w h en HEL.out (by omega) (by omega)).mono ?_
      rintro _ w1 ⟨a1, c1, rfl, hl1, hc1, hm1, hB1, hO1⟩
      dsimp only
      (repeat' ((fail_if_success at_builtin); first | go_values | go_skip | go_guarded | go_step | go_upon))
      refine app8 rfl _ _ rfl w.heap.size _ E _ rfl hO1 _ l.length _ l rfl (hr.below hB1 (Nat.le_refl _)) rfl (by omega) hB1.size ?_
      intro a3 c3 w2 hc3 hr3 hO3 hg3
      have HL1 := Lib.hid hl1; clear hl1
      have hB2 : Below w.heap.size w w2 := hB1.grown hg3 hB1.size (fun g e => (hO1.lt g e).1)
      have HLL := Lib.hid (show (ts.flatMap Thg.enc ++ l).length = E + l.length by rw [List.length_append, HEL.out])
      (repeat' ((fail_if_success at_builtin); first | go_values | go_skip | go_guarded | go_step | go_upon))
      refine (packRead a3 _ c3 _ w2 hr3 HLL.out (by omega)).mono ?_
      rintro _ w3 ⟨g, rfl, hB3, hg3', hR3⟩
      dsimp only
      have hB3' : Below w.heap.size w w3 := hB2.trans (hB3.mono hB2.size)
      have hgb : w.heap.size ≤ g := Nat.le_trans hB2.size hg3'
      clear hg3 hO3 hr3 hO1
      (repeat' ((fail_if_success at_builtin); first | go_values | go_skip | go_guarded | go_step | go_upon))
      go_loopw [8] (fun i wr => ∃ k : Nat, k ≤ n ∧ i = .int .i64 k ∧ Below w.heap.size w wr ∧ Rd wr g ((ts.drop k).flatMap Thg.enc ++ l) 0) (fun i _ => n - (intOf i).toNat)
      case atStart => exact ⟨0, by omega, rfl, hB3', by rw [List.drop_zero]; exact hR3⟩
      case round =>
        obtain ⟨k, hk, rfl, hB, hR⟩ := hrel
        by_cases hlt : k < n
        · subst en
          have hs := h.below hB (Nat.le_refl _)
          obtain ⟨b, off, rfl, hra⟩ := hs.at_ k hlt
          have ht := hs.ok ts[k] (List.getElem_mem hlt)
          have hbk := HBN.out ts[k] (List.getElem_mem hlt)
          have hi1 : (Try.prog.info? 38).map (·.size) = some ts[k].cells.length := by rw [Thg.cells_length]; kernel_rfl
          rw [enc_drop ts k hlt, List.append_assoc] at hR
          have HR := Lib.hid hra; clear hra
          have HI := Lib.hid hi1; clear hi1
          (repeat' ((fail_if_success at_builtin); first | ((with_reducible refine wpList_load_mid rfl 38 _ rfl b (off + k * 35) rfl ts[k].cells _ HR.out Try.underlying38 rfl HI.out ?_)) | go_values | go_skip | go_guarded | go_step | go_upon))
          refine (readWhole g ts[k] rm _ wr hR ht (by omega) (by omega) (by omega)).mono ?_
          rintro _ w4 ⟨rfl, hg4, hR4⟩
          dsimp only
          (repeat' ((fail_if_success at_builtin); first | go_values | go_skip | go_guarded | go_step | go_upon))
          refine (rdBad g _ _ w4 hR4).mono ?_
          rintro _ w5 ⟨rfl, rfl⟩
          dsimp only
          (repeat' ((fail_if_success at_builtin); first | go_values | go_skip | go_guarded | go_step | go_upon))
          go_roundw
          case rel => exact ⟨k + 1, by omega, by go_num, hB.grown hg4 hB.size (fun k e => by cases e; exact hgb), hR4⟩
          case measure => simp [intOf]; omega
        · obtain rfl : k = n := by omega
          have hd : ts.drop k = [] := by rw [← en]; simp
          rw [hd] at hR
          have hR' : Rd wr g l 0 := hR
          clear hR hd
          by_cases he : l = []
          · subst he
            (repeat' ((fail_if_success at_builtin); first | go_values | go_skip | go_guarded | go_step | go_upon))
            refine (rdLeft g _ _ wr hR').mono ?_
            rintro _ w4 ⟨rfl, rfl⟩
            dsimp only
            (repeat' ((fail_if_success at_builtin); first | go_values | go_skip | go_guarded | go_step | go_upon))
            refine (rdEnd g _ _ wr hR').mono ?_
            rintro _ w4 ⟨rfl, rfl⟩
            dsimp only
            (repeat' ((fail_if_success at_builtin); first | go_values | go_skip | go_guarded | go_step | go_upon))
            refine (works07 wr).mono ?_
            rintro _ w5 ⟨rfl, hB5⟩
            dsimp only
            (repeat' ((fail_if_success at_builtin); first | go_values | go_skip | go_guarded | go_step | go_upon))
            go_ret
            exact ⟨rfl, hB.trans (hB5.mono hB.size)⟩
          · have hp0 : 0 < l.length := List.length_pos_iff.2 he
            have HE := Lib.hid he; clear he
            have hE := rdEnd g _ _ wr hR'
            rw [if_neg HE.out] at hE
            have HEE := Lib.hid hE; clear hE
            have hz : ((l.length : Int) == 0) = false := by rw [beq_eq_false_iff_ne]; omega
            (repeat' ((fail_if_success at_builtin); first | go_values | go_skip | go_guarded | go_step | go_upon))
            refine (rdLeft g _ _ wr hR').mono ?_
            rintro _ w4 ⟨rfl, rfl⟩
            dsimp only
            (repeat' ((fail_if_success at_builtin); first | go_values | go_skip | go_guarded | go_step | go_upon))
            refine (HEE.out).mono ?_
            rintro _ w4 ⟨rfl, rfl⟩
            dsimp only
            (repeat' ((fail_if_success at_builtin); first | go_values | go_skip | go_guarded | go_step | go_upon))
            refine (works07 wr).mono ?_
            rintro _ w5 ⟨rfl, hB5⟩
            dsimp only
            (repeat' ((fail_if_success at_builtin); first | go_values | go_skip | go_guarded | go_step | go_upon))
            go_ret
            exact ⟨rfl, hB.trans (hB5.mono hB.size)⟩

end Go.Proofs.Yticpdpnkmeicjaa
