/- What package sealeryref01 makes of the roots of primes. -/
import Derived.Test.YtdpfemhfmofmlaaDoorRefWords
import Derived.Test.YtdpfemhfmofmlaaDoorApp
import Derived.Lib.Mul64
import Derived.Laws.Bits64b
namespace Go.Proofs.YtdpfemhfmofmlaaDoor
set_option linter.unusedSimpArgs false
set_option linter.unusedVariables false
open Go.RowKit
set_option maxRecDepth 10000

theorem m_mask (a : Nat) (ha : a < 18446744073709551616) : bits .and .u64 (a : Int) 4294967295 = ((a % 4294967296 : Nat) : Int) := by
  have h := bits_and_u64_nat a 4294967295 ha (by omega)
  rw [show a &&& 4294967295 = a % 4294967296 from Nat.and_two_pow_sub_one_eq_mod a 32] at h
  exact h
theorem m_div (a : Nat) : (a : Int) / 4294967296 = ((a / 4294967296 : Nat) : Int) := by omega
theorem m_mul (a b : Nat) : (a : Int) * (b : Int) = ((a * b : Nat) : Int) := (Int.natCast_mul a b).symm
theorem m_add (a b : Nat) : (a : Int) + (b : Int) = ((a + b : Nat) : Int) := (Int.natCast_add a b).symm
theorem m_wrap (a : Nat) (ha : a < 18446744073709551616) : IntKind.u64.wrap (a : Int) = (a : Int) := by rw [IntKind.wrap_u64]; omega
theorem m_wrapM (a : Nat) : IntKind.u64.wrap (a : Int) = ((a % 18446744073709551616 : Nat) : Int) := by rw [IntKind.wrap_u64]; omega

set_option maxHeartbeats 1000000 in
/-- The two halves of a product. -/
theorem mul64 (x y : Nat) (w : World) (hx : x < 18446744073709551616) (hy : y < 18446744073709551616) :
    Calls Tryd.prog 121 #[.int .u64 x, .int .u64 y] w fun e w' => e = .returned (.tuple #[.int .u64 ((x * y / 18446744073709551616 : Nat) : Int), .int .u64 ((x * y % 18446744073709551616 : Nat) : Int)]) ∧ w = w' := by
  obtain ⟨bd, bt, bw, hhi⟩ := Lib.mul64_hi x y hx hy
  have ba := Lib.half_mul_le (a := x / 4294967296) (b := y / 4294967296) (by omega) (by omega)
  have bb := Lib.half_mul_le (a := x / 4294967296) (b := y % 4294967296) (by omega) (by omega)
  have bc := Lib.half_mul_le (a := x % 4294967296) (b := y / 4294967296) (by omega) (by omega)
  have ba' : x / 4294967296 * (y / 4294967296) < 18446744073709551616 := by omega
  have bb' : x / 4294967296 * (y % 4294967296) < 18446744073709551616 := by omega
  have bc' : x % 4294967296 * (y / 4294967296) < 18446744073709551616 := by omega
  have b1 : x / 4294967296 * (y / 4294967296) + (x / 4294967296 * (y % 4294967296) + x % 4294967296 * (y % 4294967296) / 4294967296) / 4294967296 < 18446744073709551616 := by omega
  have b2 : x / 4294967296 * (y / 4294967296) + (x / 4294967296 * (y % 4294967296) + x % 4294967296 * (y % 4294967296) / 4294967296) / 4294967296 + ((x / 4294967296 * (y % 4294967296) + x % 4294967296 * (y % 4294967296) / 4294967296) % 4294967296 + x % 4294967296 * (y / 4294967296)) / 4294967296 < 18446744073709551616 := by omega
  go_enter Tryd.func121, Tryd.ntmps121
  (repeat' ((fail_if_success at_builtin); first | go_values | go_skip | go_guarded | go_step | go_upon))
  simp only [m_mask x hx, m_mask y hy, m_div, m_mul, m_add, m_wrap _ bd, m_wrap _ bb', m_wrap _ bt, m_mask _ bt, m_wrap _ bc', m_wrap _ bw, m_wrap _ ba', m_wrap _ b1, m_wrap _ b2, m_wrapM (x * y)]
  rw [hhi]
  go_ret2
  exact ⟨rfl, rfl⟩

/-- Is a power of c below p times that power of 2^32? As the code works it out. -/
def belowF (c p : Nat) (sq : Bool) : Bool :=
  if sq then decide (c * c / 18446744073709551616 < p ∨ c * c / 18446744073709551616 = p ∧ c * c % 18446744073709551616 = 0)
  else
    decide ((c * c / 18446744073709551616 * c % 18446744073709551616 + c * c % 18446744073709551616 * c / 18446744073709551616) % 18446744073709551616 < p * 4294967296 % 18446744073709551616 ∨
      (c * c / 18446744073709551616 * c % 18446744073709551616 + c * c % 18446744073709551616 * c / 18446744073709551616) % 18446744073709551616 = p * 4294967296 % 18446744073709551616 ∧ c * c % 18446744073709551616 * c % 18446744073709551616 = 0)

theorem dYes {P : Prop} [Decidable P] {b : Bool} (h : P) (e : b = decide P) : Value.bool true = .bool b := by rw [e, decide_eq_true h]
theorem dNo {P : Prop} [Decidable P] {b : Bool} (h : ¬ P) (e : b = decide P) : Value.bool false = .bool b := by rw [e, decide_eq_false h]

set_option maxHeartbeats 2000000 in
theorem refBelow (c p : Nat) (pw : Int) (w : World) (hc : c < 18446744073709551616) (hp : p < 18446744073709551616) :
    Calls Tryd.prog 110 #[.int .u64 c, .int .u64 p, .int .i64 pw] w fun e w' => e = .returned (.bool (belowF c p (decide (pw = 2)))) ∧ w = w' := by
  have e0 : ∀ b, belowF c p (decide (pw = 2)) = b → True := fun _ _ => trivial
  obtain ⟨b, hb⟩ : ∃ b, belowF c p (decide (pw = 2)) = b := ⟨_, rfl⟩
  rw [hb]
  unfold belowF at hb
  have hlo2 : c * c % 18446744073709551616 < 18446744073709551616 := Nat.mod_lt _ (by decide)
  have hM1 := mul64 c c w hc hc
  by_cases h2 : pw = 2
  · subst h2
    simp only [decide_true, if_true] at hb
    generalize c * c / 18446744073709551616 = hi at *
    generalize c * c % 18446744073709551616 = lo at *
    have HB := Lib.hid hb; clear hb
    have HM := Lib.hid hM1; clear hM1 e0
    go_enter Tryd.func110, Tryd.ntmps110
    (repeat' ((fail_if_success at_builtin); first | go_values | go_skip | go_guarded | go_step | go_upon))
    refine HM.out.mono ?_
    rintro _ _ ⟨rfl, rfl⟩
    dsimp only
    by_cases a1 : hi < p
    · have t1 : decide ((hi : Int) < (p : Int)) = true := by simp; omega
      (repeat' ((fail_if_success at_builtin); first | go_values | go_skip | go_guarded | go_step | go_upon))
      go_ret
      exact ⟨congrArg Ending.returned (dYes (Or.inl a1) HB.out.symm), rfl⟩
    · have t1 : decide ((hi : Int) < (p : Int)) = false := by simp; omega
      by_cases a2 : hi = p
      · subst a2
        by_cases a3 : lo = 0
        · subst a3
          (repeat' ((fail_if_success at_builtin); first | go_values | go_skip | go_guarded | go_step | go_upon))
          go_ret
          exact ⟨congrArg Ending.returned (dYes (Or.inr ⟨rfl, rfl⟩) HB.out.symm), rfl⟩
        · have t3 : ((lo : Int) == 0) = false := by simp; omega
          have hn : ¬ (hi < hi ∨ hi = hi ∧ lo = 0) := by rintro (h | h); exact a1 h; exact a3 h.2
          (repeat' ((fail_if_success at_builtin); first | go_values | go_skip | go_guarded | go_step | go_upon))
          go_ret
          exact ⟨congrArg Ending.returned (dNo hn HB.out.symm), rfl⟩
      · have t2 : ((hi : Int) == (p : Int)) = false := by simp; omega
        have hn : ¬ (hi < p ∨ hi = p ∧ lo = 0) := by rintro (h | h); exact a1 h; exact a2 h.1
        (repeat' ((fail_if_success at_builtin); first | go_values | go_skip | go_guarded | go_step | go_upon))
        go_ret
        exact ⟨congrArg Ending.returned (dNo hn HB.out.symm), rfl⟩
  · have td : decide (pw = 2) = false := decide_eq_false h2
    simp only [td, Bool.false_eq_true, if_false] at hb
    have tq : (pw == 2) = false := by simpa using h2
    have hM2 := fun w => mul64 (c * c % 18446744073709551616) c w hlo2 hc
    generalize c * c / 18446744073709551616 = hi at *
    generalize c * c % 18446744073709551616 = lo at *
    have e1 : IntKind.u64.wrap ((hi : Int) * (c : Int)) = ((hi * c % 18446744073709551616 : Nat) : Int) := by rw [m_mul, m_wrapM]
    have e2 : IntKind.u64.wrap ((p : Int) * 4294967296) = ((p * 4294967296 % 18446744073709551616 : Nat) : Int) := by
      rw [show (p : Int) * 4294967296 = ((p * 4294967296 : Nat) : Int) by omega, m_wrapM]
    generalize hi * c % 18446744073709551616 = A at *
    generalize p * 4294967296 % 18446744073709551616 = Lm at *
    generalize lo * c / 18446744073709551616 = mo at *
    generalize lo * c % 18446744073709551616 = la at *
    have e3 : IntKind.u64.wrap ((A : Int) + (mo : Int)) = (((A + mo) % 18446744073709551616 : Nat) : Int) := by rw [m_add, m_wrapM]
    generalize (A + mo) % 18446744073709551616 = T at *
    have HB := Lib.hid hb; clear hb
    have HM := Lib.hid hM1; clear hM1 e0
    have HM2 := Lib.hid hM2; clear hM2
    go_enter Tryd.func110, Tryd.ntmps110
    (repeat' ((fail_if_success at_builtin); first | go_values | go_skip | go_guarded | go_step | go_upon))
    refine HM.out.mono ?_
    rintro _ _ ⟨rfl, rfl⟩
    dsimp only
    (repeat' ((fail_if_success at_builtin); first | go_values | go_skip | go_guarded | go_step | go_upon))
    refine (HM2.out w).mono ?_
    rintro _ _ ⟨rfl, rfl⟩
    dsimp only
    by_cases a1 : T < Lm
    · have t1 : decide ((T : Int) < (Lm : Int)) = true := by simp; omega
      (repeat' ((fail_if_success at_builtin); first | go_values | go_skip | go_guarded | go_step | go_upon))
      go_ret
      exact ⟨congrArg Ending.returned (dYes (Or.inl a1) HB.out.symm), rfl⟩
    · have t1 : decide ((T : Int) < (Lm : Int)) = false := by simp; omega
      by_cases a2 : T = Lm
      · subst a2
        by_cases a3 : la = 0
        · subst a3
          (repeat' ((fail_if_success at_builtin); first | go_values | go_skip | go_guarded | go_step | go_upon))
          go_ret
          exact ⟨congrArg Ending.returned (dYes (Or.inr ⟨rfl, rfl⟩) HB.out.symm), rfl⟩
        · have t3 : ((la : Int) == 0) = false := by simp; omega
          have hn : ¬ (T < T ∨ T = T ∧ la = 0) := by rintro (h | h); exact a1 h; exact a3 h.2
          (repeat' ((fail_if_success at_builtin); first | go_values | go_skip | go_guarded | go_step | go_upon))
          go_ret
          exact ⟨congrArg Ending.returned (dNo hn HB.out.symm), rfl⟩
      · have t2 : ((T : Int) == (Lm : Int)) = false := by simp; omega
        have hn : ¬ (T < Lm ∨ T = Lm ∧ la = 0) := by rintro (h | h); exact a1 h; exact a2 h.1
        (repeat' ((fail_if_success at_builtin); first | go_values | go_skip | go_guarded | go_step | go_upon))
        go_ret
        exact ⟨congrArg Ending.returned (dNo hn HB.out.symm), rfl⟩

def rootS (p : Nat) (sq : Bool) : Nat → Nat × Nat
  | 0 => (0, 17179869184)
  | i + 1 => (if belowF ((rootS p sq i).1 + (rootS p sq i).2) p sq then (rootS p sq i).1 + (rootS p sq i).2 else (rootS p sq i).1, (rootS p sq i).2 / 2)
theorem rootS_bit (p : Nat) (sq : Bool) (i : Nat) : (rootS p sq i).2 = 17179869184 / 2 ^ i := by
  induction i with
  | zero => rfl
  | succ i ih => show (rootS p sq i).2 / 2 = _; rw [ih, Nat.div_div_eq_div_mul, Nat.pow_succ]
theorem rootS_bd (p : Nat) (sq : Bool) (i : Nat) : (rootS p sq i).1 + 2 * (rootS p sq i).2 ≤ 34359738368 := by
  induction i with
  | zero => show 0 + 2 * 17179869184 ≤ 34359738368; decide
  | succ i ih =>
    show (if belowF ((rootS p sq i).1 + (rootS p sq i).2) p sq then (rootS p sq i).1 + (rootS p sq i).2 else (rootS p sq i).1) + 2 * ((rootS p sq i).2 / 2) ≤ _
    split <;> omega
theorem rootS_end (p : Nat) (sq : Bool) (i : Nat) (hi : i ≤ 35) (h : (rootS p sq i).2 = 0) : i = 35 := by
  rw [rootS_bit] at h
  have key : ∀ j, j < 35 → 17179869184 / 2 ^ j ≠ 0 := by decide
  rcases Nat.lt_or_ge i 35 with hl | hl
  · exact absurd h (key i hl)
  · omega
def rootF (p : Nat) (sq : Bool) : UInt32 := UInt32.ofNat ((rootS p sq 35).1 % 4294967296)
theorem rootF_nat (p : Nat) (sq : Bool) : (rootF p sq).toNat = (rootS p sq 35).1 % 4294967296 := by
  unfold rootF
  rw [UInt32.toNat_ofNat', Nat.mod_mod]

set_option maxHeartbeats 2000000 in
theorem refRoot (p : Nat) (pw : Int) (w : World) (hp : p < 18446744073709551616) :
    Calls Tryd.prog 88 #[.int .u64 p, .int .i64 pw] w fun e w' => e = .returned (.int .u32 (((rootF p (decide (pw = 2))).toNat : Nat) : Int)) ∧ w = w' := by
  rw [rootF_nat]
  obtain ⟨sq, hsq⟩ : ∃ sq, decide (pw = 2) = sq := ⟨_, rfl⟩
  rw [hsq]
  have hbl := fun c (hc : c < 18446744073709551616) => refBelow c p pw w hc hp
  rw [hsq] at hbl
  have HBL := Lib.hid hbl; clear hbl hsq
  go_enter Tryd.func88, Tryd.ntmps88
  (repeat' ((fail_if_success at_builtin); first | go_values | go_skip | go_guarded | go_step | go_upon))
  go_loop [5, 6] (fun c b => ∃ i : Nat, i ≤ 35 ∧ c = .int .u64 ((rootS p sq i).1 : Nat) ∧ b = .int .u64 ((rootS p sq i).2 : Nat)) (fun _ b => (intOf b).toNat)
  case atStart => exact ⟨0, by omega, rfl, rfl⟩
  case round =>
    obtain ⟨i, hi, rfl, rfl⟩ := hrel
    have hbd := rootS_bd p sq i
    have HE := Lib.hid (rootS_end p sq i hi)
    have HS := Lib.hid (show rootS p sq (i + 1) = (if belowF ((rootS p sq i).1 + (rootS p sq i).2) p sq then (rootS p sq i).1 + (rootS p sq i).2 else (rootS p sq i).1, (rootS p sq i).2 / 2) from rfl)
    have HZ := Lib.hid (show i = 35 → (rootS p sq i).2 = 0 from fun h => by rw [rootS_bit, h])
    have HC := Lib.hid (show i = 35 → (rootS p sq 35).1 % 4294967296 = (rootS p sq i).1 % 4294967296 from fun h => by rw [h])
    generalize (rootS p sq i).1 = c at *
    generalize (rootS p sq i).2 = b at *
    by_cases hb : 0 < b
    · have t1 : decide ((0 : Int) < (b : Int)) = true := by simp; omega
      have e1 : IntKind.u64.wrap ((c : Int) + (b : Int)) = ((c + b : Nat) : Int) := by rw [m_add, m_wrap _ (by omega)]
      have e2 : (b : Int) / 2 = ((b / 2 : Nat) : Int) := by omega
      have hi35 : i < 35 := by
        rcases Nat.lt_or_ge i 35 with h | h
        · exact h
        · exfalso
          have := HZ.out (by omega)
          omega
      have hcb : c + b < 18446744073709551616 := by omega
      have HBC := Lib.hid (HBL.out (c + b) hcb)
      cases hbf : belowF (c + b) p sq with
      | true =>
        have HF := Lib.hid hbf; clear hbf
        have hst := HS.out
        rw [HF.out, if_pos rfl] at hst
        have HST := Lib.hid hst; clear hst
        generalize c + b = cb at *
        have hb2 : b / 2 < b := by omega
        generalize b / 2 = b2 at *
        (repeat' ((fail_if_success at_builtin); first | go_values | go_skip | go_guarded | go_step | go_upon))
        refine HBC.out.mono ?_
        rintro _ _ ⟨rfl, rfl⟩
        dsimp only
        rw [HF.out]
        (repeat' ((fail_if_success at_builtin); first | go_values | go_skip | go_guarded | go_step | go_upon))
        go_round
        case rel => exact ⟨i + 1, by omega, by rw [HST.out], by rw [HST.out]⟩
        case measure => show ((b2 : Nat) : Int).toNat < ((b : Nat) : Int).toNat; omega
      | false =>
        have HF := Lib.hid hbf; clear hbf
        have hst := HS.out
        rw [HF.out, if_neg (by decide)] at hst
        have HST := Lib.hid hst; clear hst
        generalize c + b = cb at *
        have hb2 : b / 2 < b := by omega
        generalize b / 2 = b2 at *
        (repeat' ((fail_if_success at_builtin); first | go_values | go_skip | go_guarded | go_step | go_upon))
        refine HBC.out.mono ?_
        rintro _ _ ⟨rfl, rfl⟩
        dsimp only
        rw [HF.out]
        (repeat' ((fail_if_success at_builtin); first | go_values | go_skip | go_guarded | go_step | go_upon))
        go_round
        case rel => exact ⟨i + 1, by omega, by rw [HST.out], by rw [HST.out]⟩
        case measure => show ((b2 : Nat) : Int).toNat < ((b : Nat) : Int).toNat; omega
    · have hb0 : b = 0 := by omega
      subst hb0
      have hc := HC.out (HE.out rfl)
      have HC2 := Lib.hid hc; clear hc
      have e3 : (c : Int) % 4294967296 = ((c % 4294967296 : Nat) : Int) := by omega
      have hlt : c % 4294967296 < 4294967296 := Nat.mod_lt _ (by decide)
      generalize c % 4294967296 = m at *
      have e4 : IntKind.u32.wrap (m : Int) = (m : Int) := by rw [IntKind.wrap_u32]; omega
      (repeat' ((fail_if_success at_builtin); first | go_values | go_skip | go_guarded | go_step | go_upon))
      go_ret
      exact ⟨by rw [HC2.out]; rfl, rfl⟩

end Go.Proofs.YtdpfemhfmofmlaaDoor
