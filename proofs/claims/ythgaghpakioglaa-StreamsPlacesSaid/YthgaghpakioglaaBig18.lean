/- sealerykit.All, big (sealerylaw18), walked. -/
import Derived.Test.YthgaghpakioglaaLai18
namespace Go.Proofs.Ythgaghpakioglaa
open Go.RowKit
set_option linter.unusedSimpArgs false
set_option linter.unusedVariables false
set_option maxRecDepth 10000

def allV : List Piece → Int → Int
  | [], n => n
  | p :: r, n => allV r (min (n + (p.n : Int) + 1) 1099511627776)

set_option maxHeartbeats 2000000 in
theorem allBs (a : Option Addr) (n c : Nat) (ps : List Piece) (w : World) (h : Pieces w a ps) (hl : ps.length = n) (hn : n ≤ 9223372036854775807) :
    Calls Try.prog 40 #[.slice a n c] w fun e w' => e = .returned (.int .i64 (allV ps 0)) ∧ ∃ m, w' = w.drewN m := by
  have HP := Lib.hid h
  clear h
  go_enter Try.func40, Try.ntmps40
  (repeat' ((fail_if_success at_builtin); first | go_values | go_skip | go_guarded | go_step | go_upon))
  go_loopw [3, 4] (fun s i wr => ∃ (v : Int) (k : Nat), s = .int .i64 v ∧ i = .int .i64 (k : Int) ∧ k ≤ n ∧ 0 ≤ v ∧ v ≤ 1099511627776 ∧ allV (ps.drop k) v = allV ps 0 ∧ wr = w) (fun _ i _ => n - (intOf i).toNat)
  case atStart => exact ⟨0, 0, rfl, rfl, Nat.zero_le _, by omega, by omega, rfl, rfl⟩
  case round =>
    obtain ⟨v, k, rfl, rfl, hk, hv0, hv1, hv, rfl⟩ := hrel
    have HV := Lib.hid hv
    clear hv
    by_cases hlt : k < n
    · have bk : (0 : Int) ≤ (k : Int) ∧ (k : Int) < (n : Int) := by omega
      have hkl : k < ps.length := by omega
      obtain ⟨pb, po, rfl, hc⟩ := HP.out.at_ k hkl
      have hmx := (HP.out.ok _ (List.getElem_mem hkl)).max
      have hd : allV (ps.drop k) v = allV (ps.drop (k + 1)) (min (v + (ps[k].n : Int) + 1) 1099511627776) := by rw [List.drop_eq_getElem_cons hkl]; rfl
      obtain ⟨P, hP⟩ : ∃ P, ps[k] = P := ⟨_, rfl⟩
      rw [hP] at hc hmx hd
      have HD := Lib.hid hd
      clear hd hP
      by_cases hm : v + (P.n : Int) + 1 ≤ 1099511627776
      · (repeat' ((fail_if_success at_builtin); first | go_values | go_skip | go_guarded | go_step | go_upon))
        go_roundw
        case rel => exact ⟨v + (P.n : Int) + 1, k + 1, rfl, by simp, by omega, by omega, by omega, by rw [← HV.out, HD.out]; congr 1; omega, by first | rfl | trivial⟩
        case measure => simp [intOf]; omega
      · have hm2 : (1099511627776 : Int) < v + (P.n : Int) + 1 := by omega
        (repeat' ((fail_if_success at_builtin); first | go_values | go_skip | go_guarded | go_step | go_upon))
        go_roundw
        case rel => exact ⟨1099511627776, k + 1, rfl, by simp, by omega, by omega, by omega, by rw [← HV.out, HD.out]; congr 1; omega, by first | rfl | trivial⟩
        case measure => simp [intOf]; omega
    · (repeat' ((fail_if_success at_builtin); first | go_values | go_skip | go_guarded | go_step | go_upon))
      go_ret
      obtain rfl : k = n := by omega
      refine ⟨?_, 0, rfl⟩
      rw [← HV.out, ← hl, List.drop_length]
      rfl

set_option maxHeartbeats 4000000 in
theorem bigOps (a : Option Addr) (n c : Nat) (os : List Op18) (w : World) (h : Ops18 w a os) (hl : os.length = n) (hn : n ≤ 9223372036854775807) :
    Calls Try.prog 16 #[.slice a n c] w fun e w' => (∃ b, e = .returned (.bool b)) ∧ ∃ d, w' = w.drewN d := by
  have HO := Lib.hid h
  clear h
  go_enter Try.func16, Try.ntmps16
  (repeat' ((fail_if_success at_builtin); first | go_values | go_skip | go_guarded | go_step | go_upon))
  go_loopw [3, 4] (fun s i wr => ∃ (v : Int) (k : Nat), s = .int .i64 v ∧ i = .int .i64 (k : Int) ∧ k ≤ n ∧ k ≤ 100 ∧ ∃ d, wr = w.drewN d) (fun _ i _ => 100 - (intOf i).toNat)
  case atStart => exact ⟨0, 0, rfl, rfl, Nat.zero_le _, Nat.zero_le _, 0, rfl⟩
  case round =>
    obtain ⟨v, k, rfl, rfl, hk, hk2, d, rfl⟩ := hrel
    by_cases h1 : k < n
    · have t1 : decide ((k : Int) < (n : Int)) = true := by rw [decide_eq_true_eq]; omega
      by_cases h2 : k < 100
      · have t2 : decide ((k : Int) < 100) = true := by rw [decide_eq_true_eq]; omega
        have bk : (0 : Int) ≤ (k : Int) ∧ (k : Int) < (n : Int) := by omega
        have hkl : k < os.length := by omega
        obtain ⟨ob, oo, rfl, hc⟩ := HO.out.at_ k hkl
        have hok := HO.out.ok _ (List.getElem_mem hkl)
        obtain ⟨x, hx⟩ : ∃ x, os[k] = x := ⟨_, rfl⟩
        rw [hx] at hc hok
        have q0 : w.cell? ⟨ob, oo + k * 7, none⟩ = some (.string x.t) := hc 0 _ rfl
        have q1 : w.cell? ⟨ob, oo + k * 7 + 1, none⟩ = some (.string x.st) := hc 1 _ rfl
        have q2 : w.cell? ⟨ob, oo + k * 7 + 2, none⟩ = some (.string x.su) := hc 2 _ rfl
        have q4 : w.cell? ⟨ob, oo + k * 7 + 4, none⟩ = some (.slice x.sa x.sn x.sc) := hc 4 _ rfl
        have hsn : x.sn ≤ 9223372036854775807 := Nat.le_trans hok.fits hok.max
        have HOK := Lib.hid hok
        clear hc hok hx
        go_upto_region 5 with fail
        go_cut [3] from 15 (fun v wx => ∃ z : Int, v = .int .i64 z ∧ ∃ d', wx = w.drewN d')
        case first =>
          go_quiet ((refine (allBs _ _ _ x.ps _ (HOK.out.ps.belowB (below_drewN' (Below.refl _ _) _) (Nat.le_refl _)) HOK.out.len hsn).mono ?_; rintro _ _ ⟨rfl, m, rfl⟩; exact ⟨rfl, _, by rw [World.drewN_drewN, Nat.add_assoc]⟩))
          go_wp2
          go_meet
          exact ⟨_, rfl, d + nq, by rw [World.drewN_drewN]⟩
        case rest =>
          obtain ⟨z, rfl, d', rfl⟩ := hcut
          by_cases hz : 131072 < z
          · have t3 : decide ((131072 : Int) < z) = true := by simpa using hz
            (repeat' ((fail_if_success at_builtin); first | go_values | go_skip | go_guarded | go_step | go_upon))
            go_ret
            exact ⟨⟨true, rfl⟩, d', rfl⟩
          · have t3 : decide ((131072 : Int) < z) = false := by simpa using hz
            by_cases hs : 1100 < x.sn
            · have t4 : decide ((1100 : Int) < (x.sn : Int)) = true := by rw [decide_eq_true_eq]; omega
              (repeat' ((fail_if_success at_builtin); first | go_values | go_skip | go_guarded | go_step | go_upon))
              go_ret
              exact ⟨⟨true, rfl⟩, d', rfl⟩
            · have t4 : decide ((1100 : Int) < (x.sn : Int)) = false := by rw [decide_eq_false_iff_not]; omega
              (repeat' ((fail_if_success at_builtin); first | go_values | go_skip | go_guarded | go_step | go_upon))
              go_roundw
              case rel => exact ⟨z, k + 1, rfl, by simp, by omega, by omega, d', rfl⟩
              case measure => simp [intOf]; omega
      · have t2 : decide ((k : Int) < 100) = false := by rw [decide_eq_false_iff_not]; omega
        (repeat' ((fail_if_success at_builtin); first | go_values | go_skip | go_guarded | go_step | go_upon))
        go_ret
        exact ⟨⟨false, rfl⟩, d, rfl⟩
    · have t1 : decide ((k : Int) < (n : Int)) = false := by rw [decide_eq_false_iff_not]; omega
      (repeat' ((fail_if_success at_builtin); first | go_values | go_skip | go_guarded | go_step | go_upon))
      go_ret
      exact ⟨⟨false, rfl⟩, d, rfl⟩

end Go.Proofs.Ythgaghpakioglaa
