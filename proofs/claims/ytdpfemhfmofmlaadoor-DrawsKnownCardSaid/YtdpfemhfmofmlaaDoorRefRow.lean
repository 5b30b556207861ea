/- What package sealeryref01 computes: the row of bytes. -/
import Derived.Test.YtdpfemhfmofmlaaDoorApp
import Derived.Test.YtdpfemhfmofmlaaDoorDig
namespace Go.Proofs.YtdpfemhfmofmlaaDoor
open Go.RowKit
set_option maxRecDepth 10000

theorem div_step (V i : Nat) : ((V / 256 ^ i : Nat) : Int) / 256 = ((V / 256 ^ (i + 1) : Nat) : Int) := by
  rw [Nat.pow_succ, ← Nat.div_div_eq_div_mul]; omega
theorem nb_of (V k : Nat) : nb (V : Int) k = ((V / 256 ^ k : Nat) : Int) % 256 := by
  unfold nb
  rw [Int.natCast_ediv, show (256 : Nat) = 2 ^ 8 from rfl, ← Nat.pow_mul, Int.natCast_pow]
  rfl

def lenV : Value → Nat
  | .slice _ n _ => n
  | _ => 0
theorem be8_take (v : Int) (j : Nat) (hj : j < 8) : (be8 v).take (j + 1) = (be8 v).take j ++ [u8 (nb v (7 - j))] := by
  have : j = 0 ∨ j = 1 ∨ j = 2 ∨ j = 3 ∨ j = 4 ∨ j = 5 ∨ j = 6 ∨ j = 7 := by omega
  rcases this with rfl | rfl | rfl | rfl | rfl | rfl | rfl | rfl <;> rfl

structure RowRel (base : Nat) (w : World) (x : List UInt8) (v : Value) (wr : World) : Prop where
  below : Below w.heap.size w wr
  own : wr.ownsRow base 5 1 v x.length (bvs x)

/-- One byte more behind bytes of the call's own. -/
theorem RowRel.snoc {w wr : World} {x : List UInt8} {v : Value} (h : RowRel w.heap.size w x v wr) (y : Int) (hy : 0 ≤ y ∧ y < 256) (hx : x.length ≤ 1000000000) {ops : Array Oper} {rest : List Oper} {o : Oper} {a : Act} {Q : Exit → Act → World → Prop} (hgd : o.guard = none) (s z : Operand)
    (ho : o.op = .call { callee := .builtin .append, args := #[s, z], argTypes := #[22, 22] }) (hsv : a.eval s = v) (hxv : a.eval z = .slice (some ⟨wr.heap.size, 0, none⟩) 1 1)
    (hk : ∀ v' w', RowRel w.heap.size w (x ++ [u8 y]) v' w' → wpList Tryd.prog ops Q rest (a.put o.dst v') w') : wpList Tryd.prog ops Q (o :: rest) a (wr.alloc (.cells #[.int .u8 y] 5)) := by
  have hs := h.below.size
  refine app1 wr y hy hgd s z ho w.heap.size v x.length x hsv h.own hxv (by omega) hs ?_
  intro a' c' w' h1 h2 h3 h4
  exact hk _ w' ⟨h.below.grown h4 hs (fun g e => (h.own.lt g e).1), by rw [List.length_append]; exact h3⟩

set_option maxHeartbeats 2000000 in
theorem refRow (a : Option Addr) (n c : Nat) (l : List UInt8) (w : World) (h : RdB w a l) (en : l.length = n) (hn : n ≤ 400000000) :
    Calls Tryd.prog 84 #[.slice a n c] w (GotB w (wpad l).length (wpad l)) := by
  subst en
  have HR := Lib.hid h; clear h
  go_enter Tryd.func84, Tryd.ntmps84
  (repeat' ((fail_if_success at_builtin); first | go_values | go_skip | go_guarded | go_step | go_upon))
  go_loopw [3, 4] (fun v i wr => ∃ k : Nat, k ≤ l.length ∧ i = .int .i64 k ∧ RowRel w.heap.size w (l.take k) v wr) (fun _ i _ => l.length - (intOf i).toNat)
  case atStart => exact ⟨0, Nat.zero_le _, rfl, Below.refl _ _, World.ownsRow_nil _ _ _ _⟩
  case round =>
    obtain ⟨k, hk, rfl, hrw⟩ := hrel
    have hB := hrw.below
    have HW := Lib.hid hrw; clear hrw
    by_cases hlt : k < l.length
    · obtain ⟨b, off, rfl, hc⟩ := (HR.out.below hB (Nat.le_refl _)).byte k hlt
      have hyb : 0 ≤ (l[k].toNat : Int) ∧ (l[k].toNat : Int) < 256 := by have := l[k].toNat_lt; omega
      have hyu : l.take k ++ [u8 (l[k].toNat : Int)] = l.take (k + 1) := by rw [u8_toNat, List.take_succ_eq_append_getElem hlt]
      have HY := Lib.hid hyu; clear hyu
      (repeat' ((fail_if_success at_builtin); first | go_values | go_skip | go_guarded | go_step | go_upon))
      refine HW.out.snoc _ hyb (by rw [List.length_take]; omega) rfl _ _ rfl rfl rfl ?_
      intro v1 w1 hrw1
      rw [HY.out] at hrw1
      have HW1 := Lib.hid hrw1; clear hrw1
      (repeat' ((fail_if_success at_builtin); first | go_values | go_skip | go_guarded | go_step | go_upon))
      go_roundw
      case rel => exact ⟨k + 1, by omega, by go_num, HW1.out⟩
      case measure => simp [intOf]; omega
    · have hw := HW.out
      rw [show k = l.length by omega, List.take_of_length_le (Nat.le_refl _)] at hw
      have HW2 := Lib.hid hw; clear hw HW
      (repeat' ((fail_if_success at_builtin); first | go_values | go_skip | go_guarded | go_step | go_upon))
      refine HW2.out.snoc 128 (by omega) (by omega) rfl _ _ rfl rfl rfl ?_
      intro v1 w1 hrw1
      obtain ⟨X, hX⟩ : ∃ X, l ++ [u8 128] = X := ⟨_, rfl⟩
      rw [hX] at hrw1
      have hXl : X.length = l.length + 1 := by rw [← hX]; simp
      have HX := Lib.hid hX; clear hX
      have HXL := Lib.hid hXl; clear hXl
      have HW1 := Lib.hid hrw1; clear hrw1
      obtain ⟨a1, c1, rfl, _, _, _⟩ := owns_slice HW1.out.own
      (repeat' ((fail_if_success at_builtin); first | go_values | go_skip | go_guarded | go_step | go_upon))
      go_loopw [3] (fun v wr => ∃ j : Nat, j ≤ wzeros l.length ∧ RowRel w.heap.size w (X ++ List.replicate j 0) v wr) (fun v _ => l.length + 1 + wzeros l.length - lenV v)
      case atStart => exact ⟨0, Nat.zero_le _, by simpa using HW1.out⟩
      case round =>
        obtain ⟨j, hj, hrw⟩ := hrel
        obtain ⟨a2, c2, rfl, _, _, _⟩ := owns_slice hrw.own
        obtain ⟨N, hN⟩ : ∃ N, (X ++ List.replicate j (0 : UInt8)).length = N := ⟨_, rfl⟩
        have hNv : N = l.length + 1 + j := by rw [← hN, List.length_append, List.length_replicate, HXL.out]
        have hzb : wzeros l.length ≤ 63 := by unfold wzeros; omega
        rw [hN] at hrw ⊢
        have HW3 := Lib.hid hrw; clear hrw
        by_cases hjl : j < wzeros l.length
        · have ht : (((N : Int) % 64) != 56) = true := by
            rw [bne_iff_ne]; intro e
            have : (l.length + 1 + j) % 64 = 56 := by omega
            unfold wzeros at hjl
            omega
          have hsn : (X ++ List.replicate j (0 : UInt8)) ++ [u8 0] = X ++ List.replicate (j + 1) 0 := by
            rw [List.append_assoc, List.replicate_succ']; rfl
          have HSN := Lib.hid hsn; clear hsn
          have HN := Lib.hid hN; clear hN
          have HNV := Lib.hid hNv; clear hNv
          (repeat' ((fail_if_success at_builtin); first | go_values | go_skip | go_guarded | go_step | go_upon))
          refine HW3.out.snoc 0 (by omega) (by rw [HN.out, HNV.out]; omega) rfl _ _ rfl rfl rfl ?_
          intro v3 w3 hrw3
          rw [HSN.out] at hrw3
          obtain ⟨a3, c3, rfl, _, _, _⟩ := owns_slice hrw3.own
          have hl3 : (X ++ List.replicate (j + 1) (0 : UInt8)).length = N + 1 := by rw [← HN.out, List.length_append, List.length_append, List.length_replicate, List.length_replicate]; omega
          rw [hl3] at hrw3 ⊢
          have HW4 := Lib.hid hrw3; clear hrw3 hl3
          (repeat' ((fail_if_success at_builtin); first | go_values | go_skip | go_guarded | go_step | go_upon))
          go_roundw
          case rel => exact ⟨j + 1, by omega, HW4.out⟩
          case measure =>
            show l.length + 1 + wzeros l.length - (N + 1) < l.length + 1 + wzeros l.length - N
            rw [HNV.out]
            omega
        · have hjz : j = wzeros l.length := by omega
          have ht : (((N : Int) % 64) != 56) = false := by
            simp only [bne_eq_false_iff_eq]
            have : (l.length + 1 + j) % 64 = 56 := by rw [hjz]; unfold wzeros; omega
            omega
          obtain ⟨P, hP⟩ : ∃ P, X ++ List.replicate (wzeros l.length) (0 : UInt8) = P := ⟨_, rfl⟩
          have hw3 := HW3.out
          rw [hjz, hP] at hw3
          have hPN : P.length = N := by rw [← hP, ← hjz, hN]
          obtain ⟨V, hV⟩ : ∃ V, l.length * 8 = V := ⟨_, rfl⟩
          have hV' : (l.length : Int) * 8 = (V : Int) := by omega
          have hpad : wpad l = P ++ be8 (V : Int) := by unfold wpad; rw [hV', ← hP, ← HX.out]; rfl
          have hPl : P.length ≤ 400000100 := by omega
          have hVb : V ≤ 4000000000 := by omega
          have HW5 := Lib.hid hw3; clear hw3 HW3
          have HPAD := Lib.hid hpad; clear hpad
          have HPN := Lib.hid hPN; clear hPN
          clear hP hV hjz hN hNv
          (repeat' ((fail_if_success at_builtin); first | go_values | go_skip | go_guarded | go_step | go_upon))
          go_loopw [3, 6] (fun v i wr => ∃ (j : Nat) (y : Int), j ≤ 8 ∧ y = 7 - (j : Int) ∧ i = .int .i64 y ∧ RowRel w.heap.size w (P ++ (be8 (V : Int)).take j) v wr) (fun _ i _ => ((intOf i) + 1).toNat)
          case atStart => exact ⟨0, 7, by omega, rfl, rfl, by simpa using HW5.out⟩
          case round =>
            clear HW5 ht
            obtain ⟨j, y, hj8, hy, rfl, hrw⟩ := hrel
            have HW6 := Lib.hid hrw; clear hrw
            by_cases h8 : j < 8
            · obtain ⟨q, hq⟩ : ∃ q : Nat, y = (q : Int) := ⟨(7 - j), by omega⟩
              subst hq
              have hqj : q = 7 - j := by omega
              have hq0 : (0 : Int) ≤ (q : Int) ∧ (q : Int) ≤ 7 := by omega
              have HQJ := Lib.hid hqj; clear hqj
              have HY := Lib.hid hy; clear hy
              (repeat' ((fail_if_success at_builtin); first | go_values | go_skip | go_guarded | go_step | go_upon))
              go_loop [7, 8] (fun x i => ∃ m : Nat, m ≤ q ∧ i = .int .i64 m ∧ x = .int .u64 ((V / 256 ^ m : Nat) : Int)) (fun _ i => q - (intOf i).toNat)
              case atStart => exact ⟨0, Nat.zero_le _, rfl, by simp⟩
              case round =>
                obtain ⟨m, hm, rfl, rfl⟩ := hrel
                obtain ⟨Y, hY⟩ : ∃ Y, V / 256 ^ m = Y := ⟨_, rfl⟩
                obtain ⟨Y', hY'⟩ : ∃ Y, V / 256 ^ (m + 1) = Y := ⟨_, rfl⟩
                have hd := div_step V m
                rw [hY, hY'] at hd
                rw [hY]
                have hYb : Y ≤ 4000000000 := by rw [← hY]; exact Nat.le_trans (Nat.div_le_self _ _) hVb
                have hYb' : Y' ≤ 4000000000 := by rw [← hY']; exact Nat.le_trans (Nat.div_le_self _ _) hVb
                have HYE := Lib.hid hY'; clear hY'
                by_cases hmq : m < q
                · clear hY
                  (repeat' ((fail_if_success at_builtin); first | go_values | go_skip | go_guarded | go_step | go_upon))
                  go_round
                  case rel => exact ⟨m + 1, by omega, by go_num, by rw [HYE.out]⟩
                  case measure => simp [intOf]; omega
                · have hmq' : m = q := by omega
                  have hyu : Go.Proofs.YtdpfemhfmofmlaaDoor.u8 ((Y : Int) % 256) = Go.Proofs.YtdpfemhfmofmlaaDoor.u8 (nb (V : Int) (7 - j)) := by rw [nb_of, ← HQJ.out, ← hmq', hY]
                  have htk := be8_take (V : Int) j h8
                  rw [← hyu] at htk
                  have HTK := Lib.hid htk; clear htk
                  have hyb : 0 ≤ (Y : Int) % 256 ∧ (Y : Int) % 256 < 256 := ⟨Int.emod_nonneg _ (by decide), Int.emod_lt_of_pos _ (by decide)⟩
                  clear hY hyu hmq' hd
                  (repeat' ((fail_if_success at_builtin); first | go_values | go_skip | go_guarded | go_step | go_upon))
                  refine HW6.out.snoc ((Y : Int) % 256) hyb (by rw [List.length_append, List.length_take]; omega) rfl _ _ rfl rfl rfl ?_
                  intro v7 w7 hrw7
                  rw [List.append_assoc, ← HTK.out] at hrw7
                  have HW7 := Lib.hid hrw7; clear hrw7
                  (repeat' ((fail_if_success at_builtin); first | go_values | go_skip | go_guarded | go_step | go_upon))
                  go_roundw
                  case rel => exact ⟨j + 1, (q : Int) - 1, by omega, by have := HY.out; omega, by first | rfl | go_num, HW7.out⟩
                  case measure => simp [intOf] <;> omega
            · have hj8' : j = 8 := by omega
              have hw6 := HW6.out
              rw [hj8', show (be8 (V : Int)).take 8 = be8 (V : Int) from rfl, ← HPAD.out] at hw6
              have hy1 : y = -1 := by omega
              subst hy1
              have HW8 := Lib.hid hw6; clear hw6 HW6 hj8' hy
              (repeat' ((fail_if_success at_builtin); first | go_values | go_skip | go_guarded | go_step | go_upon))
              go_ret
              exact gotB HW8.out.below HW8.out.own

end Go.Proofs.YtdpfemhfmofmlaaDoor
