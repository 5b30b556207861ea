/- What sealerykit.All answers: how many bytes pieces have, each counted with one more. -/
import Derived.Test.YthgaghpakioglaaDoorPieces
namespace Go.Proofs.YthgaghpakioglaaDoor
set_option linter.unusedSimpArgs false
set_option linter.unusedVariables false
open Go.RowKit
set_option maxRecDepth 10000

def total (ps : List Piece) : Nat := (ps.map fun p => p.n + 1).sum
theorem total_take (ps : List Piece) (k : Nat) (h : k < ps.length) : total (ps.take (k + 1)) = total (ps.take k) + ps[k].n + 1 := by
  unfold total
  rw [List.take_succ_eq_append_getElem h, List.map_append, List.sum_append]
  simp
  omega
def totalM (ps : List Piece) : Nat := min (total ps) 1099511627776

theorem Pieces.below {w w' : World} {a : Option Addr} {ps : List Piece} (h : Pieces w a ps) (hb : Below w.heap.size w w') : Pieces w' a ps :=
  ⟨h.rd.below hb (Nat.le_refl _), fun p hp => ⟨(h.ok p hp).len, (h.ok p hp).fits, (h.ok p hp).max, (h.ok p hp).rd.below hb (Nat.le_refl _)⟩⟩

theorem Pieces.get {w : World} {a : Option Addr} {ps : List Piece} (h : Pieces w a ps) (k : Nat) (hk : k < ps.length) : ∃ (p : Piece) (b off : Nat), a = some ⟨b, off, none⟩ ∧ w.cell? ⟨b, off + k, none⟩ = some (.slice p.a p.n p.c) ∧ p.Ok w ∧ p ∈ ps ∧ total (ps.take (k + 1)) = total (ps.take k) + p.n + 1 ∧ ps.take (k + 1) = ps.take k ++ [p] := by
  obtain ⟨b, off, e, hc⟩ := h.at_ k hk
  exact ⟨ps[k], b, off, e, hc, h.ok _ (List.getElem_mem hk), List.getElem_mem hk, total_take ps k hk, List.take_succ_eq_append_getElem hk⟩

theorem min_form (a : Int) : (if 1099511627776 < a then 1099511627776 else a) = if a ≤ 1099511627776 then a else 1099511627776 := by split <;> split <;> omega

set_option maxHeartbeats 1000000 in
theorem kitAll (a : Option Addr) (n c : Nat) (ps : List Piece) (w : World) (h : Pieces w a ps) (en : ps.length = n) (hn : n ≤ 9223372036854775807) :
    Calls Tryd.prog 15 #[.slice a n c] w fun e w' => e = .returned (.int .i64 (totalM ps)) ∧ Still w w' := by
  subst en
  go_enter Tryd.func15, Tryd.ntmps15
  (repeat' ((fail_if_success at_builtin); first | go_values | go_skip | go_guarded | go_step | go_upon))
  go_loopw [3, 4] (fun s i wr => ∃ k : Nat, k ≤ ps.length ∧ i = .int .i64 k ∧ s = .int .i64 (totalM (ps.take k)) ∧ Still w wr) (fun _ i _ => ps.length - (intOf i).toNat)
  case atStart => exact ⟨0, Nat.zero_le _, rfl, rfl, still_drewN w 0⟩
  case round =>
    obtain ⟨k, hk, rfl, rfl, hS⟩ := hrel
    by_cases hlt : k < ps.length
    · obtain ⟨p, b, off, rfl, hc, hp, _, ht, _⟩ := (h.below (hS.below _)).get k hlt
      have h1 := hp.max
      obtain ⟨X, hX⟩ : ∃ X, totalM (ps.take k) = X := ⟨_, rfl⟩
      have hXb : X ≤ 1099511627776 := by rw [← hX]; unfold totalM; exact Nat.min_le_right _ _
      have hX2 : ((totalM (ps.take (k + 1)) : Nat) : Int) = if (X : Int) + (p.n : Int) + 1 ≤ 1099511627776 then (X : Int) + (p.n : Int) + 1 else 1099511627776 := by
        rw [← hX]; unfold totalM; rw [ht]; split <;> omega
      rw [hX]
      clear hX ht
      have HX2 := Lib.hid hX2; clear hX2 hp
      (repeat' ((fail_if_success at_builtin); first | go_values | go_skip | go_guarded | go_step | go_upon))
      go_roundw
      case rel => exact ⟨k + 1, by omega, by go_num, by rw [min_form]; exact congrArg _ HX2.out.symm, hS⟩
      case measure => simp [intOf]; omega
    · obtain rfl : k = ps.length := by omega
      (repeat' ((fail_if_success at_builtin); first | go_values | go_skip | go_guarded | go_step | go_upon))
      go_ret
      rw [List.take_length]
      exact ⟨rfl, hS⟩

end Go.Proofs.YthgaghpakioglaaDoor
