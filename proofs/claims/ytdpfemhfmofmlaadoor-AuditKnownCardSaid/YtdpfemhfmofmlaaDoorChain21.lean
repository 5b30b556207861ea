/- Chains, row by row (no program in sight). -/
import Derived.Test.YtdpfemhfmofmlaaDoorAudV
import Derived.Test.YtdpfemhfmofmlaaDoorRRow
namespace Go.Proofs.YtdpfemhfmofmlaaDoor
open Go.RowKit

/-- Rows that are added, one behind the other. -/
def addAll (l : List Ent) : List Ent := l.foldl (fun c e => c ++ [rowOf c e]) []
theorem addAll_nil : addAll [] = [] := rfl
theorem addAll_snoc (l : List Ent) (e : Ent) : addAll (l ++ [e]) = addAll l ++ [rowOf (addAll l) e] := by simp [addAll]
theorem addAll_length (l : List Ent) : (addAll l).length = l.length := by
  have key : ∀ (n : Nat) (l : List Ent), l.length = n → (addAll l).length = n := by
    intro n
    induction n with
    | zero => intro l h; rw [List.eq_nil_of_length_eq_zero h]; rfl
    | succ n ih =>
      intro l h
      obtain ⟨l', e, rfl⟩ : ∃ l' e, l = l' ++ [e] := ⟨l.dropLast, l.getLast (by intro e; rw [e] at h; simp at h), (List.dropLast_concat_getLast _).symm⟩
      rw [addAll_snoc, List.length_append, ih l' (by simp at h; omega)]; simp
  exact key l.length l rfl
theorem addAll_step (l : List Ent) (k : Nat) (hk : k < l.length) : addAll (l.take (k + 1)) = addAll (l.take k) ++ [rowOf (addAll (l.take k)) l[k]] := by
  rw [List.take_succ_eq_append_getElem hk, addAll_snoc]
theorem addAll_prefix (l : List Ent) (k : Nat) : ∀ d, (addAll (l.take (k + d))).take (min k l.length) = addAll (l.take k) := by
  intro d
  induction d with
  | zero =>
    rw [Nat.add_zero, List.take_of_length_le]
    rw [addAll_length, List.length_take]; omega
  | succ d ih =>
    by_cases h : k + d < l.length
    · rw [show k + (d + 1) = k + d + 1 by omega, addAll_step l (k + d) h, List.take_append_of_le_length (by rw [addAll_length, List.length_take]; omega), ih]
    · rw [show l.take (k + (d + 1)) = l.take (k + d) by rw [List.take_of_length_le (by omega), List.take_of_length_le (by omega)], ih]
theorem addAll_take (l : List Ent) (k : Nat) (hk : k ≤ l.length) : (addAll l).take k = addAll (l.take k) := by
  have h := addAll_prefix l k (l.length - k)
  rwa [show k + (l.length - k) = l.length by omega, List.take_length, Nat.min_eq_left hk] at h
theorem addAll_get (l : List Ent) (k : Nat) (hk : k < l.length) (hk' : k < (addAll l).length) : (addAll l)[k] = rowOf (addAll (l.take k)) l[k] := by
  have h := addAll_take l (k + 1) (by omega)
  rw [addAll_step l k hk] at h
  have h2 : ((addAll l).take (k + 1))[k]? = (addAll (l.take k) ++ [rowOf (addAll (l.take k)) l[k]])[k]? := by rw [h]
  rw [List.getElem?_take, if_pos (by omega), List.getElem?_append_right (by rw [addAll_length, List.length_take]; omega), addAll_length, List.length_take, show k - min k l.length = 0 by omega, List.getElem?_eq_getElem hk'] at h2
  simpa using h2
theorem addAll_no (l : List Ent) (k : Nat) (hk : k < l.length) (hk' : k < (addAll l).length) : (addAll l)[k].no = (k : Int) + 1 := by
  rw [addAll_get l k hk hk']
  show ((addAll (l.take k)).length : Int) + 1 = _
  rw [addAll_length, List.length_take, Nat.min_eq_left (by omega)]
theorem addAll_numbered (l : List Ent) : Numbered (addAll l) := fun i hi => addAll_no l i (by rw [addAll_length] at hi; exact hi) hi
theorem told_get (xs : List Ent) (fr n : Int) (i : Nat) (hi : i < (told xs fr n).length) : ∃ h : toldLo xs.length fr + i < xs.length, (told xs fr n)[i] = xs[toldLo xs.length fr + i] := by
  have hl := told_length xs fr n
  have hb : toldN xs.length fr n ≤ xs.length - toldLo xs.length fr := by unfold toldN; omega
  refine ⟨by omega, ?_⟩
  have h1 : (told xs fr n)[i]? = xs[toldLo xs.length fr + i]? := by
    unfold told
    rw [List.getElem?_take, if_pos (by omega), List.getElem?_drop]
  rw [List.getElem?_eq_getElem hi, List.getElem?_eq_getElem (by omega)] at h1
  exact Option.some.inj h1

/-- Rows that were added hold. -/
theorem verGo_all (l : List Ent) (head : List UInt8) : ∀ (d k : Nat), k + d = l.length → verGo (addAll (l.take k)) ((addAll l).drop k) head = if headOf (addAll l) = head then (0, 0) else (l.length + 1, 24) := by
  intro d
  induction d with
  | zero =>
    intro k hk
    obtain rfl : k = l.length := by omega
    rw [List.take_length, List.drop_of_length_le (by rw [addAll_length]; omega), verGo, addAll_length]
  | succ d ih =>
    intro k hk
    have hk1 : k < l.length := by omega
    have hk2 : k < (addAll l).length := by rw [addAll_length]; exact hk1
    have hrow : rowOf (addAll (l.take k)) (addAll l)[k] = (addAll l)[k] := by
      rw [addAll_get l k hk1 hk2]
      rfl
    rw [List.drop_eq_getElem_cons hk2, verGo, if_pos hrow, ← ih (k + 1) (by omega), addAll_step l k hk1, addAll_get l k hk1 hk2]
theorem verify_all (l : List Ent) (head : List UInt8) : verify (addAll l) head = if headOf (addAll l) = head then (0, 0) else (l.length + 1, 24) := verGo_all l head l.length 0 (by omega)

end Go.Proofs.YtdpfemhfmofmlaaDoor
