/- What bytes tell: bodies, one behind the other; what is left; whether it is broken (no program in sight). -/
import Derived.Test.YthgaghpakioglaaDoorPut
namespace Go.Proofs.YthgaghpakioglaaDoor

def next1 (l : List UInt8) : Option (List UInt8 × List UInt8) :=
  if 4 ≤ l.length ∧ mayB (num4 (l.take 4)) = true ∧ 4 + num4 (l.take 4) ≤ l.length then some ((l.drop 4).take (num4 (l.take 4)), l.drop (4 + num4 (l.take 4))) else none
def stuck (l : List UInt8) : Bool := decide (4 ≤ l.length) && !mayB (num4 (l.take 4))
def tellF : Nat → List UInt8 → List (List UInt8) × List UInt8 × Bool
  | 0, l => ([], l, false)
  | f + 1, l => match next1 l with
    | some (b, m) => (b :: (tellF f m).1, (tellF f m).2)
    | none => ([], if stuck l then [] else l, stuck l)
def tell (l : List UInt8) : List (List UInt8) × List UInt8 × Bool := tellF (l.length + 1) l

theorem next1_less {l b m : List UInt8} (h : next1 l = some (b, m)) : m.length + 5 ≤ l.length := by
  unfold next1 at h
  split at h
  · rename_i hc
    obtain ⟨h1, h2, h3⟩ := hc
    have hm : 1 ≤ num4 (l.take 4) := by unfold mayB at h2; have := of_decide_eq_true h2; omega
    cases h
    rw [List.length_drop]
    omega
  · cases h
theorem tellF_any : ∀ (f f' : Nat) (l : List UInt8), l.length < f → l.length < f' → tellF f l = tellF f' l := by
  intro f
  induction f with
  | zero => intro f' l h; omega
  | succ f ih =>
    intro f' l h h'
    cases f' with
    | zero => omega
    | succ f' =>
      unfold tellF
      cases hn : next1 l with
      | none => rfl
      | some r =>
        obtain ⟨b, m⟩ := r
        have := next1_less hn
        simp only
        rw [ih f' m (by omega) (by omega)]
theorem tell_some {l b m : List UInt8} (h : next1 l = some (b, m)) : tell l = (b :: (tell m).1, (tell m).2) := by
  have hl := next1_less h
  show tellF (l.length + 1) l = _
  unfold tellF
  rw [h]
  simp only
  rw [tellF_any l.length (m.length + 1) m (by omega) (by omega)]
  rfl
theorem tell_none {l : List UInt8} (h : next1 l = none) : tell l = ([], if stuck l then [] else l, stuck l) := by
  show tellF (l.length + 1) l = _
  unfold tellF
  rw [h]
theorem len4_length (n : Nat) : (len4 n).length = 4 := rfl
theorem next1_parcel (b m : List UInt8) (hb : mayB b.length = true) : next1 (parcel b ++ m) = some (b, m) := by
  have hb2 : b.length ≤ 32768 := by unfold mayB at hb; have := of_decide_eq_true hb; omega
  have ht : (parcel b ++ m).take 4 = len4 b.length := by
    unfold parcel
    rw [List.append_assoc, List.take_append_of_le_length (by rw [len4_length]; omega), List.take_of_length_le (by rw [len4_length]; omega)]
  have hd : (parcel b ++ m).drop 4 = b ++ m := by
    unfold parcel
    rw [List.append_assoc, List.drop_append_of_le_length (by rw [len4_length]; omega), List.drop_of_length_le (by rw [len4_length]; omega), List.nil_append]
  have hlen : (parcel b ++ m).length = 4 + b.length + m.length := by
    unfold parcel
    rw [List.length_append, List.length_append, len4_length]
  unfold next1
  rw [ht, len4_num _ (by omega), if_pos ⟨by omega, hb, by omega⟩, ← List.drop_drop, hd, List.take_append_of_le_length (Nat.le_refl _), List.take_of_length_le (Nat.le_refl _), List.drop_append_of_le_length (Nat.le_refl _), List.drop_of_length_le (Nat.le_refl _), List.nil_append]
theorem tell_parcels (bs : List (List UInt8)) (m : List UInt8) (h : ∀ b ∈ bs, mayB b.length = true) : tell (bs.flatMap parcel ++ m) = (bs ++ (tell m).1, (tell m).2) := by
  induction bs with
  | nil => rfl
  | cons b bs ih =>
    rw [List.flatMap_cons, List.append_assoc, tell_some (next1_parcel b _ (h b List.mem_cons_self)), ih (fun x hx => h x (List.mem_cons_of_mem _ hx))]
    rfl

end Go.Proofs.YthgaghpakioglaaDoor
