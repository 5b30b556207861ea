/- A thing is read whole, or of what was cut short. -/
import Derived.Test.YticpdpnkmeicjaaReads
import Derived.Test.YticpdpnkmeicjaaPackMany
namespace Go.Proofs.Yticpdpnkmeicjaa
open Go.RowKit

theorem enc1 {t : Thg} (hk : t.kind = 1 ∨ t.kind = 2) : t.enc = be8 t.bn ++ t.bs := by unfold Thg.enc; rw [if_pos hk]
theorem enc3 {t : Thg} (hk : t.kind = 3) : t.enc = t.sum := by unfold Thg.enc; rw [if_neg (by omega), if_pos hk]
theorem enc5 {t : Thg} (h1 : ¬ t.kind = 1) (h2 : ¬ t.kind = 2) (h3 : ¬ t.kind = 3) : t.enc = be8 t.num := by unfold Thg.enc; rw [if_neg (by omega), if_neg h3]

theorem blob_whole {t : Thg} (room : Int) (rest : List UInt8) (hr : 0 ≤ room) (hl : t.bs.length = t.bn) (hbn : t.bn ≤ 1000000000) : rsBlob (t.bn + room) (be8 t.bn ++ t.bs ++ rest) 0 = (t.bs, rest, 0) := by
  rw [List.append_assoc, rsBlob_be8 _ _ _ (by omega), if_neg (by omega), if_pos (by rw [List.length_append]; omega), Int.toNat_natCast, List.take_append_of_le_length (by omega), List.drop_append_of_le_length (by omega),
    List.take_of_length_le (by omega), List.drop_of_length_le (by omega)]
  rfl

theorem sum_whole (s rest : List UInt8) (hs : s.length = 32) : rsSum (s ++ rest) 0 = (s, rest, 0) := by
  unfold rsSum
  rw [if_pos (by rw [List.length_append]; omega), List.take_append_of_le_length (by omega), List.drop_append_of_le_length (by omega), List.take_of_length_le (by omega), List.drop_of_length_le (by omega)]
  rfl

/-- A thing that lies whole ahead of the reader is read as it is. -/
theorem readWhole (g : Nat) (t : Thg) (room : Int) (rest : List UInt8) (w : World) (h : Rd w g (t.enc ++ rest) 0) (ht : t.Ok w) (hr0 : 0 ≤ room) (hr1 : room ≤ 1000) (hbn : t.bn ≤ 1000000000) :
    Calls Try.prog 30 #[.pointer (some ⟨g, 0, none⟩), .agg t.cells.toArray, .int .i64 room] w fun e w' => e = .returned (.bool true) ∧ RdTo w g rest 0 w' := by
  have hl := ht.len
  have hn := ht.num
  by_cases h1 : t.kind = 1
  · have hb : rsBlob (t.bn + room) (t.enc ++ rest) 0 = (t.bs, rest, 0) := by rw [enc1 (Or.inl h1)]; exact blob_whole room rest hr0 hl hbn
    have := readThing1 g t room _ 0 w h ht hr0 hr1 h1 (by omega) (by rw [hb]; show t.bs.length ≤ _; omega)
    rw [hb] at this
    simpa using this
  by_cases h2 : t.kind = 2
  · have hb : rsBlob (t.bn + room) (t.enc ++ rest) 0 = (t.bs, rest, 0) := by rw [enc1 (Or.inr h2)]; exact blob_whole room rest hr0 hl hbn
    have := readThing2 g t room _ 0 w h ht hr0 hr1 h2 (by omega)
    rw [hb] at this
    simpa using this
  by_cases h3 : t.kind = 3
  · have hb : rsSum (t.enc ++ rest) 0 = (t.sum, rest, 0) := by rw [enc3 h3]; exact sum_whole _ _ ht.sum
    have := readThing3 g t room _ 0 w h ht hr0 hr1 h3
    rw [hb] at this
    simpa using this
  have he := enc5 h1 h2 h3
  have hi : rsInt (t.enc ++ rest) 0 = (t.num, rest, 0) := by rw [he]; exact rsInt_be8 _ _ hn
  by_cases h4 : t.kind = 4
  · by_cases h0 : 0 ≤ t.num
    · have hb : rsCount (if t.num < IntKind.i64.wrap (t.num + room) then IntKind.i64.wrap (t.num + room) else t.num) (t.enc ++ rest) 0 = (t.num, rest, 0) := by
        rw [he, rsCount_be8 _ _ _ hn, if_neg]
        split <;> omega
      have := readThing4 g t room _ 0 w h ht hr0 hr1 h4 h0
      rw [hb] at this
      simpa using this
    · have := readThing6 g t room _ 0 w h ht hr0 hr1 h4 h0
      rw [hi] at this
      simpa using this
  · have := readThing5 g t room _ 0 w h ht hr0 hr1 h1 h2 h3 h4
    rw [hi] at this
    simpa using this

theorem int_short (l : List UInt8) (h : l.length < 8) : rsInt l 0 = (0, [], 4) := by unfold rsInt; rw [if_neg (by omega)]; rfl
theorem count_short (most : Int) (l : List UInt8) (h : l.length < 8) : rsCount most l 0 = (0, [], 4) := by unfold rsCount; rw [int_short l h]; rfl
theorem sum_short (l : List UInt8) (h : l.length < 32) : (rsSum l 0).2 = ([], 4) := by unfold rsSum; rw [if_neg (by omega)]; rfl
theorem blob_short (t : Thg) (room : Int) (j : Nat) (hr : 0 ≤ room) (hl : t.bs.length = t.bn) (hbn : t.bn ≤ 1000000000) (hj : j < 8 + t.bn) : rsBlob (t.bn + room) ((be8 t.bn ++ t.bs).take j) 0 = ([], [], 4) := by
  by_cases h8 : j < 8
  · unfold rsBlob
    rw [count_short _ _ (by rw [List.length_take]; omega)]
    rfl
  · rw [List.take_append, List.take_of_length_le (by rw [be8_length]; omega), be8_length, rsBlob_be8 _ _ _ (by omega), if_neg (by omega), if_neg (by rw [List.length_take]; omega)]

/-- Of a thing that was cut short: ErrShort, and nothing is left. -/
theorem readShort (g : Nat) (t : Thg) (room : Int) (j : Nat) (w : World) (h : Rd w g (t.enc.take j) 0) (hj : j < t.enc.length) (ht : t.Ok w) (hr0 : 0 ≤ room) (hr1 : room ≤ 1000) (hbn : t.bn ≤ 1000000000) :
    Calls Try.prog 30 #[.pointer (some ⟨g, 0, none⟩), .agg t.cells.toArray, .int .i64 room] w fun e w' => (∃ b, e = .returned (.bool b)) ∧ RdTo w g [] 4 w' := by
  have hl := ht.len
  have hn := ht.num
  by_cases h1 : t.kind = 1
  · have he := enc1 (Or.inl h1)
    have hb : rsBlob (t.bn + room) (t.enc.take j) 0 = ([], [], 4) := by
      rw [he] at hj ⊢
      exact blob_short t room j hr0 hl hbn (by rw [List.length_append, be8_length] at hj; omega)
    have := readThing1 g t room _ 0 w h ht hr0 hr1 h1 (by omega) (by rw [hb]; show ([] : List UInt8).length ≤ _; simp)
    rw [hb] at this
    exact this.mono fun e w' hh => ⟨⟨_, hh.1⟩, hh.2⟩
  by_cases h2 : t.kind = 2
  · have he := enc1 (Or.inr h2)
    have hb : rsBlob (t.bn + room) (t.enc.take j) 0 = ([], [], 4) := by
      rw [he] at hj ⊢
      exact blob_short t room j hr0 hl hbn (by rw [List.length_append, be8_length] at hj; omega)
    have := readThing2 g t room _ 0 w h ht hr0 hr1 h2 (by omega)
    rw [hb] at this
    exact this.mono fun e w' hh => ⟨⟨_, hh.1⟩, hh.2⟩
  by_cases h3 : t.kind = 3
  · have hb := sum_short (t.enc.take j) (by rw [enc3 h3] at hj ⊢; rw [List.length_take]; have := ht.sum; omega)
    have := readThing3 g t room _ 0 w h ht hr0 hr1 h3
    rw [hb] at this
    exact this.mono fun e w' hh => ⟨⟨_, hh.1⟩, hh.2⟩
  have he := enc5 h1 h2 h3
  have h8 : (t.enc.take j).length < 8 := by rw [he, be8_length] at hj; rw [List.length_take]; omega
  by_cases h4 : t.kind = 4
  · by_cases h0 : 0 ≤ t.num
    · have := readThing4 g t room _ 0 w h ht hr0 hr1 h4 h0
      rw [count_short _ _ h8] at this
      exact this.mono fun e w' hh => ⟨⟨_, hh.1⟩, hh.2⟩
    · have := readThing6 g t room _ 0 w h ht hr0 hr1 h4 h0
      rw [int_short _ h8] at this
      exact this.mono fun e w' hh => ⟨⟨_, hh.1⟩, hh.2⟩
  · have := readThing5 g t room _ 0 w h ht hr0 hr1 h1 h2 h3 h4
    rw [int_short _ h8] at this
    exact this.mono fun e w' hh => ⟨⟨_, hh.1⟩, hh.2⟩

end Go.Proofs.Yticpdpnkmeicjaa
