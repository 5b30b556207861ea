/- What was laid is read back: numbers and texts. -/
import Derived.Test.YtdpfemhfmofmlaaDoorPack
namespace Go.Proofs.YtdpfemhfmofmlaaDoor
open Go.RowKit
set_option maxRecDepth 10000

theorem be8_beU (v : Int) (h : -9223372036854775808 ≤ v ∧ v ≤ 9223372036854775807) : wrap64 (beU (be8 v)) = v := by
  have e : ∀ k, ((u8 (nb v k)).toNat : Int) = nb v k := fun k => by
    have := bv_u8 (nb v k) (nb_lt v k)
    unfold bv at this
    exact (Value.int.inj this).2
  have h0 := e 0
  have h1 := e 1
  have h2 := e 2
  have h3 := e 3
  have h4 := e 4
  have h5 := e 5
  have h6 := e 6
  have h7 := e 7
  simp only [beU, be8, List.foldl_cons, List.foldl_nil]
  clear e
  generalize (u8 (nb v 0)).toNat = c0 at *
  generalize (u8 (nb v 1)).toNat = c1 at *
  generalize (u8 (nb v 2)).toNat = c2 at *
  generalize (u8 (nb v 3)).toNat = c3 at *
  generalize (u8 (nb v 4)).toNat = c4 at *
  generalize (u8 (nb v 5)).toNat = c5 at *
  generalize (u8 (nb v 6)).toNat = c6 at *
  generalize (u8 (nb v 7)).toNat = c7 at *
  simp only [nb, Nat.mul_zero, Nat.mul_one, Int.pow_zero, Int.ediv_one, Nat.reduceMul, Int.reducePow] at h0 h1 h2 h3 h4 h5 h6 h7
  have e2 : v / 65536 = v / 256 / 256 := by omega
  have e3 : v / 16777216 = v / 65536 / 256 := by omega
  have e4 : v / 4294967296 = v / 16777216 / 256 := by omega
  have e5 : v / 1099511627776 = v / 4294967296 / 256 := by omega
  have e6 : v / 281474976710656 = v / 1099511627776 / 256 := by omega
  have e7 : v / 72057594037927936 = v / 281474976710656 / 256 := by omega
  rw [e7, e6, e5, e4, e3, e2] at h7
  rw [e6, e5, e4, e3, e2] at h6
  rw [e5, e4, e3, e2] at h5
  rw [e4, e3, e2] at h4
  rw [e3, e2] at h3
  rw [e2] at h2
  clear e2 e3 e4 e5 e6 e7
  generalize hq1 : v / 256 = q1 at *
  generalize hq2 : q1 / 256 = q2 at *
  generalize hq3 : q2 / 256 = q3 at *
  generalize hq4 : q3 / 256 = q4 at *
  generalize hq5 : q4 / 256 = q5 at *
  generalize hq6 : q5 / 256 = q6 at *
  generalize hq7 : q6 / 256 = q7 at *
  unfold wrap64
  omega

theorem rsInt_be8 (v : Int) (l : List UInt8) (h : -9223372036854775808 ≤ v ∧ v ≤ 9223372036854775807) : rsInt (be8 v ++ l) 0 = (v, l, 0) := by
  unfold rsInt
  rw [if_pos (by rw [List.length_append, be8_length]; omega)]
  rw [List.take_append_of_le_length (by rw [be8_length]; omega), List.drop_append_of_le_length (by rw [be8_length]; omega),
    List.take_of_length_le (by rw [be8_length]; omega), List.drop_of_length_le (by rw [be8_length]; omega), be8_beU v h]
  rfl

theorem rsCount_be8 (most v : Int) (l : List UInt8) (h : -9223372036854775808 ≤ v ∧ v ≤ 9223372036854775807) : rsCount most (be8 v ++ l) 0 = if v < 0 ∨ most < v then (0, [], 3) else (v, l, 0) := by
  unfold rsCount
  rw [rsInt_be8 v l h]
  simp

theorem rsBlob_be8 (most v : Int) (l : List UInt8) (h : -9223372036854775808 ≤ v ∧ v ≤ 9223372036854775807) :
    rsBlob most (be8 v ++ l) 0 = if v < 0 ∨ most < v then ([], [], 3) else if v.toNat ≤ l.length then (l.take v.toNat, l.drop v.toNat, 0) else ([], [], 4) := by
  unfold rsBlob
  rw [rsCount_be8 most v l h]
  split <;> simp

/-- A text that was laid is read again. -/
theorem text_back (most : Int) (t : ByteArray) (rest : List UInt8) (h : (t.size : Int) ≤ most) (hm : most ≤ 1000000000) : rsBlob most (be8 t.size ++ t.data.toList ++ rest) 0 = (t.data.toList, rest, 0) := by
  have hl : t.data.toList.length = t.size := Array.length_toList
  rw [List.append_assoc, rsBlob_be8 _ _ _ (by omega), if_neg (by omega), if_pos (by rw [List.length_append]; omega), Int.toNat_natCast, List.take_append_of_le_length (by omega), List.drop_append_of_le_length (by omega),
    List.take_of_length_le (by omega), List.drop_of_length_le (by omega)]
  rfl

end Go.Proofs.YtdpfemhfmofmlaaDoor
