/- The sum of bytes, plainly. No function of the program stands in it. -/
import Derived.Test.YtdpfemhfmofmlaaDoorHashL
import Derived.Test.YtdpfemhfmofmlaaDoorNum
namespace Go.Proofs.YtdpfemhfmofmlaaDoor
open Go.RowKit

/-- What is laid behind the bytes: a mark, noughts, the length. -/
def wzeros (n : Nat) : Nat := (119 - n % 64) % 64
def wpad (m : List UInt8) : List UInt8 := ((m ++ [128]) ++ List.replicate (wzeros m.length) 0) ++ be8 ((m.length : Int) * 8)
theorem wpad_length (m : List UInt8) : (wpad m).length = m.length + 9 + wzeros m.length := by unfold wpad; simp [be8_length]; omega
theorem wpad_mod (m : List UInt8) : (wpad m).length % 64 = 0 := by rw [wpad_length]; unfold wzeros; omega

/-- Byte i of a state. -/
def wbyteAt (s : List UInt32) (i : Nat) : UInt8 := u8 (((s[i / 4]?.getD 0).toNat : Int) / 2 ^ (24 - 8 * (i % 4)) % 256)
def wbytes (s : List UInt32) : List UInt8 := (List.range 32).map (wbyteAt s)
theorem wbytes_length (s : List UInt32) : (wbytes s).length = 32 := by simp [wbytes]

/-- The sum. -/
def wfin (m : List UInt8) : List UInt32 := wst (wpad m) ((wpad m).length / 64)
def wdig (m : List UInt8) : List UInt8 := wbytes (wfin m)
theorem wdig_length (m : List UInt8) : (wdig m).length = 32 := wbytes_length _

/-- The cells of a sum behind k rounds. -/
def outCells (s : List UInt32) (k : Nat) : List Value := bvs ((List.range k).map (wbyteAt s)) ++ List.replicate (32 - k) (Value.int .u8 0)
theorem outCells_length (s : List UInt32) (k : Nat) (h : k ≤ 32) : (outCells s k).length = 32 := by unfold outCells; simp [bvs_length]; omega
theorem outCells_zero (s : List UInt32) : outCells s 0 = List.replicate 32 (Value.int .u8 0) := by simp [outCells, bvs]
theorem outCells_all (s : List UInt32) : outCells s 32 = bvs (wbytes s) := by simp [outCells, wbytes]
theorem outCells_get (s : List UInt32) (k : Nat) (h : k < 32) : (outCells s k).toArray[k]? = some (.int .u8 0) := by
  unfold outCells
  rw [List.getElem?_toArray, List.getElem?_append_right (by simp [bvs_length]), bvs_length, List.length_map, List.length_range, Nat.sub_self]
  obtain ⟨q, hq⟩ : ∃ q, 32 - k = q + 1 := ⟨31 - k, by omega⟩
  rw [hq]
  rfl
theorem outCells_step (s : List UInt32) (k : Nat) (h : k < 32) (x : UInt32) (hx : s[k / 4]?.getD 0 = x) (e : Nat) (he : 24 - 8 * (k % 4) = e) :
    (outCells s k).toArray.setIfInBounds k (.int .u8 ((x.toNat : Int) / 2 ^ e % 256)) = (outCells s (k + 1)).toArray := by
  have hv : Value.int .u8 ((x.toNat : Int) / 2 ^ e % 256) = bv (wbyteAt s k) := by
    unfold wbyteAt
    rw [hx, he, bv_u8 _ ⟨Int.emod_nonneg _ (by decide), Int.emod_lt_of_pos _ (by decide)⟩]
  obtain ⟨q, hq⟩ : ∃ q, 32 - k = q + 1 := ⟨31 - k, by omega⟩
  unfold outCells
  have e1 : (bvs ((List.range k).map (wbyteAt s))).length = k := by simp [bvs_length]
  rw [hq, show 32 - (k + 1) = q by omega, List.setIfInBounds_toArray, List.set_append_right _ _ (by omega), e1, Nat.sub_self, List.replicate_succ, List.set_cons_zero, List.range_succ, hv]
  congr 1
  simp [bvs]

/-- What a hash lays behind its bytes when it is asked. -/
theorem pad_one (m : List UInt8) (h : (m ++ [128]).length % 64 ≤ 56) : ((m ++ [128]) ++ List.replicate (56 - (m ++ [128]).length % 64) 0) = (m ++ [128]) ++ List.replicate (wzeros m.length) 0 := by
  congr 2
  simp at h ⊢
  unfold wzeros
  omega
theorem pad_two (m : List UInt8) (h : 56 < (m ++ [128]).length % 64) : (((m ++ [128]) ++ List.replicate (64 - (m ++ [128]).length % 64) 0) ++ List.replicate 56 0) = (m ++ [128]) ++ List.replicate (wzeros m.length) 0 := by
  rw [List.append_assoc, List.replicate_append_replicate]
  congr 2
  simp at h ⊢
  unfold wzeros
  omega

end Go.Proofs.YtdpfemhfmofmlaaDoor
