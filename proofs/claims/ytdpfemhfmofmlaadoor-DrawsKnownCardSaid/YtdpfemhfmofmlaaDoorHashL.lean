/- What a hash holds: plain laws of its cells. No function of the program stands in it. -/
import Derived.Test.YtdpfemhfmofmlaaDoorWord
namespace Go.Proofs.YtdpfemhfmofmlaaDoor
open Go.RowKit

/-- The cells of a hash. -/
def hcells (st : List UInt32) (rest : List UInt8) (h a : Int) : List Value := wvs st ++ (bvs rest ++ [.int .i64 h, .int .u64 a])

theorem hcells_length {st : List UInt32} {rest : List UInt8} (h1 : st.length = 8) (h2 : rest.length = 64) (h a : Int) : (hcells st rest h a).length = 74 := by
  unfold hcells; simp [wvs_length, bvs_length, h1, h2]

theorem hcells_copy {st : List UInt32} {rest : List UInt8} (h1 : st.length = 8) (h2 : rest.length = 64) (h a : Int) (r : Nat) (x : List UInt8) (hx : r + x.length ≤ 64) :
    splice (hcells st rest h a) (8 + r) (bvs x) = hcells st (splice rest r x) h a := by
  have e8 : (wvs st).length = 8 := by rw [wvs_length, h1]
  have e64 : (bvs rest).length = 64 := by rw [bvs_length, h2]
  unfold hcells splice
  rw [bvs_length, List.take_append, e8, List.take_of_length_le (by omega), show 8 + r - 8 = r by omega, List.take_append_of_le_length (by omega),
    List.drop_append, e8, List.drop_of_length_le (by omega), List.nil_append, show 8 + r + x.length - 8 = r + x.length by omega, List.drop_append_of_le_length (by omega)]
  unfold bvs
  simp only [List.map_append, List.map_take, List.map_drop, List.append_assoc]

theorem hcells_have {st : List UInt32} {rest : List UInt8} (h1 : st.length = 8) (h2 : rest.length = 64) (h h' a : Int) :
    (hcells st rest h a).toArray.setIfInBounds 72 (.int .i64 h') = (hcells st rest h' a).toArray := by
  have e8 : (wvs st).length = 8 := by rw [wvs_length, h1]
  have e64 : (bvs rest).length = 64 := by rw [bvs_length, h2]
  unfold hcells
  rw [List.setIfInBounds_toArray, List.set_append_right _ _ (by omega), e8, List.set_append_right _ _ (by omega), e64]
  rfl

theorem hcells_all {st : List UInt32} {rest : List UInt8} (h1 : st.length = 8) (h2 : rest.length = 64) (h a a' : Int) :
    (hcells st rest h a).toArray.setIfInBounds 73 (.int .u64 a') = (hcells st rest h a').toArray := by
  have e8 : (wvs st).length = 8 := by rw [wvs_length, h1]
  have e64 : (bvs rest).length = 64 := by rw [bvs_length, h2]
  unfold hcells
  rw [List.setIfInBounds_toArray, List.set_append_right _ _ (by omega), e8, List.set_append_right _ _ (by omega), e64]
  rfl

theorem hcells_state {st st' : List UInt32} {rest : List UInt8} (h1 : st.length = 8) (h1' : st'.length = 8) (h a : Int) :
    splice (hcells st rest h a) 0 (wvs st') = hcells st' rest h a := by
  have e8 : (wvs st).length = 8 := by rw [wvs_length, h1]
  unfold hcells splice
  rw [List.take_zero, List.nil_append, wvs_length, h1', Nat.zero_add, List.drop_append, e8, List.drop_of_length_le (by omega), List.nil_append]
  rfl

theorem hcells_getHave {st : List UInt32} {rest : List UInt8} (h1 : st.length = 8) (h2 : rest.length = 64) (h a : Int) : (hcells st rest h a).toArray[72]? = some (.int .i64 h) := by
  have e8 : (wvs st).length = 8 := by rw [wvs_length, h1]
  have e64 : (bvs rest).length = 64 := by rw [bvs_length, h2]
  unfold hcells
  rw [List.getElem?_toArray, List.getElem?_append_right (by omega), e8, List.getElem?_append_right (by omega), e64]
  rfl
theorem hcells_getAll {st : List UInt32} {rest : List UInt8} (h1 : st.length = 8) (h2 : rest.length = 64) (h a : Int) : (hcells st rest h a).toArray[73]? = some (.int .u64 a) := by
  have e8 : (wvs st).length = 8 := by rw [wvs_length, h1]
  have e64 : (bvs rest).length = 64 := by rw [bvs_length, h2]
  unfold hcells
  rw [List.getElem?_toArray, List.getElem?_append_right (by omega), e8, List.getElem?_append_right (by omega), e64]
  rfl
theorem hcells_getState {st : List UInt32} {rest : List UInt8} (h1 : st.length = 8) (h a : Int) (i : Nat) (hi : i < 8) : (hcells st rest h a).toArray[i]? = some (.int .u32 ((st[i]?.getD 0).toNat : Int)) := by
  unfold hcells
  rw [List.getElem?_toArray, List.getElem?_append_left (by rw [wvs_length]; omega), wvs_get _ _ (by omega), List.getElem?_eq_getElem (by omega)]
  rfl

theorem range_state {w : World} {g : Nat} {st : List UInt32} {rest : List UInt8} {h a : Int} {t : TypeId} {fr : Nat × Nat} (hg : w.heap[g]? = some (.cells (hcells st rest h a).toArray t fr)) : w.rangeAt g 0 (wvs st) :=
  rangeAt_blk hg 0 _ (by unfold hcells; rw [List.drop_zero]; exact List.take_left)
theorem range_rest {w : World} {g : Nat} {st : List UInt32} {rest : List UInt8} (h1 : st.length = 8) {h a : Int} {t : TypeId} {fr : Nat × Nat} (hg : w.heap[g]? = some (.cells (hcells st rest h a).toArray t fr)) : w.rangeAt g 8 (bvs rest) :=
  rangeAt_blk hg 8 _ (by
    have e8 : (wvs st).length = 8 := by rw [wvs_length, h1]
    show ((hcells st rest h a).drop 8).take (bvs rest).length = bvs rest
    unfold hcells
    rw [List.drop_append, e8, List.drop_of_length_le (by omega), List.nil_append]
    exact List.take_left)
theorem hcells_oneCell (st : List UInt32) (rest : List UInt8) (h a : Int) : ∀ v ∈ hcells st rest h a, v.oneCell' = true := by
  intro v hv
  unfold hcells at hv
  rcases List.mem_append.1 hv with hv | hv
  · exact wvs_oneCell _ v hv
  · rcases List.mem_append.1 hv with hv | hv
    · exact bvs_oneCell _ v hv
    · simp only [List.mem_cons, List.mem_nil_iff, or_false] at hv
      rcases hv with rfl | rfl <;> rfl

/-- What waits: the last bytes of all that was written. -/
structure HRest (m rest : List UInt8) : Prop where
  len : rest.length = 64
  waits : rest.take (m.length % 64) = m.drop (64 * (m.length / 64))

theorem length_splice' {α : Type} (L : List α) (o : Nat) (x : List α) (h : o + x.length ≤ L.length) : (splice L o x).length = L.length := length_splice L o x h
theorem take_splice {α : Type} (L : List α) (o : Nat) (x : List α) (h : o ≤ L.length) : (splice L o x).take (o + x.length) = L.take o ++ x := by
  unfold splice
  have e : (L.take o).length = o := by rw [List.length_take]; omega
  rw [← List.append_assoc, List.take_append_of_le_length (by rw [List.length_append, e]; omega), List.take_of_length_le (by rw [List.length_append, e]; omega)]

theorem hrest_lt {m rest : List UInt8} (h : HRest m rest) (x : List UInt8) (hx : m.length % 64 + x.length < 64) :
    HRest (m ++ x) (splice rest (m.length % 64) x) ∧ wst (m ++ x) ((m ++ x).length / 64) = wst m (m.length / 64) ∧ (m ++ x).length % 64 = m.length % 64 + x.length := by
  have e1 : (m ++ x).length / 64 = m.length / 64 := by rw [List.length_append]; omega
  have e2 : (m ++ x).length % 64 = m.length % 64 + x.length := by rw [List.length_append]; omega
  refine ⟨⟨by rw [length_splice' _ _ _ (by rw [h.len]; omega), h.len], ?_⟩, ?_, e2⟩
  · rw [e1, e2, take_splice _ _ _ (by rw [h.len]; omega), h.waits, List.drop_append_of_le_length (by omega)]
  · rw [e1, wst_append _ _ _ (by omega)]

theorem hrest_eq {m rest : List UInt8} (h : HRest m rest) (x : List UInt8) (hx : m.length % 64 + x.length = 64) :
    HRest (m ++ x) (splice rest (m.length % 64) x) ∧ wst (m ++ x) ((m ++ x).length / 64) = wblock (wst m (m.length / 64)) (splice rest (m.length % 64) x) ∧ (m ++ x).length % 64 = 0 := by
  have e1 : (m ++ x).length / 64 = m.length / 64 + 1 := by rw [List.length_append]; omega
  have e2 : (m ++ x).length % 64 = 0 := by rw [List.length_append]; omega
  have hl : (splice rest (m.length % 64) x).length = 64 := by rw [length_splice' _ _ _ (by rw [h.len]; omega), h.len]
  refine ⟨⟨hl, ?_⟩, ?_, e2⟩
  · rw [e1, e2, List.take_zero, List.drop_of_length_le (by rw [List.length_append]; omega)]
  · rw [e1, wst, wst_append _ _ _ (by omega)]
    congr 1
    have ht := take_splice rest (m.length % 64) x (by rw [h.len]; omega)
    rw [hx, List.take_of_length_le (by omega), h.waits, ← List.drop_append_of_le_length (by omega)] at ht
    rw [ht, List.take_of_length_le (by rw [List.length_drop, List.length_append]; omega)]

theorem hrest_nil (rest : List UInt8) (h : rest.length = 64) : HRest [] rest := ⟨h, rfl⟩

theorem RdC.frm0 {B : Nat} {S : Nat → Prop} {w w' : World} {a : Option Addr} {cs : List Value} (h : RdC w a cs) (hF : Frm B S w w') (hB : w.heap.size ≤ B) (hS : 0 < cs.length → ∀ b off, a = some ⟨b, off, none⟩ → ¬ S b) : RdC w' a cs := by
  by_cases h0 : 0 < cs.length
  · exact h.frm hF hB (hS h0)
  · obtain rfl : cs = [] := List.eq_nil_of_length_eq_zero (by omega)
    exact RdC.nil _ _

end Go.Proofs.YtdpfemhfmofmlaaDoor
