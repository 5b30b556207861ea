/- Words of 32 bits: the machine's numbers and UInt32. No function of the program stands in it. -/
import Derived.Test.YthgaghpakioglaaLib
import Derived.Deep.OwnRows
namespace Go.Proofs.Ythgaghpakioglaa
open Go.RowKit

theorem w_lt (x : UInt32) : x.toNat < 4294967296 := x.toNat_lt
/-- The operations under names of their own: the walk's rules leave them as they stand. -/
def wxor (x y : UInt32) : UInt32 := x ^^^ y
def wand (x y : UInt32) : UInt32 := x &&& y
def wor (x y : UInt32) : UInt32 := x ||| y
def wadd (x y : UInt32) : UInt32 := x + y
def wshr (x : UInt32) (n : Nat) : UInt32 := x >>> UInt32.ofNat n
def wshl (x : UInt32) (n : Nat) : UInt32 := x <<< UInt32.ofNat n

theorem w_xor (x y : UInt32) : bits .xor .u32 (x.toNat : Int) (y.toNat : Int) = ((wxor x y).toNat : Int) := by
  unfold wxor
  have h1 : (BitVec.ofInt 32 (x.toNat : Int)) = x.toBitVec := by rw [BitVec.ofInt_natCast]; apply BitVec.eq_of_toNat_eq; rw [BitVec.toNat_ofNat]; exact Nat.mod_eq_of_lt (w_lt x)
  have h2 : (BitVec.ofInt 32 (y.toNat : Int)) = y.toBitVec := by rw [BitVec.ofInt_natCast]; apply BitVec.eq_of_toNat_eq; rw [BitVec.toNat_ofNat]; exact Nat.mod_eq_of_lt (w_lt y)
  show IntKind.u32.wrap ((BitVec.ofInt 32 (x.toNat : Int) ^^^ BitVec.ofInt 32 (y.toNat : Int)).toNat : Int) = _
  rw [h1, h2, IntKind.wrap_u32]
  have := w_lt (x ^^^ y)
  have e : (x.toBitVec ^^^ y.toBitVec).toNat = (x ^^^ y).toNat := rfl
  rw [e]
  omega
theorem w_and (x y : UInt32) : bits .and .u32 (x.toNat : Int) (y.toNat : Int) = ((wand x y).toNat : Int) := by
  unfold wand
  have h1 : (BitVec.ofInt 32 (x.toNat : Int)) = x.toBitVec := by rw [BitVec.ofInt_natCast]; apply BitVec.eq_of_toNat_eq; rw [BitVec.toNat_ofNat]; exact Nat.mod_eq_of_lt (w_lt x)
  have h2 : (BitVec.ofInt 32 (y.toNat : Int)) = y.toBitVec := by rw [BitVec.ofInt_natCast]; apply BitVec.eq_of_toNat_eq; rw [BitVec.toNat_ofNat]; exact Nat.mod_eq_of_lt (w_lt y)
  show IntKind.u32.wrap ((BitVec.ofInt 32 (x.toNat : Int) &&& BitVec.ofInt 32 (y.toNat : Int)).toNat : Int) = _
  rw [h1, h2, IntKind.wrap_u32]
  have := w_lt (x &&& y)
  have e : (x.toBitVec &&& y.toBitVec).toNat = (x &&& y).toNat := rfl
  rw [e]
  omega
theorem w_or (x y : UInt32) : bits .or .u32 (x.toNat : Int) (y.toNat : Int) = ((wor x y).toNat : Int) := by
  unfold wor
  have h1 : (BitVec.ofInt 32 (x.toNat : Int)) = x.toBitVec := by rw [BitVec.ofInt_natCast]; apply BitVec.eq_of_toNat_eq; rw [BitVec.toNat_ofNat]; exact Nat.mod_eq_of_lt (w_lt x)
  have h2 : (BitVec.ofInt 32 (y.toNat : Int)) = y.toBitVec := by rw [BitVec.ofInt_natCast]; apply BitVec.eq_of_toNat_eq; rw [BitVec.toNat_ofNat]; exact Nat.mod_eq_of_lt (w_lt y)
  show IntKind.u32.wrap ((BitVec.ofInt 32 (x.toNat : Int) ||| BitVec.ofInt 32 (y.toNat : Int)).toNat : Int) = _
  rw [h1, h2, IntKind.wrap_u32]
  have := w_lt (x ||| y)
  have e : (x.toBitVec ||| y.toBitVec).toNat = (x ||| y).toNat := rfl
  rw [e]
  omega
theorem w_add (x y : UInt32) : ((x.toNat : Int) + (y.toNat : Int)) % 4294967296 = ((wadd x y).toNat : Int) := by unfold wadd; rw [UInt32.toNat_add]; omega
theorem w_shr (x : UInt32) (n : Nat) (hn : n < 32) : (x.toNat : Int) / 2 ^ n = ((wshr x n).toNat : Int) := by
  unfold wshr
  rw [UInt32.toNat_shiftRight, UInt32.toNat_ofNat', Nat.mod_eq_of_lt (show n < 2 ^ 32 by omega), Nat.mod_eq_of_lt hn, Nat.shiftRight_eq_div_pow, Int.natCast_ediv, Int.natCast_pow]
  rfl
theorem w_shl (x : UInt32) (n : Nat) (hn : n < 32) : (x.toNat : Int) * 2 ^ n % 4294967296 = ((wshl x n).toNat : Int) := by
  unfold wshl
  rw [UInt32.toNat_shiftLeft, UInt32.toNat_ofNat', Nat.mod_eq_of_lt (show n < 2 ^ 32 by omega), Nat.mod_eq_of_lt hn, Nat.shiftLeft_eq, Int.natCast_emod, Int.natCast_mul, Int.natCast_pow]
  rfl

/-- A word turned right. -/
def rotr (x : UInt32) (n : Nat) : UInt32 := wor (wshr x n) (wshl x (32 - n))
theorem rotr_eq' (x : UInt32) (n : Nat) : wor (wshl x (32 - n)) (wshr x n) = rotr x n := by unfold rotr wor; exact UInt32.or_comm _ _

/-- Words as the machine holds them. -/
def wv (x : UInt32) : Value := .int .u32 (x.toNat : Int)
def wvs (l : List UInt32) : List Value := l.map wv
theorem wvs_length (l : List UInt32) : (wvs l).length = l.length := by simp [wvs]
theorem wvs_get (l : List UInt32) (k : Nat) (h : k < l.length) : (wvs l)[k]? = some (.int .u32 (l[k].toNat : Int)) := by simp [wvs, h, wv]
theorem wvs_oneCell (l : List UInt32) : ∀ u ∈ wvs l, u.oneCell' = true := by
  intro u hu
  obtain ⟨x, _, rfl⟩ := List.mem_map.1 hu
  rfl

/-- A word out of four bytes. -/
def word4 (b : List UInt8) (t : Nat) : UInt32 := UInt32.ofNat (((((b[4 * t]?.getD 0).toNat * 256 + (b[4 * t + 1]?.getD 0).toNat) * 256 + (b[4 * t + 2]?.getD 0).toNat) * 256) + (b[4 * t + 3]?.getD 0).toNat)

theorem num1 (x y : Nat) : x * 16777216 + y * 65536 = (x * 256 + y) * 65536 := by omega
theorem num2 (x y : Nat) : x * 65536 + y * 256 = (x * 256 + y) * 256 := by omega

theorem word4_or (c0 c1 c2 c3 : UInt8) : wor (wor (wor (UInt32.ofNat (c0.toNat * 16777216)) (UInt32.ofNat (c1.toNat * 65536))) (UInt32.ofNat (c2.toNat * 256))) (UInt32.ofNat c3.toNat) =
    UInt32.ofNat (((((c0.toNat * 256 + c1.toNat) * 256 + c2.toNat) * 256)) + c3.toNat) := by
  have h0 := c0.toNat_lt
  have h1 := c1.toNat_lt
  have h2 := c2.toNat_lt
  have h3 := c3.toNat_lt
  unfold wor
  apply UInt32.toNat_inj.1
  rw [UInt32.toNat_or, UInt32.toNat_or, UInt32.toNat_or]
  simp only [UInt32.toNat_ofNat']
  rw [Nat.mod_eq_of_lt (show c0.toNat * 16777216 < 2 ^ 32 by omega), Nat.mod_eq_of_lt (show c1.toNat * 65536 < 2 ^ 32 by omega), Nat.mod_eq_of_lt (show c2.toNat * 256 < 2 ^ 32 by omega), Nat.mod_eq_of_lt (show c3.toNat < 2 ^ 32 by omega), Nat.mod_eq_of_lt (by omega)]
  have e1 := Nat.shiftLeft_add_eq_or_of_lt (i := 24) (b := c1.toNat * 65536) (by omega) c0.toNat
  rw [Nat.shiftLeft_eq] at e1
  have e2 := Nat.shiftLeft_add_eq_or_of_lt (i := 16) (b := c2.toNat * 256) (by omega) (c0.toNat * 256 + c1.toNat)
  rw [Nat.shiftLeft_eq] at e2
  have e3 := Nat.shiftLeft_add_eq_or_of_lt (i := 8) (b := c3.toNat) (by omega) ((c0.toNat * 256 + c1.toNat) * 256 + c2.toNat)
  rw [Nat.shiftLeft_eq] at e3
  simp only [Nat.reducePow] at e1 e2 e3
  rw [← e1, num1, ← e2, num2, ← e3]

theorem wrap_of (n : Nat) (h : n < 4294967296) : IntKind.u32.wrap (n : Int) = ((UInt32.ofNat n).toNat : Int) := by
  rw [IntKind.wrap_u32, UInt32.toNat_ofNat', Nat.mod_eq_of_lt (show n < 2 ^ 32 by omega)]
  omega

theorem u8_lt (c : UInt8) : c.toNat < 4294967296 := Nat.lt_trans c.toNat_lt (by decide)
theorem u32_small (c : UInt8) : IntKind.u32.wrap (c.toNat : Int) = (c.toNat : Int) := by have := c.toNat_lt; rw [IntKind.wrap_u32]; omega
theorem wrap_mul (n m : Nat) (h : n * m < 4294967296) : IntKind.u32.wrap ((n : Int) * (m : Int)) = ((UInt32.ofNat (n * m)).toNat : Int) := by rw [← Int.natCast_mul]; exact wrap_of _ h

def wsig (x : UInt32) (a b c : Nat) : UInt32 := wxor (wxor (rotr x a) (rotr x b)) (wshr x c)

/-- The next word of a block's row. -/
def wnext (l : List UInt32) : UInt32 :=
  wadd (wadd (wadd (l[l.length - 16]?.getD 0) (wsig (l[l.length - 15]?.getD 0) 7 18 3)) (l[l.length - 7]?.getD 0)) (wsig (l[l.length - 2]?.getD 0) 17 19 10)

/-- The first n words of a block's row. -/
def wrow (b : List UInt8) : Nat → List UInt32
  | 0 => []
  | n + 1 => wrow b n ++ [if n < 16 then word4 b n else wnext (wrow b n)]

theorem wrow_length (b : List UInt8) : ∀ n, (wrow b n).length = n
  | 0 => rfl
  | n + 1 => by rw [wrow, List.length_append, wrow_length b n]; rfl

/-- Memory is made for a variable: what is in it. -/
theorem wpList_alloc_fresh {P : Program} {ops : Array Oper} {rest : List Oper} {o : Oper} {a : Act} {w : World} {Q : Exit → Act → World → Prop} (hg : o.guard = none) (ty : TypeId) (ho : o.op = .alloc ty)
    (cells : Array Value) (i : TypeInfo) (z : Value) (hi : P.info? ty = some i) (hz : i.zero = some z) (hc : z.cells = cells)
    (h : ∀ w1, w1.heap[w.heap.size]? = some (.cells cells ty (0, 0)) → Below w.heap.size w w1 → w1.heap.size = w.heap.size + 1 → wpList P ops Q rest (a.put o.dst (.pointer (some ⟨w.heap.size, 0, none⟩))) w1) :
    wpList P ops Q (o :: rest) a w := by
  refine wpList_plain hg fun K hK => ?_
  have hrun : (execOp a.eval o).run P w = .ok (.value (.pointer (some ⟨w.heap.size, 0, none⟩))) (w.alloc (.cells cells ty)) := by
    unfold execOp
    rw [ho]
    simp [Instr.alloc, zeroValue, typeInfo, newVar, newRow, hi, hz, hc]
  unfold Oper.wp
  rw [hrun, Oper.upon_value]
  exact hK _ _ (h _ (heap_alloc_new w _) ((Below.refl _ _).alloc (Nat.le_refl _) _) (by simp))

theorem fresh_parts {P : Program} {ty : TypeId} {cells : Array Value} (h : (P.info? ty).bind (fun i => i.zero.map (·.cells)) = some cells) : ∃ i z, P.info? ty = some i ∧ i.zero = some z ∧ z.cells = cells := by
  cases hi : P.info? ty with
  | none => simp [hi] at h
  | some i =>
    cases hz : i.zero with
    | none => simp [hi, hz] at h
    | some z => exact ⟨i, z, rfl, hz, by simpa [hi, hz] using h⟩

/-- n noughts. -/
def zeros (n : Nat) : Array Value := (List.replicate n (Value.int .u32 0)).toArray

theorem word4_parts (b : List UInt8) (t q0 q1 q2 q3 : Nat) (h0 : 4 * t = q0) (h1 : q0 + 1 = q1) (h2 : q0 + 2 = q2) (h3 : q0 + 3 = q3) : ∃ (c0 c1 c2 c3 : UInt8) (y0 y1 y2 y3 : UInt32),
    b[q0]?.getD 0 = c0 ∧ b[q1]?.getD 0 = c1 ∧ b[q2]?.getD 0 = c2 ∧ b[q3]?.getD 0 = c3 ∧
    IntKind.u32.wrap (c0.toNat : Int) = (c0.toNat : Int) ∧ IntKind.u32.wrap (c1.toNat : Int) = (c1.toNat : Int) ∧ IntKind.u32.wrap (c2.toNat : Int) = (c2.toNat : Int) ∧ IntKind.u32.wrap (c3.toNat : Int) = (y3.toNat : Int) ∧
    IntKind.u32.wrap ((c0.toNat : Int) * 16777216) = (y0.toNat : Int) ∧ IntKind.u32.wrap ((c1.toNat : Int) * 65536) = (y1.toNat : Int) ∧ IntKind.u32.wrap ((c2.toNat : Int) * 256) = (y2.toNat : Int) ∧
    wor (wor (wor y0 y1) y2) y3 = word4 b t := by
  refine ⟨_, _, _, _, UInt32.ofNat ((b[q0]?.getD 0).toNat * 16777216), UInt32.ofNat ((b[q1]?.getD 0).toNat * 65536), UInt32.ofNat ((b[q2]?.getD 0).toNat * 256), UInt32.ofNat (b[q3]?.getD 0).toNat, rfl, rfl, rfl, rfl, ?_, ?_, ?_, ?_, ?_, ?_, ?_, ?_⟩
  · exact u32_small _
  · exact u32_small _
  · exact u32_small _
  · exact wrap_of _ (u8_lt _)
  · exact wrap_mul _ 16777216 (by have := (b[q0]?.getD 0).toNat_lt; omega)
  · exact wrap_mul _ 65536 (by have := (b[q1]?.getD 0).toNat_lt; omega)
  · exact wrap_mul _ 256 (by have := (b[q2]?.getD 0).toNat_lt; omega)
  · rw [word4_or]
    unfold word4
    rw [h0, h1, h2, h3]

/-- The exclusive or of a word turned right by each. -/
def wturns (x : UInt32) (l : List Nat) : UInt32 := l.foldl (fun o n => wxor o (rotr x n)) 0
/-- The rounds' constants, and the state of nothing. -/
def wK : List UInt32 := [0x428a2f98, 0x71374491, 0xb5c0fbcf, 0xe9b5dba5, 0x3956c25b, 0x59f111f1, 0x923f82a4, 0xab1c5ed5, 0xd807aa98, 0x12835b01, 0x243185be, 0x550c7dc3, 0x72be5d74, 0x80deb1fe, 0x9bdc06a7, 0xc19bf174, 0xe49b69c1, 0xefbe4786, 0x0fc19dc6, 0x240ca1cc, 0x2de92c6f, 0x4a7484aa, 0x5cb0a9dc, 0x76f988da, 0x983e5152, 0xa831c66d, 0xb00327c8, 0xbf597fc7, 0xc6e00bf3, 0xd5a79147, 0x06ca6351, 0x14292967, 0x27b70a85, 0x2e1b2138, 0x4d2c6dfc, 0x53380d13, 0x650a7354, 0x766a0abb, 0x81c2c92e, 0x92722c85, 0xa2bfe8a1, 0xa81a664b, 0xc24b8b70, 0xc76c51a3, 0xd192e819, 0xd6990624, 0xf40e3585, 0x106aa070, 0x19a4c116, 0x1e376c08, 0x2748774c, 0x34b0bcb5, 0x391c0cb3, 0x4ed8aa4a, 0x5b9cca4f, 0x682e6ff3, 0x748f82ee, 0x78a5636f, 0x84c87814, 0x8cc70208, 0x90befffa, 0xa4506ceb, 0xbef9a3f7, 0xc67178f2]
def wH : List UInt32 := [0x6a09e667, 0xbb67ae85, 0x3c6ef372, 0xa54ff53a, 0x510e527f, 0x9b05688c, 0x1f83d9ab, 0x5be0cd19]
def wchoice (e f g : UInt32) : UInt32 := wxor g (wand e (wxor f g))
def wmost (a b c : UInt32) : UInt32 := wxor (wand a b) (wand c (wxor a b))
def wu (e f g h k w : UInt32) : UInt32 := wadd (wadd (wadd (wadd h (wturns e [6, 11, 25])) (wchoice e f g)) k) w
def wv1 (a b c : UInt32) : UInt32 := wadd (wturns a [2, 13, 22]) (wmost a b c)
/-- A round. -/
def wround (s : List UInt32) (k w : UInt32) : List UInt32 :=
  match s with
  | [a, b, c, d, e, f, g, h] => [wadd (wu e f g h k w) (wv1 a b c), a, b, c, wadd d (wu e f g h k w), e, f, g]
  | _ => s
def wrounds (s ws : List UInt32) : Nat → List UInt32
  | 0 => s
  | t + 1 => wround (wrounds s ws t) (wK[t]?.getD 0) (ws[t]?.getD 0)
/-- The state behind a block. -/
def wblock (h : List UInt32) (b : List UInt8) : List UInt32 := List.zipWith wadd (wrounds h (wrow b 64) 64) h
/-- The state behind the first n blocks of some bytes. -/
def wst (m : List UInt8) : Nat → List UInt32
  | 0 => wH
  | n + 1 => wblock (wst m n) ((m.drop (64 * n)).take 64)

theorem wround_length (s : List UInt32) (k w : UInt32) : (wround s k w).length = s.length := by
  unfold wround
  split
  · rfl
  · rfl
theorem wrounds_length (s ws : List UInt32) : ∀ n, (wrounds s ws n).length = s.length
  | 0 => rfl
  | n + 1 => by rw [wrounds, wround_length, wrounds_length s ws n]
theorem wblock_length (h : List UInt32) (b : List UInt8) : (wblock h b).length = h.length := by
  unfold wblock; rw [List.length_zipWith, wrounds_length]; omega
theorem wst_length (m : List UInt8) : ∀ n, (wst m n).length = 8
  | 0 => rfl
  | n + 1 => by rw [wst, wblock_length, wst_length m n]
theorem wst_append (m x : List UInt8) : ∀ n, 64 * n ≤ m.length → wst (m ++ x) n = wst m n
  | 0, _ => rfl
  | n + 1, h => by
    rw [wst, wst, wst_append m x n (by omega)]
    congr 1
    rw [List.drop_append_of_le_length (by omega), List.take_append_of_le_length (by rw [List.length_drop]; omega)]
theorem eight (s : List UInt32) (h : s.length = 8) : ∃ a b c d e f g k, s = [a, b, c, d, e, f, g, k] := by
  match s, h with
  | [a, b, c, d, e, f, g, k], _ => exact ⟨a, b, c, d, e, f, g, k, rfl⟩

theorem row_set {w : World} {z : Nat} {arr : Array Value} {ty : TypeId} {fr : Nat × Nat} (h : w.heap[z]? = some (.cells arr ty fr)) (t : Nat) (u : Value) :
    (w.setCell ⟨z, t, none⟩ u).heap[z]? = some (.cells (arr.setIfInBounds t u) ty fr) := by
  unfold World.setCell
  rw [Array.getElem?_modify, if_pos rfl, h]
  rfl

theorem wrow_get (b : List UInt8) (n t : Nat) (h : t < n) (hn : n ≤ 64) : (wrow b n)[t]? = some (if t < 16 then word4 b t else wnext (wrow b t)) := by
  induction n with
  | zero => omega
  | succ n ih =>
    rw [wrow]
    by_cases e : t < n
    · rw [List.getElem?_append_left (by rw [wrow_length]; exact e)]
      exact ih e (by omega)
    · obtain rfl : t = n := by omega
      rw [List.getElem?_append_right (by rw [wrow_length]; omega), wrow_length, Nat.sub_self]
      rfl

/-- Where the row of words stands behind t rounds. -/
def rowCells (b : List UInt8) (t : Nat) : Array Value := (wvs (wrow b t) ++ List.replicate (64 - t) (Value.int .u32 0)).toArray

theorem rowCells_set (b : List UInt8) (t : Nat) (h : t < 64) (x : UInt32) (hx : x = if t < 16 then word4 b t else wnext (wrow b t)) :
    (rowCells b t).setIfInBounds t (.int .u32 (x.toNat : Int)) = rowCells b (t + 1) := by
  unfold rowCells
  obtain ⟨q, hq⟩ : ∃ q, 64 - t = q + 1 := ⟨63 - t, by omega⟩
  have e : (wvs (wrow b t)).length = t := by rw [wvs_length, wrow_length]
  rw [hq, show 64 - (t + 1) = q by omega, wrow, ← hx]
  rw [List.setIfInBounds_toArray, List.set_append_right _ _ (by omega), e, Nat.sub_self, List.replicate_succ, List.set_cons_zero]
  congr 1
  simp [wvs, wv]

theorem rowCells_get (b : List UInt8) (t j : Nat) (h : j < t) (_ht : t ≤ 64) : (rowCells b t)[j]? = some (.int .u32 (((wrow b t)[j]?.getD 0).toNat : Int)) := by
  unfold rowCells
  rw [List.getElem?_toArray, List.getElem?_append_left (by rw [wvs_length, wrow_length]; exact h), wvs_get _ _ (by rw [wrow_length]; exact h), List.getElem?_eq_getElem (by rw [wrow_length]; exact h)]
  rfl

theorem rowCells_zero (b : List UInt8) (t : Nat) (h : t < 64) : (rowCells b t)[t]? = some (.int .u32 0) := by
  unfold rowCells
  rw [List.getElem?_toArray, List.getElem?_append_right (by rw [wvs_length, wrow_length]; omega), wvs_length, wrow_length, Nat.sub_self]
  obtain ⟨q, hq⟩ : ∃ q, 64 - t = q + 1 := ⟨63 - t, by omega⟩
  rw [hq]
  rfl

theorem rowCells_all (b : List UInt8) : rowCells b 64 = (wvs (wrow b 64)).toArray := by
  unfold rowCells; simp

theorem set_splice {α : Type} (L : List α) (o : Nat) (v : α) (r : List α) (h : o + 1 + r.length ≤ L.length) : splice (L.set o v) (o + 1) r = splice L o (v :: r) := by
  have e : (L.set o v).take (o + 1) = L.take o ++ [v] := by
    rw [List.take_succ_eq_append_getElem (by simp; omega), List.getElem_set_self, List.take_set_of_le (Nat.le_refl _)]
  unfold splice
  rw [e, List.drop_set_of_lt (by omega), List.length_cons, show o + 1 + r.length = o + (r.length + 1) by omega]
  simp

/-- A block behind a store of cells in its midst. -/
theorem heap_setCells_at (g : Nat) {t : TypeId} {fr : Nat × Nat} : ∀ (vs : List Value) (o : Nat) (arr : Array Value) (w : World), w.heap[g]? = some (.cells arr t fr) → o + vs.length ≤ arr.size →
    (w.setCells g o vs).heap[g]? = some (.cells (splice arr.toList o vs).toArray t fr)
  | [], o, arr, w, h, _ => by
    rw [World.setCells, h]; simp [splice]
  | v :: r, o, arr, w, h, hs => by
    rw [World.setCells]
    have h1 := row_set h o v
    have := heap_setCells_at g r (o + 1) (arr.setIfInBounds o v) _ h1 (by simp at hs ⊢; omega)
    rw [this, Array.toList_setIfInBounds, set_splice _ _ _ _ (by simp at hs ⊢; omega)]

theorem grownBy_setCells (w : World) (g : Nat) : ∀ (vs : List Value) (o : Nat) (w1 : World), w.grownBy w1 (some g) → w.grownBy (w1.setCells g o vs) (some g)
  | [], _, _, h => h
  | v :: r, o, w1, h => grownBy_setCells w g r (o + 1) _ ⟨h.os, h.tape, h.output, by simpa [World.setCell] using h.size, fun k hk hne => by rw [Below.heap_setCell _ _ _ _ (by intro e; exact hne (by rw [e]))]; exact h.block k hk hne⟩

/-- What lies in a block that is known whole. -/
theorem rangeAt_blk {w : World} {g : Nat} {arr : Array Value} {t : TypeId} {fr : Nat × Nat} (hg : w.heap[g]? = some (.cells arr t fr)) (o : Nat) (cs : List Value) (hc : (arr.toList.drop o).take cs.length = cs) : w.rangeAt g o cs := fun j v hj => by
  rw [cell_of_row w g (o + j) arr t fr hg]
  have hlt := (List.getElem?_eq_some_iff.1 hj).1
  rw [← hc, List.getElem?_take, if_pos hlt, List.getElem?_drop] at hj
  rw [← Array.getElem?_toList]
  exact hj

theorem there_blk {w : World} {g : Nat} {arr : Array Value} {t : TypeId} (hg : w.heap[g]? = some (.cells arr t (0, 0))) (o n : Nat) (h : o + n ≤ arr.size) : w.there g o n := fun j hj => by
  refine ⟨?_, frozen_of_row w g (o + j) _ _ hg⟩
  rw [cell_of_row w g (o + j) arr t _ hg, Array.getElem?_eq_getElem (by omega)]
  rfl

/-- A store of an array, or a struct, into the midst of a block that is known whole. -/
theorem wpList_store_blk {P : Program} {ops : Array Oper} {rest : List Oper} {op : Oper} {a : Act} {w : World} {Q : Exit → Act → World → Prop} (hgd : op.guard = none) (ty : TypeId) (x y : Operand) (ho : op.op = .store ty x y)
    (g o : Nat) (cells : List Value) (hx : a.eval x = .pointer (some ⟨g, o, none⟩)) (hy : a.eval y = .agg cells.toArray) (arr : Array Value) (t : TypeId) (hg : w.heap[g]? = some (.cells arr t (0, 0)))
    (hfit : o + cells.length ≤ arr.size) (hi : (P.info? ty).map (·.size) = some cells.length) (h1 : ∀ v ∈ cells, v.oneCell' = true)
    (h : ∀ w1, w1.heap[g]? = some (.cells (splice arr.toList o cells).toArray t (0, 0)) → w.grownBy w1 (some g) → wpList P ops Q rest (a.put op.dst undef) w1) : wpList P ops Q (op :: rest) a w := by
  refine wpList_store_mid hgd ty x y ho g o cells.toArray hx hy (there_blk hg o _ (by simpa using hfit)) (by simpa using hi) (all_oneCell_toArray h1) ?_
  exact h _ (heap_setCells_at g cells o arr w hg hfit) (grownBy_setCells w g cells o w (World.grownBy.refl _ _))

theorem splice_whole {α : Type} (L cs : List α) (h : cs.length = L.length) : splice L 0 cs = cs := by
  unfold splice
  rw [List.take_zero, List.nil_append, Nat.zero_add, List.drop_of_length_le (by omega), List.append_nil]

/-- The result's cell is read. -/
theorem results_blk {P : Program} {fn : Func} {p : Tmp} {ty : TypeId} (h : fn.results = #[.cell p ty]) {tmps : Array Value} {w : World} {g o : Nat} (hp : tmps.getD p undef = .pointer (some ⟨g, o, none⟩)) {cs : List Value} {d : TypeDesc} (hc : w.rangeAt g o cs)
    (hu : P.underlying ty = some d) (hd : d.isRow = true) (hi : (P.info? ty).map (·.size) = some cs.length) : (results fn tmps).run P w = .ok (.agg cs.toArray) w :=
  results_cell h tmps P w _ hp _ (run_loadVar_mid w g o ty cs d hc hu hd hi)

theorem rangeAt_whole {w : World} {g : Nat} {cs : List Value} {t : TypeId} {fr : Nat × Nat} (hg : w.heap[g]? = some (.cells cs.toArray t fr)) : w.rangeAt g 0 cs :=
  rangeAt_blk hg 0 cs (by rw [List.drop_zero]; exact List.take_length)

/-- An array by value is indexed. -/
theorem wpList_index_arr {P : Program} {ops : Array Oper} {rest : List Oper} {op : Oper} {a : Act} {w : World} {Q : Exit → Act → World → Prop} (hgd : op.guard = none) (ty : TypeId) (x y : Operand) (ho : op.op = .index ty x y)
    (n : Nat) (e : TypeId) (k : IntKind) (hu : P.underlying ty = some (.array n e)) (he : P.underlying e = some (.int k)) (hie : (P.info? e).map (·.size) = some 1)
    (cs : Array Value) (hx : a.eval x = .agg cs) (i : Nat) (hy : a.eval y = .int .i64 (i : Int)) (hi : i < n) (v : Value) (hv : cs[i]? = some v)
    (h : wpList P ops Q rest (a.put op.dst v) w) : wpList P ops Q (op :: rest) a w := by
  refine wpList_plain hgd fun K hK => ?_
  have hrun : (Instr.index ty (.agg cs) (.int .i64 (i : Int))).run P w = .ok v w := by
    cases hq : P.info? e with
    | none => simp [hq] at hie
    | some z =>
      have hz : z.size = 1 := by simpa [hq] using hie
      simp [Instr.index, asIntOf, run_underlying hu, hi, sizeOf, typeInfo, hq, hz, part, isAgg, run_underlying he, hv]
  unfold Oper.wp execOp
  simp only [ho, hx, hy, Sem.run_bind, hrun, Result.andThen_ok, Sem.run_pure]
  rw [Oper.upon_value]
  exact hK _ _ h

/-- The sums of the first i words of two states; the rest of the one. -/
def addUp (S H : List UInt32) (i : Nat) : List UInt32 := (List.zipWith wadd S H).take i ++ S.drop i
theorem addUp_step (S H : List UInt32) (hS : S.length = 8) (hH : H.length = 8) (i : Nat) (hi : i < 8) :
    ∃ x y, S[i]? = some x ∧ H[i]? = some y ∧ (addUp S H i)[i]? = some x ∧ (wvs (addUp S H i)).toArray.setIfInBounds i (.int .u32 ((wadd x y).toNat : Int)) = (wvs (addUp S H (i + 1))).toArray := by
  obtain ⟨a, b, c, d, e, f, g, k, rfl⟩ := eight S hS
  obtain ⟨a', b', c', d', e', f', g', k', rfl⟩ := eight H hH
  have : i = 0 ∨ i = 1 ∨ i = 2 ∨ i = 3 ∨ i = 4 ∨ i = 5 ∨ i = 6 ∨ i = 7 := by omega
  rcases this with rfl | rfl | rfl | rfl | rfl | rfl | rfl | rfl <;> exact ⟨_, _, rfl, rfl, rfl, rfl⟩
theorem addUp_zero (S H : List UInt32) : addUp S H 0 = S := by simp [addUp]
theorem addUp_all (S H : List UInt32) (hS : S.length = 8) (hH : H.length = 8) : addUp S H 8 = List.zipWith wadd S H := by
  unfold addUp
  rw [List.drop_of_length_le (by omega), List.append_nil, List.take_of_length_le (by rw [List.length_zipWith]; omega)]
theorem addUp_length (S H : List UInt32) (hS : S.length = 8) (hH : H.length = 8) (i : Nat) (hi : i ≤ 8) : (addUp S H i).length = 8 := by
  unfold addUp
  rw [List.length_append, List.length_take, List.length_zipWith, List.length_drop]
  omega
theorem wturns3 (x : UInt32) (a b c : Nat) : wturns x [a, b, c] = wxor (wxor (rotr x a) (rotr x b)) (rotr x c) := by
  unfold wturns wxor
  simp

theorem rangeAt_below {w w' : World} {B g o : Nat} {cs : List Value} (h : w.rangeAt g o cs) (hb : Below B w w') (hB : w.heap.size ≤ B) : w'.rangeAt g o cs := fun j v hj => by
  rw [hb.cell (p := ⟨g, o + j, none⟩) (Nat.lt_of_lt_of_le (World.block_lt_of_cell? w _ (h j v hj)) hB)]
  exact h j v hj

/-- What a round reckons, each number by its name. -/
theorem round_parts (a b c d e f g h k x : UInt32) : ∃ y1 y2 ch z1 z2 z3 mo te ta u1 u2 u3 u4 v n1 n2 : UInt32,
    bits .xor .u32 (f.toNat : Int) (g.toNat : Int) = (y1.toNat : Int) ∧ bits .and .u32 (e.toNat : Int) (y1.toNat : Int) = (y2.toNat : Int) ∧ bits .xor .u32 (g.toNat : Int) (y2.toNat : Int) = (ch.toNat : Int) ∧
    bits .and .u32 (a.toNat : Int) (b.toNat : Int) = (z1.toNat : Int) ∧ bits .xor .u32 (a.toNat : Int) (b.toNat : Int) = (z2.toNat : Int) ∧ bits .and .u32 (c.toNat : Int) (z2.toNat : Int) = (z3.toNat : Int) ∧ bits .xor .u32 (z1.toNat : Int) (z3.toNat : Int) = (mo.toNat : Int) ∧
    wturns e [6, 11, 25] = te ∧ wturns a [2, 13, 22] = ta ∧
    ((h.toNat : Int) + (te.toNat : Int)) % 4294967296 = (u1.toNat : Int) ∧ ((u1.toNat : Int) + (ch.toNat : Int)) % 4294967296 = (u2.toNat : Int) ∧ ((u2.toNat : Int) + (k.toNat : Int)) % 4294967296 = (u3.toNat : Int) ∧ ((u3.toNat : Int) + (x.toNat : Int)) % 4294967296 = (u4.toNat : Int) ∧
    ((ta.toNat : Int) + (mo.toNat : Int)) % 4294967296 = (v.toNat : Int) ∧ ((u4.toNat : Int) + (v.toNat : Int)) % 4294967296 = (n1.toNat : Int) ∧ ((d.toNat : Int) + (u4.toNat : Int)) % 4294967296 = (n2.toNat : Int) ∧
    wround [a, b, c, d, e, f, g, h] k x = [n1, a, b, c, n2, e, f, g] :=
  ⟨_, _, _, _, _, _, _, _, _, _, _, _, _, _, _, _, w_xor _ _, w_and _ _, w_xor _ _, w_and _ _, w_xor _ _, w_and _ _, w_xor _ _, rfl, rfl, w_add _ _, w_add _ _, w_add _ _, w_add _ _, w_add _ _, w_add _ _, w_add _ _, rfl⟩

theorem splice8 (L : List UInt32) (a b c d e f g h : UInt32) (hL : L.length = 8) : (splice (wvs L).toArray.toList 0 [.int .u32 (a.toNat : Int), .int .u32 (b.toNat : Int), .int .u32 (c.toNat : Int), .int .u32 (d.toNat : Int), .int .u32 (e.toNat : Int), .int .u32 (f.toNat : Int), .int .u32 (g.toNat : Int), .int .u32 (h.toNat : Int)]).toArray =
    (wvs [a, b, c, d, e, f, g, h]).toArray := by
  rw [splice_whole _ _ (by simp [wvs_length, hL])]
  rfl
theorem all8 (a b c d e f g h : UInt32) : ∀ v ∈ [Value.int .u32 (a.toNat : Int), .int .u32 (b.toNat : Int), .int .u32 (c.toNat : Int), .int .u32 (d.toNat : Int), .int .u32 (e.toNat : Int), .int .u32 (f.toNat : Int), .int .u32 (g.toNat : Int), .int .u32 (h.toNat : Int)], v.oneCell' = true := by
  intro v hv
  simp only [List.mem_cons, List.mem_nil_iff, or_false] at hv
  rcases hv with rfl | rfl | rfl | rfl | rfl | rfl | rfl | rfl <;> rfl

/-- 'x[q:]' of a slice whose elements are one cell each. -/
theorem run_slice_from {P : Program} (t e : TypeId) (hu : P.underlying t = some (.slice e)) (hsz : (P.info? e).map (·.size) = some 1) (a : Option Addr) (n c q : Nat) (hq : q ≤ n) (w : World) :
    (Instr.slice t (.slice a n c) (some (.int .i64 (q : Int))) none none).run P w = .ok (.slice (if c = q then a else a.map (·.add q)) (n - q) (c - q)) w := by
  cases hi : P.info? e with
  | none => simp [hi] at hsz
  | some z =>
    have hz : z.size = 1 := by simpa [hi] using hsz
    have h1 : (0 : Int) ≤ (q : Int) ∧ (q : Int) ≤ (n : Int) := by omega
    simp [Instr.slice, Instr.sliceBounds, Instr.sliceBound, asIntOf, run_underlying hu, sizeOf, typeInfo, hi, hz, hq]

/-- At a step of a region that draws its order: the load of an array, or a struct. -/
theorem step_load_mid {P : Program} {w : World} {ops : Array Oper} {o : Oper} {a : Act} {K : Act → World → Prop} {Q : Exit → Act → World → Prop} {E : Prop} (hgd : o.guard = none) (ty : TypeId) (x : Operand) (ho : o.op = .load ty x)
    (b off : Nat) (hx : a.eval x = .pointer (some ⟨b, off, none⟩)) (cs : List Value) (d : TypeDesc) (hc : w.rangeAt b off cs)
    (hu : P.underlying ty = some d) (hd : d.isRow = true) (hi : (P.info? ty).map (·.size) = some cs.length)
    (h : K (a.put o.dst (.agg cs.toArray)) w) : if Region.wanted o (yielded ops a.tmps) = true then Oper.wp P o a w K Q else E := by
  have hw : Region.wanted o (yielded ops a.tmps) = true := by simp [Region.wanted, hgd]
  rw [if_pos hw]
  exact wp_load_mid ty x ho b off hx cs d hc hu hd hi h

theorem step_store_blk {P : Program} {w : World} {ops : Array Oper} {o : Oper} {a : Act} {K : Act → World → Prop} {Q : Exit → Act → World → Prop} {E : Prop} (hgd : o.guard = none) (ty : TypeId) (x y : Operand) (ho : o.op = .store ty x y)
    (g off : Nat) (cells : List Value) (hx : a.eval x = .pointer (some ⟨g, off, none⟩)) (hy : a.eval y = .agg cells.toArray) (arr : Array Value) (t : TypeId) (hg : w.heap[g]? = some (.cells arr t (0, 0)))
    (hfit : off + cells.length ≤ arr.size) (hi : (P.info? ty).map (·.size) = some cells.length) (h1 : ∀ v ∈ cells, v.oneCell' = true)
    (h : ∀ w1, w1.heap[g]? = some (.cells (splice arr.toList off cells).toArray t (0, 0)) → w.grownBy w1 (some g) → K (a.put o.dst undef) w1) :
    if Region.wanted o (yielded ops a.tmps) = true then Oper.wp P o a w K Q else E := by
  have hw : Region.wanted o (yielded ops a.tmps) = true := by simp [Region.wanted, hgd]
  rw [if_pos hw]
  refine wp_store_mid ty x y ho g off cells.toArray hx hy (there_blk hg off _ (by simpa using hfit)) (by simpa using hi) (all_oneCell_toArray h1) ?_
  exact h _ (heap_setCells_at g cells off arr w hg hfit) (grownBy_setCells w g cells off w (World.grownBy.refl _ _))

/-- An operation that runs to a value. -/
theorem wpList_build1 {P : Program} {ops : Array Oper} {rest : List Oper} {op : Oper} {a : Act} {w : World} {Q : Exit → Act → World → Prop} (hgd : op.guard = none) (ty : TypeId) (i : Nat) (x : Operand) (ho : op.op = .build ty #[(i, x)])
    (xv v : Value) (hx : a.eval x = xv) (hb : (Instr.build ty #[(i, xv)]).run P w = .ok v w) (h : wpList P ops Q rest (a.put op.dst v) w) : wpList P ops Q (op :: rest) a w := by
  refine wpList_plain hgd fun K hK => ?_
  unfold Oper.wp execOp
  simp only [ho, List.map_toArray, List.map_cons, List.map_nil, hx, Sem.run_bind, hb, Result.andThen_ok, Sem.run_pure]
  rw [Oper.upon_value]
  exact hK _ _ h

/-- 'make([]byte, n)': noughts in new memory. -/
theorem wpList_make0 {P : Program} {ops : Array Oper} {rest : List Oper} {o : Oper} {a : Act} {w : World} {Q : Exit → Act → World → Prop} (hg : o.guard = none) (l c : Operand) (t e : TypeId) (hop : o.op = Op.makeSlice t l c)
    (ht : P.underlying t = some (.slice e)) (hinfo : (P.info? e).map (fun i => (i.zero, i.size, i.bytes)) = some (some (.int .u8 0), 1, 1)) (n : Nat) (hl : a.eval l = .int .i64 (n : Int)) (hc : a.eval c = .int .i64 (n : Int)) (hn : n ≤ 1073741824)
    (h : ∀ w1, RdB w1 (some ⟨w.heap.size, 0, none⟩) (List.replicate n 0) → Below w.heap.size w w1 → w1.heap.size = w.heap.size + 1 → wpList P ops Q rest (a.put o.dst (.slice (some ⟨w.heap.size, 0, none⟩) n n)) w1) :
    wpList P ops Q (o :: rest) a w := by
  obtain ⟨i, hi, hz, hs, hb⟩ := info_parts hinfo
  refine wpList_make_row w hg l c t hop e i (.int .u8 0) ht hi hz hs rfl .i64 .i64 n hl hc (by rw [hb]; omega) (by omega) (h _ ?_ ((Below.refl _ _).alloc (Nat.le_refl _) _) (by simp))
  have e : madeCells #[Value.int .u8 0] n = (bvs (List.replicate n 0)).toArray := by
    apply Array.ext_getElem?
    intro j
    by_cases hj : j < n
    · simp [madeCells, bvs, bv, hj, Nat.mod_one]
    · simp [madeCells, bvs, bv, hj]
  rw [e]
  exact rdb_new w _ _

end Go.Proofs.Ythgaghpakioglaa
