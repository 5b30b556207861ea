/- The Appends that came in. -/
import Derived.Test.YthgaghpakioglaaOpenW
import Derived.Test.YthgaghpakioglaaStrR
namespace Go.Proofs.Ythgaghpakioglaa
open Go.RowKit
set_option linter.unusedSimpArgs false
set_option linter.unusedVariables false
set_option maxRecDepth 10000

structure Op18 where
  t : ByteArray
  st : ByteArray
  su : ByteArray
  us : Int
  sa : Option Addr
  sn : Nat
  sc : Nat
  ps : List Piece
  fr : Int
  n : Int
def Op18.cells (o : Op18) : List Value := [.string o.t, .string o.st, .string o.su, .int .i64 o.us, .slice o.sa o.sn o.sc, .int .i64 o.fr, .int .i64 o.n]
theorem Op18.cells_length (o : Op18) : o.cells.length = 7 := rfl
structure Op18.Ok (w : World) (o : Op18) : Prop where
  t : o.t.size ≤ maxLen
  st : o.st.size ≤ maxLen
  su : o.su.size ≤ maxLen
  us : -9223372036854775808 ≤ o.us ∧ o.us ≤ 9223372036854775807
  fr : -9223372036854775808 ≤ o.fr ∧ o.fr ≤ 9223372036854775807
  n : -9223372036854775808 ≤ o.n ∧ o.n ≤ 9223372036854775807
  len : o.ps.length = o.sn
  fits : o.sn ≤ o.sc
  max : o.sc ≤ maxLen
  ps : Pieces w o.sa o.ps
structure Ops18 (w : World) (a : Option Addr) (os : List Op18) : Prop where
  rd : RdC w a (os.flatMap Op18.cells)
  ok : ∀ o ∈ os, o.Ok w
theorem Pieces.belowB {w w' : World} {a : Option Addr} {ps : List Piece} (h : Pieces w a ps) {B : Nat} (hb : Below B w w') (hB : w.heap.size ≤ B) : Pieces w' a ps :=
  ⟨h.rd.below hb hB, fun p hm => ⟨(h.ok p hm).len, (h.ok p hm).fits, (h.ok p hm).max, (h.ok p hm).rd.below hb hB⟩⟩
theorem Op18.Ok.below {w w' : World} {o : Op18} (h : o.Ok w) {B : Nat} (hb : Below B w w') (hB : w.heap.size ≤ B) : o.Ok w' := ⟨h.t, h.st, h.su, h.us, h.fr, h.n, h.len, h.fits, h.max, h.ps.belowB hb hB⟩
theorem Ops18.below {w w' : World} {a : Option Addr} {os : List Op18} (h : Ops18 w a os) {B : Nat} (hb : Below B w w') (hB : w.heap.size ≤ B) : Ops18 w' a os := ⟨h.rd.below hb hB, fun o ho => (h.ok o ho).below hb hB⟩
theorem ops18_length (os : List Op18) : (os.flatMap Op18.cells).length = os.length * 7 := by
  induction os with
  | nil => rfl
  | cons x xs ih => rw [List.flatMap_cons, List.length_append, ih, Op18.cells_length, List.length_cons]; omega
theorem ops18_get : ∀ (xs : List Op18) (k : Nat) (hk : k < xs.length) (j : Nat), j < 7 → (xs.flatMap Op18.cells)[k * 7 + j]? = xs[k].cells[j]?
  | x :: r, 0, hk, j, hj => by
    rw [List.flatMap_cons, List.getElem?_append_left (by rw [Op18.cells_length]; omega)]
    simp
  | x :: r, k + 1, hk, j, hj => by
    rw [List.flatMap_cons, List.getElem?_append_right (by rw [Op18.cells_length]; omega), Op18.cells_length, show (k + 1) * 7 + j - 7 = k * 7 + j by omega]
    exact ops18_get r k (by simpa using hk) j hj
theorem Ops18.at_ {w : World} {a : Option Addr} {os : List Op18} (h : Ops18 w a os) (m : Nat) (hm : m < os.length) :
    ∃ b o, a = some ⟨b, o, none⟩ ∧ ∀ j u, (os[m].cells)[j]? = some u → w.cell? ⟨b, o + m * 7 + j, none⟩ = some u := by
  obtain ⟨b, o, rfl, _⟩ := h.rd.lt (by rw [ops18_length]; omega)
  refine ⟨b, o, rfl, fun j u hu => ?_⟩
  have hj : j < 7 := (List.getElem?_eq_some_iff.1 hu).1
  have hi : m * 7 + j < (os.flatMap Op18.cells).length := by rw [ops18_length]; omega
  have h1 := h.rd.cell (m * 7 + j) hi
  rw [← List.getElem?_eq_getElem hi, ops18_get os m hm j hj, hu, ← Nat.add_assoc] at h1
  exact h1

section
variable {H : Type} {enc : TypeId × Value → H} {w : World} {fuel : Nat} {cs : List Value} {y : DataW H × List MemPlace}
theorem ox_op18 (h : Reads enc Try.prog w fuel 39 cs y) (hy : ∀ m ∈ y.1.weights Try.prog 39, m ≤ reachBytes) : ∃ o : Op18, cs = o.cells ∧ o.Ok w := by
  obtain ⟨hl, n, hf⟩ := ox_structW Try.underlying39 h hy
  have hl' : cs.length = 7 := by rw [hl]; kernel_rfl
  obtain ⟨y0, h0, _⟩ := hf 0 _ rfl
  obtain ⟨y1, h1, _⟩ := hf 1 _ rfl
  obtain ⟨y2, h2, _⟩ := hf 2 _ rfl
  obtain ⟨y3, h3, _⟩ := hf 3 _ rfl
  obtain ⟨y4, h4, w4⟩ := hf 4 _ rfl
  obtain ⟨y5, h5, _⟩ := hf 5 _ rfl
  obtain ⟨y6, h6, _⟩ := hf 6 _ rfl
  obtain ⟨v0, e0, m0⟩ := ox_str Try.underlying9 h0
  obtain ⟨v1, e1, m1⟩ := ox_str Try.underlying9 h1
  obtain ⟨v2, e2, m2⟩ := ox_str Try.underlying9 h2
  obtain ⟨v3, e3, m3⟩ := ox_int Try.underlying3 h3
  obtain ⟨sa, sn, sc, ps, e4, g1, g2, g3, g4⟩ := ox_pieces Try.underlying30 Try.underlying51 Try.underlying5 (by kernel_rfl) (by kernel_rfl) (by kernel_rfl) h4 w4
  obtain ⟨v5, e5, m5⟩ := ox_int Try.underlying3 h5
  obtain ⟨v6, e6, m6⟩ := ox_int Try.underlying3 h6
  have c3 : Try.prog.cellsOf 3 = 1 := by kernel_rfl
  have cS : Try.prog.cellsOf 9 = 1 := by kernel_rfl
  have cB : Try.prog.cellsOf 30 = 1 := by kernel_rfl
  have e0' : (cs.drop 0).take 1 = [.string v0] := by rw [← cS]; exact e0
  have e1' : (cs.drop 1).take 1 = [.string v1] := by rw [← cS]; exact e1
  have e2' : (cs.drop 2).take 1 = [.string v2] := by rw [← cS]; exact e2
  have e3' : (cs.drop 3).take 1 = [.int .i64 v3] := by rw [← c3]; exact e3
  have e4' : (cs.drop 4).take 1 = [.slice sa sn sc] := by rw [← cB]; exact e4
  have e5' : (cs.drop 5).take 1 = [.int .i64 v5] := by rw [← c3]; exact e5
  have e6' : (cs.drop 6).take 1 = [.int .i64 v6] := by rw [← c3]; exact e6
  refine ⟨⟨v0, v1, v2, v3, sa, sn, sc, ps, v5, v6⟩, ?_, ⟨m0, m1, m2, m3, m5, m6, g1, g2, g3, g4⟩⟩
  unfold Op18.cells
  have hd : cs = cs.drop 0 := rfl
  rw [hd, peel cs 0 1, peel cs (0 + 1) 1, peel cs (0 + 1 + 1) 1, peel cs (0 + 1 + 1 + 1) 1, peel cs (0 + 1 + 1 + 1 + 1) 1, peel cs (0 + 1 + 1 + 1 + 1 + 1) 1, peel_end cs (0 + 1 + 1 + 1 + 1 + 1 + 1) 1 (by omega), e0', e1', e2', e3', e4', e5', e6']
  rfl
theorem ox_ops18 (h : Reads enc Try.prog w fuel 35 cs y) (hy : ∀ m ∈ y.1.weights Try.prog 35, m ≤ reachBytes) :
    ∃ (a : Option Addr) (n c : Nat) (os : List Op18), cs = [.slice a n c] ∧ os.length = n ∧ n ≤ c ∧ c ≤ maxLen ∧ Ops18 w a os := by
  obtain ⟨a, n, c, xs, h1, h2, h3, h4, h5, h6⟩ := ox_sliceW (size := 7) (by omega) Try.underlying35 (by kernel_rfl) Op18.cells (Op18.Ok w) (fun _ => rfl) (fun _ _ _ hh hw => ox_op18 hh hw) h hy
  exact ⟨a, n, c, xs, h1, h2, h3, h4, h5, h6⟩
end

end Go.Proofs.Ythgaghpakioglaa
