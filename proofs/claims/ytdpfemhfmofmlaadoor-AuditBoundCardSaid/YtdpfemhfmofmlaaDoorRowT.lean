/- Rows and steps that came in are opened. -/
import Derived.Test.YtdpfemhfmofmlaaDoorChain21
import Derived.Test.YtdpfemhfmofmlaaDoorLaw21b
namespace Go.Proofs.YtdpfemhfmofmlaaDoor
set_option linter.unusedSimpArgs false
set_option linter.unusedVariables false
open Go.RowKit
set_option maxRecDepth 10000

theorem ox_ents {H : Type} {enc : TypeId × Value → H} {w : World} {fuel : Nat} {cs : List Value} {y : DataW H × List MemPlace} (h : Reads enc Tryd.prog w fuel 68 cs y) :
    ∃ (a : Option Addr) (n c : Nat) (xs : List Ent), cs = [.slice a n c] ∧ xs.length = n ∧ n ≤ c ∧ c ≤ maxLen ∧ RdC w a (xs.flatMap Ent.cells) ∧ ∀ x ∈ xs, x.Ok := by
  obtain ⟨a, n, c, xs, h1, h2, h3, h4, h5, _⟩ := ox_slice (τ := { x : Ent // x.Ok }) (size := 39) (by omega) Tryd.underlying68 (by kernel_rfl) (fun x => x.1.cells) (fun _ => True) (fun x => Ent.cells_length x.2.sum)
    (fun _ _ _ hh => by obtain ⟨x, e, hx⟩ := ox_ent hh; exact ⟨⟨x, hx⟩, e, trivial⟩) h
  refine ⟨a, n, c, xs.map (·.1), h1, by simpa using h2, h3, h4, by rw [List.flatMap_map]; exact h5, fun x hx => ?_⟩
  obtain ⟨z, _, rfl⟩ := List.mem_map.1 hx
  exact z.2

/-- A step: a row for a tenant, and what is told then. -/
structure Rw where
  tenant : ByteArray
  e : Ent
  fr : Int
  many : Int
def Rw.cells (r : Rw) : List Value := .string r.tenant :: (r.e.cells ++ [.int .i64 r.fr, .int .i64 r.many])
structure Rw.Ok (r : Rw) : Prop where
  tenant : r.tenant.size ≤ maxLen
  e : r.e.Ok
  fr : I64 r.fr
  many : I64 r.many
theorem Rw.cells_length {r : Rw} (h : r.e.sum.length = 32) : r.cells.length = 42 := by
  unfold Rw.cells; rw [List.length_cons, List.length_append, Ent.cells_length h]; rfl
theorem ox_rw {H : Type} {enc : TypeId × Value → H} {w : World} {fuel : Nat} {cs : List Value} {y : DataW H × List MemPlace} (h : Reads enc Tryd.prog w fuel 89 cs y) : ∃ x : Rw, cs = x.cells ∧ x.Ok := by
  obtain ⟨hl, n, hf⟩ := ox_struct Tryd.underlying89 h
  have hl' : cs.length = 42 := by rw [hl]; kernel_rfl
  obtain ⟨y0, h0⟩ := hf 0 _ rfl
  obtain ⟨y1, h1⟩ := hf 1 _ rfl
  obtain ⟨y2, h2⟩ := hf 2 _ rfl
  obtain ⟨y3, h3⟩ := hf 3 _ rfl
  obtain ⟨t0, e0, m0⟩ := ox_str Tryd.underlying9 h0
  obtain ⟨v1, e1, m1⟩ := ox_ent h1
  obtain ⟨v2, e2, m2⟩ := ox_int Tryd.underlying3 h2
  obtain ⟨v3, e3, m3⟩ := ox_int Tryd.underlying3 h3
  have c3 : Tryd.prog.cellsOf 3 = 1 := by kernel_rfl
  have cE : Tryd.prog.cellsOf 73 = 39 := by kernel_rfl
  have c9 : Tryd.prog.cellsOf 9 = 1 := by kernel_rfl
  have e0' : (cs.drop 0).take 1 = [.string t0] := by rw [← c9]; exact e0
  have e1' : (cs.drop 1).take 39 = v1.cells := by rw [← cE]; exact e1
  have e2' : (cs.drop 40).take 1 = [.int .i64 v2] := by rw [← c3]; exact e2
  have e3' : (cs.drop 41).take 1 = [.int .i64 v3] := by rw [← c3]; exact e3
  refine ⟨⟨t0, v1, v2, v3⟩, ?_, ⟨m0, m1, m2, m3⟩⟩
  unfold Rw.cells
  have hd : cs = cs.drop 0 := rfl
  rw [hd, peel cs 0 1, peel cs (0 + 1) 39, peel cs (0 + 1 + 39) 1, peel_end cs (0 + 1 + 39 + 1) 1 (by omega), e0', e1', e2', e3']
  rfl
theorem ox_rws {H : Type} {enc : TypeId × Value → H} {w : World} {fuel : Nat} {cs : List Value} {y : DataW H × List MemPlace} (h : Reads enc Tryd.prog w fuel 85 cs y) :
    ∃ (a : Option Addr) (n c : Nat) (xs : List Rw), cs = [.slice a n c] ∧ xs.length = n ∧ n ≤ c ∧ c ≤ maxLen ∧ RdC w a (xs.flatMap Rw.cells) ∧ ∀ x ∈ xs, x.Ok := by
  obtain ⟨a, n, c, xs, h1, h2, h3, h4, h5, _⟩ := ox_slice (τ := { x : Rw // x.Ok }) (size := 42) (by omega) Tryd.underlying85 (by kernel_rfl) (fun x => x.1.cells) (fun _ => True) (fun x => Rw.cells_length x.2.e.sum)
    (fun _ _ _ hh => by obtain ⟨x, e, hx⟩ := ox_rw hh; exact ⟨⟨x, hx⟩, e, trivial⟩) h
  refine ⟨a, n, c, xs.map (·.1), h1, by simpa using h2, h3, h4, by rw [List.flatMap_map]; exact h5, fun x hx => ?_⟩
  obtain ⟨z, _, rfl⟩ := List.mem_map.1 hx
  exact z.2

theorem rws_length (xs : List Rw) (hok : ∀ x ∈ xs, x.e.sum.length = 32) : (xs.flatMap Rw.cells).length = xs.length * 42 := by
  induction xs with
  | nil => simp
  | cons x xs ih => rw [List.flatMap_cons, List.length_append, ih (fun y hy => hok y (List.mem_cons_of_mem _ hy)), Rw.cells_length (hok x List.mem_cons_self), List.length_cons, Nat.add_mul]; omega
theorem rws_get : ∀ (xs : List Rw), (∀ x ∈ xs, x.e.sum.length = 32) → ∀ (k : Nat) (hk : k < xs.length) (j : Nat), j < 42 → (xs.flatMap Rw.cells)[k * 42 + j]? = xs[k].cells[j]?
  | [], _, k, hk, _, _ => by simp at hk
  | x :: xs, hok, 0, _, j, hj => by
    rw [List.flatMap_cons, List.getElem?_append_left (by rw [Rw.cells_length (hok x List.mem_cons_self)]; omega)]
    simp
  | x :: xs, hok, k + 1, hk, j, hj => by
    have h1 := Rw.cells_length (hok x List.mem_cons_self)
    rw [List.flatMap_cons, List.getElem?_append_right (by rw [h1]; omega), h1, show (k + 1) * 42 + j - 42 = k * 42 + j by omega, rws_get xs (fun y hy => hok y (List.mem_cons_of_mem _ hy)) k (by simpa using hk) j hj]
    simp
theorem rws_at {w : World} {a : Option Addr} {xs : List Rw} (h : RdC w a (xs.flatMap Rw.cells)) (hok : ∀ x ∈ xs, x.e.sum.length = 32) (k : Nat) (hk : k < xs.length) : ∃ b off, a = some ⟨b, off, none⟩ ∧
    w.rangeAt b (off + k * 42) (xs[k].cells) ∧ w.cell? ⟨b, off + k * 42, none⟩ = some (.string xs[k].tenant) ∧ w.rangeAt b (off + k * 42 + 1) xs[k].e.cells ∧ w.cell? ⟨b, off + k * 42 + 40, none⟩ = some (.int .i64 xs[k].fr) ∧ w.cell? ⟨b, off + k * 42 + 41, none⟩ = some (.int .i64 xs[k].many) := by
  have hl := rws_length xs hok
  have hx := hok xs[k] (List.getElem_mem hk)
  have hel := Ent.cells_length hx
  have hcl := Rw.cells_length hx
  obtain ⟨b, off, rfl, _⟩ := h.lt (by rw [hl]; omega)
  have hr : w.rangeAt b (off + k * 42) (xs[k].cells) := fun j v hj => by
    have hj' : j < 42 := by rw [← hcl]; exact (List.getElem?_eq_some_iff.1 hj).1
    have := h.cell (k * 42 + j) (by rw [hl]; omega)
    rw [Nat.add_assoc, this, ← hj, ← List.getElem?_eq_getElem]
    exact rws_get xs hok k hk j hj'
  refine ⟨b, off, rfl, hr, hr 0 _ rfl, fun j v hj => ?_, hr 40 _ ?_, hr 41 _ ?_⟩
  · have hj' : j < 39 := by rw [← hel]; exact (List.getElem?_eq_some_iff.1 hj).1
    have := hr (j + 1) v (by unfold Rw.cells; rw [List.getElem?_cons_succ, List.getElem?_append_left (by rw [hel]; omega)]; exact hj)
    rw [show off + k * 42 + 1 + j = off + k * 42 + (j + 1) by omega]
    exact this
  · unfold Rw.cells; rw [List.getElem?_cons_succ, List.getElem?_append_right (by rw [hel]; omega), hel]; rfl
  · unfold Rw.cells; rw [List.getElem?_cons_succ, List.getElem?_append_right (by rw [hel]; omega), hel]; rfl

end Go.Proofs.YtdpfemhfmofmlaaDoor
