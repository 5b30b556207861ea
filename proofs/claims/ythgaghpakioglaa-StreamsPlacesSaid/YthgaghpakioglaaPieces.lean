/- A [][]byte that came in. -/
import Derived.Test.YthgaghpakioglaaKit
import Derived.Test.YthgaghpakioglaaOpen
import Derived.SizedLaws
namespace Go.Proofs.Ythgaghpakioglaa
open Go.RowKit
set_option linter.unusedSimpArgs false
set_option maxRecDepth 10000

/-- A piece that came in. -/
structure Piece where
  a : Option Addr
  n : Nat
  c : Nat
  l : List UInt8

def Piece.cells (p : Piece) : List Value := [.slice p.a p.n p.c]

structure Piece.Ok (w : World) (p : Piece) : Prop where
  len : p.l.length = p.n
  fits : p.n ≤ p.c
  max : p.n ≤ 140737488351232
  rd : RdB w p.a p.l

structure Pieces (w : World) (a : Option Addr) (ps : List Piece) : Prop where
  rd : RdC w a (ps.flatMap Piece.cells)
  ok : ∀ p ∈ ps, p.Ok w

theorem Pieces.at_ {w : World} {a : Option Addr} {ps : List Piece} (h : Pieces w a ps) (k : Nat) (hk : k < ps.length) : ∃ b off, a = some ⟨b, off, none⟩ ∧ w.cell? ⟨b, off + k, none⟩ = some (.slice ps[k].a ps[k].n ps[k].c) := by
  have hl := flat_length Piece.cells 1 (fun _ => rfl) ps
  obtain ⟨b, off, rfl, _⟩ := h.rd.lt (by rw [hl]; omega)
  refine ⟨b, off, rfl, ?_⟩
  rw [h.rd.cell k (by rw [hl]; omega), ← List.getElem?_eq_getElem, flat_get Piece.cells 1 (by omega) (fun _ => rfl) ps k, Nat.div_one, List.getElem?_eq_getElem hk, Nat.mod_one]
  rfl

section
variable {H : Type} {enc : TypeId × Value → H} {P : Program} {w : World} {fuel : Nat} {cs : List Value} {y : DataW H × List MemPlace}

theorem weightsAll_mem {e : TypeId} : ∀ {l : List (DataW H)} {d : DataW H}, d ∈ l → ∀ n ∈ d.weights P e, n ∈ DataW.weightsAll P e l
  | d' :: r, d, hd, n, hn => by
    simp only [DataW.weightsAll, List.mem_append]
    rcases List.mem_cons.1 hd with rfl | h
    · exact Or.inl hn
    · exact Or.inr (weightsAll_mem h n hn)

/-- 'ox_slice', the reach of each element's datum handed on. -/
theorem ox_sliceW {τ : Type} {t e : TypeId} {size : Nat} (hsz : 0 < size) (ht : P.underlying t = some (.slice e)) (hce : P.cellsOf e = size) (cells : τ → List Value) (F : τ → Prop) (hlen : ∀ x, (cells x).length = size)
    (he : ∀ n cs' (y' : DataW H × List MemPlace), Reads enc P w n e cs' y' → (∀ m ∈ y'.1.weights P e, m ≤ reachBytes) → ∃ x, cs' = cells x ∧ F x) (h : Reads enc P w fuel t cs y) (hy : ∀ m ∈ y.1.weights P t, m ≤ reachBytes) :
    ∃ (a : Option Addr) (n c : Nat) (xs : List τ), cs = [.slice a n c] ∧ xs.length = n ∧ n ≤ c ∧ c ≤ maxLen ∧ RdC w a (xs.flatMap cells) ∧ ∀ x ∈ xs, F x := by
  rcases Go.Deep.open_slice ht h with ⟨rfl, _⟩ | ⟨a, len, cap, m, n, D, Pl, rfl, _, hl, hm, hmm, hyy, hel⟩
  · exact ⟨none, 0, 0, [], rfl, rfl, Nat.le_refl _, by unfold maxLen; omega, RdC.nil _ _, fun x hx => by cases hx⟩
  · have hx : ∀ i, i < len → ∃ x, (∀ j v, (cells x)[j]? = some v → w.cell? (a.add (i * size + j)) = some v) ∧ F x := by
      intro i hi
      obtain ⟨cs', hc, ht'⟩ := hel i (by rw [hmm]; simp; omega)
      obtain ⟨x, rfl, hF⟩ := he n cs' _ ht' (fun q hq => hy q (by
        subst hyy
        simp only [DataW.weights, ht, List.mem_cons, List.mem_append]
        exact Or.inr (Or.inl (weightsAll_mem (List.mem_map.2 ⟨i, List.mem_range.2 hi, rfl⟩) _ hq))))
      refine ⟨x, fun j v hj => ?_, hF⟩
      rw [hce] at hc
      unfold World.cells? at hc
      rw [if_pos (Nat.zero_le _)] at hc
      have hj' : j < size := by rw [← hlen x]; exact (List.getElem?_eq_some_iff.1 hj).1
      have := (mapM_some _ _ hc).2 j
      rw [List.getElem?_range hj', hj] at this
      simp only [Option.bind_some] at this
      rw [Go.Deep.add_add] at this
      exact this
    obtain ⟨xs, hxl, hxp⟩ := list_choose len hx
    refine ⟨some a, len, cap, xs, rfl, hxl, hl, hm, ⟨fun i hi => ?_⟩, fun x hx' => ?_⟩
    · rw [flat_length cells size hlen xs] at hi
      have hq : i / size < xs.length := Nat.div_lt_of_lt_mul (by rw [Nat.mul_comm]; exact hi)
      have hr : i % size < size := Nat.mod_lt _ hsz
      have hplain : ∃ b off, a = ⟨b, off, none⟩ := by
        obtain ⟨b, off, spot⟩ := a
        cases spot with
        | none => exact ⟨b, off, rfl⟩
        | some s =>
          have h0 := (hxp 0 (Nat.lt_of_le_of_lt (Nat.zero_le _) hq)).1 0 _ (List.getElem?_eq_getElem (by rw [hlen]; exact hsz))
          simp [Addr.add, World.cell?] at h0
          split at h0 <;> simp at h0
      obtain ⟨b, off, rfl⟩ := hplain
      refine ⟨b, off, rfl, ?_⟩
      have h1 := (hxp _ hq).1 (i % size) _ (List.getElem?_eq_getElem (by rw [hlen]; exact hr))
      rw [Addr.add_lit, Nat.mul_comm, Nat.div_add_mod] at h1
      rw [h1, flat_get cells size hsz hlen, List.getElem?_eq_getElem hq]
      simp [hlen, hr]
    · obtain ⟨i, hi, rfl⟩ := List.mem_iff_getElem.1 hx'
      exact (hxp i hi).2

/-- The capacity of bytes within the reach. -/
theorem reach_bytes {t e : TypeId} (ht : P.underlying t = some (.slice e)) (hb : P.bytesOf e = 1) {a : Option Addr} {n c : Nat} (h : Reads enc P w fuel t [.slice a n c] y) (hy : ∀ m ∈ y.1.weights P t, m ≤ reachBytes) : c ≤ 140737488351232 := by
  rcases Go.Deep.open_slice ht h with ⟨e1, _⟩ | ⟨a', len, cap, m, n', D, Pl, e1, _, hl, hm, hmm, hyy, _⟩
  · cases e1; omega
  · cases e1
    subst hyy
    have := hy _ (by simp only [DataW.weights, ht]; exact List.mem_cons_self)
    rw [hb] at this
    simp at hmm
    subst hmm
    simp [reachBytes] at this
    omega

theorem ox_pieces {t e u : TypeId} (ht : P.underlying t = some (.slice e)) (he : P.underlying e = some (.slice u)) (hu : P.underlying u = some (.int .u8)) (hce : P.cellsOf e = 1) (hcu : P.cellsOf u = 1) (hbu : P.bytesOf u = 1)
    (h : Reads enc P w fuel t cs y) (hy : ∀ m ∈ y.1.weights P t, m ≤ reachBytes) :
    ∃ (a : Option Addr) (n c : Nat) (ps : List Piece), cs = [.slice a n c] ∧ ps.length = n ∧ n ≤ c ∧ c ≤ maxLen ∧ Pieces w a ps := by
  obtain ⟨a, n, c, ps, h1, h2, h3, h4, h5, h6⟩ := ox_sliceW (size := 1) (by omega) ht hce Piece.cells (Piece.Ok w) (fun _ => rfl) (fun n cs' y' hr hy' => by
    obtain ⟨a, n, c, l, rfl, h2, h3, h4, h5⟩ := ox_bytes he hu hcu hr
    exact ⟨⟨a, n, c, l⟩, rfl, ⟨h2, h3, Nat.le_trans h3 (reach_bytes he hbu hr hy'), h5⟩⟩) h hy
  exact ⟨a, n, c, ps, h1, h2, h3, h4, h5, h6⟩
end

end Go.Proofs.Ythgaghpakioglaa
