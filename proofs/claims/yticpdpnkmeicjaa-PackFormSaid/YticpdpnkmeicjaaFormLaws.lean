/- One form: what was read and laid again; what is asked of a reader, as it came in. -/
import Derived.Test.YticpdpnkmeicjaaReadsTwo
namespace Go.Proofs.Yticpdpnkmeicjaa
open Go.RowKit

theorem beU_inj : ∀ (n : Nat) (l m : List UInt8), l.length = n → m.length = n → beU l = beU m → l = m
  | 0, l, m, hl, hm, _ => by rw [List.length_eq_zero_iff.1 hl, List.length_eq_zero_iff.1 hm]
  | n + 1, l, m, hl, hm, h => by
    have h1 : l ≠ [] := by intro e; subst e; simp at hl
    have h2 : m ≠ [] := by intro e; subst e; simp at hm
    rw [← List.dropLast_concat_getLast h1, ← List.dropLast_concat_getLast h2, beU_snoc, beU_snoc] at h
    have c1 := (l.getLast h1).toNat_lt
    have c2 := (m.getLast h2).toNat_lt
    have e1 : beU l.dropLast = beU m.dropLast := by omega
    have e2 : (l.getLast h1).toNat = (m.getLast h2).toNat := by omega
    have e3 := beU_inj n l.dropLast m.dropLast (by simp [hl]) (by simp [hm]) e1
    rw [← List.dropLast_concat_getLast h1, ← List.dropLast_concat_getLast h2, e3, UInt8.toNat_inj.1 e2]

theorem wrap64_bd (n : Int) : -9223372036854775808 ≤ wrap64 n ∧ wrap64 n ≤ 9223372036854775807 := by unfold wrap64; omega

theorem be8_of (l : List UInt8) (h : l.length = 8) : be8 (wrap64 (beU l)) = l := by
  have h1 := be8_beU (wrap64 (beU l)) (wrap64_bd _)
  have b1 := beU_lt l
  have b2 := beU_lt (be8 (wrap64 (beU l)))
  rw [be8_length] at b2
  rw [h] at b1
  refine beU_inj 8 _ _ (be8_length _) h ?_
  generalize beU (be8 (wrap64 ↑(beU l))) = x at *
  generalize beU l = y at *
  unfold wrap64 at h1
  omega

theorem rsInt_bd (l : List UInt8) (why : Int) : -9223372036854775808 ≤ (rsInt l why).1 ∧ (rsInt l why).1 ≤ 9223372036854775807 := by
  unfold rsInt
  split
  · exact wrap64_bd _
  · show -9223372036854775808 ≤ (0 : Int) ∧ (0 : Int) ≤ 9223372036854775807; omega

theorem int_form (l : List UInt8) (h : (rsInt l 0).2.2 = 0) : l = be8 (rsInt l 0).1 ++ (rsInt l 0).2.1 := by
  unfold rsInt at h ⊢
  by_cases h8 : 8 ≤ l.length
  · rw [if_pos h8]
    show l = be8 (wrap64 (beU (l.take 8))) ++ l.drop 8
    rw [be8_of _ (by rw [List.length_take]; omega), List.take_append_drop]
  · rw [if_neg h8] at h
    exact absurd h (by decide)

theorem count_form (most : Int) (l : List UInt8) (h : (rsCount most l 0).2.2 = 0) : l = be8 (rsCount most l 0).1 ++ (rsCount most l 0).2.1 := by
  have hi := int_form l
  unfold rsCount at h ⊢
  simp only at h ⊢
  by_cases h1 : (rsInt l 0).2.2 = 0
  · rw [if_pos h1] at h ⊢
    by_cases h2 : (rsInt l 0).1 < 0 ∨ most < (rsInt l 0).1
    · rw [if_pos h2] at h
      exact absurd h (by decide)
    · rw [if_neg h2]
      exact hi h1
  · rw [if_neg h1] at h
    exact absurd h h1

theorem rsCount_bd (most : Int) (l : List UInt8) (why : Int) : -9223372036854775808 ≤ (rsCount most l why).1 ∧ (rsCount most l why).1 ≤ 9223372036854775807 := by
  have := rsInt_bd l why
  unfold rsCount
  simp only
  split
  · split
    · show -9223372036854775808 ≤ (0 : Int) ∧ (0 : Int) ≤ 9223372036854775807; omega
    · exact this
  · show -9223372036854775808 ≤ (0 : Int) ∧ (0 : Int) ≤ 9223372036854775807; omega

theorem blob_form (most : Int) (l : List UInt8) (h : (rsBlob most l 0).2.2 = 0) : l = be8 (rsBlob most l 0).1.length ++ ((rsBlob most l 0).1 ++ (rsBlob most l 0).2.1) := by
  have hi := count_form most l
  have hge := rsCount_ge most l 0
  unfold rsBlob at h ⊢
  simp only at h ⊢
  by_cases h1 : (rsCount most l 0).2.2 = 0
  · rw [if_pos h1] at h ⊢
    by_cases h2 : (rsCount most l 0).1.toNat ≤ (rsCount most l 0).2.1.length
    · rw [if_pos h2]
      simp only
      rw [List.take_append_drop, List.length_take, Nat.min_eq_left h2, Int.toNat_of_nonneg hge]
      exact hi h1
    · rw [if_neg h2] at h
      exact absurd h (by decide)
  · rw [if_neg h1] at h
    exact absurd h h1

theorem rsSum_form (l : List UInt8) (h : (rsSum l 0).2.2 = 0) : l = (rsSum l 0).1 ++ (rsSum l 0).2.1 := by
  unfold rsSum at h ⊢
  by_cases h8 : 32 ≤ l.length
  · rw [if_pos h8]
    exact (List.take_append_drop 32 l).symm
  · rw [if_neg h8] at h
    exact absurd h (by decide)

theorem rsBlob_len (most : Int) (l : List UInt8) (why : Int) : (rsBlob most l why).1.length ≤ l.length := by
  have hc : (rsCount most l why).2.1.length ≤ l.length := by
    have hi : (rsInt l why).2.1.length ≤ l.length := by unfold rsInt; split <;> simp
    unfold rsCount
    simp only
    split
    · split
      · simp
      · exact hi
    · exact hi
  unfold rsBlob
  simp only
  split
  · split
    · simp only [List.length_take]; omega
    · simp
  · simp

/-- What is asked, as it came in. -/
structure Ask where
  kind : Int
  most : Int
def Ask.cells (t : Ask) : List Value := [.int .i64 t.kind, .int .i64 t.most]
def Ask.Ok (t : Ask) : Prop := (-9223372036854775808 ≤ t.kind ∧ t.kind ≤ 9223372036854775807) ∧ -9223372036854775808 ≤ t.most ∧ t.most ≤ 9223372036854775807

theorem ox_asked {H : Type} {enc : TypeId × Value → H} {w : World} {fuel : Nat} {cs : List Value} {y : DataW H × List MemPlace} (h : Reads enc Try.prog w fuel 57 cs y) : ∃ t : Ask, cs = t.cells ∧ t.Ok := by
  obtain ⟨hl, n, hf⟩ := ox_struct Try.underlying57 h
  have hl' : cs.length = 2 := by rw [hl]; kernel_rfl
  obtain ⟨y0, h0⟩ := hf 0 _ rfl
  obtain ⟨y1, h1⟩ := hf 1 _ rfl
  obtain ⟨k, e0, k1, k2⟩ := ox_int Try.underlying3 h0
  obtain ⟨m, e1, m1, m2⟩ := ox_int Try.underlying3 h1
  have c3 : Try.prog.cellsOf 3 = 1 := by kernel_rfl
  have e0' : (cs.drop 0).take 1 = [.int .i64 k] := by rw [← c3]; exact e0
  have e1' : (cs.drop 1).take 1 = [.int .i64 m] := by rw [← c3]; exact e1
  refine ⟨⟨k, m⟩, ?_, ⟨⟨k1, k2⟩, m1, m2⟩⟩
  have hd : cs = cs.drop 0 := rfl
  rw [hd, peel cs 0 1, peel_end cs (0 + 1) 1 (by omega), e0', e1']
  rfl

theorem ox_askeds {H : Type} {enc : TypeId × Value → H} {w : World} {fuel : Nat} {cs : List Value} {y : DataW H × List MemPlace} (h : Reads enc Try.prog w fuel 54 cs y) :
    ∃ (a : Option Addr) (n c : Nat) (ts : List Ask), cs = [.slice a n c] ∧ ts.length = n ∧ n ≤ c ∧ c ≤ maxLen ∧ RdC w a (ts.flatMap Ask.cells) ∧ ∀ t ∈ ts, t.Ok :=
  ox_slice (size := 2) (by omega) Try.underlying54 (by kernel_rfl) Ask.cells Ask.Ok (fun _ => rfl) (fun _ _ _ hh => ox_asked hh) h

/-- The cells of what is asked as number k. -/
theorem ask_at {w : World} {a : Option Addr} {ts : List Ask} (h : RdC w a (ts.flatMap Ask.cells)) (k : Nat) (hk : k < ts.length) : ∃ b off, a = some ⟨b, off, none⟩ ∧ w.cell? ⟨b, off + k * 2, none⟩ = some (.int .i64 ts[k].kind) ∧ w.cell? ⟨b, off + k * 2 + 1, none⟩ = some (.int .i64 ts[k].most) := by
  have hl := flat_length Ask.cells 2 (fun _ => rfl) ts
  obtain ⟨b, off, rfl, _⟩ := h.lt (by rw [hl]; omega)
  refine ⟨b, off, rfl, ?_, ?_⟩
  · have := h.cell (k * 2) (by rw [hl]; omega)
    rw [this]
    have h2 := flat_get Ask.cells 2 (by omega) (fun _ => rfl) ts (k * 2)
    rw [List.getElem?_eq_getElem (by rw [hl]; omega), show k * 2 / 2 = k by omega, show k * 2 % 2 = 0 by omega, List.getElem?_eq_getElem hk] at h2
    exact h2
  · have := h.cell (k * 2 + 1) (by rw [hl]; omega)
    rw [Nat.add_assoc, this]
    have h2 := flat_get Ask.cells 2 (by omega) (fun _ => rfl) ts (k * 2 + 1)
    rw [List.getElem?_eq_getElem (by rw [hl]; omega), show (k * 2 + 1) / 2 = k by omega, show (k * 2 + 1) % 2 = 1 by omega, List.getElem?_eq_getElem hk] at h2
    exact h2

end Go.Proofs.Yticpdpnkmeicjaa
