/- How arguments that came in are opened: what their reading says of their cells. No function of the program stands in it. -/
import Derived.Test.YthgaghpakioglaaRows
import Derived.Test.YthgaghpakioglaaKit
import Derived.ProofKit
import Derived.OpenShut
import Derived.Deep.Slices
namespace Go.Proofs.Ythgaghpakioglaa
open Go.RowKit

section
variable {H : Type} {enc : TypeId × Value → H} {P : Program} {w : World} {fuel : Nat} {cs : List Value} {y : DataW H × List MemPlace}

/-- The reading of the cells cs as a value of type t. -/
abbrev Reads (enc : TypeId × Value → H) (P : Program) (w : World) (fuel : Nat) (t : TypeId) (cs : List Value) (y : DataW H × List MemPlace) : Prop :=
  DataW.trod enc P w 0 (fun _ => true) true fuel t cs = some y

theorem ox_int {t : TypeId} (ht : P.underlying t = some (.int .i64)) (h : Reads enc P w fuel t cs y) : ∃ n : Int, cs = [.int .i64 n] ∧ -9223372036854775808 ≤ n ∧ n ≤ 9223372036854775807 := by
  obtain ⟨n, e, _, hw⟩ := DataW.trod_int ht h
  exact ⟨n, e, i64_bd hw⟩

theorem ox_bool {t : TypeId} (ht : P.underlying t = some .bool) (h : Reads enc P w fuel t cs y) : ∃ b, cs = [.bool b] := by
  obtain ⟨b, e, _⟩ := DataW.trod_bool ht h
  exact ⟨b, e⟩

theorem ox_str {t : TypeId} (ht : P.underlying t = some .string) (h : Reads enc P w fuel t cs y) : ∃ s : ByteArray, cs = [.string s] ∧ s.size ≤ maxLen := by
  obtain ⟨s, e, _, hs⟩ := DataW.trod_string ht h
  exact ⟨s, e, hs⟩

theorem mapM_some {α β : Type} {f : α → Option β} : ∀ (l : List α) (r : List β), l.mapM f = some r → r.length = l.length ∧ ∀ j : Nat, (l[j]?).bind f = r[j]? := by
  intro l
  induction l with
  | nil => intro r h; simp at h; subst h; simp
  | cons x l ih =>
    intro r h
    rw [List.mapM_cons] at h
    cases hx : f x with
    | none => simp [hx] at h
    | some y =>
      cases hl : l.mapM f with
      | none => simp [hx, hl] at h
      | some r' =>
        simp [hx, hl] at h
        subst h
        obtain ⟨h1, h2⟩ := ih r' hl
        refine ⟨by simp [h1], fun j => ?_⟩
        cases j with
        | zero => simp [hx]
        | succ j => simpa using h2 j

theorem list_choose {τ : Type} {p : Nat → τ → Prop} : ∀ n : Nat, (∀ i, i < n → ∃ x, p i x) → ∃ xs : List τ, xs.length = n ∧ ∀ i (hi : i < xs.length), p i xs[i]
  | 0, _ => ⟨[], rfl, fun i hi => by simp at hi⟩
  | n + 1, h => by
    obtain ⟨xs, hl, hp⟩ := list_choose n (fun i hi => h i (by omega))
    obtain ⟨x, hx⟩ := h n (by omega)
    refine ⟨xs ++ [x], by simp [hl], fun i hi => ?_⟩
    by_cases hlt : i < xs.length
    · rw [List.getElem_append_left hlt]; exact hp i hlt
    · simp at hi
      obtain rfl : i = n := by omega
      rw [List.getElem_append_right (by omega)]
      simpa [hl] using hx

theorem flat_get {τ : Type} (cells : τ → List Value) (size : Nat) (hsz : 0 < size) (hlen : ∀ x, (cells x).length = size) : ∀ (xs : List τ) (i : Nat), (xs.flatMap cells)[i]? = (xs[i / size]?).bind fun x => (cells x)[i % size]?
  | [], i => by simp
  | x :: xs, i => by
    rw [List.flatMap_cons]
    by_cases h : i < size
    · rw [List.getElem?_append_left (by rw [hlen]; exact h), Nat.div_eq_of_lt h, Nat.mod_eq_of_lt h]
      rfl
    · rw [List.getElem?_append_right (by rw [hlen]; omega), hlen, flat_get cells size hsz hlen xs (i - size)]
      have h1 : i / size = (i - size) / size + 1 := by
        rw [← Nat.add_div_right _ hsz]; congr 1; omega
      have h2 : (i - size) % size = i % size := by rw [← Nat.mod_eq_sub_mod (by omega)]
      rw [h1, h2]
      rfl

theorem flat_length {τ : Type} (cells : τ → List Value) (size : Nat) (hlen : ∀ x, (cells x).length = size) (xs : List τ) : (xs.flatMap cells).length = xs.length * size := by
  induction xs with
  | nil => simp
  | cons x xs ih => rw [List.flatMap_cons, List.length_append, ih, hlen, List.length_cons, Nat.add_mul]; omega

/-- What a slice of whatever elements leads to: 'cells' lays an element out, 'F' is known of each. -/
theorem ox_slice {τ : Type} {t e : TypeId} {size : Nat} (hsz : 0 < size) (ht : P.underlying t = some (.slice e)) (hce : P.cellsOf e = size) (cells : τ → List Value) (F : τ → Prop) (hlen : ∀ x, (cells x).length = size)
    (he : ∀ n cs' (y' : DataW H × List MemPlace), Reads enc P w n e cs' y' → ∃ x, cs' = cells x ∧ F x) (h : Reads enc P w fuel t cs y) :
    ∃ (a : Option Addr) (n c : Nat) (xs : List τ), cs = [.slice a n c] ∧ xs.length = n ∧ n ≤ c ∧ c ≤ maxLen ∧ RdC w a (xs.flatMap cells) ∧ ∀ x ∈ xs, F x := by
  rcases Go.Deep.open_slice ht h with ⟨rfl, _⟩ | ⟨a, len, cap, m, n, D, Pl, rfl, _, hl, hm, hmm, _, hel⟩
  · exact ⟨none, 0, 0, [], rfl, rfl, Nat.le_refl _, by unfold maxLen; omega, RdC.nil _ _, fun x hx => by cases hx⟩
  · have hx : ∀ i, i < len → ∃ x, (∀ j v, (cells x)[j]? = some v → w.cell? (a.add (i * size + j)) = some v) ∧ F x := by
      intro i hi
      obtain ⟨cs', hc, ht'⟩ := hel i (by rw [hmm]; simp; omega)
      obtain ⟨x, rfl, hF⟩ := he n cs' _ ht'
      refine ⟨x, fun j v hj => ?_, hF⟩
      rw [hce] at hc
      unfold World.cells? at hc
      rw [if_pos (Nat.zero_le _)] at hc
      have hj' : j < size := by rw [← hlen x]; exact (List.getElem?_eq_some_iff.1 hj).1
      have := (mapM_some _ _ hc).2 j
      rw [List.getElem?_range hj', hj] at this
      simp only [Option.bind_some] at this
      rw [Go.Deep.add_add] at this
      exact this
    obtain ⟨xs, hxl, hxp⟩ := list_choose len hx
    refine ⟨some a, len, cap, xs, rfl, hxl, hl, hm, ⟨fun i hi => ?_⟩, fun x hx' => ?_⟩
    · rw [flat_length cells size hlen xs] at hi
      have hq : i / size < xs.length := Nat.div_lt_of_lt_mul (by rw [Nat.mul_comm]; exact hi)
      have hr : i % size < size := Nat.mod_lt _ hsz
      have hplain : ∃ b off, a = ⟨b, off, none⟩ := by
        obtain ⟨b, off, spot⟩ := a
        cases spot with
        | none => exact ⟨b, off, rfl⟩
        | some s =>
          have h0 := (hxp 0 (Nat.lt_of_le_of_lt (Nat.zero_le _) hq)).1 0 _ (List.getElem?_eq_getElem (by rw [hlen]; exact hsz))
          simp [Addr.add, World.cell?] at h0
          split at h0 <;> simp at h0
      obtain ⟨b, off, rfl⟩ := hplain
      refine ⟨b, off, rfl, ?_⟩
      have h1 := (hxp _ hq).1 (i % size) _ (List.getElem?_eq_getElem (by rw [hlen]; exact hr))
      rw [Addr.add_lit, Nat.mul_comm, Nat.div_add_mod] at h1
      rw [h1, flat_get cells size hsz hlen, List.getElem?_eq_getElem hq]
      simp [hlen, hr]
    · obtain ⟨i, hi, rfl⟩ := List.mem_iff_getElem.1 hx'
      exact (hxp i hi).2

theorem flat_bytes (xs : List UInt8) : xs.flatMap (fun c => [bv c]) = bvs xs := by
  unfold bvs
  induction xs with
  | nil => rfl
  | cons x xs ih => rw [List.flatMap_cons, ih]; rfl

/-- Bytes. -/
theorem ox_bytes {t e : TypeId} (ht : P.underlying t = some (.slice e)) (he : P.underlying e = some (.int .u8)) (hce : P.cellsOf e = 1) (h : Reads enc P w fuel t cs y) :
    ∃ (a : Option Addr) (n c : Nat) (l : List UInt8), cs = [.slice a n c] ∧ l.length = n ∧ n ≤ c ∧ c ≤ maxLen ∧ RdB w a l := by
  obtain ⟨a, n, c, xs, h1, h2, h3, h4, h5, _⟩ := ox_slice (τ := UInt8) (size := 1) (by omega) ht hce (fun c => [bv c]) (fun _ => True) (fun _ => rfl) (fun n cs' y' hh => by
    obtain ⟨z, e, _, hw⟩ := DataW.trod_int he hh
    refine ⟨u8 z, ?_, trivial⟩
    rw [e, bv_u8 z (u8_bd hw)]) h
  refine ⟨a, n, c, xs, h1, h2, h3, h4, ?_⟩
  rw [flat_bytes xs] at h5
  exact h5

/-- A digest: an array of 32 bytes. -/
theorem ox_sum {t e : TypeId} (ht : P.underlying t = some (.array 32 e)) (he : P.underlying e = some (.int .u8)) (hce : P.cellsOf e = 1) (hct : P.cellsOf t = 32) (h : Reads enc P w fuel t cs y) :
    ∃ s : List UInt8, s.length = 32 ∧ cs = bvs s := by
  obtain ⟨xs, m, _, _, hl, hxl, hel⟩ := DataW.trod_array ht h
  rw [hct] at hl
  have hx : ∀ i, i < 32 → ∃ c : UInt8, cs[i]? = some (bv c) := by
    intro i hi
    have h1 := hel i hi
    rw [hce, Nat.mul_one, List.getElem?_eq_getElem (by omega)] at h1
    obtain ⟨z, e, _, hw⟩ := DataW.trod_int he h1
    refine ⟨u8 z, ?_⟩
    rw [bv_u8 z (u8_bd hw)]
    have := congrArg (fun l => l[0]?) e
    simpa [List.getElem?_take, List.getElem?_drop] using this
  obtain ⟨s, hsl, hsp⟩ := list_choose 32 hx
  refine ⟨s, hsl, List.ext_getElem? fun i => ?_⟩
  by_cases hi : i < 32
  · rw [hsp i (by omega)]
    simp [bvs, hsl, hi]
  · rw [List.getElem?_eq_none (by omega), List.getElem?_eq_none (by rw [bvs_length]; omega)]
/-- A struct: each field by its own reading. -/
theorem ox_struct {t : TypeId} {fs : Array Field} (ht : P.underlying t = some (.struct fs)) (h : Reads enc P w fuel t cs y) :
    cs.length = P.cellsOf t ∧ ∃ n, ∀ (i : Nat) (f : Field), fs[i]? = some f → ∃ y', Reads enc P w n f.type ((cs.drop f.offset).take (P.cellsOf f.type)) y' := by
  obtain ⟨xs, n, _, _, hl, hxl, hf⟩ := DataW.trod_struct ht h
  refine ⟨hl, n, fun i f hi => ?_⟩
  have h1 := hf i f hi
  have hi' : i < xs.length := by rw [hxl]; exact (Array.getElem?_eq_some_iff.1 hi).1
  exact ⟨xs[i], by unfold Reads; rw [h1, List.getElem?_eq_getElem hi']⟩

theorem peel (cs : List Value) (o k : Nat) : cs.drop o = (cs.drop o).take k ++ cs.drop (o + k) := by rw [← List.drop_drop, List.take_append_drop]
theorem peel_end (cs : List Value) (o k : Nat) (h : cs.length ≤ o + k) : cs.drop o = (cs.drop o).take k := (List.take_of_length_le (by rw [List.length_drop]; omega)).symm
end

end Go.Proofs.Ythgaghpakioglaa
