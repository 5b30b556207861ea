/- Tenants' events: what an event that was added, or a tenant that was made, makes of all. -/
import Derived.Test.YthgaghpakioglaaStrC
namespace Go.Proofs.Ythgaghpakioglaa
set_option linter.unusedSimpArgs false
set_option linter.unusedVariables false
open Go.RowKit
set_option maxRecDepth 10000

/-- The tenants at g, their map named. -/
structure StrX (w : World) (S : ByteArray → Nat → Prop) (F : Nat → Prop) (g b n : Nat) (fm : ByteArray → Option Value) (f : ByteArray → List Ev) : Prop where
  row : w.heap[g]? = some (.cells #[.map (some b)] 74 (0, 0))
  map : SMap Try.prog 9 w b n fm
  fb : F b
  ne : ∀ s k, S s k → k ≠ g ∧ k ≠ b
  none_ : ∀ s, fm s = none → f s = []
  some_ : ∀ s v, fm s = some v → ∃ tb, v = .pointer (some ⟨tb, 0, none⟩) ∧ TenAt w (S s) tb (f s)
  foot : F g
  low : ∀ k, F k → k < w.heap.size
  sub : ∀ s k, S s k → F k
  disj : ∀ s s' k, S s k → S s' k → s = s'
theorem StrX.at_ {w : World} {S : ByteArray → Nat → Prop} {F : Nat → Prop} {g b n cnt : Nat} {fm : ByteArray → Option Value} {f : ByteArray → List Ev} (h : StrX w S F g b n fm f) (hn : n ≤ cnt) : StrAt w S F g cnt f :=
  ⟨⟨b, n, fm, h.row, h.map, hn, h.fb, h.ne, h.none_, h.some_⟩, h.foot, h.low, h.sub, h.disj⟩
theorem StrAt.x {w : World} {S : ByteArray → Nat → Prop} {F : Nat → Prop} {g cnt : Nat} {f : ByteArray → List Ev} (h : StrAt w S F g cnt f) : ∃ b n fm, n ≤ cnt ∧ StrX w S F g b n fm f := by
  obtain ⟨b, n, fm, h1, h2, h3, h4, h5, h6, h7⟩ := h.out
  exact ⟨b, n, fm, h3, h1, h2, h4, h5, h6, h7, h.foot, h.low, h.sub, h.disj⟩
theorem StrX.keep {w w' : World} {S : ByteArray → Nat → Prop} {F : Nat → Prop} {g b n : Nat} {fm : ByteArray → Option Value} {f : ByteArray → List Ev} (h : StrX w S F g b n fm f) (hk : ∀ k, F k → w'.heap[k]? = w.heap[k]?) (hs : w.heap.size ≤ w'.heap.size) : StrX w' S F g b n fm f :=
  ⟨(hk g h.foot).trans h.row, h.map.block (hk b h.fb), h.fb, h.ne, h.none_, fun s v hv => by
    obtain ⟨tb, e, ht⟩ := h.some_ s v hv
    exact ⟨tb, e, ht.keep (fun k e => hk k (h.sub s k e)) hs⟩, h.foot, fun k e => Nat.lt_of_lt_of_le (h.low k e) hs, h.sub, h.disj⟩
theorem StrX.below {w w' : World} {S : ByteArray → Nat → Prop} {F : Nat → Prop} {g b n : Nat} {fm : ByteArray → Option Value} {f : ByteArray → List Ev} (h : StrX w S F g b n fm f) (hb : Below w.heap.size w w') : StrX w' S F g b n fm f := h.keep (fun k hk => hb.block k (h.low k hk)) hb.size

def lput (f : ByteArray → List Ev) (s : ByteArray) (l : List Ev) : ByteArray → List Ev := fun t => if t = s then l else f t
theorem lput_same (f : ByteArray → List Ev) (s : ByteArray) (l : List Ev) : lput f s l s = l := if_pos rfl
theorem lput_other (f : ByteArray → List Ev) (s t : ByteArray) (l : List Ev) (h : t ≠ s) : lput f s l t = f t := if_neg h
def sputS (S : ByteArray → Nat → Prop) (s : ByteArray) (X : Nat → Prop) : ByteArray → Nat → Prop := fun t => if t = s then X else S t
theorem sputS_same (S : ByteArray → Nat → Prop) (s : ByteArray) (X : Nat → Prop) : sputS S s X s = X := if_pos rfl
theorem sputS_other (S : ByteArray → Nat → Prop) (s t : ByteArray) (X : Nat → Prop) (h : t ≠ s) : sputS S s X t = S t := if_neg h

/-- A tenant that was there has turned within its own blocks and new ones. -/
theorem StrX.turned {w w' : World} {S : ByteArray → Nat → Prop} {F X : Nat → Prop} {g b n tb : Nat} {fm : ByteArray → Option Value} {f : ByteArray → List Ev} {s : ByteArray} {l : List Ev} (h : StrX w S F g b n fm f) (hs : fm s = some (.pointer (some ⟨tb, 0, none⟩)))
    (hT : TenAt w' X tb l) (hX : ∀ k, X k → S s k ∨ w.heap.size ≤ k) (hF : Frm w.heap.size (S s) w w') :
    StrX w' (sputS S s X) (fun k => F k ∨ X k) g b n fm (lput f s l) := by
  have hkeep : ∀ k, F k → ¬ S s k → w'.heap[k]? = w.heap[k]? := fun k hk hn => hF.block k (h.low k hk) hn
  have hng : ¬ S s g := fun e => (h.ne s g e).1 rfl
  have hnb : ¬ S s b := fun e => (h.ne s b e).2 rfl
  have hother : ∀ t k, t ≠ s → S t k → ¬ S s k := fun t k hne hk hk2 => hne (h.disj t s k hk hk2)
  refine ⟨(hkeep g h.foot hng).trans h.row, h.map.block (hkeep b h.fb hnb), .inl h.fb, fun t k hk => ?_, fun t ht => ?_, fun t v hv => ?_, .inl h.foot, fun k hk => ?_, fun t k hk => ?_, fun t t' k hk hk' => ?_⟩
  · by_cases e : t = s
    · subst e
      rw [sputS_same] at hk
      rcases hX k hk with h1 | h1
      · exact h.ne _ k h1
      · have h2 := h.low g h.foot
        have h3 := h.low b h.fb
        omega
    · rw [sputS_other _ _ _ _ e] at hk
      exact h.ne t k hk
  · by_cases e : t = s
    · subst e; rw [hs] at ht; cases ht
    · rw [lput_other _ _ _ _ e]; exact h.none_ t ht
  · by_cases e : t = s
    · subst e
      rw [hs] at hv
      cases hv
      exact ⟨tb, rfl, by rw [sputS_same, lput_same]; exact hT⟩
    · obtain ⟨tb', e', ht⟩ := h.some_ t v hv
      exact ⟨tb', e', by rw [sputS_other _ _ _ _ e, lput_other _ _ _ _ e]; exact ht.keep (fun k hk => hkeep k (h.sub t k hk) (hother t k e hk)) hF.size⟩
  · rcases hk with hk | hk
    · exact Nat.lt_of_lt_of_le (h.low k hk) hF.size
    · exact hT.low k hk
  · by_cases e : t = s
    · subst e; rw [sputS_same] at hk; exact .inr hk
    · rw [sputS_other _ _ _ _ e] at hk; exact .inl (h.sub t k hk)
  · have new : ∀ t k, t ≠ s → S t k → X k → False := fun t k hne h1 h2 => by
      rcases hX k h2 with h3 | h3
      · exact hother t k hne h1 h3
      · have := h.low k (h.sub t k h1); omega
    by_cases e : t = s
    · by_cases e' : t' = s
      · rw [e, e']
      · exfalso
        rw [e, sputS_same] at hk
        rw [sputS_other _ _ _ _ e'] at hk'
        exact new t' k e' hk' hk
    · by_cases e' : t' = s
      · exfalso
        rw [e', sputS_same] at hk'
        rw [sputS_other _ _ _ _ e] at hk
        exact new t k e hk hk'
      · rw [sputS_other _ _ _ _ e] at hk
        rw [sputS_other _ _ _ _ e'] at hk'
        exact h.disj t t' k hk hk'

/-- A tenant without events was made. -/
theorem StrX.made {w w1 w2 : World} {S : ByteArray → Nat → Prop} {F : Nat → Prop} {g b n tb mb : Nat} {fm : ByteArray → Option Value} {f : ByteArray → List Ev} {s : ByteArray} (h : StrX w S F g b n fm f) (hs : fm s = none) (hB : Below w.heap.size w w1)
    (htb : w1.heap[tb]? = some (.cells #[.slice none 0 0, .map (some mb), .int .i64 0] 77 (0, 0))) (hmb : SMap Try.prog 9 w1 mb 0 (fun _ => none)) (hl1 : w.heap.size ≤ tb) (hl2 : w.heap.size ≤ mb)
    (hm : SMap Try.prog 9 w2 b (sputN fm s n) (sput fm s (.pointer (some ⟨tb, 0, none⟩)))) (hG : w1.grownBy w2 (some b)) :
    StrX w2 (sputS S s (fun k => k = tb ∨ k = mb)) (fun k => F k ∨ k = tb ∨ k = mb) g b (n + 1) (sput fm s (.pointer (some ⟨tb, 0, none⟩))) f := by
  have h1 := h.below hB
  have hfs : f s = [] := h.none_ s hs
  have hbl := h.low b h.fb
  have hgl := h.low g h.foot
  have hgb : b ≠ g := h1.map.ne h1.row
  have hkeep : ∀ k, k < w1.heap.size → k ≠ b → w2.heap[k]? = w1.heap[k]? := fun k hk hn => hG.block k hk (fun e => hn (Option.some.inj e))
  have htl := lt_of_get htb
  have hml := hmb.lt
  have hS : ∀ t k, S t k → k < w.heap.size := fun t k hk => h.low k (h.sub t k hk)
  have hT : TenAt w2 (fun k => k = tb ∨ k = mb) tb [] := by
    refine ⟨⟨.slice none 0 0, mb, fun _ => none, ?_, World.ownsRow_nil _ _ _ _, fun k e => (by cases e), ?_, .inr rfl, fun _ _ => rfl, fun s v e => (by cases e), fun s s' v v' k e => (by cases e)⟩, .inl rfl, ?_, fun e he => (by cases he), ⟨fun e he => (by cases he), fun e he => (by cases he), fun i hi => absurd hi (Nat.not_lt_zero _), fun i hi => absurd hi (Nat.not_lt_zero _)⟩, Nat.zero_le _⟩
    · exact (hkeep tb htl (by omega)).trans htb
    · exact hmb.block (hkeep mb hml (by omega))
    · rintro k (e | e)
      · rw [e]; have := hG.size; omega
      · rw [e]; have := hG.size; omega
  have hsn : sputN fm s n = n + 1 := by unfold sputN; rw [hs]; rfl
  rw [hsn] at hm
  refine ⟨(hkeep g (by have := hB.size; omega) (fun e => hgb e.symm)).trans h1.row, hm, .inl h.fb, fun t k hk => ?_, fun t ht => ?_, fun t v hv => ?_, .inl h.foot, fun k hk => ?_, fun t k hk => ?_, fun t t' k hk hk' => ?_⟩
  · by_cases e : t = s
    · subst e
      rw [sputS_same] at hk
      rcases hk with rfl | rfl <;> omega
    · rw [sputS_other _ _ _ _ e] at hk
      exact h.ne t k hk
  · by_cases e : t = s
    · subst e; simp [sput] at ht
    · exact h.none_ t (by simpa [sput, e] using ht)
  · by_cases e : t = s
    · subst e
      simp [sput] at hv
      subst hv
      exact ⟨tb, rfl, by rw [sputS_same, hfs]; exact hT⟩
    · have hv' : fm t = some v := by simpa [sput, e] using hv
      obtain ⟨tb', e', ht⟩ := h1.some_ t v hv'
      refine ⟨tb', e', ?_⟩
      rw [sputS_other _ _ _ _ e]
      exact ht.keep (fun k hk => hkeep k (by have := hS t k hk; have := hB.size; omega) (h.ne t k hk).2) hG.size
  · have := hG.size
    have := hB.size
    rcases hk with hk | rfl | rfl
    · have := h.low k hk; omega
    · omega
    · omega
  · by_cases e : t = s
    · subst e; rw [sputS_same] at hk; exact .inr hk
    · rw [sputS_other _ _ _ _ e] at hk; exact .inl (h.sub t k hk)
  · have new : ∀ t k, S t k → ¬ (k = tb ∨ k = mb) := fun t k h1 h2 => by
      have := hS t k h1
      rcases h2 with rfl | rfl <;> omega
    by_cases e : t = s
    · by_cases e' : t' = s
      · rw [e, e']
      · exfalso
        rw [e, sputS_same] at hk
        rw [sputS_other _ _ _ _ e'] at hk'
        exact new t' k hk' hk
    · by_cases e' : t' = s
      · exfalso
        rw [e', sputS_same] at hk'
        rw [sputS_other _ _ _ _ e] at hk
        exact new t k hk hk'
      · rw [sputS_other _ _ _ _ e] at hk
        rw [sputS_other _ _ _ _ e'] at hk'
        exact h.disj t t' k hk hk'

end Go.Proofs.Ythgaghpakioglaa
