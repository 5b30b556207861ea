/- A row is added to a tenant's chain (audit.Log.Add). -/
import Derived.Test.YtdpfemhfmofmlaaDoorLogA
namespace Go.Proofs.YtdpfemhfmofmlaaDoor
set_option linter.unusedSimpArgs false
set_option linter.unusedVariables false
open Go.RowKit
set_option maxRecDepth 10000

theorem step_mapUpdate_s {P : Program} {k t e : TypeId} {w : World} {b n : Nat} {f : ByteArray → Option Value} {ops : Array Oper} {o : Oper} {a : Act} {K : Act → World → Prop} {Q : Exit → Act → World → Prop} {E : Prop} (hw : Region.wanted o (yielded ops a.tmps) = true) (m x y : Operand) (hop : o.op = Op.mapUpdate t m x y)
    (hk : P.underlying k = some .string) (ht : P.underlying t = some (.map k e)) (hm : a.eval m = .map (some b)) (h : SMap P k w b n f) (hn : n < maxLen) (s : ByteArray) (hx : a.eval x = .string s) (hs : s.size ≤ maxLen) (v : Value) (hy : a.eval y = v)
    (hK : ∀ w', SMap P k w' b (sputN f s n) (sput f s v) → w.grownBy w' (some b) → K (a.put o.dst undef) w') :
    if Region.wanted o (yielded ops a.tmps) = true then Oper.wp P o a w K Q else E := by
  rw [if_pos hw]
  obtain ⟨w', hrun, r1, r2⟩ := h.update hk ht hn s hs v
  unfold Oper.wp
  simp [execOp, hop, hm, hx, hy, hrun, Result.andThen]
  exact hK w' r1 r2

theorem LogAt.mono {w : World} {S S' : Nat → Prop} {g cnt cnt' : Nat} {f : ByteArray → List Ent} (h : LogAt w S g cnt f) (hS : ∀ k, S k → S' k) (hl : ∀ k, S' k → k < w.heap.size) (hc : cnt ≤ cnt') : LogAt w S' g cnt' f := by
  obtain ⟨b, n, fm, h1, h2, h3, h4, h5, h6, h7⟩ := h.out
  exact ⟨⟨b, n, fm, h1, h2, Nat.le_trans h3 hc, hS b h4, h5, fun s v hv => ⟨(h6 s v hv).1, fun k hk => hS k ((h6 s v hv).2 k hk)⟩, h7⟩, hS g h.foot, hl, h.rows, fun s => Nat.le_trans (h.len s) hc⟩
/-- What lies behind the store. -/
theorem LogAt.added {w w1 w2 : World} {S : Nat → Prop} {g cnt b n : Nat} {f : ByteArray → List Ent} {fm : ByteArray → Option Value} (h : LogAt w S g cnt f) (s : ByteArray) (r : Ent) (v' : Value) (hrf : r.Fit)
    (hg : w.heap[g]? = some (.cells #[.map (some b)] 137 (0, 0))) (hm : SMap Tryd.prog 9 w b n fm) (hn : n ≤ cnt) (hSb : S b) (h5 : ∀ s, fm s = none → f s = [])
    (h6 : ∀ s v, fm s = some v → w.ownsRow 0 73 39 v (f s).length ((f s).flatMap Ent.cells) ∧ ∀ k, v.ownBlock = some k → S k) (h7 : ∀ s s' v v' k, fm s = some v → fm s' = some v' → v.ownBlock = some k → v'.ownBlock = some k → s = s')
    (w0 : World) (hB0 : Below w.heap.size w w0) (hO : w1.ownsRow 0 73 39 v' ((f s).length + 1) ((f s).flatMap Ent.cells ++ r.cells)) (hG1 : w0.grownBy w1 ((fm s).getD (.slice none 0 0)).ownBlock)
    (hv : v'.ownBlock = ((fm s).getD (.slice none 0 0)).ownBlock ∨ ∀ k, v'.ownBlock = some k → w0.heap.size ≤ k) (hm2 : SMap Tryd.prog 9 w2 b (sputN fm s n) (sput fm s v')) (hG2 : w1.grownBy w2 (some b)) :
    LogAt w2 (fun k => S k ∨ (w0.heap.size ≤ k ∧ k < w2.heap.size)) g (cnt + 1) (lput f s (f s ++ [r])) ∧ Frm w.heap.size S w w2 := by
  obtain ⟨es, clock, hbm⟩ := hm.row
  have hvS : ∀ k, ((fm s).getD (.slice none 0 0)).ownBlock = some k → S k ∧ k ≠ b ∧ k ≠ g := by
    intro k hk
    cases hf : fm s with
    | none => rw [hf] at hk; cases hk
    | some v =>
      rw [hf] at hk
      obtain ⟨ho, hS⟩ := h6 s v hf
      refine ⟨hS k hk, ?_, ?_⟩
      · intro e; subst e
        rcases ho.2 with ⟨rfl, _⟩ | ⟨g', cap, cur, rfl, _, hh, _⟩
        · cases hk
        · cases hk; rw [hbm] at hh; cases hh
      · intro e; subst e
        rcases ho.2 with ⟨rfl, _⟩ | ⟨g', cap, cur, rfl, _, hh, _⟩
        · cases hk
        · cases hk; rw [hg] at hh; cases hh
  have hgb : g ≠ b := by intro e; subst e; rw [hg] at hbm; cases hbm
  have hF1 : Frm w.heap.size S w w1 := (Frm.ofBelow hB0).grown hG1 hB0.size (fun k e _ => (hvS k e).1)
  have hF : Frm w.heap.size S w w2 := hF1.grown hG2 hF1.size (fun k e _ => by cases e; exact hSb)
  have hs2 := hF.size
  have h12 := hG2.size
  have hvlt : ∀ k, v'.ownBlock = some k → k < w1.heap.size := fun k hk => (hO.lt k hk).2
  have hvb : ∀ k, v'.ownBlock = some k → k ≠ b := by
    intro k hk e
    subst e
    rcases hv with hv | hv
    · rw [hv] at hk; exact (hvS _ hk).2.1 rfl
    · have h1 := hv _ hk
      have h2 := h.low _ hSb
      have h3 := hB0.size
      omega
  refine ⟨⟨⟨b, sputN fm s n, sput fm s v', ?_, hm2, ?_, Or.inl hSb, ?_, ?_, ?_⟩, Or.inl h.foot, ?_, ?_, ?_⟩, hF⟩
  · rw [hG2.block g (by have := h.low g h.foot; have := hF1.size; omega) (by intro e; cases e; exact hgb rfl), hG1.block g (by have := h.low g h.foot; have := hB0.size; omega) (fun e => (hvS g e.symm).2.2 rfl), hB0.block g (h.low g h.foot)]
    exact hg
  · unfold sputN; split <;> omega
  · intro t ht
    by_cases e : t = s
    · subst e; simp [sput] at ht
    · rw [lput_other f s t _ e]
      exact h5 t (by simpa [sput, e] using ht)
  · intro t v ht
    by_cases e : t = s
    · subst e
      simp [sput] at ht
      subst ht
      rw [lput_same]
      refine ⟨?_, fun k hk => ?_⟩
      · rw [List.length_append, List.flatMap_append, List.flatMap_singleton]
        exact owns_block hO (fun k hk => hG2.block k (hvlt k hk) (by intro e2; exact hvb k hk (Option.some.inj e2)))
      · rcases hv with hv | hv
        · rw [hv] at hk; exact Or.inl (hvS k hk).1
        · refine Or.inr ⟨?_, ?_⟩
          · exact hv k hk
          · have := hvlt k hk; omega
    · rw [lput_other f s t _ e]
      have ht' : fm t = some v := by simpa [sput, e] using ht
      obtain ⟨ho, hS⟩ := h6 t v ht'
      refine ⟨owns_block ho (fun k hk => ?_), fun k hk => Or.inl (hS k hk)⟩
      have hkl := h.low k (hS k hk)
      have hkb : k ≠ b := by
        intro e2; subst e2
        rcases ho.2 with ⟨rfl, _⟩ | ⟨g', cap, cur, rfl, _, hh, _⟩
        · cases hk
        · cases hk; rw [hbm] at hh; cases hh
      have hko : some k ≠ ((fm s).getD (.slice none 0 0)).ownBlock := by
        intro e2
        cases hf : fm s with
        | none => rw [hf] at e2; cases e2
        | some u => rw [hf] at e2; exact e (h7 t s v u k ht' hf hk e2.symm)
      rw [hG2.block k (by have := hF1.size; omega) (by intro e2; exact hkb (Option.some.inj e2)), hG1.block k (by have := hB0.size; omega) hko, hB0.block k hkl]
  · intro t t' v u k ht ht' hk hk'
    by_cases e : t = s
    · by_cases e' : t' = s
      · rw [e, e']
      · exfalso
        have e1 : v' = v := by simpa [sput, e] using ht
        have e2 : fm t' = some u := by simpa [sput, e'] using ht'
        subst e1
        have hS' := (h6 t' u e2).2 k hk'
        rcases hv with hv | hv
        · cases hf : fm s with
          | none => rw [hf] at hv; rw [hv] at hk; cases hk
          | some u0 => rw [hf] at hv; rw [hv] at hk; exact e' (h7 t' s u u0 k e2 hf hk' hk)
        · have := hv k hk; have := h.low k hS'; have := hB0.size; omega
    · by_cases e' : t' = s
      · exfalso
        have e1 : v' = u := by simpa [sput, e'] using ht'
        have e2 : fm t = some v := by simpa [sput, e] using ht
        subst e1
        have hS' := (h6 t v e2).2 k hk
        rcases hv with hv | hv
        · cases hf : fm s with
          | none => rw [hf] at hv; rw [hv] at hk'; cases hk'
          | some u0 => rw [hf] at hv; rw [hv] at hk'; exact e (h7 t s v u0 k e2 hf hk hk')
        · have := hv k hk'; have := h.low k hS'; have := hB0.size; omega
      · exact h7 t t' v u k (by simpa [sput, e] using ht) (by simpa [sput, e'] using ht') hk hk'
  · rintro k (hk | hk)
    · have := h.low k hk; omega
    · exact hk.2
  · intro t x hx
    by_cases e : t = s
    · subst e
      rw [lput_same] at hx
      rcases List.mem_append.1 hx with h1 | h1
      · exact h.rows t x h1
      · rw [List.mem_singleton.1 h1]; exact hrf
    · rw [lput_other f s t _ e] at hx
      exact h.rows t x hx
  · intro t
    by_cases e : t = s
    · subst e; rw [lput_same, List.length_append]; have := h.len t; simp; omega
    · rw [lput_other f s t _ e]; have := h.len t; omega

end Go.Proofs.YtdpfemhfmofmlaaDoor
