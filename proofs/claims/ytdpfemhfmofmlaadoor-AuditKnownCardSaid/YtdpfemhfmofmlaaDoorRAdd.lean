/- A row is added to the reference's chains: what lies behind it. -/
import Derived.Test.YtdpfemhfmofmlaaDoorRRow
import Derived.Deep.DeepCutAuto
namespace Go.Proofs.YtdpfemhfmofmlaaDoor
set_option linter.unusedSimpArgs false
set_option linter.unusedVariables false
open Go.RowKit
set_option maxRecDepth 10000

theorem flat_set (x' : RCh) : ∀ (cs : List RCh) (i : Nat) (hi : i < cs.length), x'.t = cs[i].t → (cs.set i x').flatMap RCh.cells = (cs.flatMap RCh.cells).set (i * 2 + 1) x'.v
  | [], i, hi, _ => by simp at hi
  | c :: cs, 0, _, h => by
    simp at h
    simp [RCh.cells, h]
  | c :: cs, i + 1, hi, h => by
    rw [List.set_cons_succ, List.flatMap_cons, List.flatMap_cons, flat_set x' cs i (by simpa using hi) (by simpa using h), List.set_append_right _ _ (by simp [RCh.cells]; omega)]
    congr 2
    simp [RCh.cells]
    omega

/-- The chains behind a row that is added to the first of a tenant's. -/
abbrev rput (cs : List RCh) (i : Nat) (t : ByteArray) (v : Value) (l : List Ent) : List RCh := cs.set i ⟨t, v, l⟩

theorem rowsOf_rput (cs : List RCh) (i : Nat) (hi : i < cs.length) (s : ByteArray) (v : Value) (l : List Ent) (h : cs[i].t = s) (hn : ∀ j (hj : j < i), cs[j].t ≠ s) (u : ByteArray) : rowsOf (rput cs i s v l) u = if u = s then l else rowsOf cs u := by
  unfold rput
  by_cases e : u = s
  · rw [if_pos e, e]
    have hi' : i < (cs.set i ⟨s, v, l⟩).length := by rw [List.length_set]; exact hi
    rw [rowsOf_hit (cs.set i ⟨s, v, l⟩) s i hi' (by simp) (fun j hj => by rw [List.getElem_set_ne (by omega)]; exact hn j hj)]
    simp
  · rw [if_neg e]
    unfold rowsOf
    congr 1
    have key : ∀ (cs : List RCh) (i : Nat) (hi : i < cs.length), cs[i].t = s → ((cs.set i ⟨s, v, l⟩).find? (fun x => decide (x.t = u))).map (·.l) = (cs.find? (fun x => decide (x.t = u))).map (·.l) := by
      intro cs
      induction cs with
      | nil => intro i hi; simp at hi
      | cons c cs ih =>
        intro i hi hc
        cases i with
        | zero =>
          simp at hc
          have e1 : decide (s = u) = false := by simp; exact fun h => e h.symm
          simp [List.find?_cons, hc, e1]
        | succ i =>
          rw [List.set_cons_succ, List.find?_cons, List.find?_cons]
          cases decide (c.t = u) with
          | true => rfl
          | false => exact ih i (by simpa using hi) (by simpa using hc)
    exact key cs i hi h

theorem rowsOf_push (cs : List RCh) (s : ByteArray) (v : Value) (l : List Ent) (hn : ∀ j (hj : j < cs.length), cs[j].t ≠ s) (u : ByteArray) : rowsOf (cs ++ [⟨s, v, l⟩]) u = if u = s then l else rowsOf cs u := by
  unfold rowsOf
  rw [List.find?_append]
  by_cases e : u = s
  · rw [if_pos e, e]
    have e2 : cs.find? (fun x => decide (x.t = s)) = none := by
      rw [List.find?_eq_none]
      intro x hx
      obtain ⟨j, hj, rfl⟩ := List.mem_iff_getElem.1 hx
      simpa using hn j hj
    rw [e2]
    simp
  · rw [if_neg e]
    have e1 : decide (s = u) = false := by simp; exact fun h => e h.symm
    cases cs.find? (fun x => decide (x.t = u)) with
    | some x => simp
    | none => simp [e1]

/-- A row lies behind its chain: the list of the chains is written. -/
theorem RLogAt.putAt {w w0 w1 : World} {S : Nat → Prop} {g cnt : Nat} {cs : List RCh} (h : RLogAt w S g cnt cs) (i : Nat) (hi : i < cs.length) (r : Ent) (hr : r.Fit) (v' : Value) (b : Nat) (a : Option Addr) (c : Nat)
    (hg : w.heap[g]? = some (.cells #[.slice a cs.length c] 127 (0, 0))) (hL : w.ownsRow 0 129 2 (.slice a cs.length c) cs.length (cs.flatMap RCh.cells)) (ha : a = some ⟨b, 0, none⟩) (hSL : ∀ k, (Value.slice a cs.length c).ownBlock = some k → S k)
    (hB0 : Below w.heap.size w w0) (hO : w1.ownsRow 0 73 39 v' (cs[i].l.length + 1) (cs[i].l.flatMap Ent.cells ++ r.cells)) (hG1 : w0.grownBy w1 cs[i].v.ownBlock) (hv : v'.ownBlock = cs[i].v.ownBlock ∨ ∀ k, v'.ownBlock = some k → w0.heap.size ≤ k) :
    RLogAt (w1.setCell ⟨b, i * 2 + 1, none⟩ v') (fun k => S k ∨ (w0.heap.size ≤ k ∧ k < w1.heap.size)) g (cnt + 1) (rput cs i cs[i].t v' (cs[i].l ++ [r])) ∧ Frm w.heap.size S w (w1.setCell ⟨b, i * 2 + 1, none⟩ v') ∧ (w1.setCell ⟨b, i * 2 + 1, none⟩ v').heap.size = w1.heap.size := by
  have hbS : S b := hSL b (by rw [ha]; rfl)
  have hblt := h.low b hbS
  have hci := h.chains cs[i] (List.getElem_mem hi)
  have hLb : ∃ cur cap, w.heap[b]? = some (.cells cur 129 (0, 0)) ∧ cap = c := by
    rcases hL.2 with ⟨e, _⟩ | ⟨b', cap, cur, e, _, hh, _⟩
    · rw [ha] at e; cases e
    · rw [ha] at e; cases e; exact ⟨cur, _, hh, rfl⟩
  obtain ⟨cur, _, hbb, _⟩ := hLb
  have hciNb : cs[i].v.ownBlock ≠ some b := own_types hci.1 hbb (by decide)
  have hciNg : cs[i].v.ownBlock ≠ some g := own_types hci.1 hg (by decide)
  have hgb : g ≠ b := by intro e; subst e; rw [hg] at hbb; cases hbb
  have hsz : (w1.setCell ⟨b, i * 2 + 1, none⟩ v').heap.size = w1.heap.size := by simp [World.setCell]
  have hF1 : Frm w.heap.size S w w1 := (Frm.ofBelow hB0).grown hG1 hB0.size (fun k e _ => hci.2 k e)
  have hF : Frm w.heap.size S w (w1.setCell ⟨b, i * 2 + 1, none⟩ v') := hF1.setCell (fun _ => hbS) _
  have hset : ∀ k, k ≠ b → (w1.setCell ⟨b, i * 2 + 1, none⟩ v').heap[k]? = w1.heap[k]? := fun k hk => Below.heap_setCell _ _ _ _ hk
  have hw1 : ∀ k, k < w.heap.size → cs[i].v.ownBlock ≠ some k → w1.heap[k]? = w.heap[k]? := fun k hk hne => (hG1.block k (by have := hB0.size; omega) (fun e => hne e.symm)).trans (hB0.block k hk)
  have hL1 : w1.ownsRow 0 129 2 (.slice a cs.length c) cs.length (cs.flatMap RCh.cells) := owns_block hL (fun k hk => hw1 k (h.low k (hSL k hk)) (by rw [ha] at hk; cases hk; exact hciNb))
  have hvb : ∀ k, v'.ownBlock = some k → k ≠ b := by
    intro k hk e
    subst e
    rcases hv with hv | hv
    · rw [hv] at hk; exact hciNb hk
    · have := hv _ hk; have := hB0.size; omega
  have hl2 : (rput cs i cs[i].t v' (cs[i].l ++ [r])).length = cs.length := by unfold rput; rw [List.length_set]
  subst ha
  have hst := (hL1.stored (i * 2 + 1) v').1
  have hnew : (w1.setCell ⟨b, i * 2 + 1, none⟩ v').ownsRow 0 73 39 v' (cs[i].l ++ [r]).length ((cs[i].l ++ [r]).flatMap Ent.cells) := by
    rw [List.length_append, List.flatMap_append, List.flatMap_singleton]
    exact owns_block hO (fun k hk => hset k (hvb k hk))
  have hnS : ∀ k, v'.ownBlock = some k → S k ∨ (w0.heap.size ≤ k ∧ k < w1.heap.size) := fun k hk => by
    rcases hv with hv | hv
    · rw [hv] at hk; exact Or.inl (hci.2 k hk)
    · exact Or.inr ⟨hv k hk, (hO.lt k hk).2⟩
  have hold : ∀ j (hj : j < cs.length), j ≠ i → (w1.setCell ⟨b, i * 2 + 1, none⟩ v').ownsRow 0 73 39 cs[j].v cs[j].l.length (cs[j].l.flatMap Ent.cells) := fun j hj e => by
    have hcj := h.chains cs[j] (List.getElem_mem hj)
    refine owns_block hcj.1 (fun k hk => ?_)
    have hkb : k ≠ b := by intro e2; subst e2; exact own_types hcj.1 hbb (by decide) hk
    rw [hset k hkb]
    exact hw1 k (h.low k (hcj.2 k hk)) (fun e2 => e (h.apart j i hj hi k hk e2))
  have hget : ∀ j (hj : j < (rput cs i cs[i].t v' (cs[i].l ++ [r])).length) (hj' : j < cs.length), (rput cs i cs[i].t v' (cs[i].l ++ [r]))[j] = if i = j then ⟨cs[i].t, v', cs[i].l ++ [r]⟩ else cs[j] := fun j hj hj' => List.getElem_set ..
  refine ⟨⟨⟨.slice (some ⟨b, 0, none⟩) cs.length c, ?_, ?_, fun k hk => Or.inl (hSL k hk)⟩, ?_, ?_, Or.inl h.foot, ?_, ?_, ?_, ?_⟩, hF, hsz⟩
  · rw [hset g hgb, hw1 g (h.low g h.foot) hciNg]; exact hg
  · rw [hl2]
    unfold rput
    rw [flat_set ⟨cs[i].t, v', cs[i].l ++ [r]⟩ cs i hi rfl]
    simpa using hst
  · intro x hx
    obtain ⟨j, hj, rfl⟩ := List.mem_iff_getElem.1 hx
    have hj' : j < cs.length := by rw [hl2] at hj; exact hj
    rw [hget j hj hj']
    by_cases e : i = j
    · rw [if_pos e]; exact ⟨hnew, hnS⟩
    · rw [if_neg e]; exact ⟨hold j hj' (fun e2 => e e2.symm), fun k hk => Or.inl ((h.chains cs[j] (List.getElem_mem hj')).2 k hk)⟩
  · intro j j' hj hj' k hk hk'
    have hj1 : j < cs.length := by rw [hl2] at hj; exact hj
    have hj2 : j' < cs.length := by rw [hl2] at hj'; exact hj'
    rw [hget j hj hj1] at hk
    rw [hget j' hj' hj2] at hk'
    by_cases e : i = j
    · by_cases e' : i = j'
      · omega
      · exfalso
        rw [if_pos e] at hk
        rw [if_neg e'] at hk'
        have hS' := (h.chains cs[j'] (List.getElem_mem hj2)).2 k hk'
        rcases hv with hv | hv
        · have hk2 : v'.ownBlock = some k := hk
          rw [hv] at hk2
          exact e' (h.apart i j' hi hj2 k hk2 hk')
        · have := hv k hk; have := h.low k hS'; have := hB0.size; omega
    · by_cases e' : i = j'
      · exfalso
        rw [if_neg e] at hk
        rw [if_pos e'] at hk'
        have hS' := (h.chains cs[j] (List.getElem_mem hj1)).2 k hk
        rcases hv with hv | hv
        · have hk2 : v'.ownBlock = some k := hk'
          rw [hv] at hk2
          exact e (h.apart i j hi hj1 k hk2 hk)
        · have := hv k hk'; have := h.low k hS'; have := hB0.size; omega
      · rw [if_neg e] at hk
        rw [if_neg e'] at hk'
        exact h.apart j j' hj1 hj2 k hk hk'
  · rintro k (hk | hk)
    · have := h.low k hk; have := hF.size; omega
    · rw [hsz]; exact hk.2
  · intro x hx y hy
    obtain ⟨j, hj, rfl⟩ := List.mem_iff_getElem.1 hx
    have hj' : j < cs.length := by rw [hl2] at hj; exact hj
    rw [hget j hj hj'] at hy
    by_cases e : i = j
    · rw [if_pos e] at hy
      rcases List.mem_append.1 hy with h1 | h1
      · exact h.rows cs[i] (List.getElem_mem hi) y h1
      · rw [List.mem_singleton.1 h1]; exact hr
    · rw [if_neg e] at hy
      exact h.rows cs[j] (List.getElem_mem hj') y hy
  · rw [hl2]; have := h.many; omega
  · intro x hx
    obtain ⟨j, hj, rfl⟩ := List.mem_iff_getElem.1 hx
    have hj' : j < cs.length := by rw [hl2] at hj; exact hj
    rw [hget j hj hj']
    by_cases e : i = j
    · rw [if_pos e]
      show (cs[i].l ++ [r]).length ≤ cnt + 1
      have := h.len cs[i] (List.getElem_mem hi)
      rw [List.length_append]; simp; omega
    · rw [if_neg e]
      have := h.len cs[j] (List.getElem_mem hj')
      omega

/-- A new chain. -/
theorem RLogAt.push {w w0 w1 : World} {S : Nat → Prop} {g cnt : Nat} {cs : List RCh} (h : RLogAt w S g cnt cs) (s : ByteArray) (r : Ent) (hr : r.Fit) (v1 v2 vo : Value)
    (hg : w.heap[g]? = some (.cells #[vo] 127 (0, 0))) (hSL : ∀ k, vo.ownBlock = some k → S k) (hLg : vo.ownBlock ≠ some g)
    (hB0 : Below w.heap.size w w0) (hO1 : w0.ownsRow 0 73 39 v1 1 r.cells) (hv1 : ∀ k, v1.ownBlock = some k → w.heap.size ≤ k)
    (hO2 : w1.ownsRow 0 129 2 v2 (cs.length + 1) (cs.flatMap RCh.cells ++ [.string s, v1])) (hG1 : w0.grownBy w1 vo.ownBlock) (hv2 : v2.ownBlock = vo.ownBlock ∨ ∀ k, v2.ownBlock = some k → w0.heap.size ≤ k)
    (hty : ∀ x : Value, ∀ n xs, w.ownsRow 0 73 39 x n xs → ∀ k, x.ownBlock = some k → vo.ownBlock ≠ some k) (z : Nat) (hz : w.heap.size ≤ z) (hv1z : ∀ k, v1.ownBlock = some k → z ≤ k) :
    RLogAt (w1.setCell ⟨g, 0, none⟩ v2) (fun k => S k ∨ (z ≤ k ∧ k < w1.heap.size)) g (cnt + 1) (cs ++ [⟨s, v1, [r]⟩]) ∧ Frm w.heap.size S w (w1.setCell ⟨g, 0, none⟩ v2) ∧ (w1.setCell ⟨g, 0, none⟩ v2).heap.size = w1.heap.size := by
  have hglt := h.low g h.foot
  have hsz : (w1.setCell ⟨g, 0, none⟩ v2).heap.size = w1.heap.size := by simp [World.setCell]
  have hF1 : Frm w.heap.size S w w1 := (Frm.ofBelow hB0).grown hG1 hB0.size (fun k e _ => hSL k e)
  have hF : Frm w.heap.size S w (w1.setCell ⟨g, 0, none⟩ v2) := hF1.setCell (fun _ => h.foot) _
  have hset : ∀ k, k ≠ g → (w1.setCell ⟨g, 0, none⟩ v2).heap[k]? = w1.heap[k]? := fun k hk => Below.heap_setCell _ _ _ _ hk
  have hw1 : ∀ k, k < w.heap.size → vo.ownBlock ≠ some k → w1.heap[k]? = w.heap[k]? := fun k hk hne => (hG1.block k (by have := hB0.size; omega) (fun e => hne e.symm)).trans (hB0.block k hk)
  have hv1lt : ∀ k, v1.ownBlock = some k → k < w0.heap.size := fun k hk => (hO1.lt k hk).2
  have hv1n : ∀ k, v1.ownBlock = some k → vo.ownBlock ≠ some k := fun k hk e => by have := h.low k (hSL k e); have := hv1 k hk; omega
  have hz0 : z ≤ w0.heap.size ∨ ∀ k, v1.ownBlock = some k → False := by
    rcases Nat.lt_or_ge w0.heap.size z with h2 | h2
    · exact Or.inr (fun k hk => by have := hv1z k hk; have := hv1lt k hk; omega)
    · exact Or.inl h2
  have hz1 : z ≤ w0.heap.size := by
    rcases hz0 with h2 | h2
    · exact h2
    · exfalso
      rcases hO1.2 with ⟨e, e2⟩ | ⟨g', cap, cur, e, _⟩
      · omega
      · exact h2 g' (by rw [e]; rfl)
  have hnew : (w1.setCell ⟨g, 0, none⟩ v2).ownsRow 0 73 39 v1 1 ([r].flatMap Ent.cells) := by
    rw [List.flatMap_singleton]
    refine owns_block hO1 (fun k hk => ?_)
    rw [hset k (by have := hv1 k hk; omega)]
    exact hG1.block k (hv1lt k hk) (fun e => hv1n k hk e.symm)
  have hold : ∀ x ∈ cs, (w1.setCell ⟨g, 0, none⟩ v2).ownsRow 0 73 39 x.v x.l.length (x.l.flatMap Ent.cells) := fun x hx => by
    have hcx := h.chains x hx
    refine owns_block hcx.1 (fun k hk => ?_)
    have hkg : k ≠ g := by intro e2; subst e2; exact own_types hcx.1 hg (by decide) hk
    rw [hset k hkg]
    exact hw1 k (h.low k (hcx.2 k hk)) (hty x.v _ _ hcx.1 k hk)
  have h2g : ∀ k, v2.ownBlock = some k → k ≠ g := fun k hk e => by
    subst e
    rcases hv2 with hv | hv
    · rw [hv] at hk; exact hLg hk
    · have := hv _ hk; have := hB0.size; omega
  refine ⟨⟨⟨v2, ?_, ?_, fun k hk => ?_⟩, ?_, ?_, Or.inl h.foot, ?_, ?_, ?_, ?_⟩, hF, hsz⟩
  · exact row_set (hw1 g hglt hLg |>.trans hg) 0 v2
  · rw [List.length_append, List.flatMap_append, List.flatMap_singleton]
    exact owns_block hO2 (fun k hk => hset k (h2g k hk))
  · rcases hv2 with hv | hv
    · rw [hv] at hk; exact Or.inl (hSL k hk)
    · exact Or.inr ⟨by have := hv k hk; omega, (hO2.lt k hk).2⟩
  · intro x hx
    rcases List.mem_append.1 hx with h1 | h1
    · exact ⟨hold x h1, fun k hk => Or.inl ((h.chains x h1).2 k hk)⟩
    · rw [List.mem_singleton.1 h1]
      refine ⟨hnew, fun k hk => Or.inr ⟨hv1z k hk, ?_⟩⟩
      have h3 : v1.ownBlock = some k := hk
      have := hv1lt k h3; have := hG1.size; omega
  · intro i j hi hj k hk hk'
    rw [List.length_append, List.length_singleton] at hi hj
    by_cases e : i < cs.length
    · rw [List.getElem_append_left e] at hk
      by_cases e' : j < cs.length
      · rw [List.getElem_append_left e'] at hk'
        exact h.apart i j e e' k hk hk'
      · exfalso
        rw [List.getElem_append_right (by omega)] at hk'
        simp at hk'
        have := h.low k ((h.chains cs[i] (List.getElem_mem e)).2 k hk); have := hv1 k hk'; omega
    · rw [List.getElem_append_right (by omega)] at hk
      simp at hk
      by_cases e' : j < cs.length
      · exfalso
        rw [List.getElem_append_left e'] at hk'
        have := h.low k ((h.chains cs[j] (List.getElem_mem e')).2 k hk'); have := hv1 k hk; omega
      · omega
  · rintro k (hk | hk)
    · have := h.low k hk; have := hF.size; omega
    · rw [hsz]; exact hk.2
  · intro x hx y hy
    rcases List.mem_append.1 hx with h1 | h1
    · exact h.rows x h1 y hy
    · rw [List.mem_singleton.1 h1] at hy
      rw [List.mem_singleton.1 hy]; exact hr
  · rw [List.length_append]; have := h.many; simp; omega
  · intro x hx
    rcases List.mem_append.1 hx with h1 | h1
    · have := h.len x h1; omega
    · rw [List.mem_singleton.1 h1]; show 1 ≤ cnt + 1; omega

end Go.Proofs.YtdpfemhfmofmlaaDoor
