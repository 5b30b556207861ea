/- A range over a function whose rounds are handed values that lead into memory: what the iterator knows of a value is handed to the round. No program stands in it. -/
import Derived.RangeFuncNested
import Derived.RangeFuncBound
import Derived.RangeFuncCalls
import Derived.RangeFuncLeaves
import Derived.Test.YthgaghpakioglaaLib
namespace Go.Proofs.Ythgaghpakioglaa
open Go.RowKit

/-- The blocks that a range over a function keeps its books in. -/
def isBook : Obj → Bool
  | .loop _ => true
  | .deferred _ => true
  | _ => false
/-- Nothing but books has turned, and new memory was made. -/
structure CalmW (A B : World) : Prop where
  os : B.os = A.os
  tape : B.tape = A.tape
  output : B.output = A.output
  size : A.heap.size ≤ B.heap.size
  block : ∀ (k : Nat) (o : Obj), A.heap[k]? = some o → isBook o = false → B.heap[k]? = some o
/-- No book has turned. -/
structure KeepB (A B : World) : Prop where
  size : A.heap.size ≤ B.heap.size
  block : ∀ (k : Nat) (o : Obj), A.heap[k]? = some o → isBook o = true → B.heap[k]? = some o

theorem lt_of_get {α : Type} {a : Array α} {k : Nat} {o : α} (h : a[k]? = some o) : k < a.size := (Array.getElem?_eq_some_iff.1 h).1
theorem CalmW.of_below {A B : World} (h : Below A.heap.size A B) : CalmW A B := ⟨h.os, h.tape, h.output, h.size, fun k o ho _ => (h.block k (lt_of_get ho)).trans ho⟩
theorem CalmW.putObj {A : World} {l : Nat} {o : Obj} (o' : Obj) (h : A.heap[l]? = some o) (hb : isBook o = true) : CalmW A (A.putObj l o') :=
  ⟨rfl, rfl, rfl, by simp, fun k x hx hxb => by
    rw [World.putObj_heap_other (by intro e; subst e; rw [h] at hx; cases hx; rw [hb] at hxb; cases hxb)]; exact hx⟩
theorem KeepB.of_below {A B : World} (h : Below A.heap.size A B) : KeepB A B := ⟨h.size, fun k o ho _ => (h.block k (lt_of_get ho)).trans ho⟩
theorem KeepB.of_grown {A B : World} {b : Nat} {o : Obj} (h : A.grownBy B (some b)) (ho : A.heap[b]? = some o) (hb : isBook o = false) : KeepB A B :=
  ⟨h.size, fun k x hx hxb => (h.block k (lt_of_get hx) (by intro e; cases e; rw [ho] at hx; cases hx; rw [hb] at hxb; cases hxb)).trans hx⟩
theorem KeepB.refl (A : World) : KeepB A A := ⟨Nat.le_refl _, fun _ _ h _ => h⟩
theorem KeepB.trans {A B C : World} (h : KeepB A B) (k : KeepB B C) : KeepB A C := ⟨Nat.le_trans h.size k.size, fun i o hi hb => k.block i o (h.block i o hi hb) hb⟩
theorem below_putObj {n₀ l : Nat} (A : World) (o : Obj) (h : n₀ ≤ l) : Below n₀ A (A.putObj l o) :=
  ⟨rfl, rfl, rfl, by simp, fun k hk => World.putObj_heap_other (by omega)⟩

/-- The contract of an iterator: each round is handed a value x of which G holds; a round that goes on keeps what lay below n₀. -/
def IterOK {α : Type} (P : Program) (gf : Nat) (lb : Array Value) (enc : α → Value) (G : α → World → Prop) (n₀ : Nat) (S Sp : List α → Prop) (W0 : World) : Prop :=
  ∀ (n l : Nat) (J Jx : List α → World → Prop) (W : World), Below W0.heap.size W0 W →
    (∀ s A B, J s A → Below A.heap.size A B → J s B) → (∀ s A B, Jx s A → Below A.heap.size A B → Jx s B) →
    (∀ pre x A, J pre A → G x A → YieldAt Fence.wide (n - 1) P l #[enc x] A fun e B => (e = .returned (.bool true) ∧ J (pre ++ [x]) B ∧ Below n₀ A B) ∨ (e = .returned (.bool false) ∧ Jx (pre ++ [x]) B)) →
    J [] W → CallsIn Fence.wide n P gf (#[.func (.yield l) #[] #[]] ++ lb) W fun e B => (∃ v, e = .returned v) ∧ ((∃ xs, S xs ∧ J xs B) ∨ (∃ pre, Sp pre ∧ Jx pre B))

/-- How a round's body is left. -/
def rngPost {α : Type} (n₀ : Nat) (I : List α → World → Prop) (Ix : Nat → List α → World → Prop) (xs : List α) (B : World) : Exit → Act → World → Prop
  | .normal, _, W => KeepB B W ∧ Below n₀ B W ∧ I xs W
  | .exit id, _, W => KeepB B W ∧ Ix id xs W
  | _, _, _ => False

theorem wpIn_rng {α : Type} {P : Program} {n : Nat} {g : Operand} {p : Tmp} {assign body : Code} {Q : Exit → Act → World → Prop} {a : Act} {w : World}
    {gf : Nat} {lb : Array Value} (hg : a.eval g = .func (.func gf) #[] lb) (eg : ∀ args w, (callFunc gf args).run P w = .ok (.enter gf args) w)
    {enc : α → Value} {G : α → World → Prop} {n₀ : Nat} {S Sp : List α → Prop} {W0 : World} (hseq : IterOK P gf lb enc G n₀ S Sp W0) (hW0 : Below W0.heap.size W0 w) (hn : n₀ ≤ w.heap.size)
    (I : List α → World → Prop) (Ix : Nat → List α → World → Prop) (hI : ∀ s A B, I s A → CalmW A B → Below n₀ A B → I s B) (hIx : ∀ c s A B, Ix c s A → CalmW A B → Below n₀ A B → Ix c s B) (h0 : I [] w)
    (Mid : List α → α → Act → World → Prop) (hMid : ∀ pre x a1 B C, Mid pre x a1 B → CalmW B C → Below n₀ B C → Mid pre x a1 C)
    (hassign : ∀ (l : Nat) (pre : List α) (x : α) (A : World), I pre A → G x A →
      assign.wpIn (Fence.wide.inRound l) (n - 1 - 1) P (Exit.then (fun a1 B => KeepB A B ∧ Below n₀ A B ∧ Mid pre x a1 B) (fun _ _ _ => False)) { tmps := a.tmps.setIfInBounds p (enc x), defers := [] } A)
    (hbody : ∀ (l : Nat) (pre : List α) (x : α) (a1 : Act) (B : World), Mid pre x a1 B → body.wpIn (Fence.wide.inRound l) (n - 1 - 1) P (rngPost n₀ I Ix (pre ++ [x]) B) a1 B)
    (hdone : ∀ (D : Nat) (xs : List α) (W : World), w.heap.size ≤ D → S xs → I xs W → W.heap[D]? = some (.deferred (some [])) → Q .normal { a with defers := { target := .collected D, args := #[] } :: a.defers } W)
    (hstop : ∀ (D id : Nat) (pre : List α) (W : World), w.heap.size ≤ D → Sp pre → Ix id pre W → W.heap[D]? = some (.deferred (some [])) → (Code.exit id).wpIn Fence.wide n P Q { a with defers := { target := .collected D, args := #[] } :: a.defers } W) :
    (Code.rangeFunc g #[p] assign body).wpIn Fence.wide n P Q a w := by
  refine wpIn_rangeFunc fun fn hfn => ?_
  have hro : Fence.wide.round = none := rfl
  rw [hro]
  obtain ⟨rec, hrec⟩ : ∃ rec : LoopState → Option Code → Loop, rec = fun st pe => { state := st, pending := pe, fn, tmps := a.tmps, params := #[p], assign, body, defers := w.heap.size } := ⟨_, rfl⟩
  obtain ⟨L, hL⟩ : ∃ L, w.heap.size + 1 = L := ⟨_, rfl⟩
  obtain ⟨W1, hW1⟩ : ∃ W1, (w.alloc (.deferred (some []))).alloc (.loop (rec .ready none)) = W1 := ⟨_, rfl⟩
  have hB1 : Below w.heap.size w W1 := by rw [← hW1]; exact ((Below.refl _ w).alloc (Nat.le_refl _) _).alloc (by simp) _
  have hL1 : W1.heap[L]? = some (.loop (rec .ready none)) := by
    rw [← hW1, ← hL]; have := World.alloc_heap_new (w.alloc (.deferred (some []))) (.loop (rec .ready none)); rwa [World.size_alloc] at this
  have hD1 : W1.heap[w.heap.size]? = some (.deferred (some [])) := by
    rw [← hW1]; exact (Below.heap_alloc _ _ _ (by simp)).trans (World.alloc_heap_new w _)
  have hnL : n₀ ≤ L := by omega
  -- what the turn of the loop's own record leaves
  have turn : ∀ (W : World) (st st' : LoopState) (pe pe' : Option Code), W.heap[L]? = some (.loop (rec st pe)) → W.heap[w.heap.size]? = some (.deferred (some [])) →
      CalmW W (W.putObj L (.loop (rec st' pe'))) ∧ Below n₀ W (W.putObj L (.loop (rec st' pe'))) ∧ (W.putObj L (.loop (rec st' pe'))).heap[L]? = some (.loop (rec st' pe')) ∧ (W.putObj L (.loop (rec st' pe'))).heap[w.heap.size]? = some (.deferred (some [])) :=
    fun W st st' pe pe' h1 h2 => ⟨CalmW.putObj _ h1 rfl, below_putObj _ _ hnL, World.putObj_heap_same (lt_of_get h1), (World.putObj_heap_other (by omega)).trans h2⟩
  refine ⟨L, [{ target := .collected w.heap.size, args := #[] }], W1, { target := .fn (.func gf) lb, args := #[.func (.yield L) #[] #[]] }, W1, gf, #[.func (.yield L) #[] #[]] ++ lb, W1, ?_, ?_, fun _ _ => trivial, ?_, (fun h => by cases h), ?_⟩
  · rw [← hW1, hrec, ← hL]; exact run_enterLoop_outer _ _ _ _ _
  · simp only [resolve, hg]
    simp [go_sem]
  · simp [invoke, go_sem, eg]
  · refine (hseq (n - 1) L
      (fun pre W => I pre W ∧ W.heap[L]? = some (.loop (rec .ready none)) ∧ W.heap[w.heap.size]? = some (.deferred (some [])))
      (fun pre W => ∃ c, Ix c pre W ∧ W.heap[L]? = some (.loop (rec .done (some (.exit c)))) ∧ W.heap[w.heap.size]? = some (.deferred (some [])))
      W1 (hW0.trans (hB1.mono hW0.size)) ?_ ?_ ?_ ⟨hI _ _ _ h0 (CalmW.of_below hB1) (hB1.mono hn), hL1, hD1⟩).mono ?_
    · rintro s A B ⟨h1, h2, h3⟩ hb
      have hnA : n₀ ≤ A.heap.size := by have := lt_of_get h2; omega
      exact ⟨hI _ _ _ h1 (CalmW.of_below hb) (hb.mono hnA), (hb.block _ (lt_of_get h2)).trans h2, (hb.block _ (lt_of_get h3)).trans h3⟩
    · rintro s A B ⟨c, h1, h2, h3⟩ hb
      have hnA : n₀ ≤ A.heap.size := by have := lt_of_get h2; omega
      exact ⟨c, hIx _ _ _ _ h1 (CalmW.of_below hb) (hb.mono hnA), (hb.block _ (lt_of_get h2)).trans h2, (hb.block _ (lt_of_get h3)).trans h3⟩
    · rintro pre x A ⟨hi, hl, hd⟩ hG
      have hy := run_yield (P := P) (args := #[enc x]) hl (by rw [hrec]; rfl)
      rw [hrec] at hy
      have hz : (Array.zip #[p] #[enc x]).foldl (fun (tmps : Array Value) (y : Tmp × Value) => match y with | (t, v) => tmps.setIfInBounds t v) a.tmps = a.tmps.setIfInBounds p (enc x) := by simp
      dsimp only at hy
      rw [hz] at hy
      refine ⟨fn, _, assign, body, hy, roundIn_of_wpIn hfn ?_⟩
      refine wpIn_mono (hassign L pre x A hi hG) ?_
      rintro e a1 B hp
      cases e with
      | normal =>
        obtain ⟨hkb, hbb, hmid⟩ := hp
        have hlB := hkb.block _ _ hl rfl
        have hdB := hkb.block _ _ hd rfl
        obtain ⟨t1, t2, t3, t4⟩ := turn B .ready .busy none none hlB hdB
        refine ⟨B.putObj L (.loop (rec .busy none)), ?_, ?_⟩
        · have := run_beginRound (P := P) hlB (by rw [hrec]); rw [hrec] at this ⊢; exact this
        refine wpIn_mono (hbody L pre x a1 _ (hMid _ _ _ _ _ hmid t1 t2)) ?_
        rintro e2 a2 C hq
        cases e2 with
        | normal =>
          obtain ⟨k1, k2, k3⟩ := hq
          have hlC := k1.block _ _ t3 rfl
          have hdC := k1.block _ _ t4 rfl
          obtain ⟨u1, u2, u3, u4⟩ := turn C .busy .ready none none hlC hdC
          refine ⟨.bool true, C.putObj L (.loop (rec .ready none)), ?_, .inl ⟨rfl, ⟨hI _ _ _ k3 u1 u2, u3, u4⟩, ((hbb.trans t2).trans k2).trans u2⟩⟩
          have := run_endRound (P := P) none hlC; rw [hrec] at this ⊢; exact this
        | exit id =>
          obtain ⟨k1, k3⟩ := hq
          have hlC := k1.block _ _ t3 rfl
          have hdC := k1.block _ _ t4 rfl
          obtain ⟨u1, u2, u3, u4⟩ := turn C .busy .done none (some (.exit id)) hlC hdC
          refine ⟨.bool false, C.putObj L (.loop (rec .done (some (.exit id)))), ?_, .inr ⟨rfl, id, hIx _ _ _ _ k3 u1 u2, u3, u4⟩⟩
          have := run_endRound (P := P) (some (.exit id)) hlC; rw [hrec] at this ⊢; exact this
        | ret => exact hq.elim
        | goto t => exact hq.elim
        | panic ch => exact hq.elim
        | outgrown => exact hq.elim
      | exit id => exact hp.elim
      | ret => exact hp.elim
      | goto t => exact hp.elim
      | panic ch => exact hp.elim
      | outgrown => exact hp.elim
    · rintro e W2 ⟨⟨v, rfl⟩, (⟨xs, hS, hi, hl, hd⟩ | ⟨pre, hSp, c, hi, hl, hd⟩)⟩
      · obtain ⟨t1, t2, t3, t4⟩ := turn W2 .ready .exhausted none none hl hd
        refine ⟨none, W2.putObj L (.loop (rec .exhausted none)), ?_, hdone _ xs _ (Nat.le_refl _) hS (hI _ _ _ hi t1 t2) t4⟩
        have := run_endLoop (P := P) hl (by rw [hrec]; simp); rw [hrec] at this ⊢; exact this
      · obtain ⟨t1, t2, t3, t4⟩ := turn W2 .done .exhausted (some (.exit c)) (some (.exit c)) hl hd
        refine ⟨some (.exit c), W2.putObj L (.loop (rec .exhausted (some (.exit c)))), ?_, hstop _ c pre _ (Nat.le_refl _) hSp (hIx _ _ _ _ hi t1 t2) t4⟩
        have := run_endLoop (P := P) hl (by rw [hrec]; simp); rw [hrec] at this ⊢; exact this

end Go.Proofs.Ythgaghpakioglaa
