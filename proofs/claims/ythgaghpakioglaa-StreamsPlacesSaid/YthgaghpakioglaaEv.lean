/- Events as cells. -/
import Derived.Test.YthgaghpakioglaaKit
import Derived.Test.YthgaghpakioglaaRng
import Derived.Test.YthgaghpakioglaaApp3
import Derived.Test.YthgaghpakioglaaWord
namespace Go.Proofs.Ythgaghpakioglaa
set_option linter.unusedSimpArgs false
set_option linter.unusedVariables false
open Go.RowKit
set_option maxRecDepth 10000

/-- An event, and where its sealed bytes lie. -/
structure Ev where
  st : ByteArray
  su : ByteArray
  v : Int
  p : Int
  u : Int
  sa : Option Addr
  sn : Nat
  sc : Nat
  sl : List UInt8
def Ev.cells (e : Ev) : List Value := [.string e.st, .string e.su, .int .i64 e.v, .int .i64 e.p, .int .i64 e.u, .slice e.sa e.sn e.sc]
theorem Ev.cells_length (e : Ev) : e.cells.length = 6 := rfl
theorem Ev.cells_oneCell (e : Ev) : ∀ v ∈ e.cells, v.oneCell' = true := by
  intro v hv
  simp [Ev.cells] at hv
  rcases hv with rfl | rfl | rfl | rfl | rfl | rfl <;> rfl
theorem evs_length (es : List Ev) : (es.flatMap Ev.cells).length = es.length * 6 := by
  induction es with
  | nil => rfl
  | cons x xs ih => rw [List.flatMap_cons, List.length_append, ih, Ev.cells_length, List.length_cons]; omega

/-- Its sealed bytes lie in w, as bytes, not below B. -/
structure Ev.Rd (B : Nat) (w : World) (e : Ev) : Prop where
  len : e.sl.length = e.sn
  cap : e.sn ≤ e.sc
  rd : RdB w e.sa e.sl
  ty : Typ w 5 e.sa e.sl.length
  lo : 0 < e.sl.length → ∀ b o, e.sa = some ⟨b, o, none⟩ → B ≤ b
theorem Ev.Rd.of {B B' : Nat} {w w' : World} {e : Ev} (h : e.Rd B w) (hB : B' ≤ B) (hk : ∀ (b : Nat) (c : Array Value) (fr : Nat × Nat), w.heap[b]? = some (.cells c 5 fr) → w'.heap[b]? = some (.cells c 5 fr)) : e.Rd B' w' := by
  refine ⟨h.len, h.cap, ?_, ?_, fun h0 b o e2 => Nat.le_trans hB (h.lo h0 b o e2)⟩
  · rcases Nat.eq_zero_or_pos e.sl.length with h0 | h0
    · rw [List.eq_nil_of_length_eq_zero h0]; exact RdC.nil _ _
    · obtain ⟨b, off, c, fr, ha, hb⟩ := h.ty h0
      refine RdC.congr h.rd fun b' off' e2 hlt => ?_
      rw [ha] at e2; cases e2
      rw [hb, hk b c fr hb]
  · intro h0
    obtain ⟨b, off, c, fr, ha, hb⟩ := h.ty h0
    exact ⟨b, off, c, fr, ha, hk b c fr hb⟩
theorem Ev.Rd.calm {B : Nat} {w w' : World} {e : Ev} (h : e.Rd B w) (hc : CalmW w w') : e.Rd B w' := h.of (Nat.le_refl _) fun b c fr hb => hc.block b _ hb rfl
theorem Ev.Rd.below {B : Nat} {w w' : World} {e : Ev} (h : e.Rd B w) (hb : Below w.heap.size w w') : e.Rd B w' := h.of (Nat.le_refl _) fun b c fr hh => (hb.block b (lt_of_get hh)).trans hh
/-- Behind a write into a row of another type. -/
theorem Ev.Rd.typNe {B : Nat} {w w' : World} {e : Ev} {z : Nat} {c : Array Value} {t : TypeId} {fr : Nat × Nat} (h : e.Rd B w) (hz : w.heap[z]? = some (.cells c t fr)) (ht : t ≠ 5) (hg : w.grownBy w' (some z)) : e.Rd B w' :=
  h.of (Nat.le_refl _) fun b c' fr' hh => (hg.block b (lt_of_get hh) (by intro e2; cases e2; rw [hz] at hh; cases hh; exact ht rfl)).trans hh
/-- Behind a write into a row that is owned, of another type. -/
theorem Ev.Rd.ownNe {B base size n : Nat} {t : TypeId} {v : Value} {xs : List Value} {w w' : World} {e : Ev} (h : e.Rd B w) (ho : w.ownsRow base t size v n xs) (ht : t ≠ 5) (hg : w.grownBy w' v.ownBlock) : e.Rd B w' := by
  rcases ho.2 with ⟨rfl, _⟩ | ⟨g, cap, cur, rfl, _, hh, _⟩
  · exact h.of (Nat.le_refl _) fun b c' fr' hb => (hg.block b (lt_of_get hb) (by intro e2; cases e2)).trans hb
  · exact h.typNe hh ht hg

def zEv : Ev := ⟨ByteArray.empty, ByteArray.empty, 0, 0, 0, none, 0, 0, []⟩
theorem evInfo : (Try.prog.info? 54).map (fun i => (i.zero.map (·.cells), i.size, i.bytes)) = some (some zEv.cells.toArray, 6, 80) := by kernel_rfl
theorem evInfo_parts : ∃ i z, Try.prog.info? 54 = some i ∧ i.zero = some z ∧ i.size = 6 ∧ i.bytes = 80 ∧ z.cells = zEv.cells.toArray := by
  have h := evInfo
  cases hi : Try.prog.info? 54 with
  | none => rw [hi] at h; cases h
  | some i =>
    rw [hi] at h
    simp only [Option.map_some, Option.some.injEq, Prod.mk.injEq] at h
    obtain ⟨h1, h2, h3⟩ := h
    cases hz : i.zero with
    | none => rw [hz] at h1; cases h1
    | some z => rw [hz] at h1; simp only [Option.map_some, Option.some.injEq] at h1; exact ⟨i, z, rfl, hz, h2, h3, h1⟩
theorem evSize : (Try.prog.info? 54).map (·.size) = some 6 := by kernel_rfl

theorem own_typ {w : World} {base e size : Nat} {v : Value} {n : Nat} {xs : List Value} {g : Nat} {cs : Array Value} {t : TypeId} {fr : Nat × Nat} (h : w.ownsRow base e size v n xs) (hg : w.heap[g]? = some (.cells cs t fr)) (ht : t ≠ e) : v.ownBlock ≠ some g := by
  intro e2
  rcases h.2 with ⟨rfl, _⟩ | ⟨g', cap, cur, rfl, _, hh, _⟩
  · cases e2
  · cases e2
    rw [hg] at hh
    cases hh
    exact ht rfl
theorem cells_new (B : World) (cs : List Value) (t : TypeId) : ∀ (j : Nat) (u : Value), cs[j]? = some u → (B.alloc (.cells cs.toArray t)).cell? ((⟨B.heap.size, 0, none⟩ : Addr).add j) = some u := by
  intro j u h
  rw [Addr.add_lit, Nat.zero_add, cell_of_row _ _ j _ _ _ (heap_alloc_new B _)]
  simpa using h
theorem row_alloc {B : World} {k : Nat} {o : Obj} (h : B.heap[k]? = some o) (x : Obj) : (B.alloc x).heap[k]? = some o := by
  rw [Go.heap_alloc_old _ _ (lt_of_get h)]; exact h
theorem row_grown {A B : World} {k : Nat} {o : Obj} {r : Option Nat} (h : A.heap[k]? = some o) (hg : A.grownBy B r) (hne : r ≠ some k) : B.heap[k]? = some o :=
  (hg.block k (lt_of_get h) (fun e => hne e.symm)).trans h

theorem owns_keep {w w' : World} {base e size : Nat} {v : Value} {n : Nat} {xs : List Value} {o : Option Nat} (h : w.ownsRow base e size v n xs) (hg : w.grownBy w' o) (hne : v.ownBlock = none ∨ o ≠ v.ownBlock) : w'.ownsRow base e size v n xs := by
  refine ⟨h.1, ?_⟩
  rcases h.2 with h2 | ⟨g, cap, cur, hv, hb, hh, r⟩
  · exact .inl h2
  · refine .inr ⟨g, cap, cur, hv, hb, row_grown hh hg ?_, r⟩
    rcases hne with h1 | h1
    · rw [hv] at h1; cases h1
    · rw [hv] at h1; exact h1
theorem KeepB.of_own {A B : World} {base e size n : Nat} {v : Value} {xs : List Value} (ho : A.ownsRow base e size v n xs) (hg : A.grownBy B v.ownBlock) : KeepB A B := by
  rcases ho.2 with ⟨rfl, _⟩ | ⟨g, cap, cur, rfl, _, hh, _⟩
  · exact ⟨hg.size, fun k o hk _ => row_grown hk hg (by intro e; cases e)⟩
  · exact KeepB.of_grown hg hh rfl

theorem row_setC {w : World} {g o : Nat} {arr : Array Value} {t : TypeId} {fr : Nat × Nat} (h : w.heap[g]? = some (.cells arr t fr)) (v : Value) : (w.setCell ⟨g, o, none⟩ v).heap[g]? = some (.cells (arr.setIfInBounds o v) t fr) := by
  unfold World.setCell
  rw [Array.getElem?_modify, if_pos rfl, h]
  rfl
theorem row_below {A B : World} {k : Nat} {o : Obj} {n : Nat} (h : A.heap[k]? = some o) (hb : Below n A B) (hk : k < n) : B.heap[k]? = some o := (hb.block k hk).trans h

theorem grown_setC (w : World) (g o : Nat) (v : Value) : w.grownBy (w.setCell ⟨g, o, none⟩ v) (some g) :=
  ⟨rfl, rfl, rfl, by simp [World.setCell], fun k hk hne => Below.heap_setCell _ _ _ _ (by intro e; subst e; exact hne rfl)⟩
theorem cell_grow {w w' : World} {o : Option Nat} {b i : Nat} {v : Value} (hg : w.grownBy w' o) (h : w.cell? ⟨b, i, none⟩ = some v) (hne : o ≠ some b) : w'.cell? ⟨b, i, none⟩ = some v := by
  rw [← h]
  exact World.cell?_of_block (w := w) (a := ⟨b, i, none⟩) (hg.block b (World.block_lt_of_cell? w _ h) (fun e => hne e.symm))

theorem Ev.Rd.frm {B n : Nat} {T : Nat → Prop} {w w' : World} {x : Ev} (h : x.Rd B w) (hF : Frm n T w w') (hn : w.heap.size ≤ n) (ho : 0 < x.sl.length → ∀ b o, x.sa = some ⟨b, o, none⟩ → ¬ T b) : x.Rd B w' := by
  refine ⟨h.len, h.cap, ?_, ?_, h.lo⟩
  · rcases Nat.eq_zero_or_pos x.sl.length with h0 | h0
    · rw [List.eq_nil_of_length_eq_zero h0]; exact RdC.nil _ _
    · exact RdC.congr h.rd fun b o e2 hlt => hF.block b (by omega) (ho h0 b o e2)
  · intro h0
    obtain ⟨b, off, c, fr, ha, hb⟩ := h.ty h0
    exact ⟨b, off, c, fr, ha, (hF.block b (by have := lt_of_get hb; omega) (ho h0 b off ha)).trans hb⟩

end Go.Proofs.Ythgaghpakioglaa
