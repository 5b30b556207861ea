/- '[]T{x}' of a row. -/
import Derived.Test.YthgaghpakioglaaLib
import Derived.Great.BuildSlice
namespace Go.Proofs.Ythgaghpakioglaa
set_option linter.unusedSimpArgs false
set_option linter.unusedVariables false
open Go.RowKit
set_option maxRecDepth 10000

/-- '[]T{x}' of a row. -/
theorem build_one_cells {P : Program} {ops : Array Oper} {o : Oper} {a : Act} {w : World} {K : Act → World → Prop} {Q : Exit → Act → World → Prop} (T e : TypeId) (x : Operand) (ho : o.op = .buildSlice T 1 #[(0, x)]) (hu : P.underlying T = some (.slice e)) (cs : List Value) (hx : a.eval x = .agg cs.toArray)
    (ie : TypeInfo) (zv : Value) (hie : P.info? e = some ie) (hzz : ie.zero = some zv) (hsz : ie.size = cs.length) (h0 : 0 < cs.length) (hb : cs.length ≤ 1000)
    (h : ∀ w1, w1.heap[w.heap.size]? = some (.cells cs.toArray e (0, 0)) → Below w.heap.size w w1 → w1.heap.size = w.heap.size + 1 → K (a.put o.dst (.slice (some ⟨w.heap.size, 0, none⟩) 1 1)) w1) : Oper.wp P o a w K Q := by
  refine wp_buildSlice T e 1 #[(0, x)] ho cs.toArray ie zv hu hie hzz (by rw [hsz]; omega) (by rw [hsz]; omega) ?_ ?_
  · have hp : ((#[(0, x)] : Array (Nat × Operand)).map fun (i, y) => (i, a.eval y)).toList = (([Value.agg cs.toArray] : List Value).zipIdx 0).map fun y => (y.2, y.1) := by
      simp [hx]
    have hf := Great.fill_whole (s := cs.length) h0 [Value.agg cs.toArray] ((Array.range (1 * cs.length)).map (zv.cells[· % zv.cells.size]!)) (fun v hv => by rw [List.mem_singleton.1 hv]; simp [Value.cells]) (by simp)
    rw [hp, hsz]
    refine hf.trans ?_
    simp [Value.cells]
  · exact h _ (heap_alloc_new w _) ((Below.refl _ _).alloc (Nat.le_refl _) _) (by simp)
theorem step_build_one {P : Program} {ops : Array Oper} {o : Oper} {a : Act} {w : World} {K : Act → World → Prop} {Q : Exit → Act → World → Prop} {E : Prop} (hw : Region.wanted o (yielded ops a.tmps) = true) (T e : TypeId) (x : Operand) (ho : o.op = .buildSlice T 1 #[(0, x)]) (hu : P.underlying T = some (.slice e)) (cs : List Value) (hx : a.eval x = .agg cs.toArray)
    (ie : TypeInfo) (zv : Value) (hie : P.info? e = some ie) (hzz : ie.zero = some zv) (hsz : ie.size = cs.length) (h0 : 0 < cs.length) (hb : cs.length ≤ 1000)
    (h : ∀ w1, w1.heap[w.heap.size]? = some (.cells cs.toArray e (0, 0)) → Below w.heap.size w w1 → w1.heap.size = w.heap.size + 1 → K (a.put o.dst (.slice (some ⟨w.heap.size, 0, none⟩) 1 1)) w1) :
    if Region.wanted o (yielded ops a.tmps) = true then Oper.wp P o a w K Q else E := by
  rw [if_pos hw]; exact build_one_cells (ops := ops) T e x ho hu cs hx ie zv hie hzz hsz h0 hb h
theorem wpList_build_one {P : Program} {ops : Array Oper} {rest : List Oper} {o : Oper} {a : Act} {w : World} {Q : Exit → Act → World → Prop} (hg : o.guard = none) (T e : TypeId) (x : Operand) (ho : o.op = .buildSlice T 1 #[(0, x)]) (hu : P.underlying T = some (.slice e)) (cs : List Value) (hx : a.eval x = .agg cs.toArray)
    (ie : TypeInfo) (zv : Value) (hie : P.info? e = some ie) (hzz : ie.zero = some zv) (hsz : ie.size = cs.length) (h0 : 0 < cs.length) (hb : cs.length ≤ 1000)
    (h : ∀ w1, w1.heap[w.heap.size]? = some (.cells cs.toArray e (0, 0)) → Below w.heap.size w w1 → w1.heap.size = w.heap.size + 1 → wpList P ops Q rest (a.put o.dst (.slice (some ⟨w.heap.size, 0, none⟩) 1 1)) w1) : wpList P ops Q (o :: rest) a w :=
  wpList_plain hg fun K hK => build_one_cells (ops := ops) T e x ho hu cs hx ie zv hie hzz hsz h0 hb (fun w1 h1 h2 h3 => hK _ _ (h w1 h1 h2 h3))

end Go.Proofs.Ythgaghpakioglaa
