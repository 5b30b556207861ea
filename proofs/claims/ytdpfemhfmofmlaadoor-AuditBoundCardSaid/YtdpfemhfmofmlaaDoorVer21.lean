/- What AuditVerifies makes: a row put into a chain, three heads in one slice, the reference's log of one tenant. -/
import Derived.Test.YtdpfemhfmofmlaaDoorTurn21
import Derived.Test.YtdpfemhfmofmlaaDoorRAddW
import Derived.Test.YtdpfemhfmofmlaaDoorKitF
namespace Go.Proofs.YtdpfemhfmofmlaaDoor
set_option linter.unusedSimpArgs false
set_option linter.unusedVariables false
open Go.RowKit
set_option maxRecDepth 10000

theorem ents_put (xs : List Ent) (k : Nat) (hk : k < xs.length) (y : Ent) (hs : ∀ x ∈ xs, x.sum.length = 32) (hy : y.sum.length = 32) : splice (xs.flatMap Ent.cells) (k * 39) y.cells = (xs.set k y).flatMap Ent.cells := by
  have hl := Ent.cells_length hy
  rw [List.set_eq_take_append_cons_drop, if_pos hk, List.flatMap_append, List.flatMap_cons, ents_take _ _ hs, ents_drop xs (k + 1) hs]
  unfold splice
  rw [hl, Nat.add_mul]

/-- '[]T{x, y, z}' of three arrays. -/
theorem build_three_cells {P : Program} {ops : Array Oper} {o : Oper} {a : Act} {w : World} {K : Act → World → Prop} {Q : Exit → Act → World → Prop} (T e : TypeId) (x0 x1 x2 : Operand) (ho : o.op = .buildSlice T 3 #[(0, x0), (1, x1), (2, x2)]) (hu : P.underlying T = some (.slice e)) (s : Nat) (c0 c1 c2 : List Value)
    (l0 : c0.length = s) (l1 : c1.length = s) (l2 : c2.length = s) (h0' : a.eval x0 = .agg c0.toArray) (h1' : a.eval x1 = .agg c1.toArray) (h2' : a.eval x2 = .agg c2.toArray)
    (ie : TypeInfo) (zv : Value) (hie : P.info? e = some ie) (hzz : ie.zero = some zv) (hsz : ie.size = s) (h0 : 0 < s) (hb : s ≤ 1000)
    (h : ∀ w1, w1.heap[w.heap.size]? = some (.cells (c0 ++ c1 ++ c2).toArray e (0, 0)) → Below w.heap.size w w1 → w1.heap.size = w.heap.size + 1 → K (a.put o.dst (.slice (some ⟨w.heap.size, 0, none⟩) 3 3)) w1) : Oper.wp P o a w K Q := by
  refine wp_buildSlice T e 3 #[(0, x0), (1, x1), (2, x2)] ho (c0 ++ c1 ++ c2).toArray ie zv hu hie hzz (by rw [hsz]; omega) (by rw [hsz]; omega) ?_ ?_
  · have hp : ((#[(0, x0), (1, x1), (2, x2)] : Array (Nat × Operand)).map fun (i, y) => (i, a.eval y)).toList = (([Value.agg c0.toArray, Value.agg c1.toArray, Value.agg c2.toArray] : List Value).zipIdx 0).map fun y => (y.2, y.1) := by
      simp [h0', h1', h2']
    have hf := Great.fill_whole (s := s) h0 [Value.agg c0.toArray, Value.agg c1.toArray, Value.agg c2.toArray] ((Array.range (3 * s)).map (zv.cells[· % zv.cells.size]!)) (fun v hv => by
      simp at hv
      rcases hv with rfl | rfl | rfl <;> simp [Value.cells, l0, l1, l2]) (by simp)
    rw [hp, hsz]
    refine hf.trans ?_
    simp [Value.cells]
  · exact h _ (heap_alloc_new w _) ((Below.refl _ _).alloc (Nat.le_refl _) _) (by simp)
theorem step_build_three {P : Program} {ops : Array Oper} {o : Oper} {a : Act} {w : World} {K : Act → World → Prop} {Q : Exit → Act → World → Prop} {E : Prop} (hw : Region.wanted o (yielded ops a.tmps) = true) (T e : TypeId) (x0 x1 x2 : Operand) (ho : o.op = .buildSlice T 3 #[(0, x0), (1, x1), (2, x2)]) (hu : P.underlying T = some (.slice e)) (s : Nat) (c0 c1 c2 : List Value)
    (l0 : c0.length = s) (l1 : c1.length = s) (l2 : c2.length = s) (h0' : a.eval x0 = .agg c0.toArray) (h1' : a.eval x1 = .agg c1.toArray) (h2' : a.eval x2 = .agg c2.toArray)
    (ie : TypeInfo) (zv : Value) (hie : P.info? e = some ie) (hzz : ie.zero = some zv) (hsz : ie.size = s) (h0 : 0 < s) (hb : s ≤ 1000)
    (h : ∀ w1, w1.heap[w.heap.size]? = some (.cells (c0 ++ c1 ++ c2).toArray e (0, 0)) → Below w.heap.size w w1 → w1.heap.size = w.heap.size + 1 → K (a.put o.dst (.slice (some ⟨w.heap.size, 0, none⟩) 3 3)) w1) :
    if Region.wanted o (yielded ops a.tmps) = true then Oper.wp P o a w K Q else E := by
  rw [if_pos hw]; exact build_three_cells (ops := ops) T e x0 x1 x2 ho hu s c0 c1 c2 l0 l1 l2 h0' h1' h2' ie zv hie hzz hsz h0 hb h

theorem owns_span {w : World} {base e size : Nat} {v : Value} {n : Nat} {xs : List Value} (h : w.ownsRow base e size v n xs) : ∀ k, v.ownBlock = some k → base ≤ k ∧ k < w.heap.size := by
  intro k hk
  rcases h.2 with ⟨rfl, _⟩ | ⟨g', cap, cur, rfl, hg', hh, _⟩
  · cases hk
  · cases hk
    exact ⟨hg', (Array.getElem?_eq_some_iff.1 hh).1⟩
theorem sumInfo : (Tryd.prog.info? 26).map (fun i => (i.zero.map (·.cells), i.size)) = some (some (List.replicate 32 (Value.int .u8 0)).toArray, 32) := by kernel_rfl
theorem sumInfo_parts : ∃ i z, Tryd.prog.info? 26 = some i ∧ i.zero = some z ∧ i.size = 32 := by
  have h := sumInfo
  cases hi : Tryd.prog.info? 26 with
  | none => rw [hi] at h; cases h
  | some i =>
    rw [hi] at h
    simp only [Option.map_some, Option.some.injEq, Prod.mk.injEq] at h
    obtain ⟨h1, h2⟩ := h
    cases hz : i.zero with
    | none => rw [hz] at h1; cases h1
    | some z => exact ⟨i, z, rfl, hz, h2⟩

/-- While rows are added to the reference's log. -/
structure OneR (w : World) (m k : Nat) (wr : World) : Prop where
  out : ∃ (S : Nat → Prop) (cs : List RCh), RLogAt wr S m k cs ∧ (∀ j, S j → w.heap.size ≤ j) ∧ Below w.heap.size w wr ∧ ∀ s, ∀ x ∈ rowsOf cs s, ¬ x.big
theorem OneR.below {w wr w' : World} {m k : Nat} (h : OneR w m k wr) (hb : Below wr.heap.size wr w') : OneR w m k w' := by
  obtain ⟨S, cs, h1, h2, h3, h4⟩ := h.out
  exact ⟨⟨S, cs, h1.below hb, h2, h3.trans (hb.mono h3.size), h4⟩⟩
theorem oneRAdd (w : World) (m k : Nat) (s : ByteArray) (x : Ent) (wr : World) (h : OneR w m k wr) (hk : k ≤ 100000) (hx : x.Fit) (hxb : ¬ x.big) :
    Calls Tryd.prog 60 #[.pointer (some ⟨m, 0, none⟩), .string s, .agg x.cells.toArray] wr fun e w' => (∃ v, e = .returned v) ∧ OneR w m (k + 1) w' := by
  obtain ⟨S, cs, h1, h2, h3, h4⟩ := h.out
  refine (refAdd21 S m k cs s x _ wr h1 hk hx rfl).mono ?_
  rintro _ w' ⟨rfl, ⟨cs', hL, hcs⟩, hF⟩
  refine ⟨⟨_, rfl⟩, ⟨⟨_, cs', hL, ?_, h3.trans (hF.belowOf h3.size (fun j hj => h2 j hj)), ?_⟩⟩⟩
  · rintro j (hj | hj)
    · exact h2 j hj
    · have := h3.size; omega
  · intro t y hy
    rw [hcs t] at hy
    split at hy
    · rcases List.mem_append.1 hy with h5 | h5
      · exact h4 _ y h5
      · rw [List.mem_singleton.1 h5]; exact hxb
    · exact h4 t y hy
theorem oneRNew (w : World) : Calls Tryd.prog 59 #[] w fun e w' => ∃ m, e = .returned (.pointer (some ⟨m, 0, none⟩)) ∧ OneR w m 0 w' := by
  refine (refNew21 w).mono ?_
  rintro _ w' ⟨m, rfl, hL, hB⟩
  exact ⟨m, rfl, ⟨⟨_, _, hL, fun j hj => hj.1, hB, fun s x hx => (by cases hx)⟩⟩⟩
/-- All rows of the log, lent out as they lie. -/
theorem oneRAll (w : World) (m k : Nat) (s : ByteArray) (wr : World) (h : OneR w m k wr) (hk : k ≤ 100000) :
    Calls Tryd.prog 64 #[.pointer (some ⟨m, 0, none⟩), .string s] wr fun e w' => ∃ (l : List Ent) (a : Option Addr) (c : Nat), e = .returned (.slice a l.length c) ∧ l.length ≤ k ∧ (∀ x ∈ l, x.Fit ∧ ¬ x.big) ∧ RdC wr a (l.flatMap Ent.cells) ∧ wr = w' := by
  obtain ⟨S, cs, h1, h2, h3, h4⟩ := h.out
  obtain ⟨hfit, hlen⟩ := rows_fit h1 s
  refine (refAll21 S m k cs s wr h1 hk).mono ?_
  rintro _ w' ⟨a, c, rfl, _, hr, rfl⟩
  exact ⟨_, a, c, rfl, hlen, fun x hx => ⟨hfit x hx, h4 s x hx⟩, hr, rfl⟩

theorem oneRHead (w : World) (m k : Nat) (s : ByteArray) (wr : World) (h : OneR w m k wr) (hk : k ≤ 100000) :
    Calls Tryd.prog 66 #[.pointer (some ⟨m, 0, none⟩), .string s] wr fun e w' => ∃ P : List UInt8, e = .returned (.agg (bvs P).toArray) ∧ P.length = 32 ∧ Below wr.heap.size wr w' := by
  obtain ⟨S, cs, h1, h2, h3, h4⟩ := h.out
  obtain ⟨hfit, hlen⟩ := rows_fit h1 s
  refine (refHead21 S m k cs s _ wr h1 hk rfl).mono ?_
  rintro _ w' ⟨rfl, hB⟩
  exact ⟨_, rfl, headOf_length _ (fun x hx => (hfit x hx).ok), hB⟩
theorem heads_at {w : World} {z : Nat} {H P Z : List UInt8} (h : w.heap[z]? = some (.cells (bvs H ++ bvs P ++ bvs Z).toArray 26 (0, 0))) (hH : H.length = 32) (hP : P.length = 32) (hZ : Z.length = 32) (i : Nat) (hi : i < 3) : ∃ Q : List UInt8, Q.length = 32 ∧ w.rangeAt z (i * 32) (bvs Q) := by
  have lH : (bvs H).length = 32 := by rw [bvs_length, hH]
  have lP : (bvs P).length = 32 := by rw [bvs_length, hP]
  have lZ : (bvs Z).length = 32 := by rw [bvs_length, hZ]
  have hc : i = 0 ∨ i = 1 ∨ i = 2 := by omega
  rcases hc with rfl | rfl | rfl
  · refine ⟨H, hH, rangeAt_blk h _ _ ?_⟩
    rw [List.toList_toArray, lH, Nat.zero_mul, List.drop_zero, List.append_assoc, ← lH, List.take_left]
  · refine ⟨P, hP, rangeAt_blk h _ _ ?_⟩
    rw [List.toList_toArray, lP, Nat.one_mul, List.append_assoc]
    rw [show (bvs H ++ (bvs P ++ bvs Z)).drop 32 = bvs P ++ bvs Z by rw [← lH, List.drop_left]]
    rw [← lP, List.take_left]
  · refine ⟨Z, hZ, rangeAt_blk h _ _ ?_⟩
    rw [List.toList_toArray, lZ]
    rw [show (bvs H ++ bvs P ++ bvs Z).drop (2 * 32) = bvs Z by rw [show 2 * 32 = (bvs H ++ bvs P).length by rw [List.length_append, lH, lP], List.drop_left]]
    rw [← lZ, List.take_length]

abbrev HedS (wb : World) (z o : Nat) (P : List UInt8) (w' : World) : Prop := w'.rangeAt z o (bvs P) ∧ Below wb.heap.size wb w'
theorem hedS_below {wb w1 w2 : World} {z o : Nat} {P : List UInt8} (h : HedS wb z o P w1) (hb : Below w1.heap.size w1 w2) : HedS wb z o P w2 :=
  ⟨rangeAt_below h.1 hb (Nat.le_refl _), h.2.trans (hb.mono h.2.size)⟩

/-- A row put into a chain of one's own. -/
theorem owns_put {w w' : World} {base n c b : Nat} {cur : Array Value} {xs : List Ent} {y : Ent} {k : Nat} (hO : w.ownsRow base 73 39 (.slice (some ⟨b, 0, none⟩) n c) n (xs.flatMap Ent.cells)) (hxl : xs.length = n) (hs : ∀ x ∈ xs, x.sum.length = 32) (hy : y.sum.length = 32) (hk : k < n)
    (hcur : w.heap[b]? = some (.cells cur 73 (0, 0))) (hg : w'.heap[b]? = some (.cells (splice cur.toList (k * 39) y.cells).toArray 73 (0, 0))) : RdC w' (some ⟨b, 0, none⟩) ((xs.set k y).flatMap Ent.cells) := by
  have hyl := Ent.cells_length hy
  have hpre : ∀ i, i < n * 39 → cur.toList[i]? = (xs.flatMap Ent.cells)[i]? := fun i hi => by
    have hr := rdc_of_owns hO
    have hl := ents_length xs hs
    have h1 := hr.cell i (by rw [hl, hxl]; exact hi)
    rw [Nat.zero_add, cell_of_row w b i _ _ _ hcur] at h1
    rw [List.getElem?_eq_getElem (l := xs.flatMap Ent.cells) (by rw [hl, hxl]; exact hi), ← h1]
    simp
  have hcl : n * 39 ≤ cur.toList.length := by
    rcases Nat.lt_or_ge (cur.toList.length) (n * 39) with h | h
    · have h1 := hpre cur.toList.length h
      rw [List.getElem?_eq_none (Nat.le_refl _), List.getElem?_eq_getElem (by rw [ents_length xs hs, hxl]; exact h)] at h1
      cases h1
    · exact h
  have hk39 : k * 39 + 39 ≤ n * 39 := by omega
  have htk : cur.toList.take (n * 39) = xs.flatMap Ent.cells := by
    apply List.ext_getElem?
    intro i
    rw [List.getElem?_take]
    split
    · rename_i h; exact hpre i h
    · rename_i h; rw [List.getElem?_eq_none (by rw [ents_length xs hs, hxl]; omega)]
  have hsp : (splice cur.toList (k * 39) y.cells).take (n * 39) = (xs.set k y).flatMap Ent.cells := by
    rw [← ents_put xs k (by omega) y hs hy, ← htk]
    unfold splice
    have hA : (cur.toList.take (k * 39)).length = k * 39 := by rw [List.length_take]; omega
    rw [hyl, List.take_append, List.take_append, hA, hyl, List.take_take, List.take_take, List.drop_take]
    rw [Nat.min_eq_right (show k * 39 ≤ n * 39 by omega), Nat.min_eq_left (show k * 39 ≤ n * 39 by omega), List.take_of_length_le (show y.cells.length ≤ n * 39 - k * 39 by rw [hyl]; omega), Nat.sub_sub]
  rw [← hsp]
  exact rdc_take (rd_rowC hg) _

end Go.Proofs.YtdpfemhfmofmlaaDoor
