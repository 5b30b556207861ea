/- The tenants' chains of package audit, as they lie in memory: New, Head, Count, Add. -/
import Derived.Test.YtdpfemhfmofmlaaDoorAudR
import Derived.Test.YtdpfemhfmofmlaaDoorSMap
import Derived.Test.YtdpfemhfmofmlaaDoorApp3
import Derived.Great.BuildSlice
namespace Go.Proofs.YtdpfemhfmofmlaaDoor
set_option linter.unusedSimpArgs false
set_option linter.unusedVariables false
open Go.RowKit
set_option maxRecDepth 10000

/-- '[]T{x}' of a row. -/
theorem build_one_cells {P : Program} {ops : Array Oper} {o : Oper} {a : Act} {w : World} {K : Act → World → Prop} {Q : Exit → Act → World → Prop} (T e : TypeId) (x : Operand) (ho : o.op = .buildSlice T 1 #[(0, x)]) (hu : P.underlying T = some (.slice e)) (cs : List Value) (hx : a.eval x = .agg cs.toArray)
    (ie : TypeInfo) (zv : Value) (hie : P.info? e = some ie) (hzz : ie.zero = some zv) (hsz : ie.size = cs.length) (h0 : 0 < cs.length) (hb : cs.length ≤ 1000)
    (h : ∀ w1, w1.heap[w.heap.size]? = some (.cells cs.toArray e (0, 0)) → Below w.heap.size w w1 → w1.heap.size = w.heap.size + 1 → K (a.put o.dst (.slice (some ⟨w.heap.size, 0, none⟩) 1 1)) w1) : Oper.wp P o a w K Q := by
  refine wp_buildSlice T e 1 #[(0, x)] ho cs.toArray ie zv hu hie hzz (by rw [hsz]; omega) (by rw [hsz]; omega) ?_ ?_
  · have hp : ((#[(0, x)] : Array (Nat × Operand)).map fun (i, y) => (i, a.eval y)).toList = (([Value.agg cs.toArray] : List Value).zipIdx 0).map fun y => (y.2, y.1) := by
      simp [hx]
    have hf := Great.fill_whole (s := cs.length) h0 [Value.agg cs.toArray] ((Array.range (1 * cs.length)).map (zv.cells[· % zv.cells.size]!)) (fun v hv => by rw [List.mem_singleton.1 hv]; simp [Value.cells]) (by simp)
    rw [hp, hsz]
    refine hf.trans ?_
    simp [Value.cells]
  · exact h _ (heap_alloc_new w _) ((Below.refl _ _).alloc (Nat.le_refl _) _) (by simp)
theorem step_build_one {P : Program} {ops : Array Oper} {o : Oper} {a : Act} {w : World} {K : Act → World → Prop} {Q : Exit → Act → World → Prop} {E : Prop} (hw : Region.wanted o (yielded ops a.tmps) = true) (T e : TypeId) (x : Operand) (ho : o.op = .buildSlice T 1 #[(0, x)]) (hu : P.underlying T = some (.slice e)) (cs : List Value) (hx : a.eval x = .agg cs.toArray)
    (ie : TypeInfo) (zv : Value) (hie : P.info? e = some ie) (hzz : ie.zero = some zv) (hsz : ie.size = cs.length) (h0 : 0 < cs.length) (hb : cs.length ≤ 1000)
    (h : ∀ w1, w1.heap[w.heap.size]? = some (.cells cs.toArray e (0, 0)) → Below w.heap.size w w1 → w1.heap.size = w.heap.size + 1 → K (a.put o.dst (.slice (some ⟨w.heap.size, 0, none⟩) 1 1)) w1) :
    if Region.wanted o (yielded ops a.tmps) = true then Oper.wp P o a w K Q else E := by
  rw [if_pos hw]; exact build_one_cells (ops := ops) T e x ho hu cs hx ie zv hie hzz hsz h0 hb h
theorem wpList_build_one {P : Program} {ops : Array Oper} {rest : List Oper} {o : Oper} {a : Act} {w : World} {Q : Exit → Act → World → Prop} (hg : o.guard = none) (T e : TypeId) (x : Operand) (ho : o.op = .buildSlice T 1 #[(0, x)]) (hu : P.underlying T = some (.slice e)) (cs : List Value) (hx : a.eval x = .agg cs.toArray)
    (ie : TypeInfo) (zv : Value) (hie : P.info? e = some ie) (hzz : ie.zero = some zv) (hsz : ie.size = cs.length) (h0 : 0 < cs.length) (hb : cs.length ≤ 1000)
    (h : ∀ w1, w1.heap[w.heap.size]? = some (.cells cs.toArray e (0, 0)) → Below w.heap.size w w1 → w1.heap.size = w.heap.size + 1 → wpList P ops Q rest (a.put o.dst (.slice (some ⟨w.heap.size, 0, none⟩) 1 1)) w1) : wpList P ops Q (o :: rest) a w :=
  wpList_plain hg fun K hK => build_one_cells (ops := ops) T e x ho hu cs hx ie zv hie hzz hsz h0 hb (fun w1 h1 h2 h3 => hK _ _ (h w1 h1 h2 h3))

theorem entInfo : (Tryd.prog.info? 73).map (fun i => (i.zero.map (·.cells), i.size, i.bytes)) = some (some zEnt.cells.toArray, 39, 104) := by kernel_rfl
theorem entInfo_parts : ∃ i z, Tryd.prog.info? 73 = some i ∧ i.zero = some z ∧ i.size = 39 ∧ i.bytes = 104 ∧ z.cells = zEnt.cells.toArray := by
  have h := entInfo
  cases hi : Tryd.prog.info? 73 with
  | none => rw [hi] at h; cases h
  | some i =>
    rw [hi] at h
    simp only [Option.map_some, Option.some.injEq, Prod.mk.injEq] at h
    obtain ⟨h1, h2, h3⟩ := h
    cases hz : i.zero with
    | none => rw [hz] at h1; cases h1
    | some z => rw [hz] at h1; simp only [Option.map_some, Option.some.injEq] at h1; exact ⟨i, z, rfl, hz, h2, h3, h1⟩

theorem owns_block {w w' : World} {base e size : Nat} {v : Value} {n : Nat} {xs : List Value} (h : w.ownsRow base e size v n xs) (hb : ∀ k, v.ownBlock = some k → w'.heap[k]? = w.heap[k]?) : w'.ownsRow base e size v n xs := by
  refine ⟨h.1, ?_⟩
  rcases h.2 with h2 | ⟨g', cap, cur, hv, hg', hh, r⟩
  · exact .inl h2
  · exact .inr ⟨g', cap, cur, hv, hg', by rw [hb g' (by rw [hv]; rfl)]; exact hh, r⟩
theorem owns_base {w : World} {base base' e size : Nat} {v : Value} {n : Nat} {xs : List Value} (h : w.ownsRow base e size v n xs) (hb : base' ≤ base) : w.ownsRow base' e size v n xs := by
  refine ⟨h.1, ?_⟩
  rcases h.2 with h2 | ⟨g', cap, cur, hv, hg', r⟩
  · exact .inl h2
  · exact .inr ⟨g', cap, cur, hv, by omega, r⟩

/-- A row that fits. -/
structure Ent.Fit (x : Ent) : Prop where
  ok : x.Ok
  str : x.stream.size ≤ 4096
  sub : x.subject.size ≤ 4096
theorem rowOf_fit {xs : List Ent} {x : Ent} (hx : x.Fit) (hl : xs.length ≤ 1000000) : (rowOf xs x).Fit :=
  ⟨⟨⟨by show _ ≤ (xs.length : Int) + 1; omega, by show (xs.length : Int) + 1 ≤ _; omega⟩, hx.ok.clock, hx.ok.kind, hx.ok.code, hx.ok.id, hx.ok.stream, hx.ok.subject, Ent.next_length _ _⟩, hx.str, hx.sub⟩

/-- The tenants' chains at g: what each tenant's is; S: the blocks that they lie in. -/
structure LogAt (w : World) (S : Nat → Prop) (g cnt : Nat) (f : ByteArray → List Ent) : Prop where
  out : ∃ (b n : Nat) (fm : ByteArray → Option Value), w.heap[g]? = some (.cells #[.map (some b)] 137 (0, 0)) ∧ SMap Tryd.prog 9 w b n fm ∧ n ≤ cnt ∧ S b ∧
    (∀ s, fm s = none → f s = []) ∧ (∀ s v, fm s = some v → w.ownsRow 0 73 39 v (f s).length ((f s).flatMap Ent.cells) ∧ ∀ k, v.ownBlock = some k → S k) ∧
    (∀ s s' v v' k, fm s = some v → fm s' = some v' → v.ownBlock = some k → v'.ownBlock = some k → s = s')
  foot : S g
  low : ∀ k, S k → k < w.heap.size
  rows : ∀ s, ∀ x ∈ f s, x.Fit
  len : ∀ s, (f s).length ≤ cnt

theorem LogAt.frm {w w' : World} {S T : Nat → Prop} {g cnt : Nat} {f : ByteArray → List Ent} (h : LogAt w S g cnt f) (hF : Frm w.heap.size T w w') (hd : ∀ k, S k → ¬ T k) : LogAt w' S g cnt f := by
  obtain ⟨b, n, fm, h1, h2, h3, h4, h5, h6, h7⟩ := h.out
  have hb : ∀ k, S k → w'.heap[k]? = w.heap[k]? := fun k hk => hF.block k (h.low k hk) (hd k hk)
  exact ⟨⟨b, n, fm, (hb g h.foot).trans h1, h2.block (hb b h4), h3, h4, h5, fun s v hv => ⟨owns_block (h6 s v hv).1 (fun k hk => hb k ((h6 s v hv).2 k hk)), (h6 s v hv).2⟩, h7⟩, h.foot, fun k hk => Nat.lt_of_lt_of_le (h.low k hk) hF.size, h.rows, h.len⟩
theorem LogAt.below {w w' : World} {S : Nat → Prop} {g cnt : Nat} {f : ByteArray → List Ent} (h : LogAt w S g cnt f) (hB : Below w.heap.size w w') : LogAt w' S g cnt f :=
  h.frm (T := fun _ => False) (Frm.ofBelow hB) (fun _ _ => id)

/-- What a look-up of a tenant's chain yields. -/
theorem LogAt.chain {w : World} {S : Nat → Prop} {g cnt : Nat} {f : ByteArray → List Ent} (h : LogAt w S g cnt f) (s : ByteArray) (hs : s.size ≤ maxLen) : ∃ (b : Nat) (a : Option Addr) (c : Nat), w.heap[g]? = some (.cells #[.map (some b)] 137 (0, 0)) ∧
    (∀ w' : World, Below w.heap.size w w' → (Instr.lookup 135 (.map (some b)) (.string s) false).run Tryd.prog w' = .ok (.slice a (f s).length c) w') ∧ RdC w a ((f s).flatMap Ent.cells) ∧ (f s).length ≤ c ∧ c ≤ maxLen := by
  obtain ⟨b, n, fm, h1, h2, h3, h4, h5, h6, h7⟩ := h.out
  cases hf : fm s with
  | none =>
    refine ⟨b, none, 0, h1, fun w' hB => ?_, by rw [h5 s hf]; exact RdC.nil _ _, by rw [h5 s hf]; exact Nat.le_refl _, by unfold maxLen; omega⟩
    rw [(h2.below hB (h.low b h4)).lookup Tryd.underlying9 Tryd.underlying135 (z := .slice none 0 0) (by kernel_rfl) s hs, hf, h5 s hf]
    rfl
  | some v =>
    have ho := (h6 s v hf).1
    obtain ⟨a, c, rfl, hc, hm, _⟩ := owns_slice ho
    refine ⟨b, a, c, h1, fun w' hB => ?_, rdc_of_owns ho, hc, hm⟩
    rw [(h2.below hB (h.low b h4)).lookup Tryd.underlying9 Tryd.underlying135 (z := .slice none 0 0) (by kernel_rfl) s hs, hf]
    rfl

set_option maxHeartbeats 400000 in
theorem auditNew (w : World) : Calls Tryd.prog 71 #[] w fun e w' => ∃ g, e = .returned (.pointer (some ⟨g, 0, none⟩)) ∧ LogAt w' (fun k => w.heap.size ≤ k ∧ k < w'.heap.size) g 0 (fun _ => []) ∧ Below w.heap.size w w' := by
  have hmm := @run_makeMap Tryd.prog
  go_enter Tryd.func71, Tryd.ntmps71
  (repeat' ((fail_if_success at_builtin); first | go_values | go_skip | go_guarded | go_step | go_upon))
  go_ret
  have hm := SMap.made Tryd.prog 9 w
  have hs1 : (w.alloc (.map #[] 0)).heap.size = w.heap.size + 1 := by simp
  refine ⟨w.heap.size + 1, rfl, ⟨⟨w.heap.size, 0, fun _ => none, ?_, hm.alloc _, Nat.le_refl _, ⟨Nat.le_refl _, by simp; omega⟩, fun _ _ => rfl, fun s v e => (by cases e), fun s s' v v' k e => (by cases e)⟩, ⟨by omega, by simp⟩, fun k hk => hk.2, fun s x hx => (by cases hx), fun _ => Nat.le_refl _⟩, ((Below.refl _ _).alloc (Nat.le_refl _) _).alloc (by simp) _⟩
  have h := heap_alloc_new (w.alloc (.map #[] 0)) (.cells #[.map (some w.heap.size)] 137)
  rw [hs1] at h
  exact h

set_option maxHeartbeats 1000000 in
theorem auditHead (S : Nat → Prop) (g cnt : Nat) (f : ByteArray → List Ent) (s : ByteArray) (H : List UInt8) (w : World) (h : LogAt w S g cnt f) (hs : s.size ≤ maxLen) (hc : cnt ≤ 100000) (hH : headOf (f s) = H) :
    Calls Tryd.prog 73 #[.pointer (some ⟨g, 0, none⟩), .string s] w fun e w' => e = .returned (.agg (bvs H).toArray) ∧ Below w.heap.size w w' := by
  obtain ⟨iS, zS, hiS, hzS, hcS⟩ := fresh_parts zeroSum
  have HIS := Lib.hid hiS; clear hiS
  have HZS := Lib.hid hzS; clear hzS
  have HCS := Lib.hid hcS; clear hcS
  have hok : ∀ x ∈ f s, x.Ok := fun x hx => (h.rows s x hx).ok
  have hHl : (bvs H).length = 32 := by rw [bvs_length, ← hH]; exact headOf_length _ hok
  have HIH := Lib.hid (show (Tryd.prog.info? 26).map (·.size) = some (bvs H).length by rw [hHl]; exact sizeSum)
  have HFH := Lib.hid (show 0 + (bvs H).length ≤ (List.replicate 32 (Value.int .u8 0)).toArray.size by rw [hHl]; simp)
  have HHO := Lib.hid (bvs_oneCell H)
  have HHL := Lib.hid hHl; clear hHl
  obtain ⟨b, a, c, hg, hl, hr, hc1, hc2⟩ := h.chain s hs
  have hlen := h.len s
  have hglt := (Array.getElem?_eq_some_iff.1 hg).1
  obtain ⟨xs, hxs⟩ : ∃ xs, f s = xs := ⟨_, rfl⟩
  rw [hxs] at hl hr hc1 hok hlen hH
  clear hxs h
  have c0 : w.cell? ⟨g, 0, none⟩ = some (.map (some b)) := cell_of_row w g 0 _ _ _ hg
  have HR := Lib.hid hr; clear hr
  have HH := Lib.hid hH; clear hH
  have HL := Lib.hid hl; clear hl
  have HOK := Lib.hid hok; clear hok
  clear hg
  go_enter Tryd.func73, Tryd.ntmps73
  (repeat' ((fail_if_success at_builtin); first | (first | ((with_reducible refine wpList_alloc_fresh (w := w) rfl 26 rfl _ iS zS HIS.out HZS.out HCS.out ?_); intro w1 hg1 hB1 hs1; have HG1 := Lib.hid hg1; clear hg1; have HS1 := Lib.hid hs1; clear hs1; have c1 := cell_below hB1 c0 (Nat.le_refl _); have hlk := HL.out w1 hB1)) | go_values | go_skip | go_guarded | go_step | go_upon))
  refine (chainHead a xs.length c xs H w1 HH.out (HR.out.below hB1 (Nat.le_refl _)) HOK.out rfl (by omega)).mono ?_
  rintro _ w2 ⟨rfl, hB2⟩
  dsimp only
  have hg2 := (hB2.block w.heap.size (by have := HS1.out; omega)).trans HG1.out
  have HG2 := Lib.hid hg2; clear hg2
  clear hlk c0 c1
  have hB02 : Below w.heap.size w w2 := hB1.trans (hB2.mono hB1.size)
  (repeat' ((fail_if_success at_builtin); first | (((with_reducible refine wpList_store_blk rfl 26 _ _ rfl w.heap.size 0 (bvs H) rfl rfl _ _ HG2.out HFH.out HIH.out HHO.out ?_); intro w3 hg3 hG3; rw [splice_whole _ _ (by rw [HHL.out];simp)] at hg3; have HG3 := Lib.hid hg3; clear hg3)) | go_values | go_skip | go_guarded | go_step | go_upon))
  have hR := run_loadVar_mid (P := Tryd.prog) w3 w.heap.size 0 26 (bvs H) _ (rangeAt_whole HG3.out) Tryd.underlying26 rfl HIH.out
  have HR2 := Lib.hid hR; clear hR
  exact bodyPost_ret (results_cell rfl _ _ _ ⟨w.heap.size, 0, none⟩ rfl _ HR2.out) rfl ⟨rfl, hB02.grown hG3 hB02.size (fun k e => by cases e; exact Nat.le_refl _)⟩

set_option maxHeartbeats 1000000 in
theorem auditCount (S : Nat → Prop) (g cnt : Nat) (f : ByteArray → List Ent) (s : ByteArray) (w : World) (h : LogAt w S g cnt f) (hs : s.size ≤ maxLen) (hc : cnt ≤ 100000) :
    Calls Tryd.prog 74 #[.pointer (some ⟨g, 0, none⟩), .string s] w fun e w' => e = .returned (.int .i64 ((f s).length : Int)) ∧ w = w' := by
  obtain ⟨b, a, c, hg, hl, hr, hc1, hc2⟩ := h.chain s hs
  have hlen := h.len s
  obtain ⟨xs, hxs⟩ : ∃ xs, f s = xs := ⟨_, rfl⟩
  rw [hxs] at hl hr hc1 hlen
  rw [hxs]
  clear hxs h
  have c0 : w.cell? ⟨g, 0, none⟩ = some (.map (some b)) := cell_of_row w g 0 _ _ _ hg
  have hlk := hl w (Below.refl _ _)
  clear hg hl hr
  go_enter Tryd.func74, Tryd.ntmps74
  (repeat' ((fail_if_success at_builtin); first | go_values | go_skip | go_guarded | go_step | go_upon))
  go_ret
  exact ⟨rfl, rfl⟩

/-- The chain behind a row that is added. -/
def lput (f : ByteArray → List Ent) (s : ByteArray) (l : List Ent) : ByteArray → List Ent := fun t => if t = s then l else f t
theorem lput_same (f : ByteArray → List Ent) (s : ByteArray) (l : List Ent) : lput f s l s = l := if_pos rfl
theorem lput_other (f : ByteArray → List Ent) (s t : ByteArray) (l : List Ent) (h : t ≠ s) : lput f s l t = f t := if_neg h

end Go.Proofs.YtdpfemhfmofmlaaDoor
