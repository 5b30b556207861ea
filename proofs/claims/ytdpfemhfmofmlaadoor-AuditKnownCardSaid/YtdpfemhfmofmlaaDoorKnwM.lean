/- The rows of AuditKnown, and what verifying them answers (no walk). -/
import Derived.Test.YtdpfemhfmofmlaaDoorTurnM
import Derived.Test.YtdpfemhfmofmlaaDoorHolM
import Derived.Test.YtdpfemhfmofmlaaDoorRunM
import Derived.Test.YtdpfemhfmofmlaaDoorVerM
namespace Go.Proofs.YtdpfemhfmofmlaaDoor
set_option linter.unusedSimpArgs false
set_option linter.unusedVariables false
open Go.RowKit
set_option maxRecDepth 10000

def k1Ent : Ent := { zEnt with clock := 6, kind := 1, code := 23, stream := ⟨#[108, 111, 103]⟩, subject := ⟨#[98, 111, 98]⟩ }
def k2Sum : List UInt8 := 1 :: List.replicate 31 0
def k2Ent : Ent := { zEnt with no := 9, sum := k2Sum }
def kL : List Ent := [w0Ent, k1Ent, k2Ent]
theorem k1_fit : k1Ent.Fit := ⟨⟨by unfold I64; decide, by unfold I64; decide, by unfold I64; decide, by unfold I64; decide, by unfold I64; decide, by unfold maxLen; decide, by unfold maxLen; decide, rfl⟩, by decide, by decide⟩
theorem k2_fit : k2Ent.Fit := ⟨⟨by unfold I64; decide, by unfold I64; decide, by unfold I64; decide, by unfold I64; decide, by unfold I64; decide, by unfold maxLen; decide, by unfold maxLen; decide, rfl⟩, by decide, by decide⟩
theorem kL_fit : ∀ x ∈ kL, x.Fit := by
  intro x hx
  simp [kL] at hx
  rcases hx with rfl | rfl | rfl
  · exact w0_fit
  · exact k1_fit
  · exact k2_fit
def kr0 : Ent := rowOf [] w0Ent
def kr1 : Ent := rowOf [kr0] k1Ent
def kr2 : Ent := rowOf [kr0, kr1] k2Ent
def kt1 : Ent := { kr1 with clock := 7 }
theorem kR_eq : addAll kL = [kr0, kr1, kr2] := rfl
theorem kr1_clock : kr1.clock = 6 := rfl
theorem kR_told : told [kr0, kr1, kr2] 1 9 = [kr0, kr1, kr2] := by
  have h1 : toldLo 3 1 = 0 := by decide
  have h2 : toldN 3 1 9 = 3 := by decide
  unfold told
  show (([kr0, kr1, kr2] : List Ent).drop (toldLo 3 1)).take (toldN 3 1 9) = _
  rw [h1, h2]
  rfl
theorem kr_head_ne : decide (kr0.sum = kr2.sum) = false := by kernel_rfl
theorem kt_row_ne : decide ((rowOf [kr0] kt1).sum = kr1.sum) = false := by kernel_rfl
theorem kn_ver1 : verify [kr0] kr2.sum = (2, 24) := by
  unfold verify
  rw [verGo, if_pos (show rowOf [] kr0 = kr0 from rfl), verGo, if_neg (show ¬ headOf ([] ++ [kr0]) = kr2.sum from fun h => by
    rw [headOf_snoc] at h
    have := kr_head_ne
    rw [decide_eq_true h] at this
    cases this)]
  rfl
theorem kn_ver2 : verify [kr0, kt1, kr2] kr2.sum = (2, 24) := by
  unfold verify
  rw [verGo, if_pos (show rowOf [] kr0 = kr0 from rfl), verGo, if_neg (show ¬ rowOf ([] ++ [kr0]) kt1 = kt1 from fun h => by
    have h3 : rowOf [kr0] kt1 = kt1 := h
    have h2 : (rowOf [kr0] kt1).sum = kr1.sum := (congrArg Ent.sum h3).trans (show kt1.sum = kr1.sum from rfl)
    have := kt_row_ne
    rw [decide_eq_true h2] at this
    cases this)]
  rfl
theorem kt1_cells : [kr0, kt1, kr2].flatMap Ent.cells = ([kr0, kr1, kr2].flatMap Ent.cells).set 40 (.int .i64 7) := by
  have h0 : kr0.cells.length = 39 := Ent.cells_length (wdig_length _)
  simp only [List.flatMap_cons, List.flatMap_nil, List.append_nil]
  rw [List.set_append_right _ _ (by rw [h0]; decide), h0, List.set_append_left _ _ (by rw [show kr1.cells.length = 39 from Ent.cells_length (wdig_length _)]; decide)]
  rfl
theorem kR_take : ([kr0, kr1, kr2].flatMap Ent.cells).take 39 = [kr0].flatMap Ent.cells := by
  have h0 : kr0.cells.length = 39 := Ent.cells_length (wdig_length _)
  simp only [List.flatMap_cons, List.flatMap_nil, List.append_nil]
  rw [← h0, List.take_left]
theorem kR_clock : ([kr0, kr1, kr2].flatMap Ent.cells)[40]? = some (.int .i64 6) := by
  have h := ents_get [kr0, kr1, kr2] (by
    intro x hx
    simp at hx
    rcases hx with rfl | rfl | rfl <;> exact wdig_length _) 1 (by decide) 1 (by decide)
  exact h.trans rfl
theorem rdc_set {w : World} {b : Nat} {l : List Value} (h : RdC w (some ⟨b, 0, none⟩) l) (i : Nat) (hi : i < l.length) (v : Value) : RdC (w.setCell ⟨b, i, none⟩ v) (some ⟨b, 0, none⟩) (l.set i v) := by
  refine ⟨fun j hj => ⟨b, 0, rfl, ?_⟩⟩
  rw [List.length_set] at hj
  rw [Nat.zero_add]
  by_cases e : i = j
  · subst e
    have h1 := h.cell i hi
    rw [Nat.zero_add] at h1
    rw [World.cell?_setCell_same' _ _ _ (by rw [h1]; rfl), List.getElem?_set_self hi]
  · have h1 := h.cell j hj
    rw [Nat.zero_add] at h1
    rw [World.cell?_setCell_other _ _ _ _ (show (⟨b, i, none⟩ : Addr) ≠ ⟨b, j, none⟩ from fun e2 => e (by cases e2; rfl)), h1, List.getElem?_set_ne e, List.getElem?_eq_getElem hj]
theorem exec_build {P : Program} {o : Oper} {ev : Operand → Value} {w : World} {ty : TypeId} {xs : Array (Nat × Operand)} {v : Value} (ho : o.op = .build ty xs) (hr : (Instr.build ty (xs.map fun (i, x) => (i, ev x))).run P w = .ok v w) : (execOp ev o).run P w = .ok (.value v) w := by
  unfold execOp
  rw [ho]
  simp [hr]
abbrev OnlyS (wb : World) (w' : World) : Prop := True ∧ Below wb.heap.size wb w'
theorem onlys_below {wb w1 w2 : World} (h : OnlyS wb w1) (hb : Below w1.heap.size w1 w2) : OnlyS wb w2 := ⟨trivial, h.2.trans (hb.mono h.2.size)⟩
def kNums : List Int := [-9223372036854775808, -1, 0, 1, 2, 3, 4, 63, 64, 65, 150, 9223372036854775807]
theorem kNums_ok : ∀ v ∈ kNums, I64 v := by
  intro v hv
  simp [kNums] at hv
  rcases hv with rfl | rfl | rfl | rfl | rfl | rfl | rfl | rfl | rfl | rfl | rfl | rfl <;> (unfold I64; decide)
theorem wpList_build_three {P : Program} {ops : Array Oper} {rest : List Oper} {o : Oper} {a : Act} {w : World} {Q : Exit → Act → World → Prop} (hg : o.guard = none) (T e : TypeId) (x0 x1 x2 : Operand) (ho : o.op = .buildSlice T 3 #[(0, x0), (1, x1), (2, x2)]) (hu : P.underlying T = some (.slice e)) (s : Nat) (c0 c1 c2 : List Value)
    (l0 : c0.length = s) (l1 : c1.length = s) (l2 : c2.length = s) (h0' : a.eval x0 = .agg c0.toArray) (h1' : a.eval x1 = .agg c1.toArray) (h2' : a.eval x2 = .agg c2.toArray)
    (ie : TypeInfo) (zv : Value) (hie : P.info? e = some ie) (hzz : ie.zero = some zv) (hsz : ie.size = s) (h0 : 0 < s) (hb : s ≤ 1000)
    (h : ∀ w1, w1.heap[w.heap.size]? = some (.cells (c0 ++ c1 ++ c2).toArray e (0, 0)) → Below w.heap.size w w1 → w1.heap.size = w.heap.size + 1 → wpList P ops Q rest (a.put o.dst (.slice (some ⟨w.heap.size, 0, none⟩) 3 3)) w1) : wpList P ops Q (o :: rest) a w :=
  wpList_plain hg fun K hK => build_three_cells (ops := ops) T e x0 x1 x2 ho hu s c0 c1 c2 l0 l1 l2 h0' h1' h2' ie zv hie hzz hsz h0 hb (fun w1 h1 h2 h3 => hK _ _ (h w1 h1 h2 h3))
theorem rwInfo : (Tryd.prog.info? 89).map (fun i => (i.zero.isSome, i.size)) = some (true, 42) := by kernel_rfl
theorem rwInfo_parts : ∃ i z, Tryd.prog.info? 89 = some i ∧ i.zero = some z ∧ i.size = 42 := by
  have h := rwInfo
  cases hi : Tryd.prog.info? 89 with
  | none => rw [hi] at h; cases h
  | some i =>
    rw [hi] at h
    simp only [Option.map_some, Option.some.injEq, Prod.mk.injEq] at h
    obtain ⟨h1, h2⟩ := h
    cases hz : i.zero with
    | none => rw [hz] at h1; cases h1
    | some z => exact ⟨i, z, rfl, hz, h2⟩

abbrev NumS (wb : World) (z i k m : Nat) (v u t : Int) (w' : World) : Prop := (w'.cell? ⟨z, i, none⟩ = some (.int .i64 v) ∧ w'.cell? ⟨z, k, none⟩ = some (.int .i64 u) ∧ w'.cell? ⟨z, m, none⟩ = some (.int .i64 t)) ∧ Below wb.heap.size wb w'
theorem nums_below {wb w1 w2 : World} {z i k m : Nat} {v u t : Int} (h : NumS wb z i k m v u t w1) (hb : Below w1.heap.size w1 w2) : NumS wb z i k m v u t w2 :=
  ⟨⟨cell_below hb h.1.1 (Nat.le_refl _), cell_below hb h.1.2.1 (Nat.le_refl _), cell_below hb h.1.2.2 (Nat.le_refl _)⟩, h.2.trans (hb.mono h.2.size)⟩
abbrev KnS (wb : World) (z i zl : Nat) (v : Int) (c0 c1 c2 : List Value) (w' : World) : Prop := (w'.cell? ⟨z, i, none⟩ = some (.int .i64 v) ∧ w'.rangeAt zl 0 c0 ∧ w'.rangeAt zl 39 c1 ∧ w'.rangeAt zl 78 c2) ∧ Below wb.heap.size wb w'
theorem kns_below {wb w1 w2 : World} {z i zl : Nat} {v : Int} {c0 c1 c2 : List Value} (h : KnS wb z i zl v c0 c1 c2 w1) (hb : Below w1.heap.size w1 w2) : KnS wb z i zl v c0 c1 c2 w2 :=
  ⟨⟨cell_below hb h.1.1 (Nat.le_refl _), rangeAt_below h.1.2.1 hb (Nat.le_refl _), rangeAt_below h.1.2.2.1 hb (Nat.le_refl _), rangeAt_below h.1.2.2.2 hb (Nat.le_refl _)⟩, h.2.trans (hb.mono h.2.size)⟩

end Go.Proofs.YtdpfemhfmofmlaaDoor

namespace Go.Proofs.YtdpfemhfmofmlaaDoor
set_option linter.unusedSimpArgs false
set_option linter.unusedVariables false
open Go.RowKit
set_option maxRecDepth 10000
--@PUT2

set_option maxHeartbeats 16000000 in
theorem auditKnown_walk (w : World) (hT : Tabs w) :
    Calls Tryd.prog 21 #[] w fun e w' => e = .returned (.bool true) ∧ Below w.heap.size w w' := by
  have hts := hT.size
  have HT := Lib.hid hT; clear hT
  obtain ⟨iE, zE, hiE, hzE, hsE, hbE, hcE⟩ := entInfo_parts
  have HIE := Lib.hid hiE; clear hiE
  have HZE := Lib.hid hzE; clear hzE
  have HSE := Lib.hid hsE; clear hsE hbE hcE
  obtain ⟨iR, zR, hiR, hzR, hsR⟩ := rwInfo_parts
  have HIR := Lib.hid hiR; clear hiR
  have HZR := Lib.hid hzR; clear hzR
  have HSR := Lib.hid hsR; clear hsR
  have hu73 : Tryd.prog.underlying 73 = some _ := Tryd.underlying73
  have hu26 : Tryd.prog.underlying 26 = some _ := Tryd.underlying26
  obtain ⟨c0, hc0⟩ : ∃ c0, w0Ent.cells = c0 := ⟨_, rfl⟩
  obtain ⟨c1, hc1⟩ : ∃ c1, k1Ent.cells = c1 := ⟨_, rfl⟩
  obtain ⟨c2, hc2⟩ : ∃ c2, k2Ent.cells = c2 := ⟨_, rfl⟩
  obtain ⟨kS, hkS⟩ : ∃ kS, bvs k2Sum = kS := ⟨_, rfl⟩
  have E0 := Lib.hid (show (#[.int .i64 0, .int .i64 5, .int .i64 2, .int .i64 0, .int .i64 1, .string ⟨#[]⟩, .string ⟨#[]⟩, .int .u8 0, .int .u8 0, .int .u8 0, .int .u8 0, .int .u8 0, .int .u8 0, .int .u8 0, .int .u8 0, .int .u8 0, .int .u8 0, .int .u8 0, .int .u8 0, .int .u8 0, .int .u8 0, .int .u8 0, .int .u8 0, .int .u8 0, .int .u8 0, .int .u8 0, .int .u8 0, .int .u8 0, .int .u8 0, .int .u8 0, .int .u8 0, .int .u8 0, .int .u8 0, .int .u8 0, .int .u8 0, .int .u8 0, .int .u8 0, .int .u8 0, .int .u8 0] : Array Value) = c0.toArray by rw [← hc0]; rfl)
  have E1 := Lib.hid (show (#[.int .i64 0, .int .i64 6, .int .i64 1, .int .i64 23, .int .i64 0, .string ⟨#[108, 111, 103]⟩, .string ⟨#[98, 111, 98]⟩, .int .u8 0, .int .u8 0, .int .u8 0, .int .u8 0, .int .u8 0, .int .u8 0, .int .u8 0, .int .u8 0, .int .u8 0, .int .u8 0, .int .u8 0, .int .u8 0, .int .u8 0, .int .u8 0, .int .u8 0, .int .u8 0, .int .u8 0, .int .u8 0, .int .u8 0, .int .u8 0, .int .u8 0, .int .u8 0, .int .u8 0, .int .u8 0, .int .u8 0, .int .u8 0, .int .u8 0, .int .u8 0, .int .u8 0, .int .u8 0, .int .u8 0, .int .u8 0] : Array Value) = c1.toArray by rw [← hc1]; rfl)
  have ES := Lib.hid (show (#[.int .u8 1, .int .u8 0, .int .u8 0, .int .u8 0, .int .u8 0, .int .u8 0, .int .u8 0, .int .u8 0, .int .u8 0, .int .u8 0, .int .u8 0, .int .u8 0, .int .u8 0, .int .u8 0, .int .u8 0, .int .u8 0, .int .u8 0, .int .u8 0, .int .u8 0, .int .u8 0, .int .u8 0, .int .u8 0, .int .u8 0, .int .u8 0, .int .u8 0, .int .u8 0, .int .u8 0, .int .u8 0, .int .u8 0, .int .u8 0, .int .u8 0, .int .u8 0] : Array Value) = kS.toArray by rw [← hkS]; rfl)
  have E2 := Lib.hid (show (#[.int .i64 9, .int .i64 0, .int .i64 0, .int .i64 0, .int .i64 0, .string ⟨#[]⟩, .string ⟨#[]⟩, .int .u8 1, .int .u8 0, .int .u8 0, .int .u8 0, .int .u8 0, .int .u8 0, .int .u8 0, .int .u8 0, .int .u8 0, .int .u8 0, .int .u8 0, .int .u8 0, .int .u8 0, .int .u8 0, .int .u8 0, .int .u8 0, .int .u8 0, .int .u8 0, .int .u8 0, .int .u8 0, .int .u8 0, .int .u8 0, .int .u8 0, .int .u8 0, .int .u8 0, .int .u8 0, .int .u8 0, .int .u8 0, .int .u8 0, .int .u8 0, .int .u8 0, .int .u8 0] : Array Value) = c2.toArray by rw [← hc2]; rfl)
  have EA := Lib.hid (show (#[.int .i64 0, .int .i64 5, .int .i64 2, .int .i64 0, .int .i64 1, .string ⟨#[]⟩, .string ⟨#[]⟩, .int .u8 0, .int .u8 0, .int .u8 0, .int .u8 0, .int .u8 0, .int .u8 0, .int .u8 0, .int .u8 0, .int .u8 0, .int .u8 0, .int .u8 0, .int .u8 0, .int .u8 0, .int .u8 0, .int .u8 0, .int .u8 0, .int .u8 0, .int .u8 0, .int .u8 0, .int .u8 0, .int .u8 0, .int .u8 0, .int .u8 0, .int .u8 0, .int .u8 0, .int .u8 0, .int .u8 0, .int .u8 0, .int .u8 0, .int .u8 0, .int .u8 0, .int .u8 0, .int .i64 0, .int .i64 6, .int .i64 1, .int .i64 23, .int .i64 0, .string ⟨#[108, 111, 103]⟩, .string ⟨#[98, 111, 98]⟩, .int .u8 0, .int .u8 0, .int .u8 0, .int .u8 0, .int .u8 0, .int .u8 0, .int .u8 0, .int .u8 0, .int .u8 0, .int .u8 0, .int .u8 0, .int .u8 0, .int .u8 0, .int .u8 0, .int .u8 0, .int .u8 0, .int .u8 0, .int .u8 0, .int .u8 0, .int .u8 0, .int .u8 0, .int .u8 0, .int .u8 0, .int .u8 0, .int .u8 0, .int .u8 0, .int .u8 0, .int .u8 0, .int .u8 0, .int .u8 0, .int .u8 0, .int .u8 0, .int .i64 9, .int .i64 0, .int .i64 0, .int .i64 0, .int .i64 0, .string ⟨#[]⟩, .string ⟨#[]⟩, .int .u8 1, .int .u8 0, .int .u8 0, .int .u8 0, .int .u8 0, .int .u8 0, .int .u8 0, .int .u8 0, .int .u8 0, .int .u8 0, .int .u8 0, .int .u8 0, .int .u8 0, .int .u8 0, .int .u8 0, .int .u8 0, .int .u8 0, .int .u8 0, .int .u8 0, .int .u8 0, .int .u8 0, .int .u8 0, .int .u8 0, .int .u8 0, .int .u8 0, .int .u8 0, .int .u8 0, .int .u8 0, .int .u8 0, .int .u8 0, .int .u8 0, .int .u8 0] : Array Value) = (c0 ++ c1 ++ c2).toArray by rw [← hc0, ← hc1, ← hc2]; rfl)
  have l0 : c0.length = 39 := by rw [← hc0]; rfl
  have l1 : c1.length = 39 := by rw [← hc1]; rfl
  have l2 : c2.length = 39 := by rw [← hc2]; rfl
  have HC0 := Lib.hid hc0
  have HC1 := Lib.hid hc1
  have HC2 := Lib.hid hc2
  have HL0 := Lib.hid l0
  have HL1 := Lib.hid l1
  have HL2 := Lib.hid l2
  clear hc0 hc1 hc2 hkS l0 l1 l2
  go_enter Tryd.func21, Tryd.ntmps21
  (repeat' ((fail_if_success at_builtin); first | go_values | go_skip | go_guarded | go_step | go_upon))
  rw [EA.out, E0.out, E1.out, ES.out, E2.out]
  obtain ⟨zl, hzl⟩ : ∃ zl, w.heap.size = zl := ⟨_, rfl⟩
  obtain ⟨wl, hwl⟩ : ∃ wl, w.alloc (.cells (c0 ++ c1 ++ c2).toArray 73) = wl := ⟨_, rfl⟩
  have hgl : wl.heap[zl]? = some (.cells (c0 ++ c1 ++ c2).toArray 73 (0, 0)) := by rw [← hwl, ← hzl]; exact heap_alloc_new w _
  have hBl : Below w.heap.size w wl := by rw [← hwl]; exact (Below.refl _ _).alloc (Nat.le_refl _) _
  rw [hwl, hzl]
  have HGL2 := Lib.hid hgl
  have hzll : zl < wl.heap.size := (Array.getElem?_eq_some_iff.1 hgl).1
  clear hgl hzl hwl E0 E1 ES E2 EA
  obtain ⟨L, hL⟩ : ∃ L, kL = L := ⟨_, rfl⟩
  have hLl : L.length = 3 := by rw [← hL]; rfl
  have hflat : L.flatMap Ent.cells = c0 ++ c1 ++ c2 := by rw [← hL, ← HC0.out, ← HC1.out, ← HC2.out]; simp [kL]
  have HRL := Lib.hid (show RdC wl (some ⟨zl, 0, none⟩) (L.flatMap Ent.cells) by rw [hflat]; exact rd_rowC HGL2.out)
  have HFIT := Lib.hid (show ∀ x ∈ L, x.Fit by rw [← hL]; exact kL_fit)
  have HSUM := Lib.hid (show ∀ x ∈ L, x.sum.length = 32 from fun x hx => (HFIT.out x hx).ok.sum)
  have HLL := Lib.hid hLl
  have HLE := Lib.hid hL
  have HFL := Lib.hid hflat
  have HTL := Lib.hid (HT.out.below hBl hts)
  have htsl := HTL.out.size
  clear hLl hL hflat
  refine (oneNew wl).mono ?_
  rintro _ w1 ⟨g, rfl, hL1⟩
  dsimp only
  have HL := Lib.hid (hL1 annBA); clear hL1
  (repeat' ((fail_if_success at_builtin); first | go_values | go_skip | go_guarded | go_step | go_upon))
  go_loopw [3] (fun i wr => ∃ k : Nat, k ≤ 3 ∧ i = .int .i64 k ∧ OneLog wl g annBA (L.take k) wr) (fun i _ => 3 - (intOf i).toNat)
  case atStart => exact ⟨0, by omega, rfl, HL.out⟩
  case round =>
    obtain ⟨k, hk, rfl, hL⟩ := hrel
    have HL := Lib.hid hL; clear hL
    by_cases hlt : k < 3
    · have hBr : Below wl.heap.size wl wr := by obtain ⟨S, f, h1, h2, h3, h4⟩ := HL.out.out; exact h4
      obtain ⟨b, off, hba, hra⟩ := ents_at HRL.out HSUM.out k (by rw [HLL.out]; exact hlt)
      cases hba
      have hkL : k < L.length := by rw [HLL.out]; exact hlt
      have HX := Lib.hid (List.getElem_mem hkL)
      have HSN := Lib.hid (show L.take (k + 1) = L.take k ++ [L[k]] from List.take_succ_eq_append_getElem hkL)
      have HTK := Lib.hid (show (L.take k).length ≤ 100000 by rw [List.length_take]; omega)
      generalize L[k] = x at *
      rw [Nat.zero_add] at hra
      have HRA := Lib.hid (rangeAt_below hra hBr (Nat.le_refl _)); clear hra
      have HIX := Lib.hid (show (Tryd.prog.info? 73).map (·.size) = some x.cells.length by rw [Ent.cells_length (HSUM.out x HX.out)]; exact entSize)
      have bk : (0 : Int) ≤ (k : Int) ∧ (k : Int) < 3 := by omega
      clear hkL
      (repeat' ((fail_if_success at_builtin); first | ((with_reducible refine wpList_load_mid rfl 73 _ rfl zl (k * 39) rfl x.cells _ HRA.out hu73 rfl HIX.out ?_)) | go_values | go_skip | go_guarded | go_step | go_upon))
      refine (oneAdd wl g annBA (L.take k) x wr HL.out HTL.out annBA_le HTK.out (HFIT.out x HX.out)).mono ?_
      rintro _ w2 ⟨⟨v, rfl⟩, hL2⟩
      dsimp only
      rw [← HSN.out] at hL2
      have HL2 := Lib.hid hL2; clear hL2
      (repeat' ((fail_if_success at_builtin); first | go_values | go_skip | go_guarded | go_step | go_upon))
      go_roundw
      case rel => exact ⟨k + 1, by omega, by go_num, HL2.out⟩
      case measure => simp [intOf]; omega
    obtain rfl : k = 3 := by omega
    rw [show ((3 : Nat) : Int) = 3 from rfl]
    have hL := HL.out
    rw [show L.take 3 = L from List.take_of_length_le (by rw [HLL.out]; exact Nat.le_refl _)] at hL
    obtain ⟨S, f, h1, h2, h3, hBr⟩ := hL.out
    rw [HLL.out] at h1
    rw [← HLE.out, kR_eq] at h2
    have hrfit := h1.rows annBA
    rw [h2] at hrfit
    have HLOG := Lib.hid h1
    have HF2 := Lib.hid h2
    have HRFIT := Lib.hid hrfit
    have HHP := Lib.hid (show headOf (f annBA) = kr2.sum by rw [h2]; rfl)
    have HRT := Lib.hid (show told (f annBA) 1 9 = [kr0, kr1, kr2] by rw [h2]; exact kR_told)
    clear h1 h2 h3 hrfit hL HL
    (repeat' ((fail_if_success at_builtin); first | go_values | go_skip | go_guarded | go_step | go_upon))
    refine (auditRows S g 3 f annBA 1 9 wr HLOG.out annBA_le (by omega) ⟨by omega, by omega⟩ ⟨by omega, by omega⟩).mono ?_
    rw [HRT.out]
    obtain ⟨rs, hrs⟩ : ∃ rs, [kr0, kr1, kr2] = rs := ⟨_, rfl⟩
    have hrl : rs.length = 3 := by rw [← hrs]; rfl
    rw [hrs] at HRFIT HF2 ⊢
    have HRS := Lib.hid hrs; clear hrs
    rintro _ w4 ⟨a4, c4, rfl, hc4, hm4, hr4, hB4, hO4⟩
    dsimp only
    rw [hrl] at hc4 hO4 ⊢
    have HR4 := Lib.hid hr4
    have HO4 := Lib.hid hO4
    have HRL3 := Lib.hid hrl
    clear hr4 hO4 hrl
    have hBl4 : Below wl.heap.size wl w4 := hBr.trans (hB4.mono hBr.size)
    obtain ⟨nm, hnm⟩ : ∃ nm, kNums = nm := ⟨_, rfl⟩
    have hnl : nm.length = 12 := by rw [← hnm]; rfl
    (repeat' ((fail_if_success at_builtin); first | go_values | go_skip | go_guarded | go_step | go_upon))
    obtain ⟨zn, hzn⟩ : ∃ z, w4.heap.size = z := ⟨_, rfl⟩
    obtain ⟨wN, hwN⟩ : ∃ wN, w4.alloc (.cells #[.int .i64 (-9223372036854775808), .int .i64 (-1), .int .i64 0, .int .i64 1, .int .i64 2, .int .i64 3, .int .i64 4, .int .i64 63, .int .i64 64, .int .i64 65, .int .i64 150, .int .i64 9223372036854775807] 3) = wN := ⟨_, rfl⟩
    rw [hwN, hzn]
    have hgN : wN.heap[zn]? = some (.cells (nm.map (Value.int .i64)).toArray 3 (0, 0)) := by rw [← hwN, ← hzn, ← hnm]; exact heap_alloc_new w4 _
    have hB4N : Below w4.heap.size w4 wN := by rw [← hwN]; exact (Below.refl _ _).alloc (Nat.le_refl _) _
    have hznl : zn < wN.heap.size := (Array.getElem?_eq_some_iff.1 hgN).1
    have hBlN : Below wl.heap.size wl wN := hBl4.trans (hB4N.mono hBl4.size)
    have HRN := Lib.hid (show RdC wN (some ⟨zn, 0, none⟩) (nm.map (Value.int .i64)) from rd_rowC hgN)
    have HR4N := Lib.hid (HR4.out.below hB4N (Nat.le_refl _))
    have HO4N := Lib.hid (owns_below HO4.out hB4N (Nat.le_refl _))
    have HRLN := Lib.hid (HRL.out.below hBlN (Nat.le_refl _))
    have HLGN := Lib.hid (HLOG.out.below (hB4.trans (hB4N.mono hB4.size)))
    have HNM := Lib.hid (show ∀ v ∈ nm, I64 v by rw [← hnm]; exact kNums_ok)
    have HNL := Lib.hid hnl
    have hr4s : wr.heap.size ≤ w4.heap.size := hB4.size
    have hBrN : Below wr.heap.size wr wN := hB4.trans (hB4N.mono hB4.size)
    obtain ⟨wr3, hwr3⟩ : ∃ x, wr = x := ⟨_, rfl⟩
    rw [hwr3] at hBrN HLOG HO4N hBr
    clear hwr3
    clear hgN hwN hzn hnm hnl hB4N HR4 HO4
    (repeat' ((fail_if_success at_builtin); first | go_values | go_skip | go_guarded | go_step | go_upon))
    go_loopw [6] (fun i wr => ∃ i0 : Nat, i0 ≤ 12 ∧ i = .int .i64 i0 ∧ Below wN.heap.size wN wr) (fun i _ => 12 - (intOf i).toNat)
    case atStart => exact ⟨0, by omega, rfl, Below.refl _ _⟩
    case round =>
      obtain ⟨i0, hi0, rfl, hBq⟩ := hrel
      have hBlq : Below wl.heap.size wl wr := hBlN.trans (hBq.mono hBlN.size)
      by_cases hlt : i0 < 12
      · have hv := HRN.out.cell i0 (by rw [List.length_map, HNL.out]; exact hlt)
        rw [List.getElem_map, Nat.zero_add] at hv
        have hvi := HNM.out (nm[i0]'(by rw [HNL.out]; exact hlt)) (List.getElem_mem _)
        generalize nm[i0]'(by rw [HNL.out]; exact hlt) = v at *
        have HV := Lib.hid hv
        have bi : (0 : Int) ≤ (i0 : Int) ∧ (i0 : Int) < 12 := by omega
        have HIV := Lib.hid (show I64 (i0 : Int) from ⟨by omega, by omega⟩)
        clear hv
        (repeat' ((fail_if_success at_builtin); first | go_values | go_skip | go_guarded | go_step | go_upon))
        go_loopw [7] (fun i wr => ∃ h : Nat, h ≤ 9 ∧ i = .int .i64 h ∧ Below wN.heap.size wN wr) (fun i _ => 9 - (intOf i).toNat)
        case atStart => exact ⟨0, by omega, rfl, hBq⟩
        case round =>
          obtain ⟨h, hh, rfl, hBh⟩ := hrel
          have hBlh : Below wl.heap.size wl wr := hBlN.trans (hBh.mono hBlN.size)
          by_cases hlh : h < 9
          · have bh : (0 : Int) ≤ (h : Int) ∧ (h : Int) < 9 := by omega
            obtain ⟨H0, hH0⟩ : ∃ H0, Go.Proofs.YtdpfemhfmofmlaaDoor.u8 (i0 : Int) :: List.replicate 31 0 = H0 := ⟨_, rfl⟩
            have hH0l : H0.length = 32 := by rw [← hH0]; rfl
            have HEH := Lib.hid (show (#[.int .u8 (i0 : Int), .int .u8 0, .int .u8 0, .int .u8 0, .int .u8 0, .int .u8 0, .int .u8 0, .int .u8 0, .int .u8 0, .int .u8 0, .int .u8 0, .int .u8 0, .int .u8 0, .int .u8 0, .int .u8 0, .int .u8 0, .int .u8 0, .int .u8 0, .int .u8 0, .int .u8 0, .int .u8 0, .int .u8 0, .int .u8 0, .int .u8 0, .int .u8 0, .int .u8 0, .int .u8 0, .int .u8 0, .int .u8 0, .int .u8 0, .int .u8 0, .int .u8 0] : Array Value) = (bvs H0).toArray by rw [← hH0, ← bv_u8 (i0 : Int) (by omega)]; rfl)
            have HH0 := Lib.hid hH0l
            clear hH0 hH0l
            (repeat' ((fail_if_success at_builtin); first | go_values | go_skip | go_guarded | go_step | go_upon))
            rw [HEH.out]
            refine (auditVerifies_walk (some ⟨zl, 0, none⟩) 3 3 L H0 (i0 : Int) (h : Int) wr (HTL.out.below hBlh htsl) (HRLN.out.below hBh (Nat.le_refl _)) (fun x hx => (HFIT.out x hx).ok) HLL.out (by omega) (by unfold maxLen; omega) HH0.out HIV.out ⟨by omega, by omega⟩).mono ?_
            rintro _ wA ⟨rfl, hBA⟩
            dsimp only
            have hBhA : Below wN.heap.size wN wA := hBh.trans (hBA.mono hBh.size)
            have hBlA : Below wl.heap.size wl wA := hBlN.trans (hBhA.mono hBlN.size)
            clear HEH
            (repeat' ((fail_if_success at_builtin); first | go_values | go_skip | go_guarded | go_step | go_upon))
            refine (auditBound_walk (some ⟨zl, 0, none⟩) 3 3 L a4 3 c4 rs (i0 : Int) (h : Int) wA (HTL.out.below hBlA htsl) (HRLN.out.below hBhA (Nat.le_refl _)) (fun x hx => (HFIT.out x hx).ok) HLL.out (by unfold maxLen; omega) (HR4N.out.below hBhA (Nat.le_refl _)) (fun x hx => (HRFIT.out x hx).ok) HRL3.out hc4 (by unfold maxLen; omega) HIV.out ⟨by omega, by omega⟩).mono ?_
            rintro _ wB ⟨rfl, hBB⟩
            dsimp only
            have hBhB : Below wN.heap.size wN wB := hBhA.trans (hBB.mono hBhA.size)
            (repeat' ((fail_if_success at_builtin); first | go_values | go_skip | go_guarded | go_step | go_upon))
            go_roundw
            case rel => exact ⟨h + 1, by omega, by go_num, hBhB⟩
            case measure => simp [intOf]; omega
          · (repeat' ((fail_if_success at_builtin); first | go_values | go_skip | go_guarded | go_step | go_upon))
            go_loopw [8] (fun i wr => ∃ k : Nat, k ≤ 12 ∧ i = .int .i64 k ∧ Below wN.heap.size wN wr) (fun i _ => 12 - (intOf i).toNat)
            case atStart => exact ⟨0, by omega, rfl, hBh⟩
            case round =>
              obtain ⟨k0, hk0, rfl, hBk⟩ := hrel
              have hBlk : Below wl.heap.size wl wr := hBlN.trans (hBk.mono hBlN.size)
              by_cases hlk : k0 < 12
              · obtain ⟨M, hM⟩ : ∃ M : Nat, ((i0 : Int) + (k0 : Int)).tmod 12 = (M : Int) := ⟨(((i0 : Int) + (k0 : Int)).tmod 12).toNat, by rw [Int.tmod_eq_emod_of_nonneg (by omega)]; omega⟩
                have bkk : (k0 : Int) < 12 := by omega
                have hwr : IntKind.i64.wrap ((i0 : Int) + (k0 : Int)) = (i0 : Int) + (k0 : Int) := by rw [IntKind.wrap_i64]; omega
                have hM12 : M < 12 := by rw [Int.tmod_eq_emod_of_nonneg (by omega)] at hM; omega
                have hu := HRN.out.cell k0 (by rw [List.length_map, HNL.out]; exact hlk)
                rw [List.getElem_map, Nat.zero_add] at hu
                have hui := HNM.out (nm[k0]'(by rw [HNL.out]; exact hlk)) (List.getElem_mem _)
                generalize nm[k0]'(by rw [HNL.out]; exact hlk) = u at *
                have ht := HRN.out.cell M (by rw [List.length_map, HNL.out]; exact hM12)
                rw [List.getElem_map, Nat.zero_add] at ht
                have hti := HNM.out (nm[M]'(by rw [HNL.out]; exact hM12)) (List.getElem_mem _)
                generalize nm[M]'(by rw [HNL.out]; exact hM12) = t at *
                have hS0 : NumS wr zn i0 k0 M v u t wr.drew := nums_below (w1 := wr) ⟨⟨cell_below hBk HV.out (Nat.le_refl _), cell_below hBk hu (Nat.le_refl _), cell_below hBk ht (Nat.le_refl _)⟩, Below.refl _ _⟩ (Below.refl _ _).drew
                have hTb : ∀ wx, Below wr.heap.size wr wx → Tabs wx := fun wx h => HTL.out.below (hBlk.trans (h.mono hBlk.size)) htsl
                have HTB := Lib.hid hTb
                have HUI := Lib.hid hui
                have HTI := Lib.hid hti
                have HVI := Lib.hid hvi
                have bk0 : (0 : Int) ≤ (k0 : Int) ∧ (k0 : Int) < 12 := by omega
                have bM : (0 : Int) ≤ (M : Int) ∧ (M : Int) < 12 := by omega
                clear hu ht hTb hui hti
                (repeat' ((fail_if_success at_builtin); first | go_values | go_skip | go_guarded | go_step | go_upon))
                refine wp_region_noPanic ?_
                refine wp_region_held_drew (S := NumS wr zn i0 k0 M v u t) (by kernel_rfl) ?_ (fun hHeld => ?_)
                · (exact hS0)
                refine wpAnyH_take (i := 0) (oi := _) (v := ?_) rfl (by kernel_rfl) (by kernel_rfl) (by kernel_rfl) (fun _ _ _ h => h) (Or.inl ⟨by rfl, ?_⟩) (by assumption) ?_
                rotate_left 1
                · (intro w hSw; (try dsimp only at hSw); go_simp; all_goals (with_reducible rfl))
                try simp only [Act.put, List.getElem_toArray, List.getElem_cons_zero, List.getElem_cons_succ, List.setIfInBounds_toArray, List.set_cons_zero, List.set_cons_succ]
                refine wpAnyH_take (i := 1) (oi := _) (v := ?_) rfl (by kernel_rfl) (by kernel_rfl) (by kernel_rfl) (fun _ _ _ h => h) (Or.inl ⟨by rfl, ?_⟩) (by assumption) ?_
                rotate_left 1
                · (intro w hSw; (try dsimp only at hSw); go_simp; all_goals (with_reducible rfl))
                try simp only [Act.put, List.getElem_toArray, List.getElem_cons_zero, List.getElem_cons_succ, List.setIfInBounds_toArray, List.set_cons_zero, List.set_cons_succ]
                refine wpAnyH_take (i := 2) (oi := _) (v := ?_) rfl (by kernel_rfl) (by kernel_rfl) (by kernel_rfl) (fun _ _ _ h => h) (Or.inl ⟨by rfl, ?_⟩) (by assumption) ?_
                rotate_left 1
                · (intro w hSw; (try dsimp only at hSw); go_simp; all_goals (with_reducible rfl))
                try simp only [Act.put, List.getElem_toArray, List.getElem_cons_zero, List.getElem_cons_succ, List.setIfInBounds_toArray, List.set_cons_zero, List.set_cons_succ]
                refine wpAnyH_take (i := 3) (oi := _) (v := ?_) rfl (by kernel_rfl) (by kernel_rfl) (by kernel_rfl) (fun _ _ _ h => h) (Or.inl ⟨by rfl, ?_⟩) (by assumption) ?_
                rotate_left 1
                · (intro w hSw; (try dsimp only at hSw); go_simp; all_goals (with_reducible rfl))
                try simp only [Act.put, List.getElem_toArray, List.getElem_cons_zero, List.getElem_cons_succ, List.setIfInBounds_toArray, List.set_cons_zero, List.set_cons_succ]
                refine wpAnyH_take (i := 4) (oi := _) (v := ?_) rfl (by kernel_rfl) (by kernel_rfl) (by kernel_rfl) (fun _ _ _ h => h) (Or.inl ⟨by rfl, ?_⟩) (by assumption) ?_
                rotate_left 1
                · (intro w hSw; (try dsimp only at hSw); go_simp; all_goals (with_reducible rfl))
                try simp only [Act.put, List.getElem_toArray, List.getElem_cons_zero, List.getElem_cons_succ, List.setIfInBounds_toArray, List.set_cons_zero, List.set_cons_succ]
                refine wpAnyH_take (i := 5) (oi := _) (v := ?_) rfl (by kernel_rfl) (by kernel_rfl) (by kernel_rfl) (fun _ _ _ h => h) (Or.inl ⟨by rfl, ?_⟩) (by assumption) ?_
                rotate_left 1
                · (intro w hSw; (try dsimp only at hSw); go_simp; all_goals (with_reducible rfl))
                try simp only [Act.put, List.getElem_toArray, List.getElem_cons_zero, List.getElem_cons_succ, List.setIfInBounds_toArray, List.set_cons_zero, List.set_cons_succ]
                refine wpAnyH_take (i := 6) (oi := _) (v := ?_) rfl (by kernel_rfl) (by kernel_rfl) (by kernel_rfl) (fun _ _ _ h => h) (Or.inl ⟨by rfl, ?_⟩) (by assumption) ?_
                rotate_left 1
                · (intro w hSw; (try dsimp only at hSw); go_simp; all_goals (with_reducible rfl))
                try simp only [Act.put, List.getElem_toArray, List.getElem_cons_zero, List.getElem_cons_succ, List.setIfInBounds_toArray, List.set_cons_zero, List.set_cons_succ]
                refine wpAnyH_take (i := 7) (oi := _) (v := ?_) rfl (by kernel_rfl) (by kernel_rfl) (by kernel_rfl) (fun _ _ _ h => h) (Or.inl ⟨by rfl, ?_⟩) (by assumption) ?_
                rotate_left 1
                · (intro w hSw; (try dsimp only at hSw); go_simp; all_goals (with_reducible rfl))
                try simp only [Act.put, List.getElem_toArray, List.getElem_cons_zero, List.getElem_cons_succ, List.setIfInBounds_toArray, List.set_cons_zero, List.set_cons_succ]
                refine wpAnyH_take (i := 8) (oi := _) (v := ?_) rfl (by kernel_rfl) (by kernel_rfl) (by kernel_rfl) (fun _ _ _ h => h) (Or.inl ⟨by rfl, ?_⟩) (by assumption) ?_
                rotate_left 1
                · (intro w hSw; (try dsimp only at hSw); go_simp; all_goals (with_reducible rfl))
                try simp only [Act.put, List.getElem_toArray, List.getElem_cons_zero, List.getElem_cons_succ, List.setIfInBounds_toArray, List.set_cons_zero, List.set_cons_succ]
                refine wpAnyH_take (i := 9) (oi := _) (v := ?_) rfl (by kernel_rfl) (by kernel_rfl) (by kernel_rfl) (fun _ _ _ h => h) (Or.inl ⟨by rfl, ?_⟩) (by assumption) ?_
                rotate_left 1
                · (intro w hSw; (try dsimp only at hSw); go_simp; all_goals (with_reducible rfl))
                try simp only [Act.put, List.getElem_toArray, List.getElem_cons_zero, List.getElem_cons_succ, List.setIfInBounds_toArray, List.set_cons_zero, List.set_cons_succ]
                refine wpAnyH_take (i := 10) (oi := _) (v := ?_) rfl (by kernel_rfl) (by kernel_rfl) (by kernel_rfl) (fun _ _ _ h => h) (Or.inl ⟨by rfl, ?_⟩) (by assumption) ?_
                rotate_left 1
                · (intro w hSw; (try dsimp only at hSw); go_simp; all_goals (with_reducible rfl))
                try simp only [Act.put, List.getElem_toArray, List.getElem_cons_zero, List.getElem_cons_succ, List.setIfInBounds_toArray, List.set_cons_zero, List.set_cons_succ]
                refine wpAnyH_take (i := 11) (oi := _) (v := ?_) rfl (by kernel_rfl) (by kernel_rfl) (by kernel_rfl) (fun _ _ _ h => h) (Or.inl ⟨by rfl, ?_⟩) (by assumption) ?_
                rotate_left 1
                · (intro w hSw; (try dsimp only at hSw); go_simp; all_goals (with_reducible rfl))
                try simp only [Act.put, List.getElem_toArray, List.getElem_cons_zero, List.getElem_cons_succ, List.setIfInBounds_toArray, List.set_cons_zero, List.set_cons_succ]
                refine wpAnyH_take (i := 12) (oi := _) (v := ?_) rfl (by kernel_rfl) (by kernel_rfl) (by kernel_rfl) (fun _ _ _ h => h) (Or.inl ⟨by rfl, ?_⟩) (by assumption) ?_
                rotate_left 1
                · (intro w hSw; (try dsimp only at hSw); go_simp; all_goals (with_reducible rfl))
                try simp only [Act.put, List.getElem_toArray, List.getElem_cons_zero, List.getElem_cons_succ, List.setIfInBounds_toArray, List.set_cons_zero, List.set_cons_succ]
                refine wpAnyH_take (i := 13) (oi := _) (v := ?_) rfl (by kernel_rfl) (by kernel_rfl) (by kernel_rfl) (fun _ _ _ h => h) (Or.inl ⟨by rfl, ?_⟩) (by assumption) ?_
                rotate_left 1
                · (intro w hSw; (try dsimp only at hSw); go_simp; all_goals (with_reducible rfl))
                try simp only [Act.put, List.getElem_toArray, List.getElem_cons_zero, List.getElem_cons_succ, List.setIfInBounds_toArray, List.set_cons_zero, List.set_cons_succ]
                refine wpAnyH_take (i := 14) (oi := _) (v := ?_) rfl (by kernel_rfl) (by kernel_rfl) (by kernel_rfl) (fun _ _ _ h => h) (Or.inl ⟨by rfl, ?_⟩) (by assumption) ?_
                rotate_left 1
                · (intro w hSw; (try dsimp only at hSw); go_simp; all_goals (with_reducible rfl))
                try simp only [Act.put, List.getElem_toArray, List.getElem_cons_zero, List.getElem_cons_succ, List.setIfInBounds_toArray, List.set_cons_zero, List.set_cons_succ]
                refine wpAnyH_take (i := 15) (oi := _) (v := ?_) rfl (by kernel_rfl) (by kernel_rfl) (by kernel_rfl) (fun _ _ _ h => h) (Or.inl ⟨by rfl, ?_⟩) (by assumption) ?_
                rotate_left 1
                · (intro w hSw; (try dsimp only at hSw); go_simp; all_goals (with_reducible rfl))
                try simp only [Act.put, List.getElem_toArray, List.getElem_cons_zero, List.getElem_cons_succ, List.setIfInBounds_toArray, List.set_cons_zero, List.set_cons_succ]
                refine wpAnyH_take (i := 16) (oi := _) (v := ?_) rfl (by kernel_rfl) (by kernel_rfl) (by kernel_rfl) (fun _ _ _ h => h) (Or.inl ⟨by rfl, ?_⟩) (by assumption) ?_
                rotate_left 1
                · (intro w hSw; (try dsimp only at hSw); go_simp; all_goals (with_reducible rfl))
                try simp only [Act.put, List.getElem_toArray, List.getElem_cons_zero, List.getElem_cons_succ, List.setIfInBounds_toArray, List.set_cons_zero, List.set_cons_succ]
                refine wpAnyH_ready (rs := [17]) (by kernel_rfl) (by simp) ?_
                refine AllReadyH.cons (o := _) rfl (fun K hK => ?_) ?_
                rotate_left 1
                · exact AllReadyH.nil
                go_simp
                go_at_call 20
                refine (auditRowsTold_walk v u t _ (HTB.out _ hHeld.2) HVI.out HUI.out HTI.out).mono ?_
                rintro _ wA ⟨rfl, hBA⟩
                dsimp only
                refine hK.out _ _ ?_ (fun hHeld => ?_)
                · (apply nums_below; assumption; assumption)
                clear hK K
                try simp only [Act.put, List.getElem_toArray, List.getElem_cons_zero, List.getElem_cons_succ, List.setIfInBounds_toArray, List.set_cons_zero, List.set_cons_succ]
                refine wpAnyH_take (i := 18) (oi := _) (v := ?_) rfl (by kernel_rfl) (by kernel_rfl) (by kernel_rfl) (fun _ _ _ h => h) (Or.inl ⟨by rfl, ?_⟩) (by assumption) ?_
                rotate_left 1
                · (intro w hSw; (try dsimp only at hSw); go_simp; all_goals (with_reducible rfl))
                try simp only [Act.put, List.getElem_toArray, List.getElem_cons_zero, List.getElem_cons_succ, List.setIfInBounds_toArray, List.set_cons_zero, List.set_cons_succ]
                refine wpAnyH_done (by kernel_rfl) ?_ _
                refine NoPanic.normal ?_
                have hBkA : Below wN.heap.size wN wA := hBk.trans (hHeld.2.mono hBk.size)
                clear hHeld hS0 hBA
                (repeat' ((fail_if_success at_builtin); first | go_values | go_skip | go_guarded | go_step | go_upon))
                go_roundw
                case rel => exact ⟨k0 + 1, by omega, by go_num, hBkA⟩
                case measure => simp [intOf]; omega
              · obtain ⟨d0, hd0⟩ : ∃ d0, Rw.cells ⟨annBA, w0Ent, v, 9⟩ = d0 := ⟨_, rfl⟩
                obtain ⟨d1, hd1⟩ : ∃ d1, Rw.cells ⟨⟨#[]⟩, k1Ent, 1, v⟩ = d1 := ⟨_, rfl⟩
                obtain ⟨d2, hd2⟩ : ∃ d2, Rw.cells ⟨annBA, k2Ent, v, v⟩ = d2 := ⟨_, rfl⟩
                have m0 : d0.length = 42 := by rw [← hd0]; rfl
                have m1 : d1.length = 42 := by rw [← hd1]; rfl
                have m2 : d2.length = 42 := by rw [← hd2]; rfl
                have hbR0 : ∀ w, (Instr.build 89 #[(0, .string ⟨#[97, 110, 110]⟩), (1, .agg c0.toArray), (2, .int .i64 v), (3, .int .i64 9)]).run Tryd.prog w = .ok (.agg d0.toArray) w := fun w => by rw [← hd0, ← HC0.out]; kernel_rfl
                have hbR1 : ∀ w, (Instr.build 89 #[(0, .string ⟨#[]⟩), (1, .agg c1.toArray), (2, .int .i64 1), (3, .int .i64 v)]).run Tryd.prog w = .ok (.agg d1.toArray) w := fun w => by rw [← hd1, ← HC1.out]; kernel_rfl
                have hbR2 : ∀ w, (Instr.build 89 #[(0, .string ⟨#[97, 110, 110]⟩), (1, .agg c2.toArray), (2, .int .i64 v), (3, .int .i64 v)]).run Tryd.prog w = .ok (.agg d2.toArray) w := fun w => by rw [← hd2, ← HC2.out]; kernel_rfl
                obtain ⟨rws, hrws⟩ : ∃ rws : List Rw, [⟨annBA, w0Ent, v, 9⟩, ⟨⟨#[]⟩, k1Ent, 1, v⟩, ⟨annBA, k2Ent, v, v⟩] = rws := ⟨_, rfl⟩
                have hrwl : rws.length = 3 := by rw [← hrws]; rfl
                have HRWF := Lib.hid (show rws.flatMap Rw.cells = d0 ++ d1 ++ d2 by rw [← hrws, ← hd0, ← hd1, ← hd2]; simp)
                have hi9 : I64 9 := ⟨by omega, by omega⟩
                have hi1 : I64 1 := ⟨by omega, by omega⟩
                have hle0 : (⟨#[]⟩ : ByteArray).size ≤ maxLen := by unfold maxLen; decide
                have HRWO := Lib.hid (show ∀ x ∈ rws, x.Ok by
                  intro x hx
                  rw [← hrws] at hx
                  simp at hx
                  rcases hx with rfl | rfl | rfl
                  · exact ⟨annBA_le, w0_fit.ok, hvi, hi9⟩
                  · exact ⟨hle0, k1_fit.ok, hi1, hvi⟩
                  · exact ⟨annBA_le, k2_fit.ok, hvi, hvi⟩)
                have HRWL := Lib.hid hrwl
                have HM0 := Lib.hid m0
                have HM1 := Lib.hid m1
                have HM2 := Lib.hid m2
                have hrl := HRLN.out.below hBk (Nat.le_refl _)
                rw [HFL.out] at hrl
                have hgl3 := ((hBlk.block zl hzll).trans HGL2.out)
                have hra0 : wr.rangeAt zl 0 c0 := rangeAt_blk hgl3 _ _ (by rw [List.toList_toArray, List.drop_zero, List.append_assoc, List.take_left])
                have hra1 : wr.rangeAt zl 39 c1 := rangeAt_blk hgl3 _ _ (by rw [List.toList_toArray, List.append_assoc, ← HL0.out, List.drop_left, List.take_left])
                have hra2 : wr.rangeAt zl 78 c2 := rangeAt_blk hgl3 _ _ (by rw [List.toList_toArray, show 78 = (c0 ++ c1).length by rw [List.length_append, HL0.out, HL1.out], List.drop_left, List.take_length])
                have hS0 : KnS wr zn i0 zl v c0 c1 c2 wr.drew := kns_below (w1 := wr) ⟨⟨cell_below hBk HV.out (Nat.le_refl _), hra0, hra1, hra2⟩, Below.refl _ _⟩ (Below.refl _ _).drew
                have hTb : ∀ wx, Below wr.heap.size wr wx → Tabs wx := fun wx h => HTL.out.below (hBlk.trans (h.mono hBlk.size)) htsl
                have HTB := Lib.hid hTb
                have HRK := Lib.hid (HRLN.out.below hBk (Nat.le_refl _))
                have hi0x : (Tryd.prog.info? 73).map (·.size) = some c0.length := by rw [HL0.out]; exact entSize
                have hi1x : (Tryd.prog.info? 73).map (·.size) = some c1.length := by rw [HL1.out]; exact entSize
                have hi2x : (Tryd.prog.info? 73).map (·.size) = some c2.length := by rw [HL2.out]; exact entSize
                clear hd0 hd1 hd2 m0 m1 m2 hrws hrwl hrl hgl3 hra0 hra1 hra2 hTb
                (repeat' ((fail_if_success at_builtin); first | go_values | go_skip | go_guarded | go_step | go_upon))
                refine wp_region_noPanic ?_
                refine wp_region_held_drew (S := KnS wr zn i0 zl v c0 c1 c2) (by kernel_rfl) ?_ (fun hHeld => ?_)
                · (exact hS0)
                refine wpAnyH_take (i := 0) (oi := _) (v := ?_) rfl (by kernel_rfl) (by kernel_rfl) (by kernel_rfl) (fun _ _ _ h => h) (Or.inl ⟨by rfl, ?_⟩) (by assumption) ?_
                rotate_left 1
                · (intro w hSw; (try dsimp only at hSw); go_simp; all_goals (with_reducible rfl))
                try simp only [Act.put, List.getElem_toArray, List.getElem_cons_zero, List.getElem_cons_succ, List.setIfInBounds_toArray, List.set_cons_zero, List.set_cons_succ]
                refine wpAnyH_take (i := 1) (oi := _) (v := ?_) rfl (by kernel_rfl) (by kernel_rfl) (by kernel_rfl) (fun _ _ _ h => h) (Or.inl ⟨by rfl, ?_⟩) (by assumption) ?_
                rotate_left 1
                · (intro w hSw; (try dsimp only at hSw); go_simp; all_goals (with_reducible rfl))
                try simp only [Act.put, List.getElem_toArray, List.getElem_cons_zero, List.getElem_cons_succ, List.setIfInBounds_toArray, List.set_cons_zero, List.set_cons_succ]
                refine wpAnyH_ready (rs := [2]) (by kernel_rfl) (by simp) ?_
                refine AllReadyH.cons (o := _) rfl (fun K hK => ?_) ?_
                rotate_left 1
                · exact AllReadyH.nil
                go_simp
                go_at_call 17
                refine (auditHolds_walk (some ⟨zl, 0, none⟩) 3 3 L (i0 : Int) _ (HTB.out _ hHeld.2) (HRK.out.below hHeld.2 (Nat.le_refl _)) (fun x hx => (HFIT.out x hx).ok) HLL.out (by unfold maxLen;omega) HIV.out).mono ?_
                rintro _ wA ⟨rfl, hBA⟩
                dsimp only
                refine hK.out _ _ ?_ (fun hHeld => ?_)
                · (apply kns_below; assumption; assumption)
                clear hK K
                try simp only [Act.put, List.getElem_toArray, List.getElem_cons_zero, List.getElem_cons_succ, List.setIfInBounds_toArray, List.set_cons_zero, List.set_cons_succ]
                refine wpAnyH_take (i := 3) (oi := _) (v := ?_) rfl (by kernel_rfl) (by kernel_rfl) (by kernel_rfl) (fun _ _ _ h => h) (Or.inl ⟨by rfl, ?_⟩) (by assumption) ?_
                rotate_left 1
                · (intro w hSw; (try dsimp only at hSw); go_simp; all_goals (with_reducible rfl))
                try simp only [Act.put, List.getElem_toArray, List.getElem_cons_zero, List.getElem_cons_succ, List.setIfInBounds_toArray, List.set_cons_zero, List.set_cons_succ]
                refine wpAnyH_take (i := 4) (oi := _) (v := ?_) rfl (by kernel_rfl) (by kernel_rfl) (by kernel_rfl) (fun _ _ _ h => h) (Or.inl ⟨by rfl, ?_⟩) (by assumption) ?_
                rotate_left 1
                · (intro w hSw; (try dsimp only at hSw); go_simp; all_goals (with_reducible rfl))
                try simp only [Act.put, List.getElem_toArray, List.getElem_cons_zero, List.getElem_cons_succ, List.setIfInBounds_toArray, List.set_cons_zero, List.set_cons_succ]
                refine wpAnyH_take (i := 5) (oi := _) (v := ?_) rfl (by kernel_rfl) (by kernel_rfl) (by kernel_rfl) (fun _ _ _ h => h) (Or.inl ⟨by rfl, ?_⟩) (by assumption) ?_
                rotate_left 1
                · (intro w hSw; (try dsimp only at hSw); go_simp; all_goals (with_reducible rfl))
                try simp only [Act.put, List.getElem_toArray, List.getElem_cons_zero, List.getElem_cons_succ, List.setIfInBounds_toArray, List.set_cons_zero, List.set_cons_succ]
                refine wpAnyH_take (i := 6) (oi := _) (v := ?_) rfl (by kernel_rfl) (by kernel_rfl) (by kernel_rfl) (fun _ _ _ h => h) (Or.inl ⟨by rfl, ?_⟩) (by assumption) ?_
                rotate_left 1
                · (intro w hSw; (try dsimp only at hSw); go_simp; all_goals (with_reducible rfl))
                try simp only [Act.put, List.getElem_toArray, List.getElem_cons_zero, List.getElem_cons_succ, List.setIfInBounds_toArray, List.set_cons_zero, List.set_cons_succ]
                refine' wpAnyH_take (i := 7) (oi := _) (v := _) rfl (by kernel_rfl) (by kernel_rfl) (by kernel_rfl) (fun _ _ _ h => h) (yieldsIf_load_mid (by rfl) _ _ rfl _ _ rfl _ _ ?ls1 ?lu1 ?ld1 ?li1) (by assumption) ?lr1
                case ls1 => (intro w hSw; (try dsimp only at hSw); go_split_ands; assumption)
                case lu1 => assumption
                case ld1 => rfl
                case li1 => first | assumption | (simp only [*]; done)
                try simp only [Act.put, List.getElem_toArray, List.getElem_cons_zero, List.getElem_cons_succ, List.setIfInBounds_toArray, List.set_cons_zero, List.set_cons_succ]
                refine wpAnyH_take (i := 8) (oi := _) (v := ?_) rfl (by kernel_rfl) (by kernel_rfl) (by kernel_rfl) (fun _ _ _ h => h) (Or.inl ⟨by rfl, ?_⟩) (by assumption) ?_
                rotate_left 1
                · (intro w hSw; (try dsimp only at hSw); go_simp; all_goals (with_reducible rfl))
                try simp only [Act.put, List.getElem_toArray, List.getElem_cons_zero, List.getElem_cons_succ, List.setIfInBounds_toArray, List.set_cons_zero, List.set_cons_succ]
                refine wpAnyH_take (i := 9) (oi := _) (v := ?_) rfl (by kernel_rfl) (by kernel_rfl) (by kernel_rfl) (fun _ _ _ h => h) (Or.inl ⟨by rfl, ?_⟩) (by assumption) ?_
                rotate_left 1
                · (intro w hSw; (try dsimp only at hSw); go_simp; all_goals (with_reducible rfl))
                try simp only [Act.put, List.getElem_toArray, List.getElem_cons_zero, List.getElem_cons_succ, List.setIfInBounds_toArray, List.set_cons_zero, List.set_cons_succ]
                refine wpAnyH_take (i := 10) (oi := _) (v := ?_) rfl (by kernel_rfl) (by kernel_rfl) (by kernel_rfl) (fun _ _ _ h => h) (Or.inl ⟨by rfl, ?_⟩) (by assumption) ?_
                rotate_left 1
                · (intro w hSw; (try dsimp only at hSw); go_simp; all_goals (with_reducible rfl))
                try simp only [Act.put, List.getElem_toArray, List.getElem_cons_zero, List.getElem_cons_succ, List.setIfInBounds_toArray, List.set_cons_zero, List.set_cons_succ]
                refine wpAnyH_take (i := 11) (oi := _) (v := ?_) rfl (by kernel_rfl) (by kernel_rfl) (by kernel_rfl) (fun _ _ _ h => h) (Or.inl ⟨by rfl, ?_⟩) (by assumption) ?_
                rotate_left 1
                · (intro w hSw; (try dsimp only at hSw); go_simp; all_goals (with_reducible rfl))
                try simp only [Act.put, List.getElem_toArray, List.getElem_cons_zero, List.getElem_cons_succ, List.setIfInBounds_toArray, List.set_cons_zero, List.set_cons_succ]
                refine wpAnyH_take (i := 12) (oi := _) (v := .agg d0.toArray) rfl (by kernel_rfl) (by kernel_rfl) (by kernel_rfl) (fun _ _ _ h => h) (Or.inl ⟨by rfl, ?_⟩) (by assumption) ?_
                · (intro w hSw; refine exec_build rfl ?_; simp only [List.map_toArray, List.map_cons, List.map_nil]; exact hbR0 w)
                try simp only [Act.put, List.getElem_toArray, List.getElem_cons_zero, List.getElem_cons_succ, List.setIfInBounds_toArray, List.set_cons_zero, List.set_cons_succ]
                refine wpAnyH_take (i := 13) (oi := _) (v := ?_) rfl (by kernel_rfl) (by kernel_rfl) (by kernel_rfl) (fun _ _ _ h => h) (Or.inl ⟨by rfl, ?_⟩) (by assumption) ?_
                rotate_left 1
                · (intro w hSw; (try dsimp only at hSw); go_simp; all_goals (with_reducible rfl))
                try simp only [Act.put, List.getElem_toArray, List.getElem_cons_zero, List.getElem_cons_succ, List.setIfInBounds_toArray, List.set_cons_zero, List.set_cons_succ]
                refine wpAnyH_take (i := 14) (oi := _) (v := ?_) rfl (by kernel_rfl) (by kernel_rfl) (by kernel_rfl) (fun _ _ _ h => h) (Or.inl ⟨by rfl, ?_⟩) (by assumption) ?_
                rotate_left 1
                · (intro w hSw; (try dsimp only at hSw); go_simp; all_goals (with_reducible rfl))
                try simp only [Act.put, List.getElem_toArray, List.getElem_cons_zero, List.getElem_cons_succ, List.setIfInBounds_toArray, List.set_cons_zero, List.set_cons_succ]
                refine' wpAnyH_take (i := 15) (oi := _) (v := _) rfl (by kernel_rfl) (by kernel_rfl) (by kernel_rfl) (fun _ _ _ h => h) (yieldsIf_load_mid (by rfl) _ _ rfl _ _ rfl _ _ ?ls2 ?lu2 ?ld2 ?li2) (by assumption) ?lr2
                case ls2 => (intro w hSw; (try dsimp only at hSw); go_split_ands; assumption)
                case lu2 => assumption
                case ld2 => rfl
                case li2 => first | assumption | (simp only [*]; done)
                try simp only [Act.put, List.getElem_toArray, List.getElem_cons_zero, List.getElem_cons_succ, List.setIfInBounds_toArray, List.set_cons_zero, List.set_cons_succ]
                refine wpAnyH_take (i := 16) (oi := _) (v := ?_) rfl (by kernel_rfl) (by kernel_rfl) (by kernel_rfl) (fun _ _ _ h => h) (Or.inl ⟨by rfl, ?_⟩) (by assumption) ?_
                rotate_left 1
                · (intro w hSw; (try dsimp only at hSw); go_simp; all_goals (with_reducible rfl))
                try simp only [Act.put, List.getElem_toArray, List.getElem_cons_zero, List.getElem_cons_succ, List.setIfInBounds_toArray, List.set_cons_zero, List.set_cons_succ]
                refine wpAnyH_take (i := 17) (oi := _) (v := ?_) rfl (by kernel_rfl) (by kernel_rfl) (by kernel_rfl) (fun _ _ _ h => h) (Or.inl ⟨by rfl, ?_⟩) (by assumption) ?_
                rotate_left 1
                · (intro w hSw; (try dsimp only at hSw); go_simp; all_goals (with_reducible rfl))
                try simp only [Act.put, List.getElem_toArray, List.getElem_cons_zero, List.getElem_cons_succ, List.setIfInBounds_toArray, List.set_cons_zero, List.set_cons_succ]
                refine wpAnyH_take (i := 18) (oi := _) (v := ?_) rfl (by kernel_rfl) (by kernel_rfl) (by kernel_rfl) (fun _ _ _ h => h) (Or.inl ⟨by rfl, ?_⟩) (by assumption) ?_
                rotate_left 1
                · (intro w hSw; (try dsimp only at hSw); go_simp; all_goals (with_reducible rfl))
                try simp only [Act.put, List.getElem_toArray, List.getElem_cons_zero, List.getElem_cons_succ, List.setIfInBounds_toArray, List.set_cons_zero, List.set_cons_succ]
                refine wpAnyH_take (i := 19) (oi := _) (v := ?_) rfl (by kernel_rfl) (by kernel_rfl) (by kernel_rfl) (fun _ _ _ h => h) (Or.inl ⟨by rfl, ?_⟩) (by assumption) ?_
                rotate_left 1
                · (intro w hSw; (try dsimp only at hSw); go_simp; all_goals (with_reducible rfl))
                try simp only [Act.put, List.getElem_toArray, List.getElem_cons_zero, List.getElem_cons_succ, List.setIfInBounds_toArray, List.set_cons_zero, List.set_cons_succ]
                refine wpAnyH_take (i := 20) (oi := _) (v := .agg d1.toArray) rfl (by kernel_rfl) (by kernel_rfl) (by kernel_rfl) (fun _ _ _ h => h) (Or.inl ⟨by rfl, ?_⟩) (by assumption) ?_
                · (intro w hSw; refine exec_build rfl ?_; simp only [List.map_toArray, List.map_cons, List.map_nil]; exact hbR1 w)
                try simp only [Act.put, List.getElem_toArray, List.getElem_cons_zero, List.getElem_cons_succ, List.setIfInBounds_toArray, List.set_cons_zero, List.set_cons_succ]
                refine wpAnyH_take (i := 21) (oi := _) (v := ?_) rfl (by kernel_rfl) (by kernel_rfl) (by kernel_rfl) (fun _ _ _ h => h) (Or.inl ⟨by rfl, ?_⟩) (by assumption) ?_
                rotate_left 1
                · (intro w hSw; (try dsimp only at hSw); go_simp; all_goals (with_reducible rfl))
                try simp only [Act.put, List.getElem_toArray, List.getElem_cons_zero, List.getElem_cons_succ, List.setIfInBounds_toArray, List.set_cons_zero, List.set_cons_succ]
                refine wpAnyH_take (i := 22) (oi := _) (v := ?_) rfl (by kernel_rfl) (by kernel_rfl) (by kernel_rfl) (fun _ _ _ h => h) (Or.inl ⟨by rfl, ?_⟩) (by assumption) ?_
                rotate_left 1
                · (intro w hSw; (try dsimp only at hSw); go_simp; all_goals (with_reducible rfl))
                try simp only [Act.put, List.getElem_toArray, List.getElem_cons_zero, List.getElem_cons_succ, List.setIfInBounds_toArray, List.set_cons_zero, List.set_cons_succ]
                refine' wpAnyH_take (i := 23) (oi := _) (v := _) rfl (by kernel_rfl) (by kernel_rfl) (by kernel_rfl) (fun _ _ _ h => h) (yieldsIf_load_mid (by rfl) _ _ rfl _ _ rfl _ _ ?ls3 ?lu3 ?ld3 ?li3) (by assumption) ?lr3
                case ls3 => (intro w hSw; (try dsimp only at hSw); go_split_ands; assumption)
                case lu3 => assumption
                case ld3 => rfl
                case li3 => first | assumption | (simp only [*]; done)
                try simp only [Act.put, List.getElem_toArray, List.getElem_cons_zero, List.getElem_cons_succ, List.setIfInBounds_toArray, List.set_cons_zero, List.set_cons_succ]
                refine wpAnyH_take (i := 24) (oi := _) (v := ?_) rfl (by kernel_rfl) (by kernel_rfl) (by kernel_rfl) (fun _ _ _ h => h) (Or.inl ⟨by rfl, ?_⟩) (by assumption) ?_
                rotate_left 1
                · (intro w hSw; (try dsimp only at hSw); go_simp; all_goals (with_reducible rfl))
                try simp only [Act.put, List.getElem_toArray, List.getElem_cons_zero, List.getElem_cons_succ, List.setIfInBounds_toArray, List.set_cons_zero, List.set_cons_succ]
                refine wpAnyH_take (i := 25) (oi := _) (v := ?_) rfl (by kernel_rfl) (by kernel_rfl) (by kernel_rfl) (fun _ _ _ h => h) (Or.inl ⟨by rfl, ?_⟩) (by assumption) ?_
                rotate_left 1
                · (intro w hSw; (try dsimp only at hSw); go_simp; all_goals (with_reducible rfl))
                try simp only [Act.put, List.getElem_toArray, List.getElem_cons_zero, List.getElem_cons_succ, List.setIfInBounds_toArray, List.set_cons_zero, List.set_cons_succ]
                refine wpAnyH_take (i := 26) (oi := _) (v := ?_) rfl (by kernel_rfl) (by kernel_rfl) (by kernel_rfl) (fun _ _ _ h => h) (Or.inl ⟨by rfl, ?_⟩) (by assumption) ?_
                rotate_left 1
                · (intro w hSw; (try dsimp only at hSw); go_simp; all_goals (with_reducible rfl))
                try simp only [Act.put, List.getElem_toArray, List.getElem_cons_zero, List.getElem_cons_succ, List.setIfInBounds_toArray, List.set_cons_zero, List.set_cons_succ]
                refine wpAnyH_take (i := 27) (oi := _) (v := ?_) rfl (by kernel_rfl) (by kernel_rfl) (by kernel_rfl) (fun _ _ _ h => h) (Or.inl ⟨by rfl, ?_⟩) (by assumption) ?_
                rotate_left 1
                · (intro w hSw; (try dsimp only at hSw); go_simp; all_goals (with_reducible rfl))
                try simp only [Act.put, List.getElem_toArray, List.getElem_cons_zero, List.getElem_cons_succ, List.setIfInBounds_toArray, List.set_cons_zero, List.set_cons_succ]
                refine wpAnyH_take (i := 28) (oi := _) (v := ?_) rfl (by kernel_rfl) (by kernel_rfl) (by kernel_rfl) (fun _ _ _ h => h) (Or.inl ⟨by rfl, ?_⟩) (by assumption) ?_
                rotate_left 1
                · (intro w hSw; (try dsimp only at hSw); go_simp; all_goals (with_reducible rfl))
                try simp only [Act.put, List.getElem_toArray, List.getElem_cons_zero, List.getElem_cons_succ, List.setIfInBounds_toArray, List.set_cons_zero, List.set_cons_succ]
                refine wpAnyH_take (i := 29) (oi := _) (v := ?_) rfl (by kernel_rfl) (by kernel_rfl) (by kernel_rfl) (fun _ _ _ h => h) (Or.inl ⟨by rfl, ?_⟩) (by assumption) ?_
                rotate_left 1
                · (intro w hSw; (try dsimp only at hSw); go_simp; all_goals (with_reducible rfl))
                try simp only [Act.put, List.getElem_toArray, List.getElem_cons_zero, List.getElem_cons_succ, List.setIfInBounds_toArray, List.set_cons_zero, List.set_cons_succ]
                refine wpAnyH_take (i := 30) (oi := _) (v := ?_) rfl (by kernel_rfl) (by kernel_rfl) (by kernel_rfl) (fun _ _ _ h => h) (Or.inl ⟨by rfl, ?_⟩) (by assumption) ?_
                rotate_left 1
                · (intro w hSw; (try dsimp only at hSw); go_simp; all_goals (with_reducible rfl))
                try simp only [Act.put, List.getElem_toArray, List.getElem_cons_zero, List.getElem_cons_succ, List.setIfInBounds_toArray, List.set_cons_zero, List.set_cons_succ]
                refine wpAnyH_take (i := 31) (oi := _) (v := ?_) rfl (by kernel_rfl) (by kernel_rfl) (by kernel_rfl) (fun _ _ _ h => h) (Or.inl ⟨by rfl, ?_⟩) (by assumption) ?_
                rotate_left 1
                · (intro w hSw; (try dsimp only at hSw); go_simp; all_goals (with_reducible rfl))
                try simp only [Act.put, List.getElem_toArray, List.getElem_cons_zero, List.getElem_cons_succ, List.setIfInBounds_toArray, List.set_cons_zero, List.set_cons_succ]
                refine wpAnyH_take (i := 32) (oi := _) (v := .agg d2.toArray) rfl (by kernel_rfl) (by kernel_rfl) (by kernel_rfl) (fun _ _ _ h => h) (Or.inl ⟨by rfl, ?_⟩) (by assumption) ?_
                · (intro w hSw; refine exec_build rfl ?_; simp only [List.map_toArray, List.map_cons, List.map_nil]; exact hbR2 w)
                try simp only [Act.put, List.getElem_toArray, List.getElem_cons_zero, List.getElem_cons_succ, List.setIfInBounds_toArray, List.set_cons_zero, List.set_cons_succ]
                refine wpAnyH_ready (rs := [33]) (by kernel_rfl) (by simp) ?_
                refine AllReadyH.cons (o := _) rfl (fun K hK => ?_) ?_
                rotate_left 1
                · exact AllReadyH.nil
                refine step_build_three (by kernel_rfl) 85 89 _ _ _ rfl Tryd.underlying85 42 d0 d1 d2 HM0.out HM1.out HM2.out rfl rfl rfl iR zR HIR.out HZR.out HSR.out (by decide) (by decide) ?_
                intro wB hgB hBB hsB
                refine hK.out _ _ ?_ (fun hHeld => ?_)
                · (apply kns_below; assumption; assumption)
                clear hK K
                try simp only [Act.put, List.getElem_toArray, List.getElem_cons_zero, List.getElem_cons_succ, List.setIfInBounds_toArray, List.set_cons_zero, List.set_cons_succ]
                have HRB := Lib.hid (show RdC wB (some ⟨wA.heap.size, 0, none⟩) (rws.flatMap Rw.cells) by rw [HRWF.out]; exact rd_rowC hgB)
                refine wpAnyH_ready (rs := [34]) (by kernel_rfl) (by simp) ?_
                refine AllReadyH.cons (o := _) rfl (fun K hK => ?_) ?_
                rotate_left 1
                · exact AllReadyH.nil
                go_simp
                go_at_call 16
                refine (auditRuns_walk (some ⟨wA.heap.size, 0, none⟩) 3 3 rws _ (HTB.out _ hHeld.2) HRB.out HRWO.out HRWL.out (by unfold maxLen;omega)).mono ?_
                rintro _ wC ⟨rfl, hBC⟩
                dsimp only
                refine hK.out _ _ ?_ (fun hHeld => ?_)
                · (apply kns_below; assumption; assumption)
                clear hK K
                try simp only [Act.put, List.getElem_toArray, List.getElem_cons_zero, List.getElem_cons_succ, List.setIfInBounds_toArray, List.set_cons_zero, List.set_cons_succ]
                refine wpAnyH_take (i := 35) (oi := _) (v := ?_) rfl (by kernel_rfl) (by kernel_rfl) (by kernel_rfl) (fun _ _ _ h => h) (Or.inl ⟨by rfl, ?_⟩) (by assumption) ?_
                rotate_left 1
                · (intro w hSw; (try dsimp only at hSw); go_simp; all_goals (with_reducible rfl))
                try simp only [Act.put, List.getElem_toArray, List.getElem_cons_zero, List.getElem_cons_succ, List.setIfInBounds_toArray, List.set_cons_zero, List.set_cons_succ]
                refine wpAnyH_take (i := 36) (oi := _) (v := ?_) rfl (by kernel_rfl) (by kernel_rfl) (by kernel_rfl) (fun _ _ _ h => h) (Or.inl ⟨by rfl, ?_⟩) (by assumption) ?_
                rotate_left 1
                · (intro w hSw; (try dsimp only at hSw); go_simp; all_goals (with_reducible rfl))
                try simp only [Act.put, List.getElem_toArray, List.getElem_cons_zero, List.getElem_cons_succ, List.setIfInBounds_toArray, List.set_cons_zero, List.set_cons_succ]
                refine wpAnyH_done (by kernel_rfl) ?_ _
                refine NoPanic.normal ?_
                have hBkC : Below wN.heap.size wN wC := hBk.trans (hHeld.2.mono hBk.size)
                clear hHeld hS0
                (repeat' ((fail_if_success at_builtin); first | go_values | go_skip | go_guarded | go_step | go_upon))
                go_roundw
                case rel => exact ⟨i0 + 1, by omega, by go_num, hBkC⟩
                case measure => simp [intOf]; omega
      · obtain ⟨b, off, hba, hc40⟩ : ∃ b off, a4 = some ⟨b, off, none⟩ ∧ off = 0 := by
          rcases HO4N.out.2 with ⟨e, _⟩ | ⟨g', _, _, e, _⟩
          · cases e
          · cases e; exact ⟨_, _, rfl, rfl⟩
        subst hc40
        subst hba
        have hbw : wr3.heap.size ≤ b := by
          rcases HO4N.out.2 with ⟨e, _⟩ | ⟨g', _, _, e, hg', _⟩
          · cases e
          · cases e; exact hg'
        have hBrq : Below wr3.heap.size wr3 wr := hBrN.trans (hBq.mono hBrN.size)
        have hTb : ∀ wx, Below wr.heap.size wr wx → Tabs wx := fun wx h => HTL.out.below (hBlq.trans (h.mono hBlq.size)) htsl
        have HTB := Lib.hid hTb
        have HLQ := Lib.hid (HLOG.out.below hBrq)
        have HRQ := Lib.hid (HR4N.out.below hBq (Nat.le_refl _))
        have hR1 : RdC wr (some ⟨b, 0, none⟩) ([kr0].flatMap Ent.cells) := by
          have h := rdc_take HRQ.out 39
          rwa [← HRS.out, kR_take] at h
        have HR1 := Lib.hid hR1
        have hsl1 : ∀ w, (Instr.slice 68 (.slice (some ⟨b, 0, none⟩) 3 c4) none (some (.int .i64 1)) none).run Tryd.prog w = .ok (.slice (some ⟨b, 0, none⟩) 1 c4) w := fun w => run_slice_toS (P := Tryd.prog) 68 73 39 Tryd.underlying68 entSize (some ⟨b, 0, none⟩) 3 c4 1 (by omega) w
        have hksum : kr2.sum.length = 32 := wdig_length _
        have HKS := Lib.hid hksum
        obtain ⟨kh, hkh⟩ : ∃ kh, kr2.sum = kh := ⟨_, rfl⟩
        have HV1 := Lib.hid (show verify [kr0] kh = (2, 24) by rw [← hkh]; exact kn_ver1)
        have HV2 := Lib.hid (show verify [kr0, kt1, kr2] kh = (2, 24) by rw [← hkh]; exact kn_ver2)
        rw [hkh] at HHP HKS
        have hcw : ((2 : Nat) : Int) = 2 := rfl
        have hS0 : OnlyS wr wr.drew := ⟨trivial, (Below.refl _ _).drew⟩
        have hf0 : kr0.Fit := HRFIT.out kr0 (by rw [← HRS.out]; simp)
        have HF0 := Lib.hid hf0
        clear hR1 hTb hksum hkh hf0
        (repeat' ((fail_if_success at_builtin); first | go_values | go_skip | go_guarded | go_step | go_upon))
        refine wp_region_noPanic ?_
        refine wp_region_held_drew (S := OnlyS wr) (by kernel_rfl) ?_ (fun hHeld => ?_)
        · (exact hS0)
        refine wpAnyH_take (i := 0) (oi := _) (v := ?_) rfl (by kernel_rfl) (by kernel_rfl) (by kernel_rfl) (fun _ _ _ h => h) (Or.inl ⟨by rfl, ?_⟩) (by assumption) ?_
        rotate_left 1
        · (intro w hSw; (try dsimp only at hSw); go_simp; all_goals (with_reducible rfl))
        try simp only [Act.put, List.getElem_toArray, List.getElem_cons_zero, List.getElem_cons_succ, List.setIfInBounds_toArray, List.set_cons_zero, List.set_cons_succ]
        refine wpAnyH_take (i := 1) (oi := _) (v := ?_) rfl (by kernel_rfl) (by kernel_rfl) (by kernel_rfl) (fun _ _ _ h => h) (Or.inl ⟨by rfl, ?_⟩) (by assumption) ?_
        rotate_left 1
        · (intro w hSw; (try dsimp only at hSw); go_simp; all_goals (with_reducible rfl))
        try simp only [Act.put, List.getElem_toArray, List.getElem_cons_zero, List.getElem_cons_succ, List.setIfInBounds_toArray, List.set_cons_zero, List.set_cons_succ]
        refine wpAnyH_take (i := 2) (oi := _) (v := ?_) rfl (by kernel_rfl) (by kernel_rfl) (by kernel_rfl) (fun _ _ _ h => h) (Or.inl ⟨by rfl, ?_⟩) (by assumption) ?_
        rotate_left 1
        · (intro w hSw; (try dsimp only at hSw); go_simp; all_goals (with_reducible rfl))
        try simp only [Act.put, List.getElem_toArray, List.getElem_cons_zero, List.getElem_cons_succ, List.setIfInBounds_toArray, List.set_cons_zero, List.set_cons_succ]
        refine wpAnyH_ready (rs := [3]) (by kernel_rfl) (by simp) ?_
        refine AllReadyH.cons (o := _) rfl (fun K hK => ?_) ?_
        rotate_left 1
        · exact AllReadyH.nil
        go_simp
        go_at_call 73
        refine (auditHead S g 3 f annBA kh _ (HLQ.out.below hHeld.2) annBA_le (by omega) HHP.out).mono ?_
        rintro _ wA ⟨rfl, hBA⟩
        dsimp only
        refine hK.out _ _ ?_ (fun hHeld => ?_)
        · (apply onlys_below; assumption; assumption)
        clear hK K
        try simp only [Act.put, List.getElem_toArray, List.getElem_cons_zero, List.getElem_cons_succ, List.setIfInBounds_toArray, List.set_cons_zero, List.set_cons_succ]
        refine wpAnyH_ready (rs := [4]) (by kernel_rfl) (by simp) ?_
        refine AllReadyH.cons (o := _) rfl (fun K hK => ?_) ?_
        rotate_left 1
        · exact AllReadyH.nil
        go_simp
        go_at_call 68
        refine (auditVerify (some ⟨b, 0, none⟩) 1 c4 [kr0] kh 2 24 _ HV1.out (HTB.out _ hHeld.2) (HR1.out.below hHeld.2 (Nat.le_refl _)) (fun x hx => by rw [List.mem_singleton.1 hx];exact ⟨HF0.out.ok, HF0.out.str, HF0.out.sub⟩) rfl (by omega) (by omega) HKS.out).mono ?_
        rintro _ wB ⟨rfl, hBB⟩
        dsimp only
        refine hK.out _ _ ?_ (fun hHeld => ?_)
        · (apply onlys_below; assumption; assumption)
        clear hK K
        try simp only [Act.put, List.getElem_toArray, List.getElem_cons_zero, List.getElem_cons_succ, List.setIfInBounds_toArray, List.set_cons_zero, List.set_cons_succ]
        refine wpAnyH_take (i := 5) (oi := _) (v := ?_) rfl (by kernel_rfl) (by kernel_rfl) (by kernel_rfl) (fun _ _ _ h => h) (Or.inl ⟨by rfl, ?_⟩) (by assumption) ?_
        rotate_left 1
        · (intro w hSw; (try dsimp only at hSw); go_simp; all_goals (with_reducible rfl))
        try simp only [Act.put, List.getElem_toArray, List.getElem_cons_zero, List.getElem_cons_succ, List.setIfInBounds_toArray, List.set_cons_zero, List.set_cons_succ]
        refine wpAnyH_take (i := 6) (oi := _) (v := ?_) rfl (by kernel_rfl) (by kernel_rfl) (by kernel_rfl) (fun _ _ _ h => h) (Or.inl ⟨by rfl, ?_⟩) (by assumption) ?_
        rotate_left 1
        · (intro w hSw; (try dsimp only at hSw); go_simp; all_goals (with_reducible rfl))
        try simp only [Act.put, List.getElem_toArray, List.getElem_cons_zero, List.getElem_cons_succ, List.setIfInBounds_toArray, List.set_cons_zero, List.set_cons_succ]
        refine wpAnyH_take (i := 7) (oi := _) (v := ?_) rfl (by kernel_rfl) (by kernel_rfl) (by kernel_rfl) (fun _ _ _ h => h) (Or.inl ⟨by rfl, ?_⟩) (by assumption) ?_
        rotate_left 1
        · (intro w hSw; (try dsimp only at hSw); go_simp; all_goals (with_reducible rfl))
        try simp only [Act.put, List.getElem_toArray, List.getElem_cons_zero, List.getElem_cons_succ, List.setIfInBounds_toArray, List.set_cons_zero, List.set_cons_succ]
        refine wpAnyH_take (i := 8) (oi := _) (v := ?_) rfl (by kernel_rfl) (by kernel_rfl) (by kernel_rfl) (fun _ _ _ h => h) (Or.inl ⟨by rfl, ?_⟩) (by assumption) ?_
        rotate_left 1
        · (intro w hSw; (try dsimp only at hSw); go_simp; all_goals (with_reducible rfl))
        try simp only [Act.put, List.getElem_toArray, List.getElem_cons_zero, List.getElem_cons_succ, List.setIfInBounds_toArray, List.set_cons_zero, List.set_cons_succ]
        refine wpAnyH_take (i := 9) (oi := _) (v := ?_) rfl (by kernel_rfl) (by kernel_rfl) (by kernel_rfl) (fun _ _ _ h => h) (Or.inl ⟨by rfl, ?_⟩) (by assumption) ?_
        rotate_left 1
        · (intro w hSw; (try dsimp only at hSw); go_simp; all_goals (with_reducible rfl))
        try simp only [Act.put, List.getElem_toArray, List.getElem_cons_zero, List.getElem_cons_succ, List.setIfInBounds_toArray, List.set_cons_zero, List.set_cons_succ]
        refine wpAnyH_done (by kernel_rfl) ?_ _
        refine NoPanic.normal ?_
        have hqB : Below wr.heap.size wr wB := hHeld.2
        have hNB : Below wN.heap.size wN wB := hBq.trans (hqB.mono hBq.size)
        have h3B : Below wr3.heap.size wr3 wB := hBrq.trans (hqB.mono hBrq.size)
        have hlB : Below wl.heap.size wl wB := hBlq.trans (hqB.mono hBlq.size)
        have HOB := Lib.hid (owns_below HO4N.out hNB (Nat.le_refl _))
        have HRB := Lib.hid (HR4N.out.below hNB (Nat.le_refl _))
        obtain ⟨cur, hcur⟩ : ∃ cur, wB.heap[b]? = some (.cells cur 73 (0, 0)) := by
          rcases HOB.out.2 with ⟨e, _⟩ | ⟨g', cap, cur, e, _, hh, _⟩
          · cases e
          · cases e; exact ⟨cur, hh⟩
        have hc40 : wB.cell? ⟨b, 40, none⟩ = some (.int .i64 6) := by
          obtain ⟨b', off', e, h⟩ := HRB.out.at_ 40 (by rw [ents_length rs (fun x hx => (HRFIT.out x hx).ok.sum), HRL3.out]; omega)
          cases e
          rw [Nat.zero_add, ← HRS.out, kR_clock] at h
          exact h
        have hf40 := frozen_of_row wB b 40 _ _ hcur
        clear hHeld hS0 hBA hBB hcur hsl1
        (repeat' ((fail_if_success at_builtin); (fail_if_success (show wpList _ _ _ ({ dst := some 141, op := _, type := _, pos := _, after := _, guard := _ } :: _) _ _)); first | (fail) | go_values | go_skip | go_guarded | go_step | go_upon))
        obtain ⟨wC, hwC⟩ : ∃ wC, wB.setCell ⟨b, 40, none⟩ (.int .i64 7) = wC := ⟨_, rfl⟩
        rw [hwC]
        have hBC : Below wr3.heap.size wr3 wC := by rw [← hwC]; exact h3B.setCell hbw _
        have hlC : Below wl.heap.size wl wC := by rw [← hwC]; exact hlB.setCell (Nat.le_trans hBr.size hbw) _
        have HRC := Lib.hid (show RdC wC (some ⟨b, 0, none⟩) ([kr0, kt1, kr2].flatMap Ent.cells) by
          rw [kt1_cells, HRS.out, ← hwC]
          exact rdc_set HRB.out 40 (by rw [ents_length rs (fun x hx => (HRFIT.out x hx).ok.sum), HRL3.out]; omega) _)
        have HLC := Lib.hid (HLOG.out.below hBC)
        have HTC := Lib.hid (HTL.out.below hlC htsl)
        have htsC := HTC.out.size
        have HF3 := Lib.hid (show ∀ x ∈ [kr0, kt1, kr2], x.Ok ∧ x.stream.size ≤ 4096 ∧ x.subject.size ≤ 4096 by
          have g0 := HRFIT.out kr0 (by rw [← HRS.out]; simp)
          have g1 := HRFIT.out kr1 (by rw [← HRS.out]; simp)
          have g2 := HRFIT.out kr2 (by rw [← HRS.out]; simp)
          intro x hx
          simp at hx
          rcases hx with rfl | rfl | rfl
          · exact ⟨g0.ok, g0.str, g0.sub⟩
          · exact ⟨⟨g1.ok.no, ⟨by show (-9223372036854775808 : Int) ≤ 7; omega, by show (7 : Int) ≤ 9223372036854775807; omega⟩, g1.ok.kind, g1.ok.code, g1.ok.id, g1.ok.stream, g1.ok.subject, g1.ok.sum⟩, g1.str, g1.sub⟩
          · exact ⟨g2.ok, g2.str, g2.sub⟩)
        clear hwC hc40 hf40
        (repeat' ((fail_if_success at_builtin); first | go_values | go_skip | go_guarded | go_step | go_upon))
        refine (auditHead S g 3 f annBA kh wC HLC.out annBA_le (by omega) HHP.out).mono ?_
        rintro _ wD ⟨rfl, hCD⟩
        dsimp only
        (repeat' ((fail_if_success at_builtin); first | go_values | go_skip | go_guarded | go_step | go_upon))
        refine (auditVerify (some ⟨b, 0, none⟩) 3 c4 [kr0, kt1, kr2] kh 2 24 wD HV2.out (HTC.out.below hCD htsC) (HRC.out.below hCD (Nat.le_refl _)) HF3.out rfl hc4 (by omega) HKS.out).mono ?_
        rintro _ wE ⟨rfl, hDE⟩
        dsimp only
        have hCE := hCD.trans (hDE.mono hCD.size)
        have hlE : Below wl.heap.size wl wE := hlC.trans (hCE.mono hlC.size)
        (repeat' ((fail_if_success at_builtin); first | go_values | go_skip | go_guarded | go_step | go_upon))
        refine (works21 wE (HTL.out.below hlE htsl)).mono ?_
        rintro _ wF ⟨rfl, hEF⟩
        dsimp only
        (repeat' ((fail_if_success at_builtin); first | go_values | go_skip | go_guarded | go_step | go_upon))
        go_ret
        exact ⟨rfl, hBl.trans ((hlE.trans (hEF.mono hlE.size)).mono hBl.size)⟩

end Go.Proofs.YtdpfemhfmofmlaaDoor
