/- Rows of an audit: what they are, how they lie in memory, whether two are the same; how those that came in are opened. -/
import Derived.Test.YtdpfemhfmofmlaaDoorBase21
import Derived.Test.YtdpfemhfmofmlaaDoorNum
import Derived.Stop.BytesEq
namespace Go.Proofs.YtdpfemhfmofmlaaDoor
set_option linter.unusedSimpArgs false
set_option linter.unusedVariables false
open Go.RowKit
set_option maxRecDepth 10000

/-- A row. -/
structure Ent where
  no : Int
  clock : Int
  kind : Int
  code : Int
  id : Int
  stream : ByteArray
  subject : ByteArray
  sum : List UInt8
theorem Ent.ext' {x y : Ent} (h1 : x.no = y.no) (h2 : x.clock = y.clock) (h3 : x.kind = y.kind) (h4 : x.code = y.code) (h5 : x.id = y.id) (h6 : x.stream = y.stream) (h7 : x.subject = y.subject) (h8 : x.sum = y.sum) : x = y := by
  cases x; cases y; simp_all
instance : DecidableEq Ent := fun x y => decidable_of_iff (x.no = y.no ∧ x.clock = y.clock ∧ x.kind = y.kind ∧ x.code = y.code ∧ x.id = y.id ∧ x.stream = y.stream ∧ x.subject = y.subject ∧ x.sum = y.sum)
  ⟨fun ⟨h1, h2, h3, h4, h5, h6, h7, h8⟩ => Ent.ext' h1 h2 h3 h4 h5 h6 h7 h8, fun e => by subst e; exact ⟨rfl, rfl, rfl, rfl, rfl, rfl, rfl, rfl⟩⟩

def Ent.front (x : Ent) : List Value := [.int .i64 x.no, .int .i64 x.clock, .int .i64 x.kind, .int .i64 x.code, .int .i64 x.id, .string x.stream, .string x.subject]
def Ent.cells (x : Ent) : List Value := x.front ++ bvs x.sum
def I64 (v : Int) : Prop := -9223372036854775808 ≤ v ∧ v ≤ 9223372036854775807
structure Ent.Ok (x : Ent) : Prop where
  no : I64 x.no
  clock : I64 x.clock
  kind : I64 x.kind
  code : I64 x.code
  id : I64 x.id
  stream : x.stream.size ≤ maxLen
  subject : x.subject.size ≤ maxLen
  sum : x.sum.length = 32
theorem Ent.cells_length {x : Ent} (h : x.sum.length = 32) : x.cells.length = 39 := by
  unfold Ent.cells Ent.front; rw [List.length_append, bvs_length, h]; rfl
theorem Ent.cells_oneCell (x : Ent) : ∀ u ∈ x.cells, u.oneCell' = true := by
  intro u hu
  rcases List.mem_append.1 hu with h | h
  · simp [Ent.front] at h
    rcases h with rfl | rfl | rfl | rfl | rfl | rfl | rfl <;> rfl
  · exact bvs_oneCell _ u h

/-- The bytes of which a row's next digest is the sum. -/
def Ent.bytes (p : List UInt8) (x : Ent) : List UInt8 := p ++ be8 x.no ++ be8 x.clock ++ be8 x.kind ++ be8 x.code ++ be8 x.id ++ be8 x.stream.size ++ x.stream.data.toList ++ be8 x.subject.size ++ x.subject.data.toList

theorem ox_ent {H : Type} {enc : TypeId × Value → H} {w : World} {fuel : Nat} {cs : List Value} {y : DataW H × List MemPlace} (h : Reads enc Tryd.prog w fuel 73 cs y) : ∃ x : Ent, cs = x.cells ∧ x.Ok := by
  obtain ⟨hl, n, hf⟩ := ox_struct Tryd.underlying73 h
  have hl' : cs.length = 39 := by rw [hl]; kernel_rfl
  obtain ⟨y0, h0⟩ := hf 0 _ rfl
  obtain ⟨y1, h1⟩ := hf 1 _ rfl
  obtain ⟨y2, h2⟩ := hf 2 _ rfl
  obtain ⟨y3, h3⟩ := hf 3 _ rfl
  obtain ⟨y4, h4⟩ := hf 4 _ rfl
  obtain ⟨y5, h5⟩ := hf 5 _ rfl
  obtain ⟨y6, h6⟩ := hf 6 _ rfl
  obtain ⟨y7, h7⟩ := hf 7 _ rfl
  obtain ⟨v0, e0, m0⟩ := ox_int Tryd.underlying3 h0
  obtain ⟨v1, e1, m1⟩ := ox_int Tryd.underlying3 h1
  obtain ⟨v2, e2, m2⟩ := ox_int Tryd.underlying3 h2
  obtain ⟨v3, e3, m3⟩ := ox_int Tryd.underlying64 h3
  obtain ⟨v4, e4, m4⟩ := ox_int Tryd.underlying3 h4
  obtain ⟨t5, e5, m5⟩ := ox_str Tryd.underlying9 h5
  obtain ⟨t6, e6, m6⟩ := ox_str Tryd.underlying9 h6
  obtain ⟨s7, m7, e7⟩ := ox_sum Tryd.underlying26 Tryd.underlying5 (by kernel_rfl) (by kernel_rfl) h7
  have c3 : Tryd.prog.cellsOf 3 = 1 := by kernel_rfl
  have cE : Tryd.prog.cellsOf 64 = 1 := by kernel_rfl
  have c9 : Tryd.prog.cellsOf 9 = 1 := by kernel_rfl
  have cS : Tryd.prog.cellsOf 26 = 32 := by kernel_rfl
  have e0' : (cs.drop 0).take 1 = [.int .i64 v0] := by rw [← c3]; exact e0
  have e1' : (cs.drop 1).take 1 = [.int .i64 v1] := by rw [← c3]; exact e1
  have e2' : (cs.drop 2).take 1 = [.int .i64 v2] := by rw [← c3]; exact e2
  have e3' : (cs.drop 3).take 1 = [.int .i64 v3] := by rw [← cE]; exact e3
  have e4' : (cs.drop 4).take 1 = [.int .i64 v4] := by rw [← c3]; exact e4
  have e5' : (cs.drop 5).take 1 = [.string t5] := by rw [← c9]; exact e5
  have e6' : (cs.drop 6).take 1 = [.string t6] := by rw [← c9]; exact e6
  have e7' : (cs.drop 7).take 32 = bvs s7 := by rw [← cS]; exact e7
  refine ⟨⟨v0, v1, v2, v3, v4, t5, t6, s7⟩, ?_, ⟨m0, m1, m2, m3, m4, m5, m6, m7⟩⟩
  unfold Ent.cells Ent.front
  have hd : cs = cs.drop 0 := rfl
  rw [hd, peel cs 0 1, peel cs (0 + 1) 1, peel cs (0 + 1 + 1) 1, peel cs (0 + 1 + 1 + 1) 1, peel cs (0 + 1 + 1 + 1 + 1) 1, peel cs (0 + 1 + 1 + 1 + 1 + 1) 1, peel cs (0 + 1 + 1 + 1 + 1 + 1 + 1) 1, peel_end cs (0 + 1 + 1 + 1 + 1 + 1 + 1 + 1) 32 (by omega), e0', e1', e2', e3', e4', e5', e6', e7']
  rfl

/-- Rows, one behind the other. -/
theorem ents_length (xs : List Ent) (hok : ∀ x ∈ xs, x.sum.length = 32) : (xs.flatMap Ent.cells).length = xs.length * 39 := by
  induction xs with
  | nil => simp
  | cons x xs ih => rw [List.flatMap_cons, List.length_append, ih (fun y hy => hok y (List.mem_cons_of_mem _ hy)), Ent.cells_length (hok x List.mem_cons_self), List.length_cons, Nat.add_mul]; omega
theorem ents_get : ∀ (xs : List Ent), (∀ x ∈ xs, x.sum.length = 32) → ∀ (k : Nat) (hk : k < xs.length) (j : Nat), j < 39 → (xs.flatMap Ent.cells)[k * 39 + j]? = xs[k].cells[j]?
  | [], _, k, hk, _, _ => by simp at hk
  | x :: xs, hok, 0, _, j, hj => by
    rw [List.flatMap_cons, List.getElem?_append_left (by rw [Ent.cells_length (hok x List.mem_cons_self)]; omega)]
    simp
  | x :: xs, hok, k + 1, hk, j, hj => by
    have h1 := Ent.cells_length (hok x List.mem_cons_self)
    rw [List.flatMap_cons, List.getElem?_append_right (by rw [h1]; omega), h1, show (k + 1) * 39 + j - 39 = k * 39 + j by omega, ents_get xs (fun y hy => hok y (List.mem_cons_of_mem _ hy)) k (by simpa using hk) j hj]
    simp
theorem ents_at {w : World} {a : Option Addr} {xs : List Ent} (h : RdC w a (xs.flatMap Ent.cells)) (hok : ∀ x ∈ xs, x.sum.length = 32) (k : Nat) (hk : k < xs.length) : ∃ b off, a = some ⟨b, off, none⟩ ∧ w.rangeAt b (off + k * 39) (xs[k].cells) := by
  have hl := ents_length xs hok
  obtain ⟨b, off, rfl, _⟩ := h.lt (by rw [hl]; omega)
  refine ⟨b, off, rfl, fun j v hj => ?_⟩
  have hj' : j < 39 := by rw [← Ent.cells_length (hok xs[k] (List.getElem_mem hk))]; exact (List.getElem?_eq_some_iff.1 hj).1
  have := h.cell (k * 39 + j) (by rw [hl]; omega)
  rw [Nat.add_assoc, this, ← hj, ← List.getElem?_eq_getElem]
  exact ents_get xs hok k hk j hj'

theorem entSize : (Tryd.prog.info? 73).map (·.size) = some 39 := by kernel_rfl

theorem eqFields_step {P : Program} (w : World) (d : Nat) (xs ys : Array Value) (f : Field) (fs : List Field) (a b : Value) (r : Bool) (hn : f.name ≠ "_") (h1 : (part f.type xs f.offset).run P w = .ok a w) (h2 : (part f.type ys f.offset).run P w = .ok b w) (h3 : (Op.equalIn d f.type a b).run P w = .ok r w) :
    (Op.eqFields d xs ys (f :: fs)).run P w = if r = true then (Op.eqFields d xs ys fs).run P w else .ok false w := by
  simp only [Op.eqFields, hn, ne_eq, not_false_eq_true, if_true, Sem.run_bind, h1, h2, h3, Result.andThen_ok]
  cases r <;> simp
theorem part_plain {P : Program} (w : World) {e : TypeId} (he : P.plainKey e = true) {l : List Value} {off : Nat} {v : Value} (hx : l[off]? = some v) : (part e l.toArray off).run P w = .ok v w :=
  run_part_plain w he (by simpa using hx)
theorem part_sum (w : World) (pre : List Value) (s : List UInt8) (off : Nat) (hp : pre.length = off) (hs : s.length = 32) : (part 26 (pre ++ bvs s).toArray off).run Tryd.prog w = .ok (.agg (bvs s).toArray) w := by
  subst hp
  have h1 : (sizeOf 26).run Tryd.prog w = .ok 32 w := by kernel_rfl
  have h2 : (isAgg 26).run Tryd.prog w = .ok true w := by kernel_rfl
  have h3 : (pre ++ bvs s).toArray.extract pre.length (pre.length + 32) = (bvs s).toArray := by
    simp [List.take_of_length_le, bvs_length, hs]
  simp only [part, Sem.run_bind, h1, h2, Result.andThen_ok, if_true, h3, Sem.run_pure]
/-- Whether two rows are the same. -/
theorem eqFieldsEnt (w : World) (x y : Ent) (hx : x.sum.length = 32) (hy : y.sum.length = 32) : (Op.equalIn 10000 73 (.agg x.cells.toArray) (.agg y.cells.toArray)).run Tryd.prog w = .ok (decide (x = y)) w := by
  obtain ⟨x0, x1, x2, x3, x4, x5, x6, x7⟩ := x
  obtain ⟨y0, y1, y2, y3, y4, y5, y6, y7⟩ := y
  rw [run_equalIn_agg w 9999 73 _ _ (by kernel_rfl) (by kernel_rfl)]
  unfold Program.fieldsOf
  rw [Tryd.underlying73]
  dsimp only
  rw [eqFields_step w 9999 _ _ _ _ (.int .i64 x0) (.int .i64 y0) (x0 == y0) (by decide) (part_plain w (by kernel_rfl) rfl) (part_plain w (by kernel_rfl) rfl) (run_equalIn_int w 9998 _ _ _ _ _ Tryd.underlying3)]
  rw [eqFields_step w 9999 _ _ _ _ (.int .i64 x1) (.int .i64 y1) (x1 == y1) (by decide) (part_plain w (by kernel_rfl) rfl) (part_plain w (by kernel_rfl) rfl) (run_equalIn_int w 9998 _ _ _ _ _ Tryd.underlying3)]
  rw [eqFields_step w 9999 _ _ _ _ (.int .i64 x2) (.int .i64 y2) (x2 == y2) (by decide) (part_plain w (by kernel_rfl) rfl) (part_plain w (by kernel_rfl) rfl) (run_equalIn_int w 9998 _ _ _ _ _ Tryd.underlying3)]
  rw [eqFields_step w 9999 _ _ _ _ (.int .i64 x3) (.int .i64 y3) (x3 == y3) (by decide) (part_plain w (by kernel_rfl) rfl) (part_plain w (by kernel_rfl) rfl) (run_equalIn_int w 9998 _ _ _ _ _ Tryd.underlying64)]
  rw [eqFields_step w 9999 _ _ _ _ (.int .i64 x4) (.int .i64 y4) (x4 == y4) (by decide) (part_plain w (by kernel_rfl) rfl) (part_plain w (by kernel_rfl) rfl) (run_equalIn_int w 9998 _ _ _ _ _ Tryd.underlying3)]
  rw [eqFields_step w 9999 _ _ _ _ (.string x5) (.string y5) (x5.toList == y5.toList) (by decide) (part_plain w (by kernel_rfl) rfl) (part_plain w (by kernel_rfl) rfl) (run_equalIn_string w 9998 _ _ _ Tryd.underlying9)]
  rw [eqFields_step w 9999 _ _ _ _ (.string x6) (.string y6) (x6.toList == y6.toList) (by decide) (part_plain w (by kernel_rfl) rfl) (part_plain w (by kernel_rfl) rfl) (run_equalIn_string w 9998 _ _ _ Tryd.underlying9)]
  rw [eqFields_step w 9999 _ _ _ _ (.agg (bvs x7).toArray) (.agg (bvs y7).toArray) (x7 == y7) (by decide) (part_sum w _ x7 7 rfl hx) (part_sum w _ y7 7 rfl hy) (run_equalIn_bytes w 9997 26 5 32 Tryd.underlying26 Tryd.underlying5 (fun w => by kernel_rfl) x7 y7 hx hy)]
  have hs : ∀ a b : ByteArray, (a.toList == b.toList) = decide (a = b) := fun a b => by
    by_cases h : a = b
    · subst h; simp
    · rw [decide_eq_false h, ByteArray.toList_eq, ByteArray.toList_eq]
      simp only [beq_eq_false_iff_ne, ne_eq]
      exact fun h2 => h (by cases a; cases b; simp at h2; simp [h2])
  simp only [hs]
  by_cases e0 : x0 = y0 <;> by_cases e1 : x1 = y1 <;> by_cases e2 : x2 = y2 <;> by_cases e3 : x3 = y3 <;> by_cases e4 : x4 = y4 <;> by_cases e5 : x5 = y5 <;> by_cases e6 : x6 = y6 <;> by_cases e7 : x7 = y7 <;> simp [*, Op.eqFields]

end Go.Proofs.YtdpfemhfmofmlaaDoor
