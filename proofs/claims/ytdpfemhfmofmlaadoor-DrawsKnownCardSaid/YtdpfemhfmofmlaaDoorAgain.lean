/- Whatever is drawn in between (sealerylaw15.DrawsAgain): helpers. -/
import Derived.Test.YtdpfemhfmofmlaaDoorDrawsS
import Derived.Great.BuildSlice
namespace Go.Proofs.YtdpfemhfmofmlaaDoor
set_option linter.unusedSimpArgs false
set_option linter.unusedVariables false
open Go.RowKit
set_option maxRecDepth 10000

theorem keyInfo : (Tryd.prog.info? 52).map (fun i => (i.zero.map (·.cells), i.size, i.bytes)) = some (some (List.replicate 32 (Value.int .u8 0)).toArray, 32, 32) := by kernel_rfl
theorem keyInfo_parts : ∃ i z, Tryd.prog.info? 52 = some i ∧ i.zero = some z ∧ i.size = 32 ∧ i.bytes = 32 ∧ z.cells = (List.replicate 32 (Value.int .u8 0)).toArray := by
  have h := keyInfo
  cases hi : Tryd.prog.info? 52 with
  | none => rw [hi] at h; cases h
  | some i =>
    rw [hi] at h
    simp only [Option.map_some, Option.some.injEq, Prod.mk.injEq] at h
    obtain ⟨h1, h2, h3⟩ := h
    cases hz : i.zero with
    | none => rw [hz] at h1; cases h1
    | some z => rw [hz] at h1; simp only [Option.map_some, Option.some.injEq] at h1; exact ⟨i, z, rfl, hz, h2, h3, h1⟩

/-- '[]api.Key{k}', at a step of a statement that draws its order. -/
theorem step_build_key {ops : Array Oper} {o : Oper} {a : Act} {w : World} {K : Act → World → Prop} {Q : Exit → Act → World → Prop} {E : Prop} (hw : Region.wanted o (yielded ops a.tmps) = true) (x : Operand) (ho : o.op = .buildSlice 124 1 #[(0, x)]) (D : List UInt8) (hD : D.length = 32) (hx : a.eval x = .agg (bvs D).toArray)
    (h : ∀ w1, w1.heap[w.heap.size]? = some (.cells (bvs D).toArray 52 (0, 0)) → Below w.heap.size w w1 → w1.heap.size = w.heap.size + 1 → K (a.put o.dst (.slice (some ⟨w.heap.size, 0, none⟩) 1 1)) w1) :
    if Region.wanted o (yielded ops a.tmps) = true then Oper.wp Tryd.prog o a w K Q else E := by
  rw [if_pos hw]
  obtain ⟨ie, zv, hie, hzz, hsz, _, hzc⟩ := keyInfo_parts
  have hl : (bvs D).toArray.size = 32 := by rw [List.size_toArray, bvs_length, hD]
  refine wp_buildSlice 124 52 1 #[(0, x)] ho (bvs D).toArray ie zv Tryd.underlying124 hie hzz (by rw [hsz]; omega) (by rw [hsz]; omega) ?_ ?_
  · have hp : ((#[(0, x)] : Array (Nat × Operand)).map fun (i, y) => (i, a.eval y)).toList = (([Value.agg (bvs D).toArray] : List Value).zipIdx 0).map fun y => (y.2, y.1) := by
      simp [hx]
    have hf := Great.fill_whole (s := 32) (by omega) [Value.agg (bvs D).toArray] ((Array.range (1 * 32)).map (zv.cells[· % zv.cells.size]!)) (fun v hv => by rw [List.mem_singleton.1 hv]; exact hl) (by simp)
    rw [hp, hsz]
    refine hf.trans ?_
    simp [Value.cells]
  · exact h _ (heap_alloc_new w _) ((Below.refl _ _).alloc (Nat.le_refl _) _) (by simp)

theorem neqKeySame (D : List UInt8) (hD : D.length = 32) (w : World) : (binOp .neq 52 (.agg (bvs D).toArray) (.agg (bvs D).toArray)).run Tryd.prog w = .ok (.bool false) w := by
  rw [run_neq_struct, show bvs D = D.map Extern.Stop.cell from rfl, run_equalIn_bytes w 9998 52 5 32 Tryd.underlying52 Tryd.underlying5 (fun w => by kernel_rfl) D D hD hD]
  simp

/-- The key of what is asked for. -/
def Ask.key (x : Ask) : List UInt8 := hmac x.l (drawn x.t x.s x.v)
theorem Ask.key_length (x : Ask) : x.key.length = 32 := hmac_length _ _
def Ask.kcells (x : Ask) : List Value := bvs x.key
theorem Ask.kcells_length (x : Ask) : x.kcells.length = 32 := by unfold Ask.kcells; rw [bvs_length]; exact x.key_length

theorem keys_at {w : World} {a : Option Addr} {xs : List Ask} (h : RdC w a (xs.flatMap Ask.kcells)) (k : Nat) (hk : k < xs.length) : ∃ b off, a = some ⟨b, off, none⟩ ∧ w.rangeAt b (off + k * 32) (xs[k].kcells) := by
  have hl := flat_length Ask.kcells 32 Ask.kcells_length xs
  obtain ⟨b, off, rfl, _⟩ := h.lt (by rw [hl]; omega)
  refine ⟨b, off, rfl, fun j v hj => ?_⟩
  have hj' : j < 32 := by rw [← Ask.kcells_length xs[k]]; exact (List.getElem?_eq_some_iff.1 hj).1
  have := h.cell (k * 32 + j) (by rw [hl]; omega)
  rw [Nat.add_assoc, this, ← hj]
  have h2 := flat_get Ask.kcells 32 (by omega) Ask.kcells_length xs (k * 32 + j)
  rw [List.getElem?_eq_getElem (by rw [hl]; omega), show (k * 32 + j) / 32 = k by omega, show (k * 32 + j) % 32 = j by omega, List.getElem?_eq_getElem hk] at h2
  exact h2

/-- What stays while a key is drawn. -/
abbrev AgS (w : World) (b o : Nat) (xa : Option Addr) (xn xc : Nat) (xt xs : ByteArray) (xv : Int) (w' : World) : Prop :=
  (w'.cell? ⟨b, o, none⟩ = some (.slice xa xn xc) ∧ w'.cell? ⟨b, o + 1, none⟩ = some (.string xt) ∧ w'.cell? ⟨b, o + 2, none⟩ = some (.string xs) ∧ w'.cell? ⟨b, o + 3, none⟩ = some (.int .i64 xv)) ∧ (Tabs w' ∧ Below w.heap.size w w')
theorem ag_of {w w' : World} {b o : Nat} {xa : Option Addr} {xn xc : Nat} {xt xs : ByteArray} {xv : Int} (hT : Tabs w) (h : w.rangeAt b o [.slice xa xn xc, .string xt, .string xs, .int .i64 xv]) (hb : Below w.heap.size w w') : AgS w b o xa xn xc xt xs xv w' :=
  ⟨⟨cell_below hb (h 0 _ rfl) (Nat.le_refl _), cell_below hb (h 1 _ rfl) (Nat.le_refl _), cell_below hb (h 2 _ rfl) (Nat.le_refl _), cell_below hb (h 3 _ rfl) (Nat.le_refl _)⟩, hT.below hb hT.size, hb⟩

structure KeysRel (w : World) (xs : List Ask) (o i : Value) (wr : World) : Prop where
  out : ∃ k : Nat, k ≤ xs.length ∧ i = .int .i64 k ∧ Below w.heap.size w wr ∧ wr.ownsRow w.heap.size 52 32 o k ((xs.take k).flatMap Ask.kcells)

abbrev Ag2S (w : World) (b o fb fo : Nat) (xa : Option Addr) (xn xc : Nat) (xt xs : ByteArray) (xv : Int) (H : List UInt8) (w' : World) : Prop :=
  ((w'.rangeAt b o [.slice xa xn xc, .string xt, .string xs, .int .i64 xv] ∧ w'.rangeAt fb fo (bvs H)) ∧
   (w'.cell? ⟨b, o, none⟩ = some (.slice xa xn xc) ∧ w'.cell? ⟨b, o + 1, none⟩ = some (.string xt) ∧ w'.cell? ⟨b, o + 2, none⟩ = some (.string xs) ∧ w'.cell? ⟨b, o + 3, none⟩ = some (.int .i64 xv))) ∧ (Tabs w' ∧ Below w.heap.size w w')
theorem ag2_of {w w' : World} {b o fb fo : Nat} {xa : Option Addr} {xn xc : Nat} {xt xs : ByteArray} {xv : Int} {H : List UInt8} (hT : Tabs w) (h : w.rangeAt b o [.slice xa xn xc, .string xt, .string xs, .int .i64 xv]) (hk : w.rangeAt fb fo (bvs H)) (hb : Below w.heap.size w w') : Ag2S w b o fb fo xa xn xc xt xs xv H w' :=
  ⟨⟨⟨rangeAt_below h hb (Nat.le_refl _), rangeAt_below hk hb (Nat.le_refl _)⟩, (ag_of hT h hb).1⟩, hT.below hb hT.size, hb⟩
abbrev Ag3S (w : World) (b o o' fb fo fo' : Nat) (xa ya : Option Addr) (xn xc yn yc : Nat) (xt xs yt ys : ByteArray) (xv yv : Int) (H H' : List UInt8) (w' : World) : Prop :=
  ((w'.rangeAt b o [.slice xa xn xc, .string xt, .string xs, .int .i64 xv] ∧ w'.rangeAt b o' [.slice ya yn yc, .string yt, .string ys, .int .i64 yv] ∧ w'.rangeAt fb fo (bvs H) ∧ w'.rangeAt fb fo' (bvs H')) ∧
   (w'.cell? ⟨b, o, none⟩ = some (.slice xa xn xc) ∧ w'.cell? ⟨b, o', none⟩ = some (.slice ya yn yc))) ∧ (Tabs w' ∧ Below w.heap.size w w')
theorem ag3_of {w w' : World} {b o o' fb fo fo' : Nat} {xa ya : Option Addr} {xn xc yn yc : Nat} {xt xs yt ys : ByteArray} {xv yv : Int} {H H' : List UInt8} (hT : Tabs w) (h : w.rangeAt b o [.slice xa xn xc, .string xt, .string xs, .int .i64 xv]) (h' : w.rangeAt b o' [.slice ya yn yc, .string yt, .string ys, .int .i64 yv])
    (hk : w.rangeAt fb fo (bvs H)) (hk' : w.rangeAt fb fo' (bvs H')) (hb : Below w.heap.size w w') : Ag3S w b o o' fb fo fo' xa ya xn xc yn yc xt xs yt ys xv yv H H' w' :=
  ⟨⟨⟨rangeAt_below h hb (Nat.le_refl _), rangeAt_below h' hb (Nat.le_refl _), rangeAt_below hk hb (Nat.le_refl _), rangeAt_below hk' hb (Nat.le_refl _)⟩, (ag_of hT h hb).1.1, (ag_of hT h' hb).1.1⟩, hT.below hb hT.size, hb⟩

end Go.Proofs.YtdpfemhfmofmlaaDoor
