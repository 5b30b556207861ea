/- Maps with texts as keys: what stands at each key, whatever kind of value it is. -/
import Derived.Test.YthgaghpakioglaaLib
import Derived.Maps.OwnSet
namespace Go.Proofs.Ythgaghpakioglaa
open Go.RowKit
open Go.Maps (Keyed)
open Go.WideMaps (keyOf_string_mk)

/-- A value, told as it is. -/
def hold (v : Value) : Option (DataW Value × List MemPlace) := some (.held v, [])
def skey (s : ByteArray) : Lit := .string s.data.toList
theorem skey_inj {a b : ByteArray} (h : skey a = skey b) : a = b := by
  cases a; cases b
  simp [skey] at h
  simp [h]
theorem skey_ne {a b : ByteArray} (h : a ≠ b) : skey a ≠ skey b := fun e => h (skey_inj e)
theorem skey_key (s : ByteArray) : WideAt.IsKeyLit (skey s) := trivial

/-- Block b of w is a map with n entries; f tells what stands at a key. -/
structure SMap (P : Program) (k : TypeId) (w : World) (b n : Nat) (f : ByteArray → Option Value) : Prop where
  out : ∃ D : DataW Value, w.ownsMap P k hold b n D ∧ Maps.size D = n ∧ ∀ s, (f s = none → Maps.has D (skey s) = false) ∧ ∀ v, f s = some v → Maps.has D (skey s) = true ∧ ∀ z, D.atKey (skey s) z = .held v

variable {P : Program} {k t e : TypeId} {w w' : World} {b n : Nat} {f : ByteArray → Option Value}

theorem SMap.made (P : Program) (k : TypeId) (w : World) : SMap P k (w.alloc (.map #[] 0)) w.heap.size 0 (fun _ => none) :=
  ⟨.map [], World.ownsMap_made w P k hold, rfl, fun s => ⟨fun _ => rfl, fun v h => by cases h⟩⟩
theorem SMap.lt (h : SMap P k w b n f) : b < w.heap.size := by obtain ⟨D, h1, _⟩ := h; exact h1.lt
theorem SMap.kept {row : Option Nat} (h : SMap P k w b n f) (hg : w.grownBy w' row) (hne : some b ≠ row) : SMap P k w' b n f := by
  obtain ⟨D, h1, h2, h3⟩ := h; exact ⟨D, h1.kept hg hne, h2, h3⟩
theorem SMap.alloc (h : SMap P k w b n f) (o : Obj) : SMap P k (w.alloc o) b n f := h.kept (World.grownBy_alloc w o none) (by simp)
theorem SMap.block (h : SMap P k w b n f) (hb : w'.heap[b]? = w.heap[b]?) : SMap P k w' b n f := by
  obtain ⟨D, ⟨es, clock, h0, h1⟩, h2, h3⟩ := h; exact ⟨D, ⟨es, clock, hb.trans h0, h1⟩, h2, h3⟩
theorem SMap.below {B : Nat} (h : SMap P k w b n f) (hB : Below B w w') (hb : b < B) : SMap P k w' b n f := h.block (hB.block b hb)
theorem SMap.still (h : SMap P k w b n f) (hs : Still w w') : SMap P k w' b n f := h.block (by rw [hs.heap])
theorem SMap.congr {g : ByteArray → Option Value} (h : SMap P k w b n f) (e : ∀ s, g s = f s) : SMap P k w b n g := by
  obtain ⟨D, h1, h2, h3⟩ := h; exact ⟨D, h1, h2, fun s => by rw [e s]; exact h3 s⟩
theorem SMap.row (h : SMap P k w b n f) : ∃ es clock, w.heap[b]? = some (.map es clock) := by
  obtain ⟨D, ⟨es, clock, h0, _⟩, _⟩ := h; exact ⟨es, clock, h0⟩
theorem SMap.ne {g : Nat} {cs : Array Value} {ty : TypeId} {fr : Nat × Nat} (h : SMap P k w b n f) (hg : w.heap[g]? = some (.cells cs ty fr)) : b ≠ g := by
  obtain ⟨es, clock, h0⟩ := h.row
  intro e; subst e; rw [h0] at hg; cases hg

theorem SMap.lookup (h : SMap P k w b n f) (hk : P.underlying k = some .string) (ht : P.underlying t = some (.map k e)) {z : Value} (hz : (zeroValue e).run P w = .ok z w) (s : ByteArray) (hs : s.size ≤ maxLen) :
    (Instr.lookup t (.map (some b)) (.string s) false).run P w = .ok ((f s).getD z) w := by
  obtain ⟨D, h1, _, h3⟩ := h
  obtain ⟨v, ps, hrun, hv⟩ := h1.lookup (Maps.string_keyed hk) ht hz (zd := .held z) (zp := []) rfl (keyOf_string_mk hk hs)
  obtain ⟨h4, h5⟩ := h3 s
  rw [hrun]
  cases hf : f s with
  | none =>
    have h6 := Maps.atKey_of_not_has (h4 hf) (.held z)
    have h7 : some ((DataW.held v : DataW Value), ([] : List MemPlace)) = some (D.atKey (skey s) (.held z), ps) := hv
    rw [h6] at h7
    simp only [Option.some.injEq, Prod.mk.injEq, DataW.held.injEq] at h7
    rw [h7.1]; rfl
  | some v' =>
    have h6 := (h5 v' hf).2 (.held z)
    have h7 : some ((DataW.held v : DataW Value), ([] : List MemPlace)) = some (D.atKey (skey s) (.held z), ps) := hv
    rw [h6] at h7
    simp only [Option.some.injEq, Prod.mk.injEq, DataW.held.injEq] at h7
    rw [h7.1]; rfl

theorem SMap.len (h : SMap P k w b n f) (ht : P.underlying t = some (.map k e)) (ty : TypeId) : (Builtin.len_ #[t] ty #[.map (some b)]).run P w = .ok (.int .i64 n) w := by
  obtain ⟨D, h1, h2, _⟩ := h
  rw [h1.len ht ty, h2]

/-- The map behind a store. -/
def sput (f : ByteArray → Option Value) (s : ByteArray) (v : Value) : ByteArray → Option Value := fun x => if x = s then some v else f x
def sputN (f : ByteArray → Option Value) (s : ByteArray) (n : Nat) : Nat := if (f s).isSome then n else n + 1
theorem owns_exact {D : DataW Value} (h : w.ownsMap P k hold b n D) {m : Nat} (hm : Maps.size D ≤ m) : w.ownsMap P k hold b m D := by
  obtain ⟨es, clock, h0, F, _, rfl⟩ := h
  refine ⟨es, clock, h0, F, ?_, rfl⟩
  simpa [Maps.size, length_sorted] using hm

theorem SMap.update (h : SMap P k w b n f) (hk : P.underlying k = some .string) (ht : P.underlying t = some (.map k e)) (hn : n < maxLen) (s : ByteArray) (hs : s.size ≤ maxLen) (v : Value) :
    ∃ w', (Instr.mapUpdate t (.map (some b)) (.string s) v).run P w = .ok () w' ∧ SMap P k w' b (sputN f s n) (sput f s v) ∧ w.grownBy w' (some b) := by
  obtain ⟨D, h1, h2, h3⟩ := h
  obtain ⟨w', hrun, h4, h5⟩ := h1.update (Maps.string_keyed hk) ht hn (keyOf_string_mk hk hs) (val := v) (d := .held v) (ps := []) rfl
  have hT := h1.tidy (Maps.string_keyed hk)
  have hsz : Maps.size (D.put (skey s) (.held v)) = sputN f s n := by
    rw [Maps.size_put hT, h2]
    obtain ⟨h6, h7⟩ := h3 s
    unfold sputN
    cases hf : f s with
    | none => rw [h6 hf]; rfl
    | some v' => rw [(h7 v' hf).1]; rfl
  refine ⟨w', hrun, ⟨D.put (skey s) (.held v), owns_exact h4 (Nat.le_of_eq hsz), hsz, fun x => ?_⟩, h5⟩
  by_cases hx : x = s
  · subst hx
    refine ⟨fun hf => ?_, fun v' hf => ?_⟩
    · simp [sput] at hf
    · simp [sput] at hf
      subst hf
      exact ⟨Maps.has_put_same hT.isMap (skey_key x) _, fun z => Maps.atKey_put_same hT.isMap (skey_key x) _ z⟩
  · have hne := skey_ne hx
    obtain ⟨h6, h7⟩ := h3 x
    have e : sput f s v x = f x := if_neg hx
    rw [e]
    refine ⟨fun hf => by rw [Maps.has_put_other hne]; exact h6 hf, fun v' hf => ⟨by rw [Maps.has_put_other hne]; exact (h7 v' hf).1, fun z => by rw [Maps.atKey_put_other hne]; exact (h7 v' hf).2 z⟩⟩

/-- The steps, for a plain statement and for one that draws its order. -/
theorem wpList_lookup_s {ops : Array Oper} {rest : List Oper} {o : Oper} {a : Act} {Q : Exit → Act → World → Prop} (hg : o.guard = none) (m x : Operand) (hop : o.op = Op.lookup t m x false)
    (hk : P.underlying k = some .string) (ht : P.underlying t = some (.map k e)) {z : Value} (hz : (zeroValue e).run P w = .ok z w) (hm : a.eval m = .map (some b)) (h : SMap P k w b n f) (s : ByteArray) (hx : a.eval x = .string s) (hs : s.size ≤ maxLen)
    (hK : wpList P ops Q rest (a.put o.dst ((f s).getD z)) w) : wpList P ops Q (o :: rest) a w := by
  refine wpList_plain hg fun K' hK' => ?_
  unfold Oper.wp
  simp [execOp, hop, hm, hx, h.lookup hk ht hz s hs, Result.andThen]
  exact hK' _ _ hK
theorem wpList_mapUpdate_s {ops : Array Oper} {rest : List Oper} {o : Oper} {a : Act} {Q : Exit → Act → World → Prop} (hg : o.guard = none) (m x y : Operand) (hop : o.op = Op.mapUpdate t m x y)
    (hk : P.underlying k = some .string) (ht : P.underlying t = some (.map k e)) (hm : a.eval m = .map (some b)) (h : SMap P k w b n f) (hn : n < maxLen) (s : ByteArray) (hx : a.eval x = .string s) (hs : s.size ≤ maxLen) (v : Value) (hy : a.eval y = v)
    (hK : ∀ w', SMap P k w' b (sputN f s n) (sput f s v) → w.grownBy w' (some b) → wpList P ops Q rest (a.put o.dst undef) w') : wpList P ops Q (o :: rest) a w := by
  refine wpList_plain hg fun K' hK' => ?_
  obtain ⟨w', hrun, r1, r2⟩ := h.update hk ht hn s hs v
  unfold Oper.wp
  simp [execOp, hop, hm, hx, hy, hrun, Result.andThen]
  exact hK' _ _ (hK w' r1 r2)
theorem wpList_len_s {ops : Array Oper} {rest : List Oper} {o : Oper} {a : Act} {Q : Exit → Act → World → Prop} (hg : o.guard = none) (m : Operand) (hop : o.op = Op.call { callee := Callee.builtin Builtin.len, args := #[m], argTypes := #[t] })
    (ht : P.underlying t = some (.map k e)) (hm : a.eval m = .map (some b)) (h : SMap P k w b n f)
    (hK : wpList P ops Q rest (a.put o.dst (.int .i64 n)) w) : wpList P ops Q (o :: rest) a w := by
  refine wpList_plain hg fun K' hK' => ?_
  unfold Oper.wp
  simp [execOp, hop, resolve, invoke, builtin, hm, h.len ht o.type, Result.andThen]
  exact hK' _ _ hK

end Go.Proofs.Ythgaghpakioglaa
