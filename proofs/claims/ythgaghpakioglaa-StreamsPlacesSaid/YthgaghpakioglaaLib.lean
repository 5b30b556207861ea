/- The lemmas on worlds, readings and appends that the walks of this seat use: no program stands in them. -/
import Derived.WalkKit
import Derived.WalkSpells
import Derived.BigQuiet
import Derived.Deep.QuietTactic
import Derived.Lib.Hide
import Derived.Deep.AppendSrc
import Derived.Laws.CopyOwn
import Derived.Maps.AppendAt
import Derived.Lib.BufferRead
import Derived.Lib.ConvBytes
import Derived.RegionCalls
import Derived.Deep.RegionWith
import Derived.Deep.MidRow
import Derived.Laws.ResultCell
namespace Go.Proofs.Ythgaghpakioglaa
open Go.RowKit

/-- The call returns a value, and R holds of it and of the world behind. -/
def Ret (R : Value → World → Prop) (e : Ending) (w : World) : Prop := ∃ v, e = .returned v ∧ R v w

/-- A byte as a cell. -/
def bv (c : UInt8) : Value := .int .u8 (c.toNat : Int)
def bvs (l : List UInt8) : List Value := l.map bv

theorem bvs_oneCell (l : List UInt8) : ∀ u ∈ bvs l, u.oneCell' = true := by
  intro u hu
  obtain ⟨_, _, rfl⟩ := List.mem_map.1 hu
  rfl

theorem bvs_snoc (l : List UInt8) (k : Nat) (h : k < l.length) : bvs (l.take k) ++ [bv l[k]] = bvs (l.take (k + 1)) := by
  unfold bvs
  rw [List.take_succ_eq_append_getElem h, List.map_append]
  rfl

theorem bvs_take (l : List UInt8) (n : Nat) : bvs (l.take n) = (bvs l).take n := by simp [bvs]
theorem bvs_drop (l : List UInt8) (n : Nat) : bvs (l.drop n) = (bvs l).drop n := by simp [bvs]

theorem bvs_append (l m : List UInt8) : bvs (l ++ m) = bvs l ++ bvs m := by simp [bvs]

theorem bvs_length (l : List UInt8) : (bvs l).length = l.length := by simp [bvs]

/-- Below B, and outside S, the world w' is as w was. -/
structure Frm (B : Nat) (S : Nat → Prop) (w w' : World) : Prop where
  os : w'.os = w.os
  tape : w'.tape = w.tape
  output : w'.output = w.output
  size : w.heap.size ≤ w'.heap.size
  block : ∀ k, k < B → ¬ S k → w'.heap[k]? = w.heap[k]?

theorem Frm.refl (B : Nat) (S : Nat → Prop) (w : World) : Frm B S w w := ⟨rfl, rfl, rfl, Nat.le_refl _, fun _ _ _ => rfl⟩
theorem Frm.trans {B : Nat} {S : Nat → Prop} {a b c : World} (h : Frm B S a b) (k : Frm B S b c) : Frm B S a c :=
  ⟨k.os.trans h.os, k.tape.trans h.tape, k.output.trans h.output, Nat.le_trans h.size k.size, fun i hi hs => (k.block i hi hs).trans (h.block i hi hs)⟩
theorem Frm.mono {B B' : Nat} {S S' : Nat → Prop} {a b : World} (h : Frm B S a b) (hB : B' ≤ B) (hS : ∀ k, k < B' → S k → S' k) : Frm B' S' a b :=
  ⟨h.os, h.tape, h.output, h.size, fun i hi hs => h.block i (Nat.lt_of_lt_of_le hi hB) (fun x => hs (hS i hi x))⟩
theorem Frm.ofBelow {B : Nat} {S : Nat → Prop} {a b : World} (h : Below B a b) : Frm B S a b := ⟨h.os, h.tape, h.output, h.size, fun i hi _ => h.block i hi⟩
theorem Frm.below {B : Nat} {a b : World} (h : Frm B (fun _ => False) a b) : Below B a b := ⟨h.os, h.tape, h.output, h.size, fun i hi => h.block i hi id⟩
theorem Frm.belowOf {B B' : Nat} {S : Nat → Prop} {a b : World} (h : Frm B S a b) (hB : B' ≤ B) (hS : ∀ k, S k → B' ≤ k) : Below B' a b :=
  ⟨h.os, h.tape, h.output, h.size, fun i hi => h.block i (by omega) (fun x => by have := hS i x; omega)⟩
theorem Frm.grownBy {g : Nat} {a b : World} (h : Frm a.heap.size (fun k => k = g) a b) : a.grownBy b (some g) :=
  ⟨h.os, h.tape, h.output, h.size, fun k hk hne => h.block k hk (fun e => hne (by rw [e]))⟩
theorem Frm.alloc {B : Nat} {S : Nat → Prop} {a w : World} (h : Frm B S a w) (hB : B ≤ w.heap.size) (o : Obj) : Frm B S a (w.alloc o) :=
  h.trans (Frm.ofBelow ((Below.refl B w).alloc hB o))
theorem Frm.drew {B : Nat} {S : Nat → Prop} {a w : World} (h : Frm B S a w) : Frm B S a w.drew := ⟨h.os, h.tape, h.output, h.size, h.block⟩
theorem Frm.setCell {B : Nat} {S : Nat → Prop} {a w : World} (h : Frm B S a w) {p : Addr} (hp : p.block < B → S p.block) (u : Value) : Frm B S a (w.setCell p u) :=
  h.trans ⟨rfl, rfl, rfl, by simp [World.setCell], fun k hk hs => Below.heap_setCell _ _ _ _ (by intro e; subst e; exact hs (hp hk))⟩
theorem Frm.grown {B : Nat} {S : Nat → Prop} {a w w' : World} {row : Option Nat} (h : Frm B S a w) (hg : w.grownBy w' row) (hB : B ≤ w.heap.size) (hr : ∀ k, row = some k → k < B → S k) : Frm B S a w' :=
  h.trans ⟨hg.os, hg.tape, hg.output, hg.size, fun k hk hs => hg.block k (by omega) (fun e => hs (hr k e.symm hk))⟩

/-- The cells cs lie at a (nothing is asked of a where there are none). -/
structure RdC (w : World) (a : Option Addr) (cs : List Value) : Prop where
  at_ : ∀ i, i < cs.length → ∃ b off, a = some ⟨b, off, none⟩ ∧ w.cell? ⟨b, off + i, none⟩ = cs[i]?

theorem RdC.byte {w : World} {a : Option Addr} {l : List UInt8} (h : RdC w a (bvs l)) (k : Nat) (hk : k < l.length) : ∃ b off, a = some ⟨b, off, none⟩ ∧ w.cell? ⟨b, off + k, none⟩ = some (.int .u8 (l[k].toNat : Int)) := by
  obtain ⟨b, off, e, hc⟩ := h.at_ k (by simpa [bvs] using hk)
  exact ⟨b, off, e, by rw [hc]; simp [bvs, bv, hk]⟩

abbrev RdB (w : World) (a : Option Addr) (l : List UInt8) : Prop := RdC w a (bvs l)

theorem RdC.nil (w : World) (a : Option Addr) : RdC w a [] := ⟨fun i h => by simp at h⟩

/-- Where it lies. -/
theorem RdC.lt {w : World} {a : Option Addr} {cs : List Value} (h : RdC w a cs) (h0 : 0 < cs.length) : ∃ b off, a = some ⟨b, off, none⟩ ∧ b < w.heap.size := by
  obtain ⟨b, off, rfl, hc⟩ := h.at_ 0 h0
  refine ⟨b, off, rfl, ?_⟩
  rw [List.getElem?_eq_getElem h0] at hc
  exact World.block_lt_of_cell? w _ hc

theorem RdC.cell {w : World} {b off : Nat} {cs : List Value} (h : RdC w (some ⟨b, off, none⟩) cs) (i : Nat) (hi : i < cs.length) : w.cell? ⟨b, off + i, none⟩ = some cs[i] := by
  obtain ⟨b', off', e, hc⟩ := h.at_ i hi
  cases e
  rw [hc, List.getElem?_eq_getElem hi]

theorem RdC.congr {w w' : World} {a : Option Addr} {cs : List Value} (h : RdC w a cs) (hk : ∀ b off, a = some ⟨b, off, none⟩ → b < w.heap.size → w'.heap[b]? = w.heap[b]?) : RdC w' a cs := by
  refine ⟨fun i hi => ?_⟩
  obtain ⟨b, off, rfl, hc⟩ := h.at_ i hi
  refine ⟨b, off, rfl, ?_⟩
  obtain ⟨_, _, e, hb⟩ := h.lt (by omega)
  cases e
  rw [← hc]
  exact World.cell?_of_block (w := w) (a := ⟨b, off + i, none⟩) (hk b off rfl hb)

/-- Behind a Below of its own world it reads as it did. -/
theorem RdC.below {w w' : World} {a : Option Addr} {cs : List Value} (h : RdC w a cs) {B : Nat} (hb : Below B w w') (hB : w.heap.size ≤ B) : RdC w' a cs :=
  h.congr fun b _ _ hlt => hb.block b (by omega)

theorem RdC.alloc {w : World} {a : Option Addr} {cs : List Value} (h : RdC w a cs) (o : Obj) : RdC (w.alloc o) a cs :=
  h.below ((Below.refl w.heap.size w).alloc (Nat.le_refl _) o) (Nat.le_refl _)

theorem RdC.take {w : World} {a : Option Addr} {cs : List Value} (h : RdC w a cs) (n : Nat) : RdC w a (cs.take n) := by
  refine ⟨fun i hi => ?_⟩
  simp at hi
  obtain ⟨b, off, e, hc⟩ := h.at_ i (by omega)
  exact ⟨b, off, e, by rw [hc, List.getElem?_take, if_pos (by omega)]⟩

theorem RdC.drop {w : World} {a : Option Addr} {cs : List Value} (h : RdC w a cs) (n : Nat) (a' : Option Addr) (ha : n < cs.length → a' = a.map (·.add n)) : RdC w a' (cs.drop n) := by
  refine ⟨fun i hi => ?_⟩
  simp at hi
  obtain ⟨b, off, e, hc⟩ := h.at_ (n + i) (by omega)
  refine ⟨b, off + n, by rw [ha (by omega), e]; simp [Addr.add_lit], by rw [Nat.add_assoc, hc, List.getElem?_drop]⟩

theorem RdC.left {w : World} {a : Option Addr} {l m : List UInt8} (h : RdC w a (bvs (l ++ m))) : RdC w a (bvs l) := by
  have := h.take l.length
  rwa [bvs_append, ← bvs_length l, List.take_left] at this

theorem RdC.right {w : World} {a a' : Option Addr} {l m : List UInt8} (h : RdC w a (bvs (l ++ m))) (ha : 0 < m.length → a' = a.map (·.add l.length)) : RdC w a' (bvs m) := by
  have := h.drop l.length a' (fun hh => ha (by simp [bvs] at hh; omega))
  rwa [bvs_append, ← bvs_length l, List.drop_left] at this

theorem RdC.takeB {w : World} {a : Option Addr} {l : List UInt8} (h : RdC w a (bvs l)) (n : Nat) : RdC w a (bvs (l.take n)) := by
  rw [bvs_take]; exact h.take n
theorem RdC.dropB {w : World} {a a' : Option Addr} {l : List UInt8} (h : RdC w a (bvs l)) (n : Nat) (ha : n < l.length → a' = a.map (·.add n)) : RdC w a' (bvs (l.drop n)) := by
  rw [bvs_drop]; exact h.drop n a' (fun hh => ha (by simpa [bvs] using hh))

theorem RdC.drewN {w : World} {a : Option Addr} {cs : List Value} (h : RdC w a cs) (n : Nat) : RdC (w.drewN n) a cs := h.congr fun _ _ _ _ => rfl

/-- Draws alone. -/
structure Still (w w' : World) : Prop where
  heap : w'.heap = w.heap
  below : ∀ B, Below B w w'

theorem still_drewN (w : World) (n : Nat) : Still w (w.drewN n) := ⟨rfl, fun _ => ⟨rfl, rfl, rfl, Nat.le_refl _, fun _ _ => rfl⟩⟩
theorem RdC.still {w w' : World} {a : Option Addr} {cs : List Value} (h : RdC w a cs) (hs : Still w w') : RdC w' a cs := h.congr fun _ _ _ _ => by rw [hs.heap]
theorem owns_still {w w' : World} {base e size : Nat} {v : Value} {n : Nat} {xs : List Value} (h : w.ownsRow base e size v n xs) (hs : Still w w') : w'.ownsRow base e size v n xs := by
  refine ⟨h.1, ?_⟩
  rcases h.2 with h2 | ⟨g, cap, cur, hv, hg, hh, r⟩
  · exact .inl h2
  · exact .inr ⟨g, cap, cur, hv, hg, by rw [hs.heap]; exact hh, r⟩

theorem owns_below {w w' : World} {base e size : Nat} {v : Value} {n : Nat} {xs : List Value} (h : w.ownsRow base e size v n xs) {B : Nat} (hb : Below B w w') (hB : w.heap.size ≤ B) : w'.ownsRow base e size v n xs := by
  refine ⟨h.1, ?_⟩
  rcases h.2 with h2 | ⟨g, cap, cur, hv, hg, hh, r⟩
  · exact .inl h2
  · exact .inr ⟨g, cap, cur, hv, hg, by rw [hb.block g (by have := (Array.getElem?_eq_some_iff.1 hh).1; omega)]; exact hh, r⟩

theorem own_ne {v v' : Value} (x : Nat) (h : ∀ g, v.ownBlock = some g → g < x) (h' : ∀ g, v'.ownBlock = some g → x ≤ g) : v'.ownBlock = none ∨ v'.ownBlock ≠ v.ownBlock := by
  cases e : v'.ownBlock with
  | none => exact .inl rfl
  | some g' =>
    refine .inr fun e2 => ?_
    have h1 := h g' e2.symm
    have h2 := h' g' e
    omega

theorem Frm.drewN {B : Nat} {S : Nat → Prop} {a w : World} (h : Frm B S a w) (n : Nat) : Frm B S a (w.drewN n) := ⟨h.os, h.tape, h.output, h.size, h.block⟩

theorem RdC.frm {B : Nat} {S : Nat → Prop} {w w' : World} {a : Option Addr} {cs : List Value} (h : RdC w a cs) (hF : Frm B S w w') (hB : w.heap.size ≤ B) (hS : ∀ b off, a = some ⟨b, off, none⟩ → ¬ S b) : RdC w' a cs :=
  h.congr fun b off e hb => hF.block b (by omega) (hS b off e)

theorem below_drewN' {B : Nat} {a w : World} (h : Below B a w) (n : Nat) : Below B a (w.drewN n) := ⟨h.os, h.tape, h.output, h.size, h.block⟩

/-- What is owned reads so. -/
theorem rdc_of_owns {w : World} {base e size : Nat} {a : Option Addr} {n cap : Nat} {xs : List Value} (h : w.ownsRow base e size (.slice a n cap) n xs) : RdC w a xs := by
  refine ⟨fun i hi => ?_⟩
  rcases h.2 with ⟨hv, hn⟩ | ⟨g, cap', cur, hv, _⟩
  · have := h.1; subst hn; simp at this; subst this; simp at hi
  · cases hv
    refine ⟨g, 0, rfl, ?_⟩
    have := h.cells (g := g) rfl i xs[i] (List.getElem?_eq_getElem hi)
    rw [Addr.add_lit] at this
    rw [this, List.getElem?_eq_getElem hi]

theorem owns_slice {w : World} {base e size : Nat} {v : Value} {n : Nat} {xs : List Value} (h : w.ownsRow base e size v n xs) : ∃ a cap, v = .slice a n cap ∧ n ≤ cap ∧ cap ≤ maxLen ∧ (a = none → cap = 0) := by
  rcases h.2 with ⟨hv, hn⟩ | ⟨g, cap', cur, hv, _, _, h1, h2, _⟩
  · subst hn; exact ⟨none, 0, hv, Nat.le_refl _, by unfold maxLen; omega, fun _ => rfl⟩
  · exact ⟨_, cap', hv, h1, h2, fun e => by cases e⟩

/-- A reading lies apart from a block none of whose cells is its first. -/
theorem RdC.congrNe {w w' : World} {a : Option Addr} {cs : List Value} (h : RdC w a cs) {g : Nat} {arr : Array Value} {t : TypeId} {fr : Nat × Nat} (hg : w.heap[g]? = some (.cells arr t fr))
    (hno : ∀ v ∈ arr, v ∉ cs) (hk : ∀ k, k < w.heap.size → k ≠ g → w'.heap[k]? = w.heap[k]?) : RdC w' a cs := by
  refine ⟨fun i hi => ?_⟩
  obtain ⟨b, off, rfl, hc⟩ := h.at_ i hi
  refine ⟨b, off, rfl, ?_⟩
  obtain ⟨_, _, e, hb⟩ := h.lt (by omega)
  cases e
  have hne : b ≠ g := by
    intro e; subst e
    rw [cell_of_row w b (off + i) arr t fr hg, List.getElem?_eq_getElem hi] at hc
    obtain ⟨hlt, he⟩ := Array.getElem?_eq_some_iff.1 hc
    exact hno _ (Array.getElem_mem hlt) (by rw [he]; exact List.getElem_mem hi)
  rw [← hc]
  exact World.cell?_of_block (w := w) (a := ⟨b, off + i, none⟩) (hk b hb hne)

theorem RdC.grownNe {w w' : World} {a : Option Addr} {cs : List Value} (h : RdC w a cs) {g : Nat} {arr : Array Value} {t : TypeId} {fr : Nat × Nat} (hg : w.heap[g]? = some (.cells arr t fr))
    (hno : ∀ v ∈ arr, v ∉ cs) (hk : w.grownBy w' (some g)) : RdC w' a cs :=
  h.congrNe hg hno (fun k h1 h2 => hk.block k h1 (by simpa using h2))

/-- Where there is something to read it lies in a block of elements of type e. -/
def Typ (w : World) (e : TypeId) (a : Option Addr) (n : Nat) : Prop := 0 < n → ∃ b off c fr, a = some ⟨b, off, none⟩ ∧ w.heap[b]? = some (.cells c e fr)

theorem Typ.congr {w w' : World} {e : TypeId} {a : Option Addr} {n : Nat} (h : Typ w e a n) (hk : ∀ b, b < w.heap.size → (∃ c fr, w.heap[b]? = some (.cells c e fr)) → ∃ c fr, w'.heap[b]? = some (.cells c e fr)) : Typ w' e a n := fun h0 => by
  obtain ⟨b, off, c, fr, ha, hb⟩ := h h0
  obtain ⟨c', fr', hb'⟩ := hk b (Array.getElem?_eq_some_iff.1 hb).1 ⟨c, fr, hb⟩
  exact ⟨b, off, c', fr', ha, hb'⟩

/-- A reading of typed memory behind a change of a block of another type. -/
theorem RdC.typNe {w w' : World} {a : Option Addr} {cs : List Value} {e : TypeId} (h : RdC w a cs) (ht : Typ w e a cs.length) {z : Nat} {c : Array Value} {t : TypeId} {fr : Nat × Nat} (hz : w.heap[z]? = some (.cells c t fr)) (hne : t ≠ e)
    (hg : w.grownBy w' (some z)) : RdC w' a cs := by
  by_cases h0 : 0 < cs.length
  · refine h.congr fun b off ha hb => ?_
    obtain ⟨b', off', c', fr', ha', hb'⟩ := ht h0
    rw [ha] at ha'
    cases ha'
    exact hg.block b hb (by intro ee; cases ee; rw [hz] at hb'; cases hb'; exact hne rfl)
  · obtain rfl : cs = [] := List.eq_nil_of_length_eq_zero (by omega)
    exact RdC.nil _ _

theorem Typ.typNe {w w' : World} {a : Option Addr} {n : Nat} {e : TypeId} (ht : Typ w e a n) {z : Nat} {c : Array Value} {t : TypeId} {fr : Nat × Nat} (hz : w.heap[z]? = some (.cells c t fr)) (hne : t ≠ e)
    (hg : w.grownBy w' (some z)) : Typ w' e a n :=
  ht.congr fun b hb ⟨c', fr', hb'⟩ => ⟨c', fr', by rw [hg.block b hb (by intro ee; cases ee; rw [hz] at hb'; cases hb'; exact hne rfl)]; exact hb'⟩

theorem typ_of_owns {w : World} {base e size : Nat} {a : Option Addr} {n cap : Nat} {xs : List Value} (h : w.ownsRow base e size (.slice a n cap) n xs) : Typ w e a n := fun h0 => by
  rcases h.2 with ⟨_, hn⟩ | ⟨g, cap', cur, hv, _, hg, _⟩
  · omega
  · cases hv; exact ⟨g, 0, cur, (0, 0), rfl, hg⟩

theorem Typ.less {w : World} {e : TypeId} {a a' : Option Addr} {n n' : Nat} (h : Typ w e a n) (hn : 0 < n' → 0 < n) (ha : 0 < n' → ∃ k, a' = a.map (·.add k)) : Typ w e a' n' := fun h0 => by
  obtain ⟨b, off, c, fr, rfl, hb⟩ := h (hn h0)
  obtain ⟨k, rfl⟩ := ha h0
  exact ⟨b, off + k, c, fr, by simp [Addr.add_lit], hb⟩

/-- A value that is no byte is not among bytes. -/
theorem not_mem_bvs {v : Value} (h : ∀ c, v ≠ bv c) (l : List UInt8) : v ∉ bvs l := by
  intro hm
  obtain ⟨c, _, e⟩ := List.mem_map.1 hm
  exact h c e.symm

theorem slice_ne_bv (a : Option Addr) (n c : Nat) (x : UInt8) : Value.slice a n c ≠ bv x := by intro e; cases e
theorem i64_ne_bv (n : Int) (x : UInt8) : Value.int .i64 n ≠ bv x := by intro e; cases e

theorem set_at {w : World} {g : Nat} {cur : Array Value} {t : TypeId} (h : w.heap[g]? = some (.cells cur t (0, 0))) (j : Nat) (u : Value) : (w.setCell ⟨g, j, none⟩ u).heap[g]? = some (.cells (cur.setIfInBounds j u) t (0, 0)) :=
  heap_setCell_same w g j cur t u h

theorem grown_set {a w : World} {g : Nat} (h : a.grownBy w (some g)) (j : Nat) (u : Value) : a.grownBy (w.setCell ⟨g, j, none⟩ u) (some g) :=
  h.trans ⟨rfl, rfl, rfl, by simp [World.setCell], fun k _ hk => Below.heap_setCell w _ _ _ (by intro e; exact hk (by rw [e]))⟩

/-- 'string(b)' of bytes that are read. -/
theorem convStr {P : Program} {w : World} {src dst e : TypeId} (hs : P.underlying src = some (.slice e)) (he : P.underlying e = some (.int .u8)) (hd : P.underlying dst = some .string) {a : Option Addr} {n c : Nat} {l : List UInt8}
    (h : RdC w a (bvs l)) (en : l.length = n) : (convert src dst (.slice a n c)).run P w = .ok (.string ⟨l.toArray⟩) w := by
  subst en
  cases a with
  | none =>
    obtain rfl : l = [] := by
      rcases Nat.eq_zero_or_pos l.length with h0 | h0
      · exact List.eq_nil_of_length_eq_zero h0
      · obtain ⟨_, _, e, _⟩ := h.lt (by simpa [bvs] using h0); cases e
    exact Lib.run_convert_nil_bytes w src dst e c hs he hd
  | some ad =>
    refine run_convert_bytes_back w src dst e ad c l hs he hd (fun j hj => ?_)
    obtain ⟨b, off, e, hc⟩ := h.byte j hj
    cases e
    rw [Addr.add_lit, hc]

theorem owns_mono {w : World} {base base' e size : Nat} {v : Value} {n : Nat} {xs : List Value} (h : w.ownsRow base e size v n xs) (hb : base' ≤ base) : w.ownsRow base' e size v n xs := by
  refine ⟨h.1, ?_⟩
  rcases h.2 with h2 | ⟨g, cap, cur, hv, hg, r⟩
  · exact .inl h2
  · exact .inr ⟨g, cap, cur, hv, by omega, r⟩

/-- What the second argument of an append yields, out of a reading. -/
theorem src_of_rdc {P : Program} {w : World} {size : Nat} {tx e' : TypeId} (hk : P.underlying tx = some (.slice e')) {a : Option Addr} {n c : Nat} {cs : List Value} (h : RdC w a cs) (hl : cs.length = n * size)
    (h1 : ∀ u ∈ cs, u.oneCell' = true) : Src P size tx (.slice a n c) n cs w := by
  by_cases h0 : cs.length = 0
  · obtain rfl : cs = [] := List.eq_nil_of_length_eq_zero h0
    cases a with
    | none =>
      refine ⟨.inl ⟨e', hk⟩, fun _ => rfl, ?_, ?_, hl, h1⟩
      · exact run_firstCells_none w size n 0 c
      · exact run_firstCells_none w.drew size n 0 c
    | some ad => exact Src.ofSlice w hk ad n c [] hl (fun j u hj => by simp at hj) h1
  · obtain ⟨b, off, rfl, _⟩ := h.lt (by omega)
    exact Src.ofSlice w hk _ n c cs hl (fun j u hj => by
      have hj' := (List.getElem?_eq_some_iff.1 hj).1
      rw [Addr.add_lit, h.cell j hj', ← hj, List.getElem?_eq_getElem hj']) h1


/-! ### what came in -/
/-- A slice of integers that came in, as the shells of the laws' proofs tell it. -/
def IsRow (k : IntKind) (w : World) (a : Option Addr) (len cap : Nat) (zs : List Int) : Prop :=
  (a = none ∧ len = 0 ∧ cap = 0 ∧ zs = []) ∨
  ∃ x, a = some x ∧ len ≤ cap ∧ cap ≤ maxLen ∧ zs.length = cap ∧ (∀ i, i < zs.length → w.cell? (x.add i) = some (.int k (zs.getD i 0))) ∧ ∀ n ∈ zs, (Lit.int k n).wf = true

theorem i64_bd {n : Int} (h : (Lit.int .i64 n).wf = true) : -9223372036854775808 ≤ n ∧ n ≤ 9223372036854775807 := by
  simp [Lit.wf, IntKind.min, IntKind.max, IntKind.bits, IntKind.signed] at h
  omega
theorem u8_bd {n : Int} (h : (Lit.int .u8 n).wf = true) : 0 ≤ n ∧ n < 256 := by
  simp [Lit.wf, IntKind.min, IntKind.max, IntKind.bits, IntKind.signed] at h
  omega

theorem isRow_bytes {w : World} {a : Option Addr} {len cap : Nat} {zs : List Int} (h : IsRow .u8 w a len cap zs) : ∃ l : List UInt8, l.length = len ∧ len ≤ cap ∧ RdB w a l := by
  rcases h with ⟨rfl, rfl, rfl, rfl⟩ | ⟨x, rfl, hl, _, hz, hc, hw⟩
  · exact ⟨[], rfl, Nat.le_refl _, RdC.nil _ _⟩
  · refine ⟨(zs.take len).map (fun n => UInt8.ofNat n.toNat), by simp; omega, hl, ⟨fun i hi => ?_⟩⟩
    have hi' : i < len := by
      rw [bvs_length, List.length_map, List.length_take] at hi
      omega
    obtain ⟨b, off, spot⟩ := x
    have h0 := hc 0 (by omega)
    have hs : spot = none := by
      cases spot with
      | none => rfl
      | some s =>
        simp [Addr.add, World.cell?] at h0
        split at h0 <;> simp at h0
    subst hs
    refine ⟨b, off, rfl, ?_⟩
    have h1 := hc i (by omega)
    rw [Addr.add_lit] at h1
    rw [h1]
    have hm := u8_bd (hw zs[i] (List.getElem_mem (by omega)))
    have e : ((UInt8.ofNat zs[i].toNat).toNat : Int) = zs[i] := by
      rw [UInt8.toNat_ofNat']
      omega
    have hg : (bvs ((zs.take len).map (fun n => UInt8.ofNat n.toNat)))[i]? = some (.int .u8 ((UInt8.ofNat zs[i].toNat).toNat : Int)) := by
      unfold bvs bv
      rw [List.getElem?_map, List.getElem?_map, List.getElem?_take, if_pos hi', List.getElem?_eq_getElem (by omega)]
      rfl
    rw [hg, e, List.getD_eq_getElem?_getD, List.getElem?_eq_getElem (by omega)]
    rfl

/-! ### append, whatever the source -/
section
variable {P : Program} (w : World)
theorem run_app (base : Nat) (t tx ty e : TypeId) (i : TypeInfo) (z : Value) (size bytes : Nat) (ht : P.underlying t = some (.slice e)) (hi : P.info? e = some i) (hz : i.zero = some z)
    (hsize : i.size = size) (hby : i.bytes = bytes) (hzs : z.cells.size = size)
    (v : Value) (n : Nat) (xs : List Value) (hown : w.ownsRow base e size v n xs)
    (x : Value) (m : Nat) (news : List Value) (hs : Src P size tx x m news w)
    (h63 : n + m ≤ maxLen) (hbytes : (n + m) * bytes ≤ 140737488355328) (hbase : base ≤ w.heap.size) :
    ∃ v' w', (Builtin.append_ #[t, tx] ty #[v, x]).run P w = .ok v' w' ∧ w'.ownsRow base e size v' (n + m) (xs ++ news) ∧ w.grownBy w' v.ownBlock := by
  subst hsize
  subst hby
  have hsmall : n + m ≤ 9223372036854775807 := by simp only [maxLen] at h63; omega
  have hl := hs.newsLen
  have hlen : (xs ++ news).length = (n + m) * i.size := by rw [List.length_append, hown.1, hl, Nat.add_mul]
  have grown : ∀ (old : Nat), old < n + m → ∀ (row : Option Nat),
      (w.drew.alloc (.cells ((xs ++ news).toArray ++ Builtin.zeroCells z.cells (grownCap w (n + m) old e - (n + m))) e)).ownsRow base e i.size
        (.slice (some ⟨w.heap.size, 0, none⟩) (n + m) (grownCap w (n + m) old e)) (n + m) (xs ++ news) ∧
      w.grownBy (w.drew.alloc (.cells ((xs ++ news).toArray ++ Builtin.zeroCells z.cells (grownCap w (n + m) old e - (n + m))) e)) row := by
    intro old ho row
    have hge := grownCap_ge w (n + m) old e
    have hcm : grownCap w (n + m) old e ≤ maxLen := grownCap_le_maxLen w (n + m) old e h63
    refine ⟨⟨hlen, .inr ⟨w.heap.size, _, _, rfl, hbase, heap_alloc_new w.drew _, hge, hcm, ?_, ?_⟩⟩, ⟨rfl, rfl, rfl, by simp, fun k hk _ => Go.heap_alloc_old w.drew _ hk⟩⟩
    · simp only [Array.size_append, List.size_toArray, size_zeroCells, hzs, hlen, ← Nat.add_mul]
      congr 1
      omega
    · simp only [Array.toList_append]
      rw [← hlen]
      exact List.take_left
  rcases hown.2 with ⟨rfl, rfl⟩ | ⟨g, cap, cur, rfl, hbg, hg, hnc, hcm, hcs, htake⟩
  · have hx : xs = [] := List.eq_nil_of_length_eq_zero (by simpa using hown.1)
    subst hx
    by_cases hm : m = 0
    · subst hm
      have hn : news = [] := List.eq_nil_of_length_eq_zero (by simpa using hl)
      subst hn
      refine ⟨.slice none 0 0, w, ?_, World.ownsRow_nil w base e i.size, ⟨rfl, rfl, rfl, Nat.le_refl _, fun _ _ _ => rfl⟩⟩
      have hc := hs.cells
      rcases hs.kind with ⟨e', hk⟩ | hk <;> simp [Builtin.append_, run_underlying ht, run_underlying hk, sizeOf, typeInfo, hi, hs.len, hc]
    · have hr := run_append_grow_src (P := P) w t tx ty e i z ht hi hz none 0 0 [] (run_firstCells_none w.drew i.size 0 0 0) x m news hs (by omega) (by omega)
        (growslice_fits (by omega) hbytes)
      have hgr := grown 0 (by omega) (Value.ownBlock (.slice none 0 0))
      simp only [Nat.zero_add, List.nil_append] at hgr hr ⊢
      exact ⟨_, _, hr, hgr.1, hgr.2⟩
  · by_cases hroom : n + m ≤ cap
    · have hfit : n * i.size + news.length ≤ cur.size := by rw [hl, hcs, ← Nat.add_mul]; exact Nat.mul_le_mul_right _ hroom
      have hst := run_storeCells_at P g (n * i.size) e news 0 cur w hg (by simpa using hfit) hs.one
      simp only [Nat.add_zero] at hst
      have hr : (Builtin.append_ #[t, tx] ty #[.slice (some ⟨g, 0, none⟩) n cap, x]).run P w =
          .ok (.slice (some ⟨g, 0, none⟩) (n + m) cap) (w.setRow g (cur.toList.take (n * i.size) ++ news ++ cur.toList.drop (n * i.size + news.length)).toArray) := by
        have hc := hs.cells
        rcases hs.kind with ⟨e', hk⟩ | hk <;> simp [Builtin.append_, run_underlying ht, run_underlying hk, sizeOf, typeInfo, hi, hs.len, hc, hroom, Addr.add_lit, hst]
      refine ⟨_, _, hr, ⟨hlen, .inr ⟨g, cap, _, rfl, hbg, setRow_heap w g cur _ e _ hg, hroom, hcm, ?_, ?_⟩⟩, ⟨rfl, rfl, rfl, by simp, fun k _ hk => setRow_other w g k _ (fun e => hk (by simp [Value.ownBlock, e]))⟩⟩
      · simp only [List.size_toArray, List.length_append, List.length_take, List.length_drop, Array.length_toList]
        omega
      · rw [htake, ← hlen]
        exact List.take_left
    · have holds : ∀ j u, xs[j]? = some u → w.cell? ((⟨g, 0, none⟩ : Addr).add j) = some u := hown.cells (g := g) rfl
      have hr := run_append_grow_src (P := P) w t tx ty e i z ht hi hz (some ⟨g, 0, none⟩) n cap xs (run_firstCells_some w.drew i.size n ⟨g, 0, none⟩ n cap xs hown.1 (by simpa using holds)) x m news hs (by omega) (by omega) (growslice_fits (by omega) hbytes)
      have hgr := grown cap (by omega) (Value.ownBlock (.slice (some ⟨g, 0, none⟩) n cap))
      exact ⟨_, _, hr, hgr.1, hgr.2⟩

theorem wpList_app {ops : Array Oper} {rest : List Oper} {o : Oper} {a : Act} {Q : Exit → Act → World → Prop} (hgd : o.guard = none) (s x : Operand) (t tx : TypeId)
    (ho : o.op = .call { callee := .builtin .append, args := #[s, x], argTypes := #[t, tx] })
    (base : Nat) (e : TypeId) (i : TypeInfo) (z : Value) (size bytes : Nat) (ht : P.underlying t = some (.slice e)) (hi : P.info? e = some i) (hz : i.zero = some z)
    (hsize : i.size = size) (hby : i.bytes = bytes) (hzs : z.cells.size = size)
    (v : Value) (n : Nat) (xs : List Value) (hsv : a.eval s = v) (hown : w.ownsRow base e size v n xs)
    (xv : Value) (hxv : a.eval x = xv) (m : Nat) (news : List Value) (hs : Src P size tx xv m news w)
    (h63 : n + m ≤ maxLen) (hbytes : (n + m) * bytes ≤ 140737488355328) (hbase : base ≤ w.heap.size)
    (h : ∀ v' w', w'.ownsRow base e size v' (n + m) (xs ++ news) → w.grownBy w' v.ownBlock → wpList P ops Q rest (a.put o.dst v') w') : wpList P ops Q (o :: rest) a w := by
  obtain ⟨v', w', hr, h2, h3⟩ := run_app (P := P) w base t tx o.type e i z size bytes ht hi hz hsize hby hzs v n xs hown xv m news hs h63 hbytes hbase
  refine wpList_plain hgd fun K hK => ?_
  unfold Oper.wp execOp
  simp only [ho, resolve, invoke, builtin, Sem.run_bind, Sem.run_pure, Result.andThen_ok, List.map_toArray, List.map_cons, List.map_nil, hsv, hxv, hr]
  exact hK _ _ (h v' w' h2 h3)
end

def u8 (n : Int) : UInt8 := UInt8.ofNat n.toNat
theorem bv_u8 (n : Int) (h : 0 ≤ n ∧ n < 256) : bv (u8 n) = .int .u8 n := by
  unfold bv u8
  congr 1
  rw [UInt8.toNat_ofNat']
  omega

theorem rdb_new (w : World) (s : List UInt8) (t : TypeId) : RdB (w.alloc (.cells (bvs s).toArray t)) (some ⟨w.heap.size, 0, none⟩) s := by
  refine ⟨fun i hi => ⟨_, _, rfl, ?_⟩⟩
  rw [cell_of_row _ w.heap.size (0 + i) (bvs s).toArray t (0, 0) (heap_alloc_new w _)]
  simp

theorem u8_toNat (c : UInt8) : u8 (c.toNat : Int) = c := by unfold u8; simp

theorem rdb_one (w : World) (n : Int) (h : 0 ≤ n ∧ n < 256) (t : TypeId) : RdB (w.alloc (.cells #[.int .u8 n] t)) (some ⟨w.heap.size, 0, none⟩) [u8 n] := by
  have := rdb_new w [u8 n] t
  have e : (bvs [u8 n]).toArray = #[.int .u8 n] := by simp [bvs, bv_u8 n h]
  rwa [e] at this

/-! ### copy into a row that is known whole -/
theorem run_cp {P : Program} {w : World} (dT sT ty elem : TypeId) (hu : P.underlying dT = some (.slice elem)) (hsz : (P.info? elem).map (·.size) = some 1)
    (dp sp : Option Addr) (dLen dCap sLen sCap g off : Nat) (cur : Array Value) (t : TypeId) (hg : w.heap[g]? = some (.cells cur t (0, 0))) (cs : List Value) (hn : cs.length = Nat.min sLen dLen)
    (hdp : 0 < cs.length → dp = some ⟨g, off, none⟩) (hsrc : RdC w sp cs) (hfit : off + cs.length ≤ cur.size) (h1 : ∀ v ∈ cs, v.oneCell' = true) :
    ∃ w', (Builtin.copy_ #[dT, sT] ty #[.slice dp dLen dCap, .slice sp sLen sCap]).run P w = .ok (goInt cs.length) w' ∧ w'.heap[g]? = some (.cells (splice cur.toList off cs).toArray t (0, 0)) ∧ w.grownBy w' (some g) := by
  by_cases h0 : cs.length = 0
  · obtain rfl : cs = [] := List.eq_nil_of_length_eq_zero h0
    exact ⟨w, run_copy_none (P := P) w dT sT ty elem dp sp dLen dCap sLen sCap hu hsz (by simpa using hn.symm), by simpa [splice] using hg, World.grownBy.refl _ _⟩
  · obtain rfl := hdp (by omega)
    obtain ⟨b, o, rfl, _⟩ := hsrc.lt (by omega)
    refine ⟨_, run_copy_row (P := P) w dT sT ty elem g off dLen dCap ⟨b, o, none⟩ sLen sCap cur t cs hu hsz hg hn (fun j v hj => ?_) hfit h1, ?_, ?_⟩
    · have hj' := (List.getElem?_eq_some_iff.1 hj).1
      rw [Addr.add_lit, hsrc.cell j hj', ← hj, List.getElem?_eq_getElem hj']
    · have := setRow_heap w g cur (cur.toList.take off ++ cs ++ cur.toList.drop (off + cs.length)).toArray t _ hg
      rw [List.append_assoc] at this
      rw [List.append_assoc]
      exact this
    · exact ⟨rfl, rfl, rfl, by simp [World.setRow], fun k _ hk => setRow_other w g k _ (fun e => hk (by rw [e]))⟩

theorem wpList_cp {P : Program} {w : World} {ops : Array Oper} {rest : List Oper} {o : Oper} {a : Act} {Q : Exit → Act → World → Prop} (hgd : o.guard = none) (d s : Operand) (dT sT : TypeId)
    (ho : o.op = .call { callee := .builtin .copy, args := #[d, s], argTypes := #[dT, sT] }) (elem : TypeId) (hu : P.underlying dT = some (.slice elem)) (hsz : (P.info? elem).map (·.size) = some 1)
    (dp sp : Option Addr) (dLen dCap sLen sCap : Nat) (hd : a.eval d = .slice dp dLen dCap) (hs : a.eval s = .slice sp sLen sCap)
    (g off : Nat) (cur : Array Value) (t : TypeId) (hg : w.heap[g]? = some (.cells cur t (0, 0))) (cs : List Value) (hn : cs.length = Nat.min sLen dLen)
    (hdp : 0 < cs.length → dp = some ⟨g, off, none⟩) (hsrc : RdC w sp cs) (hfit : off + cs.length ≤ cur.size) (h1 : ∀ v ∈ cs, v.oneCell' = true)
    (h : ∀ w', w'.heap[g]? = some (.cells (splice cur.toList off cs).toArray t (0, 0)) → w.grownBy w' (some g) → wpList P ops Q rest (a.put o.dst (goInt cs.length)) w') :
    wpList P ops Q (o :: rest) a w := by
  refine wpList_plain hgd fun K hK => ?_
  obtain ⟨w', hrun, k1, k2⟩ := run_cp (P := P) dT sT o.type elem hu hsz dp sp dLen dCap sLen sCap g off cur t hg cs hn hdp hsrc hfit h1
  unfold Oper.wp
  simp [execOp, ho, resolve, invoke, builtin, hd, hs, hrun, Result.andThen]
  exact hK _ _ (h w' k1 k2)

theorem step_cp {P : Program} {w : World} {ops : Array Oper} {o : Oper} {a : Act} {K : Act → World → Prop} {Q : Exit → Act → World → Prop} {E : Prop} (hgd : o.guard = none) (d s : Operand) (dT sT : TypeId)
    (ho : o.op = .call { callee := .builtin .copy, args := #[d, s], argTypes := #[dT, sT] }) (elem : TypeId) (hu : P.underlying dT = some (.slice elem)) (hsz : (P.info? elem).map (·.size) = some 1)
    (dp sp : Option Addr) (dLen dCap sLen sCap : Nat) (hd : a.eval d = .slice dp dLen dCap) (hs : a.eval s = .slice sp sLen sCap)
    (g off : Nat) (cur : Array Value) (t : TypeId) (hg : w.heap[g]? = some (.cells cur t (0, 0))) (cs : List Value) (hn : cs.length = Nat.min sLen dLen)
    (hdp : 0 < cs.length → dp = some ⟨g, off, none⟩) (hsrc : RdC w sp cs) (hfit : off + cs.length ≤ cur.size) (h1 : ∀ v ∈ cs, v.oneCell' = true)
    (h : ∀ w', w'.heap[g]? = some (.cells (splice cur.toList off cs).toArray t (0, 0)) → w.grownBy w' (some g) → K (a.put o.dst (goInt cs.length)) w') :
    if Region.wanted o (yielded ops a.tmps) = true then Oper.wp P o a w K Q else E := by
  have hw : Region.wanted o (yielded ops a.tmps) = true := by simp [Region.wanted, hgd]
  rw [if_pos hw]
  obtain ⟨w', hrun, k1, k2⟩ := run_cp (P := P) dT sT o.type elem hu hsz dp sp dLen dCap sLen sCap g off cur t hg cs hn hdp hsrc hfit h1
  unfold Oper.wp
  simp [execOp, ho, resolve, invoke, builtin, hd, hs, hrun, Result.andThen]
  exact h w' k1 k2

/-! ### whole arrays in cells -/
theorem results_cell {fn : Func} {p : Tmp} {ty : TypeId} (h : fn.results = #[.cell p ty]) (tmps : Array Value) (P : Program) (w : World) (a : Addr) (hp : tmps.getD p undef = .pointer (some a)) (v : Value)
    (hl : (loadVar ty a).run P w = .ok v w) : (results fn tmps).run P w = .ok v w := by
  have hp' : tmps[p]?.getD undef = .pointer (some a) := by simpa using hp
  simp only [results, h]
  simp [hp', hl, asAddr]

theorem setCell_self {w : World} {a : Addr} {v : Value} (h : w.cell? a = some v) : w.setCell a v = w := by
  unfold World.setCell
  unfold World.cell? at h
  have hh : w.heap.modify a.block (fun | .cells c elem frozen => .cells (if a.spot.isSome then c else c.setIfInBounds a.off v) elem frozen | o => o) = w.heap := by
    apply Array.ext_getElem?
    intro i
    rw [Array.getElem?_modify]
    split
    · rename_i e
      subst e
      cases hb : w.heap[a.block]? with
      | none => simp
      | some o =>
        rw [hb] at h
        cases o <;> simp at h ⊢
        rename_i c t fr
        obtain ⟨_, h2⟩ := h
        intro _
        apply Array.ext_getElem?
        intro j
        rw [Array.getElem?_setIfInBounds]
        split
        · rename_i e; subst e
          obtain ⟨hlt, he⟩ := Array.getElem?_eq_some_iff.1 h2
          simp [hlt, he]
        · rfl
    · rfl
  exact congrArg (fun x => ({ w with heap := x } : World)) hh

theorem setCells_self (b : Nat) : ∀ (vs : List Value) (o : Nat) (w : World), (∀ j v, vs[j]? = some v → w.cell? ⟨b, o + j, none⟩ = some v) → w.setCells b o vs = w
  | [], _, _, _ => rfl
  | v :: r, o, w, h => by
    rw [World.setCells, setCell_self (by have := h 0 v rfl; simpa using this)]
    exact setCells_self b r (o + 1) w (fun j u hj => by have := h (j + 1) u (by simpa using hj); rw [show o + 1 + j = o + (j + 1) by omega]; exact this)

/-- The store of a struct, or an array, in the memory that was just made for it. -/
theorem wpList_store_fresh {P : Program} {ops : Array Oper} {rest : List Oper} {o : Oper} {a : Act} {w : World} {Q : Exit → Act → World → Prop} (hgd : o.guard = none) (ty : TypeId) (x y : Operand) (ho : o.op = .store ty x y)
    (old : Array Value) (t : TypeId) (hx : a.eval x = .pointer (some ⟨w.heap.size, 0, none⟩)) (cells : Array Value) (hy : a.eval y = .agg cells) (hi : (P.info? ty).map (·.size) = some cells.size) (hold : old.size = cells.size)
    (h1 : cells.all (·.oneCell') = true)
    (h : ∀ w1, w1.heap[w.heap.size]? = some (.cells cells t (0, 0)) → Below w.heap.size w w1 → wpList P ops Q rest (a.put o.dst undef) w1) : wpList P ops Q (o :: rest) a (w.alloc (.cells old t)) :=
  wpList_store_row hgd ty x y ho w.heap.size cells hx hy t old (heap_alloc_new w _) hi hold h1
    (h _ (setRow_heap _ _ _ _ _ _ (heap_alloc_new w _)) (below_setRow ((Below.refl _ _).alloc (Nat.le_refl _) _) (Nat.le_refl _) _))

end Go.Proofs.Ythgaghpakioglaa
