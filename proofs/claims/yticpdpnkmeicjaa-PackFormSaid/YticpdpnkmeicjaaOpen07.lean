/- How the arguments of the laws of package sealerylaw07 are opened. -/
import Derived.Test.YticpdpnkmeicjaaOpen
import Derived.Test.YticpdpnkmeicjaaPackLays
namespace Go.Proofs.Yticpdpnkmeicjaa
open Go.RowKit

/-- A thing that came in: what its cells are. -/
structure Thg where
  kind : Int
  num : Int
  ba : Option Addr
  bn : Nat
  bc : Nat
  bs : List UInt8
  sum : List UInt8

def Thg.cells (t : Thg) : List Value := if t.sum.length = 32 then thing t.kind t.num t.ba t.bn t.bc t.sum else List.replicate 35 undef

/-- What is known of it. -/
structure Thg.Ok (w : World) (t : Thg) : Prop where
  num : -9223372036854775808 ≤ t.num ∧ t.num ≤ 9223372036854775807
  kind : -9223372036854775808 ≤ t.kind ∧ t.kind ≤ 9223372036854775807
  len : t.bs.length = t.bn
  fits : t.bn ≤ 9223372036854775807
  rd : RdB w t.ba t.bs
  sum : t.sum.length = 32

theorem Thg.cells_length (t : Thg) : t.cells.length = 35 := by
  unfold Thg.cells
  split
  · rename_i h; simp [thing, bvs_length, h]
  · simp

theorem Thg.Ok.eq {w : World} {t : Thg} (h : t.Ok w) : t.cells = thing t.kind t.num t.ba t.bn t.bc t.sum := by unfold Thg.cells; rw [if_pos h.sum]

theorem ox_thing {H : Type} {enc : TypeId × Value → H} {w : World} {fuel : Nat} {cs : List Value} {y : DataW H × List MemPlace} (h : Reads enc Try.prog w fuel 38 cs y) : ∃ t : Thg, cs = t.cells ∧ t.Ok w := by
  obtain ⟨hl, n, hf⟩ := ox_struct Try.underlying38 h
  have hl' : cs.length = 35 := by rw [hl]; kernel_rfl
  obtain ⟨y0, h0⟩ := hf 0 _ rfl
  obtain ⟨y1, h1⟩ := hf 1 _ rfl
  obtain ⟨y2, h2⟩ := hf 2 _ rfl
  obtain ⟨y3, h3⟩ := hf 3 _ rfl
  obtain ⟨k, e0, k1, k2⟩ := ox_int Try.underlying3 h0
  obtain ⟨m, e1, m1, m2⟩ := ox_int Try.underlying3 h1
  obtain ⟨a, bn, bc, l, e2, l1, l2, l3, l4⟩ := ox_bytes Try.underlying22 Try.underlying5 (by kernel_rfl) h2
  obtain ⟨s, s1, e3⟩ := ox_sum Try.underlying36 Try.underlying5 (by kernel_rfl) (by kernel_rfl) h3
  have c3 : Try.prog.cellsOf 3 = 1 := by kernel_rfl
  have c22 : Try.prog.cellsOf 22 = 1 := by kernel_rfl
  have c36 : Try.prog.cellsOf 36 = 32 := by kernel_rfl
  have e0' : (cs.drop 0).take 1 = [.int .i64 k] := by rw [← c3]; exact e0
  have e1' : (cs.drop 1).take 1 = [.int .i64 m] := by rw [← c3]; exact e1
  have e2' : (cs.drop 2).take 1 = [.slice a bn bc] := by rw [← c22]; exact e2
  have e3' : (cs.drop 3).take 32 = bvs s := by rw [← c36]; exact e3
  refine ⟨⟨k, m, a, bn, bc, l, s⟩, ?_, ⟨⟨m1, m2⟩, ⟨k1, k2⟩, l1, by unfold maxLen at l3; show bn ≤ _; omega, l4, s1⟩⟩
  unfold Thg.cells
  rw [if_pos s1]
  have hd : cs = cs.drop 0 := rfl
  rw [hd, peel cs 0 1, peel cs (0 + 1) 1, peel cs (0 + 1 + 1) 1, peel_end cs (0 + 1 + 1 + 1) 32 (by omega), e0', e1', e2', e3']
  rfl

theorem packLays_at (a : Option Addr) (n c : Nat) (l : List UInt8) (t : Thg) (w : World) (ha : RdB w a l) (en : l.length = n) (hc : n ≤ c) (hm : c ≤ maxLen) (ht : t.Ok w) :
    Calls Try.prog 4 #[.slice a n c, .agg t.cells.toArray] w fun e w' => e = .returned (.bool true) ∧ Below w.heap.size w w' := by
  rw [ht.eq]
  exact packLays_walk a n c l t.kind t.num t.ba t.bn t.bc t.bs t.sum w ha en ht.rd ht.len ht.sum ht.num (by unfold maxLen at hm; omega) ht.fits

end Go.Proofs.Yticpdpnkmeicjaa
