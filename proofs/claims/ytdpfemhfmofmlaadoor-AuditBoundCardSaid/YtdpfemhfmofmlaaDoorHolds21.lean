/- What AuditHolds asks of a chain's rows. -/
import Derived.Test.YtdpfemhfmofmlaaDoorAudTold
import Derived.Test.YtdpfemhfmofmlaaDoorRowT
namespace Go.Proofs.YtdpfemhfmofmlaaDoor
set_option linter.unusedSimpArgs false
set_option linter.unusedVariables false
open Go.RowKit
set_option maxRecDepth 10000

theorem run_slice_toS {P : Program} (t e : TypeId) (size : Nat) (hu : P.underlying t = some (.slice e)) (hsz : (P.info? e).map (·.size) = some size) (a : Option Addr) (n c q : Nat) (hq : q ≤ c) (w : World) :
    (Instr.slice t (.slice a n c) none (some (.int .i64 (q : Int))) none).run P w = .ok (.slice a q c) w := by
  cases hi : P.info? e with
  | none => simp [hi] at hsz
  | some z =>
    have hz : z.size = size := by simpa [hi] using hsz
    have h1 : (0 : Int) ≤ (q : Int) ∧ (q : Int) ≤ (c : Int) := by omega
    have h0 : ∀ x : Addr, x.add 0 = x := fun x => by cases x; rename_i b o s; cases s <;> simp [Addr.add]
    have h2 : a.map (fun x => x.add 0) = a := by cases a <;> simp [h0]
    simp [Instr.slice, Instr.sliceBounds, Instr.sliceBound, asIntOf, run_underlying hu, sizeOf, typeInfo, hi, hz, hq, h0, h2]

theorem row_facts (xs : List Ent) (k : Nat) (hk : k < xs.length) (hk' : k < (addAll xs).length) :
    ({ xs[k] with no := (k : Int) + 1, sum := ((addAll xs)[k]).sum } : Ent) = (addAll xs)[k] ∧ wdig ((addAll xs)[k].bytes (headOf ((addAll xs).take k))) = ((addAll xs)[k]).sum ∧ headOf ((addAll xs).take (k + 1)) = ((addAll xs)[k]).sum := by
  have h1 := addAll_get xs k hk hk'
  have hl : (addAll (xs.take k)).length = k := by rw [addAll_length, List.length_take]; omega
  refine ⟨?_, ?_, ?_⟩
  · rw [h1]; unfold rowOf; rw [hl]
  · rw [h1, addAll_take xs k (by omega)]; rfl
  · rw [List.take_succ_eq_append_getElem hk', headOf_snoc]

abbrev HolS (wb : World) (b3 o3 z10 z8 : Nat) (R : Ent) (P : List UInt8) (w' : World) : Prop :=
  (w'.rangeAt b3 o3 R.cells ∧ w'.rangeAt z10 0 R.cells ∧ w'.rangeAt z8 0 (bvs P) ∧ w'.rangeAt z10 7 (bvs R.sum)) ∧ Below wb.heap.size wb w'
theorem holS_below {wb w1 w2 : World} {b3 o3 z10 z8 : Nat} {R : Ent} {P : List UInt8} (h : HolS wb b3 o3 z10 z8 R P w1) (hb : Below w1.heap.size w1 w2) : HolS wb b3 o3 z10 z8 R P w2 :=
  ⟨⟨rangeAt_below h.1.1 hb (Nat.le_refl _), rangeAt_below h.1.2.1 hb (Nat.le_refl _), rangeAt_below h.1.2.2.1 hb (Nat.le_refl _), rangeAt_below h.1.2.2.2 hb (Nat.le_refl _)⟩, h.2.trans (hb.mono h.2.size)⟩

/-- While the rows are gone through: the digest ahead of the next one. -/
structure HolI (wz : World) (z8 : Nat) (P : List UInt8) (wr : World) : Prop where
  cell : wr.heap[z8]? = some (.cells (bvs P).toArray 26 (0, 0))
  blw : Below z8 wz wr

theorem verify_yes (xs : List Ent) (K : Nat) (hK : K ≤ xs.length) : verify ((addAll xs).take K) (headOf ((addAll xs).take K)) = (0, 0) := by
  rw [addAll_take xs K hK, verify_all, if_pos rfl]
theorem verify_no (xs : List Ent) (K : Nat) (hK : K ≤ xs.length) (H : List UInt8) (hH : headOf ((addAll xs).take K) ≠ H) : verify ((addAll xs).take K) H = (K + 1, 24) := by
  rw [addAll_take xs K hK] at hH ⊢
  rw [verify_all, if_neg hH, List.length_take]
  simp [Nat.min_eq_left hK]

theorem rdc_take {w : World} {a : Option Addr} {l : List Value} (h : RdC w a l) (k : Nat) : RdC w a (l.take k) := by
  refine ⟨fun i hi => ?_⟩
  have hi' : i < l.length := by rw [List.length_take] at hi; omega
  obtain ⟨b, off, e, hc⟩ := h.at_ i hi'
  exact ⟨b, off, e, by rw [hc, List.getElem?_take, if_pos (by rw [List.length_take] at hi; omega)]⟩
abbrev Hol2 (wb : World) (z : Nat) (P : List UInt8) (w' : World) : Prop := w'.rangeAt z 0 (bvs P) ∧ Below wb.heap.size wb w'
theorem hol2_below {wb w1 w2 : World} {z : Nat} {P : List UInt8} (h : Hol2 wb z P w1) (hb : Below w1.heap.size w1 w2) : Hol2 wb z P w2 :=
  ⟨rangeAt_below h.1 hb (Nat.le_refl _), h.2.trans (hb.mono h.2.size)⟩

def xor1 (y : UInt8) : UInt8 := y ^^^ 1
def flip0 (l : List UInt8) : List UInt8 := match l with | [] => [] | y :: t => xor1 y :: t
theorem flip0_ne {l : List UInt8} (h : l.length = 32) : l ≠ flip0 l := by
  match l with
  | [] => simp at h
  | y :: t =>
    intro e
    have e1 : y = y ^^^ 1 := by
      have e0 : y :: t = xor1 y :: t := e
      injection e0
    have e2 : y.toBitVec = y.toBitVec ^^^ 1#8 := congrArg UInt8.toBitVec e1
    have e3 := congrArg (fun b => b.getLsbD 0) e2
    simp at e3
theorem flip0_length (l : List UInt8) : (flip0 l).length = l.length := by cases l <;> rfl
theorem xor_one (y : UInt8) : bits .xor .u8 (y.toNat : Int) 1 = ((xor1 y).toNat : Int) := by
  unfold xor1
  have h1 : (BitVec.ofInt 8 (y.toNat : Int)) = y.toBitVec := by rw [BitVec.ofInt_natCast]; apply BitVec.eq_of_toNat_eq; rw [BitVec.toNat_ofNat]; exact Nat.mod_eq_of_lt y.toNat_lt
  show IntKind.u8.wrap ((BitVec.ofInt 8 (y.toNat : Int) ^^^ BitVec.ofInt 8 1).toNat : Int) = _
  rw [h1, IntKind.wrap_u8]
  have := (y ^^^ 1).toNat_lt
  have e : (y.toBitVec ^^^ BitVec.ofInt 8 1).toNat = (y ^^^ 1).toNat := rfl
  rw [e]
  omega

end Go.Proofs.YtdpfemhfmofmlaaDoor
