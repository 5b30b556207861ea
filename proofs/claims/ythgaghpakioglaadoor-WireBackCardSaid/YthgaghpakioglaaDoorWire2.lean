/- A length's number; the next bytes of a buffer. -/
import Derived.Test.YthgaghpakioglaaDoorWire
import Derived.Lib.QuoteBits
import Derived.IntWalk
namespace Go.Proofs.YthgaghpakioglaaDoor
set_option linter.unusedSimpArgs false
set_option linter.unusedVariables false
open Go.RowKit
set_option maxRecDepth 10000

theorem run_slice_both {P : Program} (t e : TypeId) (hu : P.underlying t = some (.slice e)) (hsz : (P.info? e).map (·.size) = some 1) (a : Option Addr) (n c q s : Nat) (hq : q ≤ s) (hs : s ≤ c) (w : World) :
    (Instr.slice t (.slice a n c) (some (.int .i64 (q : Int))) (some (.int .i64 (s : Int))) none).run P w = .ok (.slice (if c = q then a else a.map (·.add q)) (s - q) (c - q)) w := by
  cases hi : P.info? e with
  | none => simp [hi] at hsz
  | some z =>
    have hz : z.size = 1 := by simpa [hi] using hsz
    have h1 : (0 : Int) ≤ (q : Int) ∧ (q : Int) ≤ (s : Int) := by omega
    have h2 : (0 : Int) ≤ (s : Int) ∧ (s : Int) ≤ (c : Int) := by omega
    simp [Instr.slice, Instr.sliceBounds, Instr.sliceBound, asIntOf, run_underlying hu, sizeOf, typeInfo, hi, hz, hq, hs]

set_option maxHeartbeats 2000000 in
theorem bufNext (g q : Nat) (r : Option Nat) (l : List UInt8) (br : Bool) (w : World) (h : In w g r l br) (hq : q ≤ l.length) (hq0 : 1 ≤ q) :
    Calls Tryd.prog 34 #[.pointer (some ⟨g, 0, none⟩), .int .i64 q] w fun e w' => ∃ a c, e = .returned (.slice a q c) ∧ q ≤ c ∧ RdB w' a (l.take q) ∧ In w' g r (l.drop q) br ∧ w.grownBy w' (some g) ∧ (∀ b o, a = some ⟨b, o, none⟩ → r = some b) := by
  have HI := Lib.hid h
  obtain ⟨n, c, off, lr, cur, h1, h2, h3, h4, h5, h6, h7⟩ := h.out
  have hlt := h.lt
  clear h
  have f2 := frozen_of_row w g 2 _ _ h1
  have cc2 := cell_of_row w g 2 _ _ _ h1
  have hrd := In.rd h2 h3 h4 h6 h7
  obtain ⟨a2, ha2⟩ : ∃ a2, (if c = off then r.map (fun k => (⟨k, 0, none⟩ : Addr)) else (r.map (fun k => (⟨k, 0, none⟩ : Addr))).map (·.add off)) = a2 := ⟨_, rfl⟩
  have hsl : ∀ w, (Instr.slice 22 (.slice (r.map fun k => ⟨k, 0, none⟩) n c) (some (.int .i64 (off : Int))) (some (.int .i64 ((off : Int) + (q : Int)))) none).run Tryd.prog w = .ok (.slice a2 q (c - off)) w := fun w => by
    have h := run_slice_both (P := Tryd.prog) 22 5 Tryd.underlying22 hszB (r.map fun k => ⟨k, 0, none⟩) n c off (off + q) (by omega) (by omega) w
    rw [ha2, Nat.add_sub_cancel_left, show ((off + q : Nat) : Int) = (off : Int) + (q : Int) by omega] at h
    exact h
  have hab : ∀ b o, a2 = some ⟨b, o, none⟩ → r = some b := by
    intro b o e
    rw [← ha2] at e
    cases r with
    | none => split at e <;> cases e
    | some k =>
      split at e
      · cases e; rfl
      · have e2 : some (Addr.add ⟨k, 0, none⟩ off) = some ⟨b, o, none⟩ := e
        rw [Lib.addr_add] at e2
        cases e2; rfl
  rw [ha2] at hrd
  have HAB := Lib.hid hab; clear hab ha2
  have hraw : Raw w g (r.map fun k => ⟨k, 0, none⟩) n c off lr br := h1
  have HW := Lib.hid hraw; clear hraw h1
  have HRD := Lib.hid hrd; clear hrd
  have H6 := Lib.hid h6; clear h6
  have H7 := Lib.hid h7; clear h7
  have HL := Lib.hid h2
  have hqn : off + q ≤ n := by omega
  have hqm : q ≤ l.length := hq
  clear h2 hq
  have e1 : decide ((l.length : Int) < (q : Int)) = false := by simp; omega
  have e2 : decide ((0 : Int) < (q : Int)) = true := by simp; omega
  go_enter Tryd.func34, Tryd.ntmps34
  (repeat' ((fail_if_success at_builtin); first | go_values | go_skip | go_guarded | go_step | go_upon))
  obtain ⟨w1, hw1⟩ : ∃ w1, w.setCell ⟨g, 2, none⟩ (.int .i8 0) = w1 := ⟨_, rfl⟩
  have hr1 : Raw w1 g (r.map fun k => ⟨k, 0, none⟩) n c off 0 br := by rw [← hw1]; exact set_at HW.out 2 _
  have hg1 : w.grownBy w1 (some g) := by rw [← hw1]; exact grown_set (World.grownBy.refl _ _) 2 _
  have hi1 : In w1 g r l br := by
    refine ⟨⟨n, c, off, 0, cur, hr1, HL.out, h3, h4, h5, fun k e => ?_, H7.out⟩⟩
    obtain ⟨k1, k2, k3⟩ := H6.out k e
    exact ⟨k1, (hg1.block k (Array.getElem?_eq_some_iff.1 k2).1 (by intro e2; cases e2; exact k1 rfl)).trans k2, k3⟩
  rw [hw1]
  clear hw1 f2 cc2
  have HR1 := Lib.hid hr1; clear hr1
  have HI1 := Lib.hid hi1; clear hi1
  have HG1 := Lib.hid hg1; clear hg1
  refine (rawLen g _ n c off 0 br w1 HR1.out h3 h4 h5).mono ?_
  rintro _ _ ⟨rfl, rfl⟩
  dsimp only
  rw [← HL.out]
  have hR : Raw w1.drew g (r.map fun k => ⟨k, 0, none⟩) n c off 0 br := HR1.out
  have c0 := cell_of_row w1.drew g 0 _ _ _ hR
  have c1 := cell_of_row w1.drew g 1 _ _ _ hR
  have f1 := frozen_of_row w1.drew g 1 _ _ hR
  have f2 := frozen_of_row w1.drew g 2 _ _ hR
  have c2 := cell_of_row w1.drew g 2 _ _ _ hR
  have c2b := cell_of_row w1 g 2 _ _ _ HR1.out
  have f2b := frozen_of_row w1 g 2 _ _ HR1.out
  clear hR
  (repeat' ((fail_if_success at_builtin); first | go_values | go_skip | go_guarded | go_step | go_upon))
  go_region
  (repeat' ((fail_if_success at_builtin); first | go_values | go_skip | go_guarded | go_step | go_upon))
  go_ret
  have hgs := grown_set (grown_set HG1.out 1 (.int .i64 ((off : Int) + (q : Int)))) 2 (.int .i8 (-1))
  have hgg : w.grownBy ((w1.setCell ⟨g, 1, none⟩ (.int .i64 ((off : Int) + (q : Int)))).setCell ⟨g, 2, none⟩ (.int .i8 (-1))).drew.drew (some g) := ⟨hgs.os, hgs.tape, hgs.output, hgs.size, hgs.block⟩
  have hraw : Raw ((w1.setCell ⟨g, 1, none⟩ (.int .i64 ((off : Int) + (q : Int)))).setCell ⟨g, 2, none⟩ (.int .i8 (-1))).drew.drew g (r.map fun k => ⟨k, 0, none⟩) n c (off + q) (-1) br := by
    have := set_at (set_at HR1.out 1 (.int .i64 ((off : Int) + (q : Int)))) 2 (.int .i8 (-1))
    unfold Raw
    rw [show ((off + q : Nat) : Int) = (off : Int) + (q : Int) by omega]
    exact this
  have hll := HL.out
  refine ⟨a2, c - off, rfl, by omega, rd_grown (HRD.out.takeB q) (fun _ blk o e => (H6.out blk (HAB.out blk o e)).1) hgg, ⟨⟨n, c, off + q, -1, cur, hraw, by rw [List.length_drop]; omega, hqn, h4, h5, fun k e => ?_, H7.out⟩⟩, hgg, HAB.out⟩
  obtain ⟨k1, k2, k3, k4⟩ := H6.out k e
  refine ⟨k1, (hgg.block k (Array.getElem?_eq_some_iff.1 k2).1 (by intro e2; cases e2; exact k1 rfl)).trans k2, k3, ?_⟩
  rw [← List.drop_drop, k4, bvs_drop]

/-- The number of four bytes. -/
def num4 (ds : List UInt8) : Nat := ds.foldl (fun n c => n * 256 + c.toNat) 0
theorem num4_snoc (l : List UInt8) (c : UInt8) : num4 (l ++ [c]) = num4 l * 256 + c.toNat := by simp [num4]
theorem num4_lt (l : List UInt8) (h : l.length ≤ 4) : num4 l < 4294967296 := by
  have key : ∀ (k : Nat) (l : List UInt8), l.length = k → num4 l < 256 ^ k := by
    intro k
    induction k with
    | zero => intro l hl; rw [List.eq_nil_of_length_eq_zero hl]; simp [num4]
    | succ k ih =>
      intro l hl
      have hne : l ≠ [] := by intro e; subst e; simp at hl
      have h1 := ih l.dropLast (by simp [hl])
      rw [← List.dropLast_concat_getLast hne, num4_snoc, Nat.pow_succ]
      have h2 := (l.getLast hne).toNat_lt
      generalize 256 ^ k = p at *
      omega
  have h1 := key _ l rfl
  have : 256 ^ l.length ≤ 256 ^ 4 := Nat.pow_le_pow_right (by decide) h
  have h2 : (256 : Nat) ^ 4 = 4294967296 := by decide
  omega
theorem or256i (x c : Nat) (hx : x * 256 + c < 9223372036854775808) (hc : c < 256) : bits .or .i64 (IntKind.i64.wrap ((x : Int) * 256)) (c : Int) = ((x * 256 + c : Nat) : Int) := by
  have h1 : IntKind.i64.wrap ((x : Int) * 256) = ((x * 256 : Nat) : Int) := by rw [IntWalk.i64_in _ (by omega)]; omega
  rw [h1]
  show IntKind.i64.wrap ((BitVec.ofInt 64 ((x * 256 : Nat) : Int) ||| BitVec.ofInt 64 ((c : Nat) : Int)).toNat : Int) = _
  have h2 := Nat.shiftLeft_add_eq_or_of_lt (i := 8) (b := c) (by omega) x
  rw [Nat.shiftLeft_eq] at h2
  rw [BitVec.toNat_or, ofInt_u64 (x * 256) (by omega), ofInt_u64 c (by omega), ← h2]
  exact IntWalk.i64_in _ (by omega)

def mayB (n : Nat) : Bool := decide (1 ≤ n ∧ n ≤ 32768)

set_option maxHeartbeats 4000000 in
theorem lenNumber (d0 d1 d2 d3 : UInt8) (w : World) :
    Calls Tryd.prog 27 #[.agg #[.int .u8 d0.toNat, .int .u8 d1.toNat, .int .u8 d2.toNat, .int .u8 d3.toNat]] w fun e w' => e = .returned (.tuple #[.int .i64 (num4 [d0, d1, d2, d3] : Nat), .bool (mayB (num4 [d0, d1, d2, d3]))]) ∧ Below w.heap.size w w' := by
  have b0 := d0.toNat_lt
  have b1 := d1.toNat_lt
  have b2 := d2.toNat_lt
  have b3 := d3.toNat_lt
  have e0 := or256i 0 d0.toNat (by omega) b0
  have e1 := or256i d0.toNat d1.toNat (by omega) b1
  have e2 := or256i (d0.toNat * 256 + d1.toNat) d2.toNat (by omega) b2
  have e3 := or256i ((d0.toNat * 256 + d1.toNat) * 256 + d2.toNat) d3.toNat (by omega) b3
  obtain ⟨n1, hn1⟩ : ∃ n, d0.toNat = n := ⟨_, rfl⟩
  obtain ⟨n2, hn2⟩ : ∃ n, d0.toNat * 256 + d1.toNat = n := ⟨_, rfl⟩
  obtain ⟨n3, hn3⟩ : ∃ n, (d0.toNat * 256 + d1.toNat) * 256 + d2.toNat = n := ⟨_, rfl⟩
  obtain ⟨n4, hn4⟩ : ∃ n, ((d0.toNat * 256 + d1.toNat) * 256 + d2.toNat) * 256 + d3.toNat = n := ⟨_, rfl⟩
  have hnum : num4 [d0, d1, d2, d3] = n4 := by rw [← hn4]; simp [num4]
  rw [hnum]
  rw [hn4] at e3
  rw [hn3] at e3 e2
  rw [hn2] at e2 e1
  have hn4b : n4 < 4294967296 := by omega
  clear hnum hn1 hn2 hn3 hn4
  simp only [Nat.zero_mul, Nat.zero_add] at e0
  go_enter Tryd.func27, Tryd.ntmps27
  (repeat' ((fail_if_success at_builtin); first | go_values | go_skip | go_guarded | go_step | go_upon))
  have e0' : bits BinOp.or IntKind.i64 0 (d0.toNat : Int) = (d0.toNat : Int) := by
    have h := e0
    rw [show IntKind.i64.wrap (((0 : Nat) : Int) * 256) = 0 by decide] at h
    exact h
  clear e0
  have e1' : bits BinOp.or IntKind.i64 ((d0.toNat : Int) * 256) (d1.toNat : Int) = (n2 : Int) := by
    have h := e1
    rw [IntWalk.i64_in _ (by omega)] at h
    exact h
  have e2' : bits BinOp.or IntKind.i64 (wrap64 ((n2 : Int) * 256)) (d2.toNat : Int) = (n3 : Int) := by rw [← IntWalk.i64_left]; exact e2
  have e3' : bits BinOp.or IntKind.i64 (wrap64 ((n3 : Int) * 256)) (d3.toNat : Int) = (n4 : Int) := by rw [← IntWalk.i64_left]; exact e3
  have E1 := Lib.hid e1'; clear e1' e1
  have E2 := Lib.hid e2'; clear e2' e2
  have E3 := Lib.hid e3'; clear e3' e3
  go_loopw [4, 8] (fun n i wr => Below w.heap.size w wr ∧ ((i = .int .i64 0 ∧ n = .int .i64 0) ∨ (i = .int .i64 1 ∧ n = .int .i64 d0.toNat) ∨ (i = .int .i64 2 ∧ n = .int .i64 n2) ∨ (i = .int .i64 3 ∧ n = .int .i64 n3) ∨ (i = .int .i64 4 ∧ n = .int .i64 n4))) (fun _ i _ => 4 - (intOf i).toNat)
  case atStart => exact ⟨(Below.refl _ _).alloc (Nat.le_refl _) _, Or.inl ⟨rfl, rfl⟩⟩
  case round =>
    obtain ⟨hB, hc⟩ := hrel
    rcases hc with ⟨rfl, rfl⟩ | ⟨rfl, rfl⟩ | ⟨rfl, rfl⟩ | ⟨rfl, rfl⟩ | ⟨rfl, rfl⟩
    · (repeat' ((fail_if_success at_builtin); first | ((with_reducible refine wpList_index_arr rfl 52 _ _ rfl 4 5 .u8 Tryd.underlying52 Tryd.underlying5 hszB _ rfl 0 rfl (by decide) (.int .u8 d0.toNat) rfl ?_)) | go_values | go_skip | go_guarded | go_step | go_upon))
      go_roundw
      case rel => exact ⟨hB, Or.inr (Or.inl ⟨rfl, rfl⟩)⟩
      case measure => simp [intOf]
    · (repeat' ((fail_if_success at_builtin); first | ((with_reducible refine wpList_index_arr rfl 52 _ _ rfl 4 5 .u8 Tryd.underlying52 Tryd.underlying5 hszB _ rfl 1 rfl (by decide) (.int .u8 d1.toNat) rfl ?_)) | go_values | go_skip | go_guarded | go_step | go_upon))
      go_roundw
      case rel => exact ⟨hB, Or.inr (Or.inr (Or.inl ⟨rfl, by rw [E1.out]⟩))⟩
      case measure => simp [intOf]
    · (repeat' ((fail_if_success at_builtin); first | ((with_reducible refine wpList_index_arr rfl 52 _ _ rfl 4 5 .u8 Tryd.underlying52 Tryd.underlying5 hszB _ rfl 2 rfl (by decide) (.int .u8 d2.toNat) rfl ?_)) | go_values | go_skip | go_guarded | go_step | go_upon))
      go_roundw
      case rel => exact ⟨hB, Or.inr (Or.inr (Or.inr (Or.inl ⟨rfl, by rw [E2.out]⟩)))⟩
      case measure => simp [intOf]
    · (repeat' ((fail_if_success at_builtin); first | ((with_reducible refine wpList_index_arr rfl 52 _ _ rfl 4 5 .u8 Tryd.underlying52 Tryd.underlying5 hszB _ rfl 3 rfl (by decide) (.int .u8 d3.toNat) rfl ?_)) | go_values | go_skip | go_guarded | go_step | go_upon))
      go_roundw
      case rel => exact ⟨hB, Or.inr (Or.inr (Or.inr (Or.inr ⟨rfl, by rw [E3.out]⟩)))⟩
      case measure => simp [intOf]
    · by_cases h1 : 1 ≤ n4
      · have q2 : decide ((1 : Int) ≤ (n4 : Int)) = true := by simp; omega
        by_cases h2 : n4 ≤ 32768
        · have q1 : decide ((n4 : Int) ≤ 32768) = true := by simp; omega
          (repeat' ((fail_if_success at_builtin); first | go_values | go_skip | go_guarded | go_step | go_upon))
          go_ret2
          exact ⟨by simp [mayB, h1, h2], hB⟩
        · have q1 : decide ((n4 : Int) ≤ 32768) = false := by simp; omega
          (repeat' ((fail_if_success at_builtin); first | go_values | go_skip | go_guarded | go_step | go_upon))
          go_ret2
          exact ⟨by simp [mayB, h1, h2], hB⟩
      · have q2 : decide ((1 : Int) ≤ (n4 : Int)) = false := by simp; omega
        (repeat' ((fail_if_success at_builtin); first | go_values | go_skip | go_guarded | go_step | go_upon))
        go_ret2
        exact ⟨by simp [mayB, h1], hB⟩

end Go.Proofs.YthgaghpakioglaaDoor
