/- The calls on connections that came in. -/
import Derived.Test.YthgaghpakioglaaOpenW
namespace Go.Proofs.Ythgaghpakioglaa
open Go.RowKit
set_option linter.unusedSimpArgs false
set_option linter.unusedVariables false
set_option maxRecDepth 10000

structure Op29 where
  kd : Int
  c : Int
  n : Int
  ba : Option Addr
  bn : Nat
  bc : Nat
  bl : List UInt8
def Op29.cells (o : Op29) : List Value := [.int .i64 o.kd, .int .i64 o.c, .int .i64 o.n, .slice o.ba o.bn o.bc]
structure Op29.Ok (w : World) (o : Op29) : Prop where
  kd : -9223372036854775808 ≤ o.kd ∧ o.kd ≤ 9223372036854775807
  c : -9223372036854775808 ≤ o.c ∧ o.c ≤ 9223372036854775807
  n : -9223372036854775808 ≤ o.n ∧ o.n ≤ 9223372036854775807
  len : o.bl.length = o.bn
  fits : o.bn ≤ o.bc
  max : o.bn ≤ 140737488351232
  rd : RdB w o.ba o.bl
structure Ops29 (w : World) (a : Option Addr) (os : List Op29) : Prop where
  rd : RdC w a (os.flatMap Op29.cells)
  ok : ∀ o ∈ os, o.Ok w
theorem Op29.Ok.below {w w' : World} {o : Op29} (h : o.Ok w) {B : Nat} (hb : Below B w w') (hB : w.heap.size ≤ B) : o.Ok w' := ⟨h.kd, h.c, h.n, h.len, h.fits, h.max, h.rd.below hb hB⟩
theorem Ops29.below {w w' : World} {a : Option Addr} {os : List Op29} (h : Ops29 w a os) {B : Nat} (hb : Below B w w') (hB : w.heap.size ≤ B) : Ops29 w' a os := ⟨h.rd.below hb hB, fun o ho => (h.ok o ho).below hb hB⟩
theorem Ops29.at_ {w : World} {a : Option Addr} {os : List Op29} (h : Ops29 w a os) (k : Nat) (hk : k < os.length) : ∃ b off, a = some ⟨b, off, none⟩ ∧
    w.cell? ⟨b, off + k * 4, none⟩ = some (.int .i64 os[k].kd) ∧ w.cell? ⟨b, off + k * 4 + 1, none⟩ = some (.int .i64 os[k].c) ∧ w.cell? ⟨b, off + k * 4 + 2, none⟩ = some (.int .i64 os[k].n) ∧ w.cell? ⟨b, off + k * 4 + 3, none⟩ = some (.slice os[k].ba os[k].bn os[k].bc) := by
  have hl := flat_length Op29.cells 4 (fun _ => rfl) os
  obtain ⟨b, off, rfl, _⟩ := h.rd.lt (by rw [hl]; omega)
  have key : ∀ j, j < 4 → w.cell? ⟨b, off + k * 4 + j, none⟩ = os[k].cells[j]? := by
    intro j hj
    rw [Nat.add_assoc, h.rd.cell (k * 4 + j) (by rw [hl]; omega), ← List.getElem?_eq_getElem, flat_get Op29.cells 4 (by omega) (fun _ => rfl) os, show (k * 4 + j) / 4 = k by omega, show (k * 4 + j) % 4 = j by omega, List.getElem?_eq_getElem hk]
    rfl
  exact ⟨b, off, rfl, key 0 (by omega), key 1 (by omega), key 2 (by omega), key 3 (by omega)⟩

section
variable {H : Type} {enc : TypeId × Value → H} {w : World} {fuel : Nat} {cs : List Value} {y : DataW H × List MemPlace}
theorem ox_op29 (h : Reads enc Try.prog w fuel 63 cs y) (hy : ∀ m ∈ y.1.weights Try.prog 63, m ≤ reachBytes) : ∃ o : Op29, cs = o.cells ∧ o.Ok w := by
  obtain ⟨hl, n, hf⟩ := ox_structW Try.underlying63 h hy
  have hl' : cs.length = 4 := by rw [hl]; kernel_rfl
  obtain ⟨y0, h0, _⟩ := hf 0 _ rfl
  obtain ⟨y1, h1, _⟩ := hf 1 _ rfl
  obtain ⟨y2, h2, _⟩ := hf 2 _ rfl
  obtain ⟨y3, h3, w3⟩ := hf 3 _ rfl
  obtain ⟨v0, e0, m0⟩ := ox_int Try.underlying3 h0
  obtain ⟨v1, e1, m1⟩ := ox_int Try.underlying3 h1
  obtain ⟨v2, e2, m2⟩ := ox_int Try.underlying3 h2
  obtain ⟨ba, bn, bc, bl, e3, g1, g2, g3, g4⟩ := ox_bytes Try.underlying51 Try.underlying5 (by kernel_rfl) h3
  have hmx : bc ≤ 140737488351232 := by rw [e3] at h3; exact reach_bytes Try.underlying51 (by kernel_rfl) h3 w3
  have c3 : Try.prog.cellsOf 3 = 1 := by kernel_rfl
  have cB : Try.prog.cellsOf 51 = 1 := by kernel_rfl
  have e0' : (cs.drop 0).take 1 = [.int .i64 v0] := by rw [← c3]; exact e0
  have e1' : (cs.drop 1).take 1 = [.int .i64 v1] := by rw [← c3]; exact e1
  have e2' : (cs.drop 2).take 1 = [.int .i64 v2] := by rw [← c3]; exact e2
  have e3' : (cs.drop 3).take 1 = [.slice ba bn bc] := by rw [← cB]; exact e3
  refine ⟨⟨v0, v1, v2, ba, bn, bc, bl⟩, ?_, ⟨m0, m1, m2, g1, g2, Nat.le_trans g2 hmx, g4⟩⟩
  unfold Op29.cells
  have hd : cs = cs.drop 0 := rfl
  rw [hd, peel cs 0 1, peel cs (0 + 1) 1, peel cs (0 + 1 + 1) 1, peel_end cs (0 + 1 + 1 + 1) 1 (by omega), e0', e1', e2', e3']
  rfl
theorem ox_ops29 (h : Reads enc Try.prog w fuel 58 cs y) (hy : ∀ m ∈ y.1.weights Try.prog 58, m ≤ reachBytes) :
    ∃ (a : Option Addr) (n c : Nat) (os : List Op29), cs = [.slice a n c] ∧ os.length = n ∧ n ≤ c ∧ c ≤ maxLen ∧ Ops29 w a os := by
  obtain ⟨a, n, c, xs, h1, h2, h3, h4, h5, h6⟩ := ox_sliceW (size := 4) (by omega) Try.underlying58 (by kernel_rfl) Op29.cells (Op29.Ok w) (fun _ => rfl) (fun _ _ _ hh hw => ox_op29 hh hw) h hy
  exact ⟨a, n, c, xs, h1, h2, h3, h4, h5, h6⟩
end

/-- How many bytes the calls bear. -/
def tot29 : List Op29 → Nat
  | [] => 0
  | o :: r => o.bn + tot29 r
theorem tot29_append : ∀ a b : List Op29, tot29 (a ++ b) = tot29 a + tot29 b
  | [], b => by simp [tot29]
  | o :: r, b => by simp only [List.cons_append, tot29, tot29_append r b]; omega
theorem tot29_take (os : List Op29) (k : Nat) (hk : k < os.length) : tot29 (os.take (k + 1)) = tot29 (os.take k) + os[k].bn := by
  rw [List.take_succ_eq_append_getElem hk, tot29_append]; simp [tot29]
theorem tot29_le (os : List Op29) (k : Nat) : tot29 (os.take k) ≤ tot29 os := by
  have := tot29_append (os.take k) (os.drop k)
  rw [List.take_append_drop] at this
  omega
def long29 (os : List Op29) : Bool := decide (8192 < tot29 os) || decide (200 < os.length)

set_option maxHeartbeats 1000000 in
theorem long_of (a : Option Addr) (n c : Nat) (os : List Op29) (w : World) (h : Ops29 w a os) (hl : os.length = n) (hc : n ≤ c) (hm : n ≤ 9223372036854775807) :
    Calls Try.prog 29 #[.slice a n c] w fun e w' => e = .returned (.bool (long29 os)) ∧ w = w' := by
  subst hl
  go_enter Try.func29, Try.ntmps29
  (repeat' ((fail_if_success at_builtin); first | go_values | go_skip | go_guarded | go_step | go_upon))
  go_loop [3, 4] (fun s i => ∃ k : Nat, k ≤ os.length ∧ i = .int .i64 k ∧ s = .int .i64 (tot29 (os.take k)) ∧ tot29 (os.take k) ≤ 8192) (fun _ i => os.length - (intOf i).toNat)
  case atStart => exact ⟨0, Nat.zero_le _, rfl, rfl, Nat.zero_le _⟩
  case round =>
    obtain ⟨k, hk, rfl, rfl, hT⟩ := hrel
    by_cases hlt : k < os.length
    · obtain ⟨b, off, rfl, c0, c1, c2, c3⟩ := h.at_ k hlt
      have hmx := (h.ok _ (List.getElem_mem hlt)).max
      have HT := Lib.hid (tot29_take os k hlt)
      have HLE := Lib.hid (tot29_le os (k + 1))
      obtain ⟨bn, hbn⟩ : ∃ bn, os[k].bn = bn := ⟨_, rfl⟩
      rw [hbn] at c3 hmx HT
      obtain ⟨T, hTT⟩ : ∃ T, tot29 (os.take k) = T := ⟨_, rfl⟩
      rw [hTT] at hT HT ⊢
      clear hbn hTT c0 c1 c2
      by_cases hbig : 8192 < T + bn
      · have tb : decide ((8192 : Int) < (T : Int) + (bn : Int)) = true := by simp; omega
        have HBIG := Lib.hid hbig
        clear hbig
        (repeat' ((fail_if_success at_builtin); first | go_values | go_skip | go_guarded | go_step | go_upon))
        go_ret
        refine ⟨?_, rfl⟩
        have h1 := HT.out
        have h2 := HLE.out
        have h3 := HBIG.out
        unfold long29
        rw [show decide (8192 < tot29 os) = true by rw [decide_eq_true_eq]; omega]
        rfl
      · have tb : decide ((8192 : Int) < (T : Int) + (bn : Int)) = false := by simp; omega
        have HBIG := Lib.hid hbig
        clear hbig
        (repeat' ((fail_if_success at_builtin); first | go_values | go_skip | go_guarded | go_step | go_upon))
        go_round
        case rel => exact ⟨k + 1, by omega, by go_num, by rw [HT.out]; go_num, by have h1 := HT.out; have h2 := HBIG.out; omega⟩
        case measure => simp [intOf]; omega
    · obtain rfl : k = os.length := by omega
      rw [List.take_of_length_le (Nat.le_refl _)] at hT
      have HT := Lib.hid hT
      clear hT
      (repeat' ((fail_if_success at_builtin); first | go_values | go_skip | go_guarded | go_step | go_upon))
      go_ret
      refine ⟨?_, rfl⟩
      unfold long29
      rw [show decide (8192 < tot29 os) = false by rw [decide_eq_false_iff_not]; have := HT.out; omega]
      simp
      omega

end Go.Proofs.Ythgaghpakioglaa
