/- What the methods of wire.In answer: Feed, Waits, breaks. -/
import Derived.Test.YthgaghpakioglaaDoorWr
namespace Go.Proofs.YthgaghpakioglaaDoor
set_option linter.unusedSimpArgs false
set_option linter.unusedVariables false
open Go.RowKit
set_option maxRecDepth 10000

/-- The bytes that are left. -/
theorem In.rd {w : World} {g : Nat} {r : Option Nat} {l : List UInt8} {n c off : Nat} {cur : Array Value} (hl : l.length = n - off) (ho : off ≤ n) (hnc : n ≤ c) (hk : ∀ k, r = some k → k ≠ g ∧ w.heap[k]? = some (.cells cur 5 (0, 0)) ∧ cur.size = c ∧ (cur.toList.take n).drop off = bvs l) (hr : r = none → c = 0) :
    RdB w (if c = off then r.map (fun k => (⟨k, 0, none⟩ : Addr)) else (r.map (fun k => (⟨k, 0, none⟩ : Addr))).map (·.add off)) l := by
  by_cases hco : c = off
  · have h0 : l = [] := List.eq_nil_of_length_eq_zero (by omega)
    rw [h0]; exact RdC.nil _ _
  · rw [if_neg hco]
    cases r with
    | none => have := hr rfl; omega
    | some k =>
      obtain ⟨_, h2, _, h4⟩ := hk k rfl
      have := in_rd h2 h4
      rw [show (⟨k, off, none⟩ : Addr) = Addr.add ⟨k, 0, none⟩ off by rw [Lib.addr_add, Nat.zero_add]] at this
      exact this

set_option maxHeartbeats 1000000 in
theorem bufBytes (g : Nat) (r : Option Nat) (l : List UInt8) (br : Bool) (w : World) (h : In w g r l br) :
    Calls Tryd.prog 32 #[.pointer (some ⟨g, 0, none⟩)] w fun e w' => ∃ a c, e = .returned (.slice a l.length c) ∧ l.length ≤ c ∧ RdB w a l ∧ w' = w.drew := by
  obtain ⟨n, c, off, lr, cur, h1, h2, h3, h4, h5, h6, h7⟩ := h.out
  have c0 := cell_of_row w g 0 _ _ _ h1
  have c1 := cell_of_row w g 1 _ _ _ h1
  have hrd := In.rd h2 h3 h4 h6 h7
  obtain ⟨a2, ha2⟩ : ∃ a2, (if c = off then r.map (fun k => (⟨k, 0, none⟩ : Addr)) else (r.map (fun k => (⟨k, 0, none⟩ : Addr))).map (·.add off)) = a2 := ⟨_, rfl⟩
  have hsl : ∀ w, (Instr.slice 22 (.slice (r.map fun k => ⟨k, 0, none⟩) n c) (some (.int .i64 (off : Int))) none none).run Tryd.prog w = .ok (.slice a2 (n - off) (c - off)) w := fun w => by
    have h := run_slice_from (P := Tryd.prog) 22 5 Tryd.underlying22 hszB (r.map fun k => ⟨k, 0, none⟩) n c off h3 w
    rw [ha2] at h
    exact h
  rw [ha2] at hrd
  have HRD := Lib.hid hrd; clear hrd ha2 h6 h7 h1
  have HL := Lib.hid h2; clear h2
  go_enter Tryd.func32, Tryd.ntmps32
  (repeat' ((fail_if_success at_builtin); first | go_values | go_skip | go_guarded | go_step | go_upon))
  go_region
  (repeat' ((fail_if_success at_builtin); first | go_values | go_skip | go_guarded | go_step | go_upon))
  go_ret
  exact ⟨a2, c - off, by rw [HL.out]; rfl, by rw [HL.out]; omega, HRD.out, rfl⟩

set_option maxHeartbeats 1000000 in
theorem inWaits (g : Nat) (r : Option Nat) (l : List UInt8) (br : Bool) (w : World) (h : In w g r l br) :
    Calls Tryd.prog 20 #[.pointer (some ⟨g, 0, none⟩)] w fun e w' => e = .returned (.int .i64 l.length) ∧ Still w w' := by
  have HI := Lib.hid h; clear h
  obtain ⟨n, c, off, lr, cur, h1, _⟩ := HI.out.out
  have c0 := cell_of_row w g 0 _ _ _ h1
  go_enter Tryd.func20, Tryd.ntmps20
  (repeat' ((fail_if_success at_builtin); first | go_values | go_skip | go_guarded | go_step | go_upon))
  refine (bufLen g r l br w HI.out).mono ?_
  rintro _ w1 ⟨rfl, hs⟩
  dsimp only
  (repeat' ((fail_if_success at_builtin); first | go_values | go_skip | go_guarded | go_step | go_upon))
  go_ret
  exact ⟨rfl, hs⟩

set_option maxHeartbeats 1000000 in
theorem inFeed (g : Nat) (r : Option Nat) (l : List UInt8) (b : Option Addr) (n1 c1 : Nat) (ps : List UInt8) (w : World) (h : In w g r l false) (hb : RdB w b ps) (e1 : ps.length = n1) (hne : 0 < ps.length → ∀ blk o, b = some ⟨blk, o, none⟩ → blk ≠ g ∧ r ≠ some blk) (hbig : l.length + n1 ≤ 1000000) :
    Calls Tryd.prog 18 #[.pointer (some ⟨g, 0, none⟩), .slice b n1 c1] w fun e w' => e = .returned (.tuple #[]) ∧ ∃ r', In w' g r' (l ++ ps) false ∧ NewRow w r r' ∧ InF g r w w' := by
  have HI := Lib.hid h; clear h
  have HB := Lib.hid hb; clear hb
  have HNE := Lib.hid hne; clear hne
  obtain ⟨n, c, off, lr, cur, h1, _⟩ := HI.out.out
  have c3 := cell_of_row w g 3 _ _ _ h1
  have c0 := cell_of_row w g 0 _ _ _ h1
  clear h1
  go_enter Tryd.func18, Tryd.ntmps18
  (repeat' ((fail_if_success at_builtin); first | go_values | go_skip | go_guarded | go_step | go_upon))
  refine (bufWrite g r l false b n1 c1 ps w HI.out HB.out e1 HNE.out hbig).mono ?_
  rintro _ w1 ⟨rfl, hr⟩
  dsimp only
  have HR := Lib.hid hr; clear hr
  (repeat' ((fail_if_success at_builtin); first | go_values | go_skip | go_guarded | go_step | go_upon))
  go_end0
  exact ⟨rfl, HR.out⟩

set_option maxHeartbeats 1000000 in
/-- A broken reader takes nothing. -/
theorem inFeedBroken (g : Nat) (r : Option Nat) (l : List UInt8) (b : Option Addr) (n1 c1 : Nat) (w : World) (h : In w g r l true) :
    Calls Tryd.prog 18 #[.pointer (some ⟨g, 0, none⟩), .slice b n1 c1] w fun e w' => e = .returned (.tuple #[]) ∧ w = w' := by
  obtain ⟨n, c, off, lr, cur, h1, _⟩ := h.out
  have c3 := cell_of_row w g 3 _ _ _ h1
  clear h1
  go_enter Tryd.func18, Tryd.ntmps18
  (repeat' ((fail_if_success at_builtin); first | go_values | go_skip | go_guarded | go_step | go_upon))
  go_end0
  exact ⟨rfl, rfl⟩

set_option maxHeartbeats 1000000 in
theorem inBreaks (g : Nat) (r : Option Nat) (l : List UInt8) (br : Bool) (w : World) (h : In w g r l br) :
    Calls Tryd.prog 31 #[.pointer (some ⟨g, 0, none⟩)] w fun e w' => e = .returned (.tuple #[.slice none 0 0, .bool false, .int .i64 5]) ∧ In w' g r [] true ∧ w.grownBy w' (some g) := by
  obtain ⟨n, c, off, lr, cur, h1, h2, h3, h4, h5, h6, h7⟩ := h.out
  have c3 := cell_of_row w g 3 _ _ _ h1
  have f3 := frozen_of_row w g 3 _ _ h1
  have c0 := cell_of_row w g 0 _ _ _ h1
  have hr1 : Raw (w.setCell ⟨g, 3, none⟩ (.bool true)) g (r.map fun k => ⟨k, 0, none⟩) n c off lr true := set_at h1 3 _
  have HR1 := Lib.hid hr1; clear hr1
  have H6 := Lib.hid h6; clear h6
  have H7 := Lib.hid h7; clear h7 h1
  go_enter Tryd.func31, Tryd.ntmps31
  (repeat' ((fail_if_success at_builtin); first | go_values | go_skip | go_guarded | go_step | go_upon))
  refine (bufReset g _ n c off lr true _ HR1.out).mono ?_
  rintro _ w1 ⟨rfl, hg1, hr2⟩
  dsimp only
  have HG1 := Lib.hid hg1; clear hg1
  have HR2 := Lib.hid hr2; clear hr2
  clear c0 c3 f3
  (repeat' ((fail_if_success at_builtin); first | go_values | go_skip | go_guarded | go_step | go_upon))
  go_ret3
  have hgg : w.grownBy w1 (some g) := (grown_set (World.grownBy.refl _ _) 3 _).trans HG1.out
  refine ⟨rfl, ⟨⟨0, c, 0, 0, cur, HR2.out, rfl, Nat.le_refl _, Nat.zero_le _, h5, fun k e => ?_, H7.out⟩⟩, hgg⟩
  obtain ⟨k1, k2, k3, k4⟩ := H6.out k e
  exact ⟨k1, (hgg.block k (Array.getElem?_eq_some_iff.1 k2).1 (by intro e2; cases e2; exact k1 rfl)).trans k2, k3, rfl⟩

end Go.Proofs.YthgaghpakioglaaDoor
