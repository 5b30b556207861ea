/- Connections in memory (package net): New, at, Is. -/
import Derived.Test.YthgaghpakioglaaOpen
namespace Go.Proofs.Ythgaghpakioglaa
set_option linter.unusedSimpArgs false
set_option linter.unusedVariables false
open Go.RowKit
set_option maxRecDepth 10000
--@PUT2

/-- A connection: whether it is open, what waits, what was replied. -/
structure Conn where
  op : Bool
  wa : Option Addr
  wn : Nat
  wc : Nat
  wl : List UInt8
  ra : Option Addr
  rn : Nat
  rc : Nat
  rl : List UInt8
def Conn.cells (c : Conn) : List Value := [.bool c.op, .slice c.wa c.wn c.wc, .slice c.ra c.rn c.rc]
theorem Conn.cells_length (c : Conn) : c.cells.length = 3 := rfl
def Conn.none : Conn := ⟨false, Option.none, 0, 0, [], Option.none, 0, 0, []⟩
structure Conn.Ok (w : World) (g : Nat) (c : Conn) : Prop where
  wlen : c.wl.length = c.wn
  wcap : c.wn ≤ c.wc
  wmax : c.wn ≤ 100000000
  wrd : RdB w c.wa c.wl
  woff : 0 < c.wl.length → ∀ b o, c.wa = some ⟨b, o, Option.none⟩ → b ≠ g
  rlen : c.rl.length = c.rn
  rcap : c.rn ≤ c.rc
  rmax : c.rn ≤ 100000000
  rrd : RdB w c.ra c.rl
  roff : 0 < c.rl.length → ∀ b o, c.ra = some ⟨b, o, Option.none⟩ → b ≠ g
theorem Conn.none_ok (w : World) (g : Nat) : Conn.none.Ok w g := ⟨rfl, Nat.le_refl _, by decide, RdC.nil _ _, fun h => absurd h (by decide), rfl, Nat.le_refl _, by decide, RdC.nil _ _, fun h => absurd h (by decide)⟩
theorem Conn.Ok.below {w w' : World} {g : Nat} {c : Conn} (h : c.Ok w g) (hb : Below w.heap.size w w') : c.Ok w' g :=
  ⟨h.wlen, h.wcap, h.wmax, h.wrd.below hb (Nat.le_refl _), h.woff, h.rlen, h.rcap, h.rmax, h.rrd.below hb (Nat.le_refl _), h.roff⟩

/-- The connections. -/
structure NetAt (w : World) (g : Nat) (cs : List Conn) : Prop where
  row : w.heap[g]? = some (.cells (cs.flatMap Conn.cells).toArray 100 (0, 0))
  len : cs.length = 8
  ok : ∀ c ∈ cs, c.Ok w g
theorem NetAt.below {w w' : World} {g : Nat} {cs : List Conn} (h : NetAt w g cs) (hb : Below w.heap.size w w') : NetAt w' g cs :=
  ⟨(hb.block g (Array.getElem?_eq_some_iff.1 h.row).1).trans h.row, h.len, fun c hc => (h.ok c hc).below hb⟩
theorem NetAt.cell {w : World} {g : Nat} {cs : List Conn} (h : NetAt w g cs) (k : Nat) (hk : k < cs.length) :
    w.cell? ⟨g, k * 3, Option.none⟩ = some (.bool cs[k].op) ∧ w.cell? ⟨g, k * 3 + 1, Option.none⟩ = some (.slice cs[k].wa cs[k].wn cs[k].wc) ∧ w.cell? ⟨g, k * 3 + 2, Option.none⟩ = some (.slice cs[k].ra cs[k].rn cs[k].rc) := by
  have key : ∀ j, j < 3 → w.cell? ⟨g, k * 3 + j, Option.none⟩ = cs[k].cells[j]? := by
    intro j hj
    rw [cell_of_row w g (k * 3 + j) _ _ _ h.row, List.getElem?_toArray]
    have h2 := flat_get Conn.cells 3 (by omega) Conn.cells_length cs (k * 3 + j)
    rw [show (k * 3 + j) / 3 = k by omega, show (k * 3 + j) % 3 = j by omega, List.getElem?_eq_getElem hk] at h2
    exact h2
  exact ⟨key 0 (by omega), key 1 (by omega), key 2 (by omega)⟩

set_option maxHeartbeats 1000000 in
theorem netNew (w : World) : Calls Try.prog 31 #[] w fun e w' => e = .returned (.pointer (some ⟨w.heap.size, 0, Option.none⟩)) ∧ NetAt w' w.heap.size (List.replicate 8 Conn.none) ∧ Below w.heap.size w w' := by
  go_enter Try.func31, Try.ntmps31
  (repeat' ((fail_if_success at_builtin); first | go_values | go_skip | go_guarded | go_step | go_upon))
  go_ret
  refine ⟨rfl, ⟨?_, rfl, fun c hc => ?_⟩, (Below.refl _ _).alloc (Nat.le_refl _) _⟩
  · exact heap_alloc_new w _
  · rw [List.eq_of_mem_replicate hc]; exact Conn.none_ok _ _

def connP (g : Nat) (c : Int) : Option Addr := if 1 ≤ c ∧ c ≤ 8 then some ⟨g, (c - 1).toNat * 3, Option.none⟩ else Option.none
set_option maxHeartbeats 1000000 in
theorem netAt_ (g : Nat) (c : Int) (w : World) (hc : -9223372036854775808 ≤ c ∧ c ≤ 9223372036854775807) :
    Calls Try.prog 61 #[.pointer (some ⟨g, 0, Option.none⟩), .int .i64 c] w fun e w' => e = .returned (.pointer (connP g c)) ∧ w = w' := by
  by_cases h1 : c < 1
  · have t1 : decide (c < 1) = true := by simp; omega
    have hp : connP g c = Option.none := by unfold connP; rw [if_neg (by omega)]
    go_enter Try.func61, Try.ntmps61
    (repeat' ((fail_if_success at_builtin); first | go_values | go_skip | go_guarded | go_step | go_upon))
    go_ret
    exact ⟨by rw [hp]; rfl, rfl⟩
  · have t1 : decide (c < 1) = false := by simp; omega
    by_cases h2 : 8 < c
    · have t2 : decide (8 < c) = true := by simp; omega
      have hp : connP g c = Option.none := by unfold connP; rw [if_neg (by omega)]
      go_enter Try.func61, Try.ntmps61
      (repeat' ((fail_if_success at_builtin); first | go_values | go_skip | go_guarded | go_step | go_upon))
      go_ret
      exact ⟨by rw [hp]; rfl, rfl⟩
    · have t2 : decide (8 < c) = false := by simp; omega
      obtain ⟨k, hk⟩ : ∃ k : Nat, c - 1 = (k : Int) := ⟨(c - 1).toNat, by omega⟩
      have hk8 : (k : Int) < 8 := by omega
      have hk0 : (0 : Int) ≤ (k : Int) := by omega
      have hp : connP g c = some ⟨g, k * 3, Option.none⟩ := by unfold connP; rw [if_pos (by omega), hk]; rfl
      have HP := Lib.hid hp
      clear hp h1 h2
      go_enter Try.func61, Try.ntmps61
      (repeat' ((fail_if_success at_builtin); first | go_values | go_skip | go_guarded | go_step | go_upon))
      go_ret
      exact ⟨by rw [HP.out]; rfl, rfl⟩

/-- The connection of a number, if there is one. -/
def connAt (cs : List Conn) (c : Int) : Option Conn := if 1 ≤ c ∧ c ≤ 8 then cs[(c - 1).toNat]? else Option.none
def isOpen (cs : List Conn) (c : Int) : Bool := ((connAt cs c).map (·.op)).getD false
theorem connAt_some {cs : List Conn} (hl : cs.length = 8) (c : Int) (h : 1 ≤ c ∧ c ≤ 8) : ∃ (k : Nat) (hk : k < cs.length), c - 1 = (k : Int) ∧ connAt cs c = some cs[k] ∧ ∀ g, connP g c = some ⟨g, k * 3, Option.none⟩ := by
  obtain ⟨k, hk⟩ : ∃ k : Nat, c - 1 = (k : Int) := ⟨(c - 1).toNat, by omega⟩
  have hk8 : k < cs.length := by omega
  refine ⟨k, hk8, hk, ?_, fun g => ?_⟩
  · unfold connAt; rw [if_pos h, hk, Int.toNat_natCast, List.getElem?_eq_getElem hk8]
  · unfold connP; rw [if_pos h, hk]; rfl
theorem connAt_none (cs : List Conn) (c : Int) (h : ¬ (1 ≤ c ∧ c ≤ 8)) : connAt cs c = Option.none ∧ ∀ g, connP g c = Option.none := ⟨by unfold connAt; rw [if_neg h], fun g => by unfold connP; rw [if_neg h]⟩

set_option maxHeartbeats 1000000 in
theorem netIs (g : Nat) (c : Int) (cs : List Conn) (w : World) (h : NetAt w g cs) (hc : -9223372036854775808 ≤ c ∧ c ≤ 9223372036854775807) :
    Calls Try.prog 34 #[.pointer (some ⟨g, 0, Option.none⟩), .int .i64 c] w fun e w' => e = .returned (.bool (isOpen cs c)) ∧ w = w' := by
  by_cases h1 : 1 ≤ c ∧ c ≤ 8
  · obtain ⟨k, hk, hkc, hca, hcp⟩ := connAt_some h.len c h1
    have hcell := (h.cell k hk).1
    have hio : isOpen cs c = cs[k].op := by unfold isOpen; rw [hca]; rfl
    rw [hio]
    generalize cs[k].op = op at *
    have HCP := Lib.hid (hcp g)
    clear h hca hcp hio hkc
    go_enter Try.func34, Try.ntmps34
    (repeat' ((fail_if_success at_builtin); first | go_values | go_skip | go_guarded | go_step | go_upon))
    refine (netAt_ g c w hc).mono ?_
    rintro _ w1 ⟨rfl, rfl⟩
    dsimp only
    rw [HCP.out]
    (repeat' ((fail_if_success at_builtin); first | go_values | go_skip | go_guarded | go_step | go_upon))
    go_ret
    exact ⟨rfl, rfl⟩
  · obtain ⟨hca, hcp⟩ := connAt_none cs c h1
    have hio : isOpen cs c = false := by unfold isOpen; rw [hca]; rfl
    rw [hio]
    have HCP := Lib.hid (hcp g)
    clear h hca hcp hio
    go_enter Try.func34, Try.ntmps34
    (repeat' ((fail_if_success at_builtin); first | go_values | go_skip | go_guarded | go_step | go_upon))
    refine (netAt_ g c w hc).mono ?_
    rintro _ w1 ⟨rfl, rfl⟩
    dsimp only
    rw [HCP.out]
    (repeat' ((fail_if_success at_builtin); first | go_values | go_skip | go_guarded | go_step | go_upon))
    go_ret
    exact ⟨rfl, rfl⟩

end Go.Proofs.Ythgaghpakioglaa
