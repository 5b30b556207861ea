/- What sealerykit.SameNested answers of two lists of the same bytes. -/
import Derived.Test.YthgaghpakioglaaDoorForm27
import Derived.Deep.RegionHeld3
namespace Go.Proofs.YthgaghpakioglaaDoor
set_option linter.unusedSimpArgs false
set_option linter.unusedVariables false
open Go.RowKit
set_option maxRecDepth 10000

/-- A list of bytes in memory. -/
structure PcRow (w : World) (a : Option Addr) (ps : List Pc) : Prop where
  rd : RdC w a (ps.map Pc.cell)
  ok : ∀ p ∈ ps, p.Ok w
theorem PcRow.below {w w' : World} {a : Option Addr} {ps : List Pc} (h : PcRow w a ps) (hb : Below w.heap.size w w') : PcRow w' a ps :=
  ⟨h.rd.below hb (Nat.le_refl _), fun p hp => (h.ok p hp).frm (S := fun _ => False) (fun _ _ _ _ h => h) (Frm.ofBelow hb)⟩
theorem PcRow.get {w : World} {a : Option Addr} {ps : List Pc} (h : PcRow w a ps) (k : Nat) (hk : k < ps.length) :
    ∃ (p : Pc) (b off : Nat), a = some ⟨b, off, none⟩ ∧ w.cell? ⟨b, off + k, none⟩ = some (.slice p.a p.n p.c) ∧ p.Ok w ∧ p ∈ ps ∧ (ps.map (·.l))[k]? = some p.l ∧ ps.take (k + 1) = ps.take k ++ [p] := by
  obtain ⟨b, off, rfl, _⟩ := h.rd.lt (by rw [List.length_map]; omega)
  have hc := h.rd.cell k (by rw [List.length_map]; exact hk)
  rw [List.getElem_map] at hc
  refine ⟨ps[k], b, off, rfl, hc, h.ok _ (List.getElem_mem hk), List.getElem_mem hk, ?_, List.take_succ_eq_append_getElem hk⟩
  rw [List.getElem?_map, List.getElem?_eq_getElem hk]
  rfl

/-- What the region of the comparison holds. -/
structure Two (wr : World) (b1 o1 b2 o2 : Nat) (p q : Pc) (w : World) : Prop where
  c1 : w.cell? ⟨b1, o1, none⟩ = some (.slice p.a p.n p.c)
  c2 : w.cell? ⟨b2, o2, none⟩ = some (.slice q.a q.n q.c)
  r1 : RdB w p.a p.l
  r2 : RdB w q.a q.l
  still : Still wr w
theorem Two.to {wr w w' : World} {b1 o1 b2 o2 : Nat} {p q : Pc} (h : Two wr b1 o1 b2 o2 p q w) (hs : Still w w') : Two wr b1 o1 b2 o2 p q w' :=
  ⟨by rw [World.cell?_of_block (w := w) (by rw [hs.heap])]; exact h.c1, by rw [World.cell?_of_block (w := w) (by rw [hs.heap])]; exact h.c2, h.r1.still hs, h.r2.still hs, ⟨hs.heap.trans h.still.heap, fun B => (h.still.below B).trans (hs.below B)⟩⟩

/-- The same, its cells in front. -/
abbrev TwoS (wr : World) (b1 o1 b2 o2 : Nat) (p q : Pc) (w : World) : Prop := w.cell? ⟨b1, o1, none⟩ = some (.slice p.a p.n p.c) ∧ w.cell? ⟨b2, o2, none⟩ = some (.slice q.a q.n q.c) ∧ Two wr b1 o1 b2 o2 p q w
theorem twoS {wr w : World} {b1 o1 b2 o2 : Nat} {p q : Pc} (h : Two wr b1 o1 b2 o2 p q w) : TwoS wr b1 o1 b2 o2 p q w := ⟨h.c1, h.c2, h⟩
theorem twoS_to {wr w w' : World} {b1 o1 b2 o2 : Nat} {p q : Pc} (h : TwoS wr b1 o1 b2 o2 p q w) (hs : Still w w') : TwoS wr b1 o1 b2 o2 p q w' := twoS (h.2.2.to hs)
theorem twoS_drew {wr w : World} {b1 o1 b2 o2 : Nat} {p q : Pc} (h : TwoS wr b1 o1 b2 o2 p q w) : TwoS wr b1 o1 b2 o2 p q w.drew := twoS_to h (still_drewN w 1)
theorem same_two {wr w : World} {b1 o1 b2 o2 : Nat} {p q : Pc} (h : TwoS wr b1 o1 b2 o2 p q w) (e1 : p.l.length = p.n) (e2 : q.l.length = q.n) (hn : p.n ≤ 1073741824) (hl : p.l = q.l) :
    Calls Tryd.prog 12 #[.slice p.a p.n p.c, .slice q.a q.n q.c] w fun e w' => e = .returned (.bool true) ∧ Still w w' :=
  same_yes h.2.2.r1 h.2.2.r2 e1 e2 hn hl

set_option maxHeartbeats 2000000 in
theorem sameNested (a1 a2 : Option Addr) (n1 n2 c1 c2 : Nat) (ps qs : List Pc) (w : World) (h1 : PcRow w a1 ps) (h2 : PcRow w a2 qs) (e1 : ps.length = n1) (e2 : qs.length = n2) (hn : n1 ≤ 1000000000) (hl : ∀ p ∈ ps, p.n ≤ 1073741824) (hpq : ps.map (·.l) = qs.map (·.l)) :
    Calls Tryd.prog 22 #[.slice a1 n1 c1, .slice a2 n2 c2] w fun e w' => e = .returned (.bool true) ∧ Still w w' := by
  subst e1
  have hlen : qs.length = ps.length := by have h := congrArg List.length hpq; simpa using h.symm
  rw [hlen] at e2
  subst e2
  have H1 := Lib.hid h1; clear h1
  have H2 := Lib.hid h2; clear h2
  have HPQ := Lib.hid hpq; clear hpq
  have HL := Lib.hid hl; clear hl
  go_enter Tryd.func22, Tryd.ntmps22
  (repeat' ((fail_if_success at_builtin); first | go_values | go_skip | go_guarded | go_step | go_upon))
  go_loopw [5] (fun i wr => ∃ k : Nat, k ≤ ps.length ∧ i = .int .i64 k ∧ Still w wr) (fun i _ => ps.length - (intOf i).toNat)
  case atStart => exact ⟨0, Nat.zero_le _, rfl, still_drewN w 0⟩
  case round =>
    obtain ⟨k, hk, rfl, hS⟩ := hrel
    by_cases hlt : k < ps.length
    · obtain ⟨p, b1, o1, rfl, x1, x2, x3, x4, _⟩ := (H1.out.below (hS.below _)).get k hlt
      obtain ⟨q, b2, o2, rfl, y1, y2, y3, y4, _⟩ := (H2.out.below (hS.below _)).get k (by omega)
      have hpl : p.l = q.l := by
        rw [HPQ.out, y4] at x4
        exact (Option.some.inj x4).symm
      have hpn := x2.len
      have hqn := y2.len
      have hpm := HL.out p x3
      have hT : Two wr b1 (o1 + k) b2 (o2 + k) p q wr := ⟨x1, y1, x2.rd, y2.rd, still_drewN wr 0⟩
      have hTS := twoS hT
      clear hT
      have HPL := Lib.hid hpl
      clear x2 x3 x4 y2 y3 y4 hpl
      (repeat' ((fail_if_success at_builtin); first | go_values | go_skip | go_guarded | go_step | go_upon))
      go_region_held3 (fun w => w.cell? ⟨b1, o1 + k, none⟩ = some (.slice p.a p.n p.c) ∧ w.cell? ⟨b2, o2 + k, none⟩ = some (.slice q.a q.n q.c) ∧ Two wr b1 (o1 + k) b2 (o2 + k) p q w) (first | assumption | (apply twoS_drew; assumption) | (apply twoS_to; assumption; assumption)) (first | (go_at_call 12; refine (same_two (by assumption) hpn hqn hpm HPL.out).mono ?_; rintro _ wA ⟨rfl, hSA⟩; dsimp only))
      (repeat' ((fail_if_success at_builtin); first | go_values | go_skip | go_guarded | go_step | go_upon))
      go_roundw
      case rel => exact ⟨k + 1, by omega, by go_num, ⟨(show wA.heap = wr.heap from hSA.heap).trans hS.heap, fun B => (hS.below B).trans (((Below.refl B wr).drew).trans (hSA.below B))⟩⟩
      case measure => simp [intOf]; omega
    · obtain rfl : k = ps.length := by omega
      (repeat' ((fail_if_success at_builtin); first | go_values | go_skip | go_guarded | go_step | go_upon))
      go_ret
      exact ⟨rfl, hS⟩

end Go.Proofs.YthgaghpakioglaaDoor
