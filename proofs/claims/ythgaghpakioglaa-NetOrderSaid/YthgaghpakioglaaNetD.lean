/- Connections in memory (package net): Close, Waits. -/
import Derived.Test.YthgaghpakioglaaNetC
namespace Go.Proofs.Ythgaghpakioglaa
set_option linter.unusedSimpArgs false
set_option linter.unusedVariables false
open Go.RowKit
set_option maxRecDepth 10000
--@PUT2

/-- A connection that was closed: its replies stay. -/
def Conn.shut (x : Conn) : Conn := { Conn.none with ra := x.ra, rn := x.rn, rc := x.rc, rl := x.rl }
theorem Conn.shut_ok {w : World} {g : Nat} {x : Conn} (h : x.Ok w g) : x.shut.Ok w g := ⟨rfl, Nat.le_refl _, (show (0 : Nat) ≤ 100000000 by decide), RdC.nil _ _, fun h => absurd h (show ¬ (0 : Nat) < 0 by decide), h.rlen, h.rcap, h.rmax, h.rrd, h.roff⟩
theorem conns_length (l : List Conn) : (l.flatMap Conn.cells).length = l.length * 3 := by
  induction l with
  | nil => rfl
  | cons x xs ih => rw [List.flatMap_cons, List.length_append, ih, Conn.cells_length, List.length_cons]; omega

set_option maxHeartbeats 1000000 in
theorem netShut (g k : Nat) (cs : List Conn) (w : World) (h : NetAt w g cs) (hk : k < cs.length) :
    Calls Try.prog 73 #[.pointer (some ⟨g, k * 3, Option.none⟩)] w fun e w' => e = .returned (.tuple #[]) ∧ NetAt w' g (cs.set k cs[k].shut) ∧ w.grownBy w' (some g) := by
  have hcell := (h.cell k hk).2.2
  have hx := h.ok cs[k] (List.getElem_mem hk)
  have HN := Lib.hid h
  have HROW := Lib.hid h.row
  have HK := Lib.hid hk
  have HFT := Lib.hid (show k * 3 + cs[k].shut.cells.length ≤ (cs.flatMap Conn.cells).toArray.size by rw [List.size_toArray, conns_length, Conn.cells_length]; omega)
  have HFO := Lib.hid (show ∀ v ∈ cs[k].shut.cells, v.oneCell' = true by intro v hv; simp [Conn.cells, Conn.shut, Conn.none] at hv; rcases hv with rfl | rfl | rfl <;> rfl)
  have HSZ := Lib.hid (show (Try.prog.info? 97).map (·.size) = some cs[k].shut.cells.length from connSize)
  have HX := Lib.hid hx
  clear h hx
  generalize hy : cs[k] = y at *
  clear hy
  go_enter Try.func73, Try.ntmps73
  (repeat' ((fail_if_success at_builtin); first | (((refine wpList_store_blk rfl 97 _ _ rfl g (k * 3) y.shut.cells rfl rfl _ _ HROW.out HFT.out HSZ.out HFO.out ?_); intro w2 hg2 hG2; rw [List.toList_toArray] at hg2; have HG2 := Lib.hid hg2; clear hg2)) | go_values | go_skip | go_guarded | go_step | go_upon))
  go_end0
  exact ⟨rfl, HN.out.put HK.out HG2.out hG2 ((Conn.shut_ok HX.out).grown hG2), hG2⟩

/-- What Close answers, and what it leaves. -/
def closeR (cs : List Conn) (c : Int) : Int × List Conn := match connAt cs c with
  | Option.none => (12, cs)
  | some x => if x.op then (0, cs.set (c - 1).toNat x.shut) else (12, cs)

set_option maxHeartbeats 1000000 in
theorem netClose (g : Nat) (c : Int) (cs : List Conn) (w : World) (h : NetAt w g cs) (hc : -9223372036854775808 ≤ c ∧ c ≤ 9223372036854775807) :
    Calls Try.prog 59 #[.pointer (some ⟨g, 0, Option.none⟩), .int .i64 c] w fun e w' => e = .returned (.int .i64 (closeR cs c).1) ∧ NetAt w' g (closeR cs c).2 ∧ w.grownBy w' (some g) := by
  have HN := Lib.hid h
  cases ho : isOpen cs c with
  | false =>
    have HRES := Lib.hid (show closeR cs c = (12, cs) by
      unfold closeR
      unfold isOpen at ho
      cases hq : connAt cs c with
      | none => rfl
      | some x => rw [hq] at ho; simp at ho; simp [ho])
    have HO := Lib.hid ho
    clear h ho
    go_enter Try.func59, Try.ntmps59
    (repeat' ((fail_if_success at_builtin); first | go_values | go_skip | go_guarded | go_step | go_upon))
    refine (netWithNo g c cs _ w HN.out hc HO.out).mono ?_
    rintro _ w1 ⟨rfl, rfl⟩
    dsimp only
    (repeat' ((fail_if_success at_builtin); first | go_values | go_skip | go_guarded | go_step | go_upon))
    go_ret
    rw [HRES.out]
    exact ⟨rfl, HN.out, World.grownBy.refl _ _⟩
  | true =>
    have h1 : 1 ≤ c ∧ c ≤ 8 := by
      rcases Classical.em (1 ≤ c ∧ c ≤ 8) with h | h
      · exact h
      · unfold isOpen at ho; rw [(connAt_none cs c h).1] at ho; cases ho
    obtain ⟨k, hk, hkc, hca, hcp⟩ := connAt_some h.len c h1
    have hkt : (c - 1).toNat = k := by omega
    have HRES := Lib.hid (show closeR cs c = (0, cs.set k cs[k].shut) by
      unfold closeR
      unfold isOpen at ho
      rw [hca] at ho ⊢
      have ho2 : cs[k].op = true := ho
      simp only [ho2, hkt, if_true])
    have HO := Lib.hid ho
    have HP := Lib.hid (hcp g)
    have HK := Lib.hid hk
    clear h ho hca hcp hkc hkt
    go_enter Try.func59, Try.ntmps59
    (repeat' ((fail_if_success at_builtin); first | go_values | go_skip | go_guarded | go_step | go_upon))
    refine (netWithClose g k c cs w (fun _ w' => NetAt w' g (cs.set k cs[k].shut) ∧ w.grownBy w' (some g)) HN.out hc HO.out HP.out (netShut g k cs w HN.out HK.out)).mono ?_
    rintro _ w1 ⟨rfl, _, hQ⟩
    dsimp only
    (repeat' ((fail_if_success at_builtin); first | go_values | go_skip | go_guarded | go_step | go_upon))
    go_ret
    rw [HRES.out]
    exact ⟨rfl, hQ⟩

end Go.Proofs.Ythgaghpakioglaa
