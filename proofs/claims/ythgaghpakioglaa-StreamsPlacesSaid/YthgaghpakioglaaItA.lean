/- The iterator of Streams.All: its contract. -/
import Derived.Test.YthgaghpakioglaaFirst
import Derived.Test.YthgaghpakioglaaStrF
namespace Go.Proofs.Ythgaghpakioglaa
set_option linter.unusedSimpArgs false
set_option linter.unusedVariables false
open Go.RowKit Go.Shelf
set_option maxRecDepth 10000
attribute [local go_sem] Oper.semAt_some

def encEv (e : Ev) : Value := .agg e.cells.toArray
theorem evs_get : ∀ (xs : List Ev) (k : Nat) (hk : k < xs.length) (j : Nat), j < 6 → (xs.flatMap Ev.cells)[k * 6 + j]? = xs[k].cells[j]?
  | x :: r, 0, hk, j, hj => by
    rw [List.flatMap_cons, List.getElem?_append_left (by rw [Ev.cells_length]; omega)]
    simp
  | x :: r, k + 1, hk, j, hj => by
    rw [List.flatMap_cons, List.getElem?_append_right (by rw [Ev.cells_length]; omega), Ev.cells_length, show (k + 1) * 6 + j - 6 = k * 6 + j by omega]
    exact evs_get r k (by simpa using hk) j hj
/-- The cells of an event in a row of events. -/
theorem ev_cells {w : World} {a : Option Addr} {es : List Ev} (h : RdC w a (es.flatMap Ev.cells)) (m : Nat) (hm : m < es.length) :
    ∃ b o, a = some ⟨b, o, none⟩ ∧ ∀ j u, (es[m].cells)[j]? = some u → w.cell? ⟨b, o + m * 6 + j, none⟩ = some u := by
  obtain ⟨b, o, rfl, _⟩ := h.lt (by rw [evs_length]; omega)
  refine ⟨b, o, rfl, fun j u hu => ?_⟩
  have hj : j < 6 := (List.getElem?_eq_some_iff.1 hu).1
  have hi : m * 6 + j < (es.flatMap Ev.cells).length := by rw [evs_length]; omega
  have h1 := h.cell (m * 6 + j) hi
  rw [← List.getElem?_eq_getElem hi, evs_get es m hm j hj, hu, ← Nat.add_assoc] at h1
  exact h1
theorem evs_take (es : List Ev) (s m : Nat) (hsm : s ≤ m) (hlt : m < es.length) : ((es.map Ev.sem).drop s).take (m + 1 - s) = ((es.map Ev.sem).drop s).take (m - s) ++ [es[m].sem] := by
  rw [show m + 1 - s = (m - s) + 1 by omega, List.take_succ_eq_append_getElem (by simp; omega)]
  simp [Nat.add_sub_cancel' hsm]

set_option maxHeartbeats 4000000 in
theorem allIt (W0 : World) (tb bf bt : Nat) (fr : Int) (es : List Ev) (hfr : -9223372036854775808 ≤ fr ∧ fr ≤ 9223372036854775807) (h : TenRd W0 tb es) (hf : W0.cell? ⟨bf, 0, none⟩ = some (.int .i64 fr)) (ht : W0.cell? ⟨bt, 0, none⟩ = some (.pointer (some ⟨tb, 0, none⟩))) :
    IterOK Try.prog 54 #[.pointer (some ⟨bf, 0, none⟩), .pointer (some ⟨bt, 0, none⟩)] encEv (fun x W => x.Rd W0.heap.size W) W0.heap.size
      (fun xs => xs.map Ev.sem = (es.map Ev.sem).drop (max fr 1 - 1).toNat) (fun xs => xs.map Ev.sem <+: (es.map Ev.sem).drop (max fr 1 - 1).toNat) W0 := by
  obtain ⟨s, hs⟩ : ∃ s : Nat, max fr 1 = (s : Int) + 1 := ⟨(max fr 1 - 1).toNat, by omega⟩
  have hse : (max fr 1 - 1).toNat = s := by omega
  have hsb : (s : Int) ≤ 9223372036854775806 := by omega
  rw [hse]
  have HT := Lib.hid h
  clear h hse
  intro n l J Jx W hW hJ hJx hY h0
  have HW := Lib.hid hW
  have c1 : W.cell? ⟨bf, 0, none⟩ = some (.int .i64 fr) := (hW.cell (p := ⟨bf, 0, none⟩) (World.block_lt_of_cell? W0 _ hf)).trans hf
  have HF := Lib.hid hf
  have HTT := Lib.hid ht
  have HJ := Lib.hid hJ
  have HJX := Lib.hid hJx
  have HY := Lib.hid hY
  have HS := Lib.hid hs
  clear hW hf ht hJ hJx hY
  refine callsIn_of_wp Try.func54 rfl trivial ?_ rfl
  simp only [Try.ntmps54, List.size_toArray, List.length_cons, List.length_nil, Nat.reduceAdd, Nat.reduceSub, Array.replicate_succ, Array.replicate_zero, List.push_toArray, List.append_toArray, List.nil_append, List.cons_append]
  rcases (show fr < 1 ∧ s = 0 ∨ 1 ≤ fr ∧ fr = s + 1 by omega) with ⟨h1, hs1⟩ | ⟨h1, hs1⟩ <;> gi_wp2
  all_goals
    gi_loopw [4] (fun i wr => ∃ (m : Nat) (pre : List Ev), i = .int .i64 (m : Int) ∧ (m : Int) ≤ 9223372036854775806 ∧ pre.map Ev.sem = ((es.map Ev.sem).drop s).take (m - s) ∧ s ≤ m ∧ (s < m → m ≤ es.length) ∧ J pre wr ∧ Below W0.heap.size W0 wr) (fun i _ => es.length - (intOf i).toNat)
    case atStart =>
      exact ⟨s, [], by first | rfl | (rw [hs1]; rfl), hsb, by simp, Nat.le_refl _, fun h => absurd h (Nat.lt_irrefl _), h0, HW.out⟩
    case round =>
      obtain ⟨m, pre, rfl, hmb, hpre, hsm, hml, hJs, hBr⟩ := hrel
      have HPRE := Lib.hid hpre
      have HJS := Lib.hid hJs
      clear hpre hJs h0
      have c2 : wr.cell? ⟨bt, 0, none⟩ = some (.pointer (some ⟨tb, 0, none⟩)) := (hBr.cell (p := ⟨bt, 0, none⟩) (World.block_lt_of_cell? W0 _ HTT.out)).trans HTT.out
      have hT := HT.out.below hBr
      obtain ⟨aa, ac, vm, g1, g2, g3, g4, _, _⟩ := hT.out
      have c3 : wr.cell? ⟨tb, 0, none⟩ = some (.slice aa es.length ac) := cell_of_row wr tb 0 _ _ _ g1
      clear g1
      by_cases hlt : m < es.length
      · have t1 : decide ((m : Int) < (es.length : Int)) = true := by rw [decide_eq_true_eq]; omega
        obtain ⟨ab, ao, rfl, hcs⟩ := ev_cells g2 m hlt
        have hmem := List.getElem_mem hlt
        obtain ⟨x, hx⟩ : ∃ x, es[m] = x := ⟨_, rfl⟩
        rw [hx] at hcs hmem
        have q0 : wr.cell? ⟨ab, ao + m * 6, none⟩ = some (.string x.st) := hcs 0 _ rfl
        have q1 : wr.cell? ⟨ab, ao + m * 6 + 1, none⟩ = some (.string x.su) := hcs 1 _ rfl
        have q2 : wr.cell? ⟨ab, ao + m * 6 + 2, none⟩ = some (.int .i64 x.v) := hcs 2 _ rfl
        have q3 : wr.cell? ⟨ab, ao + m * 6 + 3, none⟩ = some (.int .i64 x.p) := hcs 3 _ rfl
        have q4 : wr.cell? ⟨ab, ao + m * 6 + 4, none⟩ = some (.int .i64 x.u) := hcs 4 _ rfl
        have q5 : wr.cell? ⟨ab, ao + m * 6 + 5, none⟩ = some (.slice x.sa x.sn x.sc) := hcs 5 _ rfl
        have hrd := hT.rd x hmem
        have hnum := (hT.ok.num x hmem).2
        have HRD := Lib.hid hrd
        have HX := Lib.hid hx
        clear hT hcs hrd hmem g2 hx
        have bm : (0 : Int) ≤ (m : Int) ∧ (m : Int) < (es.length : Int) := by omega
        gi_wp2
        refine ⟨trivial, fun h => (by cases h), ?_⟩
        refine (callsIn_wide.2 (freshOf x wr HRD.out.rd HRD.out.len hnum)).mono ?_
        rintro _ w2 ⟨a2, e2, rfl, hrd2, hB2⟩
        have hX : ({ x with sa := a2, sc := e2 } : Ev).sem = x.sem := rfl
        have HX2 := Lib.hid hX
        obtain ⟨fn, tmps, assign, body, hy, hR⟩ := HY.out pre { x with sa := a2, sc := e2 } w2 (HJ.out _ _ _ HJS.out hB2) (hrd2.of hBr.size (fun _ _ _ hb => hb))
        have HR := Lib.hid hR
        clear hR hrd2 hX
        dsimp only [encEv, Ev.cells] at hy
        dsimp only [Ev.cells]
        gi_wp2
        refine ⟨fun h => (by cases h), ?_⟩
        have htk : (pre ++ [{ x with sa := a2, sc := e2 }]).map Ev.sem = ((es.map Ev.sem).drop s).take (m + 1 - s) := by
          rw [List.map_append, HPRE.out]
          show _ ++ [Ev.sem _] = _
          rw [HX2.out, ← HX.out]
          exact (evs_take es s m hsm hlt).symm
        have HTK := Lib.hid htk
        clear htk
        refine HR.out.mono ?_
        rintro e W3 (⟨rfl, hJ3, hk3⟩ | ⟨rfl, hJx3⟩)
        · have HJ3 := Lib.hid hJ3
          clear hJ3
          have hlen := HT.out.len
          dsimp only
          gi_wp2
          go_roundw
          case rel => exact ⟨m + 1, _, by simp, by omega, HTK.out, by omega, fun _ => by omega, HJ3.out, (hBr.trans (hB2.mono hBr.size)).trans hk3⟩
          case measure => simp [intOf]; omega
        · have HJX3 := Lib.hid hJx3
          clear hJx3
          dsimp only
          gi_wp2
          go_end0
          exact ⟨⟨_, rfl⟩, .inr ⟨_, by rw [HTK.out]; exact List.take_prefix _ _, HJX3.out⟩⟩
      · have t1 : decide ((m : Int) < (es.length : Int)) = false := by rw [decide_eq_false_iff_not]; omega
        gi_wp2
        refine ⟨trivial, ?_⟩
        gi_wp2
        refine ⟨fun _ h => (by cases h), ?_⟩
        gi_wp2
        go_end0
        exact ⟨⟨_, rfl⟩, .inl ⟨pre, by rw [HPRE.out, List.take_of_length_le (by simp; omega)], HJS.out⟩⟩

end Go.Proofs.Ythgaghpakioglaa
