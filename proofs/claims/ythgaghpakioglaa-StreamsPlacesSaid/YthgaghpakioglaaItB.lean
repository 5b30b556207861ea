/- The iterator of Streams.Read: its contract. -/
import Derived.Test.YthgaghpakioglaaStrG
import Derived.Sort.CutIn
import Derived.Sort.QuietIn
import Derived.Stop.RegionWithIn
namespace Go.Proofs.Ythgaghpakioglaa
set_option linter.unusedSimpArgs false
set_option linter.unusedVariables false
open Go.RowKit Go.Shelf
set_option maxRecDepth 10000
attribute [local go_sem] Oper.semAt_some

theorem wide_fn (f : FuncId) : Fence.wide.fn f = True := rfl
attribute [local go_sem, local simp] wide_fn

/-- What a walk over a stream's events tells, from a version on. -/
def readS (L : List EvS) (s : ByteArray) (fr : Int) : List EvS := L.filter fun e => decide (e.st = s ∧ fr ≤ e.v)
theorem idx_sel (s : ByteArray) (fr : Int) (G : Nat → Option EvS) : ∀ (es : List Ev) (k : Nat), (∀ (j : Nat) (h : j < es.length), G (k + j) = if fr ≤ es[j].v then some es[j].sem else none) → (idx s es k).filterMap G = readS (es.map Ev.sem) s fr
  | [], _, _ => rfl
  | e :: r, k, h => by
    have ih := idx_sel s fr G r (k + 1) (fun j hj => by have := h (j + 1) (by simpa using hj); rw [show k + 1 + j = k + (j + 1) by omega, this]; rfl)
    have h0 := h 0 (by simp)
    unfold readS at ih ⊢
    have hst : e.sem.st = e.st := rfl
    have hv : e.sem.v = e.v := rfl
    simp only [idx, List.map_cons, List.filter_cons, hst, hv]
    simp only [Nat.add_zero, List.getElem_cons_zero] at h0
    by_cases h1 : e.st = s
    · rw [if_pos h1, List.filterMap_cons, h0]
      by_cases h2 : fr ≤ e.v
      · simp only [h1, h2, true_and, decide_true, if_true]; rw [ih]
      · simp only [h1, h2, and_false, decide_false, if_false]; exact ih
    · rw [if_neg h1]
      simp only [h1, false_and, decide_false]
      exact ih
def selG (es : List Ev) (fr : Int) (i : Nat) : Option EvS := (es[i]?).bind fun e => if fr ≤ e.v then some e.sem else none
theorem sel_all (es : List Ev) (s : ByteArray) (fr : Int) : (idxOf es s).filterMap (selG es fr) = readS (es.map Ev.sem) s fr :=
  idx_sel s fr _ es 0 (fun j hj => by unfold selG; rw [Nat.zero_add, List.getElem?_eq_getElem hj]; rfl)
theorem sel_take (es : List Ev) (fr : Int) (l : List Nat) (k m : Nat) (hk : l[k]? = some m) (hm : m < es.length) : (l.take (k + 1)).filterMap (selG es fr) = (l.take k).filterMap (selG es fr) ++ (if fr ≤ es[m].v then [es[m].sem] else []) := by
  obtain ⟨hl, he⟩ := List.getElem?_eq_some_iff.1 hk
  rw [List.take_succ_eq_append_getElem hl, List.filterMap_append, he]
  congr 1
  unfold selG
  simp only [List.filterMap_cons, List.filterMap_nil, List.getElem?_eq_getElem hm, Option.bind_some]
  by_cases h : fr ≤ es[m].v <;> simp [h]

set_option maxHeartbeats 4000000 in
theorem evIt (W0 : World) (tb bt bs bf : Nat) (s : ByteArray) (fr : Int) (es : List Ev) (hss : s.size ≤ maxLen) (hfr : -9223372036854775808 ≤ fr ∧ fr ≤ 9223372036854775807) (h : TenRd W0 tb es) (ht : W0.cell? ⟨bt, 0, none⟩ = some (.pointer (some ⟨tb, 0, none⟩))) (hs : W0.cell? ⟨bs, 0, none⟩ = some (.string s)) (hf : W0.cell? ⟨bf, 0, none⟩ = some (.int .i64 fr)) :
    IterOK Try.prog 69 #[.pointer (some ⟨bt, 0, none⟩), .pointer (some ⟨bs, 0, none⟩), .pointer (some ⟨bf, 0, none⟩)] encEv (fun x W => x.Rd W0.heap.size W) W0.heap.size
      (fun xs => xs.map Ev.sem = readS (es.map Ev.sem) s fr) (fun xs => xs.map Ev.sem <+: readS (es.map Ev.sem) s fr) W0 := by
  have HT := Lib.hid h
  clear h
  intro n l J Jx W hW hJ hJx hY h0
  have HW := Lib.hid hW
  have c1 : W.cell? ⟨bt, 0, none⟩ = some (.pointer (some ⟨tb, 0, none⟩)) := (hW.cell (p := ⟨bt, 0, none⟩) (World.block_lt_of_cell? W0 _ ht)).trans ht
  have c2 : W.cell? ⟨bs, 0, none⟩ = some (.string s) := (hW.cell (p := ⟨bs, 0, none⟩) (World.block_lt_of_cell? W0 _ hs)).trans hs
  obtain ⟨aa, ac, vm, g1, g2, g3, g4, g5, _⟩ := HT.out.out
  obtain ⟨ia, ic, j1, j2, j3, j4⟩ := g5 s hss
  have c3 : W.cell? ⟨tb, 1, none⟩ = some vm := cell_of_row W tb 1 _ _ _ (row_below g1 hW (lt_of_get g1))
  have hlk := fun m => j1 (W.drewN m) (below_drewN' hW m)
  have hilt : ∀ m ∈ idxOf es s, m < es.length := fun m hm => (idxOf_mem hm).1
  have hiln : (idxOf es s).length ≤ 1000 := Nat.le_trans (idxOf_length_le es s) HT.out.len
  have hsel := sel_all es s fr
  obtain ⟨IL, hIL⟩ : ∃ IL, idxOf es s = IL := ⟨_, rfl⟩
  rw [hIL] at hlk j2 j3 hilt hiln hsel
  rw [← hsel]
  have HF := Lib.hid hf
  have HTT := Lib.hid ht
  have HJ := Lib.hid hJ
  have HJX := Lib.hid hJx
  have HY := Lib.hid hY
  have HJ2 := Lib.hid j2
  have HILT := Lib.hid hilt
  have HG1 := Lib.hid g1
  have HG2 := Lib.hid g2
  clear hW hf ht hs hJ hJx hY hIL hsel j1 j2 g1 g2 g5 hilt
  refine callsIn_of_wp Try.func69 rfl trivial ?_ rfl
  simp only [Try.ntmps69, List.size_toArray, List.length_cons, List.length_nil, Nat.reduceAdd, Nat.reduceSub, Array.replicate_succ, Array.replicate_zero, List.push_toArray, List.append_toArray, List.nil_append, List.cons_append]
  gi_upto_region 0 with fail
  gi_cut [12, 13, 14] from 7 (fun v12 v13 v14 wx => v12 = .slice ia IL.length ic ∧ v13 = .int .i64 (IL.length : Int) ∧ v14 = .int .i64 0 ∧ ∃ m, wx = W.drewN m)
  case first =>
    gi_quiet (fail)
    gi_wp2
    gi_meet
    exact ⟨rfl, rfl, rfl, _, rfl⟩
  case rest =>
    obtain ⟨rfl, rfl, rfl, dm, rfl⟩ := hcut
    gi_wp2
    gi_loopw [14] (fun i wr => ∃ (k : Nat) (pre : List Ev), i = .int .i64 (k : Int) ∧ k ≤ IL.length ∧ pre.map Ev.sem = (IL.take k).filterMap (selG es fr) ∧ J pre wr ∧ Below W0.heap.size W0 wr) (fun i _ => IL.length - (intOf i).toNat)
    case atStart =>
      exact ⟨0, [], rfl, Nat.zero_le _, by simp, HJ.out _ _ _ h0 (below_drewN' (Below.refl _ _) dm), below_drewN' HW.out dm⟩
    case round =>
      obtain ⟨k, pre, rfl, hk, hpre, hJs, hBr⟩ := hrel
      have HPRE := Lib.hid hpre
      have HJS := Lib.hid hJs
      clear hpre hJs h0 c1 c2 c3 hlk
      by_cases hlt : k < IL.length
      · have t1 : decide ((k : Int) < (IL.length : Int)) = true := by rw [decide_eq_true_eq]; omega
        have bk : (0 : Int) ≤ (k : Int) ∧ (k : Int) < (IL.length : Int) := by omega
        obtain ⟨ib, io, rfl, _⟩ := HJ2.out.lt (by simp [ivs]; omega)
        obtain ⟨m, hm⟩ : ∃ m, IL[k] = m := ⟨_, rfl⟩
        have hi0 : wr.cell? ⟨ib, io + k, none⟩ = some (.int .i64 (m : Int)) := by
          have h1 := (HJ2.out.below hBr (Nat.le_refl _)).cell k (by simpa [ivs] using hlt)
          rw [h1]
          simp [ivs, hm]
        have hmlt : m < es.length := HILT.out m (by rw [← hm]; exact List.getElem_mem hlt)
        have hIk : IL[k]? = some m := by rw [List.getElem?_eq_getElem hlt, hm]
        have c1 : wr.cell? ⟨bt, 0, none⟩ = some (.pointer (some ⟨tb, 0, none⟩)) := (hBr.cell (p := ⟨bt, 0, none⟩) (World.block_lt_of_cell? W0 _ HTT.out)).trans HTT.out
        have c4 : wr.cell? ⟨bf, 0, none⟩ = some (.int .i64 fr) := (hBr.cell (p := ⟨bf, 0, none⟩) (World.block_lt_of_cell? W0 _ HF.out)).trans HF.out
        have c3 : wr.cell? ⟨tb, 0, none⟩ = some (.slice aa es.length ac) := cell_of_row wr tb 0 _ _ _ (row_below HG1.out hBr (lt_of_get HG1.out))
        obtain ⟨ab, ao, rfl, hcs⟩ := ev_cells (HG2.out.below hBr (Nat.le_refl _)) m hmlt
        have hmem := List.getElem_mem hmlt
        have htk := sel_take es fr IL k m hIk hmlt
        obtain ⟨x, hx⟩ : ∃ x, es[m] = x := ⟨_, rfl⟩
        rw [hx] at hcs hmem htk
        have hT := HT.out.below hBr
        have q0 : wr.cell? ⟨ab, ao + m * 6, none⟩ = some (.string x.st) := hcs 0 _ rfl
        have q1 : wr.cell? ⟨ab, ao + m * 6 + 1, none⟩ = some (.string x.su) := hcs 1 _ rfl
        have q2 : wr.cell? ⟨ab, ao + m * 6 + 2, none⟩ = some (.int .i64 x.v) := hcs 2 _ rfl
        have q3 : wr.cell? ⟨ab, ao + m * 6 + 3, none⟩ = some (.int .i64 x.p) := hcs 3 _ rfl
        have q4 : wr.cell? ⟨ab, ao + m * 6 + 4, none⟩ = some (.int .i64 x.u) := hcs 4 _ rfl
        have q5 : wr.cell? ⟨ab, ao + m * 6 + 5, none⟩ = some (.slice x.sa x.sn x.sc) := hcs 5 _ rfl
        have hrd := hT.rd x hmem
        have hnum := (hT.ok.num x hmem).2
        have bm : (0 : Int) ≤ (m : Int) ∧ (m : Int) < (es.length : Int) := by omega
        have HRD := Lib.hid hrd
        have HTK := Lib.hid htk
        clear hT hcs hrd hmem hx hm hIk htk
        by_cases hv : fr ≤ x.v
        · have tv : decide (fr ≤ x.v) = true := by simpa using hv
          gi_upto_region 3 with fail
          gi_cut [40] from 18 (fun v wx => ∃ (b : Bool) (x' : Ev), v = .bool (!b) ∧ x'.sem = x.sem ∧ (b = true → J (pre ++ [x']) wx ∧ Below W0.heap.size wr wx) ∧ (b = false → Jx (pre ++ [x']) wx))
          case first =>
            have hdr : Below wr.heap.size wr wr.drew := (Below.refl _ _).drew
            have hrdd := HRD.out.below hdr
            have HRDD := Lib.hid hrdd
            have HBR := Lib.hid hBr
            clear hrdd
            gi_region_with (first
              | (refine ⟨fun h => (by cases h), ?_⟩
                 refine (callsIn_wide.2 (freshOf x wr.drew HRDD.out.rd HRDD.out.len hnum)).mono ?_
                 rintro _ w2 ⟨a2, e2, rfl, hrd2, hB2⟩
                 obtain ⟨fn, tmps, assign, body, hy, hR⟩ := HY.out pre { x with sa := a2, sc := e2 } w2 (HJ.out _ _ _ HJS.out (hdr.trans hB2)) (hrd2.of (show W0.heap.size ≤ wr.drew.heap.size from hBr.size) (fun _ _ _ hb => hb))
                 have HR := Lib.hid hR
                 clear hR hrd2
                 dsimp only [encEv, Ev.cells] at hy
                 dsimp only [Ev.cells])
              | (refine ⟨fun h => (by cases h), ?_⟩
                 refine HR.out.mono ?_
                 rintro e W3 hW3
                 obtain ⟨b, hb, hbt, hbf⟩ : ∃ b : Bool, e = .returned (.bool b) ∧ (b = true → J (pre ++ [{ x with sa := a2, sc := e2 }]) W3 ∧ Below W0.heap.size wr W3) ∧ (b = false → Jx (pre ++ [{ x with sa := a2, sc := e2 }]) W3) := by
                   rcases hW3 with ⟨h1, h2, h3⟩ | ⟨h1, h2⟩
                   · exact ⟨true, h1, fun _ => ⟨h2, ((hdr.trans hB2).mono hBr.size).trans h3⟩, fun h => by cases h⟩
                   · exact ⟨false, h1, (fun h => by cases h), fun _ => h2⟩
                 subst hb
                 have HBT := Lib.hid hbt
                 have HBF := Lib.hid hbf
                 clear hbt hbf hW3 hy
                 dsimp only))
            all_goals gi_wp2
            all_goals (gi_meet; exact ⟨b, { x with sa := a2, sc := e2 }, rfl, rfl, HBT.out, HBF.out⟩)
          case rest =>
            obtain ⟨b, x', rfl, hx', hb1, hb2⟩ := hcut
            have htk2 := HTK.out
            rw [if_pos hv] at htk2
            have htk : (pre ++ [x']).map Ev.sem = (IL.take (k + 1)).filterMap (selG es fr) := by
              rw [htk2, List.map_append, HPRE.out]
              show _ ++ [Ev.sem _] = _
              rw [hx']
            have HTK2 := Lib.hid htk
            have HB1 := Lib.hid hb1
            have HB2 := Lib.hid hb2
            clear htk htk2 hb1 hb2
            cases b with
            | true =>
              gi_wp2
              go_roundw
              case rel => exact ⟨k + 1, pre ++ [x'], by simp, by omega, HTK2.out, (HB1.out rfl).1, hBr.trans (HB1.out rfl).2⟩
              case measure => simp [intOf]; omega
            | false =>
              gi_wp2
              refine bodyPost_ret (results_none rfl _ _ _) rfl ?_
              exact ⟨⟨_, rfl⟩, .inr ⟨pre ++ [x'], by rw [HTK2.out]; exact List.IsPrefix.filterMap _ (List.take_prefix _ _), HB2.out (by first | rfl | trivial)⟩⟩
        · have tv : decide (fr ≤ x.v) = false := by simpa using hv
          gi_upto_region 3 with fail
          gi_cut [40] from 18 (fun v wx => v = .bool false ∧ ∃ d, wx = wr.drewN d)
          case first =>
            gi_quiet (fail)
            gi_wp2
            gi_meet
            exact ⟨rfl, _, rfl⟩
          case rest =>
            obtain ⟨rfl, d, rfl⟩ := hcut
            gi_wp2
            go_roundw
            case rel =>
              have h1 := HTK.out
              rw [if_neg hv, List.append_nil] at h1
              exact ⟨k + 1, pre, by simp, by omega, by rw [h1]; exact HPRE.out, HJ.out _ _ _ HJS.out (below_drewN' (Below.refl _ _) d), below_drewN' hBr d⟩
            case measure => simp [intOf]; omega
      · have t1 : decide ((k : Int) < (IL.length : Int)) = false := by rw [decide_eq_false_iff_not]; omega
        gi_wp2
        go_end0
        exact ⟨⟨_, rfl⟩, .inl ⟨pre, by rw [HPRE.out, List.take_of_length_le (by omega)], HJS.out⟩⟩

end Go.Proofs.Ythgaghpakioglaa
