/- The reference's rows that are told (sealeryref21.Log.Rows). -/
import Derived.Test.YtdpfemhfmofmlaaDoorRLog
namespace Go.Proofs.YtdpfemhfmofmlaaDoor
set_option linter.unusedSimpArgs false
set_option linter.unusedVariables false
open Go.RowKit
set_option maxRecDepth 10000

/-- Row i bears the number i + 1. -/
def Numbered (xs : List Ent) : Prop := ∀ (i : Nat) (hi : i < xs.length), xs[i].no = (i : Int) + 1
theorem numbered_nil : Numbered [] := fun i hi => by simp at hi
theorem numbered_row {xs : List Ent} (h : Numbered xs) (x : Ent) : Numbered (xs ++ [rowOf xs x]) := by
  intro i hi
  by_cases e : i < xs.length
  · rw [List.getElem_append_left e]; exact h i e
  · rw [List.length_append, List.length_singleton] at hi
    obtain rfl : i = xs.length := by omega
    rw [List.getElem_append_right (by omega)]
    simp [rowOf]

def part21 (xs : List Ent) (fr : Int) (k : Nat) : List Ent := (xs.take k).drop (toldLo xs.length fr)
theorem part21_length (xs : List Ent) (fr : Int) (k : Nat) (hk : k ≤ xs.length) : (part21 xs fr k).length = k - toldLo xs.length fr := by
  unfold part21; rw [List.length_drop, List.length_take]; omega
theorem part21_told (xs : List Ent) (fr many : Int) (k : Nat) (hk : k ≤ xs.length) (h : k - toldLo xs.length fr = toldN xs.length fr many) : part21 xs fr k = told xs fr many := by
  unfold part21 told
  rw [← h, List.drop_take]
theorem part21_yes (xs : List Ent) (fr : Int) (k : Nat) (hk : k < xs.length) (hlo : toldLo xs.length fr ≤ k) : part21 xs fr (k + 1) = part21 xs fr k ++ [xs[k]] := by
  unfold part21
  rw [List.take_succ_eq_append_getElem hk, List.drop_append_of_le_length (by rw [List.length_take]; omega)]
theorem part21_no (xs : List Ent) (fr : Int) (k : Nat) (hk : k < xs.length) (hlo : k < toldLo xs.length fr) : part21 xs fr (k + 1) = part21 xs fr k := by
  unfold part21
  rw [List.drop_of_length_le (by rw [List.length_take]; omega), List.drop_of_length_le (by rw [List.length_take]; omega)]

structure RRel (w : World) (xs : List Ent) (fr many : Int) (o i : Value) (wr : World) : Prop where
  out : ∃ k m : Nat, k ≤ xs.length ∧ i = .int .i64 k ∧ Below w.heap.size w wr ∧ (part21 xs fr k).length = m ∧ wr.ownsRow w.heap.size 73 39 o m ((part21 xs fr k).flatMap Ent.cells) ∧ m = k - toldLo xs.length fr ∧ m ≤ toldN xs.length fr many

set_option maxHeartbeats 2000000 in
theorem refRows21 (S : Nat → Prop) (g cnt : Nat) (cs : List RCh) (s : ByteArray) (fr many : Int) (w : World) (h : RLogAt w S g cnt cs) (hc : cnt ≤ 100000) (hfr : I64 fr) (hmany : I64 many) (hnum : Numbered (rowsOf cs s)) :
    Calls Tryd.prog 77 #[.pointer (some ⟨g, 0, none⟩), .string s, .int .i64 fr, .int .i64 many] w (GotE w (told (rowsOf cs s) fr many)) := by
  obtain ⟨iE, zE, hiE, hzE, hsE, hbE, hcE⟩ := entInfo_parts
  have hfit : ∀ y ∈ rowsOf cs s, y.Fit := fun y hy => by obtain ⟨x, hx, h2⟩ := rowsOf_mem hy; exact h.rows x hx y h2
  have hlen : (rowsOf cs s).length ≤ cnt := by
    unfold rowsOf
    cases e : cs.find? (fun x => decide (x.t = s)) with
    | none => simp
    | some x => exact h.len x (List.mem_of_find?_eq_some e)
  have HL := Lib.hid h; clear h
  have HIE := Lib.hid hiE; clear hiE
  have HZE := Lib.hid hzE; clear hzE
  have HCE := Lib.hid hcE; clear hcE
  obtain ⟨xs, hxs⟩ : ∃ xs, rowsOf cs s = xs := ⟨_, rfl⟩
  rw [hxs] at hfit hlen hnum ⊢
  have HXS := Lib.hid hxs; clear hxs
  have HFIT := Lib.hid hfit; clear hfit
  have HNUM := Lib.hid hnum; clear hnum
  have hb1 := hfr.1
  have hb2 := hfr.2
  have hu73 : Tryd.prog.underlying 73 = some _ := Tryd.underlying73
  obtain ⟨mn, hmn⟩ : ∃ mn, min many 64 = mn := ⟨_, rfl⟩
  have hmin2 := fun w => run_min2 (P := Tryd.prog) w #[3, 3] 3 .i64 .i64 many 64
  rw [hmn] at hmin2
  have HMN := Lib.hid hmn; clear hmn
  have hN : (toldN xs.length fr many : Int) = min (min (max many 0) 64) ((xs.length - toldLo xs.length fr : Nat) : Int) := by unfold toldN; omega
  have hLO : (toldLo xs.length fr : Int) = min (max fr 1 - 1) (xs.length : Int) := by unfold toldLo; omega
  have HN := Lib.hid (And.intro hN hLO); clear hN hLO
  go_enter Tryd.func77, Tryd.ntmps77
  (repeat' ((fail_if_success at_builtin); first | go_values | go_skip | go_guarded | go_step | go_upon))
  refine (refAll21 S g cnt cs s w HL.out hc).mono ?_
  rintro _ w2 ⟨a, c, rfl, hrc, hrd, rfl⟩
  dsimp only
  rw [HXS.out] at hrc hrd ⊢
  have HRD := Lib.hid hrd; clear hrd
  (repeat' ((fail_if_success at_builtin); first | go_values | go_skip | go_guarded | go_step | go_upon))
  go_loopw [9, 11] (fun o i wr => RRel w xs fr many o i wr) (fun _ i _ => xs.length - (intOf i).toNat)
  case atStart => exact ⟨0, 0, by omega, rfl, Below.refl _ _, by simp [part21], by simpa [part21] using World.ownsRow_nil _ _ _ _, by omega, by omega⟩
  case round =>
    obtain ⟨k, m, hk, rfl, hB, hm, hO, hmk, hmN⟩ := hrel
    obtain ⟨oa, oc, rfl, hoc, _, _⟩ := owns_slice hO
    have HO := Lib.hid hO; clear hO
    have HM := Lib.hid hm; clear hm
    have HMK := Lib.hid hmk; clear hmk
    by_cases hlt : k < xs.length
    · have t0 : decide ((k : Int) < (xs.length : Int)) = true := by simp; omega
      by_cases hmm : (m : Int) < mn
      · have t1 : decide ((m : Int) < mn) = true := by simp; omega
        have hno := HNUM.out k hlt
        obtain ⟨b, off, hba, hra⟩ := ents_at (HRD.out.below hB (Nat.le_refl _)) (fun x hx => (HFIT.out x hx).ok.sum) k hlt
        have hx := HFIT.out xs[k] (List.getElem_mem hlt)
        have HY := Lib.hid (part21_yes xs fr k hlt)
        have HNO := Lib.hid (part21_no xs fr k hlt)
        obtain ⟨x, hxe⟩ : ∃ x, xs[k] = x := ⟨_, rfl⟩
        rw [hxe] at hno hra hx HY
        clear hxe
        have q0 : wr.cell? ⟨b, off + k * 39, none⟩ = some (.int .i64 x.no) := hra 0 _ rfl
        have HRA := Lib.hid hra; clear hra
        have HX := Lib.hid hx; clear hx
        have hiX : (Tryd.prog.info? 73).map (·.size) = some x.cells.length := by rw [Ent.cells_length HX.out.ok.sum]; exact entSize
        subst hba
        have bk : (0 : Int) ≤ (k : Int) ∧ (k : Int) < (xs.length : Int) := by omega
        by_cases hlo : toldLo xs.length fr ≤ k
        · have t2 : decide (fr ≤ x.no) = true := by have := HN.out.2; simp; omega
          have HNX := Lib.hid hno; clear hno
          (repeat' ((fail_if_success at_builtin); first | (first | (with_reducible refine wpList_load_mid rfl 73 _ rfl b (off + k * 39) rfl x.cells _ HRA.out hu73 rfl hiX ?_) | ((with_reducible refine wpList_build_one rfl 68 73 _ rfl Tryd.underlying68 x.cells rfl iE zE HIE.out HZE.out (by rw [Ent.cells_length HX.out.ok.sum];exact hsE) (by rw [Ent.cells_length HX.out.ok.sum];omega) (by rw [Ent.cells_length HX.out.ok.sum];omega) ?_); intro w1 hg1 hB1 hs1; have HG1 := Lib.hid hg1; clear hg1)) | go_values | go_skip | go_guarded | go_step | go_upon))
          have hB01 : Below w.heap.size w w1 := hB.trans (hB1.mono hB.size)
          have hO1 := owns_below HO.out hB1 (Nat.le_refl _)
          have hrow := rd_rowC HG1.out
          have HROW := Lib.hid hrow; clear hrow
          have HO1 := Lib.hid hO1; clear hO1
          refine wpList_app _ rfl _ _ _ _ rfl w.heap.size 73 iE _ 39 104 Tryd.underlying68 HIE.out HZE.out hsE hbE (by rw [HCE.out]; rfl) _ m _ rfl HO1.out _ rfl 1 x.cells (src_of_rdc Tryd.underlying68 HROW.out (by rw [Ent.cells_length HX.out.ok.sum]) x.cells_oneCell) (by unfold maxLen; have := HMK.out; omega) (by have := HMK.out; omega) hB01.size ?_
          intro v1 w3 hO3 hg3
          have hB3 : Below w.heap.size w w3 := hB01.grown hg3 hB01.size (fun g e => (HO1.out.lt g e).1)
          have HO3 := Lib.hid hO3; clear hO3 hg3
          (repeat' ((fail_if_success at_builtin); first | go_values | go_skip | go_guarded | go_step | go_upon))
          go_roundw
          case rel =>
            refine ⟨k + 1, m + 1, by omega, by go_num, hB3, by rw [HY.out hlo, List.length_append, HM.out]; rfl, ?_, by have := HMK.out; omega, ?_⟩
            · rw [HY.out hlo, List.flatMap_append, List.flatMap_singleton]; exact HO3.out
            · have h1 := HN.out.1
              have h2 := HN.out.2
              have h3 := HMK.out
              have h4 := HMN.out
              omega
          case measure => simp [intOf]; omega
        · have t2 : decide (fr ≤ x.no) = false := by have := HN.out.2; simp; omega
          have HNX := Lib.hid hno; clear hno
          (repeat' ((fail_if_success at_builtin); first | go_values | go_skip | go_guarded | go_step | go_upon))
          go_roundw
          case rel => exact ⟨k + 1, m, by omega, by go_num, hB, by rw [HNO.out (by omega)]; exact HM.out, by rw [HNO.out (by omega)]; exact HO.out, by have := HMK.out; omega, hmN⟩
          case measure => simp [intOf]; omega
      · have t1 : decide ((m : Int) < mn) = false := by simp; omega
        have hfin := part21_told xs fr many k hk (by have h1 := HN.out.1; have h3 := HMK.out; have h4 := HMN.out; omega)
        have HFIN := Lib.hid hfin; clear hfin
        (repeat' ((fail_if_success at_builtin); first | go_values | go_skip | go_guarded | go_step | go_upon))
        go_ret
        rw [← HFIN.out]
        exact gotE hB (by rw [HM.out]; exact HO.out)
    · have t0 : decide ((k : Int) < (xs.length : Int)) = false := by simp; omega
      have hfin := part21_told xs fr many k hk (by have h1 := HN.out.1; have h3 := HMK.out; have h4 := HMN.out; omega)
      have HFIN := Lib.hid hfin; clear hfin
      (repeat' ((fail_if_success at_builtin); first | go_values | go_skip | go_guarded | go_step | go_upon))
      go_ret
      rw [← HFIN.out]
      exact gotE hB (by rw [HM.out]; exact HO.out)

end Go.Proofs.YtdpfemhfmofmlaaDoor
