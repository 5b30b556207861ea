/- What the kit's functions on rows of an audit answer: kept, spoilt. -/
import Derived.Test.YtdpfemhfmofmlaaDoorKitE
namespace Go.Proofs.YtdpfemhfmofmlaaDoor
set_option linter.unusedSimpArgs false
set_option linter.unusedVariables false
open Go.RowKit
set_option maxRecDepth 10000
--@PUT2

structure KepE (w : World) (o i : Value) (wr : World) : Prop where
  out : ∃ k : Nat, k ≤ 5 ∧ i = .int .i64 k ∧ Below w.heap.size w wr ∧ wr.ownsRow w.heap.size 73 39 o k ((marksE.take k).flatMap Ent.cells)

set_option maxHeartbeats 2000000 in
theorem keptEntries (a b : Option Addr) (n c d : Nat) (l : List Ent) (w : World) (h : RdC w a ((l ++ marksE).flatMap Ent.cells)) (hb : RdC w b (l.flatMap Ent.cells)) (hsum : ∀ x ∈ l, x.sum.length = 32) (en : l.length = n) (hc : n + 5 ≤ c) (hn : n ≤ 100000) :
    Calls Tryd.prog 70 #[.slice a (n + 5) c, .slice b n d] w fun e w' => e = .returned (.bool true) ∧ Below w.heap.size w w' := by
  subst en
  obtain ⟨iE, zE, hiE, hzE, hsE, hbE, hcE⟩ := entInfo_parts
  have HIE := Lib.hid hiE; clear hiE
  have HZE := Lib.hid hzE; clear hzE
  have HCE := Lib.hid hcE; clear hcE
  have hl0 := ents_length l hsum
  obtain ⟨g, off, rfl, hlt⟩ := h.lt (by rw [List.flatMap_append, List.length_append, ents_length marksE marksE_sum]; simp [marksE])
  have H1 := Lib.hid (show RdC w (some ⟨g, off, none⟩) (l.flatMap Ent.cells) by
    have := h.take (l.flatMap Ent.cells).length
    rwa [List.flatMap_append, List.take_left] at this)
  have H2 := Lib.hid (show RdC w (some ⟨g, off + l.length * 39, none⟩) (marksE.flatMap Ent.cells) by
    have := h.drop (l.flatMap Ent.cells).length (some ⟨g, off + l.length * 39, none⟩) (fun _ => by rw [hl0]; simp [Addr.add_lit])
    rwa [List.flatMap_append, List.drop_left] at this)
  have HB := Lib.hid hb; clear hb
  have HSUM := Lib.hid hsum; clear hsum
  have hx : (((l.length + 5 : Nat) : Int) != (l.length : Int) + 5) = false := by simp
  clear h hl0
  go_enter Tryd.func70, Tryd.ntmps70
  (repeat' ((fail_if_success at_builtin); first | go_values | go_skip | go_guarded | go_step | go_upon))
  refine (sameEntries _ _ _ _ c d l l w H1.out HB.out HSUM.out HSUM.out rfl rfl (by omega)).mono ?_
  rintro _ w0 ⟨rfl, hst⟩
  dsimp only
  rw [decide_eq_true (rfl : l = l)]
  (repeat' ((fail_if_success at_builtin); first | go_values | go_skip | go_guarded | go_step | go_upon))
  go_loopw [5, 6] (fun o i wr => KepE w o i wr) (fun _ i _ => 5 - (intOf i).toNat)
  case atStart => exact ⟨0, by omega, rfl, hst.below _, by simpa using World.ownsRow_nil _ _ _ _⟩
  case round =>
    obtain ⟨k, hk, rfl, hB, hO⟩ := hrel
    by_cases hlt : k < 5
    · have HO := Lib.hid hO; clear hO
      have HSN := Lib.hid (show (marksE.take k).flatMap Ent.cells ++ (markE k).cells = (marksE.take (k + 1)).flatMap Ent.cells by
        have := marksE_snoc [] k hlt
        simpa using this)
      have HX := Lib.hid (Ent.cells_length (markE_sum k))
      (repeat' ((fail_if_success at_builtin); first | go_values | go_skip | go_guarded | go_step | go_upon))
      refine (markEntries k wr (by omega) (by omega)).mono ?_
      rintro _ w1 ⟨rfl, hB1⟩
      dsimp only
      (repeat' ((fail_if_success at_builtin); first | (((with_reducible refine wpList_build_one rfl 68 73 _ rfl Tryd.underlying68 (markE k).cells rfl iE zE HIE.out HZE.out (by rw [HX.out];exact hsE) (by rw [HX.out];omega) (by rw [HX.out];omega) ?_); intro w2 hg2 hB2 hs2; have HG2 := Lib.hid hg2; clear hg2)) | go_values | go_skip | go_guarded | go_step | go_upon))
      have hB12 : Below wr.heap.size wr w2 := hB1.trans (hB2.mono hB1.size)
      have hB02 : Below w.heap.size w w2 := hB.trans (hB12.mono hB.size)
      have HO1 := Lib.hid (owns_below HO.out hB12 (Nat.le_refl _))
      have HROW := Lib.hid (rd_rowC HG2.out)
      refine wpList_app _ rfl _ _ _ _ rfl w.heap.size 73 iE _ 39 104 Tryd.underlying68 HIE.out HZE.out hsE hbE (by rw [HCE.out]; rfl) _ k _ rfl HO1.out _ rfl 1 (markE k).cells (src_of_rdc Tryd.underlying68 HROW.out (by rw [HX.out]) (markE k).cells_oneCell) (by unfold maxLen; omega) (by omega) hB02.size ?_
      intro v1 w3 hO3 hg3
      have hB3 : Below w.heap.size w w3 := hB02.grown hg3 hB02.size (fun g e => (HO1.out.lt g e).1)
      rw [HSN.out] at hO3
      have HO3 := Lib.hid hO3; clear hO3 hg3
      (repeat' ((fail_if_success at_builtin); first | go_values | go_skip | go_guarded | go_step | go_upon))
      go_roundw
      case rel => exact ⟨k + 1, by omega, by go_num, hB3, HO3.out⟩
      case measure => simp [intOf]; omega
    · obtain rfl : k = 5 := by omega
      obtain ⟨a1, c1, rfl, _, _, _⟩ := owns_slice hO
      have H3 := Lib.hid (rdc_of_owns hO)
      have H4 := Lib.hid (H2.out.below hB (Nat.le_refl _))
      have hcl : ¬ c = l.length := by omega
      clear hO
      have hsl := fun w => run_slice_fromS (P := Tryd.prog) 68 73 39 Tryd.underlying68 entSize (some ⟨g, off, none⟩) (l.length + 5) c l.length (by omega) w
      rw [if_neg hcl, show l.length + 5 - l.length = 5 by omega] at hsl
      simp only [Option.map_some, Addr.add_lit] at hsl
      (repeat' ((fail_if_success at_builtin); first | go_values | go_skip | go_guarded | go_step | go_upon))
      refine (sameEntries _ _ _ _ _ _ marksE marksE wr H4.out H3.out marksE_sum marksE_sum rfl rfl (by simp [marksE])).mono ?_
      rintro _ w1 ⟨rfl, hst1⟩
      dsimp only
      rw [decide_eq_true (rfl : marksE = marksE)]
      (repeat' ((fail_if_success at_builtin); first | go_values | go_skip | go_guarded | go_step | go_upon))
      go_ret
      exact ⟨rfl, hB.trans (hst1.below _)⟩

structure SpoE (w : World) (base n : Nat) (a : Option Addr) (c : Nat) (i : Value) (wr : World) : Prop where
  out : ∃ (k : Nat) (ys : List Value), k ≤ n ∧ i = .int .i64 k ∧ Frm w.heap.size (fun j => (Value.slice a n c).ownBlock = some j) w wr ∧ wr.ownsRow base 73 39 (.slice a n c) n ys

set_option maxHeartbeats 1000000 in
theorem spoilEntries (base n c : Nat) (a : Option Addr) (xs : List Value) (w : World) (h : w.ownsRow base 73 39 (.slice a n c) n xs) (hn : n ≤ 1000000) :
    Calls Tryd.prog 79 #[.slice a n c] w fun e w' => e = .returned (.tuple #[]) ∧ Frm w.heap.size (fun j => (Value.slice a n c).ownBlock = some j) w w' := by
  have HW := Lib.hid h; clear h
  go_enter Tryd.func79, Tryd.ntmps79
  (repeat' ((fail_if_success at_builtin); first | go_values | go_skip | go_guarded | go_step | go_upon))
  go_loopw [2] (fun i wr => SpoE w base n a c i wr) (fun i _ => n - (intOf i).toNat)
  case atStart => exact ⟨0, xs, by omega, rfl, Frm.refl _ _ _, HW.out⟩
  case round =>
    obtain ⟨k, ys, hk, rfl, hF, hO⟩ := hrel
    by_cases hlt : k < n
    · have hyl := hO.1
      obtain ⟨b, off, rfl, hb⟩ := (rdc_of_owns hO).lt (by omega)
      have hoff : off = 0 := by
        rcases hO.2 with ⟨e, _⟩ | ⟨_, _, _, e, _⟩
        · cases e
        · cases e; rfl
      subst hoff
      have HO := Lib.hid hO; clear hO
      have HF := Lib.hid hF; clear hF
      have bk : (0 : Int) ≤ (k : Int) ∧ (k : Int) < (n : Int) := by omega
      have hwr : wr.heap.size < wr.heap.size + 1 := by omega
      (repeat' ((fail_if_success at_builtin); first | go_values | go_skip | go_guarded | go_step | go_upon))
      refine (markEntries ((k : Int) + 7) wr (by omega) (by omega)).mono ?_
      rintro _ w1 ⟨rfl, hB1⟩
      dsimp only
      have hml : (markE ((k : Int) + 7)).cells.length = 39 := Ent.cells_length (markE_sum _)
      have hO1 := owns_below HO.out hB1 (Nat.le_refl _)
      obtain ⟨cur, cap, hcur, hsz⟩ : ∃ cur cap, w1.heap[b]? = some (.cells cur 73 (0, 0)) ∧ cur.size = cap * 39 ∧ n ≤ cap := by
        rcases hO1.2 with ⟨e, _⟩ | ⟨g', cap, cur, e, _, hh, h1, h2, h3, _⟩
        · cases e
        · cases e; exact ⟨cur, _, hh, h3, h1⟩
      have HCUR := Lib.hid hcur; clear hcur
      have HI := Lib.hid (show (Tryd.prog.info? 73).map (·.size) = some (markE ((k : Int) + 7)).cells.length by rw [hml]; exact entSize)
      have HFT := Lib.hid (show k * 39 + (markE ((k : Int) + 7)).cells.length ≤ cur.size by rw [hml, hsz.1]; have := hsz.2; have := Nat.mul_le_mul_right 39 (show k + 1 ≤ cap by omega); omega)
      have HOC := Lib.hid (markE ((k : Int) + 7)).cells_oneCell
      have HML := Lib.hid hml; clear hml
      have HO1 := Lib.hid hO1; clear hO1
      clear hsz
      (repeat' ((fail_if_success at_builtin); first | (((with_reducible refine wpList_store_blk rfl 73 _ _ rfl b (k * 39) (markE ((k : Int) + 7)).cells rfl rfl _ _ HCUR.out HFT.out HI.out HOC.out ?_); intro w2 hg2 hG2; have HG2 := Lib.hid hg2; clear hg2)) | go_values | go_skip | go_guarded | go_step | go_upon))
      go_roundw
      case rel =>
        have hG := hG2
        have hO2 : w2.ownsRow base 73 39 (.slice (some ⟨b, 0, none⟩) n c) n ((splice cur.toList (k * 39) (markE ((k : Int) + 7)).cells).take (n * 39)) := by
          have hH := HO1.out
          rcases hH.2 with ⟨e, _⟩ | ⟨g', cap', cur', e, hb1, hh, h1, h2, h3, _⟩
          · cases e
          · cases e
            have hcc := HCUR.out
            rw [hh] at hcc
            cases hcc
            have hsp : (splice cur.toList (k * 39) (markE ((k : Int) + 7)).cells).length = cur.size := by rw [length_splice _ _ _ (by have := HFT.out; simpa using this)]; simp
            have hn39 := Nat.mul_le_mul_right 39 h1
            exact ⟨by rw [List.length_take, hsp, h3]; omega, .inr ⟨b, _, _, rfl, hb1, HG2.out, h1, h2, by rw [List.size_toArray, hsp, h3], by simp⟩⟩
        exact ⟨k + 1, _, by omega, by go_num, (HF.out.trans ((Frm.ofBelow (S := fun j => (Value.slice (some ⟨b, 0, none⟩) n c).ownBlock = some j) hB1).mono HF.out.size (fun _ _ hh => hh))).grown hG (Nat.le_trans HF.out.size hB1.size) (fun j e _ => by cases e; rfl), hO2⟩
      case measure => simp [intOf]; omega
    · (repeat' ((fail_if_success at_builtin); first | go_values | go_skip | go_guarded | go_step | go_upon))
      go_end0
      exact ⟨rfl, hF⟩

end Go.Proofs.YtdpfemhfmofmlaaDoor
