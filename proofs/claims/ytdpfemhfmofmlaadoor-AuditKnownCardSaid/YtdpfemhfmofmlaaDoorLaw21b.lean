/- What the helpers of sealerylaw21 answer: big, all. -/
import Derived.Test.YtdpfemhfmofmlaaDoorLaw21
namespace Go.Proofs.YtdpfemhfmofmlaaDoor
set_option linter.unusedSimpArgs false
set_option linter.unusedVariables false
open Go.RowKit
set_option maxRecDepth 10000
--@PUT2

def Ent.big (x : Ent) : Prop := 512 < max (x.stream.size : Int) (x.subject.size : Int)
instance (x : Ent) : Decidable x.big := inferInstanceAs (Decidable (_ < _))
theorem fit_of_small {x : Ent} (hx : x.Ok) (h : ¬ x.big) : x.Fit := ⟨hx, by unfold Ent.big at h; omega, by unfold Ent.big at h; omega⟩

set_option maxHeartbeats 1000000 in
theorem big21 (a : Option Addr) (n c : Nat) (xs : List Ent) (w : World) (h : RdC w a (xs.flatMap Ent.cells)) (hsum : ∀ x ∈ xs, x.sum.length = 32) (en : xs.length = n) :
    Calls Tryd.prog 57 #[.slice a n c] w fun e w' => e = .returned (.bool (decide (100 < n ∨ ∃ x ∈ xs, x.big))) ∧ Below w.heap.size w w' := by
  by_cases h40 : 100 < n
  · go_enter Tryd.func57, Tryd.ntmps57
    (repeat' ((fail_if_success at_builtin); first | go_values | go_skip | go_guarded | go_step | go_upon))
    go_ret
    exact ⟨congrArg Ending.returned (dec15Yes (Or.inl h40)), Below.refl _ _⟩
  · subst en
    have HR := Lib.hid h; clear h
    have HSUM := Lib.hid hsum; clear hsum
    go_enter Tryd.func57, Tryd.ntmps57
    (repeat' ((fail_if_success at_builtin); first | go_values | go_skip | go_guarded | go_step | go_upon))
    go_loopw [3] (fun i wr => ∃ k : Nat, k ≤ xs.length ∧ i = .int .i64 k ∧ Below w.heap.size w wr ∧ ∀ x ∈ xs.take k, ¬ x.big) (fun i _ => xs.length - (intOf i).toNat)
    case atStart => exact ⟨0, by omega, rfl, Below.refl _ _, by simp⟩
    case round =>
      obtain ⟨k, hk, rfl, hB, hs⟩ := hrel
      have HS := Lib.hid hs; clear hs
      have HB := Lib.hid hB; clear hB
      by_cases hlt : k < xs.length
      · obtain ⟨b, off, rfl, hra⟩ := ents_at (HR.out.below HB.out (Nat.le_refl _)) HSUM.out k hlt
        obtain ⟨_, _, _, _, _, c1, c2⟩ := ent_cell hra
        clear hra
        have HX := Lib.hid (show xs[k].big ↔ 512 < max (xs[k].stream.size : Int) (xs[k].subject.size : Int) from Iff.rfl)
        have hmx := fun w => run_max2 (P := Tryd.prog) w #[3, 3] 3 .i64 .i64 (xs[k].stream.size : Int) (xs[k].subject.size : Int)
        generalize max (xs[k].stream.size : Int) (xs[k].subject.size : Int) = M at HX hmx
        have HM := List.getElem_mem hlt
        have HSS := Lib.hid (show xs.take (k + 1) = xs.take k ++ [xs[k]] from List.take_succ_eq_append_getElem hlt)
        generalize xs[k] = x at *
        have bk : (0 : Int) ≤ (k : Int) ∧ (k : Int) < (xs.length : Int) := by omega
        by_cases hb : 512 < M
        · have t1 : decide (512 < M) = true := by simp; omega
          (repeat' ((fail_if_success at_builtin); first | go_values | go_skip | go_guarded | go_step | go_upon))
          go_region
          (repeat' ((fail_if_success at_builtin); first | go_values | go_skip | go_guarded | go_step | go_upon))
          go_ret
          exact ⟨congrArg Ending.returned (dec15Yes (Or.inr ⟨x, HM, HX.out.2 hb⟩)), HB.out.drew⟩
        · have t1 : decide (512 < M) = false := by simp; omega
          (repeat' ((fail_if_success at_builtin); first | go_values | go_skip | go_guarded | go_step | go_upon))
          go_region
          (repeat' ((fail_if_success at_builtin); first | go_values | go_skip | go_guarded | go_step | go_upon))
          go_roundw
          case rel =>
            refine ⟨k + 1, by omega, by go_num, HB.out.drew, ?_⟩
            intro y hm
            rw [HSS.out] at hm
            rcases List.mem_append.1 hm with h1 | h1
            · exact HS.out y h1
            · rw [List.mem_singleton.1 h1]; exact fun h2 => hb (HX.out.1 h2)
          case measure => simp [intOf]; omega
      · (repeat' ((fail_if_success at_builtin); first | go_values | go_skip | go_guarded | go_step | go_upon))
        go_ret
        obtain rfl : k = xs.length := by omega
        have hs := HS.out
        rw [List.take_length] at hs
        refine ⟨congrArg Ending.returned (dec15No ?_), HB.out⟩
        rintro (h1 | ⟨x, hx, h2⟩)
        · exact h40 h1
        · exact hs x hx h2

structure AllR (w : World) (xs : List Ent) (o : Value) (wr : World) : Prop where
  out : ∃ k : Nat, k ≤ xs.length ∧ Below w.heap.size w wr ∧ wr.ownsRow w.heap.size 73 39 o k ((xs.take k).flatMap Ent.cells)

/-- All rows that a log tells of a tenant. -/
theorem told7 (xs : List Ent) (k : Nat) (hk : k < xs.length) : xs.take k ++ told xs ((k : Int) + 1) 7 = xs.take (min (k + 7) xs.length) ∧ (told xs ((k : Int) + 1) 7).length = min (k + 7) xs.length - k := by
  have h1 : toldLo xs.length ((k : Int) + 1) = k := by unfold toldLo; omega
  have h2 : toldN xs.length ((k : Int) + 1) 7 = min (k + 7) xs.length - k := by unfold toldN; rw [h1]; omega
  refine ⟨?_, by rw [told_length, h2]⟩
  unfold told
  rw [h1, h2, ← List.take_add]
  congr 1
  omega

set_option maxHeartbeats 2000000 in
theorem all21 (S : Nat → Prop) (g cnt : Nat) (f : ByteArray → List Ent) (s : ByteArray) (w : World) (h : LogAt w S g cnt f) (hs : s.size ≤ maxLen) (hc : cnt ≤ 100000) :
    Calls Tryd.prog 80 #[.pointer (some ⟨g, 0, none⟩), .string s] w (GotE w (f s)) := by
  obtain ⟨iE, zE, hiE, hzE, hsE, hbE, hcE⟩ := entInfo_parts
  have HIE := Lib.hid hiE; clear hiE
  have HZE := Lib.hid hzE; clear hzE
  have HCE := Lib.hid hcE; clear hcE
  have hlen := h.len s
  have hsum : ∀ x ∈ f s, x.sum.length = 32 := fun x hx => (h.rows s x hx).ok.sum
  have HL := Lib.hid h; clear h
  obtain ⟨xs, hxs⟩ : ∃ xs, f s = xs := ⟨_, rfl⟩
  rw [hxs] at hlen hsum ⊢
  have HXS := Lib.hid hxs; clear hxs
  have HSUM := Lib.hid hsum; clear hsum
  go_enter Tryd.func80, Tryd.ntmps80
  (repeat' ((fail_if_success at_builtin); first | go_values | go_skip | go_guarded | go_step | go_upon))
  go_loopw [5] (fun o wr => AllR w xs o wr) (fun o _ => xs.length - lenOf o)
  case atStart => exact ⟨0, by omega, Below.refl _ _, World.ownsRow_nil _ _ _ _⟩
  case round =>
    obtain ⟨k, hk, hB, hO⟩ := hrel
    obtain ⟨oa, oc, rfl, hoc, _, _⟩ := owns_slice hO
    have HO := Lib.hid hO; clear hO
    have hkb : (0 : Int) ≤ (k : Int) ∧ (k : Int) ≤ 100000 := by omega
    by_cases hlt : k < xs.length
    · have t1 : decide ((k : Int) < (xs.length : Int)) = true := by simp; omega
      (repeat' ((fail_if_success at_builtin); first | go_values | go_skip | go_guarded | go_step | go_upon))
      refine (auditCount S g cnt f s wr (HL.out.below hB) hs hc).mono ?_
      rintro _ w1 ⟨rfl, rfl⟩
      dsimp only
      rw [HXS.out]
      (repeat' ((fail_if_success at_builtin); first | go_values | go_skip | go_guarded | go_step | go_upon))
      refine (auditRows S g cnt f s ((k : Int) + 1) 7 wr (HL.out.below hB) hs hc ⟨by omega, by omega⟩ ⟨by omega, by omega⟩).mono ?_
      rw [HXS.out]
      rintro _ w2 ⟨a2, c2, rfl, hc2, hm2, hr2, hB2, hO2⟩
      dsimp only
      obtain ⟨h71, h72⟩ := told7 xs k hlt
      obtain ⟨ys, hys⟩ : ∃ ys, told xs ((k : Int) + 1) 7 = ys := ⟨_, rfl⟩
      rw [hys] at h71 h72 hc2 hr2 hO2 ⊢
      have hysum : ∀ x ∈ ys, x.sum.length = 32 := fun x hx => HSUM.out x (told_mem (by rw [hys]; exact hx))
      have hyl := ents_length ys hysum
      have t2 : ((ys.length : Int) == 0) = false := by rw [beq_eq_false_iff_ne]; omega
      have H71 := Lib.hid h71
      have H72 := Lib.hid h72
      have HYL := Lib.hid hyl
      have HR2 := Lib.hid hr2
      have HO3 := Lib.hid (owns_below HO.out hB2 (Nat.le_refl _))
      have hB02 : Below w.heap.size w w2 := hB.trans (hB2.mono hB.size)
      clear h71 h72 hyl hr2 hO2 hys hysum
      (repeat' ((fail_if_success at_builtin); first | go_values | go_skip | go_guarded | go_step | go_upon))
      refine wpList_app _ rfl _ _ _ _ rfl w.heap.size 73 iE _ 39 104 Tryd.underlying68 HIE.out HZE.out hsE hbE (by rw [HCE.out]; rfl) _ k _ rfl HO3.out _ rfl ys.length (ys.flatMap Ent.cells) (src_of_rdc Tryd.underlying68 HR2.out HYL.out (ents_oneCell ys)) (by unfold maxLen; have := H72.out; omega) (by have := H72.out; omega) hB02.size ?_
      intro v1 w3 hO4 hg3
      have hB3 : Below w.heap.size w w3 := hB02.grown hg3 hB02.size (fun g e => (HO3.out.lt g e).1)
      rw [← List.flatMap_append, H71.out] at hO4
      have hkl : k + ys.length = min (k + 7) xs.length := by have := H72.out; omega
      rw [hkl] at hO4
      obtain ⟨a4, c4, rfl, _, _, _⟩ := owns_slice hO4
      have HO4 := Lib.hid hO4
      clear hO4 hg3
      (repeat' ((fail_if_success at_builtin); first | go_values | go_skip | go_guarded | go_step | go_upon))
      go_roundw
      case rel => exact ⟨min (k + 7) xs.length, by omega, hB3, HO4.out⟩
      case measure => show xs.length - min (k + 7) xs.length < xs.length - k; omega
    · have t1 : decide ((k : Int) < (xs.length : Int)) = false := by simp; omega
      obtain rfl : k = xs.length := by omega
      (repeat' ((fail_if_success at_builtin); first | go_values | go_skip | go_guarded | go_step | go_upon))
      refine (auditCount S g cnt f s wr (HL.out.below hB) hs hc).mono ?_
      rintro _ w1 ⟨rfl, rfl⟩
      dsimp only
      rw [HXS.out]
      (repeat' ((fail_if_success at_builtin); first | go_values | go_skip | go_guarded | go_step | go_upon))
      go_ret
      have hO2 := HO.out
      rw [List.take_length] at hO2
      exact gotE hB hO2

end Go.Proofs.YtdpfemhfmofmlaaDoor
