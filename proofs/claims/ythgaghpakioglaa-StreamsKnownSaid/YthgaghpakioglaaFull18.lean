/- StreamsFull, walked. -/
import Derived.Test.YthgaghpakioglaaKn18
import Derived.Deep.DeepCutAuto
import Derived.Deep.CutRange
namespace Go.Proofs.Ythgaghpakioglaa
set_option linter.unusedSimpArgs false
set_option linter.unusedVariables false
open Go.RowKit
set_option maxRecDepth 10000
--@PUT2

/-- Numbers that came in. -/
structure Ints (w : World) (a : Option Addr) (l : List Int) : Prop where
  rd : RdC w a (l.flatMap fun x => [Value.int .i64 x])
  ok : ∀ x ∈ l, -9223372036854775808 ≤ x ∧ x ≤ 9223372036854775807
theorem ints_get : ∀ (l : List Int) (k : Nat) (hk : k < l.length), (l.flatMap fun x => [Value.int .i64 x])[k]? = some (.int .i64 l[k])
  | x :: r, 0, hk => by simp
  | x :: r, k + 1, hk => by
    rw [List.flatMap_cons, List.getElem?_append_right (by simp)]
    exact ints_get r k (by simpa using hk)
theorem ints_length (l : List Int) : (l.flatMap fun x => [Value.int .i64 x]).length = l.length := by induction l <;> simp_all
theorem Ints.at_ {w : World} {a : Option Addr} {l : List Int} (h : Ints w a l) (k : Nat) (hk : k < l.length) : ∃ b o, a = some ⟨b, o, none⟩ ∧ w.cell? ⟨b, o + k, none⟩ = some (.int .i64 l[k]) := by
  obtain ⟨b, o, rfl, _⟩ := h.rd.lt (by rw [ints_length]; omega)
  have h1 := h.rd.cell k (by rw [ints_length]; exact hk)
  rw [← List.getElem?_eq_getElem, ints_get l k hk] at h1
  exact ⟨b, o, rfl, h1⟩
theorem Ints.below {w w' : World} {a : Option Addr} {l : List Int} (h : Ints w a l) {B : Nat} (hb : Below B w w') (hB : w.heap.size ≤ B) : Ints w' a l := ⟨h.rd.below hb hB, h.ok⟩
theorem ox_ints {H : Type} {enc : TypeId × Value → H} {w : World} {fuel : Nat} {cs : List Value} {y : DataW H × List MemPlace} (h : Reads enc Try.prog w fuel 22 cs y) :
    ∃ (a : Option Addr) (n c : Nat) (xs : List Int), cs = [.slice a n c] ∧ xs.length = n ∧ n ≤ c ∧ c ≤ maxLen ∧ Ints w a xs := by
  obtain ⟨a, n, c, xs, h1, h2, h3, h4, h5, h6⟩ := ox_slice (τ := Int) (size := 1) (by omega) Try.underlying22 (by kernel_rfl) (fun x => [Value.int .i64 x]) (fun x => -9223372036854775808 ≤ x ∧ x ≤ 9223372036854775807) (fun x => rfl)
    (fun _ _ _ hh => by obtain ⟨x, e, hx⟩ := ox_int Try.underlying3 hh; exact ⟨x, e, hx⟩) h
  exact ⟨a, n, c, xs, h1, h2, h3, h4, h5, h6⟩

theorem appS_cnt (st su : ByteArray) (us : Int) : ∀ (bs : List (List UInt8)) (es : List EvS) (i : Nat), cntS (appS st su us es i bs) st = bs.length
  | [], _, _ => rfl
  | b :: r, es, i => by
    simp only [appS, cntS, if_true, List.length_cons, appS_cnt st su us r]
    omega
theorem appS_names (st su : ByteArray) (us : Int) : ∀ (bs : List (List UInt8)) (es : List EvS) (i : Nat), cntS es st = es.length → namesS es = min es.length 1 → namesS (es ++ appS st su us es i bs) = min (es.length + bs.length) 1
  | [], es, i, h1, h2 => by simpa [appS] using h2
  | b :: r, es, i, h1, h2 => by
    obtain ⟨x, hx⟩ : ∃ x : EvS, (⟨st, su, (cntS es st : Int) + 1, (es.length : Int) + 1, useI us i, b⟩ : EvS) = x := ⟨_, rfl⟩
    have hst : x.st = st := by rw [← hx]
    have h3 : cntS (es ++ [x]) st = (es ++ [x]).length := by rw [cntS_append, h1]; simp [cntS, hst]
    have h4 : namesS (es ++ [x]) = min (es ++ [x]).length 1 := by
      rw [namesS_snoc, hst, h1, h2, List.length_append]
      cases es with
      | nil => rfl
      | cons y ys => simp
    have h := appS_names st su us r (es ++ [x]) (i + 1) h3 h4
    simp only [appS, hx]
    rw [List.append_assoc] at h
    rw [show es ++ x :: appS st su us (es ++ [x]) (i + 1) r = es ++ ([x] ++ appS st su us (es ++ [x]) (i + 1) r) from rfl, h]
    simp only [List.length_append, List.length_cons, List.length_nil]
    omega

def nilP : Piece := ⟨none, 0, 0, []⟩
theorem nilP_cells : ∀ p : Nat, (List.replicate p nilP).flatMap Piece.cells = List.replicate p (Value.slice none 0 0)
  | 0 => rfl
  | p + 1 => by rw [List.replicate_succ, List.flatMap_cons, nilP_cells p]; rfl
theorem nil_pieces {w : World} {b p : Nat} {t : TypeId} (h : w.heap[b]? = some (.cells (List.replicate p (Value.slice none 0 0)).toArray t (0, 0))) : Pieces w (some ⟨b, 0, none⟩) (List.replicate p nilP) :=
  ⟨by rw [nilP_cells]; exact rd_rowN h, fun q hq => by rw [List.eq_of_mem_replicate hq]; exact ⟨rfl, Nat.le_refl _, by show (0 : Nat) ≤ 140737488351232; omega, RdC.nil _ _⟩⟩
theorem bsInfo : (Try.prog.info? 51).map (fun i => (i.zero, i.size, i.bytes)) = some (some (.slice none 0 0), 1, 24) := by kernel_rfl

/-- What lies behind some rounds. -/
def FullI (w : World) (N k : Nat) (g : Nat) (wr : World) : Prop :=
  ∃ (F : Nat → Prop) (φ : ByteArray → List EvS), StrS wr F g k φ ∧ (φ ⟨#[97, 110, 110]⟩).length = N ∧ cntS (φ ⟨#[97, 110, 110]⟩) ⟨#[97]⟩ = N ∧ namesS (φ ⟨#[97, 110, 110]⟩) = min N 1 ∧ (∀ k, F k → w.heap.size ≤ k) ∧ Below w.heap.size w wr

set_option maxHeartbeats 2000000 in
theorem streamsFull_walk (a : Option Addr) (n c : Nat) (l : List Int) (w : World) (h : Ints w a l) (hl : l.length = n) (hn : n ≤ 9223372036854775807) :
    Calls Try.prog 3 #[.slice a n c] w fun e w' => e = .returned (.bool true) ∧ Below w.heap.size w w' := by
  have HI := Lib.hid h
  clear h
  have hmk : ∀ (W : World) (p : Nat), p ≤ 300 → (Instr.makeSlice 30 (.int .i64 (p : Int)) (.int .i64 (p : Int))).run Try.prog W = .ok (.slice (some ⟨W.heap.size, 0, none⟩) p p) (W.alloc (.cells (List.replicate p (Value.slice none 0 0)).toArray 51)) := fun W p hp => by
    obtain ⟨i0, hi, hz0, hz1, hz2⟩ := info_parts bsInfo
    have h := run_makeSlice (P := Try.prog) W 30 51 i0 (.slice none 0 0) Try.underlying30 hi hz0 .i64 .i64 (p : Int) (p : Int) (by omega) (by omega) (by rw [hz1]; omega) (by rw [hz2]; omega) (by omega)
    have e : madeCells (Value.slice none 0 0).cells ((p : Int).toNat * i0.size) = (List.replicate p (Value.slice none 0 0)).toArray := by
      rw [hz1]
      apply Array.ext_getElem?
      intro j
      by_cases hj : j < p
      · simp [madeCells, Value.cells, hj, Nat.mod_one]
      · simp [madeCells, Value.cells, hj]
    rw [e] at h
    simpa using h
  have HMK := Lib.hid hmk
  clear hmk
  go_enter Try.func3, Try.ntmps3
  (repeat' ((fail_if_success at_builtin); first | go_values | go_skip | go_guarded | go_step | go_upon))
  refine (newS w).mono ?_
  rintro _ w1 ⟨g, F1, rfl, hS1, hF1, hB1⟩
  have HS1 := Lib.hid hS1
  have HF1 := Lib.hid hF1
  clear hS1 hF1
  dsimp only
  (repeat' ((fail_if_success at_builtin); first | go_values | go_skip | go_guarded | go_step | go_upon))
  go_loopw [4, 5] (fun o i wr => ∃ N k : Nat, o = .int .i64 (N : Int) ∧ i = .int .i64 (k : Int) ∧ N ≤ 1000 ∧ k ≤ 30 ∧ k ≤ n ∧ FullI w N k g wr) (fun _ i _ => 30 - (intOf i).toNat)
  case atStart =>
    exact ⟨0, 0, rfl, rfl, by omega, by omega, Nat.zero_le _, F1, _, HS1.out, rfl, rfl, rfl, HF1.out, hB1⟩
  case round =>
    obtain ⟨N, k, rfl, rfl, hN, hk, hkn, hI⟩ := hrel
    have HII := Lib.hid hI
    clear hI
    by_cases hlt : k < n ∧ k < 30
    · have t1 : decide ((k : Int) < (n : Int)) = true := by rw [decide_eq_true_eq]; omega
      have t2 : decide ((k : Int) < 30) = true := by rw [decide_eq_true_eq]; omega
      obtain ⟨F, φ, hS, hφ1, hφ2, hφ3, hF, hB⟩ := HII.out
      obtain ⟨ab, ao, rfl, hc0⟩ := (HI.out.below hB (Nat.le_refl _)).at_ k (by omega)
      have hv := HI.out.ok _ (List.getElem_mem (by omega : k < l.length))
      obtain ⟨v, hve⟩ : ∃ v, l[k]'(by omega) = v := ⟨_, rfl⟩
      rw [hve] at hc0 hv
      have HS := Lib.hid hS
      have HP1 := Lib.hid hφ1
      have HP2 := Lib.hid hφ2
      have HP3 := Lib.hid hφ3
      have HF := Lib.hid hF
      have bk : (0 : Int) ≤ (k : Int) ∧ (k : Int) < (n : Int) := by omega
      clear hve hS hφ1 hφ2 hφ3 hF HII
      (repeat' ((fail_if_success at_builtin); first | go_values | go_skip | go_guarded | go_step | go_upon))
      refine (pickAny v 301 wr hv (by decide)).mono ?_
      rintro _ _ ⟨rfl, rfl⟩
      have hpk := pick_lt v 301 (by decide)
      obtain ⟨p, hp⟩ : ∃ p : Nat, pick v 301 = (p : Int) := ⟨(pick v 301).toNat, by omega⟩
      rw [hp] at hpk ⊢
      have hp3 : p ≤ 300 := by omega
      have hmk := fun W => HMK.out W p hp3
      obtain ⟨arr, harr⟩ : ∃ arr, (List.replicate p (Value.slice none 0 0)).toArray = arr := ⟨_, rfl⟩
      rw [harr] at hmk
      have HARR := Lib.hid harr
      clear hp harr
      dsimp only
      (repeat' ((fail_if_success at_builtin); first | go_values | go_skip | go_guarded | go_step | go_upon))
      have hB2 : Below wr.heap.size wr (wr.alloc (.cells arr 51)) := (Below.refl _ _).alloc (Nat.le_refl _) _
      have hrow : (wr.alloc (.cells arr 51)).heap[wr.heap.size]? = some (.cells (List.replicate p (Value.slice none 0 0)).toArray 51 (0, 0)) := by rw [HARR.out]; exact heap_alloc_new wr _
      generalize wr.alloc (.cells arr 51) = w2 at *
      have hS2 := HS.out.below hB2
      by_cases hsum : N + p ≤ 1000
      · refine (appendS hS2 ⟨#[97, 110, 110]⟩ ⟨#[97]⟩ ⟨#[115]⟩ 0 (some ⟨wr.heap.size, 0, none⟩) p p (List.replicate p nilP) (by decide) (by decide) (by decide) (fun wq hq => (nil_pieces hrow).frm hq (fun b o e => (by cases e; exact fun hk => Nat.lt_irrefl _ (HS.out.low _ hk))) (fun q hq b o e => ?_)) (List.length_replicate ..) (Nat.le_refl _) (by omega) (by rw [HP1.out]; exact hsum)).mono ?_
        · rw [List.eq_of_mem_replicate hq] at e
          cases e
        rintro _ w3 ⟨a3, c3, F3, rfl, hc3, hS3, _, hF3, _, hFr3⟩
        have hL1 := appS_length ⟨#[97]⟩ ⟨#[115]⟩ 0 ((List.replicate p nilP).map (·.l)) (φ ⟨#[97, 110, 110]⟩) 0
        have hL2 := appS_cnt ⟨#[97]⟩ ⟨#[115]⟩ 0 ((List.replicate p nilP).map (·.l)) (φ ⟨#[97, 110, 110]⟩) 0
        have hL3 := appS_names ⟨#[97]⟩ ⟨#[115]⟩ 0 ((List.replicate p nilP).map (·.l)) (φ ⟨#[97, 110, 110]⟩) 0 (by rw [HP1.out, HP2.out]) (by rw [HP1.out, HP3.out])
        rw [List.length_map, List.length_replicate] at hL1 hL2 hL3
        rw [hL1] at hc3 ⊢
        obtain ⟨L, hL⟩ : ∃ L, appS ⟨#[97]⟩ ⟨#[115]⟩ 0 (φ ⟨#[97, 110, 110]⟩) 0 ((List.replicate p nilP).map (·.l)) = L := ⟨_, rfl⟩
        rw [hL] at hL1 hL2 hL3 hS3
        have hφ : putS φ ⟨#[97, 110, 110]⟩ L ⟨#[97, 110, 110]⟩ = φ ⟨#[97, 110, 110]⟩ ++ L := if_pos rfl
        generalize putS φ ⟨#[97, 110, 110]⟩ L = φ3 at hS3 hφ
        have h31 : (φ3 ⟨#[97, 110, 110]⟩).length = N + p := by rw [hφ, List.length_append, HP1.out, hL1]
        have h32 : cntS (φ3 ⟨#[97, 110, 110]⟩) ⟨#[97]⟩ = N + p := by rw [hφ, cntS_append, HP2.out, hL2]
        have h33 : namesS (φ3 ⟨#[97, 110, 110]⟩) = min (N + p) 1 := by rw [hφ, hL3, HP1.out]
        have hB03 : Below w.heap.size w w3 := (hB.trans (hB2.mono hB.size)).trans ⟨hFr3.os, hFr3.tape, hFr3.output, hFr3.size, fun j hj => hFr3.block j (by have := hB.size; have := hB2.size; omega) (fun h => by have := HF.out j h; omega)⟩
        have hF3' : ∀ j, F3 j → w.heap.size ≤ j := fun j hj => by
          rcases hF3 j hj with h | h
          · exact HF.out j h
          · have := hB.size; have := hB2.size; omega
        have HS3 := Lib.hid hS3
        have H31 := Lib.hid h31
        have H32 := Lib.hid h32
        have H33 := Lib.hid h33
        have HF3 := Lib.hid hF3'
        clear hS3 hL1 hL2 hL3 hL hφ h31 h32 h33 hF3 hF3' hFr3 hS2 hrow hmk hc0
        have t3 : decide ((N : Int) + (p : Int) ≤ 1000) = true := by rw [decide_eq_true_eq]; omega
        dsimp only
        (repeat' ((fail_if_success at_builtin); first | go_values | go_skip | go_guarded | go_step | go_upon))
        refine (countS HS3.out ⟨#[97, 110, 110]⟩ (by decide)).mono ?_
        rintro _ w4 ⟨rfl, hB4⟩
        rw [H31.out, Int.natCast_add]
        have hS4 := HS3.out.below hB4
        have HS4 := Lib.hid hS4
        clear hS4
        dsimp only
        (repeat' ((fail_if_success at_builtin); first | go_values | go_skip | go_guarded | go_step | go_upon))
        refine (versionS HS4.out ⟨#[97, 110, 110]⟩ ⟨#[97]⟩ (by decide) (by decide)).mono ?_
        rintro _ w5 ⟨rfl, hB5⟩
        rw [H32.out, Int.natCast_add]
        have hS5 := HS4.out.below hB5
        have HS5 := Lib.hid hS5
        clear hS5
        dsimp only
        (repeat' ((fail_if_success at_builtin); first | go_values | go_skip | go_guarded | go_step | go_upon))
        refine (namesSS HS5.out ⟨#[97, 110, 110]⟩ (by decide)).mono ?_
        rintro _ w6 ⟨rfl, hB6⟩
        have hS6 := HS5.out.below hB6
        have HS6 := Lib.hid hS6
        clear hS6
        have hI6 : FullI w (N + p) (k + 1) g w6 := ⟨F3, φ3, HS6.out, H31.out, H32.out, H33.out, HF3.out, ((hB03.trans (hB4.mono hB03.size)).trans (hB5.mono (Nat.le_trans hB03.size hB4.size))).trans (hB6.mono (Nat.le_trans (Nat.le_trans hB03.size hB4.size) hB5.size))⟩
        have HI6 := Lib.hid hI6
        clear hI6
        rw [H33.out]
        rcases (show N + p = 0 ∨ 1 ≤ N + p by omega) with hz | hz
        · obtain ⟨rfl, rfl⟩ : N = 0 ∧ p = 0 := by omega
          dsimp only
          (repeat' ((fail_if_success at_builtin); first | go_values | go_skip | go_guarded | go_step | go_upon))
          exact ⟨⟨0 + 0, k + 1, by simp, by simp, by omega, by omega, by omega, HI6.out⟩, by simp [intOf]; omega⟩
        · rw [show min (N + p) 1 = 1 by omega]
          have hz2 : (1 : Int) ≤ (N : Int) + (p : Int) := by omega
          dsimp only
          (repeat' ((fail_if_success at_builtin); first | go_values | go_skip | go_guarded | go_step | go_upon))
          exact ⟨⟨N + p, k + 1, by simp, by simp, by omega, by omega, by omega, HI6.out⟩, by simp [intOf]; omega⟩
      · refine (appendNoS hS2 ⟨#[97, 110, 110]⟩ ⟨#[97]⟩ ⟨#[115]⟩ 0 (some ⟨wr.heap.size, 0, none⟩) p p (by decide) (Nat.le_refl _) (by omega) (by rw [HP1.out]; omega)).mono ?_
        rintro _ w3 ⟨rfl, hS3, hB3⟩
        have hB03 : Below w.heap.size w w3 := (hB.trans (hB2.mono hB.size)).trans (hB3.mono (Nat.le_trans hB.size hB2.size))
        have HS3 := Lib.hid hS3
        clear hS3 hS2 hrow hmk hc0
        have t3 : decide ((N : Int) + (p : Int) ≤ 1000) = false := by rw [decide_eq_false_iff_not]; omega
        dsimp only
        (repeat' ((fail_if_success at_builtin); first | go_values | go_skip | go_guarded | go_step | go_upon))
        refine (countS HS3.out ⟨#[97, 110, 110]⟩ (by decide)).mono ?_
        rintro _ w4 ⟨rfl, hB4⟩
        rw [HP1.out]
        have hS4 := HS3.out.below hB4
        have HS4 := Lib.hid hS4
        clear hS4
        dsimp only
        (repeat' ((fail_if_success at_builtin); first | go_values | go_skip | go_guarded | go_step | go_upon))
        refine (versionS HS4.out ⟨#[97, 110, 110]⟩ ⟨#[97]⟩ (by decide) (by decide)).mono ?_
        rintro _ w5 ⟨rfl, hB5⟩
        rw [HP2.out]
        have hS5 := HS4.out.below hB5
        have HS5 := Lib.hid hS5
        clear hS5
        dsimp only
        (repeat' ((fail_if_success at_builtin); first | go_values | go_skip | go_guarded | go_step | go_upon))
        refine (namesSS HS5.out ⟨#[97, 110, 110]⟩ (by decide)).mono ?_
        rintro _ w6 ⟨rfl, hB6⟩
        have hS6 := HS5.out.below hB6
        have HS6 := Lib.hid hS6
        clear hS6
        have hI6 : FullI w N (k + 1) g w6 := ⟨F, φ, HS6.out.more (Nat.le_succ k), HP1.out, HP2.out, HP3.out, HF.out, ((hB03.trans (hB4.mono hB03.size)).trans (hB5.mono (Nat.le_trans hB03.size hB4.size))).trans (hB6.mono (Nat.le_trans (Nat.le_trans hB03.size hB4.size) hB5.size))⟩
        have HI6 := Lib.hid hI6
        clear hI6
        rw [HP3.out, show min N 1 = 1 by omega]
        have hz2 : (1 : Int) ≤ (N : Int) := by omega
        dsimp only
        (repeat' ((fail_if_success at_builtin); first | go_values | go_skip | go_guarded | go_step | go_upon))
        exact ⟨⟨N, k + 1, by simp, by simp, by omega, by omega, by omega, HI6.out⟩, by simp [intOf]; omega⟩
    · have hB := HII.out
      obtain ⟨_, _, _, _, _, _, _, hB⟩ := hB
      by_cases h1 : k < n
      · have t1 : decide ((k : Int) < (n : Int)) = true := by rw [decide_eq_true_eq]; omega
        have t2 : decide ((k : Int) < 30) = false := by rw [decide_eq_false_iff_not]; omega
        (repeat' ((fail_if_success at_builtin); first | go_values | go_skip | go_guarded | go_step | go_upon))
        refine (known18 wr).mono ?_
        rintro _ w9 ⟨rfl, hB9⟩
        dsimp only
        (repeat' ((fail_if_success at_builtin); first | go_values | go_skip | go_guarded | go_step | go_upon))
        go_ret
        exact ⟨rfl, hB.trans (hB9.mono hB.size)⟩
      · have t1 : decide ((k : Int) < (n : Int)) = false := by rw [decide_eq_false_iff_not]; omega
        (repeat' ((fail_if_success at_builtin); first | go_values | go_skip | go_guarded | go_step | go_upon))
        refine (known18 wr).mono ?_
        rintro _ w9 ⟨rfl, hB9⟩
        dsimp only
        (repeat' ((fail_if_success at_builtin); first | go_values | go_skip | go_guarded | go_step | go_upon))
        go_ret
        exact ⟨rfl, hB.trans (hB9.mono hB.size)⟩

end Go.Proofs.Ythgaghpakioglaa
