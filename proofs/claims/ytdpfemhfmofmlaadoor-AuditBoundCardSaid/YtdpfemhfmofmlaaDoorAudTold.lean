/- The law AuditRowsTold, walked. -/
import Derived.Test.YtdpfemhfmofmlaaDoorWorks21
import Derived.Test.YtdpfemhfmofmlaaDoorChain21
namespace Go.Proofs.YtdpfemhfmofmlaaDoor
set_option linter.unusedSimpArgs false
set_option linter.unusedVariables false
open Go.RowKit
set_option maxRecDepth 10000
--@PUT2

def annBA : ByteArray := ⟨#[97, 110, 110]⟩
theorem annBA_le : annBA.size ≤ maxLen := by unfold maxLen; decide

/-- While rows are added to one tenant's chain. -/
structure OneLog (w : World) (g : Nat) (s : ByteArray) (l : List Ent) (wr : World) : Prop where
  out : ∃ (S : Nat → Prop) (f : ByteArray → List Ent), LogAt wr S g l.length f ∧ f s = addAll l ∧ (∀ j, S j → w.heap.size ≤ j) ∧ Below w.heap.size w wr
theorem OneLog.below {w wr w' : World} {g : Nat} {s : ByteArray} {l : List Ent} (h : OneLog w g s l wr) (hb : Below wr.heap.size wr w') : OneLog w g s l w' := by
  obtain ⟨S, f, h1, h2, h3, h4⟩ := h.out
  exact ⟨⟨S, f, h1.below hb, h2, h3, h4.trans (hb.mono h4.size)⟩⟩
theorem oneAdd (w : World) (g : Nat) (s : ByteArray) (l : List Ent) (x : Ent) (wr : World) (h : OneLog w g s l wr) (hT : Tabs w) (hs : s.size ≤ maxLen) (hl : l.length ≤ 100000) (hx : x.Fit) :
    Calls Tryd.prog 72 #[.pointer (some ⟨g, 0, none⟩), .string s, .agg x.cells.toArray] wr fun e w' => (∃ v, e = .returned v) ∧ OneLog w g s (l ++ [x]) w' := by
  obtain ⟨S, f, h1, h2, h3, h4⟩ := h.out
  refine (auditAdd S g l.length f s x _ wr h1 (hT.below h4 hT.size) hs hl hx rfl).mono ?_
  rintro _ w' ⟨rfl, hL, hF⟩
  refine ⟨⟨_, rfl⟩, ⟨⟨_, _, (by rw [List.length_append]; exact hL), (by rw [lput_same, h2, addAll_snoc]), ?_, h4.trans (hF.belowOf h4.size (fun k hk => h3 k hk))⟩⟩⟩
  rintro j (hj | hj)
  · exact h3 j hj
  · have := h4.size; omega
theorem oneNew (w : World) : Calls Tryd.prog 71 #[] w fun e w' => ∃ g, e = .returned (.pointer (some ⟨g, 0, none⟩)) ∧ ∀ s, OneLog w g s [] w' := by
  refine (auditNew w).mono ?_
  rintro _ w' ⟨g, rfl, hL, hB⟩
  exact ⟨g, rfl, fun s => ⟨⟨_, _, hL, rfl, fun j hj => hj.1, hB⟩⟩⟩

def clkEnt (i : Int) : Ent := { zEnt with clock := i }
def clks (n : Nat) : List Ent := (List.range n).map fun (i : Nat) => clkEnt (i : Int)
theorem clks_length (n : Nat) : (clks n).length = n := by simp [clks]
theorem clks_snoc (n : Nat) : clks n ++ [clkEnt n] = clks (n + 1) := by simp [clks, List.range_succ]
theorem clks_get (n i : Nat) (hi : i < (clks n).length) : (clks n)[i] = clkEnt i := by simp [clks]
theorem zEnt_fit : zEnt.Fit := ⟨⟨by unfold I64; decide, by unfold I64; decide, by unfold I64; decide, by unfold I64; decide, by unfold I64; decide, by unfold maxLen; decide, by unfold maxLen; decide, rfl⟩, by decide, by decide⟩
theorem clk_fit (i : Int) (h : I64 i) : (clkEnt i).Fit := ⟨⟨zEnt_fit.ok.no, h, zEnt_fit.ok.kind, zEnt_fit.ok.code, zEnt_fit.ok.id, zEnt_fit.ok.stream, zEnt_fit.ok.subject, zEnt_fit.ok.sum⟩, zEnt_fit.str, zEnt_fit.sub⟩

set_option maxHeartbeats 4000000 in
theorem auditRowsTold_walk (m fr n : Int) (w : World) (hT : Tabs w) (hm : I64 m) (hfr : I64 fr) (hn : I64 n) :
    Calls Tryd.prog 20 #[.int .i64 m, .int .i64 fr, .int .i64 n] w fun e w' => e = .returned (.bool true) ∧ Below w.heap.size w w' := by
  have hts := hT.size
  have HT := Lib.hid hT; clear hT
  have b1 := pick_lt m 151 (by omega)
  obtain ⟨p1, hp1⟩ : ∃ p, pick m 151 = p := ⟨_, rfl⟩
  rw [hp1] at b1
  obtain ⟨M, hM⟩ : ∃ M : Nat, p1 = (M : Int) := ⟨p1.toNat, by omega⟩
  subst hM
  have HP1 := Lib.hid hp1; clear hp1
  have hM2 : M ≤ 150 := by omega
  have hbld : ∀ (w : World) (v : Int), (Instr.build 73 #[(1, .int .i64 v)]).run Tryd.prog w = .ok (.agg (clkEnt v).cells.toArray) w := fun w v => by kernel_rfl
  have hfr1 := hfr.1
  have hfr2 := hfr.2
  obtain ⟨fst, hfst⟩ : ∃ fst, max fr 1 = fst := ⟨_, rfl⟩
  have hmax1 := fun w => run_max2 (P := Tryd.prog) w #[3, 3] 3 .i64 .i64 fr 1
  rw [hfst] at hmax1
  have hf1 : 1 ≤ fst ∧ fst ≤ 9223372036854775807 := by omega
  have HFST := Lib.hid hfst; clear hfst
  go_enter Tryd.func20, Tryd.ntmps20
  (repeat' ((fail_if_success at_builtin); first | go_values | go_skip | go_guarded | go_step | go_upon))
  refine (pickAny m 151 w hm (by omega)).mono ?_
  rintro _ w0 ⟨rfl, rfl⟩
  dsimp only
  rw [HP1.out]
  (repeat' ((fail_if_success at_builtin); first | go_values | go_skip | go_guarded | go_step | go_upon))
  refine (oneNew w).mono ?_
  rintro _ w1 ⟨g, rfl, hL⟩
  dsimp only
  have HL := Lib.hid (hL annBA); clear hL
  (repeat' ((fail_if_success at_builtin); first | go_values | go_skip | go_guarded | go_step | go_upon))
  go_loopw [8] (fun i wr => ∃ k : Nat, k ≤ M ∧ i = .int .i64 k ∧ OneLog w g annBA (clks k) wr) (fun i _ => M - (intOf i).toNat)
  case atStart => exact ⟨0, by omega, rfl, HL.out⟩
  case round =>
    obtain ⟨k, hk, rfl, hL⟩ := hrel
    have HL := Lib.hid hL; clear hL
    by_cases hlt : k < M
    · have HF := Lib.hid (clk_fit (k : Int) ⟨by omega, by omega⟩)
      have hb2 := fun w => hbld w (k : Int)
      have HSN := Lib.hid (clks_snoc k)
      (repeat' ((fail_if_success at_builtin); first | go_values | go_skip | go_guarded | go_step | go_upon))
      change Calls _ _ #[_, _, .agg (clkEnt (k : Int)).cells.toArray] _ _
      refine (oneAdd w g annBA (clks k) (clkEnt (k : Int)) wr HL.out HT.out annBA_le (by rw [clks_length]; omega) HF.out).mono ?_
      rintro _ w2 ⟨⟨v, rfl⟩, hL2⟩
      dsimp only
      rw [HSN.out] at hL2
      have HL2 := Lib.hid hL2; clear hL2
      (repeat' ((fail_if_success at_builtin); first | go_values | go_skip | go_guarded | go_step | go_upon))
      go_roundw
      case rel => exact ⟨k + 1, by omega, by go_num, HL2.out⟩
      case measure => simp [intOf]; omega
    · have hkM : k = M := by omega
      subst hkM
      obtain ⟨S, f, h1, h2, h3, h4⟩ := HL.out.out
      rw [clks_length] at h1
      obtain ⟨xs, hxs⟩ : ∃ xs, addAll (clks k) = xs := ⟨_, rfl⟩
      rw [hxs] at h2
      have hxl : xs.length = k := by rw [← hxs, addAll_length, clks_length]
      have hget : ∀ (i : Nat) (hi : i < xs.length), xs[i].no = (i : Int) + 1 ∧ xs[i].clock = (i : Int) := fun i hi => by
        subst hxs
        have hi2 : i < (clks k).length := by rw [addAll_length] at hi; exact hi
        refine ⟨addAll_no _ i hi2 hi, ?_⟩
        rw [addAll_get _ i hi2 hi, clks_get]
        rfl
      have hlo : (toldLo xs.length fr : Int) = min (fst - 1) (k : Int) := by unfold toldLo; rw [← HFST.out, hxl]; omega
      have hN : (toldN xs.length fr n : Int) = min (min (max n 0) 64) ((k - toldLo xs.length fr : Nat) : Int) := by unfold toldN; rw [hxl]; omega
      have hsumt : ∀ x ∈ told xs fr n, x.sum.length = 32 := fun x hx => (h1.rows annBA x (by rw [h2]; exact told_mem hx)).ok.sum
      have HLOG := Lib.hid h1
      have HXL := Lib.hid hxl
      have HLN := Lib.hid (And.intro hlo hN)
      have HGET := Lib.hid hget
      have HF2 := Lib.hid h2
      have HSUM := Lib.hid hsumt
      have hB0 := h4
      clear h1 h2 h3 h4 hxl hlo hN hget hxs hsumt HL
      -- what is wanted
      by_cases hfk : fst ≤ (k : Int)
      · obtain ⟨W, hW⟩ : ∃ W, toldN xs.length fr n = W := ⟨_, rfl⟩
        have hWv : min (min (max n 0) 64) ((k : Int) - fst + 1) = (W : Int) := by
          have h1 := HLN.out.1
          have h2 := HLN.out.2
          rw [hW] at h2
          omega
        have HTL := Lib.hid (show (told xs fr n).length = W by rw [told_length, hW])
        have hmax2 := fun w => run_max2 (P := Tryd.prog) w #[3, 3] 3 .i64 .i64 n 0
        have hmin3 := fun w => run_min3 (P := Tryd.prog) w #[3, 3, 3] 3 .i64 .i64 .i64 (max n 0) 64 ((k : Int) - fst + 1)
        rw [hWv] at hmin3
        have hWb : W ≤ 64 := by omega
        clear hWv hW
        have t0 : decide (fst ≤ (k : Int)) = true := by simp; omega
        (repeat' ((fail_if_success at_builtin); first | go_values | go_skip | go_guarded | go_step | go_upon))
        refine (auditRows S g k f annBA fr n wr HLOG.out annBA_le (by omega) hfr hn).mono ?_
        rw [HF2.out]
        rintro _ w2 ⟨a2, c2, rfl, hc2, hm2, hr2, hB2, hO2⟩
        dsimp only
        rw [HTL.out] at hc2 ⊢
        have HR2 := Lib.hid hr2; clear hr2 hO2
        have hB02 : Below w.heap.size w w2 := hB0.trans (hB2.mono hB0.size)
        have tw : ((W : Int) != (W : Int)) = false := by simp
        (repeat' ((fail_if_success at_builtin); first | go_values | go_skip | go_guarded | go_step | go_upon))
        go_loopw [12] (fun i w' => ∃ j : Nat, j ≤ W ∧ i = .int .i64 j ∧ w' = w2) (fun i _ => W - (intOf i).toNat)
        case atStart => exact ⟨0, by omega, rfl, rfl⟩
        case round =>
          obtain ⟨j, hj, rfl, hw'⟩ := hrel
          subst hw'
          by_cases hlt : j < W
          · obtain ⟨b, off, hba, hra⟩ := ents_at HR2.out HSUM.out j (by rw [HTL.out]; exact hlt)
            obtain ⟨hjx, hjg⟩ := told_get xs fr n j (by rw [HTL.out]; exact hlt)
            obtain ⟨g1, g2⟩ := HGET.out _ hjx
            rw [← hjg] at g1 g2
            obtain ⟨q0, q1, _⟩ := ent_cell hra
            have e1 := HLN.out.1
            have HX := Lib.hid (And.intro g1 g2)
            have hno : ((told xs fr n)[j]'(by rw [HTL.out]; exact hlt)).no = fst + (j : Int) := by rw [HX.out.1]; omega
            have hck : ((told xs fr n)[j]'(by rw [HTL.out]; exact hlt)).clock = fst + (j : Int) - 1 := by rw [HX.out.2]; omega
            rw [hno] at q0
            rw [hck] at q1
            have t1 : ((fst + (j : Int)) != (fst + (j : Int))) = false := by simp
            have t2 : ((fst + (j : Int) - 1) != (fst + (j : Int) - 1)) = false := by simp
            have bk : (0 : Int) ≤ (j : Int) ∧ (j : Int) < ((W : Nat) : Int) := by omega
            have bf : fst + (j : Int) ≤ 100000 := by have := HXL.out; omega
            subst hba
            clear hno hck hjg g1 g2 e1 hra
            (repeat' ((fail_if_success at_builtin); first | go_values | go_skip | go_guarded | go_step | go_upon))
            go_roundw
            case rel => exact ⟨j + 1, by omega, by go_num, by trivial⟩
            case measure => simp [intOf]; omega
          · obtain rfl : j = W := by omega
            (repeat' ((fail_if_success at_builtin); first | go_values | go_skip | go_guarded | go_step | go_upon))
            refine (works21 _ (HT.out.below hB02 hts)).mono ?_
            rintro _ w3 ⟨rfl, hB3⟩
            dsimp only
            (repeat' ((fail_if_success at_builtin); first | go_values | go_skip | go_guarded | go_step | go_upon))
            go_ret
            exact ⟨rfl, hB02.trans (hB3.mono hB02.size)⟩
      · have hW : toldN xs.length fr n = 0 := by
          have h1 := HLN.out.1
          have h2 := HLN.out.2
          omega
        have HTL := Lib.hid (show (told xs fr n).length = 0 by rw [told_length, hW])
        clear hW
        have t0 : decide (fst ≤ (k : Int)) = false := by simp; omega
        (repeat' ((fail_if_success at_builtin); first | go_values | go_skip | go_guarded | go_step | go_upon))
        refine (auditRows S g k f annBA fr n wr HLOG.out annBA_le (by omega) hfr hn).mono ?_
        rw [HF2.out]
        rintro _ w2 ⟨a2, c2, rfl, hc2, hm2, hr2, hB2, hO2⟩
        dsimp only
        rw [HTL.out] at hc2 ⊢
        have HR2 := Lib.hid hr2; clear hr2 hO2
        have hB02 : Below w.heap.size w w2 := hB0.trans (hB2.mono hB0.size)
        have tw : (((0 : Nat) : Int) != 0) = false := rfl
        (repeat' ((fail_if_success at_builtin); first | go_values | go_skip | go_guarded | go_step | go_upon))
        go_loopw [12] (fun i w' => ∃ j : Nat, j ≤ 0 ∧ i = .int .i64 j ∧ w' = w2) (fun i _ => 0 - (intOf i).toNat)
        case atStart => exact ⟨0, by omega, rfl, rfl⟩
        case round =>
          obtain ⟨j, hj, rfl, hw'⟩ := hrel
          subst hw'
          by_cases hlt : j < 0
          · exact absurd hlt (Nat.not_lt_zero _)
          · obtain rfl : j = 0 := by omega
            (repeat' ((fail_if_success at_builtin); first | go_values | go_skip | go_guarded | go_step | go_upon))
            refine (works21 _ (HT.out.below hB02 hts)).mono ?_
            rintro _ w3 ⟨rfl, hB3⟩
            dsimp only
            (repeat' ((fail_if_success at_builtin); first | go_values | go_skip | go_guarded | go_step | go_upon))
            go_ret
            exact ⟨rfl, hB02.trans (hB3.mono hB02.size)⟩

end Go.Proofs.YtdpfemhfmofmlaaDoor
