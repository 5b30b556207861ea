/- The law AuditRowsTold, walked. -/
import Derived.Test.YtdpfemhfmofmlaaDoorWorks21
import Derived.Test.YtdpfemhfmofmlaaDoorChain21
import Derived.Test.YtdpfemhfmofmlaaDoorLaw21b
namespace Go.Proofs.YtdpfemhfmofmlaaDoor
set_option linter.unusedSimpArgs false
set_option linter.unusedVariables false
open Go.RowKit
set_option maxRecDepth 10000
--@PUT2

def annBA : ByteArray := ⟨#[97, 110, 110]⟩
theorem annBA_le : annBA.size ≤ maxLen := by unfold maxLen; decide

/-- While rows are added to one tenant's chain. -/
structure OneLog (w : World) (g : Nat) (s : ByteArray) (l : List Ent) (wr : World) : Prop where
  out : ∃ (S : Nat → Prop) (f : ByteArray → List Ent), LogAt wr S g l.length f ∧ f s = addAll l ∧ (∀ j, S j → w.heap.size ≤ j) ∧ Below w.heap.size w wr
theorem OneLog.below {w wr w' : World} {g : Nat} {s : ByteArray} {l : List Ent} (h : OneLog w g s l wr) (hb : Below wr.heap.size wr w') : OneLog w g s l w' := by
  obtain ⟨S, f, h1, h2, h3, h4⟩ := h.out
  exact ⟨⟨S, f, h1.below hb, h2, h3, h4.trans (hb.mono h4.size)⟩⟩
theorem oneAdd (w : World) (g : Nat) (s : ByteArray) (l : List Ent) (x : Ent) (wr : World) (h : OneLog w g s l wr) (hT : Tabs w) (hs : s.size ≤ maxLen) (hl : l.length ≤ 100000) (hx : x.Fit) :
    Calls Tryd.prog 72 #[.pointer (some ⟨g, 0, none⟩), .string s, .agg x.cells.toArray] wr fun e w' => (∃ v, e = .returned v) ∧ OneLog w g s (l ++ [x]) w' := by
  obtain ⟨S, f, h1, h2, h3, h4⟩ := h.out
  refine (auditAdd S g l.length f s x _ wr h1 (hT.below h4 hT.size) hs hl hx rfl).mono ?_
  rintro _ w' ⟨rfl, hL, hF⟩
  refine ⟨⟨_, rfl⟩, ⟨⟨_, _, (by rw [List.length_append]; exact hL), (by rw [lput_same, h2, addAll_snoc]), ?_, h4.trans (hF.belowOf h4.size (fun k hk => h3 k hk))⟩⟩⟩
  rintro j (hj | hj)
  · exact h3 j hj
  · have := h4.size; omega
theorem oneNew (w : World) : Calls Tryd.prog 71 #[] w fun e w' => ∃ g, e = .returned (.pointer (some ⟨g, 0, none⟩)) ∧ ∀ s, OneLog w g s [] w' := by
  refine (auditNew w).mono ?_
  rintro _ w' ⟨g, rfl, hL, hB⟩
  exact ⟨g, rfl, fun s => ⟨⟨_, _, hL, rfl, fun j hj => hj.1, hB⟩⟩⟩

def clkEnt (i : Int) : Ent := { zEnt with clock := i }
def clks (n : Nat) : List Ent := (List.range n).map fun (i : Nat) => clkEnt (i : Int)
theorem clks_length (n : Nat) : (clks n).length = n := by simp [clks]
theorem clks_snoc (n : Nat) : clks n ++ [clkEnt n] = clks (n + 1) := by simp [clks, List.range_succ]
theorem clks_get (n i : Nat) (hi : i < (clks n).length) : (clks n)[i] = clkEnt i := by simp [clks]
theorem zEnt_fit : zEnt.Fit := ⟨⟨by unfold I64; decide, by unfold I64; decide, by unfold I64; decide, by unfold I64; decide, by unfold I64; decide, by unfold maxLen; decide, by unfold maxLen; decide, rfl⟩, by decide, by decide⟩
theorem clk_fit (i : Int) (h : I64 i) : (clkEnt i).Fit := ⟨⟨zEnt_fit.ok.no, h, zEnt_fit.ok.kind, zEnt_fit.ok.code, zEnt_fit.ok.id, zEnt_fit.ok.stream, zEnt_fit.ok.subject, zEnt_fit.ok.sum⟩, zEnt_fit.str, zEnt_fit.sub⟩

set_option maxHeartbeats 4000000 in
theorem auditRowsTold_walk (m fr n : Int) (w : World) (hT : Tabs w) (hm : I64 m) (hfr : I64 fr) (hn : I64 n) :
    Calls Tryd.prog 20 #[.int .i64 m, .int .i64 fr, .int .i64 n] w fun e w' => e = .returned (.bool true) ∧ Below w.heap.size w w' := by
  have hts := hT.size
  have HT := Lib.hid hT; clear hT
  have b1 := pick_lt m 151 (by omega)
  obtain ⟨p1, hp1⟩ : ∃ p, pick m 151 = p := ⟨_, rfl⟩
  rw [hp1] at b1
  obtain ⟨M, hM⟩ : ∃ M : Nat, p1 = (M : Int) := ⟨p1.toNat, by omega⟩
  subst hM
  have HP1 := Lib.hid hp1; clear hp1
  have hM2 : M ≤ 150 := by omega
  have hbld : ∀ (w : World) (v : Int), (Instr.build 73 #[(1, .int .i64 v)]).run Tryd.prog w = .ok (.agg (clkEnt v).cells.toArray) w := fun w v => by kernel_rfl
  have hfr1 := hfr.1
  have hfr2 := hfr.2
  obtain ⟨fst, hfst⟩ : ∃ fst, max fr 1 = fst := ⟨_, rfl⟩
  have hmax1 := fun w => run_max2 (P := Tryd.prog) w #[3, 3] 3 .i64 .i64 fr 1
  rw [hfst] at hmax1
  have hf1 : 1 ≤ fst ∧ fst ≤ 9223372036854775807 := by omega
  have HFST := Lib.hid hfst; clear hfst
  go_enter Tryd.func20, Tryd.ntmps20
  (repeat' ((fail_if_success at_builtin); first | go_values | go_skip | go_guarded | go_step | go_upon))
  refine (pickAny m 151 w hm (by omega)).mono ?_
  rintro _ w0 ⟨rfl, rfl⟩
  dsimp only
  rw [HP1.out]
  (repeat' ((fail_if_success at_builtin); first | go_values | go_skip | go_guarded | go_step | go_upon))
  refine (oneNew w).mono ?_
  rintro _ w1 ⟨g, rfl, hL⟩
  dsimp only
  have HL := Lib.hid (hL annBA); clear hL
  (repeat' ((fail_if_success at_builtin); first | go_values | go_skip | go_guarded | go_step | go_upon))
  go_loopw [8] (fun i wr => ∃ k : Nat, k ≤ M ∧ i = .int .i64 k ∧ OneLog w g annBA (clks k) wr) (fun i _ => M - (intOf i).toNat)
  case atStart => exact ⟨0, by omega, rfl, HL.out⟩
  case round =>
    obtain ⟨k, hk, rfl, hL⟩ := hrel
    have HL := Lib.hid hL; clear hL
    by_cases hlt : k < M
    · have HF := Lib.hid (clk_fit (k : Int) ⟨by omega, by omega⟩)
      have hb2 := fun w => hbld w (k : Int)
      have HSN := Lib.hid (clks_snoc k)
      (repeat' ((fail_if_success at_builtin); first | go_values | go_skip | go_guarded | go_step | go_upon))
      change Calls _ _ #[_, _, .agg (clkEnt (k : Int)).cells.toArray] _ _
      refine (oneAdd w g annBA (clks k) (clkEnt (k : Int)) wr HL.out HT.out annBA_le (by rw [clks_length]; omega) HF.out).mono ?_
      rintro _ w2 ⟨⟨v, rfl⟩, hL2⟩
      dsimp only
      rw [HSN.out] at hL2
      have HL2 := Lib.hid hL2; clear hL2
      (repeat' ((fail_if_success at_builtin); first | go_values | go_skip | go_guarded | go_step | go_upon))
      go_roundw
      case rel => exact ⟨k + 1, by omega, by go_num, HL2.out⟩
      case measure => simp [intOf]; omega
    · have hkM : k = M := by omega
      subst hkM
      obtain ⟨S, f, h1, h2, h3, h4⟩ := HL.out.out
      rw [clks_length] at h1
      obtain ⟨xs, hxs⟩ : ∃ xs, addAll (clks k) = xs := ⟨_, rfl⟩
      rw [hxs] at h2
      have hxl : xs.length = k := by rw [← hxs, addAll_length, clks_length]
      have hget : ∀ (i : Nat) (hi : i < xs.length), xs[i].no = (i : Int) + 1 ∧ xs[i].clock = (i : Int) := fun i hi => by
        subst hxs
        have hi2 : i < (clks k).length := by rw [addAll_length] at hi; exact hi
        refine ⟨addAll_no _ i hi2 hi, ?_⟩
        rw [addAll_get _ i hi2 hi, clks_get]
        rfl
      have hlo : (toldLo xs.length fr : Int) = min (fst - 1) (k : Int) := by unfold toldLo; rw [← HFST.out, hxl]; omega
      have hN : (toldN xs.length fr n : Int) = min (min (max n 0) 64) ((k - toldLo xs.length fr : Nat) : Int) := by unfold toldN; rw [hxl]; omega
      have hsumt : ∀ x ∈ told xs fr n, x.sum.length = 32 := fun x hx => (h1.rows annBA x (by rw [h2]; exact told_mem hx)).ok.sum
      have HLOG := Lib.hid h1
      have HXL := Lib.hid hxl
      have HLN := Lib.hid (And.intro hlo hN)
      have HGET := Lib.hid hget
      have HF2 := Lib.hid h2
      have HSUM := Lib.hid hsumt
      have hB0 := h4
      clear h1 h2 h3 h4 hxl hlo hN hget hxs hsumt HL
      -- what is wanted
      by_cases hfk : fst ≤ (k : Int)
      · obtain ⟨W, hW⟩ : ∃ W, toldN xs.length fr n = W := ⟨_, rfl⟩
        have hWv : min (min (max n 0) 64) ((k : Int) - fst + 1) = (W : Int) := by
          have h1 := HLN.out.1
          have h2 := HLN.out.2
          rw [hW] at h2
          omega
        have HTL := Lib.hid (show (told xs fr n).length = W by rw [told_length, hW])
        have hmax2 := fun w => run_max2 (P := Tryd.prog) w #[3, 3] 3 .i64 .i64 n 0
        have hmin3 := fun w => run_min3 (P := Tryd.prog) w #[3, 3, 3] 3 .i64 .i64 .i64 (max n 0) 64 ((k : Int) - fst + 1)
        rw [hWv] at hmin3
        have hWb : W ≤ 64 := by omega
        clear hWv hW
        have t0 : decide (fst ≤ (k : Int)) = true := by simp; omega
        (repeat' ((fail_if_success at_builtin); first | go_values | go_skip | go_guarded | go_step | go_upon))
        refine (auditRows S g k f annBA fr n wr HLOG.out annBA_le (by omega) hfr hn).mono ?_
        rw [HF2.out]
        rintro _ w2 ⟨a2, c2, rfl, hc2, hm2, hr2, hB2, hO2⟩
        dsimp only
        rw [HTL.out] at hc2 ⊢
        have HR2 := Lib.hid hr2; clear hr2 hO2
        have hB02 : Below w.heap.size w w2 := hB0.trans (hB2.mono hB0.size)
        have tw : ((W : Int) != (W : Int)) = false := by simp
        (repeat' ((fail_if_success at_builtin); first | go_values | go_skip | go_guarded | go_step | go_upon))
        go_loopw [12] (fun i w' => ∃ j : Nat, j ≤ W ∧ i = .int .i64 j ∧ w' = w2) (fun i _ => W - (intOf i).toNat)
        case atStart => exact ⟨0, by omega, rfl, rfl⟩
        case round =>
          obtain ⟨j, hj, rfl, hw'⟩ := hrel
          subst hw'
          by_cases hlt : j < W
          · obtain ⟨b, off, hba, hra⟩ := ents_at HR2.out HSUM.out j (by rw [HTL.out]; exact hlt)
            obtain ⟨hjx, hjg⟩ := told_get xs fr n j (by rw [HTL.out]; exact hlt)
            obtain ⟨g1, g2⟩ := HGET.out _ hjx
            rw [← hjg] at g1 g2
            obtain ⟨q0, q1, _⟩ := ent_cell hra
            have e1 := HLN.out.1
            have HX := Lib.hid (And.intro g1 g2)
            have hno : ((told xs fr n)[j]'(by rw [HTL.out]; exact hlt)).no = fst + (j : Int) := by rw [HX.out.1]; omega
            have hck : ((told xs fr n)[j]'(by rw [HTL.out]; exact hlt)).clock = fst + (j : Int) - 1 := by rw [HX.out.2]; omega
            rw [hno] at q0
            rw [hck] at q1
            have t1 : ((fst + (j : Int)) != (fst + (j : Int))) = false := by simp
            have t2 : ((fst + (j : Int) - 1) != (fst + (j : Int) - 1)) = false := by simp
            have bk : (0 : Int) ≤ (j : Int) ∧ (j : Int) < ((W : Nat) : Int) := by omega
            have bf : fst + (j : Int) ≤ 100000 := by have := HXL.out; omega
            subst hba
            clear hno hck hjg g1 g2 e1 hra
            (repeat' ((fail_if_success at_builtin); first | go_values | go_skip | go_guarded | go_step | go_upon))
            go_roundw
            case rel => exact ⟨j + 1, by omega, by go_num, by trivial⟩
            case measure => simp [intOf]; omega
          · obtain rfl : j = W := by omega
            (repeat' ((fail_if_success at_builtin); first | go_values | go_skip | go_guarded | go_step | go_upon))
            refine (works21 _ (HT.out.below hB02 hts)).mono ?_
            rintro _ w3 ⟨rfl, hB3⟩
            dsimp only
            (repeat' ((fail_if_success at_builtin); first | go_values | go_skip | go_guarded | go_step | go_upon))
            go_ret
            exact ⟨rfl, hB02.trans (hB3.mono hB02.size)⟩
      · have hW : toldN xs.length fr n = 0 := by
          have h1 := HLN.out.1
          have h2 := HLN.out.2
          omega
        have HTL := Lib.hid (show (told xs fr n).length = 0 by rw [told_length, hW])
        clear hW
        have t0 : decide (fst ≤ (k : Int)) = false := by simp; omega
        (repeat' ((fail_if_success at_builtin); first | go_values | go_skip | go_guarded | go_step | go_upon))
        refine (auditRows S g k f annBA fr n wr HLOG.out annBA_le (by omega) hfr hn).mono ?_
        rw [HF2.out]
        rintro _ w2 ⟨a2, c2, rfl, hc2, hm2, hr2, hB2, hO2⟩
        dsimp only
        rw [HTL.out] at hc2 ⊢
        have HR2 := Lib.hid hr2; clear hr2 hO2
        have hB02 : Below w.heap.size w w2 := hB0.trans (hB2.mono hB0.size)
        have tw : (((0 : Nat) : Int) != 0) = false := rfl
        (repeat' ((fail_if_success at_builtin); first | go_values | go_skip | go_guarded | go_step | go_upon))
        go_loopw [12] (fun i w' => ∃ j : Nat, j ≤ 0 ∧ i = .int .i64 j ∧ w' = w2) (fun i _ => 0 - (intOf i).toNat)
        case atStart => exact ⟨0, by omega, rfl, rfl⟩
        case round =>
          obtain ⟨j, hj, rfl, hw'⟩ := hrel
          subst hw'
          by_cases hlt : j < 0
          · exact absurd hlt (Nat.not_lt_zero _)
          · obtain rfl : j = 0 := by omega
            (repeat' ((fail_if_success at_builtin); first | go_values | go_skip | go_guarded | go_step | go_upon))
            refine (works21 _ (HT.out.below hB02 hts)).mono ?_
            rintro _ w3 ⟨rfl, hB3⟩
            dsimp only
            (repeat' ((fail_if_success at_builtin); first | go_values | go_skip | go_guarded | go_step | go_upon))
            go_ret
            exact ⟨rfl, hB02.trans (hB3.mono hB02.size)⟩

end Go.Proofs.YtdpfemhfmofmlaaDoor

namespace Go.Proofs.YtdpfemhfmofmlaaDoor
set_option linter.unusedSimpArgs false
set_option linter.unusedVariables false
open Go.RowKit
set_option maxRecDepth 10000

theorem ox_ents {H : Type} {enc : TypeId × Value → H} {w : World} {fuel : Nat} {cs : List Value} {y : DataW H × List MemPlace} (h : Reads enc Tryd.prog w fuel 68 cs y) :
    ∃ (a : Option Addr) (n c : Nat) (xs : List Ent), cs = [.slice a n c] ∧ xs.length = n ∧ n ≤ c ∧ c ≤ maxLen ∧ RdC w a (xs.flatMap Ent.cells) ∧ ∀ x ∈ xs, x.Ok := by
  obtain ⟨a, n, c, xs, h1, h2, h3, h4, h5, _⟩ := ox_slice (τ := { x : Ent // x.Ok }) (size := 39) (by omega) Tryd.underlying68 (by kernel_rfl) (fun x => x.1.cells) (fun _ => True) (fun x => Ent.cells_length x.2.sum)
    (fun _ _ _ hh => by obtain ⟨x, e, hx⟩ := ox_ent hh; exact ⟨⟨x, hx⟩, e, trivial⟩) h
  refine ⟨a, n, c, xs.map (·.1), h1, by simpa using h2, h3, h4, by rw [List.flatMap_map]; exact h5, fun x hx => ?_⟩
  obtain ⟨z, _, rfl⟩ := List.mem_map.1 hx
  exact z.2

/-- A step: a row for a tenant, and what is told then. -/
structure Rw where
  tenant : ByteArray
  e : Ent
  fr : Int
  many : Int
def Rw.cells (r : Rw) : List Value := .string r.tenant :: (r.e.cells ++ [.int .i64 r.fr, .int .i64 r.many])
structure Rw.Ok (r : Rw) : Prop where
  tenant : r.tenant.size ≤ maxLen
  e : r.e.Ok
  fr : I64 r.fr
  many : I64 r.many
theorem Rw.cells_length {r : Rw} (h : r.e.sum.length = 32) : r.cells.length = 42 := by
  unfold Rw.cells; rw [List.length_cons, List.length_append, Ent.cells_length h]; rfl
theorem ox_rw {H : Type} {enc : TypeId × Value → H} {w : World} {fuel : Nat} {cs : List Value} {y : DataW H × List MemPlace} (h : Reads enc Tryd.prog w fuel 89 cs y) : ∃ x : Rw, cs = x.cells ∧ x.Ok := by
  obtain ⟨hl, n, hf⟩ := ox_struct Tryd.underlying89 h
  have hl' : cs.length = 42 := by rw [hl]; kernel_rfl
  obtain ⟨y0, h0⟩ := hf 0 _ rfl
  obtain ⟨y1, h1⟩ := hf 1 _ rfl
  obtain ⟨y2, h2⟩ := hf 2 _ rfl
  obtain ⟨y3, h3⟩ := hf 3 _ rfl
  obtain ⟨t0, e0, m0⟩ := ox_str Tryd.underlying9 h0
  obtain ⟨v1, e1, m1⟩ := ox_ent h1
  obtain ⟨v2, e2, m2⟩ := ox_int Tryd.underlying3 h2
  obtain ⟨v3, e3, m3⟩ := ox_int Tryd.underlying3 h3
  have c3 : Tryd.prog.cellsOf 3 = 1 := by kernel_rfl
  have cE : Tryd.prog.cellsOf 73 = 39 := by kernel_rfl
  have c9 : Tryd.prog.cellsOf 9 = 1 := by kernel_rfl
  have e0' : (cs.drop 0).take 1 = [.string t0] := by rw [← c9]; exact e0
  have e1' : (cs.drop 1).take 39 = v1.cells := by rw [← cE]; exact e1
  have e2' : (cs.drop 40).take 1 = [.int .i64 v2] := by rw [← c3]; exact e2
  have e3' : (cs.drop 41).take 1 = [.int .i64 v3] := by rw [← c3]; exact e3
  refine ⟨⟨t0, v1, v2, v3⟩, ?_, ⟨m0, m1, m2, m3⟩⟩
  unfold Rw.cells
  have hd : cs = cs.drop 0 := rfl
  rw [hd, peel cs 0 1, peel cs (0 + 1) 39, peel cs (0 + 1 + 39) 1, peel_end cs (0 + 1 + 39 + 1) 1 (by omega), e0', e1', e2', e3']
  rfl
theorem ox_rws {H : Type} {enc : TypeId × Value → H} {w : World} {fuel : Nat} {cs : List Value} {y : DataW H × List MemPlace} (h : Reads enc Tryd.prog w fuel 85 cs y) :
    ∃ (a : Option Addr) (n c : Nat) (xs : List Rw), cs = [.slice a n c] ∧ xs.length = n ∧ n ≤ c ∧ c ≤ maxLen ∧ RdC w a (xs.flatMap Rw.cells) ∧ ∀ x ∈ xs, x.Ok := by
  obtain ⟨a, n, c, xs, h1, h2, h3, h4, h5, _⟩ := ox_slice (τ := { x : Rw // x.Ok }) (size := 42) (by omega) Tryd.underlying85 (by kernel_rfl) (fun x => x.1.cells) (fun _ => True) (fun x => Rw.cells_length x.2.e.sum)
    (fun _ _ _ hh => by obtain ⟨x, e, hx⟩ := ox_rw hh; exact ⟨⟨x, hx⟩, e, trivial⟩) h
  refine ⟨a, n, c, xs.map (·.1), h1, by simpa using h2, h3, h4, by rw [List.flatMap_map]; exact h5, fun x hx => ?_⟩
  obtain ⟨z, _, rfl⟩ := List.mem_map.1 hx
  exact z.2

theorem rws_length (xs : List Rw) (hok : ∀ x ∈ xs, x.e.sum.length = 32) : (xs.flatMap Rw.cells).length = xs.length * 42 := by
  induction xs with
  | nil => simp
  | cons x xs ih => rw [List.flatMap_cons, List.length_append, ih (fun y hy => hok y (List.mem_cons_of_mem _ hy)), Rw.cells_length (hok x List.mem_cons_self), List.length_cons, Nat.add_mul]; omega
theorem rws_get : ∀ (xs : List Rw), (∀ x ∈ xs, x.e.sum.length = 32) → ∀ (k : Nat) (hk : k < xs.length) (j : Nat), j < 42 → (xs.flatMap Rw.cells)[k * 42 + j]? = xs[k].cells[j]?
  | [], _, k, hk, _, _ => by simp at hk
  | x :: xs, hok, 0, _, j, hj => by
    rw [List.flatMap_cons, List.getElem?_append_left (by rw [Rw.cells_length (hok x List.mem_cons_self)]; omega)]
    simp
  | x :: xs, hok, k + 1, hk, j, hj => by
    have h1 := Rw.cells_length (hok x List.mem_cons_self)
    rw [List.flatMap_cons, List.getElem?_append_right (by rw [h1]; omega), h1, show (k + 1) * 42 + j - 42 = k * 42 + j by omega, rws_get xs (fun y hy => hok y (List.mem_cons_of_mem _ hy)) k (by simpa using hk) j hj]
    simp
theorem rws_at {w : World} {a : Option Addr} {xs : List Rw} (h : RdC w a (xs.flatMap Rw.cells)) (hok : ∀ x ∈ xs, x.e.sum.length = 32) (k : Nat) (hk : k < xs.length) : ∃ b off, a = some ⟨b, off, none⟩ ∧
    w.rangeAt b (off + k * 42) (xs[k].cells) ∧ w.cell? ⟨b, off + k * 42, none⟩ = some (.string xs[k].tenant) ∧ w.rangeAt b (off + k * 42 + 1) xs[k].e.cells ∧ w.cell? ⟨b, off + k * 42 + 40, none⟩ = some (.int .i64 xs[k].fr) ∧ w.cell? ⟨b, off + k * 42 + 41, none⟩ = some (.int .i64 xs[k].many) := by
  have hl := rws_length xs hok
  have hx := hok xs[k] (List.getElem_mem hk)
  have hel := Ent.cells_length hx
  have hcl := Rw.cells_length hx
  obtain ⟨b, off, rfl, _⟩ := h.lt (by rw [hl]; omega)
  have hr : w.rangeAt b (off + k * 42) (xs[k].cells) := fun j v hj => by
    have hj' : j < 42 := by rw [← hcl]; exact (List.getElem?_eq_some_iff.1 hj).1
    have := h.cell (k * 42 + j) (by rw [hl]; omega)
    rw [Nat.add_assoc, this, ← hj, ← List.getElem?_eq_getElem]
    exact rws_get xs hok k hk j hj'
  refine ⟨b, off, rfl, hr, hr 0 _ rfl, fun j v hj => ?_, hr 40 _ ?_, hr 41 _ ?_⟩
  · have hj' : j < 39 := by rw [← hel]; exact (List.getElem?_eq_some_iff.1 hj).1
    have := hr (j + 1) v (by unfold Rw.cells; rw [List.getElem?_cons_succ, List.getElem?_append_left (by rw [hel]; omega)]; exact hj)
    rw [show off + k * 42 + 1 + j = off + k * 42 + (j + 1) by omega]
    exact this
  · unfold Rw.cells; rw [List.getElem?_cons_succ, List.getElem?_append_right (by rw [hel]; omega), hel]; rfl
  · unfold Rw.cells; rw [List.getElem?_cons_succ, List.getElem?_append_right (by rw [hel]; omega), hel]; rfl

end Go.Proofs.YtdpfemhfmofmlaaDoor

namespace Go.Proofs.YtdpfemhfmofmlaaDoor
set_option linter.unusedSimpArgs false
set_option linter.unusedVariables false
open Go.RowKit
set_option maxRecDepth 10000

theorem run_slice_toS {P : Program} (t e : TypeId) (size : Nat) (hu : P.underlying t = some (.slice e)) (hsz : (P.info? e).map (·.size) = some size) (a : Option Addr) (n c q : Nat) (hq : q ≤ c) (w : World) :
    (Instr.slice t (.slice a n c) none (some (.int .i64 (q : Int))) none).run P w = .ok (.slice a q c) w := by
  cases hi : P.info? e with
  | none => simp [hi] at hsz
  | some z =>
    have hz : z.size = size := by simpa [hi] using hsz
    have h1 : (0 : Int) ≤ (q : Int) ∧ (q : Int) ≤ (c : Int) := by omega
    have h0 : ∀ x : Addr, x.add 0 = x := fun x => by cases x; rename_i b o s; cases s <;> simp [Addr.add]
    have h2 : a.map (fun x => x.add 0) = a := by cases a <;> simp [h0]
    simp [Instr.slice, Instr.sliceBounds, Instr.sliceBound, asIntOf, run_underlying hu, sizeOf, typeInfo, hi, hz, hq, h0, h2]

theorem row_facts (xs : List Ent) (k : Nat) (hk : k < xs.length) (hk' : k < (addAll xs).length) :
    ({ xs[k] with no := (k : Int) + 1, sum := ((addAll xs)[k]).sum } : Ent) = (addAll xs)[k] ∧ wdig ((addAll xs)[k].bytes (headOf ((addAll xs).take k))) = ((addAll xs)[k]).sum ∧ headOf ((addAll xs).take (k + 1)) = ((addAll xs)[k]).sum := by
  have h1 := addAll_get xs k hk hk'
  have hl : (addAll (xs.take k)).length = k := by rw [addAll_length, List.length_take]; omega
  refine ⟨?_, ?_, ?_⟩
  · rw [h1]; unfold rowOf; rw [hl]
  · rw [h1, addAll_take xs k (by omega)]; rfl
  · rw [List.take_succ_eq_append_getElem hk', headOf_snoc]

abbrev HolS (wb : World) (b3 o3 z10 z8 : Nat) (R : Ent) (P : List UInt8) (w' : World) : Prop :=
  (w'.rangeAt b3 o3 R.cells ∧ w'.rangeAt z10 0 R.cells ∧ w'.rangeAt z8 0 (bvs P) ∧ w'.rangeAt z10 7 (bvs R.sum)) ∧ Below wb.heap.size wb w'
theorem holS_below {wb w1 w2 : World} {b3 o3 z10 z8 : Nat} {R : Ent} {P : List UInt8} (h : HolS wb b3 o3 z10 z8 R P w1) (hb : Below w1.heap.size w1 w2) : HolS wb b3 o3 z10 z8 R P w2 :=
  ⟨⟨rangeAt_below h.1.1 hb (Nat.le_refl _), rangeAt_below h.1.2.1 hb (Nat.le_refl _), rangeAt_below h.1.2.2.1 hb (Nat.le_refl _), rangeAt_below h.1.2.2.2 hb (Nat.le_refl _)⟩, h.2.trans (hb.mono h.2.size)⟩

/-- While the rows are gone through: the digest ahead of the next one. -/
structure HolI (wz : World) (z8 : Nat) (P : List UInt8) (wr : World) : Prop where
  cell : wr.heap[z8]? = some (.cells (bvs P).toArray 26 (0, 0))
  blw : Below z8 wz wr

theorem verify_yes (xs : List Ent) (K : Nat) (hK : K ≤ xs.length) : verify ((addAll xs).take K) (headOf ((addAll xs).take K)) = (0, 0) := by
  rw [addAll_take xs K hK, verify_all, if_pos rfl]
theorem verify_no (xs : List Ent) (K : Nat) (hK : K ≤ xs.length) (H : List UInt8) (hH : headOf ((addAll xs).take K) ≠ H) : verify ((addAll xs).take K) H = (K + 1, 24) := by
  rw [addAll_take xs K hK] at hH ⊢
  rw [verify_all, if_neg hH, List.length_take]
  simp [Nat.min_eq_left hK]

theorem rdc_take {w : World} {a : Option Addr} {l : List Value} (h : RdC w a l) (k : Nat) : RdC w a (l.take k) := by
  refine ⟨fun i hi => ?_⟩
  have hi' : i < l.length := by rw [List.length_take] at hi; omega
  obtain ⟨b, off, e, hc⟩ := h.at_ i hi'
  exact ⟨b, off, e, by rw [hc, List.getElem?_take, if_pos (by rw [List.length_take] at hi; omega)]⟩
abbrev Hol2 (wb : World) (z : Nat) (P : List UInt8) (w' : World) : Prop := w'.rangeAt z 0 (bvs P) ∧ Below wb.heap.size wb w'
theorem hol2_below {wb w1 w2 : World} {z : Nat} {P : List UInt8} (h : Hol2 wb z P w1) (hb : Below w1.heap.size w1 w2) : Hol2 wb z P w2 :=
  ⟨rangeAt_below h.1 hb (Nat.le_refl _), h.2.trans (hb.mono h.2.size)⟩

def xor1 (y : UInt8) : UInt8 := y ^^^ 1
def flip0 (l : List UInt8) : List UInt8 := match l with | [] => [] | y :: t => xor1 y :: t
theorem flip0_ne {l : List UInt8} (h : l.length = 32) : l ≠ flip0 l := by
  match l with
  | [] => simp at h
  | y :: t =>
    intro e
    have e1 : y = y ^^^ 1 := by
      have e0 : y :: t = xor1 y :: t := e
      injection e0
    have e2 : y.toBitVec = y.toBitVec ^^^ 1#8 := congrArg UInt8.toBitVec e1
    have e3 := congrArg (fun b => b.getLsbD 0) e2
    simp at e3
theorem flip0_length (l : List UInt8) : (flip0 l).length = l.length := by cases l <;> rfl
theorem xor_one (y : UInt8) : bits .xor .u8 (y.toNat : Int) 1 = ((xor1 y).toNat : Int) := by
  unfold xor1
  have h1 : (BitVec.ofInt 8 (y.toNat : Int)) = y.toBitVec := by rw [BitVec.ofInt_natCast]; apply BitVec.eq_of_toNat_eq; rw [BitVec.toNat_ofNat]; exact Nat.mod_eq_of_lt y.toNat_lt
  show IntKind.u8.wrap ((BitVec.ofInt 8 (y.toNat : Int) ^^^ BitVec.ofInt 8 1).toNat : Int) = _
  rw [h1, IntKind.wrap_u8]
  have := (y ^^^ 1).toNat_lt
  have e : (y.toBitVec ^^^ BitVec.ofInt 8 1).toNat = (y ^^^ 1).toNat := rfl
  rw [e]
  omega

end Go.Proofs.YtdpfemhfmofmlaaDoor
