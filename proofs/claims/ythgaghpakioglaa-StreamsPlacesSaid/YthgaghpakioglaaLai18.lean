/- laid (sealerylaw18), walked. -/
import Derived.Test.YthgaghpakioglaaOp18
import Derived.Test.YthgaghpakioglaaSam18
namespace Go.Proofs.Ythgaghpakioglaa
open Go.RowKit
set_option linter.unusedSimpArgs false
set_option linter.unusedVariables false
set_option maxRecDepth 10000
--@PUT2

def stepS (φ : ByteArray → List EvS) (o : Op18) : ByteArray → List EvS := if (φ o.t).length + o.sn ≤ 1000 then putS φ o.t (appS o.st o.su o.us (φ o.t) 0 (o.ps.map (·.l))) else φ
def layS (os : List Op18) : ByteArray → List EvS := os.foldl stepS (fun _ => [])
theorem layS_snoc (os : List Op18) (o : Op18) : layS (os ++ [o]) = stepS (layS os) o := by unfold layS; rw [List.foldl_append]; rfl
theorem frm_below {w0 w wq : World} {F : Nat → Prop} (hB : Below w0.heap.size w0 w) (hF : ∀ k, F k → w0.heap.size ≤ k) (hq : Frm w.heap.size F w wq) : Below w0.heap.size w0 wq :=
  hB.trans ⟨hq.os, hq.tape, hq.output, hq.size, fun k hk => hq.block k (by have := hB.size; omega) (fun h => by have := hF k h; omega)⟩
theorem appendOp {w0 w : World} {F : Nat → Prop} {g cnt : Nat} {φ : ByteArray → List EvS} (h : StrS w F g cnt φ) (o : Op18) (hok : o.Ok w0) (hB : Below w0.heap.size w0 w) (hF : ∀ k, F k → w0.heap.size ≤ k) (hcnt : cnt ≤ 1000000) :
    Calls Try.prog 11 #[.pointer (some ⟨g, 0, none⟩), .string o.t, .string o.st, .string o.su, .int .i64 o.us, .slice o.sa o.sn o.sc] w fun e w' => ∃ v F', e = .returned v ∧ StrS w' F' g (cnt + 1) (stepS φ o) ∧ (∀ k, F' k → w0.heap.size ≤ k) ∧ Below w0.heap.size w0 w' := by
  have hs := hB.size
  have hmx : o.sn ≤ maxLen := Nat.le_trans hok.fits hok.max
  unfold maxLen at hmx
  by_cases hb : (φ o.t).length + o.sn ≤ 1000
  · refine (appendS h o.t o.st o.su o.us o.sa o.sn o.sc o.ps hok.t ⟨hok.st, hok.su⟩ hok.us (fun wq hq => hok.ps.belowB (frm_below hB hF hq) (Nat.le_refl _)) hok.len hok.fits hcnt hb).mono ?_
    rintro e w' ⟨a', c', F', rfl, k1, k2, k3, k4, k5, k6⟩
    refine ⟨_, F', rfl, by unfold stepS; rw [if_pos hb]; exact k2, fun k hk => ?_, frm_below hB hF k6⟩
    rcases k4 k hk with h1 | h1
    · exact hF k h1
    · omega
  · refine (appendNoS h o.t o.st o.su o.us o.sa o.sn o.sc hok.t hok.fits hmx (by omega)).mono ?_
    rintro e w' ⟨rfl, k1, k2⟩
    exact ⟨_, F, rfl, by unfold stepS; rw [if_neg hb]; exact k1.more (Nat.le_succ _), hF, hB.trans (k2.mono hs)⟩

/-- What laid leaves behind k rounds. -/
def LaidI (w : World) (os : List Op18) (k g : Nat) (wr : World) : Prop := ∃ F, StrS wr F g k (layS (os.take k)) ∧ (∀ j, F j → w.heap.size ≤ j) ∧ Below w.heap.size w wr

set_option maxHeartbeats 4000000 in
theorem laidOps (a : Option Addr) (n c : Nat) (os : List Op18) (w : World) (h : Ops18 w a os) (hl : os.length = n) (hn : n ≤ 9223372036854775807) :
    Calls Try.prog 17 #[.slice a n c] w fun e w' => ∃ g k, e = .returned (.pointer (some ⟨g, 0, none⟩)) ∧ k ≤ 100 ∧ os.take k = os.take 100 ∧ LaidI w os k g w' := by
  have HO := Lib.hid h
  clear h
  go_enter Try.func17, Try.ntmps17
  (repeat' ((fail_if_success at_builtin); first | go_values | go_skip | go_guarded | go_step | go_upon))
  refine (newS w).mono ?_
  rintro _ w1 ⟨g, F1, rfl, hS1, hF1, hB1⟩
  have hI1 : LaidI w os 0 g w1 := ⟨F1, hS1, hF1, hB1⟩
  have HI1 := Lib.hid hI1
  clear hS1 hF1 hI1
  dsimp only
  (repeat' ((fail_if_success at_builtin); first | go_values | go_skip | go_guarded | go_step | go_upon))
  go_loopw [4] (fun i wr => ∃ k : Nat, i = .int .i64 (k : Int) ∧ k ≤ n ∧ k ≤ 100 ∧ LaidI w os k g wr) (fun i _ => 100 - (intOf i).toNat)
  case atStart => exact ⟨0, rfl, Nat.zero_le _, Nat.zero_le _, HI1.out⟩
  case round =>
    obtain ⟨k, rfl, hkn, hk, hI⟩ := hrel
    have HI := Lib.hid hI
    clear hI
    by_cases h1 : k < n
    · have t1 : decide ((k : Int) < (n : Int)) = true := by rw [decide_eq_true_eq]; omega
      have bk : (0 : Int) ≤ (k : Int) ∧ (k : Int) < (n : Int) := by omega
      by_cases h2 : k < 100
      · have t2 : decide ((k : Int) < 100) = true := by rw [decide_eq_true_eq]; omega
        go_upto_region 5 with fail
        obtain ⟨F, hS, hF, hB⟩ := HI.out
        have hkl : k < os.length := by omega
        obtain ⟨ob, oo, rfl, hc⟩ := HO.out.at_ k hkl
        have hok := HO.out.ok _ (List.getElem_mem hkl)
        have htk : layS (os.take (k + 1)) = stepS (layS (os.take k)) os[k] := by rw [List.take_succ_eq_append_getElem hkl, layS_snoc]
        obtain ⟨x, hx⟩ : ∃ x, os[k] = x := ⟨_, rfl⟩
        rw [hx] at hc hok htk
        have z0 : w.cell? ⟨ob, oo + k * 7, none⟩ = some (.string x.t) := hc 0 _ rfl
        have q0 : wr.cell? ⟨ob, oo + k * 7, none⟩ = some (.string x.t) := (hB.cell (p := ⟨ob, oo + k * 7, none⟩) (World.block_lt_of_cell? w _ z0)).trans z0
        have z1 : w.cell? ⟨ob, oo + k * 7 + 1, none⟩ = some (.string x.st) := hc 1 _ rfl
        have q1 : wr.cell? ⟨ob, oo + k * 7 + 1, none⟩ = some (.string x.st) := (hB.cell (p := ⟨ob, oo + k * 7 + 1, none⟩) (World.block_lt_of_cell? w _ z1)).trans z1
        have z2 : w.cell? ⟨ob, oo + k * 7 + 2, none⟩ = some (.string x.su) := hc 2 _ rfl
        have q2 : wr.cell? ⟨ob, oo + k * 7 + 2, none⟩ = some (.string x.su) := (hB.cell (p := ⟨ob, oo + k * 7 + 2, none⟩) (World.block_lt_of_cell? w _ z2)).trans z2
        have z3 : w.cell? ⟨ob, oo + k * 7 + 3, none⟩ = some (.int .i64 x.us) := hc 3 _ rfl
        have q3 : wr.cell? ⟨ob, oo + k * 7 + 3, none⟩ = some (.int .i64 x.us) := (hB.cell (p := ⟨ob, oo + k * 7 + 3, none⟩) (World.block_lt_of_cell? w _ z3)).trans z3
        have z4 : w.cell? ⟨ob, oo + k * 7 + 4, none⟩ = some (.slice x.sa x.sn x.sc) := hc 4 _ rfl
        have q4 : wr.cell? ⟨ob, oo + k * 7 + 4, none⟩ = some (.slice x.sa x.sn x.sc) := (hB.cell (p := ⟨ob, oo + k * 7 + 4, none⟩) (World.block_lt_of_cell? w _ z4)).trans z4
        have HOK := Lib.hid hok
        have HTK := Lib.hid htk
        have HS := Lib.hid hS
        have HF := Lib.hid hF
        clear hc hok htk hx hS hF
        refine wp_region_noPanic ?_
        refine wp_region_held_drew (S := fun W => W.cell? ⟨ob, oo + k * 7, none⟩ = some (.string x.t) ∧ W.cell? ⟨ob, oo + k * 7 + 1, none⟩ = some (.string x.st) ∧ W.cell? ⟨ob, oo + k * 7 + 2, none⟩ = some (.string x.su) ∧ W.cell? ⟨ob, oo + k * 7 + 3, none⟩ = some (.int .i64 x.us) ∧ W.cell? ⟨ob, oo + k * 7 + 4, none⟩ = some (.slice x.sa x.sn x.sc)) (by kernel_rfl) ?_ (fun hHeld => ?_)
        · (exact ⟨q0, q1, q2, q3, q4⟩)
        refine wpAnyH_take (i := 0) (oi := _) (v := ?_) rfl (by kernel_rfl) (by kernel_rfl) (by kernel_rfl) (fun _ _ _ h => h) (Or.inl ⟨by rfl, ?_⟩) (by assumption) ?_
        rotate_left 1
        · (intro w hSw; (try dsimp only at hSw); go_simp; all_goals (with_reducible rfl))
        try simp only [Act.put, List.getElem_toArray, List.getElem_cons_zero, List.getElem_cons_succ, List.setIfInBounds_toArray, List.set_cons_zero, List.set_cons_succ]
        refine wpAnyH_take (i := 1) (oi := _) (v := ?_) rfl (by kernel_rfl) (by kernel_rfl) (by kernel_rfl) (fun _ _ _ h => h) (Or.inl ⟨by rfl, ?_⟩) (by assumption) ?_
        rotate_left 1
        · (intro w hSw; (try dsimp only at hSw); go_simp; all_goals (with_reducible rfl))
        try simp only [Act.put, List.getElem_toArray, List.getElem_cons_zero, List.getElem_cons_succ, List.setIfInBounds_toArray, List.set_cons_zero, List.set_cons_succ]
        refine wpAnyH_take (i := 2) (oi := _) (v := ?_) rfl (by kernel_rfl) (by kernel_rfl) (by kernel_rfl) (fun _ _ _ h => h) (Or.inl ⟨by rfl, ?_⟩) (by assumption) ?_
        rotate_left 1
        · (intro w hSw; (try dsimp only at hSw); go_simp; all_goals (with_reducible rfl))
        try simp only [Act.put, List.getElem_toArray, List.getElem_cons_zero, List.getElem_cons_succ, List.setIfInBounds_toArray, List.set_cons_zero, List.set_cons_succ]
        refine wpAnyH_take (i := 3) (oi := _) (v := ?_) rfl (by kernel_rfl) (by kernel_rfl) (by kernel_rfl) (fun _ _ _ h => h) (Or.inl ⟨by rfl, ?_⟩) (by assumption) ?_
        rotate_left 1
        · (intro w hSw; (try dsimp only at hSw); go_simp; all_goals (with_reducible rfl))
        try simp only [Act.put, List.getElem_toArray, List.getElem_cons_zero, List.getElem_cons_succ, List.setIfInBounds_toArray, List.set_cons_zero, List.set_cons_succ]
        refine wpAnyH_take (i := 4) (oi := _) (v := ?_) rfl (by kernel_rfl) (by kernel_rfl) (by kernel_rfl) (fun _ _ _ h => h) (Or.inl ⟨by rfl, ?_⟩) (by assumption) ?_
        rotate_left 1
        · (intro w hSw; (try dsimp only at hSw); go_simp; all_goals (with_reducible rfl))
        try simp only [Act.put, List.getElem_toArray, List.getElem_cons_zero, List.getElem_cons_succ, List.setIfInBounds_toArray, List.set_cons_zero, List.set_cons_succ]
        refine wpAnyH_take (i := 5) (oi := _) (v := ?_) rfl (by kernel_rfl) (by kernel_rfl) (by kernel_rfl) (fun _ _ _ h => h) (Or.inl ⟨by rfl, ?_⟩) (by assumption) ?_
        rotate_left 1
        · (intro w hSw; (try dsimp only at hSw); go_simp; all_goals (with_reducible rfl))
        try simp only [Act.put, List.getElem_toArray, List.getElem_cons_zero, List.getElem_cons_succ, List.setIfInBounds_toArray, List.set_cons_zero, List.set_cons_succ]
        refine wpAnyH_take (i := 6) (oi := _) (v := ?_) rfl (by kernel_rfl) (by kernel_rfl) (by kernel_rfl) (fun _ _ _ h => h) (Or.inl ⟨by rfl, ?_⟩) (by assumption) ?_
        rotate_left 1
        · (intro w hSw; (try dsimp only at hSw); go_simp; all_goals (with_reducible rfl))
        try simp only [Act.put, List.getElem_toArray, List.getElem_cons_zero, List.getElem_cons_succ, List.setIfInBounds_toArray, List.set_cons_zero, List.set_cons_succ]
        refine wpAnyH_take (i := 7) (oi := _) (v := ?_) rfl (by kernel_rfl) (by kernel_rfl) (by kernel_rfl) (fun _ _ _ h => h) (Or.inl ⟨by rfl, ?_⟩) (by assumption) ?_
        rotate_left 1
        · (intro w hSw; (try dsimp only at hSw); go_simp; all_goals (with_reducible rfl))
        try simp only [Act.put, List.getElem_toArray, List.getElem_cons_zero, List.getElem_cons_succ, List.setIfInBounds_toArray, List.set_cons_zero, List.set_cons_succ]
        refine wpAnyH_take (i := 8) (oi := _) (v := ?_) rfl (by kernel_rfl) (by kernel_rfl) (by kernel_rfl) (fun _ _ _ h => h) (Or.inl ⟨by rfl, ?_⟩) (by assumption) ?_
        rotate_left 1
        · (intro w hSw; (try dsimp only at hSw); go_simp; all_goals (with_reducible rfl))
        try simp only [Act.put, List.getElem_toArray, List.getElem_cons_zero, List.getElem_cons_succ, List.setIfInBounds_toArray, List.set_cons_zero, List.set_cons_succ]
        refine wpAnyH_take (i := 9) (oi := _) (v := ?_) rfl (by kernel_rfl) (by kernel_rfl) (by kernel_rfl) (fun _ _ _ h => h) (Or.inl ⟨by rfl, ?_⟩) (by assumption) ?_
        rotate_left 1
        · (intro w hSw; (try dsimp only at hSw); go_simp; all_goals (with_reducible rfl))
        try simp only [Act.put, List.getElem_toArray, List.getElem_cons_zero, List.getElem_cons_succ, List.setIfInBounds_toArray, List.set_cons_zero, List.set_cons_succ]
        refine wpAnyH_take (i := 10) (oi := _) (v := ?_) rfl (by kernel_rfl) (by kernel_rfl) (by kernel_rfl) (fun _ _ _ h => h) (Or.inl ⟨by rfl, ?_⟩) (by assumption) ?_
        rotate_left 1
        · (intro w hSw; (try dsimp only at hSw); go_simp; all_goals (with_reducible rfl))
        try simp only [Act.put, List.getElem_toArray, List.getElem_cons_zero, List.getElem_cons_succ, List.setIfInBounds_toArray, List.set_cons_zero, List.set_cons_succ]
        refine wpAnyH_take (i := 11) (oi := _) (v := ?_) rfl (by kernel_rfl) (by kernel_rfl) (by kernel_rfl) (fun _ _ _ h => h) (Or.inl ⟨by rfl, ?_⟩) (by assumption) ?_
        rotate_left 1
        · (intro w hSw; (try dsimp only at hSw); go_simp; all_goals (with_reducible rfl))
        try simp only [Act.put, List.getElem_toArray, List.getElem_cons_zero, List.getElem_cons_succ, List.setIfInBounds_toArray, List.set_cons_zero, List.set_cons_succ]
        refine wpAnyH_take (i := 12) (oi := _) (v := ?_) rfl (by kernel_rfl) (by kernel_rfl) (by kernel_rfl) (fun _ _ _ h => h) (Or.inl ⟨by rfl, ?_⟩) (by assumption) ?_
        rotate_left 1
        · (intro w hSw; (try dsimp only at hSw); go_simp; all_goals (with_reducible rfl))
        try simp only [Act.put, List.getElem_toArray, List.getElem_cons_zero, List.getElem_cons_succ, List.setIfInBounds_toArray, List.set_cons_zero, List.set_cons_succ]
        refine wpAnyH_take (i := 13) (oi := _) (v := ?_) rfl (by kernel_rfl) (by kernel_rfl) (by kernel_rfl) (fun _ _ _ h => h) (Or.inl ⟨by rfl, ?_⟩) (by assumption) ?_
        rotate_left 1
        · (intro w hSw; (try dsimp only at hSw); go_simp; all_goals (with_reducible rfl))
        try simp only [Act.put, List.getElem_toArray, List.getElem_cons_zero, List.getElem_cons_succ, List.setIfInBounds_toArray, List.set_cons_zero, List.set_cons_succ]
        refine wpAnyH_take (i := 14) (oi := _) (v := ?_) rfl (by kernel_rfl) (by kernel_rfl) (by kernel_rfl) (fun _ _ _ h => h) (Or.inl ⟨by rfl, ?_⟩) (by assumption) ?_
        rotate_left 1
        · (intro w hSw; (try dsimp only at hSw); go_simp; all_goals (with_reducible rfl))
        try simp only [Act.put, List.getElem_toArray, List.getElem_cons_zero, List.getElem_cons_succ, List.setIfInBounds_toArray, List.set_cons_zero, List.set_cons_succ]
        refine wpAnyH_take (i := 15) (oi := _) (v := ?_) rfl (by kernel_rfl) (by kernel_rfl) (by kernel_rfl) (fun _ _ _ h => h) (Or.inl ⟨by rfl, ?_⟩) (by assumption) ?_
        rotate_left 1
        · (intro w hSw; (try dsimp only at hSw); go_simp; all_goals (with_reducible rfl))
        try simp only [Act.put, List.getElem_toArray, List.getElem_cons_zero, List.getElem_cons_succ, List.setIfInBounds_toArray, List.set_cons_zero, List.set_cons_succ]
        refine wpAnyH_take (i := 16) (oi := _) (v := ?_) rfl (by kernel_rfl) (by kernel_rfl) (by kernel_rfl) (fun _ _ _ h => h) (Or.inl ⟨by rfl, ?_⟩) (by assumption) ?_
        rotate_left 1
        · (intro w hSw; (try dsimp only at hSw); go_simp; all_goals (with_reducible rfl))
        try simp only [Act.put, List.getElem_toArray, List.getElem_cons_zero, List.getElem_cons_succ, List.setIfInBounds_toArray, List.set_cons_zero, List.set_cons_succ]
        refine wpAnyH_take (i := 17) (oi := _) (v := ?_) rfl (by kernel_rfl) (by kernel_rfl) (by kernel_rfl) (fun _ _ _ h => h) (Or.inl ⟨by rfl, ?_⟩) (by assumption) ?_
        rotate_left 1
        · (intro w hSw; (try dsimp only at hSw); go_simp; all_goals (with_reducible rfl))
        try simp only [Act.put, List.getElem_toArray, List.getElem_cons_zero, List.getElem_cons_succ, List.setIfInBounds_toArray, List.set_cons_zero, List.set_cons_succ]
        refine wpAnyH_take (i := 18) (oi := _) (v := ?_) rfl (by kernel_rfl) (by kernel_rfl) (by kernel_rfl) (fun _ _ _ h => h) (Or.inl ⟨by rfl, ?_⟩) (by assumption) ?_
        rotate_left 1
        · (intro w hSw; (try dsimp only at hSw); go_simp; all_goals (with_reducible rfl))
        try simp only [Act.put, List.getElem_toArray, List.getElem_cons_zero, List.getElem_cons_succ, List.setIfInBounds_toArray, List.set_cons_zero, List.set_cons_succ]
        refine wpAnyH_take (i := 19) (oi := _) (v := ?_) rfl (by kernel_rfl) (by kernel_rfl) (by kernel_rfl) (fun _ _ _ h => h) (Or.inl ⟨by rfl, ?_⟩) (by assumption) ?_
        rotate_left 1
        · (intro w hSw; (try dsimp only at hSw); go_simp; all_goals (with_reducible rfl))
        try simp only [Act.put, List.getElem_toArray, List.getElem_cons_zero, List.getElem_cons_succ, List.setIfInBounds_toArray, List.set_cons_zero, List.set_cons_succ]
        refine wpAnyH_take (i := 20) (oi := _) (v := ?_) rfl (by kernel_rfl) (by kernel_rfl) (by kernel_rfl) (fun _ _ _ h => h) (Or.inl ⟨by rfl, ?_⟩) (by assumption) ?_
        rotate_left 1
        · (intro w hSw; (try dsimp only at hSw); go_simp; all_goals (with_reducible rfl))
        try simp only [Act.put, List.getElem_toArray, List.getElem_cons_zero, List.getElem_cons_succ, List.setIfInBounds_toArray, List.set_cons_zero, List.set_cons_succ]
        refine wpAnyH_take (i := 21) (oi := _) (v := ?_) rfl (by kernel_rfl) (by kernel_rfl) (by kernel_rfl) (fun _ _ _ h => h) (Or.inl ⟨by rfl, ?_⟩) (by assumption) ?_
        rotate_left 1
        · (intro w hSw; (try dsimp only at hSw); go_simp; all_goals (with_reducible rfl))
        try simp only [Act.put, List.getElem_toArray, List.getElem_cons_zero, List.getElem_cons_succ, List.setIfInBounds_toArray, List.set_cons_zero, List.set_cons_succ]
        refine wpAnyH_take (i := 22) (oi := _) (v := ?_) rfl (by kernel_rfl) (by kernel_rfl) (by kernel_rfl) (fun _ _ _ h => h) (Or.inl ⟨by rfl, ?_⟩) (by assumption) ?_
        rotate_left 1
        · (intro w hSw; (try dsimp only at hSw); go_simp; all_goals (with_reducible rfl))
        try simp only [Act.put, List.getElem_toArray, List.getElem_cons_zero, List.getElem_cons_succ, List.setIfInBounds_toArray, List.set_cons_zero, List.set_cons_succ]
        refine wpAnyH_take (i := 23) (oi := _) (v := ?_) rfl (by kernel_rfl) (by kernel_rfl) (by kernel_rfl) (fun _ _ _ h => h) (Or.inl ⟨by rfl, ?_⟩) (by assumption) ?_
        rotate_left 1
        · (intro w hSw; (try dsimp only at hSw); go_simp; all_goals (with_reducible rfl))
        try simp only [Act.put, List.getElem_toArray, List.getElem_cons_zero, List.getElem_cons_succ, List.setIfInBounds_toArray, List.set_cons_zero, List.set_cons_succ]
        refine wpAnyH_take (i := 24) (oi := _) (v := ?_) rfl (by kernel_rfl) (by kernel_rfl) (by kernel_rfl) (fun _ _ _ h => h) (Or.inl ⟨by rfl, ?_⟩) (by assumption) ?_
        rotate_left 1
        · (intro w hSw; (try dsimp only at hSw); go_simp; all_goals (with_reducible rfl))
        try simp only [Act.put, List.getElem_toArray, List.getElem_cons_zero, List.getElem_cons_succ, List.setIfInBounds_toArray, List.set_cons_zero, List.set_cons_succ]
        refine wpAnyH_take (i := 25) (oi := _) (v := ?_) rfl (by kernel_rfl) (by kernel_rfl) (by kernel_rfl) (fun _ _ _ h => h) (Or.inl ⟨by rfl, ?_⟩) (by assumption) ?_
        rotate_left 1
        · (intro w hSw; (try dsimp only at hSw); go_simp; all_goals (with_reducible rfl))
        try simp only [Act.put, List.getElem_toArray, List.getElem_cons_zero, List.getElem_cons_succ, List.setIfInBounds_toArray, List.set_cons_zero, List.set_cons_succ]
        have hSd := HS.out.below (Below.refl wr.heap.size wr).drew
        have hBd : Below w.heap.size w wr.drew := hB.drew
        have Z0 := Lib.hid z0
        have Z1 := Lib.hid z1
        have Z2 := Lib.hid z2
        have Z3 := Lib.hid z3
        have Z4 := Lib.hid z4
        clear z0 z1 z2 z3 z4
        refine wpAnyH_ready (rs := [26]) (by kernel_rfl) (by simp) ?_
        refine AllReadyH.cons (o := _) rfl (fun K hK => ?_) ?_
        rotate_left 1
        · exact AllReadyH.nil
        go_simp
        go_at_call 11
        refine (appendOp hSd x HOK.out hBd HF.out (by omega)).mono ?_
        rintro _ w3 ⟨v, F3, rfl, hS3, hF3, hB3⟩
        dsimp only
        refine hK.out _ _ ?_ (fun hHeld => ?_)
        · (exact ⟨(hB3.cell (p := ⟨ob, oo + k * 7, none⟩) (World.block_lt_of_cell? w _ Z0.out)).trans Z0.out, (hB3.cell (p := ⟨ob, oo + k * 7 + 1, none⟩) (World.block_lt_of_cell? w _ Z1.out)).trans Z1.out, (hB3.cell (p := ⟨ob, oo + k * 7 + 2, none⟩) (World.block_lt_of_cell? w _ Z2.out)).trans Z2.out, (hB3.cell (p := ⟨ob, oo + k * 7 + 3, none⟩) (World.block_lt_of_cell? w _ Z3.out)).trans Z3.out, (hB3.cell (p := ⟨ob, oo + k * 7 + 4, none⟩) (World.block_lt_of_cell? w _ Z4.out)).trans Z4.out⟩)
        clear hK K
        try simp only [Act.put, List.getElem_toArray, List.getElem_cons_zero, List.getElem_cons_succ, List.setIfInBounds_toArray, List.set_cons_zero, List.set_cons_succ]
        refine wpAnyH_done (by kernel_rfl) ?_ _
        refine NoPanic.normal ?_
        have hI3 : LaidI w os (k + 1) g w3 := ⟨F3, by rw [HTK.out]; exact hS3, hF3, hB3⟩
        have HI3 := Lib.hid hI3
        clear hI3 hS3 hF3 hB3 hHeld hSd hBd
        (repeat' ((fail_if_success at_builtin); first | go_values | go_skip | go_guarded | go_step | go_upon))
        go_roundw
        case rel => exact ⟨k + 1, by simp, by omega, by omega, HI3.out⟩
        case measure => simp [intOf]; omega
      · have t2 : decide ((k : Int) < 100) = false := by rw [decide_eq_false_iff_not]; omega
        (repeat' ((fail_if_success at_builtin); first | go_values | go_skip | go_guarded | go_step | go_upon))
        go_ret
        obtain rfl : k = 100 := by omega
        exact ⟨g, 100, rfl, Nat.le_refl _, rfl, HI.out⟩
    · have t1 : decide ((k : Int) < (n : Int)) = false := by rw [decide_eq_false_iff_not]; omega
      (repeat' ((fail_if_success at_builtin); first | go_values | go_skip | go_guarded | go_step | go_upon))
      go_ret
      exact ⟨g, k, rfl, hk, by rw [List.take_of_length_le (by omega), List.take_of_length_le (by omega)], HI.out⟩

end Go.Proofs.Ythgaghpakioglaa
