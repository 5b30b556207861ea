/- The walk of the law PackLays. -/
import Derived.Test.YticpdpnkmeicjaaRef07
import Derived.Test.YticpdpnkmeicjaaLaw07a
import Derived.Deep.RegionHeld3
namespace Go.Proofs.Yticpdpnkmeicjaa
open Go.RowKit

/-- A Thing's cells. -/
def thing (kind num : Int) (tb : Option Addr) (tn tc : Nat) (s : List UInt8) : List Value := .int .i64 kind :: .int .i64 num :: .slice tb tn tc :: bvs s

/-- What stays as it is while the rows are laid. -/
abbrev PLS (g : Nat) (num : Int) (tb : Option Addr) (tn tc : Nat) (s k l : List UInt8) (x y : Option Addr) (w : World) : Prop :=
  w.cell? ⟨g, 1, none⟩ = some (.int .i64 num) ∧ w.cell? ⟨g, 2, none⟩ = some (.slice tb tn tc) ∧ w.rangeAt g 3 (bvs s) ∧
  (convert 22 9 (.slice tb tn tc)).run Try.prog w = .ok (.string ⟨k.toArray⟩) w ∧ RdC w x (bvs l) ∧ RdC w y (bvs k) ∧ RdC w tb (bvs k)

theorem pls_below {g : Nat} {num : Int} {tb : Option Addr} {tn tc : Nat} {s k l : List UInt8} {x y : Option Addr} {w w' : World} (h : PLS g num tb tn tc s k l x y w) (ek : k.length = tn) (hB : Below w.heap.size w w') : PLS g num tb tn tc s k l x y w' := by
  obtain ⟨h1, h2, h3, h4, h5, h6, h7⟩ := h
  have hg := World.block_lt_of_cell? w _ h1
  have hk := hB.block g hg
  have h7' := h7.below hB (Nat.le_refl _)
  exact ⟨by rw [World.cell?_of_block (w := w) hk]; exact h1, by rw [World.cell?_of_block (w := w) hk]; exact h2, fun j v hj => by rw [World.cell?_of_block (w := w) hk]; exact h3 j v hj,
    convStr Try.underlying22 Try.underlying5 Try.underlying9 h7' ek, h5.below hB (Nat.le_refl _), h6.below hB (Nat.le_refl _), h7'⟩

theorem pls_alloc {g : Nat} {num : Int} {tb : Option Addr} {tn tc : Nat} {s k l : List UInt8} {x y : Option Addr} {w : World} {o : Obj} (h : PLS g num tb tn tc s k l x y w) (ek : k.length = tn) : PLS g num tb tn tc s k l x y (w.alloc o) :=
  pls_below h ek ((Below.refl _ _).alloc (Nat.le_refl _) _)

theorem pls_below2 {g : Nat} {num : Int} {tb : Option Addr} {tn tc : Nat} {s k l : List UInt8} {x y : Option Addr} {w w' : World} {B : Nat} (hB : Below B w w') (h : PLS g num tb tn tc s k l x y w) (ek : k.length = tn) (hz : w.heap.size ≤ B) : PLS g num tb tn tc s k l x y w' :=
  pls_below h ek (hB.mono hz)

theorem pls_x {l : List UInt8} {w : World} (a : Option Addr) (S : World → Prop) (hx : ∀ w, S w → RdC w a (bvs l)) (h : S w) : RdC w a (bvs l) := hx w h

theorem pls_drew {g : Nat} {num : Int} {tb : Option Addr} {tn tc : Nat} {s k l : List UInt8} {x y : Option Addr} {w : World} (h : PLS g num tb tn tc s k l x y w) (ek : k.length = tn) : PLS g num tb tn tc s k l x y w.drew :=
  pls_below h ek ((Below.refl _ _).drew)

set_option maxHeartbeats 1000000 in
theorem packLays_walk (a : Option Addr) (n c : Nat) (l : List UInt8) (kind num : Int) (tb : Option Addr) (tn tc : Nat) (k s : List UInt8) (w : World) (ha : RdB w a l) (en : l.length = n) (hk : RdB w tb k) (ek : k.length = tn) (hs : s.length = 32)
    (hnum : -9223372036854775808 ≤ num ∧ num ≤ 9223372036854775807) (hn63 : n ≤ 9223372036854775807) (htn63 : tn ≤ 9223372036854775807) :
    Calls Try.prog 4 #[.slice a n c, .agg (thing kind num tb tn tc s).toArray] w fun e w' => e = .returned (.bool true) ∧ Below w.heap.size w w' := by
  obtain ⟨w0, hw0⟩ : ∃ w0, w.alloc (.cells (thing kind num tb tn tc s).toArray 38) = w0 := ⟨_, rfl⟩
  have hg0 : w0.heap[w.heap.size]? = some (.cells (thing kind num tb tn tc s).toArray 38 (0, 0)) := by rw [← hw0]; exact heap_alloc_new w _
  have hB0 : Below w.heap.size w w0 := by rw [← hw0]; exact (Below.refl _ _).alloc (Nat.le_refl _) _
  have hsz0 : w0.heap.size = w.heap.size + 1 := by rw [← hw0]; simp
  have c1 : w0.cell? ⟨w.heap.size, 1, none⟩ = some (.int .i64 num) := by rw [cell_of_row w0 w.heap.size 1 _ _ _ hg0]; rfl
  have c2 : w0.cell? ⟨w.heap.size, 2, none⟩ = some (.slice tb tn tc) := by rw [cell_of_row w0 w.heap.size 2 _ _ _ hg0]; rfl
  have HG0 := Lib.hid hg0; clear hg0
  have HS0 := Lib.hid hsz0; clear hsz0
  go_enter Try.func4, Try.ntmps4
  by_cases hbig : n ≤ 4096 ∧ tn ≤ 4096
  · obtain ⟨hn, htn⟩ := hbig
    (repeat' ((fail_if_success at_builtin); first | go_values | go_skip | go_guarded | go_step | go_upon))
    refine (lentBytes a n c l w0 (ha.below hB0 (Nat.le_refl _)) en (by omega)).mono ?_
    rintro _ w1 ⟨a1, c1', rfl, hc1, hr1, hB1, hO1⟩
    dsimp only
    have hB1' := hB0.trans (hB1.mono hB0.size)
    have k2 : w1.cell? ⟨w.heap.size, 2, none⟩ = some (.slice tb tn tc) := by rw [hB1.cell (p := ⟨w.heap.size, 2, none⟩) (by have := HS0.out; simp; omega)]; exact c2
    have k1 : w1.cell? ⟨w.heap.size, 1, none⟩ = some (.int .i64 num) := by rw [hB1.cell (p := ⟨w.heap.size, 1, none⟩) (by have := HS0.out; simp; omega)]; exact c1
    have hg1 : w1.heap[w.heap.size]? = some (.cells (thing kind num tb tn tc s).toArray 38 (0, 0)) := by rw [hB1.block w.heap.size (by have := HS0.out; omega)]; exact HG0.out
    have hk1 := hk.below hB1' (Nat.le_refl _)
    (repeat' ((fail_if_success at_builtin); first | go_values | go_skip | go_guarded | go_step | go_upon))
    refine (lentBytes tb tn tc k w1 hk1 ek (by omega)).mono ?_
    rintro _ w2 ⟨a2, c2', rfl, hc2, hr2, hB2, hO2⟩
    dsimp only
    have hlt1 : w.heap.size < w1.heap.size := (Array.getElem?_eq_some_iff.1 hg1).1
    have hB2' := hB1'.trans (hB2.mono hB1'.size)
    have hr1' := hr1.below hB2 (Nat.le_refl _)
    have hP : PLS w.heap.size num tb tn tc s k l a1 a2 w2 := by
      have e1 := hB2.block w.heap.size hlt1
      have hkk := hk1.below hB2 (Nat.le_refl _)
      refine ⟨by rw [World.cell?_of_block (w := w1) e1]; exact k1, by rw [World.cell?_of_block (w := w1) e1]; exact k2, fun j v hj => ?_, convStr Try.underlying22 Try.underlying5 Try.underlying9 hkk ek, hr1'.left, hr2.left, hkk⟩
      rw [World.cell?_of_block (w := w1) e1, cell_of_row w1 w.heap.size (3 + j) _ _ _ hg1]
      rw [Nat.add_comm]
      simpa [thing] using hj
    clear k1 k2 c1 c2
    have hncap : ¬ c1' = 0 := by omega
    (repeat' ((fail_if_success at_builtin); first | go_values | go_skip | go_guarded | go_step | go_upon))
    have hPd := pls_drew hP ek
    have hu36 : Try.prog.underlying 36 = some _ := Try.underlying36
    have hi36 : (Try.prog.info? 36).map (·.size) = some (bvs s).length := by rw [bvs_length, hs]; kernel_rfl
    clear hP
    have b1 : (0 : Int) ≤ (tn : Int) := Int.natCast_nonneg _
    have b2 : (tn : Int) ≤ (c2' : Int) := by omega
    go_region_held3 (PLS w.heap.size num tb tn tc s k l a1 a2) (first | assumption | (apply pls_alloc; assumption; exact ek) | (apply pls_below2; assumption; assumption; exact ek; exact Nat.le_refl _)) (first
      | (go_at_call 9; refine (packInt a1 n c1' l num _ (pls_x a1 (PLS w.heap.size num tb tn tc s k l a1 a2) (fun _ h => h.2.2.2.2.1) (by assumption)) en (by omega) hnum).mono ?_; rintro _ wA ⟨aA, cA, rfl, hcA, hrA, hBA, hOA⟩; dsimp only)
      | (go_at_call 18; refine (packBlob a1 a2 n tn c1' c2' l k _ (pls_x a1 (PLS w.heap.size num tb tn tc s k l a1 a2) (fun _ h => h.2.2.2.2.1) (by assumption)) (pls_x a2 (PLS w.heap.size num tb tn tc s k l a1 a2) (fun _ h => h.2.2.2.2.2.1) (by assumption)) en ek (by omega) (by omega)).mono ?_; rintro _ wB ⟨aB, cB, rfl, hcB, hrB, hBB, hOB⟩; dsimp only)
      | (go_at_call 19; refine (packText' a1 n tn c1' l k _ (pls_x a1 (PLS w.heap.size num tb tn tc s k l a1 a2) (fun _ h => h.2.2.2.2.1) (by assumption)) en ek (by omega) (by omega)).mono ?_; rintro _ wC ⟨aC, cC, rfl, hcC, hrC, hBC, hOC⟩; dsimp only)
      | (go_at_call 20; refine (packSum a1 n c1' l s _ (pls_x a1 (PLS w.heap.size num tb tn tc s k l a1 a2) (fun _ h => h.2.2.2.2.1) (by assumption)) en (by omega) hs).mono ?_; rintro _ wD ⟨aD, cD, rfl, hcD, hrD, hBD, hOD⟩; dsimp only))
    have q1 := pls_below2 hBA hPd ek (Nat.le_refl _)
    have q2 := pls_below2 hBB q1 ek (Nat.le_refl _)
    have q3 := pls_below2 hBC q2 ek (Nat.le_refl _)
    have q4 := pls_below2 hBD q3 ek (Nat.le_refl _)
    obtain ⟨w4, hw4⟩ : ∃ w4, wD.alloc (.cells #[.slice aA (n + 8) cA, .slice aB (n + 8 + tn) cB, .slice aC (n + 8 + tn) cC, .slice aD (n + 32) cD] 22) = w4 := ⟨_, rfl⟩
    have q5 : PLS w.heap.size num tb tn tc s k l a1 a2 w4 := by rw [← hw4]; exact pls_alloc q4 ek
    have hR1 : w4.heap[wD.heap.size]? = some (.cells #[.slice aA (n + 8) cA, .slice aB (n + 8 + tn) cB, .slice aC (n + 8 + tn) cC, .slice aD (n + 32) cD] 22 (0, 0)) := by rw [← hw4]; exact heap_alloc_new wD _
    have hBR : Below wD.heap.size wD w4 := by rw [← hw4]; exact (Below.refl _ _).alloc (Nat.le_refl _) _
    rw [hw4]
    have hz2 : w.heap.size ≤ w2.heap.size := hB2'.size
    have hzA : w2.heap.size ≤ wA.heap.size := hBA.size
    have hBw4 : Below w.heap.size w w4 := ((((hB2'.trans (((Below.refl _ _).drew).mono hz2)).trans (hBA.mono hz2)).trans (hBB.mono (by omega))).trans (hBC.mono (by have := hBB.size; omega))).trans ((hBD.trans (hBR.mono hBD.size)).mono (by have := hBB.size; have := hBC.size; omega))
    clear hw4 hPd q1 q2 q3 q4
    have q5' : PLS w.heap.size num tb tn tc s k l a tb w4 := ⟨q5.1, q5.2.1, q5.2.2.1, q5.2.2.2.1, ha.below hBw4 (Nat.le_refl _), q5.2.2.2.2.2.2, q5.2.2.2.2.2.2⟩
    have q5d := pls_drew q5' ek
    (repeat' ((fail_if_success at_builtin); first | go_values | go_skip | go_guarded | go_step | go_upon))
    go_region_held3 (PLS w.heap.size num tb tn tc s k l a tb) (first | assumption | (apply pls_alloc; assumption; exact ek) | (apply pls_below2; assumption; assumption; exact ek; exact Nat.le_refl _)) (first
      | (go_at_call 21; refine (refInt a n c l num _ (pls_x a (PLS w.heap.size num tb tn tc s k l a tb) (fun _ h => h.2.2.2.2.1) (by assumption)) en (by omega) hnum).mono ?_; rintro _ wE ⟨aE, cE, rfl, hcE, hrE, hBE, hOE⟩; dsimp only)
      | (go_at_call 22; refine (refBlob a tb n tn c tc l k _ (pls_x a (PLS w.heap.size num tb tn tc s k l a tb) (fun _ h => h.2.2.2.2.1) (by assumption)) (pls_x tb (PLS w.heap.size num tb tn tc s k l a tb) (fun _ h => h.2.2.2.2.2.1) (by assumption)) en ek (by omega) (by omega)).mono ?_; rintro _ wF ⟨aF, cF, rfl, hcF, hrF, hBF, hOF⟩; dsimp only)
      | (go_at_call 23; refine (refText' a n tn c l k _ (pls_x a (PLS w.heap.size num tb tn tc s k l a tb) (fun _ h => h.2.2.2.2.1) (by assumption)) en ek (by omega) (by omega)).mono ?_; rintro _ wG ⟨aG, cG, rfl, hcG, hrG, hBG, hOG⟩; dsimp only)
      | (go_at_call 24; refine (refSum a n c l s _ (pls_x a (PLS w.heap.size num tb tn tc s k l a tb) (fun _ h => h.2.2.2.2.1) (by assumption)) en (by omega) hs).mono ?_; rintro _ wH ⟨aH, cH, rfl, hcH, hrH, hBH, hOH⟩; dsimp only))
    obtain ⟨w5, hw5⟩ : ∃ w5, wH.alloc (.cells #[.slice aE (n + 8) cE, .slice aF (n + 8 + tn) cF, .slice aG (n + 8 + tn) cG, .slice aH (n + 32) cH] 22) = w5 := ⟨_, rfl⟩
    have hR2 : w5.heap[wH.heap.size]? = some (.cells #[.slice aE (n + 8) cE, .slice aF (n + 8 + tn) cF, .slice aG (n + 8 + tn) cG, .slice aH (n + 32) cH] 22 (0, 0)) := by rw [← hw5]; exact heap_alloc_new wH _
    have hBR2 : Below wH.heap.size wH w5 := by rw [← hw5]; exact (Below.refl _ _).alloc (Nat.le_refl _) _
    rw [hw5]
    clear hw5
    have zB := hBB.size
    have zC := hBC.size
    have zD := hBD.size
    have zR : wD.heap.size < w4.heap.size := (Array.getElem?_eq_some_iff.1 hR1).1
    have zE : w4.heap.size ≤ wE.heap.size := hBE.size
    have zF := hBF.size
    have zG := hBG.size
    have zH := hBH.size
    have zR2 : wH.heap.size < w5.heap.size := (Array.getElem?_eq_some_iff.1 hR2).1
    have hE' : Below w4.heap.size w4 wE := ((Below.refl _ w4).drew).trans hBE
    have hF' : Below w4.heap.size w4 wF := hE'.trans (hBF.mono zE)
    have hG' : Below w4.heap.size w4 wG := hF'.trans (hBG.mono hF'.size)
    have hH' : Below w4.heap.size w4 wH := hG'.trans (hBH.mono hG'.size)
    have hBt : Below w4.heap.size w4 w5 := hH'.trans (hBR2.mono hH'.size)
    have hBt5 : Below w.heap.size w w5 := hBw4.trans (hBt.mono (by omega))
    have hR15 : w5.heap[wD.heap.size]? = _ := (hBt.block _ zR).trans hR1
    have tA : Below wA.heap.size wA w4 := hBB.trans ((hBC.trans ((hBD.trans (hBR.mono zD)).mono zC)).mono zB)
    have tB : Below wB.heap.size wB w4 := hBC.trans ((hBD.trans (hBR.mono zD)).mono zC)
    have tC : Below wC.heap.size wC w4 := hBD.trans (hBR.mono zD)
    have oA : w5.ownsRow w2.heap.size 5 1 (.slice aA (n + 8) cA) (n + 8) (bvs (l ++ be8 num)) := owns_below hOA (tA.trans (hBt.mono (by omega))) (Nat.le_refl _)
    have oB : w5.ownsRow wA.heap.size 5 1 (.slice aB (n + 8 + tn) cB) (n + 8 + tn) (bvs (l ++ be8 tn ++ k)) := owns_below hOB (tB.trans (hBt.mono (by omega))) (Nat.le_refl _)
    have oC : w5.ownsRow wB.heap.size 5 1 (.slice aC (n + 8 + tn) cC) (n + 8 + tn) (bvs (l ++ be8 tn ++ k)) := owns_below hOC (tC.trans (hBt.mono (by omega))) (Nat.le_refl _)
    have oD : w5.ownsRow wC.heap.size 5 1 (.slice aD (n + 32) cD) (n + 32) (bvs (l ++ s)) := owns_below hOD (hBR.trans (hBt.mono (by omega))) (Nat.le_refl _)
    have rA : ∀ g, (Value.slice aA (n + 8) cA).ownBlock = some g → w2.heap.size ≤ g ∧ g < wA.heap.size := hOA.lt
    have rB : ∀ g, (Value.slice aB (n + 8 + tn) cB).ownBlock = some g → wA.heap.size ≤ g ∧ g < wB.heap.size := hOB.lt
    have rC : ∀ g, (Value.slice aC (n + 8 + tn) cC).ownBlock = some g → wB.heap.size ≤ g ∧ g < wC.heap.size := hOC.lt
    have rD : ∀ g, (Value.slice aD (n + 32) cD).ownBlock = some g → wC.heap.size ≤ g ∧ g < wD.heap.size := hOD.lt
    have rE := hOE.lt
    have rF := hOF.lt
    have rG := hOG.lt
    have rH := hOH.lt
    have vE : RdB w5 aE (l ++ be8 num) := hrE.below (hBF.trans ((hBG.trans ((hBH.trans (hBR2.mono zH)).mono zG)).mono zF)) (Nat.le_refl _)
    have vF : RdB w5 aF (l ++ be8 tn ++ k) := hrF.below (hBG.trans ((hBH.trans (hBR2.mono zH)).mono zG)) (Nat.le_refl _)
    have vG : RdB w5 aG (l ++ be8 tn ++ k) := hrG.below (hBH.trans (hBR2.mono zH)) (Nat.le_refl _)
    have vH : RdB w5 aH (l ++ s) := hrH.below hBR2 (Nat.le_refl _)
    have eA : (l ++ be8 num).length = n + 8 := by rw [List.length_append, en, be8_length]
    have eB : (l ++ be8 tn ++ k).length = n + 8 + tn := by rw [List.length_append, List.length_append, en, be8_length, ek]
    have eD : (l ++ s).length = n + 32 := by rw [List.length_append, en, hs]
    have LB := Lib.hid eB; clear eB
    have LA := Lib.hid eA; clear eA
    have LD := Lib.hid eD; clear eD
    have q6 := pls_below2 hBt q5 ek (Nat.le_refl _)
    have EN := Lib.hid en; clear en
    have EK := Lib.hid ek; clear ek
    have HS := Lib.hid hs; clear hs
    clear hR1 q5' q5d
    have hFr : Frm w5.heap.size (fun k => w2.heap.size ≤ k ∧ k < wD.heap.size) w5 w5 := Frm.refl _ _ _
    have nE : ∀ b off, aE = some ⟨b, off, none⟩ → ¬ (w2.heap.size ≤ b ∧ b < wD.heap.size) := fun b off e => by have := (rE b (by rw [e]; rfl)).1; simp at this; omega
    have nF : ∀ b off, aF = some ⟨b, off, none⟩ → ¬ (w2.heap.size ≤ b ∧ b < wD.heap.size) := fun b off e => by have := (rF b (by rw [e]; rfl)).1; omega
    have nG : ∀ b off, aG = some ⟨b, off, none⟩ → ¬ (w2.heap.size ≤ b ∧ b < wD.heap.size) := fun b off e => by have := (rG b (by rw [e]; rfl)).1; omega
    have nH : ∀ b off, aH = some ⟨b, off, none⟩ → ¬ (w2.heap.size ≤ b ∧ b < wD.heap.size) := fun b off e => by have := (rH b (by rw [e]; rfl)).1; omega
    (repeat' ((fail_if_success at_builtin); first | go_values | go_skip | go_guarded | go_step | go_upon))
    refine wp_loop_rounds 5 ?_
    have y0 : w5.cell? ⟨wD.heap.size, 0, none⟩ = some (.slice aA (n + 8) cA) := by rw [cell_of_row w5 wD.heap.size 0 _ _ _ ((hFr.block _ (by omega) (by omega)).trans hR15)]; rfl
    have x0 : w5.cell? ⟨wH.heap.size, 0, none⟩ = some (.slice aE (n + 8) cE) := by rw [cell_of_row w5 wH.heap.size 0 _ _ _ ((hFr.block _ (by omega) (by omega)).trans hR2)]; rfl
    have p0 : RdB w5 aA (l ++ be8 num) := rdc_of_owns oA
    have v0 : RdB w5 aE (l ++ be8 num) := vE.frm hFr (Nat.le_refl _) nE
    rw [rounds_succ]
    (repeat' ((fail_if_success at_builtin); first | go_values | go_skip | go_guarded | go_step | go_upon))
    go_quiet ((go_at_call 16; exact Calls.quiet_of (sameBytes_yes _ _ _ _ _ _ _ _ _ (p0.drewN _) (v0.drewN _) LA.out LA.out (by omega) rfl)))
    have o0 := owns_still oA (still_drewN w5 nq)
    (repeat' ((fail_if_success at_builtin); first | go_values | go_skip | go_guarded | go_step | go_upon))
    refine (spoilBytes _ _ _ _ _ _ o0 (by omega)).mono ?_
    rintro _ u0 ⟨rfl, g0⟩
    dsimp only
    have hF0 : Frm w5.heap.size (fun k => w2.heap.size ≤ k ∧ k < wD.heap.size) w5 u0 := (Frm.drewN hFr nq).grown g0 (Nat.le_trans hFr.size (Nat.le_refl _)) (fun k e _ => by have := rA k e; omega)
    have oB0 := (owns_still oB (still_drewN w5 nq)).kept g0 (own_ne wA.heap.size (fun g e => (rA g e).2) (fun g e => Nat.le_trans (by omega) (rB g e).1))
    have oC0 := (owns_still oC (still_drewN w5 nq)).kept g0 (own_ne wA.heap.size (fun g e => (rA g e).2) (fun g e => Nat.le_trans (by omega) (rC g e).1))
    have oD0 := (owns_still oD (still_drewN w5 nq)).kept g0 (own_ne wA.heap.size (fun g e => (rA g e).2) (fun g e => Nat.le_trans (by omega) (rD g e).1))
    clear y0 x0
    (repeat' ((fail_if_success at_builtin); first | go_values | go_skip | go_guarded | go_step | go_upon))
    have y1 : u0.cell? ⟨wD.heap.size, 1, none⟩ = some (.slice aB (n + 8 + tn) cB) := by rw [cell_of_row u0 wD.heap.size 1 _ _ _ ((hF0.block _ (by omega) (by omega)).trans hR15)]; rfl
    have x1 : u0.cell? ⟨wH.heap.size, 1, none⟩ = some (.slice aF (n + 8 + tn) cF) := by rw [cell_of_row u0 wH.heap.size 1 _ _ _ ((hF0.block _ (by omega) (by omega)).trans hR2)]; rfl
    have p1 : RdB u0 aB (l ++ be8 tn ++ k) := rdc_of_owns oB0
    have v1 : RdB u0 aF (l ++ be8 tn ++ k) := vF.frm hF0 (Nat.le_refl _) nF
    rw [rounds_succ]
    (repeat' ((fail_if_success at_builtin); first | go_values | go_skip | go_guarded | go_step | go_upon))
    go_quiet ((go_at_call 16; exact Calls.quiet_of (sameBytes_yes _ _ _ _ _ _ _ _ _ (p1.drewN _) (v1.drewN _) LB.out LB.out (by omega) rfl)))
    have o1 := owns_still oB0 (still_drewN u0 nq)
    (repeat' ((fail_if_success at_builtin); first | go_values | go_skip | go_guarded | go_step | go_upon))
    refine (spoilBytes _ _ _ _ _ _ o1 (by omega)).mono ?_
    rintro _ u1 ⟨rfl, g1⟩
    dsimp only
    have hF1 : Frm w5.heap.size (fun k => w2.heap.size ≤ k ∧ k < wD.heap.size) w5 u1 := (Frm.drewN hF0 nq).grown g1 (Nat.le_trans hF0.size (Nat.le_refl _)) (fun k e _ => by have := rB k e; omega)
    have oC01 := (owns_still oC0 (still_drewN u0 nq)).kept g1 (own_ne wB.heap.size (fun g e => (rB g e).2) (fun g e => Nat.le_trans (by omega) (rC g e).1))
    have oD01 := (owns_still oD0 (still_drewN u0 nq)).kept g1 (own_ne wB.heap.size (fun g e => (rB g e).2) (fun g e => Nat.le_trans (by omega) (rD g e).1))
    clear y1 x1
    (repeat' ((fail_if_success at_builtin); first | go_values | go_skip | go_guarded | go_step | go_upon))
    have y2 : u1.cell? ⟨wD.heap.size, 2, none⟩ = some (.slice aC (n + 8 + tn) cC) := by rw [cell_of_row u1 wD.heap.size 2 _ _ _ ((hF1.block _ (by omega) (by omega)).trans hR15)]; rfl
    have x2 : u1.cell? ⟨wH.heap.size, 2, none⟩ = some (.slice aG (n + 8 + tn) cG) := by rw [cell_of_row u1 wH.heap.size 2 _ _ _ ((hF1.block _ (by omega) (by omega)).trans hR2)]; rfl
    have p2 : RdB u1 aC (l ++ be8 tn ++ k) := rdc_of_owns oC01
    have v2 : RdB u1 aG (l ++ be8 tn ++ k) := vG.frm hF1 (Nat.le_refl _) nG
    rw [rounds_succ]
    (repeat' ((fail_if_success at_builtin); first | go_values | go_skip | go_guarded | go_step | go_upon))
    go_quiet ((go_at_call 16; exact Calls.quiet_of (sameBytes_yes _ _ _ _ _ _ _ _ _ (p2.drewN _) (v2.drewN _) LB.out LB.out (by omega) rfl)))
    have o2 := owns_still oC01 (still_drewN u1 nq)
    (repeat' ((fail_if_success at_builtin); first | go_values | go_skip | go_guarded | go_step | go_upon))
    refine (spoilBytes _ _ _ _ _ _ o2 (by omega)).mono ?_
    rintro _ u2 ⟨rfl, g2⟩
    dsimp only
    have hF2 : Frm w5.heap.size (fun k => w2.heap.size ≤ k ∧ k < wD.heap.size) w5 u2 := (Frm.drewN hF1 nq).grown g2 (Nat.le_trans hF1.size (Nat.le_refl _)) (fun k e _ => by have := rC k e; omega)
    have oD012 := (owns_still oD01 (still_drewN u1 nq)).kept g2 (own_ne wC.heap.size (fun g e => (rC g e).2) (fun g e => Nat.le_trans (by omega) (rD g e).1))
    clear y2 x2
    (repeat' ((fail_if_success at_builtin); first | go_values | go_skip | go_guarded | go_step | go_upon))
    have y3 : u2.cell? ⟨wD.heap.size, 3, none⟩ = some (.slice aD (n + 32) cD) := by rw [cell_of_row u2 wD.heap.size 3 _ _ _ ((hF2.block _ (by omega) (by omega)).trans hR15)]; rfl
    have x3 : u2.cell? ⟨wH.heap.size, 3, none⟩ = some (.slice aH (n + 32) cH) := by rw [cell_of_row u2 wH.heap.size 3 _ _ _ ((hF2.block _ (by omega) (by omega)).trans hR2)]; rfl
    have p3 : RdB u2 aD (l ++ s) := rdc_of_owns oD012
    have v3 : RdB u2 aH (l ++ s) := vH.frm hF2 (Nat.le_refl _) nH
    rw [rounds_succ]
    (repeat' ((fail_if_success at_builtin); first | go_values | go_skip | go_guarded | go_step | go_upon))
    go_quiet ((go_at_call 16; exact Calls.quiet_of (sameBytes_yes _ _ _ _ _ _ _ _ _ (p3.drewN _) (v3.drewN _) LD.out LD.out (by omega) rfl)))
    have o3 := owns_still oD012 (still_drewN u2 nq)
    (repeat' ((fail_if_success at_builtin); first | go_values | go_skip | go_guarded | go_step | go_upon))
    refine (spoilBytes _ _ _ _ _ _ o3 (by omega)).mono ?_
    rintro _ u3 ⟨rfl, g3⟩
    dsimp only
    have hF3 : Frm w5.heap.size (fun k => w2.heap.size ≤ k ∧ k < wD.heap.size) w5 u3 := (Frm.drewN hF2 nq).grown g3 (Nat.le_trans hF2.size (Nat.le_refl _)) (fun k e _ => by have := rD k e; omega)
    clear y3 x3
    (repeat' ((fail_if_success at_builtin); first | go_values | go_skip | go_guarded | go_step | go_upon))
    have hB24 : Below w2.heap.size w2 w4 := ((((Below.refl _ w2).drew).trans hBA).trans (tA.mono hzA))
    have hB25 : Below w2.heap.size w2 w5 := hB24.trans (hBt.mono hB24.size)
    have hX5 : RdB w5 a1 (l ++ marks) := RdC.below hr1' hB25 (Nat.le_refl _)
    have hY5 : RdB w5 a2 (k ++ marks) := RdC.below hr2 hB25 (Nat.le_refl _)
    have sX : ∀ b off, a1 = some ⟨b, off, none⟩ → ¬ (w2.heap.size ≤ b ∧ b < wD.heap.size) := fun b off e => by have := (hO1.lt b (by rw [e]; rfl)).2; have := hB2.size; omega
    have sY : ∀ b off, a2 = some ⟨b, off, none⟩ → ¬ (w2.heap.size ≤ b ∧ b < wD.heap.size) := fun b off e => by have := (hO2.lt b (by rw [e]; rfl)).2; omega
    have zW : w.heap.size < w2.heap.size := Nat.lt_of_lt_of_le hlt1 hB2.size
    have hlw : w.heap.size < w5.heap.size := Nat.lt_of_lt_of_le hlt1 (Nat.le_trans hB2.size hB25.size)
    have hU : Below w.heap.size w u3 := hBt5.trans (hF3.belowOf (Nat.le_of_lt hlw) (fun k h => Nat.le_trans hz2 h.1))
    have hX3 : RdB u3 a1 (l ++ marks) := hX5.frm hF3 (Nat.le_refl _) sX
    have hY3 : RdB u3 a2 (k ++ marks) := hY5.frm hF3 (Nat.le_refl _) sY
    have hb3 : RdB u3 a l := ha.below hU (Nat.le_refl _)
    have ht3 : RdB u3 tb k := hk.below hU (Nat.le_refl _)
    rw [rounds_succ]
    (repeat' ((fail_if_success at_builtin); first | go_values | go_skip | go_guarded | go_step | go_upon))
    refine (keptBytes a1 a n c1' c l u3 hX3 hb3 EN.out hc1 (by omega)).mono ?_
    rintro _ u4 ⟨rfl, hB4⟩
    dsimp only
    have k2 : u4.cell? ⟨w.heap.size, 2, none⟩ = some (.slice tb tn tc) := by
      rw [hB4.cell (p := ⟨w.heap.size, 2, none⟩) (by have := hF3.size; show w.heap.size < _; omega), World.cell?_of_block (w := w5) (hF3.block w.heap.size hlw (by omega))]
      exact q6.2.1
    (repeat' ((fail_if_success at_builtin); first | go_values | go_skip | go_guarded | go_step | go_upon))
    refine (keptBytes a2 tb tn c2' tc k u4 (hY3.below hB4 (Nat.le_refl _)) (ht3.below hB4 (Nat.le_refl _)) EK.out hc2 (by omega)).mono ?_
    rintro _ u5 ⟨rfl, hB5⟩
    dsimp only
    (repeat' ((fail_if_success at_builtin); first | go_values | go_skip | go_guarded | go_step | go_upon))
    refine (works07 u5).mono ?_
    rintro _ u6 ⟨rfl, hB6⟩
    dsimp only
    (repeat' ((fail_if_success at_builtin); first | go_values | go_skip | go_guarded | go_step | go_upon))
    go_ret
    exact ⟨rfl, (hU.trans (hB4.mono hU.size)).trans ((hB5.trans (hB6.mono hB5.size)).mono (Nat.le_trans hU.size hB4.size))⟩
  · (repeat' ((fail_if_success at_builtin); first | go_values | go_skip | go_guarded | go_step | go_upon))
    refine (works07 w0).mono ?_
    rintro _ w1 ⟨rfl, hB1⟩
    dsimp only
    (repeat' ((fail_if_success at_builtin); first | go_values | go_skip | go_guarded | go_step | go_upon))
    go_ret
    exact ⟨rfl, hB0.trans (hB1.mono hB0.size)⟩

end Go.Proofs.Yticpdpnkmeicjaa
