/- known (sealerylaw18), walked. -/
import Derived.Test.YthgaghpakioglaaStrH
namespace Go.Proofs.Ythgaghpakioglaa
set_option linter.unusedSimpArgs false
set_option linter.unusedVariables false
open Go.RowKit
set_option maxRecDepth 10000
--@PUT2

def kL1 : List EvS := [⟨⟨#[97]⟩, ⟨#[115]⟩, 1, 1, 1, [1]⟩, ⟨⟨#[97]⟩, ⟨#[115]⟩, 2, 2, 2, [2, 3]⟩]
def kL2 : List EvS := [⟨⟨#[98]⟩, ⟨#[116]⟩, 1, 3, 8, [4]⟩]
def kφ1 : ByteArray → List EvS := putS (fun _ => []) ⟨#[97, 110, 110]⟩ kL1
def kφ2 : ByteArray → List EvS := putS kφ1 ⟨#[97, 110, 110]⟩ kL2
theorem k_app1 : appS ⟨#[97]⟩ ⟨#[115]⟩ 0 [] 0 [[1], [2, 3]] = kL1 := by kernel_rfl
theorem k_at1 : kφ1 ⟨#[97, 110, 110]⟩ = kL1 := by kernel_rfl
theorem k_app2 : appS ⟨#[98]⟩ ⟨#[116]⟩ 7 kL1 0 [[4]] = kL2 := by kernel_rfl
theorem k_at2 : kφ2 ⟨#[97, 110, 110]⟩ = kL1 ++ kL2 := by kernel_rfl
theorem k_sz : szS (kL1 ++ kL2) = 4 := by kernel_rfl
theorem k_nm : namesS (kL1 ++ kL2) = 2 := by kernel_rfl

theorem k_all : (((kL1 ++ kL2).drop (max (2 : Int) 1 - 1).toNat).take (min (5 : Int) 64).toNat).length = 2 := by kernel_rfl

set_option maxHeartbeats 1000000 in
theorem known18 (w : World) : Calls Try.prog 15 #[] w fun e w' => e = .returned (.bool true) ∧ Below w.heap.size w w' := by
  go_enter Try.func15, Try.ntmps15
  (repeat' ((fail_if_success at_builtin); first | go_values | go_skip | go_guarded | go_step | go_upon))
  refine (newS w).mono ?_
  rintro _ w1 ⟨g, F1, rfl, hS1, hF1, hB1⟩
  have HS1 := Lib.hid hS1
  have HF1 := Lib.hid hF1
  clear hS1 hF1
  dsimp only
  (repeat' ((fail_if_success at_builtin); first | go_values | go_skip | go_guarded | go_step | go_upon))
  obtain ⟨r0, r1, r2, hB2⟩ := al3 w1 (.cells #[.int .u8 1] 5) (.cells #[.int .u8 2, .int .u8 3] 5) (.cells #[.slice (some ⟨w1.heap.size, 0, none⟩) 1 1, .slice (some ⟨w1.heap.size + 1, 0, none⟩) 2 2] 51)
  generalize ((w1.alloc (.cells #[.int .u8 1] 5)).alloc (.cells #[.int .u8 2, .int .u8 3] 5)).alloc (.cells #[.slice (some ⟨w1.heap.size, 0, none⟩) 1 1, .slice (some ⟨w1.heap.size + 1, 0, none⟩) 2 2] 51) = w2 at *
  have hP2 : Pieces w2 (some ⟨w1.heap.size + 1 + 1, 0, none⟩) [⟨some ⟨w1.heap.size, 0, none⟩, 1, 1, [1]⟩, ⟨some ⟨w1.heap.size + 1, 0, none⟩, 2, 2, [2, 3]⟩] := by
    refine ⟨rd_rowN (cs := [.slice (some ⟨w1.heap.size, 0, none⟩) 1 1, .slice (some ⟨w1.heap.size + 1, 0, none⟩) 2 2]) r2, fun p hp => ?_⟩
    simp only [List.mem_cons, List.not_mem_nil, or_false] at hp
    rcases hp with rfl | rfl
    · exact ⟨rfl, Nat.le_refl _, by show (1 : Nat) ≤ 140737488351232; omega, rdb_row r0 rfl⟩
    · exact ⟨rfl, Nat.le_refl _, by show (2 : Nat) ≤ 140737488351232; omega, rdb_row r1 rfl⟩
  have hno : ∀ k, w1.heap.size ≤ k → ¬ F1 k := fun k h1 h2 => by have := HS1.out.low k h2; omega
  have hS2 := HS1.out.below hB2
  have HP2 := Lib.hid hP2
  have HNO := Lib.hid hno
  clear r0 r1 r2 hP2 hno
  refine (appendS hS2 ⟨#[97, 110, 110]⟩ ⟨#[97]⟩ ⟨#[115]⟩ 0 (some ⟨w1.heap.size + 1 + 1, 0, none⟩) 2 2 _ (by decide) (by decide) (by decide) (fun wq hq => HP2.out.frm hq (fun b o e => (by cases e; exact HNO.out _ (by omega))) (fun p hp b o e => ?_)) rfl (Nat.le_refl _) (by decide) (by decide)).mono ?_
  · simp only [List.mem_cons, List.not_mem_nil, or_false] at hp
    rcases hp with rfl | rfl <;> cases e <;> exact HNO.out _ (by omega)
  rintro _ w3 ⟨a, c, F2, rfl, hc, hS3, hR3, hF2, hF2', hFr3⟩
  rw [show appS ⟨#[97]⟩ ⟨#[115]⟩ 0 ((fun _ => []) (⟨#[97, 110, 110]⟩ : ByteArray)) 0 (List.map (·.l) [(⟨some ⟨w1.heap.size, 0, none⟩, 1, 1, [1]⟩ : Piece), ⟨some ⟨w1.heap.size + 1, 0, none⟩, 2, 2, [2, 3]⟩]) = kL1 from k_app1] at hS3 hR3 hc ⊢
  have hS3' : StrS w3 F2 g 1 kφ1 := hS3
  have HS3 := Lib.hid hS3'
  have HR3 := Lib.hid hR3
  have HF2 := Lib.hid hF2
  have hs3 := hFr3.size
  have hB03 : Below w.heap.size w w3 := (hB1.trans (hB2.mono hB1.size)).trans (by
    have hlo := HF1.out
    exact ⟨hFr3.os, hFr3.tape, hFr3.output, hFr3.size, fun k hk => hFr3.block k (by have := hB1.size; have := hB2.size; omega) (fun h => by have := hlo k h; omega)⟩)
  clear hS3 hS3' hR3 hF2 hS2 hFr3
  dsimp only
  (repeat' ((fail_if_success at_builtin); first | go_values | go_skip | go_guarded | go_step | go_upon))
  obtain ⟨r0, r1, hB4⟩ := al2 w3 (.cells #[.int .u8 4] 5) (.cells #[.slice (some ⟨w3.heap.size, 0, none⟩) 1 1] 51)
  generalize (w3.alloc (.cells #[.int .u8 4] 5)).alloc (.cells #[.slice (some ⟨w3.heap.size, 0, none⟩) 1 1] 51) = w4 at *
  have hP4 : Pieces w4 (some ⟨w3.heap.size + 1, 0, none⟩) [⟨some ⟨w3.heap.size, 0, none⟩, 1, 1, [4]⟩] := by
    refine ⟨rd_rowN (cs := [.slice (some ⟨w3.heap.size, 0, none⟩) 1 1]) r1, fun p hp => ?_⟩
    rw [List.mem_singleton.1 hp]
    exact ⟨rfl, Nat.le_refl _, by show (1 : Nat) ≤ 140737488351232; omega, rdb_row r0 rfl⟩
  have hno : ∀ k, w3.heap.size ≤ k → ¬ F2 k := fun k h1 h2 => by have := HS3.out.low k h2; omega
  have hS4 := HS3.out.below hB4
  have hR4 := HR3.out.below hB4
  have HR4 := Lib.hid hR4
  have HP4 := Lib.hid hP4
  have HNO4 := Lib.hid hno
  clear r0 r1 hP4 hno hR4
  refine (appendS hS4 ⟨#[97, 110, 110]⟩ ⟨#[98]⟩ ⟨#[116]⟩ 7 (some ⟨w3.heap.size + 1, 0, none⟩) 1 1 _ (by decide) (by decide) (by decide) (fun wq hq => HP4.out.frm hq (fun b o e => (by cases e; exact HNO4.out _ (by omega))) (fun p hp b o e => ?_)) rfl (Nat.le_refl _) (by decide) (by rw [k_at1]; decide)).mono ?_
  · rw [List.mem_singleton.1 hp] at e
    cases e
    exact HNO4.out _ (by omega)
  rintro _ w5 ⟨a2, c2, F3, rfl, hc2, hS5, hR5, hF3, hF3', hFr5⟩
  rw [show appS ⟨#[98]⟩ ⟨#[116]⟩ 7 (kφ1 (⟨#[97, 110, 110]⟩ : ByteArray)) 0 (List.map (·.l) [(⟨some ⟨w3.heap.size, 0, none⟩, 1, 1, [4]⟩ : Piece)]) = kL2 by rw [k_at1]; exact k_app2] at hS5 hR5 hc2 ⊢
  have hS5' : StrS w5 F3 g 2 kφ2 := hS5
  have hR3' := HR4.out.frm hFr5 (Nat.le_refl _) hF3
  have hs5 := hFr5.size
  have hB05 : Below w.heap.size w w5 := (hB03.trans (hB4.mono hB03.size)).trans (by
    have hlo := HF1.out
    have hlo2 := HF2.out
    have hs2 := hB2.size
    have hs4 := hB4.size
    have hs1 := hB1.size
    exact ⟨hFr5.os, hFr5.tape, hFr5.output, hFr5.size, fun k hk => hFr5.block k (by omega) (fun h => by
      rcases hlo2 k h with h | h
      · have := hlo k h; omega
      · omega)⟩)
  obtain ⟨b1, o1, rfl, sa1, sn1, sc1, _, hcl1⟩ := hR3'.get 1 _ rfl
  obtain ⟨b2, o2, rfl, sa2, sn2, sc2, _, hcl2⟩ := hR5.get 0 _ rfl
  have q2 : w5.cell? ⟨b1, o1 + 6 + 2, none⟩ = some (.int .i64 2) := hcl1 2 _ rfl
  have q3 : w5.cell? ⟨b1, o1 + 6 + 3, none⟩ = some (.int .i64 2) := hcl1 3 _ rfl
  have q4 : w5.cell? ⟨b1, o1 + 6 + 4, none⟩ = some (.int .i64 2) := hcl1 4 _ rfl
  have p2 : w5.cell? ⟨b2, o2 + 2, none⟩ = some (.int .i64 1) := by have := hcl2 2 _ rfl; simpa using this
  have p3 : w5.cell? ⟨b2, o2 + 3, none⟩ = some (.int .i64 3) := by have := hcl2 3 _ rfl; simpa using this
  have p4 : w5.cell? ⟨b2, o2 + 4, none⟩ = some (.int .i64 8) := by have := hcl2 4 _ rfl; simpa using this
  have HS5 := Lib.hid hS5'
  clear hS5 hS5' hR3' hR5 hF3 hF3' hFr5 hcl1 hcl2 hS4
  rw [show kL1.length = 2 from rfl, show kL2.length = 1 from rfl]
  dsimp only
  (repeat' ((fail_if_success at_builtin); first | go_values | go_skip | go_guarded | go_step | go_upon))
  refine (sizeS HS5.out ⟨#[97, 110, 110]⟩ (by decide)).mono ?_
  rintro _ w6 ⟨rfl, hB6⟩
  rw [k_at2, k_sz]
  have hS6 := HS5.out.below hB6
  have HS6 := Lib.hid hS6
  clear hS6 q2 q3 q4 p2 p3 p4
  dsimp only
  (repeat' ((fail_if_success at_builtin); first | go_values | go_skip | go_guarded | go_step | go_upon))
  refine (namesSS HS6.out ⟨#[97, 110, 110]⟩ (by decide)).mono ?_
  rintro _ w7 ⟨rfl, hB7⟩
  rw [k_at2, k_nm]
  have hS7 := HS6.out.below hB7
  have HS7 := Lib.hid hS7
  clear hS7
  dsimp only
  (repeat' ((fail_if_success at_builtin); first | go_values | go_skip | go_guarded | go_step | go_upon))
  refine (allS HS7.out ⟨#[97, 110, 110]⟩ 2 5 (by decide) (by decide) (by decide)).mono ?_
  rw [k_at2]
  rintro _ w8 h8
  obtain ⟨a8, c8, rfl, hc8, hB8, _⟩ := h8.row
  rw [k_all] at hc8 ⊢
  clear h8
  dsimp only
  (repeat' ((fail_if_success at_builtin); first | go_values | go_skip | go_guarded | go_step | go_upon))
  go_ret
  exact ⟨rfl, ((hB05.trans (hB6.mono hB05.size)).trans (hB7.mono (Nat.le_trans hB05.size hB6.size))).trans (hB8.mono (Nat.le_trans (Nat.le_trans hB05.size hB6.size) hB7.size))⟩

end Go.Proofs.Ythgaghpakioglaa
