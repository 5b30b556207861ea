/- StreamsKnown, walked. -/
import Derived.Test.YthgaghpakioglaaKst18
namespace Go.Proofs.Ythgaghpakioglaa
set_option linter.unusedSimpArgs false
set_option linter.unusedVariables false
open Go.RowKit
set_option maxRecDepth 10000
--@PUT2

set_option maxHeartbeats 8000000 in
theorem streamsKnown_walk (w : World) : Calls Try.prog 7 #[] w fun e w' => e = .returned (.bool true) ∧ Below w.heap.size w w' := by
  obtain ⟨arr, harr⟩ : ∃ arr, (List.replicate 200 (Value.slice none 0 0)).toArray = arr := ⟨_, rfl⟩
  have hmk : ∀ W : World, (Instr.makeSlice 30 (.int .i64 200) (.int .i64 200)).run Try.prog W = .ok (.slice (some ⟨W.heap.size, 0, none⟩) 200 200) (W.alloc (.cells (List.replicate 200 (Value.slice none 0 0)).toArray 51)) := fun W => mkBs W 200 (by omega)
  rw [harr] at hmk
  have HARR := Lib.hid harr
  have HMK := Lib.hid hmk
  clear harr hmk
  go_enter Try.func7, Try.ntmps7
  (repeat' ((fail_if_success at_builtin); first | go_values | go_skip | go_guarded | go_step | go_upon))
  refine (newS w).mono ?_
  rintro _ w1 ⟨g, F1, rfl, hS1, hF1, hB1⟩
  have HS1 := Lib.hid hS1
  have HF1 := Lib.hid hF1
  clear hS1 hF1
  dsimp only
  (repeat' ((fail_if_success at_builtin); first | go_values | go_skip | go_guarded | go_step | go_upon))
  obtain ⟨r0, r1, hB2⟩ := al2 w1 (.cells #[.int .u8 1] 5) (.cells #[.slice (some ⟨w1.heap.size, 0, none⟩) 1 1] 51)
  have hs2 : ((w1.alloc (.cells #[.int .u8 1] 5)).alloc (.cells #[.slice (some ⟨w1.heap.size, 0, none⟩) 1 1] 51)).heap.size = w1.heap.size + 1 + 1 := by simp
  generalize (w1.alloc (.cells #[.int .u8 1] 5)).alloc (.cells #[.slice (some ⟨w1.heap.size, 0, none⟩) 1 1] 51) = w2 at *
  obtain ⟨r2, r3, r4, hB3⟩ := al3 w2 (.cells #[.int .u8 1] 5) (.cells #[.int .u8 2] 5) (.cells #[.slice (some ⟨w1.heap.size + 1 + 1, 0, none⟩) 1 1, .slice (some ⟨w1.heap.size + 1 + 1 + 1, 0, none⟩) 1 1] 51)
  generalize ((w2.alloc (.cells #[.int .u8 1] 5)).alloc (.cells #[.int .u8 2] 5)).alloc (.cells #[.slice (some ⟨w1.heap.size + 1 + 1, 0, none⟩) 1 1, .slice (some ⟨w1.heap.size + 1 + 1 + 1, 0, none⟩) 1 1] 51) = w3 at *
  rw [hs2] at r2 r3 r4
  have hs3 := hB3.size
  have hP2 : Pieces w2 (some ⟨w1.heap.size + 1, 0, none⟩) [⟨some ⟨w1.heap.size, 0, none⟩, 1, 1, [1]⟩] := by
    refine ⟨rd_rowN (cs := [.slice (some ⟨w1.heap.size, 0, none⟩) 1 1]) r1, fun p hp => ?_⟩
    rw [List.mem_singleton.1 hp]
    exact ⟨rfl, Nat.le_refl _, by show (1 : Nat) ≤ 140737488351232; omega, rdb_row r0 rfl⟩
  have hP3 : Pieces w3 (some ⟨w1.heap.size + 1 + 1 + 1 + 1, 0, none⟩) [⟨some ⟨w1.heap.size + 1 + 1, 0, none⟩, 1, 1, [1]⟩, ⟨some ⟨w1.heap.size + 1 + 1 + 1, 0, none⟩, 1, 1, [2]⟩] := by
    refine ⟨rd_rowN (cs := [.slice (some ⟨w1.heap.size + 1 + 1, 0, none⟩) 1 1, .slice (some ⟨w1.heap.size + 1 + 1 + 1, 0, none⟩) 1 1]) r4, fun p hp => ?_⟩
    simp only [List.mem_cons, List.not_mem_nil, or_false] at hp
    rcases hp with rfl | rfl
    · exact ⟨rfl, Nat.le_refl _, by show (1 : Nat) ≤ 140737488351232; omega, rdb_row r2 rfl⟩
    · exact ⟨rfl, Nat.le_refl _, by show (1 : Nat) ≤ 140737488351232; omega, rdb_row r3 rfl⟩
  have hno : ∀ k, w1.heap.size ≤ k → ¬ F1 k := fun k h1 h2 => by have := HS1.out.low k h2; omega
  have hK3 : KSt w w3 F1 g 0 (fun _ => []) (w1.heap.size + 1) w1.heap.size :=
    ⟨(HS1.out.below hB2).below hB3, (hB1.trans (hB2.mono hB1.size)).trans (hB3.mono (Nat.le_trans hB1.size hB2.size)), HF1.out, ⟨hno _ (by omega), hno _ (by omega), by omega, by omega⟩, hP2.below hB3⟩
  have HK3 := Lib.hid hK3
  have HP3 := Lib.hid hP3
  have HNO := Lib.hid hno
  clear r0 r1 r2 r3 r4 hP2 hP3 hno hK3 hB2 hB3 hs2 hs3
  refine (appendK HK3.out ⟨#[97, 110, 110]⟩ ⟨#[97]⟩ ⟨#[115]⟩ 0 (some ⟨w1.heap.size + 1 + 1 + 1 + 1, 0, none⟩) 2 2 _ sK1 (by exact s_app1) (by decide) (by decide) (by decide) HP3.out (fun b o e => (by cases e; exact HNO.out _ (by omega))) (fun p hp b o e => ?_) rfl (Nat.le_refl _) (by decide) (by decide)).mono ?_
  · simp only [List.mem_cons, List.not_mem_nil, or_false] at hp
    rcases hp with rfl | rfl <;> cases e <;> exact HNO.out _ (by omega)
  rintro _ w4 ⟨a4, c4, F4, rfl, hc4, hK4, _, _, _⟩
  have hK4' : KSt w w4 F4 g 1 sφ1 (w1.heap.size + 1) w1.heap.size := hK4
  have HK4 := Lib.hid hK4'
  clear hK4 hK4'
  dsimp only
  (repeat' ((fail_if_success at_builtin); first | go_values | go_skip | go_guarded | go_step | go_upon))
  refine (appendOne HK4.out ⟨#[97, 110, 110]⟩ ⟨#[98]⟩ ⟨#[115]⟩ 2 sK2 s_app2 (by decide) (by decide) (by decide) (by decide) (by rw [s_at1]; decide)).mono ?_
  rintro _ w5 ⟨a5, c5, F5, rfl, hc5, hK5, hR5, _, _⟩
  have hK5' : KSt w w5 F5 g 2 sφ2 (w1.heap.size + 1) w1.heap.size := hK5
  have HK5 := Lib.hid hK5'
  clear hK5 hK5'
  clear hR5
  dsimp only
  (repeat' ((fail_if_success at_builtin); first | go_values | go_skip | go_guarded | go_step | go_upon))
  refine (appendOne HK5.out ⟨#[98, 111, 98]⟩ ⟨#[97]⟩ ⟨#[115]⟩ 0 sKB s_appB (by decide) (by decide) (by decide) (by decide) (by rw [s_at2]; decide)).mono ?_
  rintro _ w6 ⟨a6, c6, F6, rfl, hc6, hK6, hR6, _, _⟩
  have hK6' : KSt w w6 F6 g 3 sφ3 (w1.heap.size + 1) w1.heap.size := hK6
  have HK6 := Lib.hid hK6'
  clear hK6 hK6'
  clear hR6
  dsimp only
  (repeat' ((fail_if_success at_builtin); first | go_values | go_skip | go_guarded | go_step | go_upon))
  refine (appendOne HK6.out ⟨#[97, 110, 110]⟩ ⟨#[97]⟩ ⟨#[116]⟩ 5 sK4 s_app4 (by decide) (by decide) (by decide) (by decide) (by rw [s_at3]; decide)).mono ?_
  rintro _ w7 ⟨a7, c7, F7, rfl, hc7, hK7, hR7, _, _⟩
  have hK7' : KSt w w7 F7 g 4 sφ4 (w1.heap.size + 1) w1.heap.size := hK7
  have HK7 := Lib.hid hK7'
  clear hK7 hK7'
  obtain ⟨b7, o7, rfl, sa7, sn7, sc7, _, hcl7⟩ := hR7.get 0 _ rfl
  have p1 : w7.cell? ⟨b7, o7 + 1, none⟩ = some (.string ⟨#[116]⟩) := by have := hcl7 1 _ rfl; simpa using this
  have p2 : w7.cell? ⟨b7, o7 + 2, none⟩ = some (.int .i64 3) := by have := hcl7 2 _ rfl; simpa using this
  have p3 : w7.cell? ⟨b7, o7 + 3, none⟩ = some (.int .i64 4) := by have := hcl7 3 _ rfl; simpa using this
  have p4 : w7.cell? ⟨b7, o7 + 4, none⟩ = some (.int .i64 6) := by have := hcl7 4 _ rfl; simpa using this
  clear hcl7 hR7
  rw [show sK4.length = 1 from rfl]
  dsimp only
  (repeat' ((fail_if_success at_builtin); first | go_values | go_skip | go_guarded | go_step | go_upon))
  clear p1 p2 p3 p4
  refine (readSS HK7.out.s ⟨#[97, 110, 110]⟩ ⟨#[97]⟩ 2 9 (by decide) (by decide) (by decide) (by decide)).mono ?_
  rw [s_ra]
  rintro _ w8 h8
  obtain ⟨a8, c8, rfl, hc8, hB8, hR8⟩ := h8.row
  have HK8 := Lib.hid (HK7.out.below hB8)
  have HR8_8 := Lib.hid (hR8 F7 HK7.out.s.low)
  clear h8 hR8 hB8 HK7
  rw [show (sRA : List EvS).length = 2 from rfl]
  dsimp only
  (repeat' ((fail_if_success at_builtin); first | go_values | go_skip | go_guarded | go_step | go_upon))
  refine (allS HK8.out.s ⟨#[97, 110, 110]⟩ 3 9 (by decide) (by decide) (by decide)).mono ?_
  rw [s_rb]
  rintro _ w9 h9
  obtain ⟨a9, c9, rfl, hc9, hB9, hR9⟩ := h9.row
  have HK9 := Lib.hid (HK8.out.below hB9)
  have HR8_9 := Lib.hid (HR8_8.out.below hB9)
  clear HR8_8
  have HR9_9 := Lib.hid (hR9 F7 HK8.out.s.low)
  clear h9 hR9 hB9 HK8
  rw [show (sRB : List EvS).length = 2 from rfl]
  dsimp only
  (repeat' ((fail_if_success at_builtin); first | go_values | go_skip | go_guarded | go_step | go_upon))
  refine (readSS HK9.out.s ⟨#[97, 110, 110]⟩ ⟨#[97]⟩ 4 9 (by decide) (by decide) (by decide) (by decide)).mono ?_
  rw [s_rc]
  rintro _ w10 h10
  obtain ⟨a10, c10, rfl, hc10, hB10, hR10⟩ := h10.row
  have HK10 := Lib.hid (HK9.out.below hB10)
  have HR8_10 := Lib.hid (HR8_9.out.below hB10)
  clear HR8_9
  have HR9_10 := Lib.hid (HR9_9.out.below hB10)
  clear HR9_9
  clear h10 hR10 hB10 HK9
  rw [show ([] : List EvS).length = 0 from rfl]
  dsimp only
  (repeat' ((fail_if_success at_builtin); first | go_values | go_skip | go_guarded | go_step | go_upon))
  refine (allS HK10.out.s ⟨#[97, 110, 110]⟩ (-9223372036854775808) 1 (by decide) (by decide) (by decide)).mono ?_
  rw [s_rd]
  rintro _ w11 h11
  obtain ⟨a11, c11, rfl, hc11, hB11, hR11⟩ := h11.row
  have HK11 := Lib.hid (HK10.out.below hB11)
  have HR8_11 := Lib.hid (HR8_10.out.below hB11)
  clear HR8_10
  have HR9_11 := Lib.hid (HR9_10.out.below hB11)
  clear HR9_10
  have HR11_11 := Lib.hid (hR11 F7 HK10.out.s.low)
  clear h11 hR11 hB11 HK10
  rw [show (sRD : List EvS).length = 1 from rfl]
  dsimp only
  (repeat' ((fail_if_success at_builtin); first | go_values | go_skip | go_guarded | go_step | go_upon))
  refine (allS HK11.out.s ⟨#[97, 110, 110]⟩ 1 (-1) (by decide) (by decide) (by decide)).mono ?_
  rw [s_rf]
  rintro _ w12 h12
  obtain ⟨a12, c12, rfl, hc12, hB12, hR12⟩ := h12.row
  have HK12 := Lib.hid (HK11.out.below hB12)
  have HR8_12 := Lib.hid (HR8_11.out.below hB12)
  clear HR8_11
  have HR9_12 := Lib.hid (HR9_11.out.below hB12)
  clear HR9_11
  have HR11_12 := Lib.hid (HR11_11.out.below hB12)
  clear HR11_11
  clear h12 hR12 hB12 HK11
  rw [show ([] : List EvS).length = 0 from rfl]
  dsimp only
  (repeat' ((fail_if_success at_builtin); first | go_values | go_skip | go_guarded | go_step | go_upon))
  refine (allS HK12.out.s ⟨#[97, 110, 110]⟩ 9223372036854775807 5 (by decide) (by decide) (by decide)).mono ?_
  rw [s_rg]
  rintro _ w13 h13
  obtain ⟨a13, c13, rfl, hc13, hB13, hR13⟩ := h13.row
  have HK13 := Lib.hid (HK12.out.below hB13)
  have HR8_13 := Lib.hid (HR8_12.out.below hB13)
  clear HR8_12
  have HR9_13 := Lib.hid (HR9_12.out.below hB13)
  clear HR9_12
  have HR11_13 := Lib.hid (HR11_12.out.below hB13)
  clear HR11_12
  clear h13 hR13 hB13 HK12
  rw [show ([] : List EvS).length = 0 from rfl]
  dsimp only
  (repeat' ((fail_if_success at_builtin); first | go_values | go_skip | go_guarded | go_step | go_upon))
  refine (appendK HK13.out ⟨#[97, 110, 110]⟩ ⟨#[99]⟩ ⟨#[115]⟩ 0 none 0 0 [] [] rfl (by decide) (by decide) (by decide) ⟨RdC.nil _ _, fun p hp => (by cases hp)⟩ (fun b o e => (by cases e)) (fun p hp => (by cases hp)) rfl (Nat.le_refl _) (by decide) (by rw [s_at4]; decide)).mono ?_
  rintro _ w14 ⟨a14, c14, F14, rfl, hc14, hK14, _, hF14, hFr14⟩
  have hK14' : KSt w w14 F14 g 5 sφ5 (w1.heap.size + 1) w1.heap.size := hK14
  have HK14 := Lib.hid hK14'
  have hA := HR8_13.out.frm hFr14 (Nat.le_refl _) hF14
  have hB := HR9_13.out.frm hFr14 (Nat.le_refl _) hF14
  have hD := HR11_13.out.frm hFr14 (Nat.le_refl _) hF14
  obtain ⟨bA, oA, rfl, _, _, _, _, hA0⟩ := hA.get 0 _ rfl
  obtain ⟨bA', oA', eA, _, _, _, _, hA1⟩ := hA.get 1 _ rfl
  cases eA
  obtain ⟨bB, oB, rfl, _, _, _, _, hB0⟩ := hB.get 0 _ rfl
  obtain ⟨bB', oB', eB, _, _, _, _, hB1⟩ := hB.get 1 _ rfl
  cases eB
  obtain ⟨bD, oD, rfl, _, _, _, _, hD0⟩ := hD.get 0 _ rfl
  have qa0 : w14.cell? ⟨bA, oA + 2, none⟩ = some (.int .i64 2) := by have := hA0 2 _ rfl; simpa using this
  have qa1 : w14.cell? ⟨bA, oA + 6 + 2, none⟩ = some (.int .i64 3) := hA1 2 _ rfl
  have qb0 : w14.cell? ⟨bB, oB, none⟩ = some (.string ⟨#[98]⟩) := by have := hB0 0 _ rfl; simpa using this
  have qb1 : w14.cell? ⟨bB, oB + 6, none⟩ = some (.string ⟨#[97]⟩) := hB1 0 _ rfl
  have qd0 : w14.cell? ⟨bD, oD + 3, none⟩ = some (.int .i64 1) := by have := hD0 3 _ rfl; simpa using this
  clear hK14 hK14' hF14 hFr14 hA hB hD hA0 hA1 hB0 hB1 hD0 HR8_13 HR9_13 HR11_13 HK13
  rw [show ([] : List EvS).length = 0 from rfl]
  dsimp only
  (repeat' ((fail_if_success at_builtin); first | go_values | go_skip | go_guarded | go_step | go_upon))
  clear qa0 qa1 qb0 qb1 qd0
  refine (versionS HK14.out.s ⟨#[97, 110, 110]⟩ ⟨#[97]⟩ (by decide) (by decide) ).mono ?_
  rintro _ w15 ⟨rfl, hB15⟩
  rw [s_c1]
  have HK15 := Lib.hid (HK14.out.below hB15)
  clear HK14 hB15
  dsimp only
  (repeat' ((fail_if_success at_builtin); first | go_values | go_skip | go_guarded | go_step | go_upon))
  refine (countS HK15.out.s ⟨#[97, 110, 110]⟩ (by decide) ).mono ?_
  rintro _ w16 ⟨rfl, hB16⟩
  rw [s_at5]
  have HK16 := Lib.hid (HK15.out.below hB16)
  clear HK15 hB16
  dsimp only
  (repeat' ((fail_if_success at_builtin); first | go_values | go_skip | go_guarded | go_step | go_upon))
  refine (namesSS HK16.out.s ⟨#[97, 110, 110]⟩ (by decide) ).mono ?_
  rintro _ w17 ⟨rfl, hB17⟩
  rw [s_c3]
  have HK17 := Lib.hid (HK16.out.below hB17)
  clear HK16 hB17
  dsimp only
  (repeat' ((fail_if_success at_builtin); first | go_values | go_skip | go_guarded | go_step | go_upon))
  refine (countS HK17.out.s ⟨#[98, 111, 98]⟩ (by decide) ).mono ?_
  rintro _ w18 ⟨rfl, hB18⟩
  rw [s_c4]
  have HK18 := Lib.hid (HK17.out.below hB18)
  clear HK17 hB18
  dsimp only
  (repeat' ((fail_if_success at_builtin); first | go_values | go_skip | go_guarded | go_step | go_upon))
  refine (countS HK18.out.s ⟨#[]⟩ (by decide) ).mono ?_
  rintro _ w19 ⟨rfl, hB19⟩
  rw [s_c5]
  have HK19 := Lib.hid (HK18.out.below hB19)
  clear HK18 hB19
  dsimp only
  (repeat' ((fail_if_success at_builtin); first | go_values | go_skip | go_guarded | go_step | go_upon))
  refine (namesSS HK19.out.s ⟨#[101, 118, 101]⟩ (by decide) ).mono ?_
  rintro _ w20 ⟨rfl, hB20⟩
  rw [s_c6]
  have HK20 := Lib.hid (HK19.out.below hB20)
  clear HK19 hB20
  dsimp only
  (repeat' ((fail_if_success at_builtin); first | go_values | go_skip | go_guarded | go_step | go_upon))
  refine (sizeS HK20.out.s ⟨#[101, 118, 101]⟩ (by decide) ).mono ?_
  rintro _ w21 ⟨rfl, hB21⟩
  rw [s_c7]
  have HK21 := Lib.hid (HK20.out.below hB21)
  clear HK20 hB21
  dsimp only
  (repeat' ((fail_if_success at_builtin); first | go_values | go_skip | go_guarded | go_step | go_upon))
  refine (versionS HK21.out.s ⟨#[101, 118, 101]⟩ ⟨#[97]⟩ (by decide) (by decide) ).mono ?_
  rintro _ w22 ⟨rfl, hB22⟩
  rw [s_c8]
  have HK22 := Lib.hid (HK21.out.below hB22)
  clear HK21 hB22
  have hmk := HMK.out
  dsimp only
  (repeat' ((fail_if_success at_builtin); first | go_values | go_skip | go_guarded | go_step | go_upon))
  have hB23 : Below w22.heap.size w22 (w22.alloc (.cells arr 51)) := (Below.refl _ _).alloc (Nat.le_refl _) _
  have hrow : (w22.alloc (.cells arr 51)).heap[w22.heap.size]? = some (.cells (List.replicate 200 (Value.slice none 0 0)).toArray 51 (0, 0)) := by rw [HARR.out]; exact heap_alloc_new w22 _
  have hno : ¬ F14 w22.heap.size := fun hk => Nat.lt_irrefl _ (HK22.out.s.low _ hk)
  generalize w22.alloc (.cells arr 51) = w23 at *
  have hK23 := HK22.out.below hB23
  have HK23 := Lib.hid hK23
  have HP23 := Lib.hid (nil_pieces hrow)
  have HNO := Lib.hid hno
  clear hrow hno hK23 HK22 hB23 hmk
  refine (appendK HK23.out ⟨#[97, 110, 110]⟩ ⟨#[100]⟩ ⟨#[115]⟩ 0 (some ⟨w22.heap.size, 0, none⟩) 200 200 (List.replicate 200 nilP) sKD rfl (by decide) (by decide) (by decide) HP23.out (fun b o e => (by cases e; exact HNO.out)) (fun p hp b o e => (by rw [List.eq_of_mem_replicate hp] at e; cases e)) (List.length_replicate ..) (Nat.le_refl _) (by decide) (by rw [s_at5]; decide)).mono ?_
  rintro _ w24 ⟨a24, c24, F24, rfl, hc24, hK24, _, _, _⟩
  have hK24' : KSt w w24 F24 g 6 sφ6 (w1.heap.size + 1) w1.heap.size := hK24
  have HK24 := Lib.hid hK24'
  clear hK24 hK24' HK23 HP23 HNO
  generalize sKD.length = ld at *
  dsimp only
  (repeat' ((fail_if_success at_builtin); first | go_values | go_skip | go_guarded | go_step | go_upon))
  refine (allS HK24.out.s ⟨#[97, 110, 110]⟩ 1 4611686018427387904 (by decide) (by decide) (by decide)).mono ?_
  rintro _ w25 h25
  obtain ⟨a25, c25, rfl, hc25, hB25, _⟩ := h25.row
  rw [s_d1] at hc25 ⊢
  have HK25 := Lib.hid (HK24.out.below hB25)
  clear h25 hB25 HK24
  dsimp only
  (repeat' ((fail_if_success at_builtin); first | go_values | go_skip | go_guarded | go_step | go_upon))
  refine (readSS HK25.out.s ⟨#[97, 110, 110]⟩ ⟨#[100]⟩ 1 65 (by decide) (by decide) (by decide) (by decide)).mono ?_
  rintro _ w26 h26
  obtain ⟨a26, c26, rfl, hc26, hB26, _⟩ := h26.row
  rw [s_d2] at hc26 ⊢
  have HK26 := Lib.hid (HK25.out.below hB26)
  clear h26 hB26 HK25
  dsimp only
  (repeat' ((fail_if_success at_builtin); first | go_values | go_skip | go_guarded | go_step | go_upon))
  refine (namesSS HK26.out.s ⟨#[97, 110, 110]⟩ (by decide)).mono ?_
  rintro _ w27 ⟨rfl, hB27⟩
  rw [s_d3]
  have HK27 := Lib.hid (HK26.out.below hB27)
  clear hB27 HK26
  dsimp only
  (repeat' ((fail_if_success at_builtin); first | go_values | go_skip | go_guarded | go_step | go_upon))
  refine (known18 w27).mono ?_
  rintro _ w28 ⟨rfl, hB28⟩
  dsimp only
  (repeat' ((fail_if_success at_builtin); first | go_values | go_skip | go_guarded | go_step | go_upon))
  go_ret
  exact ⟨rfl, HK27.out.b.trans (hB28.mono HK27.out.b.size)⟩

end Go.Proofs.Ythgaghpakioglaa
