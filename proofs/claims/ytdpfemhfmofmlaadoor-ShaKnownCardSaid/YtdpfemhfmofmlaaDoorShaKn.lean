/- The law ShaKnown, walked: the constants are the roots' bits; rows of all lengths about the blocks' ends; published sums. -/
import Derived.Test.YtdpfemhfmofmlaaDoorShaPie
import Derived.Test.YtdpfemhfmofmlaaDoorShaWh
import Derived.Test.YtdpfemhfmofmlaaDoorPrimes
import Derived.Test.YtdpfemhfmofmlaaDoorRowK
import Derived.BigRegion
import Derived.RegionTactic
namespace Go.Proofs.YtdpfemhfmofmlaaDoor
set_option linter.unusedSimpArgs false
set_option linter.unusedVariables false
open Go.RowKit
set_option maxRecDepth 10000

theorem roots_k : (primesU 312).map (fun p => rootF p (decide ((3 : Int) = 2))) = wK := by kernel_rfl
theorem roots_h : (primesU 20).map (fun p => rootF p (decide ((2 : Int) = 2))) = wH := by kernel_rfl
theorem primes_64 : (primesU 312).length = 64 ∧ ∀ x, x < 312 → (primesU x).length < 64 := by decide +kernel
theorem primes_8 : (primesU 20).length = 8 ∧ ∀ x, x < 20 → (primesU x).length < 8 := by decide +kernel

def noneW : List UInt32 := [0xE3B0C442, 0x98FC1C14, 0x9AFBF4C8, 0x996FB924, 0x27AE41E4, 0x649B934C, 0xA495991B, 0x7852B855]
def twoW : List UInt32 := [0x248D6A61, 0xD20638B8, 0xE5C02693, 0x0C3E6039, 0xA33CE459, 0x64FF2167, 0xF6ECEDD4, 0x19DB06C1]
def twoT : List UInt8 := [97, 98, 99, 100, 98, 99, 100, 101, 99, 100, 101, 102, 100, 101, 102, 103, 101, 102, 103, 104, 102, 103, 104, 105, 103, 104, 105, 106, 104, 105, 106, 107, 105, 106, 107, 108, 106, 107, 108, 109, 107, 108, 109, 110, 108, 109, 110, 111, 109, 110, 111, 112, 110, 111, 112, 113]
theorem dig_none : wdig [] = wbytes noneW := by kernel_rfl
theorem dig_two : wdig twoT = wbytes twoW := by kernel_rfl

theorem wvs_cell {w : World} {b off : Nat} {l : List UInt32} (h : RdC w (some ⟨b, off, none⟩) (wvs l)) (k : Nat) (hk : k < l.length) : w.cell? ⟨b, off + k, none⟩ = some (.int .u32 (l[k].toNat : Int)) := by
  rw [h.cell k (by rw [wvs_length]; exact hk)]
  simp [wvs, wv]

theorem lawSumNone (D : List UInt8) (hD : wbytes noneW = D) (w : World) : Calls Tryd.prog 36 #[.agg #[.int .u32 3820012610, .int .u32 2566659092, .int .u32 2600203464, .int .u32 2574235940, .int .u32 665731556, .int .u32 1687917388, .int .u32 2761267483, .int .u32 2018687061]] w
    fun e w' => e = .returned (.agg (bvs D).toArray) ∧ Below w.heap.size w w' := by
  rw [← show (wvs noneW).toArray = #[.int .u32 3820012610, .int .u32 2566659092, .int .u32 2600203464, .int .u32 2574235940, .int .u32 665731556, .int .u32 1687917388, .int .u32 2761267483, .int .u32 2018687061] by kernel_rfl, ← hD]
  exact lawSum noneW w rfl
theorem lawSumTwo (D : List UInt8) (hD : wbytes twoW = D) (w : World) : Calls Tryd.prog 36 #[.agg #[.int .u32 613247585, .int .u32 3523623096, .int .u32 3854575251, .int .u32 205414457, .int .u32 2738676825, .int .u32 1694441831, .int .u32 4142722516, .int .u32 433784513]] w
    fun e w' => e = .returned (.agg (bvs D).toArray) ∧ Below w.heap.size w w' := by
  rw [← show (wvs twoW).toArray = #[.int .u32 613247585, .int .u32 3523623096, .int .u32 3854575251, .int .u32 205414457, .int .u32 2738676825, .int .u32 1694441831, .int .u32 4142722516, .int .u32 433784513] by kernel_rfl, ← hD]
  exact lawSum twoW w rfl
theorem rdc_newK (w : World) (cs : List Value) (t : TypeId) (fr : Nat × Nat) : RdC (w.alloc (.cells cs.toArray t fr)) (some ⟨w.heap.size, 0, none⟩) cs :=
  ⟨fun i hi => ⟨_, _, rfl, by rw [Nat.zero_add, cell_of_row _ w.heap.size i _ _ _ (heap_alloc_new w _)]; simp⟩⟩
abbrev KnS (w w' : World) : Prop := Tabs w' ∧ Below w.heap.size w w'
theorem kn_below {w w1 w2 : World} (hb : Below w1.heap.size w1 w2) (h : KnS w w1) : KnS w w2 := ⟨h.1.below hb h.1.size, h.2.trans (hb.mono h.2.size)⟩
theorem kn_alloc {w w1 : World} {o : Obj} (h : KnS w w1) : KnS w (w1.alloc o) := kn_below ((Below.refl w1.heap.size w1).alloc (Nat.le_refl _) o) h
abbrev KnD (w : World) (z1 z2 : Nat) (D1 D2 : List UInt8) (w' : World) : Prop := (w'.rangeAt z1 0 (bvs D1) ∧ w'.rangeAt z2 0 (bvs D2)) ∧ Tabs w' ∧ Below w.heap.size w w'
theorem knd_below {w w1 w2 : World} {z1 z2 : Nat} {D1 D2 : List UInt8} (hb : Below w1.heap.size w1 w2) (h : KnD w z1 z2 D1 D2 w1) : KnD w z1 z2 D1 D2 w2 :=
  ⟨⟨rangeAt_below h.1.1 hb (Nat.le_refl _), rangeAt_below h.1.2 hb (Nat.le_refl _)⟩, h.2.1.below hb h.2.1.size, h.2.2.trans (hb.mono h.2.2.size)⟩
theorem knd_alloc {w w1 : World} {z1 z2 : Nat} {D1 D2 : List UInt8} {o : Obj} (h : KnD w z1 z2 D1 D2 w1) : KnD w z1 z2 D1 D2 (w1.alloc o) := knd_below ((Below.refl w1.heap.size w1).alloc (Nat.le_refl _) o) h

theorem row_pieces {w : World} {a a2 : Option Addr} {k q c : Nat} {l : List UInt8} (hl : l.length = k) (hq : q ≤ k) (hc : k ≤ c) (hk : k ≤ 1000) (hr : RdB w a l) (ha : (if c = q then a else a.map (·.add q)) = a2)
    {b : Nat} (hrd : RdC w (some ⟨b, 0, none⟩) [.slice a q c, .slice none 0 0, .slice a2 (k - q) (c - q)]) :
    Pieces w (some ⟨b, 0, none⟩) [⟨a, q, c, l.take q⟩, ⟨none, 0, 0, []⟩, ⟨a2, k - q, c - q, l.drop q⟩] := by
  refine ⟨hrd, fun p hp => ?_⟩
  simp only [List.mem_cons, List.not_mem_nil, or_false] at hp
  rcases hp with rfl | rfl | rfl
  · exact ⟨by show (l.take q).length = q; rw [List.length_take]; omega, by show q ≤ c; omega, by show q ≤ _; omega, hr.takeB q⟩
  · exact ⟨rfl, Nat.le_refl _, Nat.zero_le _, RdC.nil _ _⟩
  · exact ⟨by show (l.drop q).length = k - q; rw [List.length_drop]; omega, by show k - q ≤ c - q; omega, by show k - q ≤ _; omega, hr.dropB q (fun h => by rw [← ha, if_neg (by omega)])⟩

set_option maxHeartbeats 8000000 in
theorem shaKnown_walk (w : World) (hT : Tabs w) :
    Calls Tryd.prog 7 #[] w fun e w' => e = .returned (.bool true) ∧ Below w.heap.size w w' := by
  have hts := hT.size
  have HT := Lib.hid hT; clear hT
  have HRK := Lib.hid (fun w => refRoots 64 312 3 w primes_64.1 primes_64.2 (by decide) (by decide) (by decide))
  have HRH := Lib.hid (fun w => refRoots 8 20 2 w primes_8.1 primes_8.2 (by decide) (by decide) (by decide))
  have hlK : wK.length = 64 := by kernel_rfl
  have hlH : wH.length = 8 := by kernel_rfl
  have HLK := Lib.hid hlK; clear hlK
  have HLH := Lib.hid hlH; clear hlH
  go_enter Tryd.func7, Tryd.ntmps7
  (repeat' ((fail_if_success at_builtin); first | go_values | go_skip | go_guarded | go_step | go_upon))
  refine (constants w).mono ?_
  rintro _ w1 ⟨a1, c1, rfl, hc1, hr1, hB1, _⟩
  dsimp only
  have HR1 := Lib.hid hr1; clear hr1
  (repeat' ((fail_if_success at_builtin); first | go_values | go_skip | go_guarded | go_step | go_upon))
  refine (HRK.out w1).mono ?_
  rintro _ w2 ⟨a2, c2, rfl, hc2, hr2, hB2, _⟩
  dsimp only
  rw [roots_k] at hr2
  have hB02 : Below w.heap.size w w2 := hB1.trans (hB2.mono hB1.size)
  have HR2 := Lib.hid hr2; clear hr2
  have hr12 := HR1.out.below hB2 (Nat.le_refl _)
  have HR12 := Lib.hid hr12; clear hr12
  clear hB1 hB2 HR1
  (repeat' ((fail_if_success at_builtin); first | go_values | go_skip | go_guarded | go_step | go_upon))
  go_loopw [3] (fun i wr => ∃ k : Nat, k ≤ 64 ∧ i = .int .i64 k ∧ Below w2.heap.size w2 wr) (fun i _ => 64 - (intOf i).toNat)
  case atStart => exact ⟨0, by omega, rfl, Below.refl _ _⟩
  case round =>
    obtain ⟨k, hk, rfl, hB⟩ := hrel
    by_cases hlt : k < 64
    · obtain ⟨b1, o1, rfl, _⟩ := HR12.out.lt (by rw [wvs_length, HLK.out]; decide)
      obtain ⟨b2, o2, rfl, _⟩ := HR2.out.lt (by rw [wvs_length, HLK.out]; decide)
      have cc1 := wvs_cell (HR12.out.below hB (Nat.le_refl _)) k (by rw [HLK.out]; exact hlt)
      have cc2 := wvs_cell (HR2.out.below hB (Nat.le_refl _)) k (by rw [HLK.out]; exact hlt)
      generalize wK[k]'(by rw [HLK.out]; exact hlt) = x at cc1 cc2
      have bk : (0 : Int) ≤ (k : Int) ∧ (k : Int) < 64 := by omega
      (repeat' ((fail_if_success at_builtin); first | go_values | go_skip | go_guarded | go_step | go_upon))
      go_region
      (repeat' ((fail_if_success at_builtin); first | go_values | go_skip | go_guarded | go_step | go_upon))
      go_roundw
      case rel => exact ⟨k + 1, by omega, by go_num, hB.drew⟩
      case measure => simp [intOf]; omega
    · have hB0 : Below w.heap.size w wr := hB02.trans (hB.mono hB02.size)
      clear hB hB02 HR2 HR12 hc1 hc2
      (repeat' ((fail_if_success at_builtin); first | go_values | go_skip | go_guarded | go_step | go_upon))
      refine (starts wr).mono ?_
      rintro _ w3 ⟨a3, c3, rfl, hc3, hr3, hB3, _⟩
      dsimp only
      have HR3 := Lib.hid hr3; clear hr3
      (repeat' ((fail_if_success at_builtin); first | go_values | go_skip | go_guarded | go_step | go_upon))
      refine (HRH.out w3).mono ?_
      rintro _ w4 ⟨a4, c4, rfl, hc4, hr4, hB4, _⟩
      dsimp only
      rw [roots_h] at hr4
      have hB04 : Below w.heap.size w w4 := (hB0.trans (hB3.mono hB0.size)).trans (hB4.mono (Nat.le_trans hB0.size hB3.size))
      have HR4 := Lib.hid hr4; clear hr4
      have hr34 := HR3.out.below hB4 (Nat.le_refl _)
      have HR34 := Lib.hid hr34; clear hr34
      clear hB3 hB4 HR3 hB0 hlt hk
      (repeat' ((fail_if_success at_builtin); first | go_values | go_skip | go_guarded | go_step | go_upon))
      go_loopw [5] (fun i wr => ∃ k : Nat, k ≤ 8 ∧ i = .int .i64 k ∧ Below w4.heap.size w4 wr) (fun i _ => 8 - (intOf i).toNat)
      case atStart => exact ⟨0, by omega, rfl, Below.refl _ _⟩
      case round =>
        obtain ⟨k, hk, rfl, hB⟩ := hrel
        by_cases hlt : k < 8
        · obtain ⟨b1, o1, rfl, _⟩ := HR34.out.lt (by rw [wvs_length, HLH.out]; decide)
          obtain ⟨b2, o2, rfl, _⟩ := HR4.out.lt (by rw [wvs_length, HLH.out]; decide)
          have cc1 := wvs_cell (HR34.out.below hB (Nat.le_refl _)) k (by rw [HLH.out]; exact hlt)
          have cc2 := wvs_cell (HR4.out.below hB (Nat.le_refl _)) k (by rw [HLH.out]; exact hlt)
          generalize wH[k]'(by rw [HLH.out]; exact hlt) = x at cc1 cc2
          have bk : (0 : Int) ≤ (k : Int) ∧ (k : Int) < 8 := by omega
          (repeat' ((fail_if_success at_builtin); first | go_values | go_skip | go_guarded | go_step | go_upon))
          go_region
          (repeat' ((fail_if_success at_builtin); first | go_values | go_skip | go_guarded | go_step | go_upon))
          go_roundw
          case rel => exact ⟨k + 1, by omega, by go_num, hB.drew⟩
          case measure => simp [intOf]; omega
        · have hB0 : Below w.heap.size w wr := hB04.trans (hB.mono hB04.size)
          clear hB hB04 HR4 HR34 hc3 hc4
          (repeat' ((fail_if_success at_builtin); first | go_values | go_skip | go_guarded | go_step | go_upon))
          go_loopw [6] (fun i wr => ∃ k : Nat, k ≤ 200 ∧ i = .int .i64 k ∧ Below w.heap.size w wr) (fun i _ => 200 - (intOf i).toNat)
          case atStart => exact ⟨0, by omega, rfl, hB0⟩
          case round =>
            clear hB0 hlt hk
            obtain ⟨k, hk, rfl, hB⟩ := hrel
            by_cases hlt : k < 200
            · (repeat' ((fail_if_success at_builtin); first | go_values | go_skip | go_guarded | go_step | go_upon))
              refine (kitRow k _ (by omega)).mono ?_
              rintro _ w6 ⟨a6, c6, rfl, hc6, hr6, hB6, hO6⟩
              dsimp only
              have hcm : c6 ≤ 9223372036854775807 := by
                obtain ⟨_, _, e6, _, h6, _⟩ := owns_slice hO6
                cases e6
                unfold maxLen at h6
                omega
              clear hO6
              have hB06 : Below w.heap.size w w6 := hB.trans (hB6.mono hB.size)
              have HR6 := Lib.hid hr6; clear hr6
              clear hB hB6
              obtain ⟨q, hq⟩ : ∃ q, k / 3 = q := ⟨_, rfl⟩
              obtain ⟨hh, hhh⟩ : ∃ q, k / 2 = q := ⟨_, rfl⟩
              obtain ⟨r, hr⟩ : ∃ r, k % 9 = r := ⟨_, rfl⟩
              have e1 : (k : Int).tdiv 3 = (q : Int) := by rw [Int.tdiv_eq_ediv_of_nonneg (by omega)]; omega
              have e2 : (k : Int).tdiv 2 = (hh : Int) := by rw [Int.tdiv_eq_ediv_of_nonneg (by omega)]; omega
              have e3 : (k : Int).tmod 9 = (r : Int) := by rw [Int.tmod_eq_emod_of_nonneg (by omega)]; omega
              have e1' : (k : Int) / 3 = (q : Int) := by omega
              have e2' : (k : Int) / 2 = (hh : Int) := by omega
              have e3' : (k : Int) % 9 = (r : Int) := by omega
              have hqk : q ≤ k := by omega
              have hhk : hh ≤ k := by omega
              clear hq hhh hr
              have f1 : IntKind.i64.wrap (q : Int) = (q : Int) := by rw [IntKind.wrap_i64]; omega
              have f2 : IntKind.i64.wrap (hh : Int) = (hh : Int) := by rw [IntKind.wrap_i64]; omega
              obtain ⟨a7, ha7⟩ : ∃ a7, (if c6 = q then a6 else a6.map (·.add q)) = a7 := ⟨_, rfl⟩
              have hsl : ∀ w, (Instr.slice 22 (.slice a6 k c6) (some (.int .i64 (q : Int))) none none).run Tryd.prog w = .ok (.slice a7 (k - q) (c6 - q)) w := fun w => by
                rw [← ha7]; exact run_slice_from _ _ Tryd.underlying22 hsz8 a6 k c6 q hqk w
              have HA7 := Lib.hid ha7; clear ha7
              have bcn : (0 : Int) ≤ (q : Int) ∧ (q : Int) ≤ (k : Int) ∧ (q : Int) ≤ (c6 : Int) := by omega
              have hS : KnS w w6.drew := kn_below ((Below.refl w6.heap.size w6).drew) ⟨HT.out.below hB06 hts, hB06⟩
              (repeat' ((fail_if_success at_builtin); first | go_values | go_skip | go_guarded | go_step | go_upon))
              refine wp_region_noPanic ?_
              refine wp_region_held_drew (S := KnS w) (by kernel_rfl) ?_ (fun hHeld => ?_)
              · (exact hS)
              refine wpAnyH_take (i := 0) (oi := _) (v := ?_) rfl (by kernel_rfl) (by kernel_rfl) (by kernel_rfl) (fun _ _ _ h => h) (Or.inl ⟨by kernel_rfl, ?_⟩) (by assumption) ?_
              rotate_left 1
              · (intro w hSw; (try dsimp only at hSw); go_simp; all_goals (with_reducible rfl))
              try simp only [Act.put, List.setIfInBounds_toArray, List.set_cons_zero, List.set_cons_succ]
              have hBz : Below w6.heap.size w6 w6.drew := (Below.refl w6.heap.size w6).drew
              refine wpAnyH_ready (rs := [1]) (by kernel_rfl) (by simp) ?_
              refine AllReadyH.cons (o := _) rfl (fun K hK => ?_) ?_
              rotate_left 1
              · exact AllReadyH.nil
              go_simp
              go_at_call 3
              refine (shaSums_walk a6 k c6 (rowL k) _ hHeld.1 (HR6.out.below hBz (Nat.le_refl _)) (rowL_length k) hc6 hcm).mono ?_
              rintro _ wA ⟨rfl, hBA⟩
              dsimp only
              have hB6A := hBz.trans (hBA.mono (Nat.le_refl _))
              refine hK.out _ _ ?_ (fun hHeld => ?_)
              · (exact kn_below hBA hHeld)
              clear hK K
              try simp only [Act.put, List.setIfInBounds_toArray, List.set_cons_zero, List.set_cons_succ]
              refine wpAnyH_take (i := 2) (oi := _) (v := ?_) rfl (by kernel_rfl) (by kernel_rfl) (by kernel_rfl) (fun _ _ _ h => h) (Or.inl ⟨by kernel_rfl, ?_⟩) (by assumption) ?_
              rotate_left 1
              · (intro w hSw; (try dsimp only at hSw); go_simp; all_goals (with_reducible rfl))
              try simp only [Act.put, List.setIfInBounds_toArray, List.set_cons_zero, List.set_cons_succ]
              refine wpAnyH_take (i := 3) (oi := _) (v := ?_) rfl (by kernel_rfl) (by kernel_rfl) (by kernel_rfl) (fun _ _ _ h => h) (Or.inl ⟨by kernel_rfl, ?_⟩) (by assumption) ?_
              rotate_left 1
              · (intro w hSw; (try dsimp only at hSw); go_simp; all_goals (with_reducible rfl))
              try simp only [Act.put, List.setIfInBounds_toArray, List.set_cons_zero, List.set_cons_succ]
              refine wpAnyH_take (i := 4) (oi := _) (v := ?_) rfl (by kernel_rfl) (by kernel_rfl) (by kernel_rfl) (fun _ _ _ h => h) (Or.inl ⟨by kernel_rfl, ?_⟩) (by assumption) ?_
              rotate_left 1
              · (intro w hSw; (try dsimp only at hSw); go_simp; all_goals (with_reducible rfl))
              try simp only [Act.put, List.setIfInBounds_toArray, List.set_cons_zero, List.set_cons_succ]
              refine wpAnyH_take (i := 5) (oi := _) (v := ?_) rfl (by kernel_rfl) (by kernel_rfl) (by kernel_rfl) (fun _ _ _ h => h) (Or.inl ⟨by kernel_rfl, ?_⟩) (by assumption) ?_
              rotate_left 1
              · (intro w hSw; (try dsimp only at hSw); go_simp; all_goals (with_reducible rfl))
              try simp only [Act.put, List.setIfInBounds_toArray, List.set_cons_zero, List.set_cons_succ]
              refine wpAnyH_take (i := 6) (oi := _) (v := ?_) rfl (by kernel_rfl) (by kernel_rfl) (by kernel_rfl) (fun _ _ _ h => h) (Or.inl ⟨by kernel_rfl, ?_⟩) (by assumption) ?_
              rotate_left 1
              · (intro w hSw; (try dsimp only at hSw); go_simp; all_goals (with_reducible rfl))
              try simp only [Act.put, List.setIfInBounds_toArray, List.set_cons_zero, List.set_cons_succ]
              refine wpAnyH_take (i := 7) (oi := _) (v := ?_) rfl (by kernel_rfl) (by kernel_rfl) (by kernel_rfl) (fun _ _ _ h => h) (Or.inl ⟨by kernel_rfl, ?_⟩) (by assumption) ?_
              rotate_left 1
              · (intro w hSw; (try dsimp only at hSw); go_simp; all_goals (with_reducible rfl))
              try simp only [Act.put, List.setIfInBounds_toArray, List.set_cons_zero, List.set_cons_succ]
              refine wpAnyH_take (i := 8) (oi := _) (v := ?_) rfl (by kernel_rfl) (by kernel_rfl) (by kernel_rfl) (fun _ _ _ h => h) (Or.inl ⟨by kernel_rfl, ?_⟩) (by assumption) ?_
              rotate_left 1
              · (intro w hSw; (try dsimp only at hSw); go_simp; all_goals (with_reducible rfl))
              try simp only [Act.put, List.setIfInBounds_toArray, List.set_cons_zero, List.set_cons_succ]
              refine wpAnyH_take (i := 9) (oi := _) (v := ?_) rfl (by kernel_rfl) (by kernel_rfl) (by kernel_rfl) (fun _ _ _ h => h) (Or.inl ⟨by kernel_rfl, ?_⟩) (by assumption) ?_
              rotate_left 1
              · (intro w hSw; (try dsimp only at hSw); go_simp; all_goals (with_reducible rfl))
              try simp only [Act.put, List.setIfInBounds_toArray, List.set_cons_zero, List.set_cons_succ]
              refine wpAnyH_take (i := 10) (oi := _) (v := ?_) rfl (by kernel_rfl) (by kernel_rfl) (by kernel_rfl) (fun _ _ _ h => h) (Or.inl ⟨by kernel_rfl, ?_⟩) (by assumption) ?_
              rotate_left 1
              · (intro w hSw; (try dsimp only at hSw); go_simp; all_goals (with_reducible rfl))
              try simp only [Act.put, List.setIfInBounds_toArray, List.set_cons_zero, List.set_cons_succ]
              refine wpAnyH_take (i := 11) (oi := _) (v := ?_) rfl (by kernel_rfl) (by kernel_rfl) (by kernel_rfl) (fun _ _ _ h => h) (Or.inl ⟨by kernel_rfl, ?_⟩) (by assumption) ?_
              rotate_left 1
              · (intro w hSw; (try dsimp only at hSw); go_simp; all_goals (with_reducible rfl))
              try simp only [Act.put, List.setIfInBounds_toArray, List.set_cons_zero, List.set_cons_succ]
              refine wpAnyH_ready (rs := [12]) (by kernel_rfl) (by simp) ?_
              refine AllReadyH.cons (o := _) rfl (fun K hK => ?_) ?_
              rotate_left 1
              · exact AllReadyH.nil
              go_simp
              refine hK.out _ _ ?_ (fun hHeld => ?_)
              · (exact kn_alloc hHeld)
              clear hK K
              try simp only [Act.put, List.setIfInBounds_toArray, List.set_cons_zero, List.set_cons_succ]
              have hB6B := hB6A.alloc hB6A.size (.cells #[.slice a6 q c6, .slice none 0 0, .slice a7 (k - q) (c6 - q)] 22)
              refine wpAnyH_ready (rs := [13]) (by kernel_rfl) (by simp) ?_
              refine AllReadyH.cons (o := _) rfl (fun K hK => ?_) ?_
              rotate_left 1
              · exact AllReadyH.nil
              go_simp
              go_at_call 4
              refine (shaPieces_walk _ 3 3 _ _ hHeld.1 (row_pieces (rowL_length k) hqk hc6 (by omega) (HR6.out.below hB6B (Nat.le_refl _)) HA7.out (rdc_newK wA [.slice a6 q c6, .slice none 0 0, .slice a7 (k - q) (c6 - q)] _ _)) rfl (by decide) (by decide)).mono ?_
              rintro _ wC ⟨rfl, hBC⟩
              dsimp only
              have hB6C := hB6B.trans (hBC.mono hB6B.size)
              refine hK.out _ _ ?_ (fun hHeld => ?_)
              · (exact kn_below hBC hHeld)
              clear hK K
              try simp only [Act.put, List.setIfInBounds_toArray, List.set_cons_zero, List.set_cons_succ]
              refine wpAnyH_take (i := 14) (oi := _) (v := ?_) rfl (by kernel_rfl) (by kernel_rfl) (by kernel_rfl) (fun _ _ _ h => h) (Or.inl ⟨by kernel_rfl, ?_⟩) (by assumption) ?_
              rotate_left 1
              · (intro w hSw; (try dsimp only at hSw); go_simp; all_goals (with_reducible rfl))
              try simp only [Act.put, List.setIfInBounds_toArray, List.set_cons_zero, List.set_cons_succ]
              refine wpAnyH_take (i := 15) (oi := _) (v := ?_) rfl (by kernel_rfl) (by kernel_rfl) (by kernel_rfl) (fun _ _ _ h => h) (Or.inl ⟨by kernel_rfl, ?_⟩) (by assumption) ?_
              rotate_left 1
              · (intro w hSw; (try dsimp only at hSw); go_simp; all_goals (with_reducible rfl))
              try simp only [Act.put, List.setIfInBounds_toArray, List.set_cons_zero, List.set_cons_succ]
              refine wpAnyH_take (i := 16) (oi := _) (v := ?_) rfl (by kernel_rfl) (by kernel_rfl) (by kernel_rfl) (fun _ _ _ h => h) (Or.inl ⟨by kernel_rfl, ?_⟩) (by assumption) ?_
              rotate_left 1
              · (intro w hSw; (try dsimp only at hSw); go_simp; all_goals (with_reducible rfl))
              try simp only [Act.put, List.setIfInBounds_toArray, List.set_cons_zero, List.set_cons_succ]
              refine wpAnyH_take (i := 17) (oi := _) (v := ?_) rfl (by kernel_rfl) (by kernel_rfl) (by kernel_rfl) (fun _ _ _ h => h) (Or.inl ⟨by kernel_rfl, ?_⟩) (by assumption) ?_
              rotate_left 1
              · (intro w hSw; (try dsimp only at hSw); go_simp; all_goals (with_reducible rfl))
              try simp only [Act.put, List.setIfInBounds_toArray, List.set_cons_zero, List.set_cons_succ]
              refine wpAnyH_take (i := 18) (oi := _) (v := ?_) rfl (by kernel_rfl) (by kernel_rfl) (by kernel_rfl) (fun _ _ _ h => h) (Or.inl ⟨by kernel_rfl, ?_⟩) (by assumption) ?_
              rotate_left 1
              · (intro w hSw; (try dsimp only at hSw); go_simp; all_goals (with_reducible rfl))
              try simp only [Act.put, List.setIfInBounds_toArray, List.set_cons_zero, List.set_cons_succ]
              by_cases hr9 : r = 0
              · have t9 : ((r : Int) == 0) = true := by simp; omega
                refine wpAnyH_take (i := 19) (oi := _) (v := ?_) rfl (by kernel_rfl) (by kernel_rfl) (by kernel_rfl) (fun _ _ _ h => h) (Or.inl ⟨by kernel_rfl, ?_⟩) (by assumption) ?_
                rotate_left 1
                · (intro w hSw; (try dsimp only at hSw); go_simp; all_goals (with_reducible rfl))
                try simp only [Act.put, List.setIfInBounds_toArray, List.set_cons_zero, List.set_cons_succ]
                refine wpAnyH_take (i := 20) (oi := _) (v := ?_) rfl (by kernel_rfl) (by kernel_rfl) (by kernel_rfl) (fun _ _ _ h => h) (Or.inl ⟨by kernel_rfl, ?_⟩) (by assumption) ?_
                rotate_left 1
                · (intro w hSw; (try dsimp only at hSw); go_simp; all_goals (with_reducible rfl))
                try simp only [Act.put, List.setIfInBounds_toArray, List.set_cons_zero, List.set_cons_succ]
                refine wpAnyH_take (i := 21) (oi := _) (v := ?_) rfl (by kernel_rfl) (by kernel_rfl) (by kernel_rfl) (fun _ _ _ h => h) (Or.inl ⟨by kernel_rfl, ?_⟩) (by assumption) ?_
                rotate_left 1
                · (intro w hSw; (try dsimp only at hSw); go_simp; all_goals (with_reducible rfl))
                try simp only [Act.put, List.setIfInBounds_toArray, List.set_cons_zero, List.set_cons_succ]
                refine wpAnyH_take (i := 22) (oi := _) (v := ?_) rfl (by kernel_rfl) (by kernel_rfl) (by kernel_rfl) (fun _ _ _ h => h) (Or.inl ⟨by kernel_rfl, ?_⟩) (by assumption) ?_
                rotate_left 1
                · (intro w hSw; (try dsimp only at hSw); go_simp; all_goals (with_reducible rfl))
                try simp only [Act.put, List.setIfInBounds_toArray, List.set_cons_zero, List.set_cons_succ]
                refine wpAnyH_take (i := 23) (oi := _) (v := ?_) rfl (by kernel_rfl) (by kernel_rfl) (by kernel_rfl) (fun _ _ _ h => h) (Or.inl ⟨by kernel_rfl, ?_⟩) (by assumption) ?_
                rotate_left 1
                · (intro w hSw; (try dsimp only at hSw); go_simp; all_goals (with_reducible rfl))
                try simp only [Act.put, List.setIfInBounds_toArray, List.set_cons_zero, List.set_cons_succ]
                refine wpAnyH_take (i := 24) (oi := _) (v := ?_) rfl (by kernel_rfl) (by kernel_rfl) (by kernel_rfl) (fun _ _ _ h => h) (Or.inl ⟨by kernel_rfl, ?_⟩) (by assumption) ?_
                rotate_left 1
                · (intro w hSw; (try dsimp only at hSw); go_simp; all_goals (with_reducible rfl))
                try simp only [Act.put, List.setIfInBounds_toArray, List.set_cons_zero, List.set_cons_succ]
                refine wpAnyH_ready (rs := [25]) (by kernel_rfl) (by simp) ?_
                refine AllReadyH.cons (o := _) rfl (fun K hK => ?_) ?_
                rotate_left 1
                · exact AllReadyH.nil
                go_simp
                go_at_call 5
                refine (shaWhole_walk a6 k c6 (rowL k) (hh : Int) (k : Int) _ hHeld.1 (HR6.out.below hB6C (Nat.le_refl _)) (rowL_length k) hc6 hcm (by omega) (by omega)).mono ?_
                rintro _ wD ⟨rfl, hBD⟩
                dsimp only
                refine hK.out _ _ ?_ (fun hHeld => ?_)
                · (exact kn_below hBD hHeld)
                clear hK K
                try simp only [Act.put, List.setIfInBounds_toArray, List.set_cons_zero, List.set_cons_succ]
                refine wpAnyH_take (i := 26) (oi := _) (v := ?_) rfl (by kernel_rfl) (by kernel_rfl) (by kernel_rfl) (fun _ _ _ h => h) (Or.inl ⟨by kernel_rfl, ?_⟩) (by assumption) ?_
                rotate_left 1
                · (intro w hSw; (try dsimp only at hSw); go_simp; all_goals (with_reducible rfl))
                try simp only [Act.put, List.setIfInBounds_toArray, List.set_cons_zero, List.set_cons_succ]
                refine wpAnyH_take (i := 27) (oi := _) (v := ?_) rfl (by kernel_rfl) (by kernel_rfl) (by kernel_rfl) (fun _ _ _ h => h) (Or.inl ⟨by kernel_rfl, ?_⟩) (by assumption) ?_
                rotate_left 1
                · (intro w hSw; (try dsimp only at hSw); go_simp; all_goals (with_reducible rfl))
                try simp only [Act.put, List.setIfInBounds_toArray, List.set_cons_zero, List.set_cons_succ]
                refine wpAnyH_take (i := 28) (oi := _) (v := ?_) rfl (by kernel_rfl) (by kernel_rfl) (by kernel_rfl) (fun _ _ _ h => h) (Or.inl ⟨by kernel_rfl, ?_⟩) (by assumption) ?_
                rotate_left 1
                · (intro w hSw; (try dsimp only at hSw); go_simp; all_goals (with_reducible rfl))
                try simp only [Act.put, List.setIfInBounds_toArray, List.set_cons_zero, List.set_cons_succ]
                refine wpAnyH_done (by kernel_rfl) ?_ _
                refine NoPanic.normal ?_
                (repeat' ((fail_if_success at_builtin); first | go_values | go_skip | go_guarded | go_step | go_upon))
                go_roundw
                case rel => exact ⟨k + 1, by omega, by go_num, hHeld.2⟩
                case measure => simp [intOf]; omega
              · have t9 : ((r : Int) == 0) = false := by simp; omega
                refine wpAnyH_take (i := 19) (oi := _) (v := ?_) rfl (by kernel_rfl) (by kernel_rfl) (by kernel_rfl) (fun _ _ _ h => h) (Or.inl ⟨by kernel_rfl, ?_⟩) (by assumption) ?_
                rotate_left 1
                · (intro w hSw; (try dsimp only at hSw); go_simp; all_goals (with_reducible rfl))
                try simp only [Act.put, List.setIfInBounds_toArray, List.set_cons_zero, List.set_cons_succ]
                refine wpAnyH_take (i := 20) (oi := _) (v := ?_) rfl (by kernel_rfl) (by kernel_rfl) (by kernel_rfl) (fun _ _ _ h => h) (Or.inl ⟨by kernel_rfl, ?_⟩) (by assumption) ?_
                rotate_left 1
                · (intro w hSw; (try dsimp only at hSw); go_simp; all_goals (with_reducible rfl))
                try simp only [Act.put, List.setIfInBounds_toArray, List.set_cons_zero, List.set_cons_succ]
                refine wpAnyH_take (i := 21) (oi := _) (v := undef) rfl (by kernel_rfl) (by kernel_rfl) (by kernel_rfl) (fun _ _ _ h => h) (Or.inr ⟨by kernel_rfl, rfl⟩) (by assumption) ?_
                try simp only [Act.put, List.setIfInBounds_toArray, List.set_cons_zero, List.set_cons_succ]
                refine wpAnyH_take (i := 22) (oi := _) (v := undef) rfl (by kernel_rfl) (by kernel_rfl) (by kernel_rfl) (fun _ _ _ h => h) (Or.inr ⟨by kernel_rfl, rfl⟩) (by assumption) ?_
                try simp only [Act.put, List.setIfInBounds_toArray, List.set_cons_zero, List.set_cons_succ]
                refine wpAnyH_take (i := 23) (oi := _) (v := undef) rfl (by kernel_rfl) (by kernel_rfl) (by kernel_rfl) (fun _ _ _ h => h) (Or.inr ⟨by kernel_rfl, rfl⟩) (by assumption) ?_
                try simp only [Act.put, List.setIfInBounds_toArray, List.set_cons_zero, List.set_cons_succ]
                refine wpAnyH_take (i := 24) (oi := _) (v := undef) rfl (by kernel_rfl) (by kernel_rfl) (by kernel_rfl) (fun _ _ _ h => h) (Or.inr ⟨by kernel_rfl, rfl⟩) (by assumption) ?_
                try simp only [Act.put, List.setIfInBounds_toArray, List.set_cons_zero, List.set_cons_succ]
                refine wpAnyH_ready (rs := [25]) (by kernel_rfl) (by simp) ?_
                refine AllReadyH.cons (o := _) rfl (fun K hK => ?_) ?_
                rotate_left 1
                · exact AllReadyH.nil
                go_simp
                skip
                refine hK.out _ _ ?_ (fun hHeld => ?_)
                · (assumption)
                clear hK K
                try simp only [Act.put, List.setIfInBounds_toArray, List.set_cons_zero, List.set_cons_succ]
                refine wpAnyH_take (i := 26) (oi := _) (v := undef) rfl (by kernel_rfl) (by kernel_rfl) (by kernel_rfl) (fun _ _ _ h => h) (Or.inr ⟨by kernel_rfl, rfl⟩) (by assumption) ?_
                try simp only [Act.put, List.setIfInBounds_toArray, List.set_cons_zero, List.set_cons_succ]
                refine wpAnyH_take (i := 27) (oi := _) (v := ?_) rfl (by kernel_rfl) (by kernel_rfl) (by kernel_rfl) (fun _ _ _ h => h) (Or.inl ⟨by kernel_rfl, ?_⟩) (by assumption) ?_
                rotate_left 1
                · (intro w hSw; (try dsimp only at hSw); go_simp; all_goals (with_reducible rfl))
                try simp only [Act.put, List.setIfInBounds_toArray, List.set_cons_zero, List.set_cons_succ]
                refine wpAnyH_take (i := 28) (oi := _) (v := ?_) rfl (by kernel_rfl) (by kernel_rfl) (by kernel_rfl) (fun _ _ _ h => h) (Or.inl ⟨by kernel_rfl, ?_⟩) (by assumption) ?_
                rotate_left 1
                · (intro w hSw; (try dsimp only at hSw); go_simp; all_goals (with_reducible rfl))
                try simp only [Act.put, List.setIfInBounds_toArray, List.set_cons_zero, List.set_cons_succ]
                refine wpAnyH_done (by kernel_rfl) ?_ _
                refine NoPanic.normal ?_
                (repeat' ((fail_if_success at_builtin); first | go_values | go_skip | go_guarded | go_step | go_upon))
                go_roundw
                case rel => exact ⟨k + 1, by omega, by go_num, hHeld.2⟩
                case measure => simp [intOf]; omega
            · have hTr := HT.out.below hB hts
              obtain ⟨iS, zS, hiS, hzS, hcS⟩ := fresh_parts zeroSum
              have HIS := Lib.hid hiS; clear hiS
              have HZS := Lib.hid hzS; clear hzS
              have HCS := Lib.hid hcS; clear hcS
              obtain ⟨D1, hD1⟩ : ∃ D, wbytes noneW = D := ⟨_, rfl⟩
              obtain ⟨D2, hD2⟩ : ∃ D, wbytes twoW = D := ⟨_, rfl⟩
              have hl1 : D1.length = 32 := by rw [← hD1, wbytes_length]
              have hl2 : D2.length = 32 := by rw [← hD2, wbytes_length]
              have heq1 := fun w => eqSumSame D1 hl1 w
              have heq2 := fun w => eqSumSame D2 hl2 w
              have b1 : (bvs D1).length = 32 := by rw [bvs_length]; exact hl1
              have b2 : (bvs D2).length = 32 := by rw [bvs_length]; exact hl2
              have HI1 := Lib.hid (show (Tryd.prog.info? 26).map (·.size) = some (bvs D1).length by rw [b1]; exact sizeSum)
              have HI2 := Lib.hid (show (Tryd.prog.info? 26).map (·.size) = some (bvs D2).length by rw [b2]; exact sizeSum)
              have HF1 := Lib.hid (show 0 + (bvs D1).length ≤ (List.replicate 32 (Value.int .u8 0)).toArray.size by rw [b1]; simp)
              have HF2 := Lib.hid (show 0 + (bvs D2).length ≤ (List.replicate 32 (Value.int .u8 0)).toArray.size by rw [b2]; simp)
              have HO1 := Lib.hid (bvs_oneCell D1)
              have HO2 := Lib.hid (bvs_oneCell D2)
              have HB1 := Lib.hid b1; clear b1
              have HB2 := Lib.hid b2; clear b2
              have HD1 := Lib.hid (dig_none.trans hD1)
              have HD2 := Lib.hid (dig_two.trans hD2)
              have HL1 := Lib.hid (fun w => lawSumNone D1 hD1 w)
              have HL2 := Lib.hid (fun w => lawSumTwo D2 hD2 w)
              have HEQ1 := Lib.hid heq1; clear heq1
              have HEQ2 := Lib.hid heq2; clear heq2
              clear hD1 hD2 hl1 hl2
              have HTR := Lib.hid hTr; clear hTr
              clear HRK HRH HLK HLH
              rename_i wr
              (repeat' ((fail_if_success at_builtin); first | go_values | go_skip | go_guarded | go_step | go_upon))
              refine (HL1.out _).mono ?_
              rintro _ w3 ⟨rfl, hB3⟩
              dsimp only
              (repeat' ((fail_if_success at_builtin); first | (first | ((with_reducible refine wpList_alloc_fresh (w := w3) rfl 26 rfl _ iS zS HIS.out HZS.out HCS.out ?_); intro w4 hg4 hB4 hs4; have HG4 := Lib.hid hg4; clear hg4; have HS4 := Lib.hid hs4; clear hs4) | ((with_reducible refine wpList_store_blk rfl 26 _ _ rfl w3.heap.size 0 (bvs D1) rfl rfl _ _ HG4.out HF1.out HI1.out HO1.out ?_); intro w5 hg5 hG5; rw [splice_whole _ _ (by rw [HB1.out];simp)] at hg5; have HG5 := Lib.hid hg5; clear hg5)) | go_values | go_skip | go_guarded | go_step | go_upon))
              have hB35 : Below w3.heap.size w3 w5 := hB4.grown hG5 (by have := HS4.out; omega) (fun g e => by cases e; exact Nat.le_refl _)
              have hB05 : Below w.heap.size w w5 := (hB.trans (hB3.mono hB.size)).trans (hB35.mono (Nat.le_trans hB.size hB3.size))
              refine (HL2.out _).mono ?_
              rintro _ w6 ⟨rfl, hB6⟩
              dsimp only
              have hg6 := (hB6.block w3.heap.size (Array.getElem?_eq_some_iff.1 HG5.out).1).trans HG5.out
              have HG6 := Lib.hid hg6; clear hg6
              (repeat' ((fail_if_success at_builtin); first | (first | ((with_reducible refine wpList_alloc_fresh (w := w6) rfl 26 rfl _ iS zS HIS.out HZS.out HCS.out ?_); intro w7 hg7 hB7 hs7; have HG7 := Lib.hid hg7; clear hg7; have HS7 := Lib.hid hs7; clear hs7) | ((with_reducible refine wpList_store_blk rfl 26 _ _ rfl w6.heap.size 0 (bvs D2) rfl rfl _ _ HG7.out HF2.out HI2.out HO2.out ?_); intro w8 hg8 hG8; rw [splice_whole _ _ (by rw [HB2.out];simp)] at hg8; have HG8 := Lib.hid hg8; clear hg8)) | go_values | go_skip | go_guarded | go_step | go_upon))
              have hB68 : Below w6.heap.size w6 w8 := hB7.grown hG8 (by have := HS7.out; omega) (fun g e => by cases e; exact Nat.le_refl _)
              have hB58 : Below w5.heap.size w5 w8 := hB6.trans (hB68.mono hB6.size)
              have hB08 : Below w.heap.size w w8 := hB05.trans (hB58.mono hB05.size)
              have hg8 := (hB68.block w3.heap.size (Array.getElem?_eq_some_iff.1 HG6.out).1).trans HG6.out
              have hS : KnD w w3.heap.size w6.heap.size D1 D2 w8.drew := knd_below ((Below.refl w8.heap.size w8).drew) ⟨⟨rangeAt_whole hg8, rangeAt_whole HG8.out⟩, HT.out.below hB08 hts, hB08⟩
              clear hg8 hB35 hB4 hG5 hB68 hB7 hG8 hB6 hB3
              have hu26 : Tryd.prog.underlying 26 = some _ := Tryd.underlying26
              have hi1 := HI1.out
              have hi2 := HI2.out
              have heq1 := HEQ1.out
              have heq2 := HEQ2.out
              have kc := fun (w : World) (C : Array Value) (n c : Nat) => Lib.run_convert_bytes_const (P := Tryd.prog) w 22 5 C n c Tryd.underlying22 Tryd.underlying5
              refine wp_region_noPanic ?_
              refine wp_region_held_drew (S := KnD w w3.heap.size w6.heap.size D1 D2) (by kernel_rfl) ?_ (fun hHeld => ?_)
              · (exact hS)
              refine' wpAnyH_take (i := 1) (oi := _) (v := _) rfl (by kernel_rfl) (by kernel_rfl) (by kernel_rfl) (fun _ _ _ h => h) (yieldsIf_load_mid (by rfl) _ _ rfl _ _ rfl _ _ ?ls1 ?lu1 ?ld1 ?li1) (by assumption) ?lr1
              case ls1 => (intro w hSw; (try dsimp only at hSw); go_split_ands; assumption)
              case lu1 => assumption
              case ld1 => rfl
              case li1 => first | assumption | (simp only [*]; done)
              try simp only [Act.put, List.setIfInBounds_toArray, List.set_cons_zero, List.set_cons_succ]
              refine wpAnyH_ready (rs := [0]) (by kernel_rfl) (by simp) ?_
              refine AllReadyH.cons (o := _) rfl (fun K hK => ?_) ?_
              rotate_left 1
              · exact AllReadyH.nil
              go_simp
              go_at_call 24
              refine (shaSumOf none 0 0 [] D1 _ HD1.out hHeld.2.1 (RdC.nil _ _) rfl (Nat.le_refl _) (by decide)).mono ?_
              rintro _ wA ⟨rfl, hBA⟩
              dsimp only
              refine hK.out _ _ ?_ (fun hHeld => ?_)
              · (exact knd_below hBA hHeld)
              clear hK K
              try simp only [Act.put, List.setIfInBounds_toArray, List.set_cons_zero, List.set_cons_succ]
              refine wpAnyH_take (i := 2) (oi := _) (v := ?_) rfl (by kernel_rfl) (by kernel_rfl) (by kernel_rfl) (fun _ _ _ h => h) (Or.inl ⟨by kernel_rfl, ?_⟩) (by assumption) ?_
              rotate_left 1
              · (intro w hSw; (try dsimp only at hSw); go_simp; all_goals (with_reducible rfl))
              try simp only [Act.put, List.setIfInBounds_toArray, List.set_cons_zero, List.set_cons_succ]
              refine wpAnyH_take (i := 3) (oi := _) (v := ?_) rfl (by kernel_rfl) (by kernel_rfl) (by kernel_rfl) (fun _ _ _ h => h) (Or.inl ⟨by kernel_rfl, ?_⟩) (by assumption) ?_
              rotate_left 1
              · (intro w hSw; (try dsimp only at hSw); go_simp; all_goals (with_reducible rfl))
              try simp only [Act.put, List.setIfInBounds_toArray, List.set_cons_zero, List.set_cons_succ]
              refine' wpAnyH_take (i := 6) (oi := _) (v := _) rfl (by kernel_rfl) (by kernel_rfl) (by kernel_rfl) (fun _ _ _ h => h) (yieldsIf_load_mid (by rfl) _ _ rfl _ _ rfl _ _ ?ls2 ?lu2 ?ld2 ?li2) (by assumption) ?lr2
              case ls2 => (intro w hSw; (try dsimp only at hSw); go_split_ands; assumption)
              case lu2 => assumption
              case ld2 => rfl
              case li2 => first | assumption | (simp only [*]; done)
              try simp only [Act.put, List.setIfInBounds_toArray, List.set_cons_zero, List.set_cons_succ]
              refine wpAnyH_ready (rs := [4]) (by kernel_rfl) (by simp) ?_
              refine AllReadyH.cons (o := _) rfl (fun K hK => ?_) ?_
              rotate_left 1
              · exact AllReadyH.nil
              go_simp
              go_at_call 27
              refine (hNew _ hHeld.2.1).mono ?_
              rintro _ wB ⟨rfl, hhB, hBB, hsB⟩
              dsimp only
              refine hK.out _ _ ?_ (fun hHeld => ?_)
              · (exact knd_below hBB hHeld)
              clear hK K
              try simp only [Act.put, List.setIfInBounds_toArray, List.set_cons_zero, List.set_cons_succ]
              refine wpAnyH_ready (rs := [5]) (by kernel_rfl) (by simp) ?_
              refine AllReadyH.cons (o := _) rfl (fun K hK => ?_) ?_
              rotate_left 1
              · exact AllReadyH.nil
              go_simp
              go_at_call 30
              refine (hSumOf _ [] D1 _ HD1.out hHeld.2.1 hhB (by decide)).mono ?_
              rintro _ wC ⟨rfl, hBC⟩
              dsimp only
              refine hK.out _ _ ?_ (fun hHeld => ?_)
              · (exact knd_below hBC hHeld)
              clear hK K
              try simp only [Act.put, List.setIfInBounds_toArray, List.set_cons_zero, List.set_cons_succ]
              refine wpAnyH_take (i := 7) (oi := _) (v := ?_) rfl (by kernel_rfl) (by kernel_rfl) (by kernel_rfl) (fun _ _ _ h => h) (Or.inl ⟨by kernel_rfl, ?_⟩) (by assumption) ?_
              rotate_left 1
              · (intro w hSw; (try dsimp only at hSw); go_simp; all_goals (with_reducible rfl))
              try simp only [Act.put, List.setIfInBounds_toArray, List.set_cons_zero, List.set_cons_succ]
              refine wpAnyH_take (i := 8) (oi := _) (v := ?_) rfl (by kernel_rfl) (by kernel_rfl) (by kernel_rfl) (fun _ _ _ h => h) (Or.inl ⟨by kernel_rfl, ?_⟩) (by assumption) ?_
              rotate_left 1
              · (intro w hSw; (try dsimp only at hSw); go_simp; all_goals (with_reducible rfl))
              try simp only [Act.put, List.setIfInBounds_toArray, List.set_cons_zero, List.set_cons_succ]
              refine wpAnyH_take (i := 9) (oi := _) (v := ?_) rfl (by kernel_rfl) (by kernel_rfl) (by kernel_rfl) (fun _ _ _ h => h) (Or.inl ⟨by kernel_rfl, ?_⟩) (by assumption) ?_
              rotate_left 1
              · (intro w hSw; (try dsimp only at hSw); go_simp; all_goals (with_reducible rfl))
              try simp only [Act.put, List.setIfInBounds_toArray, List.set_cons_zero, List.set_cons_succ]
              refine' wpAnyH_take (i := 13) (oi := _) (v := _) rfl (by kernel_rfl) (by kernel_rfl) (by kernel_rfl) (fun _ _ _ h => h) (yieldsIf_load_mid (by rfl) _ _ rfl _ _ rfl _ _ ?ls3 ?lu3 ?ld3 ?li3) (by assumption) ?lr3
              case ls3 => (intro w hSw; (try dsimp only at hSw); go_split_ands; assumption)
              case lu3 => assumption
              case ld3 => rfl
              case li3 => first | assumption | (simp only [*]; done)
              try simp only [Act.put, List.setIfInBounds_toArray, List.set_cons_zero, List.set_cons_succ]
              have hSC := hHeld
              refine wpAnyH_ready (rs := [10]) (by kernel_rfl) (by simp) ?_
              refine AllReadyH.cons (o := _) rfl (fun K hK => ?_) ?_
              rotate_left 1
              · exact AllReadyH.nil
              go_simp
              refine hK.out _ _ ?_ (fun hHeld => ?_)
              · (exact knd_alloc hHeld)
              clear hK K
              try simp only [Act.put, List.setIfInBounds_toArray, List.set_cons_zero, List.set_cons_succ]
              refine wpAnyH_ready (rs := [11]) (by kernel_rfl) (by simp) ?_
              refine AllReadyH.cons (o := _) rfl (fun K hK => ?_) ?_
              rotate_left 1
              · exact AllReadyH.nil
              go_simp
              refine hK.out _ _ ?_ (fun hHeld => ?_)
              · (exact knd_alloc hSC)
              clear hK K
              try simp only [Act.put, List.setIfInBounds_toArray, List.set_cons_zero, List.set_cons_succ]
              refine wpAnyH_ready (rs := [12]) (by kernel_rfl) (by simp) ?_
              refine AllReadyH.cons (o := _) rfl (fun K hK => ?_) ?_
              rotate_left 1
              · exact AllReadyH.nil
              go_simp
              go_at_call 24
              refine (shaSumOf _ 56 56 twoT D2 _ HD2.out hHeld.2.1 (rdb_newF wC twoT _ _) rfl (Nat.le_refl _) (by decide)).mono ?_
              rintro _ wD ⟨rfl, hBD⟩
              dsimp only
              refine hK.out _ _ ?_ (fun hHeld => ?_)
              · (exact knd_below hBD hHeld)
              clear hK K
              try simp only [Act.put, List.setIfInBounds_toArray, List.set_cons_zero, List.set_cons_succ]
              refine wpAnyH_take (i := 14) (oi := _) (v := ?_) rfl (by kernel_rfl) (by kernel_rfl) (by kernel_rfl) (fun _ _ _ h => h) (Or.inl ⟨by kernel_rfl, ?_⟩) (by assumption) ?_
              rotate_left 1
              · (intro w hSw; (try dsimp only at hSw); go_simp; all_goals (with_reducible rfl))
              try simp only [Act.put, List.setIfInBounds_toArray, List.set_cons_zero, List.set_cons_succ]
              refine wpAnyH_take (i := 15) (oi := _) (v := ?_) rfl (by kernel_rfl) (by kernel_rfl) (by kernel_rfl) (fun _ _ _ h => h) (Or.inl ⟨by kernel_rfl, ?_⟩) (by assumption) ?_
              rotate_left 1
              · (intro w hSw; (try dsimp only at hSw); go_simp; all_goals (with_reducible rfl))
              try simp only [Act.put, List.setIfInBounds_toArray, List.set_cons_zero, List.set_cons_succ]
              refine wpAnyH_take (i := 16) (oi := _) (v := ?_) rfl (by kernel_rfl) (by kernel_rfl) (by kernel_rfl) (fun _ _ _ h => h) (Or.inl ⟨by kernel_rfl, ?_⟩) (by assumption) ?_
              rotate_left 1
              · (intro w hSw; (try dsimp only at hSw); go_simp; all_goals (with_reducible rfl))
              try simp only [Act.put, List.setIfInBounds_toArray, List.set_cons_zero, List.set_cons_succ]
              refine wpAnyH_ready (rs := [17]) (by kernel_rfl) (by simp) ?_
              refine AllReadyH.cons (o := _) rfl (fun K hK => ?_) ?_
              rotate_left 1
              · exact AllReadyH.nil
              go_simp
              go_at_call 22
              refine (works01 _ hHeld.2.1).mono ?_
              rintro _ wE ⟨rfl, hBE⟩
              dsimp only
              refine hK.out _ _ ?_ (fun hHeld => ?_)
              · (exact knd_below hBE hHeld)
              clear hK K
              try simp only [Act.put, List.setIfInBounds_toArray, List.set_cons_zero, List.set_cons_succ]
              refine wpAnyH_take (i := 18) (oi := _) (v := ?_) rfl (by kernel_rfl) (by kernel_rfl) (by kernel_rfl) (fun _ _ _ h => h) (Or.inl ⟨by kernel_rfl, ?_⟩) (by assumption) ?_
              rotate_left 1
              · (intro w hSw; (try dsimp only at hSw); go_simp; all_goals (with_reducible rfl))
              try simp only [Act.put, List.setIfInBounds_toArray, List.set_cons_zero, List.set_cons_succ]
              refine wpAnyH_take (i := 19) (oi := _) (v := ?_) rfl (by kernel_rfl) (by kernel_rfl) (by kernel_rfl) (fun _ _ _ h => h) (Or.inl ⟨by kernel_rfl, ?_⟩) (by assumption) ?_
              rotate_left 1
              · (intro w hSw; (try dsimp only at hSw); go_simp; all_goals (with_reducible rfl))
              try simp only [Act.put, List.setIfInBounds_toArray, List.set_cons_zero, List.set_cons_succ]
              refine wpAnyH_done (by kernel_rfl) ?_ _
              refine NoPanic.normal ?_
              (repeat' ((fail_if_success at_builtin); first | go_values | go_skip | go_guarded | go_step | go_upon))
              go_ret
              exact ⟨rfl, hHeld.2.2⟩

end Go.Proofs.YtdpfemhfmofmlaaDoor
