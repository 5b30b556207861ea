/- sealerylaw01.works: the published sum of abc. -/
import Derived.Test.YtdpfemhfmofmlaaDoorLawSum
import Derived.Test.YtdpfemhfmofmlaaDoorShaSum
import Derived.Test.YtdpfemhfmofmlaaDoorAbc
import Derived.Stop.BytesEq
import Derived.Lib.SlBytesConst
namespace Go.Proofs.YtdpfemhfmofmlaaDoor
set_option linter.unusedSimpArgs false
open Go.RowKit
set_option maxRecDepth 10000

/-- Names that a tactic leaves taken: given free again. -/
structure Tags : Prop where
  hS : True
  hu : True
  hd : True
  hi : True
  hc : True
  rest : True

/-- What is equal as arrays. -/
theorem eqSum (a b : List UInt8) (ha : a.length = 32) (hb : b.length = 32) (w : World) : (binOp .eql 26 (.agg (bvs a).toArray) (.agg (bvs b).toArray)).run Tryd.prog w = .ok (.bool (a == b)) w :=
  run_eql_bytes w 26 5 32 Tryd.underlying26 Tryd.underlying5 (fun w => by kernel_rfl) a b ha hb

/-- The published sum of abc. -/
def abcW : List UInt32 := [0xBA7816BF, 0x8F01CFEA, 0x414140DE, 0x5DAE2223, 0xB00361A3, 0x96177A9C, 0xB410FF61, 0xF20015AD]
theorem abcCells : (wvs abcW).toArray = #[.int .u32 3128432319, .int .u32 2399260650, .int .u32 1094795486, .int .u32 1571693091, .int .u32 2953011619, .int .u32 2518121116, .int .u32 3021012833, .int .u32 4060091821] := by kernel_rfl

theorem lawSumAbc (D : List UInt8) (hD : wbytes abcW = D) (w : World) : Calls Tryd.prog 36 #[.agg #[.int .u32 3128432319, .int .u32 2399260650, .int .u32 1094795486, .int .u32 1571693091, .int .u32 2953011619, .int .u32 2518121116, .int .u32 3021012833, .int .u32 4060091821]] w
    fun e w' => e = .returned (.agg (bvs D).toArray) ∧ Below w.heap.size w w' := by
  rw [← abcCells, ← hD]
  exact lawSum abcW w rfl

/-- While two sums are held against one another: what is known of each world. -/
abbrev WS (w : World) (g zw : Nat) (M D : List UInt8) (w' : World) : Prop := w'.rangeAt zw 0 (bvs D) ∧ (Tabs w' ∧ HashAt w' g M M.length ∧ Below w.heap.size w w')
theorem ws_below {w w1 w2 : World} {g zw : Nat} {M D : List UInt8} (hb : Below w1.heap.size w1 w2) (h : WS w g zw M D w1) : WS w g zw M D w2 :=
  ⟨rangeAt_below h.1 hb (Nat.le_refl _), h.2.1.below hb h.2.1.size, h.2.2.1.below hb h.2.2.1.lt, h.2.2.2.trans (hb.mono h.2.2.2.size)⟩
theorem ws_alloc {w w1 : World} {g zw : Nat} {M D : List UInt8} {o : Obj} (h : WS w g zw M D w1) : WS w g zw M D (w1.alloc o) := ws_below ((Below.refl w1.heap.size w1).alloc (Nat.le_refl _) o) h
theorem ws_drew {w w1 : World} {g zw : Nat} {M D : List UInt8} (h : WS w g zw M D w1) : WS w g zw M D w1.drew := ws_below ((Below.refl w1.heap.size w1).drew) h
theorem ws_allocDrew {w w1 : World} {g zw : Nat} {M D : List UInt8} {o : Obj} (h : WS w g zw M D w1.drew) : WS w g zw M D (w1.alloc o).drew := ws_below (w1 := w1.drew) (show Below w1.heap.size w1.drew (w1.alloc o).drew from ⟨rfl, rfl, rfl, by simp, fun k hk => Go.heap_alloc_old w1 o hk⟩) h

theorem hSumAs (w0 : World) (g zw : Nat) (m M' D D' : List UInt8) (w : World) (hD : wdig m = D) (h : WS w0 g zw m D' w) (hb : m.length ≤ 500000000) (_ : M' = m) :
    Calls Tryd.prog 30 #[.pointer (some ⟨g, 0, none⟩)] w fun e w' => e = .returned (.agg (bvs D).toArray) ∧ Below w.heap.size w w' := by
  subst hD; exact hSum g m w h.2.1 h.2.2.1 hb

theorem shaSumAs (w0 : World) (g zw : Nat) (m l D D' : List UInt8) (a : Option Addr) (n c : Nat) (w : World) (hD : wdig l = D) (h : WS w0 g zw m D' w) (hr : RdB w a l) (en : l.length = n) (hc : n ≤ c) (hn : n ≤ 400000000) :
    Calls Tryd.prog 24 #[.slice a n c] w fun e w' => e = .returned (.agg (bvs D).toArray) ∧ Below w.heap.size w w' := by
  subst hD; exact shaSum a n c l w h.2.1 hr en hc hn

set_option maxHeartbeats 2000000 in
theorem works01 (w : World) (hT : Tabs w) :
    Calls Tryd.prog 22 #[] w fun e w' => e = .returned (.bool true) ∧ Below w.heap.size w w' := by
  obtain ⟨iS, zS, hiS, hzS, hcS⟩ := fresh_parts zeroSum
  have HIS := Lib.hid hiS; clear hiS
  have HZS := Lib.hid hzS; clear hzS
  have HCS := Lib.hid hcS; clear hcS
  have hts := hT.size
  have HT := Lib.hid hT; clear hT
  have kc := fun (w : World) (C : Array Value) (n c : Nat) => Lib.run_convert_bytes_const (P := Tryd.prog) w 22 5 C n c Tryd.underlying22 Tryd.underlying5
  go_enter Tryd.func22, Tryd.ntmps22
  (repeat' ((fail_if_success at_builtin); first | go_values | go_skip | go_guarded | go_step | go_upon))
  refine (hNew w HT.out).mono ?_
  rintro _ w1 ⟨rfl, hh1, hB1, hs1⟩
  dsimp only
  have HH1 := Lib.hid hh1; clear hh1
  have HS1 := Lib.hid hs1; clear hs1
  (repeat' ((fail_if_success at_builtin); first | go_values | go_skip | go_guarded | go_step | go_upon))
  refine (hWriteNew w.heap.size 2 [] [97, 98] _ _ w1 (HT.out.below hB1 hts) hts HH1.out rfl rfl (by simp)).mono ?_
  rintro _ w2 ⟨rfl, hh2, hF2⟩
  dsimp only
  have hB2 : Below w.heap.size w w2 := hB1.trans (hF2.belowOf (by have := HS1.out; omega) (fun k e => by omega))
  have hz2 : w.heap.size < w2.heap.size := hh2.lt
  have HH2 := Lib.hid hh2; clear hh2
  clear hF2
  (repeat' ((fail_if_success at_builtin); first | go_values | go_skip | go_guarded | go_step | go_upon))
  refine (hWriteNew w.heap.size 1 [97, 98] [99] _ _ w2 (HT.out.below hB2 hts) hts HH2.out rfl rfl (by simp)).mono ?_
  rintro _ w3 ⟨rfl, hh3, hF3⟩
  dsimp only
  have hB3 : Below w.heap.size w w3 := hB2.trans (hF3.belowOf (by omega) (fun k e => by omega))
  have HH3 := Lib.hid hh3; clear hh3
  have hz3 := hF3.size
  clear hF3
  obtain ⟨D, hD⟩ : ∃ D, wbytes abcW = D := ⟨_, rfl⟩
  have hDa : wdig [97, 98, 99] = D := dig_abc.trans hD
  have hDl : (bvs D).length = 32 := by rw [bvs_length, ← hD, wbytes_length]
  have heq : ∀ w, (binOp .eql 26 (.agg (bvs D).toArray) (.agg (bvs D).toArray)).run Tryd.prog w = .ok (.bool true) w := fun w => by
    rw [eqSum D D (by rw [← hD, wbytes_length]) (by rw [← hD, wbytes_length]) w]
    simp
  have hu26 : Tryd.prog.underlying 26 = some _ := Tryd.underlying26
  have hi26 : (Tryd.prog.info? 26).map (·.size) = some (bvs D).length := by rw [hDl]; exact sizeSum
  have hfD : 0 + (bvs D).length ≤ (List.replicate 32 (Value.int .u8 0)).toArray.size := by rw [hDl]; simp
  have HEQ := Lib.hid heq; clear heq
  have HI26 := Lib.hid hi26; clear hi26
  have HFD := Lib.hid hfD; clear hfD
  have HDO := Lib.hid (bvs_oneCell D)
  have HDL := Lib.hid hDl; clear hDl
  have HD := Lib.hid hD; clear hD
  have HDA := Lib.hid hDa; clear hDa
  have HU26 := Lib.hid hu26; clear hu26
  (repeat' ((fail_if_success at_builtin); first | go_values | go_skip | go_guarded | go_step | go_upon))
  refine (lawSumAbc D HD.out w3).mono ?_
  rintro _ w4 ⟨rfl, hB4⟩
  dsimp only
  (repeat' ((fail_if_success at_builtin); first | (first | ((with_reducible refine wpList_alloc_fresh (w := w4) rfl 26 rfl _ iS zS HIS.out HZS.out HCS.out ?_); intro w5 hg5 hB5 hs5; have HG5 := Lib.hid hg5; clear hg5; have HS5 := Lib.hid hs5; clear hs5) | ((with_reducible refine wpList_store_blk rfl 26 _ _ rfl w4.heap.size 0 (bvs D) rfl rfl _ _ HG5.out HFD.out HI26.out HDO.out ?_); intro w6 hg6 hG6; have HG6 := Lib.hid hg6; clear hg6)) | go_values | go_skip | go_guarded | go_step | go_upon))
  have hg6 := HG6.out
  rw [splice_whole _ _ (by rw [HDL.out]; simp)] at hg6
  have hB46 : Below w4.heap.size w4 w6 := hB5.grown hG6 (by have := HS5.out; omega) (fun k e => by cases e; exact Nat.le_refl _)
  have hB36 : Below w3.heap.size w3 w6 := hB4.trans (hB46.mono hB4.size)
  have hws : WS w w.heap.size w4.heap.size [97, 98, 99] D w6 := ⟨rangeAt_whole hg6, HT.out.below (hB3.trans (hB36.mono hB3.size)) hts, HH3.out.below hB36 HH3.out.lt, hB3.trans (hB36.mono hB3.size)⟩
  clear hg6
  have hwsd := ws_drew hws
  clear hws
  have heq := HEQ.out
  have hu26 := HU26.out
  have hi26 := HI26.out
  have hl26 := HDL.out
  have ho26 := HDO.out
  refine wp_region_noPanic ?_
  refine wp_region_held_drew (S := WS w w.heap.size w4.heap.size [97, 98, 99] D) (by kernel_rfl) ?_ (fun hHeld => ?_)
  · (first | assumption | (apply ws_below; assumption; assumption) | (apply ws_allocDrew; assumption) | (apply ws_alloc; assumption))
  refine wpAnyH_take (i := 0) (oi := _) (v := ?_) rfl (by kernel_rfl) (by kernel_rfl) (by kernel_rfl) (fun _ _ _ h => h) (Or.inl ⟨by rfl, ?_⟩) (by assumption) ?_
  rotate_left 1
  · (intro w hSw; (try dsimp only at hSw); go_simp; all_goals (with_reducible rfl))
  try simp only [Act.put, List.setIfInBounds_toArray, List.set_cons_zero, List.set_cons_succ]
  refine' wpAnyH_take (i := 2) (oi := _) (v := _) rfl (by kernel_rfl) (by kernel_rfl) (by kernel_rfl) (fun _ _ _ h => h) (yieldsIf_load_mid (by rfl) _ _ rfl _ _ rfl _ _ ?ls1 ?lu1 ?ld1 ?li1) (by assumption) ?lr1
  case ls1 => (intro w hSw; (try dsimp only at hSw); go_split_ands; assumption)
  case lu1 => assumption
  case ld1 => rfl
  case li1 => first | assumption | (simp only [*]; done)
  try simp only [Act.put, List.setIfInBounds_toArray, List.set_cons_zero, List.set_cons_succ]
  refine wpAnyH_ready (rs := [1]) (by kernel_rfl) (by simp) ?_
  refine AllReadyH.cons (o := _) rfl (fun K hK => ?_) ?_
  rotate_left 1
  · exact AllReadyH.nil
  go_simp
  go_at_call 30
  refine (hSumAs w w.heap.size w4.heap.size [97, 98, 99] [97, 98, 99] D D _ HDA.out (by assumption) (by simp) rfl).mono ?_
  rintro _ wA ⟨rfl, hBA⟩
  dsimp only
  have HWA := Lib.hid (ws_below hBA (by assumption))
  refine hK.out _ _ ?_ (fun hHeld => ?_)
  · (first | assumption | (apply ws_below; assumption; assumption) | (apply ws_allocDrew; assumption) | (apply ws_alloc; exact HWA.out) | (apply ws_alloc; assumption))
  clear hK K
  try simp only [Act.put, List.setIfInBounds_toArray, List.set_cons_zero, List.set_cons_succ]
  refine wpAnyH_take (i := 3) (oi := _) (v := ?_) rfl (by kernel_rfl) (by kernel_rfl) (by kernel_rfl) (fun _ _ _ h => h) (Or.inl ⟨by rfl, ?_⟩) (by assumption) ?_
  rotate_left 1
  · (intro w hSw; (try dsimp only at hSw); go_simp; all_goals (with_reducible rfl))
  try simp only [Act.put, List.setIfInBounds_toArray, List.set_cons_zero, List.set_cons_succ]
  refine wpAnyH_take (i := 4) (oi := _) (v := ?_) rfl (by kernel_rfl) (by kernel_rfl) (by kernel_rfl) (fun _ _ _ h => h) (Or.inl ⟨by rfl, ?_⟩) (by assumption) ?_
  rotate_left 1
  · (intro w hSw; (try dsimp only at hSw); go_simp; all_goals (with_reducible rfl))
  try simp only [Act.put, List.setIfInBounds_toArray, List.set_cons_zero, List.set_cons_succ]
  refine' wpAnyH_take (i := 8) (oi := _) (v := _) rfl (by kernel_rfl) (by kernel_rfl) (by kernel_rfl) (fun _ _ _ h => h) (yieldsIf_load_mid (by rfl) _ _ rfl _ _ rfl _ _ ?ls2 ?lu2 ?ld2 ?li2) (by assumption) ?lr2
  case ls2 => (intro w hSw; (try dsimp only at hSw); go_split_ands; assumption)
  case lu2 => assumption
  case ld2 => rfl
  case li2 => first | assumption | (simp only [*]; done)
  try simp only [Act.put, List.setIfInBounds_toArray, List.set_cons_zero, List.set_cons_succ]
  refine wpAnyH_ready (rs := [5]) (by kernel_rfl) (by simp) ?_
  refine AllReadyH.cons (o := _) rfl (fun K hK => ?_) ?_
  rotate_left 1
  · exact AllReadyH.nil
  go_simp
  refine hK.out _ _ ?_ (fun hHeld => ?_)
  · (first | assumption | (apply ws_below; assumption; assumption) | (apply ws_allocDrew; assumption) | (apply ws_alloc; exact HWA.out) | (apply ws_alloc; assumption))
  clear hK K
  try simp only [Act.put, List.setIfInBounds_toArray, List.set_cons_zero, List.set_cons_succ]
  refine wpAnyH_ready (rs := [6]) (by kernel_rfl) (by simp) ?_
  refine AllReadyH.cons (o := _) rfl (fun K hK => ?_) ?_
  rotate_left 1
  · exact AllReadyH.nil
  go_simp
  refine hK.out _ _ ?_ (fun hHeld => ?_)
  · (first | assumption | (apply ws_below; assumption; assumption) | (apply ws_allocDrew; assumption) | (apply ws_alloc; exact HWA.out) | (apply ws_alloc; assumption))
  clear hK K
  try simp only [Act.put, List.setIfInBounds_toArray, List.set_cons_zero, List.set_cons_succ]
  refine wpAnyH_ready (rs := [7]) (by kernel_rfl) (by simp) ?_
  refine AllReadyH.cons (o := _) rfl (fun K hK => ?_) ?_
  rotate_left 1
  · exact AllReadyH.nil
  go_simp
  go_at_call 24
  refine (shaSumAs w w.heap.size w4.heap.size [97, 98, 99] [97, 98, 99] D D _ 3 3 _ HDA.out (by assumption) (rdb_newF wA [97, 98, 99] _ _) rfl (Nat.le_refl _) (by simp)).mono ?_
  rintro _ wB ⟨rfl, hBB⟩
  dsimp only
  refine hK.out _ _ ?_ (fun hHeld => ?_)
  · (first | assumption | (apply ws_below; assumption; assumption) | (apply ws_allocDrew; assumption) | (apply ws_alloc; exact HWA.out) | (apply ws_alloc; assumption))
  clear hK K
  try simp only [Act.put, List.setIfInBounds_toArray, List.set_cons_zero, List.set_cons_succ]
  refine wpAnyH_take (i := 9) (oi := _) (v := ?_) rfl (by kernel_rfl) (by kernel_rfl) (by kernel_rfl) (fun _ _ _ h => h) (Or.inl ⟨by rfl, ?_⟩) (by assumption) ?_
  rotate_left 1
  · (intro w hSw; (try dsimp only at hSw); go_simp; all_goals (with_reducible rfl))
  try simp only [Act.put, List.setIfInBounds_toArray, List.set_cons_zero, List.set_cons_succ]
  refine wpAnyH_take (i := 10) (oi := _) (v := ?_) rfl (by kernel_rfl) (by kernel_rfl) (by kernel_rfl) (fun _ _ _ h => h) (Or.inl ⟨by rfl, ?_⟩) (by assumption) ?_
  rotate_left 1
  · (intro w hSw; (try dsimp only at hSw); go_simp; all_goals (with_reducible rfl))
  try simp only [Act.put, List.setIfInBounds_toArray, List.set_cons_zero, List.set_cons_succ]
  refine wpAnyH_take (i := 11) (oi := _) (v := ?_) rfl (by kernel_rfl) (by kernel_rfl) (by kernel_rfl) (fun _ _ _ h => h) (Or.inl ⟨by rfl, ?_⟩) (by assumption) ?_
  rotate_left 1
  · (intro w hSw; (try dsimp only at hSw); go_simp; all_goals (with_reducible rfl))
  try simp only [Act.put, List.setIfInBounds_toArray, List.set_cons_zero, List.set_cons_succ]
  refine wpAnyH_done (by kernel_rfl) ?_ _
  refine NoPanic.normal ?_
  (repeat' ((fail_if_success at_builtin); first | go_values | go_skip | go_guarded | go_step | go_upon))
  go_ret
  exact ⟨rfl, hHeld.2.2.2⟩

end Go.Proofs.YtdpfemhfmofmlaaDoor
