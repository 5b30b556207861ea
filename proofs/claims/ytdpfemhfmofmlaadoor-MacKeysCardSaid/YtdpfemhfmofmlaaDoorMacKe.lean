/- The law MacKeys, walked. -/
import Derived.Test.YtdpfemhfmofmlaaDoorMacCo
import Derived.Test.YtdpfemhfmofmlaaDoorApp0
namespace Go.Proofs.YtdpfemhfmofmlaaDoor
set_option linter.unusedSimpArgs false
set_option linter.unusedVariables false
open Go.RowKit
set_option maxRecDepth 10000

theorem kpad_zeros (l : List UInt8) (k : Nat) (h : l.length + k ≤ 64) : kpad (l ++ List.replicate k 0) = kpad l := by
  unfold kpad
  rw [List.append_assoc, List.replicate_append_replicate, List.length_append, List.length_replicate, show k + (64 - (l.length + k)) = 64 - l.length by omega]
theorem hmac_zeros (l b : List UInt8) (k : Nat) (h : l.length + k ≤ 64) : hmac (l ++ List.replicate k 0) b = hmac l b := by
  have e : kblock (l ++ List.replicate k 0) = kblock l := by
    unfold kblock kshort
    rw [if_neg (by rw [List.length_append, List.length_replicate]; omega), if_neg (by omega), kpad_zeros l k h]
  unfold hmac
  rw [e]

def spad (l : List UInt8) : List UInt8 := l.take 32 ++ List.replicate (32 - min l.length 32) 0
theorem spad_length (l : List UInt8) : (spad l).length = 32 := by unfold spad; rw [List.length_append, List.length_take, List.length_replicate]; omega
theorem spad_short (l : List UInt8) (h : l.length ≤ 32) : spad l = l ++ List.replicate (32 - l.length) 0 := by
  unfold spad
  rw [List.take_of_length_le h, show 32 - min l.length 32 = 32 - l.length by omega]
theorem spad_cells (l : List UInt8) : (splice (List.replicate 32 (Value.int .u8 0)).toArray.toList 0 (bvs (l.take 32))).toArray = (bvs (spad l)).toArray := by
  show (splice (List.replicate 32 (Value.int .u8 0)) 0 (bvs (l.take 32))).toArray = _
  unfold spad splice bvs
  rw [List.map_append, List.map_replicate, List.drop_replicate, List.length_map, Nat.zero_add, List.take_zero, List.nil_append, List.length_take, show 32 - min 32 l.length = 32 - min l.length 32 by omega]
  rfl
theorem rd_range {w : World} {g : Nat} {l : List UInt8} (h : w.rangeAt g 0 (bvs l)) : RdB w (some ⟨g, 0, none⟩) l :=
  ⟨fun i hi => ⟨_, _, rfl, by rw [h i _ (List.getElem?_eq_getElem hi)]; exact (List.getElem?_eq_getElem hi).symm⟩⟩

/-- An operation whose guard is not met. -/
theorem step_unwanted {P : Program} {w : World} {ops : Array Oper} {o : Oper} {a : Act} {K : Act → World → Prop} {E : Prop} (hw : Region.wanted o (yielded ops a.tmps) = false) (h : K (a.put o.dst undef) w) :
    if Region.wanted o (yielded ops a.tmps) = true then E else K (a.put o.dst undef) w := by
  rw [hw]
  exact h

set_option maxHeartbeats 4000000 in
theorem macKeys_walk (a b : Option Addr) (n1 n2 c1 c2 : Nat) (l1 l2 : List UInt8) (more : Int) (w : World) (hT : Tabs w) (h1 : RdB w a l1) (h2 : RdB w b l2) (e1 : l1.length = n1) (e2 : l2.length = n2) (hn1 : n1 ≤ c1) (hn2 : n2 ≤ c2) (hc1 : c1 ≤ 9223372036854775807) (hc2 : c2 ≤ 9223372036854775807)
    (hmore : -9223372036854775808 ≤ more ∧ more ≤ 9223372036854775807) :
    Calls Tryd.prog 11 #[.slice a n1 c1, .slice b n2 c2, .int .i64 more] w fun e w' => e = .returned (.bool true) ∧ Below w.heap.size w w' := by
  subst e1 e2
  have hts := hT.size
  have HT := Lib.hid hT; clear hT
  have HR1 := Lib.hid h1; clear h1
  have HR2 := Lib.hid h2; clear h2
  have hlen1 : (l1.length : Int) ≤ 9223372036854775807 := by omega
  have hlen2 : (l2.length : Int) ≤ 9223372036854775807 := by omega
  by_cases hb1 : 64 < l1.length
  · have t1 : decide ((64 : Int) < (l1.length : Int)) = true := by simp; omega
    go_enter Tryd.func11, Tryd.ntmps11
    (repeat' ((fail_if_success at_builtin); first | go_values | go_skip | go_guarded | go_step | go_upon))
    refine (macKnown w HT.out).mono ?_
    rintro _ w1 ⟨rfl, hB1⟩
    dsimp only
    (repeat' ((fail_if_success at_builtin); first | go_values | go_skip | go_guarded | go_step | go_upon))
    go_ret
    exact ⟨rfl, hB1⟩
  · have t1 : decide ((64 : Int) < (l1.length : Int)) = false := by simp; omega
    by_cases hb2 : 4096 < l2.length
    · have t2 : decide ((4096 : Int) < (l2.length : Int)) = true := by simp; omega
      go_enter Tryd.func11, Tryd.ntmps11
      (repeat' ((fail_if_success at_builtin); first | go_values | go_skip | go_guarded | go_step | go_upon))
      refine (macKnown w HT.out).mono ?_
      rintro _ w1 ⟨rfl, hB1⟩
      dsimp only
      (repeat' ((fail_if_success at_builtin); first | go_values | go_skip | go_guarded | go_step | go_upon))
      go_ret
      exact ⟨rfl, hB1⟩
    · have t2 : decide ((4096 : Int) < (l2.length : Int)) = false := by simp; omega
      obtain ⟨iS, zS, hiS, hzS, hcS⟩ := fresh_parts zeroSum
      have HIS := Lib.hid hiS; clear hiS
      have HZS := Lib.hid hzS; clear hzS
      have HCS := Lib.hid hcS; clear hcS
      obtain ⟨X, hX⟩ : ∃ X, hmac l1 l2 = X := ⟨_, rfl⟩
      obtain ⟨Z, hZ⟩ : ∃ Z, hmac X l2 = Z := ⟨_, rfl⟩
      obtain ⟨s, hsp⟩ : ∃ s, spad l1 = s := ⟨_, rfl⟩
      have hXl : X.length = 32 := by rw [← hX]; exact hmac_length _ _
      have hZl : Z.length = 32 := by rw [← hZ]; exact hmac_length _ _
      have hsl : s.length = 32 := by rw [← hsp]; exact spad_length _
      obtain ⟨pk, hpk⟩ : ∃ p, pick more (65 - (l1.length : Int)) = p := ⟨_, rfl⟩
      have bpk := pick_lt more (65 - (l1.length : Int)) (by omega)
      rw [hpk] at bpk
      obtain ⟨k, hk⟩ : ∃ k : Nat, pk = (k : Int) := ⟨pk.toNat, by omega⟩
      subst hk
      have hlk : l1.length + k ≤ 64 := by omega
      obtain ⟨L, hL⟩ : ∃ L, l1 ++ List.replicate k 0 = L := ⟨_, rfl⟩
      have hLX : hmac L l2 = X := by rw [← hL, hmac_zeros l1 l2 k hlk, hX]
      have hLl : L.length = l1.length + k := by rw [← hL, List.length_append, List.length_replicate]
      have hsX : l1.length ≤ 32 → hmac s l2 = X := fun h => by rw [← hsp, spad_short l1 h, hmac_zeros l1 l2 _ (by omega), hX]
      have HEX := Lib.hid (fun w => eqSumSame X hXl w)
      have HNX := Lib.hid (fun w => neqSumSame X hXl w)
      have HEZ := Lib.hid (fun w => eqSumSame Z hZl w)
      have bX : (bvs X).length = 32 := by rw [bvs_length]; exact hXl
      have bS : (bvs s).length = 32 := by rw [bvs_length]; exact hsl
      have HIX := Lib.hid (show (Tryd.prog.info? 26).map (·.size) = some (bvs X).length by rw [bX]; exact sizeSum)
      have HISS := Lib.hid (show (Tryd.prog.info? 26).map (·.size) = some (bvs s).length by rw [bS]; exact sizeSum)
      have HFX := Lib.hid (show 0 + (bvs X).length ≤ (List.replicate 32 (Value.int .u8 0)).toArray.size by rw [bX]; simp)
      have HXO := Lib.hid (bvs_oneCell X)
      have HCN := Lib.hid (show (bvs (l1.take 32)).length = Nat.min l1.length 32 by rw [bvs_length, List.length_take]; exact Nat.min_comm _ _)
      have HCF := Lib.hid (show 0 + (bvs (l1.take 32)).length ≤ (List.replicate 32 (Value.int .u8 0)).toArray.size by rw [bvs_length, List.length_take]; simp; omega)
      have HCO := Lib.hid (bvs_oneCell (l1.take 32))
      have HSC := Lib.hid (show (splice (List.replicate 32 (Value.int .u8 0)).toArray.toList 0 (bvs (l1.take 32))).toArray = (bvs s).toArray by rw [← hsp]; exact spad_cells l1)
      have HBX := Lib.hid bX; clear bX
      have HX := Lib.hid hX; clear hX
      have HZ := Lib.hid hZ; clear hZ
      have HL := Lib.hid hL; clear hL
      have HLX := Lib.hid hLX; clear hLX
      have HLL := Lib.hid hLl; clear hLl
      have HSX := Lib.hid hsX; clear hsX
      have HXL := Lib.hid hXl; clear hXl
      have HSL := Lib.hid hsl; clear hsl
      have HPK := Lib.hid hpk; clear hpk
      clear hsp hZl bS
      go_enter Tryd.func11, Tryd.ntmps11
      (repeat' ((fail_if_success at_builtin); first | go_values | go_skip | go_guarded | go_step | go_upon))
      refine (pickAny more (65 - (l1.length : Int)) w hmore (by omega)).mono ?_
      rintro _ w0 ⟨rfl, rfl⟩
      dsimp only
      rw [HPK.out]
      (repeat' ((fail_if_success at_builtin); first | go_values | go_skip | go_guarded | go_step | go_upon))
      refine (copyBytes a _ c1 l1 w HR1.out rfl (by omega)).mono ?_
      rintro _ w1 ⟨p1, d1, rfl, hd1, _, hB1, hO1⟩
      dsimp only
      have HO1 := Lib.hid hO1; clear hO1
      have hle1 := hB1.size
      (repeat' ((fail_if_success at_builtin); first | go_values | go_skip | go_guarded | go_step | go_upon))
      refine wpList_app0 (w := w1) rfl _ _ rfl w.heap.size _ l1.length l1 rfl HO1.out k rfl (by omega) hle1 ?_
      intro p2 d2 w2 hd2 hr2 hG2
      have HR3 := Lib.hid hr2
      clear hr2
      have hB02 : Below w.heap.size w w2 := hB1.grown hG2 hle1 (fun g e => (HO1.out.lt g e).1)
      have hr3 := HR3.out
      rw [HL.out] at hr3
      have HR4 := Lib.hid hr3; clear hr3
      (repeat' ((fail_if_success at_builtin); first | go_values | go_skip | go_guarded | go_step | go_upon))
      refine (macOf a b _ _ c1 c2 l1 l2 X w2 HX.out (HT.out.below hB02 hts) (HR1.out.below hB02 (Nat.le_refl _)) (HR2.out.below hB02 (Nat.le_refl _)) rfl rfl hn1 hn2 (by omega) (by omega)).mono ?_
      rintro _ w3 ⟨rfl, hB3⟩
      dsimp only
      (repeat' ((fail_if_success at_builtin); (fail_if_success (show wpList _ _ _ ({ dst := some 33, op := _, type := _, pos := _, after := _, guard := _ } :: _) _ _)); first | (first | ((with_reducible refine wpList_alloc_fresh (w := w3) rfl 26 rfl _ iS zS HIS.out HZS.out HCS.out ?_); intro w4 hg4 hB4 hs4; have HG4 := Lib.hid hg4; clear hg4; have HS4 := Lib.hid hs4; clear hs4) | ((with_reducible refine wpList_store_blk rfl 26 _ _ rfl w3.heap.size 0 (bvs X) rfl rfl _ _ HG4.out HFX.out HIX.out HXO.out ?_); intro w5 hg5 hG5; rw [splice_whole _ _ (by rw [HBX.out];simp)] at hg5; have HG5 := Lib.hid hg5; clear hg5) | ((with_reducible refine wpList_alloc_fresh (w := w5) rfl 26 rfl _ iS zS HIS.out HZS.out HCS.out ?_); intro w6 hg6 hB6 hs6; have HG6 := Lib.hid hg6; clear hg6; have HS6 := Lib.hid hs6; clear hs6)) | go_values | go_skip | go_guarded | go_step | go_upon))
      have hB35 : Below w3.heap.size w3 w5 := hB4.grown hG5 (by have := HS4.out; omega) (fun g e => by cases e; exact Nat.le_refl _)
      have hB25 : Below w2.heap.size w2 w5 := hB3.trans (hB35.mono hB3.size)
      have hB26 : Below w2.heap.size w2 w6 := hB25.trans (hB6.mono hB25.size)
      have hB06 : Below w.heap.size w w6 := hB02.trans (hB26.mono hB02.size)
      (repeat' ((fail_if_success at_builtin); (fail_if_success (show wpList _ _ _ ({ dst := some 34, op := _, type := _, pos := _, after := _, guard := _ } :: _) _ _)); first | (((with_reducible refine wpList_cp rfl _ _ _ _ rfl 5 Tryd.underlying22 hsz8 (some ⟨w5.heap.size, 0, none⟩) a 32 32 l1.length c1 rfl rfl w5.heap.size 0 _ _ HG6.out (bvs (l1.take 32)) HCN.out (fun _ => rfl) ((HR1.out.below hB06 (Nat.le_refl _)).takeB 32) HCF.out HCO.out ?_); intro w7 hg7 hG7; rw [HSC.out] at hg7; have HG7 := Lib.hid hg7; clear hg7)) | go_values | go_skip | go_guarded | go_step | go_upon))
      have hB57 : Below w5.heap.size w5 w7 := hB6.grown hG7 (by have := HS6.out; omega) (fun g e => by cases e; exact Nat.le_refl _)
      have hB27 : Below w2.heap.size w2 w7 := hB25.trans (hB57.mono hB25.size)
      have hB07 : Below w.heap.size w w7 := hB02.trans (hB27.mono hB02.size)
      have hm7 : MSB w w5.heap.size w3.heap.size s X L l2 p2 b w7 := ⟨⟨rangeAt_whole HG7.out, rangeAt_below (rangeAt_whole HG5.out) hB57 (Nat.le_refl _)⟩, HT.out.below hB07 hts, hB07, HR4.out.below hB27 (Nat.le_refl _), HR2.out.below hB07 (Nat.le_refl _)⟩
      have hu26 : Tryd.prog.underlying 26 = some _ := Tryd.underlying26
      have hi1 := HIX.out
      have hi2 := HISS.out
      have heqX := HEX.out
      have heqZ := HEZ.out
      have hneX := HNX.out
      clear hB4 hG5 HG4 HS4 HG5 HG6 HS6 HG7 hB6 hG7 hB26 hB35
      by_cases h32 : l1.length ≤ 32
      · have t3 : decide ((l1.length : Int) ≤ 32) = true := by simp; omega
        have hmd := msb_drew hm7
        clear hm7
        (repeat' ((fail_if_success at_builtin); first | go_values | go_skip | go_guarded | go_step | go_upon))
        refine wp_region_noPanic ?_
        refine wp_region_held_drew (S := MSB w w5.heap.size w3.heap.size s X L l2 p2 b) (by kernel_rfl) ?_ (fun hHeld => ?_)
        · (assumption)
        refine wpAnyH_take (i := 0) (oi := _) (v := ?_) rfl (by kernel_rfl) (by kernel_rfl) (by kernel_rfl) (fun _ _ _ h => h) (Or.inl ⟨by rfl, ?_⟩) (by assumption) ?_
        rotate_left 1
        · (intro w hSw; (try dsimp only at hSw); go_simp; all_goals (with_reducible rfl))
        try simp only [Act.put, List.setIfInBounds_toArray, List.set_cons_zero, List.set_cons_succ]
        refine wpAnyH_take (i := 1) (oi := _) (v := ?_) rfl (by kernel_rfl) (by kernel_rfl) (by kernel_rfl) (fun _ _ _ h => h) (Or.inl ⟨by rfl, ?_⟩) (by assumption) ?_
        rotate_left 1
        · (intro w hSw; (try dsimp only at hSw); go_simp; all_goals (with_reducible rfl))
        try simp only [Act.put, List.setIfInBounds_toArray, List.set_cons_zero, List.set_cons_succ]
        refine wpAnyH_take (i := 2) (oi := _) (v := ?_) rfl (by kernel_rfl) (by kernel_rfl) (by kernel_rfl) (fun _ _ _ h => h) (Or.inl ⟨by rfl, ?_⟩) (by assumption) ?_
        rotate_left 1
        · (intro w hSw; (try dsimp only at hSw); go_simp; all_goals (with_reducible rfl))
        try simp only [Act.put, List.setIfInBounds_toArray, List.set_cons_zero, List.set_cons_succ]
        refine wpAnyH_take (i := 3) (oi := _) (v := ?_) rfl (by kernel_rfl) (by kernel_rfl) (by kernel_rfl) (fun _ _ _ h => h) (Or.inl ⟨by rfl, ?_⟩) (by assumption) ?_
        rotate_left 1
        · (intro w hSw; (try dsimp only at hSw); go_simp; all_goals (with_reducible rfl))
        try simp only [Act.put, List.setIfInBounds_toArray, List.set_cons_zero, List.set_cons_succ]
        refine' wpAnyH_take (i := 4) (oi := _) (v := _) rfl (by kernel_rfl) (by kernel_rfl) (by kernel_rfl) (fun _ _ _ h => h) (yieldsIf_load_mid (by rfl) _ _ rfl _ _ rfl _ _ ?ls1 ?lu1 ?ld1 ?li1) (by assumption) ?lr1
        case ls1 => (intro w hSw; (try dsimp only at hSw); go_split_ands; assumption)
        case lu1 => assumption
        case ld1 => rfl
        case li1 => first | assumption | (simp only [*]; done)
        try simp only [Act.put, List.setIfInBounds_toArray, List.set_cons_zero, List.set_cons_succ]
        refine' wpAnyH_take (i := 7) (oi := _) (v := _) rfl (by kernel_rfl) (by kernel_rfl) (by kernel_rfl) (fun _ _ _ h => h) (yieldsIf_load_mid (by rfl) _ _ rfl _ _ rfl _ _ ?ls2 ?lu2 ?ld2 ?li2) (by assumption) ?lr2
        case ls2 => (intro w hSw; (try dsimp only at hSw); go_split_ands; assumption)
        case lu2 => assumption
        case ld2 => rfl
        case li2 => first | assumption | (simp only [*]; done)
        try simp only [Act.put, List.setIfInBounds_toArray, List.set_cons_zero, List.set_cons_succ]
        refine wpAnyH_take (i := 5) (oi := _) (v := ?_) rfl (by kernel_rfl) (by kernel_rfl) (by kernel_rfl) (fun _ _ _ h => h) (Or.inl ⟨by rfl, ?_⟩) (by assumption) ?_
        rotate_left 1
        · (intro w hSw; (try dsimp only at hSw); go_simp; all_goals (with_reducible rfl))
        try simp only [Act.put, List.setIfInBounds_toArray, List.set_cons_zero, List.set_cons_succ]
        refine wpAnyH_ready (rs := [6]) (by kernel_rfl) (by simp) ?_
        refine AllReadyH.cons (o := _) rfl (fun K hK => ?_) ?_
        rotate_left 1
        · exact AllReadyH.nil
        go_simp
        go_at_call 42
        refine (macChain s b _ c2 l2 X _ (HSX.out h32) hHeld.2.1 HSL.out hHeld.2.2.2.2 rfl hn2 (by omega)).mono ?_
        rintro _ wA ⟨rfl, hBA⟩
        dsimp only
        refine hK.out _ _ ?_ (fun hHeld => ?_)
        · (apply msb_below; assumption; assumption)
        clear hK K
        try simp only [Act.put, List.setIfInBounds_toArray, List.set_cons_zero, List.set_cons_succ]
        refine wpAnyH_take (i := 8) (oi := _) (v := ?_) rfl (by kernel_rfl) (by kernel_rfl) (by kernel_rfl) (fun _ _ _ h => h) (Or.inl ⟨by rfl, ?_⟩) (by assumption) ?_
        rotate_left 1
        · (intro w hSw; (try dsimp only at hSw); go_simp; all_goals (with_reducible rfl))
        try simp only [Act.put, List.setIfInBounds_toArray, List.set_cons_zero, List.set_cons_succ]
        refine wpAnyH_take (i := 9) (oi := _) (v := ?_) rfl (by kernel_rfl) (by kernel_rfl) (by kernel_rfl) (fun _ _ _ h => h) (Or.inl ⟨by rfl, ?_⟩) (by assumption) ?_
        rotate_left 1
        · (intro w hSw; (try dsimp only at hSw); go_simp; all_goals (with_reducible rfl))
        try simp only [Act.put, List.setIfInBounds_toArray, List.set_cons_zero, List.set_cons_succ]
        refine wpAnyH_done (by kernel_rfl) ?_ _
        refine NoPanic.normal ?_
        have hmd := msb_drew hHeld
        (repeat' ((fail_if_success at_builtin); first | go_values | go_skip | go_guarded | go_step | go_upon))
        refine wp_region_noPanic ?_
        refine wp_region_held_drew (S := MSB w w5.heap.size w3.heap.size s X L l2 p2 b) (by kernel_rfl) ?_ (fun hHeld => ?_)
        · (assumption)
        refine' wpAnyH_take (i := 3) (oi := _) (v := _) rfl (by kernel_rfl) (by kernel_rfl) (by kernel_rfl) (fun _ _ _ h => h) (yieldsIf_load_mid (by rfl) _ _ rfl _ _ rfl _ _ ?ls3 ?lu3 ?ld3 ?li3) (by assumption) ?lr3
        case ls3 => (intro w hSw; (try dsimp only at hSw); go_split_ands; assumption)
        case lu3 => assumption
        case ld3 => rfl
        case li3 => first | assumption | (simp only [*]; done)
        try simp only [Act.put, List.setIfInBounds_toArray, List.set_cons_zero, List.set_cons_succ]
        refine wpAnyH_take (i := 0) (oi := _) (v := ?_) rfl (by kernel_rfl) (by kernel_rfl) (by kernel_rfl) (fun _ _ _ h => h) (Or.inl ⟨by rfl, ?_⟩) (by assumption) ?_
        rotate_left 1
        · (intro w hSw; (try dsimp only at hSw); go_simp; all_goals (with_reducible rfl))
        try simp only [Act.put, List.setIfInBounds_toArray, List.set_cons_zero, List.set_cons_succ]
        refine wpAnyH_take (i := 1) (oi := _) (v := ?_) rfl (by kernel_rfl) (by kernel_rfl) (by kernel_rfl) (fun _ _ _ h => h) (Or.inl ⟨by rfl, ?_⟩) (by assumption) ?_
        rotate_left 1
        · (intro w hSw; (try dsimp only at hSw); go_simp; all_goals (with_reducible rfl))
        try simp only [Act.put, List.setIfInBounds_toArray, List.set_cons_zero, List.set_cons_succ]
        refine wpAnyH_ready (rs := [2]) (by kernel_rfl) (by simp) ?_
        refine AllReadyH.cons (o := _) rfl (fun K hK => ?_) ?_
        rotate_left 1
        · exact AllReadyH.nil
        go_simp
        go_at_call 39
        refine (macOf p2 b (l1.length + k) l2.length d2 c2 L l2 X _ HLX.out hHeld.2.1 hHeld.2.2.2.1 hHeld.2.2.2.2 HLL.out rfl hd2 hn2 (by omega) (by omega)).mono ?_
        rintro _ wB ⟨rfl, hBB⟩
        dsimp only
        refine hK.out _ _ ?_ (fun hHeld => ?_)
        · (apply msb_below; assumption; assumption)
        clear hK K
        try simp only [Act.put, List.setIfInBounds_toArray, List.set_cons_zero, List.set_cons_succ]
        refine wpAnyH_take (i := 4) (oi := _) (v := ?_) rfl (by kernel_rfl) (by kernel_rfl) (by kernel_rfl) (fun _ _ _ h => h) (Or.inl ⟨by rfl, ?_⟩) (by assumption) ?_
        rotate_left 1
        · (intro w hSw; (try dsimp only at hSw); go_simp; all_goals (with_reducible rfl))
        try simp only [Act.put, List.setIfInBounds_toArray, List.set_cons_zero, List.set_cons_succ]
        refine wpAnyH_take (i := 5) (oi := _) (v := ?_) rfl (by kernel_rfl) (by kernel_rfl) (by kernel_rfl) (fun _ _ _ h => h) (Or.inl ⟨by rfl, ?_⟩) (by assumption) ?_
        rotate_left 1
        · (intro w hSw; (try dsimp only at hSw); go_simp; all_goals (with_reducible rfl))
        try simp only [Act.put, List.setIfInBounds_toArray, List.set_cons_zero, List.set_cons_succ]
        refine' wpAnyH_take (i := 6) (oi := _) (v := _) rfl (by kernel_rfl) (by kernel_rfl) (by kernel_rfl) (fun _ _ _ h => h) (yieldsIf_load_mid (by rfl) _ _ rfl _ _ rfl _ _ ?ls4 ?lu4 ?ld4 ?li4) (by assumption) ?lr4
        case ls4 => (intro w hSw; (try dsimp only at hSw); go_split_ands; assumption)
        case lu4 => assumption
        case ld4 => rfl
        case li4 => first | assumption | (simp only [*]; done)
        try simp only [Act.put, List.setIfInBounds_toArray, List.set_cons_zero, List.set_cons_succ]
        refine wpAnyH_take (i := 7) (oi := _) (v := ?_) rfl (by kernel_rfl) (by kernel_rfl) (by kernel_rfl) (fun _ _ _ h => h) (Or.inl ⟨by rfl, ?_⟩) (by assumption) ?_
        rotate_left 1
        · (intro w hSw; (try dsimp only at hSw); go_simp; all_goals (with_reducible rfl))
        try simp only [Act.put, List.setIfInBounds_toArray, List.set_cons_zero, List.set_cons_succ]
        refine wpAnyH_take (i := 9) (oi := _) (v := ?_) rfl (by kernel_rfl) (by kernel_rfl) (by kernel_rfl) (fun _ _ _ h => h) (Or.inl ⟨by rfl, ?_⟩) (by assumption) ?_
        rotate_left 1
        · (intro w hSw; (try dsimp only at hSw); go_simp; all_goals (with_reducible rfl))
        try simp only [Act.put, List.setIfInBounds_toArray, List.set_cons_zero, List.set_cons_succ]
        refine wpAnyH_take (i := 10) (oi := _) (v := ?_) rfl (by kernel_rfl) (by kernel_rfl) (by kernel_rfl) (fun _ _ _ h => h) (Or.inl ⟨by rfl, ?_⟩) (by assumption) ?_
        rotate_left 1
        · (intro w hSw; (try dsimp only at hSw); go_simp; all_goals (with_reducible rfl))
        try simp only [Act.put, List.setIfInBounds_toArray, List.set_cons_zero, List.set_cons_succ]
        refine wpAnyH_ready (rs := [8]) (by kernel_rfl) (by simp) ?_
        refine AllReadyH.cons (o := _) rfl (fun K hK => ?_) ?_
        rotate_left 1
        · exact AllReadyH.nil
        go_simp
        go_at_call 42
        refine (macChain X b _ c2 l2 Z _ HZ.out hHeld.2.1 HXL.out hHeld.2.2.2.2 rfl hn2 (by omega)).mono ?_
        rintro _ wC ⟨rfl, hBC⟩
        dsimp only
        refine hK.out _ _ ?_ (fun hHeld => ?_)
        · (apply msb_below; assumption; assumption)
        clear hK K
        try simp only [Act.put, List.setIfInBounds_toArray, List.set_cons_zero, List.set_cons_succ]
        refine wpAnyH_ready (rs := [11]) (by kernel_rfl) (by simp) ?_
        refine AllReadyH.cons (o := _) rfl (fun K hK => ?_) ?_
        rotate_left 1
        · exact AllReadyH.nil
        go_simp
        go_at_call 39
        refine (macOf (some ⟨w3.heap.size, 0, none⟩) b 32 l2.length 32 c2 X l2 Z _ HZ.out hHeld.2.1 (rd_range hHeld.1.2) hHeld.2.2.2.2 HXL.out rfl (Nat.le_refl _) hn2 (by decide) (by omega)).mono ?_
        rintro _ wD ⟨rfl, hBD⟩
        dsimp only
        refine hK.out _ _ ?_ (fun hHeld => ?_)
        · (apply msb_below; assumption; assumption)
        clear hK K
        try simp only [Act.put, List.setIfInBounds_toArray, List.set_cons_zero, List.set_cons_succ]
        refine wpAnyH_take (i := 12) (oi := _) (v := ?_) rfl (by kernel_rfl) (by kernel_rfl) (by kernel_rfl) (fun _ _ _ h => h) (Or.inl ⟨by rfl, ?_⟩) (by assumption) ?_
        rotate_left 1
        · (intro w hSw; (try dsimp only at hSw); go_simp; all_goals (with_reducible rfl))
        try simp only [Act.put, List.setIfInBounds_toArray, List.set_cons_zero, List.set_cons_succ]
        refine wpAnyH_take (i := 13) (oi := _) (v := ?_) rfl (by kernel_rfl) (by kernel_rfl) (by kernel_rfl) (fun _ _ _ h => h) (Or.inl ⟨by rfl, ?_⟩) (by assumption) ?_
        rotate_left 1
        · (intro w hSw; (try dsimp only at hSw); go_simp; all_goals (with_reducible rfl))
        try simp only [Act.put, List.setIfInBounds_toArray, List.set_cons_zero, List.set_cons_succ]
        refine wpAnyH_take (i := 14) (oi := _) (v := ?_) rfl (by kernel_rfl) (by kernel_rfl) (by kernel_rfl) (fun _ _ _ h => h) (Or.inl ⟨by rfl, ?_⟩) (by assumption) ?_
        rotate_left 1
        · (intro w hSw; (try dsimp only at hSw); go_simp; all_goals (with_reducible rfl))
        try simp only [Act.put, List.setIfInBounds_toArray, List.set_cons_zero, List.set_cons_succ]
        refine wpAnyH_ready (rs := [15]) (by kernel_rfl) (by simp) ?_
        refine AllReadyH.cons (o := _) rfl (fun K hK => ?_) ?_
        rotate_left 1
        · exact AllReadyH.nil
        go_simp
        go_at_call 38
        refine (macKnown _ hHeld.2.1).mono ?_
        rintro _ wE ⟨rfl, hBE⟩
        dsimp only
        refine hK.out _ _ ?_ (fun hHeld => ?_)
        · (apply msb_below; assumption; assumption)
        clear hK K
        try simp only [Act.put, List.setIfInBounds_toArray, List.set_cons_zero, List.set_cons_succ]
        refine wpAnyH_take (i := 16) (oi := _) (v := ?_) rfl (by kernel_rfl) (by kernel_rfl) (by kernel_rfl) (fun _ _ _ h => h) (Or.inl ⟨by rfl, ?_⟩) (by assumption) ?_
        rotate_left 1
        · (intro w hSw; (try dsimp only at hSw); go_simp; all_goals (with_reducible rfl))
        try simp only [Act.put, List.setIfInBounds_toArray, List.set_cons_zero, List.set_cons_succ]
        refine wpAnyH_take (i := 17) (oi := _) (v := ?_) rfl (by kernel_rfl) (by kernel_rfl) (by kernel_rfl) (fun _ _ _ h => h) (Or.inl ⟨by rfl, ?_⟩) (by assumption) ?_
        rotate_left 1
        · (intro w hSw; (try dsimp only at hSw); go_simp; all_goals (with_reducible rfl))
        try simp only [Act.put, List.setIfInBounds_toArray, List.set_cons_zero, List.set_cons_succ]
        refine wpAnyH_done (by kernel_rfl) ?_ _
        refine NoPanic.normal ?_
        (repeat' ((fail_if_success at_builtin); first | go_values | go_skip | go_guarded | go_step | go_upon))
        go_ret
        exact ⟨rfl, hHeld.2.2.1⟩
      · have t3 : decide ((l1.length : Int) ≤ 32) = false := by simp; omega
        have hmd := msb_drew hm7
        clear hm7
        (repeat' ((fail_if_success at_builtin); first | go_values | go_skip | go_guarded | go_step | go_upon))
        refine wp_region_noPanic ?_
        refine wp_region_held_drew (S := MSB w w5.heap.size w3.heap.size s X L l2 p2 b) (by kernel_rfl) ?_ (fun hHeld => ?_)
        · (assumption)
        refine wpAnyH_take (i := 0) (oi := _) (v := ?_) rfl (by kernel_rfl) (by kernel_rfl) (by kernel_rfl) (fun _ _ _ h => h) (Or.inl ⟨by rfl, ?_⟩) (by assumption) ?_
        rotate_left 1
        · (intro w hSw; (try dsimp only at hSw); go_simp; all_goals (with_reducible rfl))
        try simp only [Act.put, List.setIfInBounds_toArray, List.set_cons_zero, List.set_cons_succ]
        refine wpAnyH_take (i := 1) (oi := _) (v := ?_) rfl (by kernel_rfl) (by kernel_rfl) (by kernel_rfl) (fun _ _ _ h => h) (Or.inl ⟨by rfl, ?_⟩) (by assumption) ?_
        rotate_left 1
        · (intro w hSw; (try dsimp only at hSw); go_simp; all_goals (with_reducible rfl))
        try simp only [Act.put, List.setIfInBounds_toArray, List.set_cons_zero, List.set_cons_succ]
        refine wpAnyH_take (i := 2) (oi := _) (v := ?_) rfl (by kernel_rfl) (by kernel_rfl) (by kernel_rfl) (fun _ _ _ h => h) (Or.inl ⟨by rfl, ?_⟩) (by assumption) ?_
        rotate_left 1
        · (intro w hSw; (try dsimp only at hSw); go_simp; all_goals (with_reducible rfl))
        try simp only [Act.put, List.setIfInBounds_toArray, List.set_cons_zero, List.set_cons_succ]
        refine wpAnyH_take (i := 3) (oi := _) (v := ?_) rfl (by kernel_rfl) (by kernel_rfl) (by kernel_rfl) (fun _ _ _ h => h) (Or.inl ⟨by rfl, ?_⟩) (by assumption) ?_
        rotate_left 1
        · (intro w hSw; (try dsimp only at hSw); go_simp; all_goals (with_reducible rfl))
        try simp only [Act.put, List.setIfInBounds_toArray, List.set_cons_zero, List.set_cons_succ]
        refine wpAnyH_take (i := 4) (oi := _) (v := undef) rfl (by kernel_rfl) (by kernel_rfl) (by kernel_rfl) (fun _ _ _ h => h) (Or.inr ⟨by rfl, rfl⟩) (by assumption) ?_
        try simp only [Act.put, List.setIfInBounds_toArray, List.set_cons_zero, List.set_cons_succ]
        refine wpAnyH_take (i := 5) (oi := _) (v := undef) rfl (by kernel_rfl) (by kernel_rfl) (by kernel_rfl) (fun _ _ _ h => h) (Or.inr ⟨by rfl, rfl⟩) (by assumption) ?_
        try simp only [Act.put, List.setIfInBounds_toArray, List.set_cons_zero, List.set_cons_succ]
        refine wpAnyH_take (i := 7) (oi := _) (v := undef) rfl (by kernel_rfl) (by kernel_rfl) (by kernel_rfl) (fun _ _ _ h => h) (Or.inr ⟨by rfl, rfl⟩) (by assumption) ?_
        try simp only [Act.put, List.setIfInBounds_toArray, List.set_cons_zero, List.set_cons_succ]
        refine wpAnyH_ready (rs := [6]) (by kernel_rfl) (by simp) ?_
        refine AllReadyH.cons (o := _) rfl (fun K hK => ?_) ?_
        rotate_left 1
        · exact AllReadyH.nil
        go_simp
        skip
        refine hK.out _ _ ?_ (fun hHeld => ?_)
        · (assumption)
        clear hK K
        try simp only [Act.put, List.setIfInBounds_toArray, List.set_cons_zero, List.set_cons_succ]
        refine wpAnyH_take (i := 8) (oi := _) (v := undef) rfl (by kernel_rfl) (by kernel_rfl) (by kernel_rfl) (fun _ _ _ h => h) (Or.inr ⟨by rfl, rfl⟩) (by assumption) ?_
        try simp only [Act.put, List.setIfInBounds_toArray, List.set_cons_zero, List.set_cons_succ]
        refine wpAnyH_take (i := 9) (oi := _) (v := ?_) rfl (by kernel_rfl) (by kernel_rfl) (by kernel_rfl) (fun _ _ _ h => h) (Or.inl ⟨by rfl, ?_⟩) (by assumption) ?_
        rotate_left 1
        · (intro w hSw; (try dsimp only at hSw); go_simp; all_goals (with_reducible rfl))
        try simp only [Act.put, List.setIfInBounds_toArray, List.set_cons_zero, List.set_cons_succ]
        refine wpAnyH_done (by kernel_rfl) ?_ _
        refine NoPanic.normal ?_
        have hmd := msb_drew hHeld
        (repeat' ((fail_if_success at_builtin); first | go_values | go_skip | go_guarded | go_step | go_upon))
        refine wp_region_noPanic ?_
        refine wp_region_held_drew (S := MSB w w5.heap.size w3.heap.size s X L l2 p2 b) (by kernel_rfl) ?_ (fun hHeld => ?_)
        · (assumption)
        refine' wpAnyH_take (i := 3) (oi := _) (v := _) rfl (by kernel_rfl) (by kernel_rfl) (by kernel_rfl) (fun _ _ _ h => h) (yieldsIf_load_mid (by rfl) _ _ rfl _ _ rfl _ _ ?ls5 ?lu5 ?ld5 ?li5) (by assumption) ?lr5
        case ls5 => (intro w hSw; (try dsimp only at hSw); go_split_ands; assumption)
        case lu5 => assumption
        case ld5 => rfl
        case li5 => first | assumption | (simp only [*]; done)
        try simp only [Act.put, List.setIfInBounds_toArray, List.set_cons_zero, List.set_cons_succ]
        refine wpAnyH_take (i := 0) (oi := _) (v := ?_) rfl (by kernel_rfl) (by kernel_rfl) (by kernel_rfl) (fun _ _ _ h => h) (Or.inl ⟨by rfl, ?_⟩) (by assumption) ?_
        rotate_left 1
        · (intro w hSw; (try dsimp only at hSw); go_simp; all_goals (with_reducible rfl))
        try simp only [Act.put, List.setIfInBounds_toArray, List.set_cons_zero, List.set_cons_succ]
        refine wpAnyH_take (i := 1) (oi := _) (v := ?_) rfl (by kernel_rfl) (by kernel_rfl) (by kernel_rfl) (fun _ _ _ h => h) (Or.inl ⟨by rfl, ?_⟩) (by assumption) ?_
        rotate_left 1
        · (intro w hSw; (try dsimp only at hSw); go_simp; all_goals (with_reducible rfl))
        try simp only [Act.put, List.setIfInBounds_toArray, List.set_cons_zero, List.set_cons_succ]
        refine wpAnyH_ready (rs := [2]) (by kernel_rfl) (by simp) ?_
        refine AllReadyH.cons (o := _) rfl (fun K hK => ?_) ?_
        rotate_left 1
        · exact AllReadyH.nil
        go_simp
        go_at_call 39
        refine (macOf p2 b (l1.length + k) l2.length d2 c2 L l2 X _ HLX.out hHeld.2.1 hHeld.2.2.2.1 hHeld.2.2.2.2 HLL.out rfl hd2 hn2 (by omega) (by omega)).mono ?_
        rintro _ wB ⟨rfl, hBB⟩
        dsimp only
        refine hK.out _ _ ?_ (fun hHeld => ?_)
        · (apply msb_below; assumption; assumption)
        clear hK K
        try simp only [Act.put, List.setIfInBounds_toArray, List.set_cons_zero, List.set_cons_succ]
        refine wpAnyH_take (i := 4) (oi := _) (v := ?_) rfl (by kernel_rfl) (by kernel_rfl) (by kernel_rfl) (fun _ _ _ h => h) (Or.inl ⟨by rfl, ?_⟩) (by assumption) ?_
        rotate_left 1
        · (intro w hSw; (try dsimp only at hSw); go_simp; all_goals (with_reducible rfl))
        try simp only [Act.put, List.setIfInBounds_toArray, List.set_cons_zero, List.set_cons_succ]
        refine wpAnyH_take (i := 5) (oi := _) (v := ?_) rfl (by kernel_rfl) (by kernel_rfl) (by kernel_rfl) (fun _ _ _ h => h) (Or.inl ⟨by rfl, ?_⟩) (by assumption) ?_
        rotate_left 1
        · (intro w hSw; (try dsimp only at hSw); go_simp; all_goals (with_reducible rfl))
        try simp only [Act.put, List.setIfInBounds_toArray, List.set_cons_zero, List.set_cons_succ]
        refine' wpAnyH_take (i := 6) (oi := _) (v := _) rfl (by kernel_rfl) (by kernel_rfl) (by kernel_rfl) (fun _ _ _ h => h) (yieldsIf_load_mid (by rfl) _ _ rfl _ _ rfl _ _ ?ls6 ?lu6 ?ld6 ?li6) (by assumption) ?lr6
        case ls6 => (intro w hSw; (try dsimp only at hSw); go_split_ands; assumption)
        case lu6 => assumption
        case ld6 => rfl
        case li6 => first | assumption | (simp only [*]; done)
        try simp only [Act.put, List.setIfInBounds_toArray, List.set_cons_zero, List.set_cons_succ]
        refine wpAnyH_take (i := 7) (oi := _) (v := ?_) rfl (by kernel_rfl) (by kernel_rfl) (by kernel_rfl) (fun _ _ _ h => h) (Or.inl ⟨by rfl, ?_⟩) (by assumption) ?_
        rotate_left 1
        · (intro w hSw; (try dsimp only at hSw); go_simp; all_goals (with_reducible rfl))
        try simp only [Act.put, List.setIfInBounds_toArray, List.set_cons_zero, List.set_cons_succ]
        refine wpAnyH_take (i := 9) (oi := _) (v := ?_) rfl (by kernel_rfl) (by kernel_rfl) (by kernel_rfl) (fun _ _ _ h => h) (Or.inl ⟨by rfl, ?_⟩) (by assumption) ?_
        rotate_left 1
        · (intro w hSw; (try dsimp only at hSw); go_simp; all_goals (with_reducible rfl))
        try simp only [Act.put, List.setIfInBounds_toArray, List.set_cons_zero, List.set_cons_succ]
        refine wpAnyH_take (i := 10) (oi := _) (v := ?_) rfl (by kernel_rfl) (by kernel_rfl) (by kernel_rfl) (fun _ _ _ h => h) (Or.inl ⟨by rfl, ?_⟩) (by assumption) ?_
        rotate_left 1
        · (intro w hSw; (try dsimp only at hSw); go_simp; all_goals (with_reducible rfl))
        try simp only [Act.put, List.setIfInBounds_toArray, List.set_cons_zero, List.set_cons_succ]
        refine wpAnyH_ready (rs := [8]) (by kernel_rfl) (by simp) ?_
        refine AllReadyH.cons (o := _) rfl (fun K hK => ?_) ?_
        rotate_left 1
        · exact AllReadyH.nil
        go_simp
        go_at_call 42
        refine (macChain X b _ c2 l2 Z _ HZ.out hHeld.2.1 HXL.out hHeld.2.2.2.2 rfl hn2 (by omega)).mono ?_
        rintro _ wC ⟨rfl, hBC⟩
        dsimp only
        refine hK.out _ _ ?_ (fun hHeld => ?_)
        · (apply msb_below; assumption; assumption)
        clear hK K
        try simp only [Act.put, List.setIfInBounds_toArray, List.set_cons_zero, List.set_cons_succ]
        refine wpAnyH_ready (rs := [11]) (by kernel_rfl) (by simp) ?_
        refine AllReadyH.cons (o := _) rfl (fun K hK => ?_) ?_
        rotate_left 1
        · exact AllReadyH.nil
        go_simp
        go_at_call 39
        refine (macOf (some ⟨w3.heap.size, 0, none⟩) b 32 l2.length 32 c2 X l2 Z _ HZ.out hHeld.2.1 (rd_range hHeld.1.2) hHeld.2.2.2.2 HXL.out rfl (Nat.le_refl _) hn2 (by decide) (by omega)).mono ?_
        rintro _ wD ⟨rfl, hBD⟩
        dsimp only
        refine hK.out _ _ ?_ (fun hHeld => ?_)
        · (apply msb_below; assumption; assumption)
        clear hK K
        try simp only [Act.put, List.setIfInBounds_toArray, List.set_cons_zero, List.set_cons_succ]
        refine wpAnyH_take (i := 12) (oi := _) (v := ?_) rfl (by kernel_rfl) (by kernel_rfl) (by kernel_rfl) (fun _ _ _ h => h) (Or.inl ⟨by rfl, ?_⟩) (by assumption) ?_
        rotate_left 1
        · (intro w hSw; (try dsimp only at hSw); go_simp; all_goals (with_reducible rfl))
        try simp only [Act.put, List.setIfInBounds_toArray, List.set_cons_zero, List.set_cons_succ]
        refine wpAnyH_take (i := 13) (oi := _) (v := ?_) rfl (by kernel_rfl) (by kernel_rfl) (by kernel_rfl) (fun _ _ _ h => h) (Or.inl ⟨by rfl, ?_⟩) (by assumption) ?_
        rotate_left 1
        · (intro w hSw; (try dsimp only at hSw); go_simp; all_goals (with_reducible rfl))
        try simp only [Act.put, List.setIfInBounds_toArray, List.set_cons_zero, List.set_cons_succ]
        refine wpAnyH_take (i := 14) (oi := _) (v := ?_) rfl (by kernel_rfl) (by kernel_rfl) (by kernel_rfl) (fun _ _ _ h => h) (Or.inl ⟨by rfl, ?_⟩) (by assumption) ?_
        rotate_left 1
        · (intro w hSw; (try dsimp only at hSw); go_simp; all_goals (with_reducible rfl))
        try simp only [Act.put, List.setIfInBounds_toArray, List.set_cons_zero, List.set_cons_succ]
        refine wpAnyH_ready (rs := [15]) (by kernel_rfl) (by simp) ?_
        refine AllReadyH.cons (o := _) rfl (fun K hK => ?_) ?_
        rotate_left 1
        · exact AllReadyH.nil
        go_simp
        go_at_call 38
        refine (macKnown _ hHeld.2.1).mono ?_
        rintro _ wE ⟨rfl, hBE⟩
        dsimp only
        refine hK.out _ _ ?_ (fun hHeld => ?_)
        · (apply msb_below; assumption; assumption)
        clear hK K
        try simp only [Act.put, List.setIfInBounds_toArray, List.set_cons_zero, List.set_cons_succ]
        refine wpAnyH_take (i := 16) (oi := _) (v := ?_) rfl (by kernel_rfl) (by kernel_rfl) (by kernel_rfl) (fun _ _ _ h => h) (Or.inl ⟨by rfl, ?_⟩) (by assumption) ?_
        rotate_left 1
        · (intro w hSw; (try dsimp only at hSw); go_simp; all_goals (with_reducible rfl))
        try simp only [Act.put, List.setIfInBounds_toArray, List.set_cons_zero, List.set_cons_succ]
        refine wpAnyH_take (i := 17) (oi := _) (v := ?_) rfl (by kernel_rfl) (by kernel_rfl) (by kernel_rfl) (fun _ _ _ h => h) (Or.inl ⟨by rfl, ?_⟩) (by assumption) ?_
        rotate_left 1
        · (intro w hSw; (try dsimp only at hSw); go_simp; all_goals (with_reducible rfl))
        try simp only [Act.put, List.setIfInBounds_toArray, List.set_cons_zero, List.set_cons_succ]
        refine wpAnyH_done (by kernel_rfl) ?_ _
        refine NoPanic.normal ?_
        (repeat' ((fail_if_success at_builtin); first | go_values | go_skip | go_guarded | go_step | go_upon))
        go_ret
        exact ⟨rfl, hHeld.2.2.1⟩

end Go.Proofs.YtdpfemhfmofmlaaDoor
