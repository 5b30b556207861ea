/- The law MacCodes, walked. -/
import Derived.Test.YtdpfemhfmofmlaaDoorRefO
import Derived.Test.YtdpfemhfmofmlaaDoorMacK
namespace Go.Proofs.YtdpfemhfmofmlaaDoor
set_option linter.unusedSimpArgs false
open Go.RowKit
set_option maxRecDepth 10000

abbrev MSA (w : World) (zs : Nat) (s m1 m2 : List UInt8) (p1 p2 : Option Addr) (w' : World) : Prop :=
  (w'.rangeAt zs 0 (bvs s)) ∧ (Tabs w' ∧ Below w.heap.size w w' ∧ RdB w' p1 m1 ∧ RdB w' p2 m2)
theorem msa_below {w w1 w2 : World} {zs : Nat} {s m1 m2 : List UInt8} {p1 p2 : Option Addr} (hb : Below w1.heap.size w1 w2) (h : MSA w zs s m1 m2 p1 p2 w1) : MSA w zs s m1 m2 p1 p2 w2 :=
  ⟨rangeAt_below h.1 hb (Nat.le_refl _), h.2.1.below hb h.2.1.size, h.2.2.1.trans (hb.mono h.2.2.1.size), h.2.2.2.1.below hb (Nat.le_refl _), h.2.2.2.2.below hb (Nat.le_refl _)⟩
theorem msa_drew {w w1 : World} {zs : Nat} {s m1 m2 : List UInt8} {p1 p2 : Option Addr} (h : MSA w zs s m1 m2 p1 p2 w1) : MSA w zs s m1 m2 p1 p2 w1.drew := msa_below ((Below.refl w1.heap.size w1).drew) h
abbrev MSB (w : World) (zs zx : Nat) (s X m1 m2 : List UInt8) (p1 p2 : Option Addr) (w' : World) : Prop :=
  (w'.rangeAt zs 0 (bvs s) ∧ w'.rangeAt zx 0 (bvs X)) ∧ (Tabs w' ∧ Below w.heap.size w w' ∧ RdB w' p1 m1 ∧ RdB w' p2 m2)
theorem msb_below {w w1 w2 : World} {zs zx : Nat} {s X m1 m2 : List UInt8} {p1 p2 : Option Addr} (hb : Below w1.heap.size w1 w2) (h : MSB w zs zx s X m1 m2 p1 p2 w1) : MSB w zs zx s X m1 m2 p1 p2 w2 :=
  ⟨⟨rangeAt_below h.1.1 hb (Nat.le_refl _), rangeAt_below h.1.2 hb (Nat.le_refl _)⟩, h.2.1.below hb h.2.1.size, h.2.2.1.trans (hb.mono h.2.2.1.size), h.2.2.2.1.below hb (Nat.le_refl _), h.2.2.2.2.below hb (Nat.le_refl _)⟩
theorem msb_drew {w w1 : World} {zs zx : Nat} {s X m1 m2 : List UInt8} {p1 p2 : Option Addr} (h : MSB w zs zx s X m1 m2 p1 p2 w1) : MSB w zs zx s X m1 m2 p1 p2 w1.drew := msb_below ((Below.refl w1.heap.size w1).drew) h
abbrev MS (w : World) (zx zy zs : Nat) (X Y s m1 m2 : List UInt8) (p1 p2 : Option Addr) (w' : World) : Prop :=
  (w'.rangeAt zx 0 (bvs X) ∧ w'.rangeAt zy 0 (bvs Y) ∧ w'.rangeAt zs 0 (bvs s)) ∧ (Tabs w' ∧ Below w.heap.size w w' ∧ RdB w' p1 m1 ∧ RdB w' p2 m2)
theorem ms_below {w w1 w2 : World} {zx zy zs : Nat} {X Y s m1 m2 : List UInt8} {p1 p2 : Option Addr} (hb : Below w1.heap.size w1 w2) (h : MS w zx zy zs X Y s m1 m2 p1 p2 w1) : MS w zx zy zs X Y s m1 m2 p1 p2 w2 :=
  ⟨⟨rangeAt_below h.1.1 hb (Nat.le_refl _), rangeAt_below h.1.2.1 hb (Nat.le_refl _), rangeAt_below h.1.2.2 hb (Nat.le_refl _)⟩, h.2.1.below hb h.2.1.size, h.2.2.1.trans (hb.mono h.2.2.1.size), h.2.2.2.1.below hb (Nat.le_refl _), h.2.2.2.2.below hb (Nat.le_refl _)⟩
theorem ms_drew {w w1 : World} {zx zy zs : Nat} {X Y s m1 m2 : List UInt8} {p1 p2 : Option Addr} (h : MS w zx zy zs X Y s m1 m2 p1 p2 w1) : MS w zx zy zs X Y s m1 m2 p1 p2 w1.drew := ms_below ((Below.refl w1.heap.size w1).drew) h

theorem step_alloc_fresh {P : Program} {w : World} {ops : Array Oper} {o : Oper} {a : Act} {K : Act → World → Prop} {Q : Exit → Act → World → Prop} {E : Prop} (hw : Region.wanted o (yielded ops a.tmps) = true) (ty : TypeId) (ho : o.op = .alloc ty)
    (cells : Array Value) (i : TypeInfo) (z : Value) (hi : P.info? ty = some i) (hz : i.zero = some z) (hc : z.cells = cells)
    (h : ∀ w1, w1.heap[w.heap.size]? = some (.cells cells ty (0, 0)) → Below w.heap.size w w1 → w1.heap.size = w.heap.size + 1 → K (a.put o.dst (.pointer (some ⟨w.heap.size, 0, none⟩))) w1) :
    if Region.wanted o (yielded ops a.tmps) = true then Oper.wp P o a w K Q else E := by
  rw [if_pos hw]
  have hrun : (execOp a.eval o).run P w = .ok (.value (.pointer (some ⟨w.heap.size, 0, none⟩))) (w.alloc (.cells cells ty)) := by
    unfold execOp
    rw [ho]
    simp [Instr.alloc, zeroValue, typeInfo, newVar, newRow, hi, hz, hc]
  unfold Oper.wp
  rw [hrun, Oper.upon_value]
  exact h _ (heap_alloc_new w _) ((Below.refl _ _).alloc (Nat.le_refl _) _) (by simp)

set_option maxHeartbeats 4000000 in
theorem macCodes_walk (a b : Option Addr) (n1 n2 c1 c2 : Nat) (l1 l2 s : List UInt8) (w : World) (hT : Tabs w) (h1 : RdB w a l1) (h2 : RdB w b l2) (hs : s.length = 32) (e1 : l1.length = n1) (e2 : l2.length = n2) (hn1 : n1 ≤ c1) (hn2 : n2 ≤ c2) (hc1 : c1 ≤ 9223372036854775807) (hc2 : c2 ≤ 9223372036854775807) :
    Calls Tryd.prog 10 #[.slice a n1 c1, .slice b n2 c2, .agg (bvs s).toArray] w fun e w' => e = .returned (.bool true) ∧ Below w.heap.size w w' := by
  subst e1 e2
  have hts := hT.size
  have HT := Lib.hid hT; clear hT
  have HR1 := Lib.hid h1; clear h1
  have HR2 := Lib.hid h2; clear h2
  have hlen1 : (l1.length : Int) ≤ 9223372036854775807 := by omega
  have hlen2 : (l2.length : Int) ≤ 9223372036854775807 := by omega
  have HSL := Lib.hid hs; clear hs
  obtain ⟨wb, hwb⟩ : ∃ wb, w.alloc (.cells (bvs s).toArray 26) = wb := ⟨_, rfl⟩
  have hgs : wb.heap[w.heap.size]? = some (.cells (bvs s).toArray 26 (0, 0)) := by rw [← hwb]; exact heap_alloc_new w _
  have hBb : Below w.heap.size w wb := by rw [← hwb]; exact (Below.refl _ _).alloc (Nat.le_refl _) _
  have HWB := Lib.hid hwb; clear hwb
  have HGS := Lib.hid hgs; clear hgs
  by_cases hb1 : 4096 < l1.length
  · have t1 : decide ((4096 : Int) < (l1.length : Int)) = true := by simp; omega
    go_enter Tryd.func10, Tryd.ntmps10
    (repeat' ((fail_if_success at_builtin); first | go_values | go_skip | go_guarded | go_step | go_upon))
    rw [HWB.out]
    refine (macKnown wb (HT.out.below hBb hts)).mono ?_
    rintro _ w1 ⟨rfl, hB1⟩
    dsimp only
    (repeat' ((fail_if_success at_builtin); first | go_values | go_skip | go_guarded | go_step | go_upon))
    go_ret
    exact ⟨rfl, hBb.trans (hB1.mono hBb.size)⟩
  · have t1 : decide ((4096 : Int) < (l1.length : Int)) = false := by simp; omega
    by_cases hb2 : 4096 < l2.length
    · have t2 : decide ((4096 : Int) < (l2.length : Int)) = true := by simp; omega
      go_enter Tryd.func10, Tryd.ntmps10
      (repeat' ((fail_if_success at_builtin); first | go_values | go_skip | go_guarded | go_step | go_upon))
      rw [HWB.out]
      refine (macKnown wb (HT.out.below hBb hts)).mono ?_
      rintro _ w1 ⟨rfl, hB1⟩
      dsimp only
      (repeat' ((fail_if_success at_builtin); first | go_values | go_skip | go_guarded | go_step | go_upon))
      go_ret
      exact ⟨rfl, hBb.trans (hB1.mono hBb.size)⟩
    · have t2 : decide ((4096 : Int) < (l2.length : Int)) = false := by simp; omega
      obtain ⟨iS, zS, hiS, hzS, hcS⟩ := fresh_parts zeroSum
      have HIS := Lib.hid hiS; clear hiS
      have HZS := Lib.hid hzS; clear hzS
      have HCS := Lib.hid hcS; clear hcS
      obtain ⟨X, hX⟩ : ∃ X, hmac l1 l2 = X := ⟨_, rfl⟩
      obtain ⟨Y, hY⟩ : ∃ Y, hmac s l2 = Y := ⟨_, rfl⟩
      have hXl : X.length = 32 := by rw [← hX]; exact hmac_length _ _
      have hYl : Y.length = 32 := by rw [← hY]; exact hmac_length _ _
      have heqX := fun w => eqSumSame X hXl w
      have heqY := fun w => eqSumSame Y hYl w
      have bX : (bvs X).length = 32 := by rw [bvs_length]; exact hXl
      have bY : (bvs Y).length = 32 := by rw [bvs_length]; exact hYl
      have bS : (bvs s).length = 32 := by rw [bvs_length]; exact HSL.out
      have HIX := Lib.hid (show (Tryd.prog.info? 26).map (·.size) = some (bvs X).length by rw [bX]; exact sizeSum)
      have HIY := Lib.hid (show (Tryd.prog.info? 26).map (·.size) = some (bvs Y).length by rw [bY]; exact sizeSum)
      have HISS := Lib.hid (show (Tryd.prog.info? 26).map (·.size) = some (bvs s).length by rw [bS]; exact sizeSum)
      have HFX := Lib.hid (show 0 + (bvs X).length ≤ (List.replicate 32 (Value.int .u8 0)).toArray.size by rw [bX]; simp)
      have HFY := Lib.hid (show 0 + (bvs Y).length ≤ (List.replicate 32 (Value.int .u8 0)).toArray.size by rw [bY]; simp)
      have HXO := Lib.hid (bvs_oneCell X)
      have HYO := Lib.hid (bvs_oneCell Y)
      have HBX := Lib.hid bX; clear bX
      have HBY := Lib.hid bY; clear bY
      have HX := Lib.hid hX; clear hX
      have HY := Lib.hid hY; clear hY
      have HEX := Lib.hid heqX; clear heqX
      have HEY := Lib.hid heqY; clear heqY
      clear hXl hYl bS
      go_enter Tryd.func10, Tryd.ntmps10
      (repeat' ((fail_if_success at_builtin); first | go_values | go_skip | go_guarded | go_step | go_upon))
      rw [HWB.out]
      refine (lentBytes a _ c1 l1 wb (HR1.out.below hBb (Nat.le_refl _)) rfl (by omega)).mono ?_
      rintro _ w1 ⟨p1, d1, rfl, hd1, hr1, hB1, _⟩
      dsimp only
      have hB01 : Below w.heap.size w w1 := hBb.trans (hB1.mono hBb.size)
      have hgs1 := (hB1.block w.heap.size (Array.getElem?_eq_some_iff.1 HGS.out).1).trans HGS.out
      have HP1 := Lib.hid hr1; clear hr1
      have HGS1 := Lib.hid hgs1; clear hgs1
      (repeat' ((fail_if_success at_builtin); first | go_values | go_skip | go_guarded | go_step | go_upon))
      refine (lentBytes b _ c2 l2 w1 (HR2.out.below hB01 (Nat.le_refl _)) rfl (by omega)).mono ?_
      rintro _ w2 ⟨p2, d2, rfl, hd2, hr2, hB2, _⟩
      dsimp only
      have hB02 : Below w.heap.size w w2 := hB01.trans (hB2.mono hB01.size)
      have hgs2 := (hB2.block w.heap.size (Array.getElem?_eq_some_iff.1 HGS1.out).1).trans HGS1.out
      have hp12 := HP1.out.below hB2 (Nat.le_refl _)
      have HP2 := Lib.hid hr2; clear hr2
      have HP12 := Lib.hid hp12; clear hp12
      have HGS2 := Lib.hid hgs2; clear hgs2
      have bd1 : (0 : Int) ≤ (l1.length : Int) ∧ (l1.length : Int) ≤ (d1 : Int) := by omega
      have bd2 : (0 : Int) ≤ (l2.length : Int) ∧ (l2.length : Int) ≤ (d2 : Int) := by omega
      -- REGION 5
      have hma : MSA w w.heap.size s (l1 ++ marks) (l2 ++ marks) p1 p2 w2.drew := msa_drew ⟨rangeAt_whole HGS2.out, HT.out.below hB02 hts, hB02, HP12.out, HP2.out⟩
      have heqX := HEX.out
      have heqY := HEY.out
      have hu26 : Tryd.prog.underlying 26 = some _ := Tryd.underlying26
      have hi1 := HIX.out
      have hi2 := HIY.out
      have hi3 := HISS.out
      (repeat' ((fail_if_success at_builtin); first | go_values | go_skip | go_guarded | go_step | go_upon))
      refine wp_region_noPanic ?_
      refine wp_region_held_drew (S := MSA w w.heap.size s (l1 ++ marks) (l2 ++ marks) p1 p2) (by kernel_rfl) ?_ (fun hHeld => ?_)
      · (assumption)
      generalize w2.drew = v5 at hHeld ⊢
      refine wpAnyH_take (i := 0) (oi := _) (v := ?_) rfl (by kernel_rfl) (by kernel_rfl) (by kernel_rfl) (fun _ _ _ h => h) (Or.inl ⟨by rfl, ?_⟩) (by assumption) ?_
      rotate_left 1
      · (intro w hSw; (try dsimp only at hSw); go_simp; all_goals (with_reducible rfl))
      try simp only [Act.put, List.setIfInBounds_toArray, List.set_cons_zero, List.set_cons_succ]
      refine wpAnyH_take (i := 1) (oi := _) (v := ?_) rfl (by kernel_rfl) (by kernel_rfl) (by kernel_rfl) (fun _ _ _ h => h) (Or.inl ⟨by rfl, ?_⟩) (by assumption) ?_
      rotate_left 1
      · (intro w hSw; (try dsimp only at hSw); go_simp; all_goals (with_reducible rfl))
      try simp only [Act.put, List.setIfInBounds_toArray, List.set_cons_zero, List.set_cons_succ]
      refine wpAnyH_take (i := 2) (oi := _) (v := ?_) rfl (by kernel_rfl) (by kernel_rfl) (by kernel_rfl) (fun _ _ _ h => h) (Or.inl ⟨by rfl, ?_⟩) (by assumption) ?_
      rotate_left 1
      · (intro w hSw; (try dsimp only at hSw); go_simp; all_goals (with_reducible rfl))
      try simp only [Act.put, List.setIfInBounds_toArray, List.set_cons_zero, List.set_cons_succ]
      refine wpAnyH_take (i := 3) (oi := _) (v := ?_) rfl (by kernel_rfl) (by kernel_rfl) (by kernel_rfl) (fun _ _ _ h => h) (Or.inl ⟨by rfl, ?_⟩) (by assumption) ?_
      rotate_left 1
      · (intro w hSw; (try dsimp only at hSw); go_simp; all_goals (with_reducible rfl))
      try simp only [Act.put, List.setIfInBounds_toArray, List.set_cons_zero, List.set_cons_succ]
      refine wpAnyH_take (i := 4) (oi := _) (v := ?_) rfl (by kernel_rfl) (by kernel_rfl) (by kernel_rfl) (fun _ _ _ h => h) (Or.inl ⟨by rfl, ?_⟩) (by assumption) ?_
      rotate_left 1
      · (intro w hSw; (try dsimp only at hSw); go_simp; all_goals (with_reducible rfl))
      try simp only [Act.put, List.setIfInBounds_toArray, List.set_cons_zero, List.set_cons_succ]
      refine wpAnyH_take (i := 5) (oi := _) (v := ?_) rfl (by kernel_rfl) (by kernel_rfl) (by kernel_rfl) (fun _ _ _ h => h) (Or.inl ⟨by rfl, ?_⟩) (by assumption) ?_
      rotate_left 1
      · (intro w hSw; (try dsimp only at hSw); go_simp; all_goals (with_reducible rfl))
      try simp only [Act.put, List.setIfInBounds_toArray, List.set_cons_zero, List.set_cons_succ]
      refine wpAnyH_take (i := 6) (oi := _) (v := ?_) rfl (by kernel_rfl) (by kernel_rfl) (by kernel_rfl) (fun _ _ _ h => h) (Or.inl ⟨by rfl, ?_⟩) (by assumption) ?_
      rotate_left 1
      · (intro w hSw; (try dsimp only at hSw); go_simp; all_goals (with_reducible rfl))
      try simp only [Act.put, List.setIfInBounds_toArray, List.set_cons_zero, List.set_cons_succ]
      refine wpAnyH_take (i := 7) (oi := _) (v := ?_) rfl (by kernel_rfl) (by kernel_rfl) (by kernel_rfl) (fun _ _ _ h => h) (Or.inl ⟨by rfl, ?_⟩) (by assumption) ?_
      rotate_left 1
      · (intro w hSw; (try dsimp only at hSw); go_simp; all_goals (with_reducible rfl))
      try simp only [Act.put, List.setIfInBounds_toArray, List.set_cons_zero, List.set_cons_succ]
      have hSV := hHeld
      refine wpAnyH_ready (rs := [8, 9]) (by kernel_rfl) (by simp) ?_
      refine AllReadyH.cons (o := _) rfl (fun K hK => ?_) ?_
      rotate_left 1
      · refine AllReadyH.cons (o := _) rfl (fun K hK => ?_) ?_
        rotate_left 1
        · exact AllReadyH.nil
        refine step_alloc_fresh (by rfl) 26 rfl _ iS zS HIS.out HZS.out HCS.out ?_
        intro wB5 hgwB5 hBwB5 hswB5
        have HGwB5 := Lib.hid hgwB5
        clear hgwB5
        have HSwB5 := Lib.hid hswB5
        clear hswB5
        refine hK.out _ _ ?_ (fun hHeld => ?_)
        · (apply msa_below; assumption; assumption)
        clear hK K
        try simp only [Act.put, List.setIfInBounds_toArray, List.set_cons_zero, List.set_cons_succ]
        refine wpAnyH_ready (rs := [8]) (by kernel_rfl) (by simp) ?_
        refine AllReadyH.cons (o := _) rfl (fun K hK => ?_) ?_
        rotate_left 1
        · exact AllReadyH.nil
        go_simp
        go_at_call 39
        refine (macOf p1 p2 l1.length l2.length d1 d2 l1 l2 X _ HX.out hHeld.2.1 hHeld.2.2.2.1.left hHeld.2.2.2.2.left rfl rfl (by omega) (by omega) (by omega) (by omega)).mono ?_
        rintro _ wA5 ⟨rfl, hBwA5⟩
        dsimp only
        have hqwA5 := Lib.hid ((hBwA5.block _ (Array.getElem?_eq_some_iff.1 HGwB5.out).1).trans HGwB5.out)
        refine hK.out _ _ ?_ (fun hHeld => ?_)
        · (apply msa_below; assumption; assumption)
        clear hK K
        try simp only [Act.put, List.setIfInBounds_toArray, List.set_cons_zero, List.set_cons_succ]
        refine wpAnyH_ready (rs := [10]) (by kernel_rfl) (by simp) ?_
        refine AllReadyH.cons (o := _) rfl (fun K hK => ?_) ?_
        rotate_left 1
        · exact AllReadyH.nil
        refine step_store_blk rfl _ _ _ rfl v5.heap.size 0 (bvs X) rfl rfl _ _ hqwA5.out HFX.out HIX.out HXO.out ?_
        intro wC5 hgwC5 hGwC5
        rw [splice_whole _ _ (by rw [HBX.out];simp)] at hgwC5
        have HGwC5 := Lib.hid hgwC5
        clear hgwC5
        have hSC := msa_below ((hBwB5.trans (hBwA5.mono (by have := HSwB5.out;omega))).grown hGwC5 (by have := HSwB5.out;have := hBwA5.size;omega) (fun k e => by cases e;exact Nat.le_refl _)) hSV
        refine hK.out _ _ ?_ (fun hHeld => ?_)
        · (exact hSC)
        clear hK K
        try simp only [Act.put, List.setIfInBounds_toArray, List.set_cons_zero, List.set_cons_succ]
        refine wpAnyH_done (by kernel_rfl) ?_ _
        refine NoPanic.normal ?_
        have hmb : MSB w w.heap.size v5.heap.size s X (l1 ++ marks) (l2 ++ marks) p1 p2 wC5.drew := msb_drew ⟨⟨hSC.1, rangeAt_whole HGwC5.out⟩, hSC.2⟩
        clear hSC hSV hHeld
        (repeat' ((fail_if_success at_builtin); first | go_values | go_skip | go_guarded | go_step | go_upon))
        refine wp_region_noPanic ?_
        refine wp_region_held_drew (S := MSB w w.heap.size v5.heap.size s X (l1 ++ marks) (l2 ++ marks) p1 p2) (by kernel_rfl) ?_ (fun hHeld => ?_)
        · (assumption)
        generalize wC5.drew = v6 at hHeld ⊢
        refine' wpAnyH_take (i := 0) (oi := _) (v := _) rfl (by kernel_rfl) (by kernel_rfl) (by kernel_rfl) (fun _ _ _ h => h) (yieldsIf_load_mid (by rfl) _ _ rfl _ _ rfl _ _ ?ls1 ?lu1 ?ld1 ?li1) (by assumption) ?lr1
        case ls1 => (intro w hSw; (try dsimp only at hSw); go_split_ands; assumption)
        case lu1 => assumption
        case ld1 => rfl
        case li1 => first | assumption | (simp only [*]; done)
        try simp only [Act.put, List.setIfInBounds_toArray, List.set_cons_zero, List.set_cons_succ]
        refine wpAnyH_take (i := 1) (oi := _) (v := ?_) rfl (by kernel_rfl) (by kernel_rfl) (by kernel_rfl) (fun _ _ _ h => h) (Or.inl ⟨by rfl, ?_⟩) (by assumption) ?_
        rotate_left 1
        · (intro w hSw; (try dsimp only at hSw); go_simp; all_goals (with_reducible rfl))
        try simp only [Act.put, List.setIfInBounds_toArray, List.set_cons_zero, List.set_cons_succ]
        refine wpAnyH_take (i := 2) (oi := _) (v := ?_) rfl (by kernel_rfl) (by kernel_rfl) (by kernel_rfl) (fun _ _ _ h => h) (Or.inl ⟨by rfl, ?_⟩) (by assumption) ?_
        rotate_left 1
        · (intro w hSw; (try dsimp only at hSw); go_simp; all_goals (with_reducible rfl))
        try simp only [Act.put, List.setIfInBounds_toArray, List.set_cons_zero, List.set_cons_succ]
        refine wpAnyH_take (i := 3) (oi := _) (v := ?_) rfl (by kernel_rfl) (by kernel_rfl) (by kernel_rfl) (fun _ _ _ h => h) (Or.inl ⟨by rfl, ?_⟩) (by assumption) ?_
        rotate_left 1
        · (intro w hSw; (try dsimp only at hSw); go_simp; all_goals (with_reducible rfl))
        try simp only [Act.put, List.setIfInBounds_toArray, List.set_cons_zero, List.set_cons_succ]
        refine wpAnyH_take (i := 4) (oi := _) (v := ?_) rfl (by kernel_rfl) (by kernel_rfl) (by kernel_rfl) (fun _ _ _ h => h) (Or.inl ⟨by rfl, ?_⟩) (by assumption) ?_
        rotate_left 1
        · (intro w hSw; (try dsimp only at hSw); go_simp; all_goals (with_reducible rfl))
        try simp only [Act.put, List.setIfInBounds_toArray, List.set_cons_zero, List.set_cons_succ]
        have hSV := hHeld
        refine wpAnyH_ready (rs := [5, 6]) (by kernel_rfl) (by simp) ?_
        refine AllReadyH.cons (o := _) rfl (fun K hK => ?_) ?_
        rotate_left 1
        · refine AllReadyH.cons (o := _) rfl (fun K hK => ?_) ?_
          rotate_left 1
          · exact AllReadyH.nil
          refine step_alloc_fresh (by rfl) 26 rfl _ iS zS HIS.out HZS.out HCS.out ?_
          intro wB6 hgwB6 hBwB6 hswB6
          have HGwB6 := Lib.hid hgwB6
          clear hgwB6
          have HSwB6 := Lib.hid hswB6
          clear hswB6
          refine hK.out _ _ ?_ (fun hHeld => ?_)
          · (apply msb_below; assumption; assumption)
          clear hK K
          try simp only [Act.put, List.setIfInBounds_toArray, List.set_cons_zero, List.set_cons_succ]
          refine wpAnyH_ready (rs := [5]) (by kernel_rfl) (by simp) ?_
          refine AllReadyH.cons (o := _) rfl (fun K hK => ?_) ?_
          rotate_left 1
          · exact AllReadyH.nil
          go_simp
          go_at_call 42
          refine (macChain s p2 l2.length d2 l2 Y _ HY.out hHeld.2.1 HSL.out hHeld.2.2.2.2.left rfl (by omega) (by omega)).mono ?_
          rintro _ wA6 ⟨rfl, hBwA6⟩
          dsimp only
          have hqwA6 := Lib.hid ((hBwA6.block _ (Array.getElem?_eq_some_iff.1 HGwB6.out).1).trans HGwB6.out)
          refine hK.out _ _ ?_ (fun hHeld => ?_)
          · (apply msb_below; assumption; assumption)
          clear hK K
          try simp only [Act.put, List.setIfInBounds_toArray, List.set_cons_zero, List.set_cons_succ]
          refine wpAnyH_ready (rs := [7]) (by kernel_rfl) (by simp) ?_
          refine AllReadyH.cons (o := _) rfl (fun K hK => ?_) ?_
          rotate_left 1
          · exact AllReadyH.nil
          refine step_store_blk rfl _ _ _ rfl v6.heap.size 0 (bvs Y) rfl rfl _ _ hqwA6.out HFY.out HIY.out HYO.out ?_
          intro wC6 hgwC6 hGwC6
          rw [splice_whole _ _ (by rw [HBY.out];simp)] at hgwC6
          have HGwC6 := Lib.hid hgwC6
          clear hgwC6
          have hSC := msb_below ((hBwB6.trans (hBwA6.mono (by have := HSwB6.out;omega))).grown hGwC6 (by have := HSwB6.out;have := hBwA6.size;omega) (fun k e => by cases e;exact Nat.le_refl _)) hSV
          refine hK.out _ _ ?_ (fun hHeld => ?_)
          · (exact hSC)
          clear hK K
          try simp only [Act.put, List.setIfInBounds_toArray, List.set_cons_zero, List.set_cons_succ]
          refine wpAnyH_done (by kernel_rfl) ?_ _
          refine NoPanic.normal ?_
          have hmsd : MS w v5.heap.size v6.heap.size w.heap.size X Y s (l1 ++ marks) (l2 ++ marks) p1 p2 wC6.drew := ms_drew ⟨⟨hSC.1.2, rangeAt_whole HGwC6.out, hSC.1.1⟩, hSC.2⟩
          clear hSC hSV hHeld
          (repeat' ((fail_if_success at_builtin); first | go_values | go_skip | go_guarded | go_step | go_upon))
          refine wp_region_noPanic ?_
          refine wp_region_held_drew (S := MS w v5.heap.size v6.heap.size w.heap.size X Y s (l1 ++ marks) (l2 ++ marks) p1 p2) (by kernel_rfl) ?_ (fun hHeld => ?_)
          · (assumption)
          refine' wpAnyH_take (i := 0) (oi := _) (v := _) rfl (by kernel_rfl) (by kernel_rfl) (by kernel_rfl) (fun _ _ _ h => h) (yieldsIf_load_mid (by rfl) _ _ rfl _ _ rfl _ _ ?ls2 ?lu2 ?ld2 ?li2) (by assumption) ?lr2
          case ls2 => (intro w hSw; (try dsimp only at hSw); go_split_ands; assumption)
          case lu2 => assumption
          case ld2 => rfl
          case li2 => first | assumption | (simp only [*]; done)
          try simp only [Act.put, List.setIfInBounds_toArray, List.set_cons_zero, List.set_cons_succ]
          refine wpAnyH_take (i := 1) (oi := _) (v := ?_) rfl (by kernel_rfl) (by kernel_rfl) (by kernel_rfl) (fun _ _ _ h => h) (Or.inl ⟨by rfl, ?_⟩) (by assumption) ?_
          rotate_left 1
          · (intro w hSw; (try dsimp only at hSw); go_simp; all_goals (with_reducible rfl))
          try simp only [Act.put, List.setIfInBounds_toArray, List.set_cons_zero, List.set_cons_succ]
          refine wpAnyH_take (i := 2) (oi := _) (v := ?_) rfl (by kernel_rfl) (by kernel_rfl) (by kernel_rfl) (fun _ _ _ h => h) (Or.inl ⟨by rfl, ?_⟩) (by assumption) ?_
          rotate_left 1
          · (intro w hSw; (try dsimp only at hSw); go_simp; all_goals (with_reducible rfl))
          try simp only [Act.put, List.setIfInBounds_toArray, List.set_cons_zero, List.set_cons_succ]
          refine wpAnyH_ready (rs := [3]) (by kernel_rfl) (by simp) ?_
          refine AllReadyH.cons (o := _) rfl (fun K hK => ?_) ?_
          rotate_left 1
          · exact AllReadyH.nil
          go_simp
          go_at_call 43
          refine (refOf a b _ _ c1 c2 l1 l2 X _ HX.out (HR1.out.below hHeld.2.2.1 (Nat.le_refl _)) (HR2.out.below hHeld.2.2.1 (Nat.le_refl _)) rfl rfl (by omega) (by omega)).mono ?_
          rintro _ wA ⟨rfl, hBA⟩
          dsimp only
          refine hK.out _ _ ?_ (fun hHeld => ?_)
          · (apply ms_below; assumption; assumption)
          clear hK K
          try simp only [Act.put, List.setIfInBounds_toArray, List.set_cons_zero, List.set_cons_succ]
          refine wpAnyH_take (i := 4) (oi := _) (v := ?_) rfl (by kernel_rfl) (by kernel_rfl) (by kernel_rfl) (fun _ _ _ h => h) (Or.inl ⟨by rfl, ?_⟩) (by assumption) ?_
          rotate_left 1
          · (intro w hSw; (try dsimp only at hSw); go_simp; all_goals (with_reducible rfl))
          try simp only [Act.put, List.setIfInBounds_toArray, List.set_cons_zero, List.set_cons_succ]
          refine wpAnyH_take (i := 5) (oi := _) (v := ?_) rfl (by kernel_rfl) (by kernel_rfl) (by kernel_rfl) (fun _ _ _ h => h) (Or.inl ⟨by rfl, ?_⟩) (by assumption) ?_
          rotate_left 1
          · (intro w hSw; (try dsimp only at hSw); go_simp; all_goals (with_reducible rfl))
          try simp only [Act.put, List.setIfInBounds_toArray, List.set_cons_zero, List.set_cons_succ]
          refine' wpAnyH_take (i := 6) (oi := _) (v := _) rfl (by kernel_rfl) (by kernel_rfl) (by kernel_rfl) (fun _ _ _ h => h) (yieldsIf_load_mid (by rfl) _ _ rfl _ _ rfl _ _ ?ls3 ?lu3 ?ld3 ?li3) (by assumption) ?lr3
          case ls3 => (intro w hSw; (try dsimp only at hSw); go_split_ands; assumption)
          case lu3 => assumption
          case ld3 => rfl
          case li3 => first | assumption | (simp only [*]; done)
          try simp only [Act.put, List.setIfInBounds_toArray, List.set_cons_zero, List.set_cons_succ]
          refine' wpAnyH_take (i := 7) (oi := _) (v := _) rfl (by kernel_rfl) (by kernel_rfl) (by kernel_rfl) (fun _ _ _ h => h) (yieldsIf_load_mid (by rfl) _ _ rfl _ _ rfl _ _ ?ls4 ?lu4 ?ld4 ?li4) (by assumption) ?lr4
          case ls4 => (intro w hSw; (try dsimp only at hSw); go_split_ands; assumption)
          case lu4 => assumption
          case ld4 => rfl
          case li4 => first | assumption | (simp only [*]; done)
          try simp only [Act.put, List.setIfInBounds_toArray, List.set_cons_zero, List.set_cons_succ]
          refine wpAnyH_take (i := 8) (oi := _) (v := ?_) rfl (by kernel_rfl) (by kernel_rfl) (by kernel_rfl) (fun _ _ _ h => h) (Or.inl ⟨by rfl, ?_⟩) (by assumption) ?_
          rotate_left 1
          · (intro w hSw; (try dsimp only at hSw); go_simp; all_goals (with_reducible rfl))
          try simp only [Act.put, List.setIfInBounds_toArray, List.set_cons_zero, List.set_cons_succ]
          refine wpAnyH_ready (rs := [9]) (by kernel_rfl) (by simp) ?_
          refine AllReadyH.cons (o := _) rfl (fun K hK => ?_) ?_
          rotate_left 1
          · exact AllReadyH.nil
          go_simp
          go_at_call 44
          refine (refChain s b _ c2 l2 Y _ HY.out HSL.out (HR2.out.below hHeld.2.2.1 (Nat.le_refl _)) rfl (by omega)).mono ?_
          rintro _ wB ⟨rfl, hBB⟩
          dsimp only
          refine hK.out _ _ ?_ (fun hHeld => ?_)
          · (apply ms_below; assumption; assumption)
          clear hK K
          try simp only [Act.put, List.setIfInBounds_toArray, List.set_cons_zero, List.set_cons_succ]
          refine wpAnyH_take (i := 10) (oi := _) (v := ?_) rfl (by kernel_rfl) (by kernel_rfl) (by kernel_rfl) (fun _ _ _ h => h) (Or.inl ⟨by rfl, ?_⟩) (by assumption) ?_
          rotate_left 1
          · (intro w hSw; (try dsimp only at hSw); go_simp; all_goals (with_reducible rfl))
          try simp only [Act.put, List.setIfInBounds_toArray, List.set_cons_zero, List.set_cons_succ]
          refine wpAnyH_take (i := 11) (oi := _) (v := ?_) rfl (by kernel_rfl) (by kernel_rfl) (by kernel_rfl) (fun _ _ _ h => h) (Or.inl ⟨by rfl, ?_⟩) (by assumption) ?_
          rotate_left 1
          · (intro w hSw; (try dsimp only at hSw); go_simp; all_goals (with_reducible rfl))
          try simp only [Act.put, List.setIfInBounds_toArray, List.set_cons_zero, List.set_cons_succ]
          refine wpAnyH_take (i := 12) (oi := _) (v := ?_) rfl (by kernel_rfl) (by kernel_rfl) (by kernel_rfl) (fun _ _ _ h => h) (Or.inl ⟨by rfl, ?_⟩) (by assumption) ?_
          rotate_left 1
          · (intro w hSw; (try dsimp only at hSw); go_simp; all_goals (with_reducible rfl))
          try simp only [Act.put, List.setIfInBounds_toArray, List.set_cons_zero, List.set_cons_succ]
          refine wpAnyH_take (i := 13) (oi := _) (v := ?_) rfl (by kernel_rfl) (by kernel_rfl) (by kernel_rfl) (fun _ _ _ h => h) (Or.inl ⟨by rfl, ?_⟩) (by assumption) ?_
          rotate_left 1
          · (intro w hSw; (try dsimp only at hSw); go_simp; all_goals (with_reducible rfl))
          try simp only [Act.put, List.setIfInBounds_toArray, List.set_cons_zero, List.set_cons_succ]
          refine wpAnyH_take (i := 14) (oi := _) (v := ?_) rfl (by kernel_rfl) (by kernel_rfl) (by kernel_rfl) (fun _ _ _ h => h) (Or.inl ⟨by rfl, ?_⟩) (by assumption) ?_
          rotate_left 1
          · (intro w hSw; (try dsimp only at hSw); go_simp; all_goals (with_reducible rfl))
          try simp only [Act.put, List.setIfInBounds_toArray, List.set_cons_zero, List.set_cons_succ]
          refine wpAnyH_ready (rs := [15]) (by kernel_rfl) (by simp) ?_
          refine AllReadyH.cons (o := _) rfl (fun K hK => ?_) ?_
          rotate_left 1
          · exact AllReadyH.nil
          go_simp
          go_at_call 26
          refine (keptBytes p1 a l1.length d1 c1 l1 _ hHeld.2.2.2.1 (HR1.out.below hHeld.2.2.1 (Nat.le_refl _)) rfl hd1 (by omega)).mono ?_
          rintro _ wC ⟨rfl, hBC⟩
          dsimp only
          refine hK.out _ _ ?_ (fun hHeld => ?_)
          · (apply ms_below; assumption; assumption)
          clear hK K
          try simp only [Act.put, List.setIfInBounds_toArray, List.set_cons_zero, List.set_cons_succ]
          refine wpAnyH_take (i := 16) (oi := _) (v := ?_) rfl (by kernel_rfl) (by kernel_rfl) (by kernel_rfl) (fun _ _ _ h => h) (Or.inl ⟨by rfl, ?_⟩) (by assumption) ?_
          rotate_left 1
          · (intro w hSw; (try dsimp only at hSw); go_simp; all_goals (with_reducible rfl))
          try simp only [Act.put, List.setIfInBounds_toArray, List.set_cons_zero, List.set_cons_succ]
          refine wpAnyH_take (i := 17) (oi := _) (v := ?_) rfl (by kernel_rfl) (by kernel_rfl) (by kernel_rfl) (fun _ _ _ h => h) (Or.inl ⟨by rfl, ?_⟩) (by assumption) ?_
          rotate_left 1
          · (intro w hSw; (try dsimp only at hSw); go_simp; all_goals (with_reducible rfl))
          try simp only [Act.put, List.setIfInBounds_toArray, List.set_cons_zero, List.set_cons_succ]
          refine wpAnyH_take (i := 18) (oi := _) (v := ?_) rfl (by kernel_rfl) (by kernel_rfl) (by kernel_rfl) (fun _ _ _ h => h) (Or.inl ⟨by rfl, ?_⟩) (by assumption) ?_
          rotate_left 1
          · (intro w hSw; (try dsimp only at hSw); go_simp; all_goals (with_reducible rfl))
          try simp only [Act.put, List.setIfInBounds_toArray, List.set_cons_zero, List.set_cons_succ]
          refine wpAnyH_take (i := 19) (oi := _) (v := ?_) rfl (by kernel_rfl) (by kernel_rfl) (by kernel_rfl) (fun _ _ _ h => h) (Or.inl ⟨by rfl, ?_⟩) (by assumption) ?_
          rotate_left 1
          · (intro w hSw; (try dsimp only at hSw); go_simp; all_goals (with_reducible rfl))
          try simp only [Act.put, List.setIfInBounds_toArray, List.set_cons_zero, List.set_cons_succ]
          refine wpAnyH_ready (rs := [20]) (by kernel_rfl) (by simp) ?_
          refine AllReadyH.cons (o := _) rfl (fun K hK => ?_) ?_
          rotate_left 1
          · exact AllReadyH.nil
          go_simp
          go_at_call 26
          refine (keptBytes p2 b l2.length d2 c2 l2 _ hHeld.2.2.2.2 (HR2.out.below hHeld.2.2.1 (Nat.le_refl _)) rfl hd2 (by omega)).mono ?_
          rintro _ wD ⟨rfl, hBD⟩
          dsimp only
          refine hK.out _ _ ?_ (fun hHeld => ?_)
          · (apply ms_below; assumption; assumption)
          clear hK K
          try simp only [Act.put, List.setIfInBounds_toArray, List.set_cons_zero, List.set_cons_succ]
          refine wpAnyH_take (i := 21) (oi := _) (v := ?_) rfl (by kernel_rfl) (by kernel_rfl) (by kernel_rfl) (fun _ _ _ h => h) (Or.inl ⟨by rfl, ?_⟩) (by assumption) ?_
          rotate_left 1
          · (intro w hSw; (try dsimp only at hSw); go_simp; all_goals (with_reducible rfl))
          try simp only [Act.put, List.setIfInBounds_toArray, List.set_cons_zero, List.set_cons_succ]
          refine wpAnyH_take (i := 22) (oi := _) (v := ?_) rfl (by kernel_rfl) (by kernel_rfl) (by kernel_rfl) (fun _ _ _ h => h) (Or.inl ⟨by rfl, ?_⟩) (by assumption) ?_
          rotate_left 1
          · (intro w hSw; (try dsimp only at hSw); go_simp; all_goals (with_reducible rfl))
          try simp only [Act.put, List.setIfInBounds_toArray, List.set_cons_zero, List.set_cons_succ]
          refine wpAnyH_ready (rs := [23]) (by kernel_rfl) (by simp) ?_
          refine AllReadyH.cons (o := _) rfl (fun K hK => ?_) ?_
          rotate_left 1
          · exact AllReadyH.nil
          go_simp
          go_at_call 38
          refine (macKnown _ hHeld.2.1).mono ?_
          rintro _ wE ⟨rfl, hBE⟩
          dsimp only
          refine hK.out _ _ ?_ (fun hHeld => ?_)
          · (apply ms_below; assumption; assumption)
          clear hK K
          try simp only [Act.put, List.setIfInBounds_toArray, List.set_cons_zero, List.set_cons_succ]
          refine wpAnyH_take (i := 24) (oi := _) (v := ?_) rfl (by kernel_rfl) (by kernel_rfl) (by kernel_rfl) (fun _ _ _ h => h) (Or.inl ⟨by rfl, ?_⟩) (by assumption) ?_
          rotate_left 1
          · (intro w hSw; (try dsimp only at hSw); go_simp; all_goals (with_reducible rfl))
          try simp only [Act.put, List.setIfInBounds_toArray, List.set_cons_zero, List.set_cons_succ]
          refine wpAnyH_take (i := 25) (oi := _) (v := ?_) rfl (by kernel_rfl) (by kernel_rfl) (by kernel_rfl) (fun _ _ _ h => h) (Or.inl ⟨by rfl, ?_⟩) (by assumption) ?_
          rotate_left 1
          · (intro w hSw; (try dsimp only at hSw); go_simp; all_goals (with_reducible rfl))
          try simp only [Act.put, List.setIfInBounds_toArray, List.set_cons_zero, List.set_cons_succ]
          refine wpAnyH_done (by kernel_rfl) ?_ _
          refine NoPanic.normal ?_
          (repeat' ((fail_if_success at_builtin); first | go_values | go_skip | go_guarded | go_step | go_upon))
          go_ret
          exact ⟨rfl, hHeld.2.2.1⟩
        go_simp
        go_at_call 42
        refine (macChain s p2 l2.length d2 l2 Y _ HY.out hHeld.2.1 HSL.out hHeld.2.2.2.2.left rfl (by omega) (by omega)).mono ?_
        rintro _ wA6 ⟨rfl, hBwA6⟩
        dsimp only
        refine hK.out _ _ ?_ (fun hHeld => ?_)
        · (apply msb_below; assumption; assumption)
        clear hK K
        try simp only [Act.put, List.setIfInBounds_toArray, List.set_cons_zero, List.set_cons_succ]
        have hSA := hHeld
        refine wpAnyH_ready (rs := [6]) (by kernel_rfl) (by simp) ?_
        refine AllReadyH.cons (o := _) rfl (fun K hK => ?_) ?_
        rotate_left 1
        · exact AllReadyH.nil
        refine step_alloc_fresh (by rfl) 26 rfl _ iS zS HIS.out HZS.out HCS.out ?_
        intro wB6 hgwB6 hBwB6 hswB6
        have HGwB6 := Lib.hid hgwB6
        clear hgwB6
        have HSwB6 := Lib.hid hswB6
        clear hswB6
        refine hK.out _ _ ?_ (fun hHeld => ?_)
        · (apply msb_below; assumption; assumption)
        clear hK K
        try simp only [Act.put, List.setIfInBounds_toArray, List.set_cons_zero, List.set_cons_succ]
        refine wpAnyH_ready (rs := [7]) (by kernel_rfl) (by simp) ?_
        refine AllReadyH.cons (o := _) rfl (fun K hK => ?_) ?_
        rotate_left 1
        · exact AllReadyH.nil
        refine step_store_blk rfl _ _ _ rfl wA6.heap.size 0 (bvs Y) rfl rfl _ _ HGwB6.out HFY.out HIY.out HYO.out ?_
        intro wC6 hgwC6 hGwC6
        rw [splice_whole _ _ (by rw [HBY.out];simp)] at hgwC6
        have HGwC6 := Lib.hid hgwC6
        clear hgwC6
        have hSC := msb_below (hBwB6.grown hGwC6 (by have := HSwB6.out;omega) (fun k e => by cases e;exact Nat.le_refl _)) hSA
        refine hK.out _ _ ?_ (fun hHeld => ?_)
        · (exact hSC)
        clear hK K
        try simp only [Act.put, List.setIfInBounds_toArray, List.set_cons_zero, List.set_cons_succ]
        refine wpAnyH_done (by kernel_rfl) ?_ _
        refine NoPanic.normal ?_
        have hmsd : MS w v5.heap.size wA6.heap.size w.heap.size X Y s (l1 ++ marks) (l2 ++ marks) p1 p2 wC6.drew := ms_drew ⟨⟨hSC.1.2, rangeAt_whole HGwC6.out, hSC.1.1⟩, hSC.2⟩
        clear hSC hSV hHeld
        (repeat' ((fail_if_success at_builtin); first | go_values | go_skip | go_guarded | go_step | go_upon))
        refine wp_region_noPanic ?_
        refine wp_region_held_drew (S := MS w v5.heap.size wA6.heap.size w.heap.size X Y s (l1 ++ marks) (l2 ++ marks) p1 p2) (by kernel_rfl) ?_ (fun hHeld => ?_)
        · (assumption)
        refine' wpAnyH_take (i := 0) (oi := _) (v := _) rfl (by kernel_rfl) (by kernel_rfl) (by kernel_rfl) (fun _ _ _ h => h) (yieldsIf_load_mid (by rfl) _ _ rfl _ _ rfl _ _ ?ls5 ?lu5 ?ld5 ?li5) (by assumption) ?lr5
        case ls5 => (intro w hSw; (try dsimp only at hSw); go_split_ands; assumption)
        case lu5 => assumption
        case ld5 => rfl
        case li5 => first | assumption | (simp only [*]; done)
        try simp only [Act.put, List.setIfInBounds_toArray, List.set_cons_zero, List.set_cons_succ]
        refine wpAnyH_take (i := 1) (oi := _) (v := ?_) rfl (by kernel_rfl) (by kernel_rfl) (by kernel_rfl) (fun _ _ _ h => h) (Or.inl ⟨by rfl, ?_⟩) (by assumption) ?_
        rotate_left 1
        · (intro w hSw; (try dsimp only at hSw); go_simp; all_goals (with_reducible rfl))
        try simp only [Act.put, List.setIfInBounds_toArray, List.set_cons_zero, List.set_cons_succ]
        refine wpAnyH_take (i := 2) (oi := _) (v := ?_) rfl (by kernel_rfl) (by kernel_rfl) (by kernel_rfl) (fun _ _ _ h => h) (Or.inl ⟨by rfl, ?_⟩) (by assumption) ?_
        rotate_left 1
        · (intro w hSw; (try dsimp only at hSw); go_simp; all_goals (with_reducible rfl))
        try simp only [Act.put, List.setIfInBounds_toArray, List.set_cons_zero, List.set_cons_succ]
        refine wpAnyH_ready (rs := [3]) (by kernel_rfl) (by simp) ?_
        refine AllReadyH.cons (o := _) rfl (fun K hK => ?_) ?_
        rotate_left 1
        · exact AllReadyH.nil
        go_simp
        go_at_call 43
        refine (refOf a b _ _ c1 c2 l1 l2 X _ HX.out (HR1.out.below hHeld.2.2.1 (Nat.le_refl _)) (HR2.out.below hHeld.2.2.1 (Nat.le_refl _)) rfl rfl (by omega) (by omega)).mono ?_
        rintro _ wA ⟨rfl, hBA⟩
        dsimp only
        refine hK.out _ _ ?_ (fun hHeld => ?_)
        · (apply ms_below; assumption; assumption)
        clear hK K
        try simp only [Act.put, List.setIfInBounds_toArray, List.set_cons_zero, List.set_cons_succ]
        refine wpAnyH_take (i := 4) (oi := _) (v := ?_) rfl (by kernel_rfl) (by kernel_rfl) (by kernel_rfl) (fun _ _ _ h => h) (Or.inl ⟨by rfl, ?_⟩) (by assumption) ?_
        rotate_left 1
        · (intro w hSw; (try dsimp only at hSw); go_simp; all_goals (with_reducible rfl))
        try simp only [Act.put, List.setIfInBounds_toArray, List.set_cons_zero, List.set_cons_succ]
        refine wpAnyH_take (i := 5) (oi := _) (v := ?_) rfl (by kernel_rfl) (by kernel_rfl) (by kernel_rfl) (fun _ _ _ h => h) (Or.inl ⟨by rfl, ?_⟩) (by assumption) ?_
        rotate_left 1
        · (intro w hSw; (try dsimp only at hSw); go_simp; all_goals (with_reducible rfl))
        try simp only [Act.put, List.setIfInBounds_toArray, List.set_cons_zero, List.set_cons_succ]
        refine' wpAnyH_take (i := 6) (oi := _) (v := _) rfl (by kernel_rfl) (by kernel_rfl) (by kernel_rfl) (fun _ _ _ h => h) (yieldsIf_load_mid (by rfl) _ _ rfl _ _ rfl _ _ ?ls6 ?lu6 ?ld6 ?li6) (by assumption) ?lr6
        case ls6 => (intro w hSw; (try dsimp only at hSw); go_split_ands; assumption)
        case lu6 => assumption
        case ld6 => rfl
        case li6 => first | assumption | (simp only [*]; done)
        try simp only [Act.put, List.setIfInBounds_toArray, List.set_cons_zero, List.set_cons_succ]
        refine' wpAnyH_take (i := 7) (oi := _) (v := _) rfl (by kernel_rfl) (by kernel_rfl) (by kernel_rfl) (fun _ _ _ h => h) (yieldsIf_load_mid (by rfl) _ _ rfl _ _ rfl _ _ ?ls7 ?lu7 ?ld7 ?li7) (by assumption) ?lr7
        case ls7 => (intro w hSw; (try dsimp only at hSw); go_split_ands; assumption)
        case lu7 => assumption
        case ld7 => rfl
        case li7 => first | assumption | (simp only [*]; done)
        try simp only [Act.put, List.setIfInBounds_toArray, List.set_cons_zero, List.set_cons_succ]
        refine wpAnyH_take (i := 8) (oi := _) (v := ?_) rfl (by kernel_rfl) (by kernel_rfl) (by kernel_rfl) (fun _ _ _ h => h) (Or.inl ⟨by rfl, ?_⟩) (by assumption) ?_
        rotate_left 1
        · (intro w hSw; (try dsimp only at hSw); go_simp; all_goals (with_reducible rfl))
        try simp only [Act.put, List.setIfInBounds_toArray, List.set_cons_zero, List.set_cons_succ]
        refine wpAnyH_ready (rs := [9]) (by kernel_rfl) (by simp) ?_
        refine AllReadyH.cons (o := _) rfl (fun K hK => ?_) ?_
        rotate_left 1
        · exact AllReadyH.nil
        go_simp
        go_at_call 44
        refine (refChain s b _ c2 l2 Y _ HY.out HSL.out (HR2.out.below hHeld.2.2.1 (Nat.le_refl _)) rfl (by omega)).mono ?_
        rintro _ wB ⟨rfl, hBB⟩
        dsimp only
        refine hK.out _ _ ?_ (fun hHeld => ?_)
        · (apply ms_below; assumption; assumption)
        clear hK K
        try simp only [Act.put, List.setIfInBounds_toArray, List.set_cons_zero, List.set_cons_succ]
        refine wpAnyH_take (i := 10) (oi := _) (v := ?_) rfl (by kernel_rfl) (by kernel_rfl) (by kernel_rfl) (fun _ _ _ h => h) (Or.inl ⟨by rfl, ?_⟩) (by assumption) ?_
        rotate_left 1
        · (intro w hSw; (try dsimp only at hSw); go_simp; all_goals (with_reducible rfl))
        try simp only [Act.put, List.setIfInBounds_toArray, List.set_cons_zero, List.set_cons_succ]
        refine wpAnyH_take (i := 11) (oi := _) (v := ?_) rfl (by kernel_rfl) (by kernel_rfl) (by kernel_rfl) (fun _ _ _ h => h) (Or.inl ⟨by rfl, ?_⟩) (by assumption) ?_
        rotate_left 1
        · (intro w hSw; (try dsimp only at hSw); go_simp; all_goals (with_reducible rfl))
        try simp only [Act.put, List.setIfInBounds_toArray, List.set_cons_zero, List.set_cons_succ]
        refine wpAnyH_take (i := 12) (oi := _) (v := ?_) rfl (by kernel_rfl) (by kernel_rfl) (by kernel_rfl) (fun _ _ _ h => h) (Or.inl ⟨by rfl, ?_⟩) (by assumption) ?_
        rotate_left 1
        · (intro w hSw; (try dsimp only at hSw); go_simp; all_goals (with_reducible rfl))
        try simp only [Act.put, List.setIfInBounds_toArray, List.set_cons_zero, List.set_cons_succ]
        refine wpAnyH_take (i := 13) (oi := _) (v := ?_) rfl (by kernel_rfl) (by kernel_rfl) (by kernel_rfl) (fun _ _ _ h => h) (Or.inl ⟨by rfl, ?_⟩) (by assumption) ?_
        rotate_left 1
        · (intro w hSw; (try dsimp only at hSw); go_simp; all_goals (with_reducible rfl))
        try simp only [Act.put, List.setIfInBounds_toArray, List.set_cons_zero, List.set_cons_succ]
        refine wpAnyH_take (i := 14) (oi := _) (v := ?_) rfl (by kernel_rfl) (by kernel_rfl) (by kernel_rfl) (fun _ _ _ h => h) (Or.inl ⟨by rfl, ?_⟩) (by assumption) ?_
        rotate_left 1
        · (intro w hSw; (try dsimp only at hSw); go_simp; all_goals (with_reducible rfl))
        try simp only [Act.put, List.setIfInBounds_toArray, List.set_cons_zero, List.set_cons_succ]
        refine wpAnyH_ready (rs := [15]) (by kernel_rfl) (by simp) ?_
        refine AllReadyH.cons (o := _) rfl (fun K hK => ?_) ?_
        rotate_left 1
        · exact AllReadyH.nil
        go_simp
        go_at_call 26
        refine (keptBytes p1 a l1.length d1 c1 l1 _ hHeld.2.2.2.1 (HR1.out.below hHeld.2.2.1 (Nat.le_refl _)) rfl hd1 (by omega)).mono ?_
        rintro _ wC ⟨rfl, hBC⟩
        dsimp only
        refine hK.out _ _ ?_ (fun hHeld => ?_)
        · (apply ms_below; assumption; assumption)
        clear hK K
        try simp only [Act.put, List.setIfInBounds_toArray, List.set_cons_zero, List.set_cons_succ]
        refine wpAnyH_take (i := 16) (oi := _) (v := ?_) rfl (by kernel_rfl) (by kernel_rfl) (by kernel_rfl) (fun _ _ _ h => h) (Or.inl ⟨by rfl, ?_⟩) (by assumption) ?_
        rotate_left 1
        · (intro w hSw; (try dsimp only at hSw); go_simp; all_goals (with_reducible rfl))
        try simp only [Act.put, List.setIfInBounds_toArray, List.set_cons_zero, List.set_cons_succ]
        refine wpAnyH_take (i := 17) (oi := _) (v := ?_) rfl (by kernel_rfl) (by kernel_rfl) (by kernel_rfl) (fun _ _ _ h => h) (Or.inl ⟨by rfl, ?_⟩) (by assumption) ?_
        rotate_left 1
        · (intro w hSw; (try dsimp only at hSw); go_simp; all_goals (with_reducible rfl))
        try simp only [Act.put, List.setIfInBounds_toArray, List.set_cons_zero, List.set_cons_succ]
        refine wpAnyH_take (i := 18) (oi := _) (v := ?_) rfl (by kernel_rfl) (by kernel_rfl) (by kernel_rfl) (fun _ _ _ h => h) (Or.inl ⟨by rfl, ?_⟩) (by assumption) ?_
        rotate_left 1
        · (intro w hSw; (try dsimp only at hSw); go_simp; all_goals (with_reducible rfl))
        try simp only [Act.put, List.setIfInBounds_toArray, List.set_cons_zero, List.set_cons_succ]
        refine wpAnyH_take (i := 19) (oi := _) (v := ?_) rfl (by kernel_rfl) (by kernel_rfl) (by kernel_rfl) (fun _ _ _ h => h) (Or.inl ⟨by rfl, ?_⟩) (by assumption) ?_
        rotate_left 1
        · (intro w hSw; (try dsimp only at hSw); go_simp; all_goals (with_reducible rfl))
        try simp only [Act.put, List.setIfInBounds_toArray, List.set_cons_zero, List.set_cons_succ]
        refine wpAnyH_ready (rs := [20]) (by kernel_rfl) (by simp) ?_
        refine AllReadyH.cons (o := _) rfl (fun K hK => ?_) ?_
        rotate_left 1
        · exact AllReadyH.nil
        go_simp
        go_at_call 26
        refine (keptBytes p2 b l2.length d2 c2 l2 _ hHeld.2.2.2.2 (HR2.out.below hHeld.2.2.1 (Nat.le_refl _)) rfl hd2 (by omega)).mono ?_
        rintro _ wD ⟨rfl, hBD⟩
        dsimp only
        refine hK.out _ _ ?_ (fun hHeld => ?_)
        · (apply ms_below; assumption; assumption)
        clear hK K
        try simp only [Act.put, List.setIfInBounds_toArray, List.set_cons_zero, List.set_cons_succ]
        refine wpAnyH_take (i := 21) (oi := _) (v := ?_) rfl (by kernel_rfl) (by kernel_rfl) (by kernel_rfl) (fun _ _ _ h => h) (Or.inl ⟨by rfl, ?_⟩) (by assumption) ?_
        rotate_left 1
        · (intro w hSw; (try dsimp only at hSw); go_simp; all_goals (with_reducible rfl))
        try simp only [Act.put, List.setIfInBounds_toArray, List.set_cons_zero, List.set_cons_succ]
        refine wpAnyH_take (i := 22) (oi := _) (v := ?_) rfl (by kernel_rfl) (by kernel_rfl) (by kernel_rfl) (fun _ _ _ h => h) (Or.inl ⟨by rfl, ?_⟩) (by assumption) ?_
        rotate_left 1
        · (intro w hSw; (try dsimp only at hSw); go_simp; all_goals (with_reducible rfl))
        try simp only [Act.put, List.setIfInBounds_toArray, List.set_cons_zero, List.set_cons_succ]
        refine wpAnyH_ready (rs := [23]) (by kernel_rfl) (by simp) ?_
        refine AllReadyH.cons (o := _) rfl (fun K hK => ?_) ?_
        rotate_left 1
        · exact AllReadyH.nil
        go_simp
        go_at_call 38
        refine (macKnown _ hHeld.2.1).mono ?_
        rintro _ wE ⟨rfl, hBE⟩
        dsimp only
        refine hK.out _ _ ?_ (fun hHeld => ?_)
        · (apply ms_below; assumption; assumption)
        clear hK K
        try simp only [Act.put, List.setIfInBounds_toArray, List.set_cons_zero, List.set_cons_succ]
        refine wpAnyH_take (i := 24) (oi := _) (v := ?_) rfl (by kernel_rfl) (by kernel_rfl) (by kernel_rfl) (fun _ _ _ h => h) (Or.inl ⟨by rfl, ?_⟩) (by assumption) ?_
        rotate_left 1
        · (intro w hSw; (try dsimp only at hSw); go_simp; all_goals (with_reducible rfl))
        try simp only [Act.put, List.setIfInBounds_toArray, List.set_cons_zero, List.set_cons_succ]
        refine wpAnyH_take (i := 25) (oi := _) (v := ?_) rfl (by kernel_rfl) (by kernel_rfl) (by kernel_rfl) (fun _ _ _ h => h) (Or.inl ⟨by rfl, ?_⟩) (by assumption) ?_
        rotate_left 1
        · (intro w hSw; (try dsimp only at hSw); go_simp; all_goals (with_reducible rfl))
        try simp only [Act.put, List.setIfInBounds_toArray, List.set_cons_zero, List.set_cons_succ]
        refine wpAnyH_done (by kernel_rfl) ?_ _
        refine NoPanic.normal ?_
        (repeat' ((fail_if_success at_builtin); first | go_values | go_skip | go_guarded | go_step | go_upon))
        go_ret
        exact ⟨rfl, hHeld.2.2.1⟩
      go_simp
      go_at_call 39
      refine (macOf p1 p2 l1.length l2.length d1 d2 l1 l2 X _ HX.out hHeld.2.1 hHeld.2.2.2.1.left hHeld.2.2.2.2.left rfl rfl (by omega) (by omega) (by omega) (by omega)).mono ?_
      rintro _ wA5 ⟨rfl, hBwA5⟩
      dsimp only
      refine hK.out _ _ ?_ (fun hHeld => ?_)
      · (apply msa_below; assumption; assumption)
      clear hK K
      try simp only [Act.put, List.setIfInBounds_toArray, List.set_cons_zero, List.set_cons_succ]
      have hSA := hHeld
      refine wpAnyH_ready (rs := [9]) (by kernel_rfl) (by simp) ?_
      refine AllReadyH.cons (o := _) rfl (fun K hK => ?_) ?_
      rotate_left 1
      · exact AllReadyH.nil
      refine step_alloc_fresh (by rfl) 26 rfl _ iS zS HIS.out HZS.out HCS.out ?_
      intro wB5 hgwB5 hBwB5 hswB5
      have HGwB5 := Lib.hid hgwB5
      clear hgwB5
      have HSwB5 := Lib.hid hswB5
      clear hswB5
      refine hK.out _ _ ?_ (fun hHeld => ?_)
      · (apply msa_below; assumption; assumption)
      clear hK K
      try simp only [Act.put, List.setIfInBounds_toArray, List.set_cons_zero, List.set_cons_succ]
      refine wpAnyH_ready (rs := [10]) (by kernel_rfl) (by simp) ?_
      refine AllReadyH.cons (o := _) rfl (fun K hK => ?_) ?_
      rotate_left 1
      · exact AllReadyH.nil
      refine step_store_blk rfl _ _ _ rfl wA5.heap.size 0 (bvs X) rfl rfl _ _ HGwB5.out HFX.out HIX.out HXO.out ?_
      intro wC5 hgwC5 hGwC5
      rw [splice_whole _ _ (by rw [HBX.out];simp)] at hgwC5
      have HGwC5 := Lib.hid hgwC5
      clear hgwC5
      have hSC := msa_below (hBwB5.grown hGwC5 (by have := HSwB5.out;omega) (fun k e => by cases e;exact Nat.le_refl _)) hSA
      refine hK.out _ _ ?_ (fun hHeld => ?_)
      · (exact hSC)
      clear hK K
      try simp only [Act.put, List.setIfInBounds_toArray, List.set_cons_zero, List.set_cons_succ]
      refine wpAnyH_done (by kernel_rfl) ?_ _
      refine NoPanic.normal ?_
      have hmb : MSB w w.heap.size wA5.heap.size s X (l1 ++ marks) (l2 ++ marks) p1 p2 wC5.drew := msb_drew ⟨⟨hSC.1, rangeAt_whole HGwC5.out⟩, hSC.2⟩
      clear hSC hSV hHeld
      (repeat' ((fail_if_success at_builtin); first | go_values | go_skip | go_guarded | go_step | go_upon))
      refine wp_region_noPanic ?_
      refine wp_region_held_drew (S := MSB w w.heap.size wA5.heap.size s X (l1 ++ marks) (l2 ++ marks) p1 p2) (by kernel_rfl) ?_ (fun hHeld => ?_)
      · (assumption)
      generalize wC5.drew = v6 at hHeld ⊢
      refine' wpAnyH_take (i := 0) (oi := _) (v := _) rfl (by kernel_rfl) (by kernel_rfl) (by kernel_rfl) (fun _ _ _ h => h) (yieldsIf_load_mid (by rfl) _ _ rfl _ _ rfl _ _ ?ls8 ?lu8 ?ld8 ?li8) (by assumption) ?lr8
      case ls8 => (intro w hSw; (try dsimp only at hSw); go_split_ands; assumption)
      case lu8 => assumption
      case ld8 => rfl
      case li8 => first | assumption | (simp only [*]; done)
      try simp only [Act.put, List.setIfInBounds_toArray, List.set_cons_zero, List.set_cons_succ]
      refine wpAnyH_take (i := 1) (oi := _) (v := ?_) rfl (by kernel_rfl) (by kernel_rfl) (by kernel_rfl) (fun _ _ _ h => h) (Or.inl ⟨by rfl, ?_⟩) (by assumption) ?_
      rotate_left 1
      · (intro w hSw; (try dsimp only at hSw); go_simp; all_goals (with_reducible rfl))
      try simp only [Act.put, List.setIfInBounds_toArray, List.set_cons_zero, List.set_cons_succ]
      refine wpAnyH_take (i := 2) (oi := _) (v := ?_) rfl (by kernel_rfl) (by kernel_rfl) (by kernel_rfl) (fun _ _ _ h => h) (Or.inl ⟨by rfl, ?_⟩) (by assumption) ?_
      rotate_left 1
      · (intro w hSw; (try dsimp only at hSw); go_simp; all_goals (with_reducible rfl))
      try simp only [Act.put, List.setIfInBounds_toArray, List.set_cons_zero, List.set_cons_succ]
      refine wpAnyH_take (i := 3) (oi := _) (v := ?_) rfl (by kernel_rfl) (by kernel_rfl) (by kernel_rfl) (fun _ _ _ h => h) (Or.inl ⟨by rfl, ?_⟩) (by assumption) ?_
      rotate_left 1
      · (intro w hSw; (try dsimp only at hSw); go_simp; all_goals (with_reducible rfl))
      try simp only [Act.put, List.setIfInBounds_toArray, List.set_cons_zero, List.set_cons_succ]
      refine wpAnyH_take (i := 4) (oi := _) (v := ?_) rfl (by kernel_rfl) (by kernel_rfl) (by kernel_rfl) (fun _ _ _ h => h) (Or.inl ⟨by rfl, ?_⟩) (by assumption) ?_
      rotate_left 1
      · (intro w hSw; (try dsimp only at hSw); go_simp; all_goals (with_reducible rfl))
      try simp only [Act.put, List.setIfInBounds_toArray, List.set_cons_zero, List.set_cons_succ]
      have hSV := hHeld
      refine wpAnyH_ready (rs := [5, 6]) (by kernel_rfl) (by simp) ?_
      refine AllReadyH.cons (o := _) rfl (fun K hK => ?_) ?_
      rotate_left 1
      · refine AllReadyH.cons (o := _) rfl (fun K hK => ?_) ?_
        rotate_left 1
        · exact AllReadyH.nil
        refine step_alloc_fresh (by rfl) 26 rfl _ iS zS HIS.out HZS.out HCS.out ?_
        intro wB6 hgwB6 hBwB6 hswB6
        have HGwB6 := Lib.hid hgwB6
        clear hgwB6
        have HSwB6 := Lib.hid hswB6
        clear hswB6
        refine hK.out _ _ ?_ (fun hHeld => ?_)
        · (apply msb_below; assumption; assumption)
        clear hK K
        try simp only [Act.put, List.setIfInBounds_toArray, List.set_cons_zero, List.set_cons_succ]
        refine wpAnyH_ready (rs := [5]) (by kernel_rfl) (by simp) ?_
        refine AllReadyH.cons (o := _) rfl (fun K hK => ?_) ?_
        rotate_left 1
        · exact AllReadyH.nil
        go_simp
        go_at_call 42
        refine (macChain s p2 l2.length d2 l2 Y _ HY.out hHeld.2.1 HSL.out hHeld.2.2.2.2.left rfl (by omega) (by omega)).mono ?_
        rintro _ wA6 ⟨rfl, hBwA6⟩
        dsimp only
        have hqwA6 := Lib.hid ((hBwA6.block _ (Array.getElem?_eq_some_iff.1 HGwB6.out).1).trans HGwB6.out)
        refine hK.out _ _ ?_ (fun hHeld => ?_)
        · (apply msb_below; assumption; assumption)
        clear hK K
        try simp only [Act.put, List.setIfInBounds_toArray, List.set_cons_zero, List.set_cons_succ]
        refine wpAnyH_ready (rs := [7]) (by kernel_rfl) (by simp) ?_
        refine AllReadyH.cons (o := _) rfl (fun K hK => ?_) ?_
        rotate_left 1
        · exact AllReadyH.nil
        refine step_store_blk rfl _ _ _ rfl v6.heap.size 0 (bvs Y) rfl rfl _ _ hqwA6.out HFY.out HIY.out HYO.out ?_
        intro wC6 hgwC6 hGwC6
        rw [splice_whole _ _ (by rw [HBY.out];simp)] at hgwC6
        have HGwC6 := Lib.hid hgwC6
        clear hgwC6
        have hSC := msb_below ((hBwB6.trans (hBwA6.mono (by have := HSwB6.out;omega))).grown hGwC6 (by have := HSwB6.out;have := hBwA6.size;omega) (fun k e => by cases e;exact Nat.le_refl _)) hSV
        refine hK.out _ _ ?_ (fun hHeld => ?_)
        · (exact hSC)
        clear hK K
        try simp only [Act.put, List.setIfInBounds_toArray, List.set_cons_zero, List.set_cons_succ]
        refine wpAnyH_done (by kernel_rfl) ?_ _
        refine NoPanic.normal ?_
        have hmsd : MS w wA5.heap.size v6.heap.size w.heap.size X Y s (l1 ++ marks) (l2 ++ marks) p1 p2 wC6.drew := ms_drew ⟨⟨hSC.1.2, rangeAt_whole HGwC6.out, hSC.1.1⟩, hSC.2⟩
        clear hSC hSV hHeld
        (repeat' ((fail_if_success at_builtin); first | go_values | go_skip | go_guarded | go_step | go_upon))
        refine wp_region_noPanic ?_
        refine wp_region_held_drew (S := MS w wA5.heap.size v6.heap.size w.heap.size X Y s (l1 ++ marks) (l2 ++ marks) p1 p2) (by kernel_rfl) ?_ (fun hHeld => ?_)
        · (assumption)
        refine' wpAnyH_take (i := 0) (oi := _) (v := _) rfl (by kernel_rfl) (by kernel_rfl) (by kernel_rfl) (fun _ _ _ h => h) (yieldsIf_load_mid (by rfl) _ _ rfl _ _ rfl _ _ ?ls9 ?lu9 ?ld9 ?li9) (by assumption) ?lr9
        case ls9 => (intro w hSw; (try dsimp only at hSw); go_split_ands; assumption)
        case lu9 => assumption
        case ld9 => rfl
        case li9 => first | assumption | (simp only [*]; done)
        try simp only [Act.put, List.setIfInBounds_toArray, List.set_cons_zero, List.set_cons_succ]
        refine wpAnyH_take (i := 1) (oi := _) (v := ?_) rfl (by kernel_rfl) (by kernel_rfl) (by kernel_rfl) (fun _ _ _ h => h) (Or.inl ⟨by rfl, ?_⟩) (by assumption) ?_
        rotate_left 1
        · (intro w hSw; (try dsimp only at hSw); go_simp; all_goals (with_reducible rfl))
        try simp only [Act.put, List.setIfInBounds_toArray, List.set_cons_zero, List.set_cons_succ]
        refine wpAnyH_take (i := 2) (oi := _) (v := ?_) rfl (by kernel_rfl) (by kernel_rfl) (by kernel_rfl) (fun _ _ _ h => h) (Or.inl ⟨by rfl, ?_⟩) (by assumption) ?_
        rotate_left 1
        · (intro w hSw; (try dsimp only at hSw); go_simp; all_goals (with_reducible rfl))
        try simp only [Act.put, List.setIfInBounds_toArray, List.set_cons_zero, List.set_cons_succ]
        refine wpAnyH_ready (rs := [3]) (by kernel_rfl) (by simp) ?_
        refine AllReadyH.cons (o := _) rfl (fun K hK => ?_) ?_
        rotate_left 1
        · exact AllReadyH.nil
        go_simp
        go_at_call 43
        refine (refOf a b _ _ c1 c2 l1 l2 X _ HX.out (HR1.out.below hHeld.2.2.1 (Nat.le_refl _)) (HR2.out.below hHeld.2.2.1 (Nat.le_refl _)) rfl rfl (by omega) (by omega)).mono ?_
        rintro _ wA ⟨rfl, hBA⟩
        dsimp only
        refine hK.out _ _ ?_ (fun hHeld => ?_)
        · (apply ms_below; assumption; assumption)
        clear hK K
        try simp only [Act.put, List.setIfInBounds_toArray, List.set_cons_zero, List.set_cons_succ]
        refine wpAnyH_take (i := 4) (oi := _) (v := ?_) rfl (by kernel_rfl) (by kernel_rfl) (by kernel_rfl) (fun _ _ _ h => h) (Or.inl ⟨by rfl, ?_⟩) (by assumption) ?_
        rotate_left 1
        · (intro w hSw; (try dsimp only at hSw); go_simp; all_goals (with_reducible rfl))
        try simp only [Act.put, List.setIfInBounds_toArray, List.set_cons_zero, List.set_cons_succ]
        refine wpAnyH_take (i := 5) (oi := _) (v := ?_) rfl (by kernel_rfl) (by kernel_rfl) (by kernel_rfl) (fun _ _ _ h => h) (Or.inl ⟨by rfl, ?_⟩) (by assumption) ?_
        rotate_left 1
        · (intro w hSw; (try dsimp only at hSw); go_simp; all_goals (with_reducible rfl))
        try simp only [Act.put, List.setIfInBounds_toArray, List.set_cons_zero, List.set_cons_succ]
        refine' wpAnyH_take (i := 6) (oi := _) (v := _) rfl (by kernel_rfl) (by kernel_rfl) (by kernel_rfl) (fun _ _ _ h => h) (yieldsIf_load_mid (by rfl) _ _ rfl _ _ rfl _ _ ?ls10 ?lu10 ?ld10 ?li10) (by assumption) ?lr10
        case ls10 => (intro w hSw; (try dsimp only at hSw); go_split_ands; assumption)
        case lu10 => assumption
        case ld10 => rfl
        case li10 => first | assumption | (simp only [*]; done)
        try simp only [Act.put, List.setIfInBounds_toArray, List.set_cons_zero, List.set_cons_succ]
        refine' wpAnyH_take (i := 7) (oi := _) (v := _) rfl (by kernel_rfl) (by kernel_rfl) (by kernel_rfl) (fun _ _ _ h => h) (yieldsIf_load_mid (by rfl) _ _ rfl _ _ rfl _ _ ?ls11 ?lu11 ?ld11 ?li11) (by assumption) ?lr11
        case ls11 => (intro w hSw; (try dsimp only at hSw); go_split_ands; assumption)
        case lu11 => assumption
        case ld11 => rfl
        case li11 => first | assumption | (simp only [*]; done)
        try simp only [Act.put, List.setIfInBounds_toArray, List.set_cons_zero, List.set_cons_succ]
        refine wpAnyH_take (i := 8) (oi := _) (v := ?_) rfl (by kernel_rfl) (by kernel_rfl) (by kernel_rfl) (fun _ _ _ h => h) (Or.inl ⟨by rfl, ?_⟩) (by assumption) ?_
        rotate_left 1
        · (intro w hSw; (try dsimp only at hSw); go_simp; all_goals (with_reducible rfl))
        try simp only [Act.put, List.setIfInBounds_toArray, List.set_cons_zero, List.set_cons_succ]
        refine wpAnyH_ready (rs := [9]) (by kernel_rfl) (by simp) ?_
        refine AllReadyH.cons (o := _) rfl (fun K hK => ?_) ?_
        rotate_left 1
        · exact AllReadyH.nil
        go_simp
        go_at_call 44
        refine (refChain s b _ c2 l2 Y _ HY.out HSL.out (HR2.out.below hHeld.2.2.1 (Nat.le_refl _)) rfl (by omega)).mono ?_
        rintro _ wB ⟨rfl, hBB⟩
        dsimp only
        refine hK.out _ _ ?_ (fun hHeld => ?_)
        · (apply ms_below; assumption; assumption)
        clear hK K
        try simp only [Act.put, List.setIfInBounds_toArray, List.set_cons_zero, List.set_cons_succ]
        refine wpAnyH_take (i := 10) (oi := _) (v := ?_) rfl (by kernel_rfl) (by kernel_rfl) (by kernel_rfl) (fun _ _ _ h => h) (Or.inl ⟨by rfl, ?_⟩) (by assumption) ?_
        rotate_left 1
        · (intro w hSw; (try dsimp only at hSw); go_simp; all_goals (with_reducible rfl))
        try simp only [Act.put, List.setIfInBounds_toArray, List.set_cons_zero, List.set_cons_succ]
        refine wpAnyH_take (i := 11) (oi := _) (v := ?_) rfl (by kernel_rfl) (by kernel_rfl) (by kernel_rfl) (fun _ _ _ h => h) (Or.inl ⟨by rfl, ?_⟩) (by assumption) ?_
        rotate_left 1
        · (intro w hSw; (try dsimp only at hSw); go_simp; all_goals (with_reducible rfl))
        try simp only [Act.put, List.setIfInBounds_toArray, List.set_cons_zero, List.set_cons_succ]
        refine wpAnyH_take (i := 12) (oi := _) (v := ?_) rfl (by kernel_rfl) (by kernel_rfl) (by kernel_rfl) (fun _ _ _ h => h) (Or.inl ⟨by rfl, ?_⟩) (by assumption) ?_
        rotate_left 1
        · (intro w hSw; (try dsimp only at hSw); go_simp; all_goals (with_reducible rfl))
        try simp only [Act.put, List.setIfInBounds_toArray, List.set_cons_zero, List.set_cons_succ]
        refine wpAnyH_take (i := 13) (oi := _) (v := ?_) rfl (by kernel_rfl) (by kernel_rfl) (by kernel_rfl) (fun _ _ _ h => h) (Or.inl ⟨by rfl, ?_⟩) (by assumption) ?_
        rotate_left 1
        · (intro w hSw; (try dsimp only at hSw); go_simp; all_goals (with_reducible rfl))
        try simp only [Act.put, List.setIfInBounds_toArray, List.set_cons_zero, List.set_cons_succ]
        refine wpAnyH_take (i := 14) (oi := _) (v := ?_) rfl (by kernel_rfl) (by kernel_rfl) (by kernel_rfl) (fun _ _ _ h => h) (Or.inl ⟨by rfl, ?_⟩) (by assumption) ?_
        rotate_left 1
        · (intro w hSw; (try dsimp only at hSw); go_simp; all_goals (with_reducible rfl))
        try simp only [Act.put, List.setIfInBounds_toArray, List.set_cons_zero, List.set_cons_succ]
        refine wpAnyH_ready (rs := [15]) (by kernel_rfl) (by simp) ?_
        refine AllReadyH.cons (o := _) rfl (fun K hK => ?_) ?_
        rotate_left 1
        · exact AllReadyH.nil
        go_simp
        go_at_call 26
        refine (keptBytes p1 a l1.length d1 c1 l1 _ hHeld.2.2.2.1 (HR1.out.below hHeld.2.2.1 (Nat.le_refl _)) rfl hd1 (by omega)).mono ?_
        rintro _ wC ⟨rfl, hBC⟩
        dsimp only
        refine hK.out _ _ ?_ (fun hHeld => ?_)
        · (apply ms_below; assumption; assumption)
        clear hK K
        try simp only [Act.put, List.setIfInBounds_toArray, List.set_cons_zero, List.set_cons_succ]
        refine wpAnyH_take (i := 16) (oi := _) (v := ?_) rfl (by kernel_rfl) (by kernel_rfl) (by kernel_rfl) (fun _ _ _ h => h) (Or.inl ⟨by rfl, ?_⟩) (by assumption) ?_
        rotate_left 1
        · (intro w hSw; (try dsimp only at hSw); go_simp; all_goals (with_reducible rfl))
        try simp only [Act.put, List.setIfInBounds_toArray, List.set_cons_zero, List.set_cons_succ]
        refine wpAnyH_take (i := 17) (oi := _) (v := ?_) rfl (by kernel_rfl) (by kernel_rfl) (by kernel_rfl) (fun _ _ _ h => h) (Or.inl ⟨by rfl, ?_⟩) (by assumption) ?_
        rotate_left 1
        · (intro w hSw; (try dsimp only at hSw); go_simp; all_goals (with_reducible rfl))
        try simp only [Act.put, List.setIfInBounds_toArray, List.set_cons_zero, List.set_cons_succ]
        refine wpAnyH_take (i := 18) (oi := _) (v := ?_) rfl (by kernel_rfl) (by kernel_rfl) (by kernel_rfl) (fun _ _ _ h => h) (Or.inl ⟨by rfl, ?_⟩) (by assumption) ?_
        rotate_left 1
        · (intro w hSw; (try dsimp only at hSw); go_simp; all_goals (with_reducible rfl))
        try simp only [Act.put, List.setIfInBounds_toArray, List.set_cons_zero, List.set_cons_succ]
        refine wpAnyH_take (i := 19) (oi := _) (v := ?_) rfl (by kernel_rfl) (by kernel_rfl) (by kernel_rfl) (fun _ _ _ h => h) (Or.inl ⟨by rfl, ?_⟩) (by assumption) ?_
        rotate_left 1
        · (intro w hSw; (try dsimp only at hSw); go_simp; all_goals (with_reducible rfl))
        try simp only [Act.put, List.setIfInBounds_toArray, List.set_cons_zero, List.set_cons_succ]
        refine wpAnyH_ready (rs := [20]) (by kernel_rfl) (by simp) ?_
        refine AllReadyH.cons (o := _) rfl (fun K hK => ?_) ?_
        rotate_left 1
        · exact AllReadyH.nil
        go_simp
        go_at_call 26
        refine (keptBytes p2 b l2.length d2 c2 l2 _ hHeld.2.2.2.2 (HR2.out.below hHeld.2.2.1 (Nat.le_refl _)) rfl hd2 (by omega)).mono ?_
        rintro _ wD ⟨rfl, hBD⟩
        dsimp only
        refine hK.out _ _ ?_ (fun hHeld => ?_)
        · (apply ms_below; assumption; assumption)
        clear hK K
        try simp only [Act.put, List.setIfInBounds_toArray, List.set_cons_zero, List.set_cons_succ]
        refine wpAnyH_take (i := 21) (oi := _) (v := ?_) rfl (by kernel_rfl) (by kernel_rfl) (by kernel_rfl) (fun _ _ _ h => h) (Or.inl ⟨by rfl, ?_⟩) (by assumption) ?_
        rotate_left 1
        · (intro w hSw; (try dsimp only at hSw); go_simp; all_goals (with_reducible rfl))
        try simp only [Act.put, List.setIfInBounds_toArray, List.set_cons_zero, List.set_cons_succ]
        refine wpAnyH_take (i := 22) (oi := _) (v := ?_) rfl (by kernel_rfl) (by kernel_rfl) (by kernel_rfl) (fun _ _ _ h => h) (Or.inl ⟨by rfl, ?_⟩) (by assumption) ?_
        rotate_left 1
        · (intro w hSw; (try dsimp only at hSw); go_simp; all_goals (with_reducible rfl))
        try simp only [Act.put, List.setIfInBounds_toArray, List.set_cons_zero, List.set_cons_succ]
        refine wpAnyH_ready (rs := [23]) (by kernel_rfl) (by simp) ?_
        refine AllReadyH.cons (o := _) rfl (fun K hK => ?_) ?_
        rotate_left 1
        · exact AllReadyH.nil
        go_simp
        go_at_call 38
        refine (macKnown _ hHeld.2.1).mono ?_
        rintro _ wE ⟨rfl, hBE⟩
        dsimp only
        refine hK.out _ _ ?_ (fun hHeld => ?_)
        · (apply ms_below; assumption; assumption)
        clear hK K
        try simp only [Act.put, List.setIfInBounds_toArray, List.set_cons_zero, List.set_cons_succ]
        refine wpAnyH_take (i := 24) (oi := _) (v := ?_) rfl (by kernel_rfl) (by kernel_rfl) (by kernel_rfl) (fun _ _ _ h => h) (Or.inl ⟨by rfl, ?_⟩) (by assumption) ?_
        rotate_left 1
        · (intro w hSw; (try dsimp only at hSw); go_simp; all_goals (with_reducible rfl))
        try simp only [Act.put, List.setIfInBounds_toArray, List.set_cons_zero, List.set_cons_succ]
        refine wpAnyH_take (i := 25) (oi := _) (v := ?_) rfl (by kernel_rfl) (by kernel_rfl) (by kernel_rfl) (fun _ _ _ h => h) (Or.inl ⟨by rfl, ?_⟩) (by assumption) ?_
        rotate_left 1
        · (intro w hSw; (try dsimp only at hSw); go_simp; all_goals (with_reducible rfl))
        try simp only [Act.put, List.setIfInBounds_toArray, List.set_cons_zero, List.set_cons_succ]
        refine wpAnyH_done (by kernel_rfl) ?_ _
        refine NoPanic.normal ?_
        (repeat' ((fail_if_success at_builtin); first | go_values | go_skip | go_guarded | go_step | go_upon))
        go_ret
        exact ⟨rfl, hHeld.2.2.1⟩
      go_simp
      go_at_call 42
      refine (macChain s p2 l2.length d2 l2 Y _ HY.out hHeld.2.1 HSL.out hHeld.2.2.2.2.left rfl (by omega) (by omega)).mono ?_
      rintro _ wA6 ⟨rfl, hBwA6⟩
      dsimp only
      refine hK.out _ _ ?_ (fun hHeld => ?_)
      · (apply msb_below; assumption; assumption)
      clear hK K
      try simp only [Act.put, List.setIfInBounds_toArray, List.set_cons_zero, List.set_cons_succ]
      have hSA := hHeld
      refine wpAnyH_ready (rs := [6]) (by kernel_rfl) (by simp) ?_
      refine AllReadyH.cons (o := _) rfl (fun K hK => ?_) ?_
      rotate_left 1
      · exact AllReadyH.nil
      refine step_alloc_fresh (by rfl) 26 rfl _ iS zS HIS.out HZS.out HCS.out ?_
      intro wB6 hgwB6 hBwB6 hswB6
      have HGwB6 := Lib.hid hgwB6
      clear hgwB6
      have HSwB6 := Lib.hid hswB6
      clear hswB6
      refine hK.out _ _ ?_ (fun hHeld => ?_)
      · (apply msb_below; assumption; assumption)
      clear hK K
      try simp only [Act.put, List.setIfInBounds_toArray, List.set_cons_zero, List.set_cons_succ]
      refine wpAnyH_ready (rs := [7]) (by kernel_rfl) (by simp) ?_
      refine AllReadyH.cons (o := _) rfl (fun K hK => ?_) ?_
      rotate_left 1
      · exact AllReadyH.nil
      refine step_store_blk rfl _ _ _ rfl wA6.heap.size 0 (bvs Y) rfl rfl _ _ HGwB6.out HFY.out HIY.out HYO.out ?_
      intro wC6 hgwC6 hGwC6
      rw [splice_whole _ _ (by rw [HBY.out];simp)] at hgwC6
      have HGwC6 := Lib.hid hgwC6
      clear hgwC6
      have hSC := msb_below (hBwB6.grown hGwC6 (by have := HSwB6.out;omega) (fun k e => by cases e;exact Nat.le_refl _)) hSA
      refine hK.out _ _ ?_ (fun hHeld => ?_)
      · (exact hSC)
      clear hK K
      try simp only [Act.put, List.setIfInBounds_toArray, List.set_cons_zero, List.set_cons_succ]
      refine wpAnyH_done (by kernel_rfl) ?_ _
      refine NoPanic.normal ?_
      have hmsd : MS w wA5.heap.size wA6.heap.size w.heap.size X Y s (l1 ++ marks) (l2 ++ marks) p1 p2 wC6.drew := ms_drew ⟨⟨hSC.1.2, rangeAt_whole HGwC6.out, hSC.1.1⟩, hSC.2⟩
      clear hSC hSV hHeld
      (repeat' ((fail_if_success at_builtin); first | go_values | go_skip | go_guarded | go_step | go_upon))
      refine wp_region_noPanic ?_
      refine wp_region_held_drew (S := MS w wA5.heap.size wA6.heap.size w.heap.size X Y s (l1 ++ marks) (l2 ++ marks) p1 p2) (by kernel_rfl) ?_ (fun hHeld => ?_)
      · (assumption)
      refine' wpAnyH_take (i := 0) (oi := _) (v := _) rfl (by kernel_rfl) (by kernel_rfl) (by kernel_rfl) (fun _ _ _ h => h) (yieldsIf_load_mid (by rfl) _ _ rfl _ _ rfl _ _ ?ls12 ?lu12 ?ld12 ?li12) (by assumption) ?lr12
      case ls12 => (intro w hSw; (try dsimp only at hSw); go_split_ands; assumption)
      case lu12 => assumption
      case ld12 => rfl
      case li12 => first | assumption | (simp only [*]; done)
      try simp only [Act.put, List.setIfInBounds_toArray, List.set_cons_zero, List.set_cons_succ]
      refine wpAnyH_take (i := 1) (oi := _) (v := ?_) rfl (by kernel_rfl) (by kernel_rfl) (by kernel_rfl) (fun _ _ _ h => h) (Or.inl ⟨by rfl, ?_⟩) (by assumption) ?_
      rotate_left 1
      · (intro w hSw; (try dsimp only at hSw); go_simp; all_goals (with_reducible rfl))
      try simp only [Act.put, List.setIfInBounds_toArray, List.set_cons_zero, List.set_cons_succ]
      refine wpAnyH_take (i := 2) (oi := _) (v := ?_) rfl (by kernel_rfl) (by kernel_rfl) (by kernel_rfl) (fun _ _ _ h => h) (Or.inl ⟨by rfl, ?_⟩) (by assumption) ?_
      rotate_left 1
      · (intro w hSw; (try dsimp only at hSw); go_simp; all_goals (with_reducible rfl))
      try simp only [Act.put, List.setIfInBounds_toArray, List.set_cons_zero, List.set_cons_succ]
      refine wpAnyH_ready (rs := [3]) (by kernel_rfl) (by simp) ?_
      refine AllReadyH.cons (o := _) rfl (fun K hK => ?_) ?_
      rotate_left 1
      · exact AllReadyH.nil
      go_simp
      go_at_call 43
      refine (refOf a b _ _ c1 c2 l1 l2 X _ HX.out (HR1.out.below hHeld.2.2.1 (Nat.le_refl _)) (HR2.out.below hHeld.2.2.1 (Nat.le_refl _)) rfl rfl (by omega) (by omega)).mono ?_
      rintro _ wA ⟨rfl, hBA⟩
      dsimp only
      refine hK.out _ _ ?_ (fun hHeld => ?_)
      · (apply ms_below; assumption; assumption)
      clear hK K
      try simp only [Act.put, List.setIfInBounds_toArray, List.set_cons_zero, List.set_cons_succ]
      refine wpAnyH_take (i := 4) (oi := _) (v := ?_) rfl (by kernel_rfl) (by kernel_rfl) (by kernel_rfl) (fun _ _ _ h => h) (Or.inl ⟨by rfl, ?_⟩) (by assumption) ?_
      rotate_left 1
      · (intro w hSw; (try dsimp only at hSw); go_simp; all_goals (with_reducible rfl))
      try simp only [Act.put, List.setIfInBounds_toArray, List.set_cons_zero, List.set_cons_succ]
      refine wpAnyH_take (i := 5) (oi := _) (v := ?_) rfl (by kernel_rfl) (by kernel_rfl) (by kernel_rfl) (fun _ _ _ h => h) (Or.inl ⟨by rfl, ?_⟩) (by assumption) ?_
      rotate_left 1
      · (intro w hSw; (try dsimp only at hSw); go_simp; all_goals (with_reducible rfl))
      try simp only [Act.put, List.setIfInBounds_toArray, List.set_cons_zero, List.set_cons_succ]
      refine' wpAnyH_take (i := 6) (oi := _) (v := _) rfl (by kernel_rfl) (by kernel_rfl) (by kernel_rfl) (fun _ _ _ h => h) (yieldsIf_load_mid (by rfl) _ _ rfl _ _ rfl _ _ ?ls13 ?lu13 ?ld13 ?li13) (by assumption) ?lr13
      case ls13 => (intro w hSw; (try dsimp only at hSw); go_split_ands; assumption)
      case lu13 => assumption
      case ld13 => rfl
      case li13 => first | assumption | (simp only [*]; done)
      try simp only [Act.put, List.setIfInBounds_toArray, List.set_cons_zero, List.set_cons_succ]
      refine' wpAnyH_take (i := 7) (oi := _) (v := _) rfl (by kernel_rfl) (by kernel_rfl) (by kernel_rfl) (fun _ _ _ h => h) (yieldsIf_load_mid (by rfl) _ _ rfl _ _ rfl _ _ ?ls14 ?lu14 ?ld14 ?li14) (by assumption) ?lr14
      case ls14 => (intro w hSw; (try dsimp only at hSw); go_split_ands; assumption)
      case lu14 => assumption
      case ld14 => rfl
      case li14 => first | assumption | (simp only [*]; done)
      try simp only [Act.put, List.setIfInBounds_toArray, List.set_cons_zero, List.set_cons_succ]
      refine wpAnyH_take (i := 8) (oi := _) (v := ?_) rfl (by kernel_rfl) (by kernel_rfl) (by kernel_rfl) (fun _ _ _ h => h) (Or.inl ⟨by rfl, ?_⟩) (by assumption) ?_
      rotate_left 1
      · (intro w hSw; (try dsimp only at hSw); go_simp; all_goals (with_reducible rfl))
      try simp only [Act.put, List.setIfInBounds_toArray, List.set_cons_zero, List.set_cons_succ]
      refine wpAnyH_ready (rs := [9]) (by kernel_rfl) (by simp) ?_
      refine AllReadyH.cons (o := _) rfl (fun K hK => ?_) ?_
      rotate_left 1
      · exact AllReadyH.nil
      go_simp
      go_at_call 44
      refine (refChain s b _ c2 l2 Y _ HY.out HSL.out (HR2.out.below hHeld.2.2.1 (Nat.le_refl _)) rfl (by omega)).mono ?_
      rintro _ wB ⟨rfl, hBB⟩
      dsimp only
      refine hK.out _ _ ?_ (fun hHeld => ?_)
      · (apply ms_below; assumption; assumption)
      clear hK K
      try simp only [Act.put, List.setIfInBounds_toArray, List.set_cons_zero, List.set_cons_succ]
      refine wpAnyH_take (i := 10) (oi := _) (v := ?_) rfl (by kernel_rfl) (by kernel_rfl) (by kernel_rfl) (fun _ _ _ h => h) (Or.inl ⟨by rfl, ?_⟩) (by assumption) ?_
      rotate_left 1
      · (intro w hSw; (try dsimp only at hSw); go_simp; all_goals (with_reducible rfl))
      try simp only [Act.put, List.setIfInBounds_toArray, List.set_cons_zero, List.set_cons_succ]
      refine wpAnyH_take (i := 11) (oi := _) (v := ?_) rfl (by kernel_rfl) (by kernel_rfl) (by kernel_rfl) (fun _ _ _ h => h) (Or.inl ⟨by rfl, ?_⟩) (by assumption) ?_
      rotate_left 1
      · (intro w hSw; (try dsimp only at hSw); go_simp; all_goals (with_reducible rfl))
      try simp only [Act.put, List.setIfInBounds_toArray, List.set_cons_zero, List.set_cons_succ]
      refine wpAnyH_take (i := 12) (oi := _) (v := ?_) rfl (by kernel_rfl) (by kernel_rfl) (by kernel_rfl) (fun _ _ _ h => h) (Or.inl ⟨by rfl, ?_⟩) (by assumption) ?_
      rotate_left 1
      · (intro w hSw; (try dsimp only at hSw); go_simp; all_goals (with_reducible rfl))
      try simp only [Act.put, List.setIfInBounds_toArray, List.set_cons_zero, List.set_cons_succ]
      refine wpAnyH_take (i := 13) (oi := _) (v := ?_) rfl (by kernel_rfl) (by kernel_rfl) (by kernel_rfl) (fun _ _ _ h => h) (Or.inl ⟨by rfl, ?_⟩) (by assumption) ?_
      rotate_left 1
      · (intro w hSw; (try dsimp only at hSw); go_simp; all_goals (with_reducible rfl))
      try simp only [Act.put, List.setIfInBounds_toArray, List.set_cons_zero, List.set_cons_succ]
      refine wpAnyH_take (i := 14) (oi := _) (v := ?_) rfl (by kernel_rfl) (by kernel_rfl) (by kernel_rfl) (fun _ _ _ h => h) (Or.inl ⟨by rfl, ?_⟩) (by assumption) ?_
      rotate_left 1
      · (intro w hSw; (try dsimp only at hSw); go_simp; all_goals (with_reducible rfl))
      try simp only [Act.put, List.setIfInBounds_toArray, List.set_cons_zero, List.set_cons_succ]
      refine wpAnyH_ready (rs := [15]) (by kernel_rfl) (by simp) ?_
      refine AllReadyH.cons (o := _) rfl (fun K hK => ?_) ?_
      rotate_left 1
      · exact AllReadyH.nil
      go_simp
      go_at_call 26
      refine (keptBytes p1 a l1.length d1 c1 l1 _ hHeld.2.2.2.1 (HR1.out.below hHeld.2.2.1 (Nat.le_refl _)) rfl hd1 (by omega)).mono ?_
      rintro _ wC ⟨rfl, hBC⟩
      dsimp only
      refine hK.out _ _ ?_ (fun hHeld => ?_)
      · (apply ms_below; assumption; assumption)
      clear hK K
      try simp only [Act.put, List.setIfInBounds_toArray, List.set_cons_zero, List.set_cons_succ]
      refine wpAnyH_take (i := 16) (oi := _) (v := ?_) rfl (by kernel_rfl) (by kernel_rfl) (by kernel_rfl) (fun _ _ _ h => h) (Or.inl ⟨by rfl, ?_⟩) (by assumption) ?_
      rotate_left 1
      · (intro w hSw; (try dsimp only at hSw); go_simp; all_goals (with_reducible rfl))
      try simp only [Act.put, List.setIfInBounds_toArray, List.set_cons_zero, List.set_cons_succ]
      refine wpAnyH_take (i := 17) (oi := _) (v := ?_) rfl (by kernel_rfl) (by kernel_rfl) (by kernel_rfl) (fun _ _ _ h => h) (Or.inl ⟨by rfl, ?_⟩) (by assumption) ?_
      rotate_left 1
      · (intro w hSw; (try dsimp only at hSw); go_simp; all_goals (with_reducible rfl))
      try simp only [Act.put, List.setIfInBounds_toArray, List.set_cons_zero, List.set_cons_succ]
      refine wpAnyH_take (i := 18) (oi := _) (v := ?_) rfl (by kernel_rfl) (by kernel_rfl) (by kernel_rfl) (fun _ _ _ h => h) (Or.inl ⟨by rfl, ?_⟩) (by assumption) ?_
      rotate_left 1
      · (intro w hSw; (try dsimp only at hSw); go_simp; all_goals (with_reducible rfl))
      try simp only [Act.put, List.setIfInBounds_toArray, List.set_cons_zero, List.set_cons_succ]
      refine wpAnyH_take (i := 19) (oi := _) (v := ?_) rfl (by kernel_rfl) (by kernel_rfl) (by kernel_rfl) (fun _ _ _ h => h) (Or.inl ⟨by rfl, ?_⟩) (by assumption) ?_
      rotate_left 1
      · (intro w hSw; (try dsimp only at hSw); go_simp; all_goals (with_reducible rfl))
      try simp only [Act.put, List.setIfInBounds_toArray, List.set_cons_zero, List.set_cons_succ]
      refine wpAnyH_ready (rs := [20]) (by kernel_rfl) (by simp) ?_
      refine AllReadyH.cons (o := _) rfl (fun K hK => ?_) ?_
      rotate_left 1
      · exact AllReadyH.nil
      go_simp
      go_at_call 26
      refine (keptBytes p2 b l2.length d2 c2 l2 _ hHeld.2.2.2.2 (HR2.out.below hHeld.2.2.1 (Nat.le_refl _)) rfl hd2 (by omega)).mono ?_
      rintro _ wD ⟨rfl, hBD⟩
      dsimp only
      refine hK.out _ _ ?_ (fun hHeld => ?_)
      · (apply ms_below; assumption; assumption)
      clear hK K
      try simp only [Act.put, List.setIfInBounds_toArray, List.set_cons_zero, List.set_cons_succ]
      refine wpAnyH_take (i := 21) (oi := _) (v := ?_) rfl (by kernel_rfl) (by kernel_rfl) (by kernel_rfl) (fun _ _ _ h => h) (Or.inl ⟨by rfl, ?_⟩) (by assumption) ?_
      rotate_left 1
      · (intro w hSw; (try dsimp only at hSw); go_simp; all_goals (with_reducible rfl))
      try simp only [Act.put, List.setIfInBounds_toArray, List.set_cons_zero, List.set_cons_succ]
      refine wpAnyH_take (i := 22) (oi := _) (v := ?_) rfl (by kernel_rfl) (by kernel_rfl) (by kernel_rfl) (fun _ _ _ h => h) (Or.inl ⟨by rfl, ?_⟩) (by assumption) ?_
      rotate_left 1
      · (intro w hSw; (try dsimp only at hSw); go_simp; all_goals (with_reducible rfl))
      try simp only [Act.put, List.setIfInBounds_toArray, List.set_cons_zero, List.set_cons_succ]
      refine wpAnyH_ready (rs := [23]) (by kernel_rfl) (by simp) ?_
      refine AllReadyH.cons (o := _) rfl (fun K hK => ?_) ?_
      rotate_left 1
      · exact AllReadyH.nil
      go_simp
      go_at_call 38
      refine (macKnown _ hHeld.2.1).mono ?_
      rintro _ wE ⟨rfl, hBE⟩
      dsimp only
      refine hK.out _ _ ?_ (fun hHeld => ?_)
      · (apply ms_below; assumption; assumption)
      clear hK K
      try simp only [Act.put, List.setIfInBounds_toArray, List.set_cons_zero, List.set_cons_succ]
      refine wpAnyH_take (i := 24) (oi := _) (v := ?_) rfl (by kernel_rfl) (by kernel_rfl) (by kernel_rfl) (fun _ _ _ h => h) (Or.inl ⟨by rfl, ?_⟩) (by assumption) ?_
      rotate_left 1
      · (intro w hSw; (try dsimp only at hSw); go_simp; all_goals (with_reducible rfl))
      try simp only [Act.put, List.setIfInBounds_toArray, List.set_cons_zero, List.set_cons_succ]
      refine wpAnyH_take (i := 25) (oi := _) (v := ?_) rfl (by kernel_rfl) (by kernel_rfl) (by kernel_rfl) (fun _ _ _ h => h) (Or.inl ⟨by rfl, ?_⟩) (by assumption) ?_
      rotate_left 1
      · (intro w hSw; (try dsimp only at hSw); go_simp; all_goals (with_reducible rfl))
      try simp only [Act.put, List.setIfInBounds_toArray, List.set_cons_zero, List.set_cons_succ]
      refine wpAnyH_done (by kernel_rfl) ?_ _
      refine NoPanic.normal ?_
      (repeat' ((fail_if_success at_builtin); first | go_values | go_skip | go_guarded | go_step | go_upon))
      go_ret
      exact ⟨rfl, hHeld.2.2.1⟩

end Go.Proofs.YtdpfemhfmofmlaaDoor
