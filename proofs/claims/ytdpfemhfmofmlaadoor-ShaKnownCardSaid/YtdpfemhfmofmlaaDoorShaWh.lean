/- The law ShaWhole, walked. -/
import Derived.Test.YtdpfemhfmofmlaaDoorShaTwo
namespace Go.Proofs.YtdpfemhfmofmlaaDoor
open Go.RowKit
set_option linter.unusedSimpArgs false
set_option maxRecDepth 10000

structure WholeRel (w0 : World) (g1 g2 zw : Nat) (l D : List UInt8) (i : Value) (wr : World) : Prop where
  out : ∃ k : Nat, i = .int .i64 k ∧ k ≤ l.length + 200 ∧ Below w0.heap.size w0 wr ∧ HashAt wr g1 l l.length ∧ HashAt wr g2 (l.take k) (l.take k).length ∧ wr.heap[zw]? = some (.cells (bvs D).toArray 26 (0, 0))

theorem piece_take (l : List UInt8) (k s : Nat) (hk : k < l.length) : l.take k ++ (l.drop k).take (min l.length (k + s) - k) = l.take (k + s) := by
  rw [← List.take_add]
  by_cases h : k + s ≤ l.length
  · rw [show k + (min l.length (k + s) - k) = k + s by omega]
  · rw [show k + (min l.length (k + s) - k) = l.length by omega, List.take_of_length_le (Nat.le_refl _), List.take_of_length_le (by omega)]

set_option maxHeartbeats 8000000 in
theorem shaWhole_walk (a : Option Addr) (n c : Nat) (l : List UInt8) (cut step : Int) (w : World) (hT : Tabs w) (h : RdB w a l) (en : l.length = n) (hn : n ≤ c) (hc : c ≤ 9223372036854775807)
    (hcut : -9223372036854775808 ≤ cut ∧ cut ≤ 9223372036854775807) (hstep : -9223372036854775808 ≤ step ∧ step ≤ 9223372036854775807) :
    Calls Tryd.prog 5 #[.slice a n c, .int .i64 cut, .int .i64 step] w fun e w' => e = .returned (.bool true) ∧ Below w.heap.size w w' := by
  subst en
  have hts := hT.size
  have HT := Lib.hid hT; clear hT
  have HR := Lib.hid h; clear h
  have hlen : (l.length : Int) ≤ 9223372036854775807 := by omega
  by_cases hb : 8192 < l.length
  · have hb1 : (8192 : Int) < (l.length : Int) := by omega
    go_enter Tryd.func5, Tryd.ntmps5
    (repeat' ((fail_if_success at_builtin); first | go_values | go_skip | go_guarded | go_step | go_upon))
    refine (works01 w HT.out).mono ?_
    rintro _ w1 ⟨rfl, hB1⟩
    dsimp only
    (repeat' ((fail_if_success at_builtin); first | go_values | go_skip | go_guarded | go_step | go_upon))
    go_ret
    exact ⟨rfl, hB1⟩
  · have hb1 : ¬ ((8192 : Int) < (l.length : Int)) := by omega
    obtain ⟨iS, zS, hiS, hzS, hcS⟩ := fresh_parts zeroSum
    have HIS := Lib.hid hiS; clear hiS
    have HZS := Lib.hid hzS; clear hzS
    have HCS := Lib.hid hcS; clear hcS
    obtain ⟨D, hD⟩ : ∃ D, wdig l = D := ⟨_, rfl⟩
    have hDl : (bvs D).length = 32 := by rw [bvs_length, ← hD, wdig_length]
    have heqD := fun w => eqSumSame D (by rw [← hD, wdig_length]) w
    have hu26 : Tryd.prog.underlying 26 = some _ := Tryd.underlying26
    have hi26 : (Tryd.prog.info? 26).map (·.size) = some (bvs D).length := by rw [hDl]; exact sizeSum
    have hfD : 0 + (bvs D).length ≤ (List.replicate 32 (Value.int .u8 0)).toArray.size := by rw [hDl]; simp
    obtain ⟨pc, hpc⟩ : ∃ p, pick cut ((l.length : Int) + 1) = p := ⟨_, rfl⟩
    obtain ⟨ps, hps⟩ : ∃ p, pick step 130 = p := ⟨_, rfl⟩
    have bpc := pick_lt cut ((l.length : Int) + 1) (by omega)
    have bps := pick_lt step 130 (by omega)
    rw [hpc] at bpc
    rw [hps] at bps
    obtain ⟨cn, hcn⟩ : ∃ cn : Nat, pc = (cn : Int) := ⟨pc.toNat, by omega⟩
    obtain ⟨sn, hsn⟩ : ∃ sn : Nat, 1 + ps = (sn : Int) := ⟨(1 + ps).toNat, by omega⟩
    subst hcn
    have hcnl : cn ≤ l.length := by omega
    have hsb : 1 ≤ sn ∧ sn ≤ 130 := by omega
    have bcn : (0 : Int) ≤ (cn : Int) ∧ (cn : Int) ≤ (l.length : Int) ∧ (cn : Int) ≤ (c : Int) := by omega
    obtain ⟨a2, ha2⟩ : ∃ a2, (if c = cn then a else a.map (·.add cn)) = a2 := ⟨_, rfl⟩
    have hsl : ∀ w, (Instr.slice 22 (.slice a l.length c) (some (.int .i64 (cn : Int))) none none).run Tryd.prog w = .ok (.slice a2 (l.length - cn) (c - cn)) w := fun w => by
      rw [← ha2]; exact run_slice_from _ _ Tryd.underlying22 hsz8 a l.length c cn hcnl w
    have hr2 : RdB w a2 (l.drop cn) := HR.out.dropB cn (fun hlt => by rw [← ha2, if_neg (by omega)])
    have hr1 : RdB w a (l.take cn) := HR.out.takeB cn
    have HR1 := Lib.hid hr1; clear hr1
    have HR2 := Lib.hid hr2; clear hr2 ha2
    have HEQD := Lib.hid heqD; clear heqD
    have HI26 := Lib.hid hi26; clear hi26
    have HFD := Lib.hid hfD; clear hfD
    have HDO := Lib.hid (bvs_oneCell D)
    have HDL := Lib.hid hDl; clear hDl
    have HD := Lib.hid hD; clear hD
    have HU26 := Lib.hid hu26; clear hu26
    have HPC := Lib.hid hpc; clear hpc
    have HPS := Lib.hid hps; clear hps
    go_enter Tryd.func5, Tryd.ntmps5
    (repeat' ((fail_if_success at_builtin); first | go_values | go_skip | go_guarded | go_step | go_upon))
    refine (shaSumOf a _ c l D w HD.out HT.out HR.out rfl hn (by omega)).mono ?_
    rintro _ w1 ⟨rfl, hB1⟩
    dsimp only
    (repeat' ((fail_if_success at_builtin); first | (first | ((with_reducible refine wpList_alloc_fresh (w := w1) rfl 26 rfl _ iS zS HIS.out HZS.out HCS.out ?_); intro w2 hg2 hB2 hs2; have HG2 := Lib.hid hg2; clear hg2; have HS2 := Lib.hid hs2; clear hs2) | ((with_reducible refine wpList_store_blk rfl 26 _ _ rfl w1.heap.size 0 (bvs D) rfl rfl _ _ HG2.out HFD.out HI26.out HDO.out ?_); intro w3 hg3 hG3; have HG3 := Lib.hid hg3; clear hg3)) | go_values | go_skip | go_guarded | go_step | go_upon))
    have hg3 := HG3.out
    rw [splice_whole _ _ (by rw [HDL.out]; simp)] at hg3
    have hB13 : Below w1.heap.size w1 w3 := hB2.grown hG3 (by have := HS2.out; omega) (fun k e => by cases e; exact Nat.le_refl _)
    have hB03 : Below w.heap.size w w3 := hB1.trans (hB13.mono hB1.size)
    have hz13 : w1.heap.size < w3.heap.size := (Array.getElem?_eq_some_iff.1 hg3).1
    have hz1 := hB1.size
    have HG3' := Lib.hid hg3; clear hg3
    refine (pickAny cut ((l.length : Int) + 1) w3 hcut (by omega)).mono ?_
    rintro _ w4 ⟨rfl, rfl⟩
    dsimp only
    rw [HPC.out]
    (repeat' ((fail_if_success at_builtin); first | go_values | go_skip | go_guarded | go_step | go_upon))
    refine (pickAny step 130 w3 hstep (by omega)).mono ?_
    rintro _ w4 ⟨rfl, rfl⟩
    dsimp only
    rw [HPS.out]
    (repeat' ((fail_if_success at_builtin); first | go_values | go_skip | go_guarded | go_step | go_upon))
    refine (hNew w3 (HT.out.below hB03 hts)).mono ?_
    rintro _ w5 ⟨rfl, hh5, hB5, hs5⟩
    dsimp only
    have hB05 : Below w.heap.size w w5 := hB03.trans (hB5.mono hB03.size)
    have hg5 := (hB5.block w1.heap.size hz13).trans HG3'.out
    have HH5 := Lib.hid hh5; clear hh5
    have HG5 := Lib.hid hg5; clear hg5
    have HS5 := Lib.hid hs5; clear hs5
    have hz03 := hB03.size
    (repeat' ((fail_if_success at_builtin); first | go_values | go_skip | go_guarded | go_step | go_upon))
    refine (hWriteOld w w3.heap.size a cn c [] (l.take cn) w5 HT.out hB05 hz03 HH5.out HR1.out (by rw [List.length_take]; omega) (by omega) (by simp; omega)).mono ?_
    rintro _ w6 ⟨rfl, hh6, hB6, hF6⟩
    dsimp only
    rw [List.nil_append] at hh6
    have hg6 := (hF6.block w1.heap.size (by have := HS5.out; omega) (by omega)).trans HG5.out
    have HH6 := Lib.hid hh6; clear hh6
    have HG6 := Lib.hid hg6; clear hg6
    have hz6 := hF6.size
    (repeat' ((fail_if_success at_builtin); first | go_values | go_skip | go_guarded | go_step | go_upon))
    refine (hWriteOld w w3.heap.size a2 (l.length - cn) (c - cn) (l.take cn) (l.drop cn) w6 HT.out hB6 hz03 HH6.out HR2.out (by rw [List.length_drop]) (by omega) (by rw [List.length_take]; omega)).mono ?_
    rintro _ w7 ⟨rfl, hh7, hB7, hF7⟩
    dsimp only
    rw [List.take_append_drop] at hh7
    have hg7 := (hF7.block w1.heap.size (by have := HS5.out; omega) (by omega)).trans HG6.out
    have hz7 := hF7.size
    have HH7 := Lib.hid hh7; clear hh7
    have HG7 := Lib.hid hg7; clear hg7
    clear hsl
    (repeat' ((fail_if_success at_builtin); first | go_values | go_skip | go_guarded | go_step | go_upon))
    refine (hNew w7 (HT.out.below hB7 hts)).mono ?_
    rintro _ w8 ⟨rfl, hh8, hB8, hs8⟩
    dsimp only
    have hB08 : Below w.heap.size w w8 := hB7.trans (hB8.mono hB7.size)
    have hg8 := (hB8.block w1.heap.size (by have := HS5.out; omega)).trans HG7.out
    have hh78 := HH7.out.below hB8 HH7.out.lt
    have HH8 := Lib.hid hh8; clear hh8
    have HH78 := Lib.hid hh78; clear hh78
    have HG8 := Lib.hid hg8; clear hg8
    have hz07 := hB7.size
    have hne37 : w3.heap.size ≠ w7.heap.size := by have := HS5.out; omega
    have hne17 : w1.heap.size ≠ w7.heap.size := by have := HS5.out; omega
    (repeat' ((fail_if_success at_builtin); first | go_values | go_skip | go_guarded | go_step | go_upon))
    go_loopw [10] (fun i wr => WholeRel w w3.heap.size w7.heap.size w1.heap.size l D i wr) (fun i _ => l.length - (intOf i).toNat)
    case atStart => exact ⟨⟨0, rfl, by omega, hB08, HH78.out, by rw [List.take_zero]; exact HH8.out, HG8.out⟩⟩
    case round =>
      obtain ⟨⟨k, rfl, hk, hB, hh1, hh2, hg⟩⟩ := hrel
      have HA := Lib.hid hh1; clear hh1
      have HB := Lib.hid hh2; clear hh2
      have HG := Lib.hid hg; clear hg
      by_cases hlt : k < l.length
      · obtain ⟨b, off, rfl, _⟩ := HR.out.lt (by rw [bvs_length]; omega)
        obtain ⟨e, he⟩ : ∃ e, min l.length (k + sn) = e := ⟨_, rfl⟩
        have hek : k ≤ e ∧ e ≤ l.length := by omega
        have bk : (0 : Int) ≤ (k : Int) ∧ (k : Int) ≤ (e : Int) ∧ (e : Int) ≤ (c : Int) := by omega
        have hpt := piece_take l k sn hlt
        rw [he] at hpt
        have hrp : RdB w (some ⟨b, off + k, none⟩) ((l.drop k).take (e - k)) := (HR.out.dropB k (fun _ => by simp [Addr.add_lit])).takeB (e - k)
        have hck : ¬ c = k := by omega
        have HPT := Lib.hid hpt; clear hpt
        have HRP := Lib.hid hrp; clear hrp
        have HE := Lib.hid he; clear he
        (repeat' ((fail_if_success at_builtin); first | go_values | go_skip | go_guarded | go_step | go_upon))
        rw [show (if (k : Int) + (sn : Int) < (l.length : Int) then (k : Int) + (sn : Int) else (l.length : Int)).toNat = e by rw [← HE.out]; split <;> omega]
        refine (hWriteOld w w7.heap.size (some ⟨b, off + k, none⟩) (e - k) (c - k) (l.take k) ((l.drop k).take (e - k)) wr HT.out hB hz07 HB.out HRP.out (by rw [List.length_take, List.length_drop]; omega) (by omega) (by rw [List.length_take]; omega)).mono ?_
        rintro _ w9 ⟨rfl, hh9, hB9, hF9⟩
        dsimp only
        rw [HPT.out] at hh9
        have hh19 := HA.out.frm hF9 hne37
        have hg9 := (hF9.block w1.heap.size (Array.getElem?_eq_some_iff.1 HG.out).1 hne17).trans HG.out
        have HH9 := Lib.hid hh9; clear hh9
        have HH19 := Lib.hid hh19; clear hh19
        have HG9 := Lib.hid hg9; clear hg9
        (repeat' ((fail_if_success at_builtin); first | go_values | go_skip | go_guarded | go_step | go_upon))
        go_roundw
        case rel => exact ⟨⟨k + sn, by first | rfl | go_num, by omega, hB9, HH19.out, HH9.out, HG9.out⟩⟩
        case measure => simp [intOf]; omega
      · have bk : ¬ ((k : Int) < (l.length : Int)) := by omega
        have hb2 := HB.out
        rw [List.take_of_length_le (by omega)] at hb2
        have hwa : WA w w3.heap.size w7.heap.size w1.heap.size l l D l a wr := ⟨rangeAt_whole HG.out, HT.out.below hB hts, HA.out, hb2, HR.out.below hB (Nat.le_refl _), hB⟩
        have hwad := wa_drew hwa
        clear hwa hb2
        have heqD := HEQD.out
        have hu26 := HU26.out
        have hi26 := HI26.out
        have hl26 := HDL.out
        have ho26 := HDO.out
        (repeat' ((fail_if_success at_builtin); first | go_values | go_skip | go_guarded | go_step | go_upon))
        refine wp_region_noPanic ?_
        refine wp_region_held_drew (S := WA w w3.heap.size w7.heap.size w1.heap.size l l D l a) (by kernel_rfl) ?_ (fun hHeld => ?_)
        · (assumption)
        refine wpAnyH_take (i := 0) (oi := _) (v := ?_) rfl (by kernel_rfl) (by kernel_rfl) (by kernel_rfl) (fun _ _ _ h => h) (Or.inl ⟨by rfl, ?_⟩) (by assumption) ?_
        rotate_left 1
        · (intro w hSw; (try dsimp only at hSw); go_simp; all_goals (with_reducible rfl))
        try simp only [Act.put, List.setIfInBounds_toArray, List.set_cons_zero, List.set_cons_succ]
        refine' wpAnyH_take (i := 2) (oi := _) (v := _) rfl (by kernel_rfl) (by kernel_rfl) (by kernel_rfl) (fun _ _ _ h => h) (yieldsIf_load_mid (by rfl) _ _ rfl _ _ rfl _ _ ?ls1 ?lu1 ?ld1 ?li1) (by assumption) ?lr1
        case ls1 => (intro w hSw; (try dsimp only at hSw); go_split_ands; assumption)
        case lu1 => assumption
        case ld1 => rfl
        case li1 => first | assumption | (simp only [*]; done)
        try simp only [Act.put, List.setIfInBounds_toArray, List.set_cons_zero, List.set_cons_succ]
        refine wpAnyH_ready (rs := [1]) (by kernel_rfl) (by simp) ?_
        refine AllReadyH.cons (o := _) rfl (fun K hK => ?_) ?_
        rotate_left 1
        · exact AllReadyH.nil
        go_simp
        go_at_call 30
        refine (hSumOf w3.heap.size l D _ HD.out hHeld.2.1 hHeld.2.2.1 (by omega)).mono ?_
        rintro _ wB ⟨rfl, hBB⟩
        dsimp only
        refine hK.out _ _ ?_ (fun hHeld => ?_)
        · (apply wa_below; assumption; assumption)
        clear hK K
        try simp only [Act.put, List.setIfInBounds_toArray, List.set_cons_zero, List.set_cons_succ]
        refine wpAnyH_take (i := 3) (oi := _) (v := ?_) rfl (by kernel_rfl) (by kernel_rfl) (by kernel_rfl) (fun _ _ _ h => h) (Or.inl ⟨by rfl, ?_⟩) (by assumption) ?_
        rotate_left 1
        · (intro w hSw; (try dsimp only at hSw); go_simp; all_goals (with_reducible rfl))
        try simp only [Act.put, List.setIfInBounds_toArray, List.set_cons_zero, List.set_cons_succ]
        refine wpAnyH_take (i := 4) (oi := _) (v := ?_) rfl (by kernel_rfl) (by kernel_rfl) (by kernel_rfl) (fun _ _ _ h => h) (Or.inl ⟨by rfl, ?_⟩) (by assumption) ?_
        rotate_left 1
        · (intro w hSw; (try dsimp only at hSw); go_simp; all_goals (with_reducible rfl))
        try simp only [Act.put, List.setIfInBounds_toArray, List.set_cons_zero, List.set_cons_succ]
        refine wpAnyH_take (i := 5) (oi := _) (v := ?_) rfl (by kernel_rfl) (by kernel_rfl) (by kernel_rfl) (fun _ _ _ h => h) (Or.inl ⟨by rfl, ?_⟩) (by assumption) ?_
        rotate_left 1
        · (intro w hSw; (try dsimp only at hSw); go_simp; all_goals (with_reducible rfl))
        try simp only [Act.put, List.setIfInBounds_toArray, List.set_cons_zero, List.set_cons_succ]
        refine' wpAnyH_take (i := 7) (oi := _) (v := _) rfl (by kernel_rfl) (by kernel_rfl) (by kernel_rfl) (fun _ _ _ h => h) (yieldsIf_load_mid (by rfl) _ _ rfl _ _ rfl _ _ ?ls2 ?lu2 ?ld2 ?li2) (by assumption) ?lr2
        case ls2 => (intro w hSw; (try dsimp only at hSw); go_split_ands; assumption)
        case lu2 => assumption
        case ld2 => rfl
        case li2 => first | assumption | (simp only [*]; done)
        try simp only [Act.put, List.setIfInBounds_toArray, List.set_cons_zero, List.set_cons_succ]
        refine wpAnyH_ready (rs := [6]) (by kernel_rfl) (by simp) ?_
        refine AllReadyH.cons (o := _) rfl (fun K hK => ?_) ?_
        rotate_left 1
        · exact AllReadyH.nil
        go_simp
        go_at_call 30
        refine (hSumOf w7.heap.size l D _ HD.out hHeld.2.1 hHeld.2.2.2.1 (by omega)).mono ?_
        rintro _ wC ⟨rfl, hBC⟩
        dsimp only
        refine hK.out _ _ ?_ (fun hHeld => ?_)
        · (apply wa_below; assumption; assumption)
        clear hK K
        try simp only [Act.put, List.setIfInBounds_toArray, List.set_cons_zero, List.set_cons_succ]
        refine wpAnyH_take (i := 8) (oi := _) (v := ?_) rfl (by kernel_rfl) (by kernel_rfl) (by kernel_rfl) (fun _ _ _ h => h) (Or.inl ⟨by rfl, ?_⟩) (by assumption) ?_
        rotate_left 1
        · (intro w hSw; (try dsimp only at hSw); go_simp; all_goals (with_reducible rfl))
        try simp only [Act.put, List.setIfInBounds_toArray, List.set_cons_zero, List.set_cons_succ]
        refine wpAnyH_take (i := 9) (oi := _) (v := ?_) rfl (by kernel_rfl) (by kernel_rfl) (by kernel_rfl) (fun _ _ _ h => h) (Or.inl ⟨by rfl, ?_⟩) (by assumption) ?_
        rotate_left 1
        · (intro w hSw; (try dsimp only at hSw); go_simp; all_goals (with_reducible rfl))
        try simp only [Act.put, List.setIfInBounds_toArray, List.set_cons_zero, List.set_cons_succ]
        refine wpAnyH_take (i := 10) (oi := _) (v := ?_) rfl (by kernel_rfl) (by kernel_rfl) (by kernel_rfl) (fun _ _ _ h => h) (Or.inl ⟨by rfl, ?_⟩) (by assumption) ?_
        rotate_left 1
        · (intro w hSw; (try dsimp only at hSw); go_simp; all_goals (with_reducible rfl))
        try simp only [Act.put, List.setIfInBounds_toArray, List.set_cons_zero, List.set_cons_succ]
        refine wpAnyH_ready (rs := [11]) (by kernel_rfl) (by simp) ?_
        refine AllReadyH.cons (o := _) rfl (fun K hK => ?_) ?_
        rotate_left 1
        · exact AllReadyH.nil
        go_simp
        go_at_call 22
        refine (works01 _ hHeld.2.1).mono ?_
        rintro _ wD ⟨rfl, hBD⟩
        dsimp only
        refine hK.out _ _ ?_ (fun hHeld => ?_)
        · (apply wa_below; assumption; assumption)
        clear hK K
        try simp only [Act.put, List.setIfInBounds_toArray, List.set_cons_zero, List.set_cons_succ]
        refine wpAnyH_take (i := 12) (oi := _) (v := ?_) rfl (by kernel_rfl) (by kernel_rfl) (by kernel_rfl) (fun _ _ _ h => h) (Or.inl ⟨by rfl, ?_⟩) (by assumption) ?_
        rotate_left 1
        · (intro w hSw; (try dsimp only at hSw); go_simp; all_goals (with_reducible rfl))
        try simp only [Act.put, List.setIfInBounds_toArray, List.set_cons_zero, List.set_cons_succ]
        refine wpAnyH_take (i := 13) (oi := _) (v := ?_) rfl (by kernel_rfl) (by kernel_rfl) (by kernel_rfl) (fun _ _ _ h => h) (Or.inl ⟨by rfl, ?_⟩) (by assumption) ?_
        rotate_left 1
        · (intro w hSw; (try dsimp only at hSw); go_simp; all_goals (with_reducible rfl))
        try simp only [Act.put, List.setIfInBounds_toArray, List.set_cons_zero, List.set_cons_succ]
        refine wpAnyH_done (by kernel_rfl) ?_ _
        refine NoPanic.normal ?_
        (repeat' ((fail_if_success at_builtin); first | go_values | go_skip | go_guarded | go_step | go_upon))
        go_ret
        exact ⟨rfl, hHeld.2.2.2.2.2⟩

end Go.Proofs.YtdpfemhfmofmlaaDoor
