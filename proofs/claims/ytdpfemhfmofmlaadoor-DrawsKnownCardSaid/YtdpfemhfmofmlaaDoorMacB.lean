/- What package mac computes: a key's block, turned. -/
import Derived.Test.YtdpfemhfmofmlaaDoorMacS
namespace Go.Proofs.YtdpfemhfmofmlaaDoor
set_option linter.unusedSimpArgs false
open Go.RowKit
set_option maxRecDepth 10000

def kpad (k : List UInt8) : List UInt8 := k ++ List.replicate (64 - k.length) 0
def kshort (key : List UInt8) : List UInt8 := if 64 < key.length then wdig key else key
def kblock (key : List UInt8) : List UInt8 := kpad (kshort key)
def turnB (y : UInt8) (l : List UInt8) : List UInt8 := l.map (bxor · y)
def turned (y : UInt8) (K : List UInt8) (k : Nat) : List UInt8 := turnB y (K.take k) ++ K.drop k

theorem turnB_length (y : UInt8) (l : List UInt8) : (turnB y l).length = l.length := by simp [turnB]
theorem turned_zero (y : UInt8) (K : List UInt8) : turned y K 0 = K := by simp [turned, turnB]
theorem turned_all (y : UInt8) (K : List UInt8) (h : K.length = 64) : turned y K 64 = turnB y K := by
  unfold turned
  rw [List.take_of_length_le (by omega), List.drop_of_length_le (by omega), List.append_nil]
theorem turned_get (y : UInt8) (K : List UInt8) (k : Nat) (h : k < K.length) : (bvs (turned y K k)).toArray[k]? = some (.int .u8 (K[k].toNat : Int)) := by
  unfold turned bvs
  rw [List.getElem?_toArray, List.getElem?_map, List.getElem?_append_right (by rw [turnB_length, List.length_take]; omega), turnB_length, List.length_take, List.getElem?_drop, show k + (k - min k K.length) = k by omega, List.getElem?_eq_getElem h]
  rfl
theorem turned_step (y : UInt8) (K : List UInt8) (k : Nat) (h : k < K.length) : (bvs (turned y K k)).toArray.setIfInBounds k (.int .u8 ((bxor K[k] y).toNat : Int)) = (bvs (turned y K (k + 1))).toArray := by
  unfold turned bvs
  rw [List.setIfInBounds_toArray, show Value.int .u8 ((bxor K[k] y).toNat : Int) = bv (bxor K[k] y) from rfl, ← List.map_set, List.set_append_right _ _ (by rw [turnB_length, List.length_take]; omega), turnB_length, List.length_take, show k - min k K.length = 0 by omega,
    List.drop_eq_getElem_cons h, List.set_cons_zero, List.take_succ_eq_append_getElem h]
  unfold turnB
  simp only [List.map_append, List.map_cons, List.map_nil, List.append_assoc, List.cons_append, List.nil_append]
theorem kpad_length (k : List UInt8) (h : k.length ≤ 64) : (kpad k).length = 64 := by unfold kpad; simp; omega
theorem kpad_cells (k : List UInt8) : (splice (List.replicate 64 (Value.int .u8 0)).toArray.toList 0 (bvs k)).toArray = (bvs (kpad k)).toArray := by
  show (splice (List.replicate 64 (Value.int .u8 0)) 0 (bvs k)).toArray = _
  unfold kpad splice bvs
  rw [List.map_append, List.map_replicate, List.drop_replicate, List.length_map, Nat.zero_add, List.take_zero, List.nil_append]
  rfl

theorem zeroK64 : (Tryd.prog.info? 104).bind (fun i => i.zero.map (·.cells)) = some (List.replicate 64 (Value.int .u8 0)).toArray := by kernel_rfl
theorem sizeK64 : (Tryd.prog.info? 104).map (·.size) = some 64 := by kernel_rfl

theorem results_cell2 {fn : Func} {p q : Tmp} {ty ty' : TypeId} (h : fn.results = #[.cell p ty, .cell q ty']) (tmps : Array Value) (P : Program) (w : World) (a b : Addr) (hp : tmps.getD p undef = .pointer (some a)) (hq : tmps.getD q undef = .pointer (some b)) (u v : Value)
    (hl : (loadVar ty a).run P w = .ok u w) (hm : (loadVar ty' b).run P w = .ok v w) : (results fn tmps).run P w = .ok (.tuple #[u, v]) w := by
  have hp' : tmps[p]?.getD undef = .pointer (some a) := by simpa using hp
  have hq' : tmps[q]?.getD undef = .pointer (some b) := by simpa using hq
  simp only [results, h]
  simp [hp', hq', hl, hm, asAddr]

abbrev BS (w : World) (X Y : List UInt8) (w' : World) : Prop :=
  w'.rangeAt w.heap.size 0 (bvs X) ∧ w'.rangeAt (w.heap.size + 1) 0 (bvs Y) ∧ w'.heap[w.heap.size]? = some (.cells (bvs X).toArray 104 (0, 0)) ∧ w'.heap[w.heap.size + 1]? = some (.cells (bvs Y).toArray 104 (0, 0)) ∧ Below w.heap.size w w'
theorem bs_of {w w' : World} {X Y : List UInt8} (h1 : w'.heap[w.heap.size]? = some (.cells (bvs X).toArray 104 (0, 0))) (h2 : w'.heap[w.heap.size + 1]? = some (.cells (bvs Y).toArray 104 (0, 0))) (hB : Below w.heap.size w w') : BS w X Y w' := ⟨rangeAt_whole h1, rangeAt_whole h2, h1, h2, hB⟩
theorem bs_one {w w1 w2 : World} {X Y : List UInt8} (h : BS w X Y w1) (hg : w2.heap[w.heap.size]? = some (.cells (splice (bvs X).toArray.toList 0 (bvs X)).toArray 104 (0, 0))) (hG : w1.grownBy w2 (some w.heap.size)) : BS w X Y w2 := by
  rw [splice_whole _ _ (by simp)] at hg
  exact bs_of hg ((hG.block _ (Array.getElem?_eq_some_iff.1 h.2.2.2.1).1 (by simp)).trans h.2.2.2.1) (h.2.2.2.2.grown hG h.2.2.2.2.size (fun k e => by cases e; exact Nat.le_refl _))
theorem bs_two {w w1 w2 : World} {X Y : List UInt8} (h : BS w X Y w1) (hg : w2.heap[w.heap.size + 1]? = some (.cells (splice (bvs Y).toArray.toList 0 (bvs Y)).toArray 104 (0, 0))) (hG : w1.grownBy w2 (some (w.heap.size + 1))) : BS w X Y w2 := by
  rw [splice_whole _ _ (by simp)] at hg
  exact bs_of ((hG.block _ (Array.getElem?_eq_some_iff.1 h.2.2.1).1 (by simp)).trans h.2.2.1) hg (h.2.2.2.2.grown hG h.2.2.2.2.size (fun k e => by cases e; exact Nat.le_succ _))

structure BlkRel (K : List UInt8) (w : World) (i : Value) (wr : World) : Prop where
  out : ∃ k : Nat, k ≤ 64 ∧ i = .int .i64 k ∧ Below w.heap.size w wr ∧ wr.heap[w.heap.size]? = some (.cells (bvs (turned 0x36 K k)).toArray 104 (0, 0)) ∧ wr.heap[w.heap.size + 1]? = some (.cells (bvs (turned 0x5c K k)).toArray 104 (0, 0))

set_option maxHeartbeats 2000000 in
theorem macBlocks (a : Option Addr) (n c : Nat) (l K : List UInt8) (w : World) (hK : kblock l = K) (hT : Tabs w) (hr : RdB w a l) (en : l.length = n) (hc : n ≤ c) (hn : n ≤ 200000000) :
    Calls Tryd.prog 89 #[.slice a n c] w fun e w' => e = .returned (.tuple #[.agg (bvs (turnB 0x36 K)).toArray, .agg (bvs (turnB 0x5c K)).toArray]) ∧ Below w.heap.size w w' := by
  subst en
  obtain ⟨iS, zS, hiS, hzS, hcS⟩ := fresh_parts zeroSum
  have HIS := Lib.hid hiS; clear hiS
  have HZS := Lib.hid hzS; clear hzS
  have HCS := Lib.hid hcS; clear hcS
  obtain ⟨iK, zK, hiK, hzK, hcK⟩ := fresh_parts zeroK64
  have HIK := Lib.hid hiK; clear hiK
  have HZK := Lib.hid hzK; clear hzK
  have HCK := Lib.hid hcK; clear hcK
  have HT := Lib.hid hT; clear hT
  have HR := Lib.hid hr; clear hr
  obtain ⟨K0, hK0⟩ : ∃ K0, kshort l = K0 := ⟨_, rfl⟩
  have hKp : kpad K0 = K := by rw [← hK0, ← hK]; rfl
  have h64 : K0.length ≤ 64 := by
    rw [← hK0]
    unfold kshort
    split
    · rw [wdig_length]; omega
    · omega
  have hKl : K.length = 64 := by rw [← hKp]; exact kpad_length _ h64
  have HKK := Lib.hid hKl
  have hkl : (bvs K).length = 64 := by rw [bvs_length]; exact hKl
  clear hKl
  have HI64 := Lib.hid (show (Tryd.prog.info? 104).map (·.size) = some (bvs K).length by rw [hkl]; exact sizeK64)
  have HFK := Lib.hid (show 0 + (bvs K).length ≤ (List.replicate 64 (Value.int .u8 0)).toArray.size by rw [hkl]; simp)
  have HKO := Lib.hid (bvs_oneCell K)
  have HKL := Lib.hid hkl; clear hkl
  have HCP := Lib.hid (show (splice (List.replicate 64 (Value.int .u8 0)).toArray.toList 0 (bvs K0)).toArray = (bvs K).toArray by rw [← hKp]; exact kpad_cells K0)
  have HCO := Lib.hid (bvs_oneCell K0)
  have HCF := Lib.hid (show 0 + (bvs K0).length ≤ (List.replicate 64 (Value.int .u8 0)).toArray.size by rw [bvs_length]; simpa using h64)
  have H64 := Lib.hid h64; clear h64
  have HK0 := Lib.hid hK0; clear hK0
  clear hKp hK
  have hts := HT.out.size
  by_cases hb : 64 < l.length
  · have hb1 : (64 : Int) < (l.length : Int) := by omega
    go_enter Tryd.func89, Tryd.ntmps89
    (repeat' ((fail_if_success at_builtin); (fail_if_success (show wpList _ _ _ ({ dst := some 14, op := _, type := _, pos := _, after := _, guard := _ } :: _) _ _)); first | (first | ((with_reducible refine wpList_alloc_fresh (w := w) rfl 104 rfl _ iK zK HIK.out HZK.out HCK.out ?_); intro w1 hg1 hB1 hs1; have HG1 := Lib.hid hg1; clear hg1; have HS1 := Lib.hid hs1; clear hs1) | ((with_reducible refine wpList_alloc_fresh (w := w1) rfl 104 rfl _ iK zK HIK.out HZK.out HCK.out ?_); intro w2 hg2 hB2 hs2; rw [HS1.out] at hg2 hs2; have HG2 := Lib.hid hg2; clear hg2; have HS2 := Lib.hid hs2; clear hs2; try rw [HS1.out])) | go_values | go_skip | go_guarded | go_step | go_upon))
    have hB02 : Below w.heap.size w w2 := hB1.trans (hB2.mono hB1.size)
    have hg12 := (hB2.block w.heap.size (by have := HS1.out; omega)).trans HG1.out
    have HG12 := Lib.hid hg12; clear hg12
    obtain ⟨D, hD⟩ : ∃ D, wdig l = D := ⟨_, rfl⟩
    have hDK : D = K0 := by rw [← hD, ← HK0.out]; unfold kshort; rw [if_pos hb]
    subst hDK
    have hDl : (bvs D).length = 32 := by rw [bvs_length, ← hD, wdig_length]
    have hiD : (Tryd.prog.info? 26).map (·.size) = some (bvs D).length := by rw [hDl]; exact sizeSum
    have hfD : 0 + (bvs D).length ≤ (List.replicate 32 (Value.int .u8 0)).toArray.size := by rw [hDl]; simp
    have HID := Lib.hid hiD; clear hiD
    have HFD := Lib.hid hfD; clear hfD
    have HDL := Lib.hid hDl; clear hDl
    have HD := Lib.hid hD; clear hD
    refine (shaSumOf a _ c l D w2 HD.out (HT.out.below hB02 hts) (HR.out.below hB02 (Nat.le_refl _)) rfl hc (by omega)).mono ?_
    rintro _ w3 ⟨rfl, hB3⟩
    dsimp only
    (repeat' ((fail_if_success at_builtin); (fail_if_success (show wpList _ _ _ ({ dst := some 14, op := _, type := _, pos := _, after := _, guard := _ } :: _) _ _)); first | (first | ((with_reducible refine wpList_alloc_fresh (w := w3) rfl 26 rfl _ iS zS HIS.out HZS.out HCS.out ?_); intro w6 hg6 hB6 hs6; have HG6 := Lib.hid hg6; clear hg6; have HS6 := Lib.hid hs6; clear hs6) | ((with_reducible refine wpList_store_blk rfl 26 _ _ rfl w3.heap.size 0 (bvs D) rfl rfl _ _ HG6.out HFD.out HID.out HCO.out ?_); intro wx hgx hGx; have HGX := Lib.hid hgx; clear hgx)) | go_values | go_skip | go_guarded | go_step | go_upon))
    have hgx := HGX.out
    rw [splice_whole _ _ (by rw [HDL.out]; simp)] at hgx
    have hB3x : Below w3.heap.size w3 wx := hB6.grown hGx (by have := HS6.out; omega) (fun k e => by cases e; exact Nat.le_refl _)
    have hB2x : Below w2.heap.size w2 wx := hB3.trans (hB3x.mono hB3.size)
    have hB' : Below w.heap.size w wx := hB02.trans (hB2x.mono hB02.size)
    have hR' : RdB wx (some ⟨w3.heap.size, 0, none⟩) D := ⟨fun i hi => ⟨_, _, rfl, by rw [Nat.zero_add, cell_of_row wx w3.heap.size i _ _ _ hgx]; simp⟩⟩
    have HR' := Lib.hid hR'; clear hR' hgx
    have HG1' := Lib.hid ((hB2x.block w.heap.size (by have := HS1.out; have := HS2.out; omega)).trans HG12.out)
    have HG2' := Lib.hid ((hB2x.block (w.heap.size + 1) (by have := HS2.out; omega)).trans HG2.out)
    have HL1 := Lib.hid (show w.heap.size < wx.heap.size from (Array.getElem?_eq_some_iff.1 HG1'.out).1)
    have HCN := Lib.hid (show (bvs D).length = Nat.min 32 64 by rw [HDL.out]; rfl)
    clear HGX HG6 HS6 HFD HID hGx hB6 HG1 HG2 HG12
    have hz' := hB'.size
    (repeat' ((fail_if_success at_builtin); first | (first | ((with_reducible refine wpList_cp rfl _ _ _ _ rfl 5 Tryd.underlying22 hsz8 (some ⟨w.heap.size, 0, none⟩) (some ⟨w3.heap.size, 0, none⟩) 64 64 32 32 rfl rfl w.heap.size 0 _ _ HG1'.out (bvs D) HCN.out (fun _ => rfl) HR'.out HCF.out HCO.out ?_); intro w4 hg4 hG4; have HG4 := Lib.hid hg4; clear hg4; have hp4 := HG4.out; rw [HCP.out] at hp4; have HA4 := Lib.hid (rangeAt_whole hp4); have HP4 := Lib.hid hp4; clear hp4) | (with_reducible refine wpList_load_mid rfl 104 _ rfl w.heap.size 0 rfl (bvs K) _ HA4.out Tryd.underlying104 rfl HI64.out ?_) | ((with_reducible refine wpList_store_blk rfl 104 _ _ rfl (w.heap.size + 1) 0 (bvs K) rfl rfl _ _ (show w4.heap[w.heap.size + 1]? = some _ from (hG4.block _ (Array.getElem?_eq_some_iff.1 HG2'.out).1 (by simp)).trans HG2'.out) HFK.out HI64.out HKO.out ?_); intro w5 hg5 hG5; have HG5 := Lib.hid hg5; clear hg5)) | go_values | go_skip | go_guarded | go_step | go_upon))
    have hg5 := HG5.out
    rw [splice_whole _ _ (by rw [HKL.out]; simp)] at hg5
    have hq5 := (hG5.block w.heap.size (by have := HL1.out; have := hG4.size; omega) (by simp)).trans HP4.out
    have hB5 : Below w.heap.size w w5 := (hB'.grown hG4 hB'.size (fun k e => by cases e; exact Nat.le_refl _)).grown hG5 (Nat.le_trans hB'.size hG4.size) (fun k e => by cases e; exact Nat.le_succ _)
    have HG5' := Lib.hid hg5; clear hg5
    have HQ5 := Lib.hid hq5; clear hq5
    clear hG4 hG5 HG5 HG4 HA4 HP4 HG1' HG2' HCP HCN HCF HCO HR'
    (repeat' ((fail_if_success at_builtin); first | go_values | go_skip | go_guarded | go_step | go_upon))
    go_loopw [5, 16] (fun _ i wr => BlkRel K w i wr) (fun _ i _ => 64 - (intOf i).toNat)
    case atStart => exact ⟨⟨0, by omega, rfl, hB5, by rw [turned_zero]; exact HQ5.out, by rw [turned_zero]; exact HG5'.out⟩⟩
    case round =>
      obtain ⟨⟨k, hk, rfl, hB, hg1, hg2⟩⟩ := hrel
      by_cases hlt64 : k < 64
      · have hkl : k < K.length := by rw [HKK.out]; exact hlt64
        have bk : (0 : Int) ≤ (k : Int) ∧ (k : Int) < 64 := by omega
        have hc1 : wr.cell? ⟨w.heap.size, k, none⟩ = some (.int .u8 (K[k].toNat : Int)) := by rw [cell_of_row wr _ k _ _ _ hg1, turned_get _ _ _ hkl]
        have hc2 : wr.cell? ⟨w.heap.size + 1, k, none⟩ = some (.int .u8 (K[k].toNat : Int)) := by rw [cell_of_row wr _ k _ _ _ hg2, turned_get _ _ _ hkl]
        have hf1 := frozen_of_row wr (w.heap.size) k _ _ hg1
        have hf2 := frozen_of_row wr (w.heap.size + 1) k _ _ hg2
        have ht1 := turned_step 0x36 K k hkl
        have ht2 := turned_step 0x5c K k hkl
        have e1 : bits .xor .u8 (K[k].toNat : Int) 54 = ((bxor K[k] 0x36).toNat : Int) := b_xor K[k] 0x36
        have e2 : bits .xor .u8 (K[k].toNat : Int) 92 = ((bxor K[k] 0x5c).toNat : Int) := b_xor K[k] 0x5c
        generalize bxor K[k] 0x36 = y1 at e1 ht1
        generalize bxor K[k] 0x5c = y2 at e2 ht2
        generalize K[k] = x at hc1 hc2 e1 e2
        have HG1 := Lib.hid hg1; clear hg1
        have HG2 := Lib.hid hg2; clear hg2
        have HT1 := Lib.hid ht1; clear ht1
        have HT2 := Lib.hid ht2; clear ht2
        (repeat' ((fail_if_success at_builtin); first | go_values | go_skip | go_guarded | go_step | go_upon))
        go_roundw
        case rel =>
          go_light
          refine ⟨⟨k + 1, by omega, by go_num, (hB.setCell (by show _ ≤ w.heap.size; omega) _).setCell (by show _ ≤ w.heap.size + 1; omega) _, ?_, ?_⟩⟩
          · rw [Below.heap_setCell _ _ _ _ (by show _ ≠ w.heap.size + 1; omega), row_set HG1.out, HT1.out]
          · rw [row_set ((Below.heap_setCell _ _ _ _ (by show _ ≠ w.heap.size; omega)).trans HG2.out), HT2.out]
        case measure => go_light; simp [intOf]; omega
      · have k64 : k = 64 := by omega
        have hnk : ¬ ((k : Int) < 64) := by omega
        have hnk' : decide ((k : Int) < 64) = false := by simp; omega
        rw [k64, turned_all _ _ HKK.out] at hg1 hg2
        obtain ⟨X, hX⟩ : ∃ X, turnB 0x36 K = X := ⟨_, rfl⟩
        obtain ⟨Y, hY⟩ : ∃ Y, turnB 0x5c K = Y := ⟨_, rfl⟩
        rw [hX] at hg1
        rw [hY] at hg2
        have hXl : (bvs X).length = 64 := by rw [bvs_length, ← hX, turnB_length, HKK.out]
        have hYl : (bvs Y).length = 64 := by rw [bvs_length, ← hY, turnB_length, HKK.out]
        have hiX : (Tryd.prog.info? 104).map (·.size) = some (bvs X).length := by rw [hXl]; exact sizeK64
        have hiY : (Tryd.prog.info? 104).map (·.size) = some (bvs Y).length := by rw [hYl]; exact sizeK64
        have hu64 : Tryd.prog.underlying 104 = some _ := Tryd.underlying104
        have HX := Lib.hid hX; clear hX
        have HY := Lib.hid hY; clear hY
        have HXL := Lib.hid hXl; clear hXl
        have HYL := Lib.hid hYl; clear hYl
        have HXO := Lib.hid (bvs_oneCell X)
        have HYO := Lib.hid (bvs_oneCell Y)
        have hz1 := (Array.getElem?_eq_some_iff.1 hg2).1
        have hbs : BS w X Y wr.drew := bs_of hg1 hg2 hB.drew
        have HHW := Lib.hid hz1; clear hz1
        clear hg1 hg2 k64
        (repeat' ((fail_if_success at_builtin); first | go_values | go_skip | go_guarded | go_step | go_upon))
        refine wp_region_noPanic ?_
        refine wp_region_held_drew (S := BS w X Y) (by kernel_rfl) ?_ (fun hHeld => ?_)
        · (assumption)
        refine' wpAnyH_take (i := 0) (oi := _) (v := _) rfl (by kernel_rfl) (by kernel_rfl) (by kernel_rfl) (fun _ _ _ h => h) (yieldsIf_load_mid (by rfl) _ _ rfl _ _ rfl _ _ ?ls1 ?lu1 ?ld1 ?li1) (by assumption) ?lr1
        case ls1 => (intro w hSw; (try dsimp only at hSw); go_split_ands; assumption)
        case lu1 => assumption
        case ld1 => rfl
        case li1 => first | assumption | (simp only [*]; done)
        try simp only [Act.put, List.setIfInBounds_toArray, List.set_cons_zero, List.set_cons_succ]
        refine' wpAnyH_take (i := 1) (oi := _) (v := _) rfl (by kernel_rfl) (by kernel_rfl) (by kernel_rfl) (fun _ _ _ h => h) (yieldsIf_load_mid (by rfl) _ _ rfl _ _ rfl _ _ ?ls2 ?lu2 ?ld2 ?li2) (by assumption) ?lr2
        case ls2 => (intro w hSw; (try dsimp only at hSw); go_split_ands; assumption)
        case lu2 => assumption
        case ld2 => rfl
        case li2 => first | assumption | (simp only [*]; done)
        try simp only [Act.put, List.setIfInBounds_toArray, List.set_cons_zero, List.set_cons_succ]
        refine wpAnyH_ready (rs := [2]) (by kernel_rfl) (by simp) ?_
        refine AllReadyH.cons (o := _) rfl (fun K hK => ?_) ?_
        rotate_left 1
        · exact AllReadyH.nil
        refine step_store_blk rfl _ _ _ rfl w.heap.size 0 (bvs X) rfl rfl _ _ hHeld.2.2.1 (by simp) hiX HXO.out ?_
        intro w6 hg6 hG6
        refine hK.out _ _ ?_ (fun hHeld => ?_)
        · (exact bs_one hHeld hg6 hG6)
        clear hK K
        try simp only [Act.put, List.setIfInBounds_toArray, List.set_cons_zero, List.set_cons_succ]
        refine wpAnyH_ready (rs := [3]) (by kernel_rfl) (by simp) ?_
        refine AllReadyH.cons (o := _) rfl (fun K hK => ?_) ?_
        rotate_left 1
        · exact AllReadyH.nil
        refine step_store_blk rfl _ _ _ rfl (w.heap.size + 1) 0 (bvs Y) rfl rfl _ _ hHeld.2.2.2.1 (by simp) hiY HYO.out ?_
        intro w7 hg7 hG7
        refine hK.out _ _ ?_ (fun hHeld => ?_)
        · (exact bs_two hHeld hg7 hG7)
        clear hK K
        try simp only [Act.put, List.setIfInBounds_toArray, List.set_cons_zero, List.set_cons_succ]
        refine wpAnyH_done (by kernel_rfl) ?_ _
        refine NoPanic.normal ?_
        (repeat' ((fail_if_success at_builtin); first | go_values | go_skip | go_guarded | go_step | go_upon))
        exact bodyPost_ret (results_cell2 rfl _ _ _ ⟨w.heap.size, 0, none⟩ ⟨w.heap.size + 1, 0, none⟩ rfl rfl _ _ (run_loadVar_mid (P := Tryd.prog) _ w.heap.size 0 104 (bvs X) _ hHeld.1 Tryd.underlying104 rfl hiX) (run_loadVar_mid (P := Tryd.prog) _ (w.heap.size + 1) 0 104 (bvs Y) _ hHeld.2.1 Tryd.underlying104 rfl hiY)) rfl ⟨by rw [HX.out, HY.out], hHeld.2.2.2.2⟩
  · have hb1 : ¬ ((64 : Int) < (l.length : Int)) := by omega
    go_enter Tryd.func89, Tryd.ntmps89
    (repeat' ((fail_if_success at_builtin); (fail_if_success (show wpList _ _ _ ({ dst := some 14, op := _, type := _, pos := _, after := _, guard := _ } :: _) _ _)); first | (first | ((with_reducible refine wpList_alloc_fresh (w := w) rfl 104 rfl _ iK zK HIK.out HZK.out HCK.out ?_); intro w1 hg1 hB1 hs1; have HG1 := Lib.hid hg1; clear hg1; have HS1 := Lib.hid hs1; clear hs1) | ((with_reducible refine wpList_alloc_fresh (w := w1) rfl 104 rfl _ iK zK HIK.out HZK.out HCK.out ?_); intro w2 hg2 hB2 hs2; rw [HS1.out] at hg2 hs2; have HG2 := Lib.hid hg2; clear hg2; have HS2 := Lib.hid hs2; clear hs2; try rw [HS1.out])) | go_values | go_skip | go_guarded | go_step | go_upon))
    have hB02 : Below w.heap.size w w2 := hB1.trans (hB2.mono hB1.size)
    have hg12 := (hB2.block w.heap.size (by have := HS1.out; omega)).trans HG1.out
    have HG12 := Lib.hid hg12; clear hg12
    have hDK : l = K0 := by rw [← HK0.out]; unfold kshort; rw [if_neg hb]
    subst hDK
    have HR' := Lib.hid (HR.out.below hB02 (Nat.le_refl _))
    have hB' := hB02
    have HG1' := HG12
    have HG2' := HG2
    have HL1 := Lib.hid (show w.heap.size < w2.heap.size from (Array.getElem?_eq_some_iff.1 HG1'.out).1)
    have HCN := Lib.hid (show (bvs l).length = Nat.min l.length 64 by rw [bvs_length]; exact (Nat.min_eq_left H64.out).symm)
    clear HG1 HG2 HG12
    have hz' := hB'.size
    (repeat' ((fail_if_success at_builtin); first | (first | ((with_reducible refine wpList_cp rfl _ _ _ _ rfl 5 Tryd.underlying22 hsz8 (some ⟨w.heap.size, 0, none⟩) a 64 64 l.length c rfl rfl w.heap.size 0 _ _ HG1'.out (bvs l) HCN.out (fun _ => rfl) HR'.out HCF.out HCO.out ?_); intro w4 hg4 hG4; have HG4 := Lib.hid hg4; clear hg4; have hp4 := HG4.out; rw [HCP.out] at hp4; have HA4 := Lib.hid (rangeAt_whole hp4); have HP4 := Lib.hid hp4; clear hp4) | (with_reducible refine wpList_load_mid rfl 104 _ rfl w.heap.size 0 rfl (bvs K) _ HA4.out Tryd.underlying104 rfl HI64.out ?_) | ((with_reducible refine wpList_store_blk rfl 104 _ _ rfl (w.heap.size + 1) 0 (bvs K) rfl rfl _ _ (show w4.heap[w.heap.size + 1]? = some _ from (hG4.block _ (Array.getElem?_eq_some_iff.1 HG2'.out).1 (by simp)).trans HG2'.out) HFK.out HI64.out HKO.out ?_); intro w5 hg5 hG5; have HG5 := Lib.hid hg5; clear hg5)) | go_values | go_skip | go_guarded | go_step | go_upon))
    have hg5 := HG5.out
    rw [splice_whole _ _ (by rw [HKL.out]; simp)] at hg5
    have hq5 := (hG5.block w.heap.size (by have := HL1.out; have := hG4.size; omega) (by simp)).trans HP4.out
    have hB5 : Below w.heap.size w w5 := (hB'.grown hG4 hB'.size (fun k e => by cases e; exact Nat.le_refl _)).grown hG5 (Nat.le_trans hB'.size hG4.size) (fun k e => by cases e; exact Nat.le_succ _)
    have HG5' := Lib.hid hg5; clear hg5
    have HQ5 := Lib.hid hq5; clear hq5
    clear hG4 hG5 HG5 HG4 HA4 HP4 HG1' HG2' HCP HCN HCF HCO HR'
    (repeat' ((fail_if_success at_builtin); first | go_values | go_skip | go_guarded | go_step | go_upon))
    go_loopw [5, 16] (fun _ i wr => BlkRel K w i wr) (fun _ i _ => 64 - (intOf i).toNat)
    case atStart => exact ⟨⟨0, by omega, rfl, hB5, by rw [turned_zero]; exact HQ5.out, by rw [turned_zero]; exact HG5'.out⟩⟩
    case round =>
      obtain ⟨⟨k, hk, rfl, hB, hg1, hg2⟩⟩ := hrel
      by_cases hlt64 : k < 64
      · have hkl : k < K.length := by rw [HKK.out]; exact hlt64
        have bk : (0 : Int) ≤ (k : Int) ∧ (k : Int) < 64 := by omega
        have hc1 : wr.cell? ⟨w.heap.size, k, none⟩ = some (.int .u8 (K[k].toNat : Int)) := by rw [cell_of_row wr _ k _ _ _ hg1, turned_get _ _ _ hkl]
        have hc2 : wr.cell? ⟨w.heap.size + 1, k, none⟩ = some (.int .u8 (K[k].toNat : Int)) := by rw [cell_of_row wr _ k _ _ _ hg2, turned_get _ _ _ hkl]
        have hf1 := frozen_of_row wr (w.heap.size) k _ _ hg1
        have hf2 := frozen_of_row wr (w.heap.size + 1) k _ _ hg2
        have ht1 := turned_step 0x36 K k hkl
        have ht2 := turned_step 0x5c K k hkl
        have e1 : bits .xor .u8 (K[k].toNat : Int) 54 = ((bxor K[k] 0x36).toNat : Int) := b_xor K[k] 0x36
        have e2 : bits .xor .u8 (K[k].toNat : Int) 92 = ((bxor K[k] 0x5c).toNat : Int) := b_xor K[k] 0x5c
        generalize bxor K[k] 0x36 = y1 at e1 ht1
        generalize bxor K[k] 0x5c = y2 at e2 ht2
        generalize K[k] = x at hc1 hc2 e1 e2
        have HG1 := Lib.hid hg1; clear hg1
        have HG2 := Lib.hid hg2; clear hg2
        have HT1 := Lib.hid ht1; clear ht1
        have HT2 := Lib.hid ht2; clear ht2
        (repeat' ((fail_if_success at_builtin); first | go_values | go_skip | go_guarded | go_step | go_upon))
        go_roundw
        case rel =>
          go_light
          refine ⟨⟨k + 1, by omega, by go_num, (hB.setCell (by show _ ≤ w.heap.size; omega) _).setCell (by show _ ≤ w.heap.size + 1; omega) _, ?_, ?_⟩⟩
          · rw [Below.heap_setCell _ _ _ _ (by show _ ≠ w.heap.size + 1; omega), row_set HG1.out, HT1.out]
          · rw [row_set ((Below.heap_setCell _ _ _ _ (by show _ ≠ w.heap.size; omega)).trans HG2.out), HT2.out]
        case measure => go_light; simp [intOf]; omega
      · have k64 : k = 64 := by omega
        have hnk : ¬ ((k : Int) < 64) := by omega
        have hnk' : decide ((k : Int) < 64) = false := by simp; omega
        rw [k64, turned_all _ _ HKK.out] at hg1 hg2
        obtain ⟨X, hX⟩ : ∃ X, turnB 0x36 K = X := ⟨_, rfl⟩
        obtain ⟨Y, hY⟩ : ∃ Y, turnB 0x5c K = Y := ⟨_, rfl⟩
        rw [hX] at hg1
        rw [hY] at hg2
        have hXl : (bvs X).length = 64 := by rw [bvs_length, ← hX, turnB_length, HKK.out]
        have hYl : (bvs Y).length = 64 := by rw [bvs_length, ← hY, turnB_length, HKK.out]
        have hiX : (Tryd.prog.info? 104).map (·.size) = some (bvs X).length := by rw [hXl]; exact sizeK64
        have hiY : (Tryd.prog.info? 104).map (·.size) = some (bvs Y).length := by rw [hYl]; exact sizeK64
        have hu64 : Tryd.prog.underlying 104 = some _ := Tryd.underlying104
        have HX := Lib.hid hX; clear hX
        have HY := Lib.hid hY; clear hY
        have HXL := Lib.hid hXl; clear hXl
        have HYL := Lib.hid hYl; clear hYl
        have HXO := Lib.hid (bvs_oneCell X)
        have HYO := Lib.hid (bvs_oneCell Y)
        have hz1 := (Array.getElem?_eq_some_iff.1 hg2).1
        have hbs : BS w X Y wr.drew := bs_of hg1 hg2 hB.drew
        have HHW := Lib.hid hz1; clear hz1
        clear hg1 hg2 k64
        (repeat' ((fail_if_success at_builtin); first | go_values | go_skip | go_guarded | go_step | go_upon))
        refine wp_region_noPanic ?_
        refine wp_region_held_drew (S := BS w X Y) (by kernel_rfl) ?_ (fun hHeld => ?_)
        · (assumption)
        refine' wpAnyH_take (i := 0) (oi := _) (v := _) rfl (by kernel_rfl) (by kernel_rfl) (by kernel_rfl) (fun _ _ _ h => h) (yieldsIf_load_mid (by rfl) _ _ rfl _ _ rfl _ _ ?ls3 ?lu3 ?ld3 ?li3) (by assumption) ?lr3
        case ls3 => (intro w hSw; (try dsimp only at hSw); go_split_ands; assumption)
        case lu3 => assumption
        case ld3 => rfl
        case li3 => first | assumption | (simp only [*]; done)
        try simp only [Act.put, List.setIfInBounds_toArray, List.set_cons_zero, List.set_cons_succ]
        refine' wpAnyH_take (i := 1) (oi := _) (v := _) rfl (by kernel_rfl) (by kernel_rfl) (by kernel_rfl) (fun _ _ _ h => h) (yieldsIf_load_mid (by rfl) _ _ rfl _ _ rfl _ _ ?ls4 ?lu4 ?ld4 ?li4) (by assumption) ?lr4
        case ls4 => (intro w hSw; (try dsimp only at hSw); go_split_ands; assumption)
        case lu4 => assumption
        case ld4 => rfl
        case li4 => first | assumption | (simp only [*]; done)
        try simp only [Act.put, List.setIfInBounds_toArray, List.set_cons_zero, List.set_cons_succ]
        refine wpAnyH_ready (rs := [2]) (by kernel_rfl) (by simp) ?_
        refine AllReadyH.cons (o := _) rfl (fun K hK => ?_) ?_
        rotate_left 1
        · exact AllReadyH.nil
        refine step_store_blk rfl _ _ _ rfl w.heap.size 0 (bvs X) rfl rfl _ _ hHeld.2.2.1 (by simp) hiX HXO.out ?_
        intro w6 hg6 hG6
        refine hK.out _ _ ?_ (fun hHeld => ?_)
        · (exact bs_one hHeld hg6 hG6)
        clear hK K
        try simp only [Act.put, List.setIfInBounds_toArray, List.set_cons_zero, List.set_cons_succ]
        refine wpAnyH_ready (rs := [3]) (by kernel_rfl) (by simp) ?_
        refine AllReadyH.cons (o := _) rfl (fun K hK => ?_) ?_
        rotate_left 1
        · exact AllReadyH.nil
        refine step_store_blk rfl _ _ _ rfl (w.heap.size + 1) 0 (bvs Y) rfl rfl _ _ hHeld.2.2.2.1 (by simp) hiY HYO.out ?_
        intro w7 hg7 hG7
        refine hK.out _ _ ?_ (fun hHeld => ?_)
        · (exact bs_two hHeld hg7 hG7)
        clear hK K
        try simp only [Act.put, List.setIfInBounds_toArray, List.set_cons_zero, List.set_cons_succ]
        refine wpAnyH_done (by kernel_rfl) ?_ _
        refine NoPanic.normal ?_
        (repeat' ((fail_if_success at_builtin); first | go_values | go_skip | go_guarded | go_step | go_upon))
        exact bodyPost_ret (results_cell2 rfl _ _ _ ⟨w.heap.size, 0, none⟩ ⟨w.heap.size + 1, 0, none⟩ rfl rfl _ _ (run_loadVar_mid (P := Tryd.prog) _ w.heap.size 0 104 (bvs X) _ hHeld.1 Tryd.underlying104 rfl hiX) (run_loadVar_mid (P := Tryd.prog) _ (w.heap.size + 1) 0 104 (bvs Y) _ hHeld.2.1 Tryd.underlying104 rfl hiY)) rfl ⟨by rw [HX.out, HY.out], hHeld.2.2.2.2⟩

end Go.Proofs.YtdpfemhfmofmlaaDoor
