/- What package sha computes: a hash is asked. -/
import Derived.Test.YtdpfemhfmofmlaaDoorHashNew
import Derived.Test.YtdpfemhfmofmlaaDoorDig
namespace Go.Proofs.YtdpfemhfmofmlaaDoor
set_option linter.unusedSimpArgs false
open Go.RowKit
set_option maxRecDepth 10000

theorem size74 : (Tryd.prog.info? 107).map (·.size) = some 74 := by kernel_rfl
theorem sizeSum : (Tryd.prog.info? 26).map (·.size) = some 32 := by kernel_rfl
theorem zeroSum : (Tryd.prog.info? 26).bind (fun i => i.zero.map (·.cells)) = some (List.replicate 32 (Value.int .u8 0)).toArray := by kernel_rfl
theorem zeroHash : ∃ cs : Array Value, cs.size = 74 ∧ (Tryd.prog.info? 107).bind (fun i => i.zero.map (·.cells)) = some cs := ⟨(hcells [0, 0, 0, 0, 0, 0, 0, 0] (List.replicate 64 0) 0 0).toArray, by kernel_rfl, by kernel_rfl⟩
theorem zeroTail : (Tryd.prog.info? 110).bind (fun i => i.zero.map (·.cells)) = some (List.replicate 8 (Value.int .u8 0)).toArray := by kernel_rfl

theorem HashAt.below {w w' : World} {g all : Nat} {m : List UInt8} (h : HashAt w g m all) {B : Nat} (hb : Below B w w') (hB : g < B) : HashAt w' g m all := by
  obtain ⟨rest, h1, h2⟩ := h.out
  exact ⟨rest, h1, (hb.block g hB).trans h2⟩
theorem HashAt.lt {w : World} {g all : Nat} {m : List UInt8} (h : HashAt w g m all) : g < w.heap.size := by
  obtain ⟨rest, h1, h2⟩ := h.out
  exact (Array.getElem?_eq_some_iff.1 h2).1
theorem HashAt.have_ {w : World} {g all : Nat} {m : List UInt8} (h : HashAt w g m all) : w.cell? ⟨g, 72, none⟩ = some (.int .i64 ((m.length % 64 : Nat) : Int)) := by
  obtain ⟨rest, h1, h2⟩ := h.out
  rw [cell_of_row w g 72 _ _ _ h2, hcells_getHave (wst_length _ _) h1.len]
theorem HashAt.all_ {w : World} {g all : Nat} {m : List UInt8} (h : HashAt w g m all) : w.cell? ⟨g, 73, none⟩ = some (.int .u64 (all : Int)) := by
  obtain ⟨rest, h1, h2⟩ := h.out
  rw [cell_of_row w g 73 _ _ _ h2, hcells_getAll (wst_length _ _) h1.len]

/-- A hash is copied. -/
theorem hash_copy {w w1 : World} {g g1 all : Nat} {m : List UInt8} {cs : List Value} (h : w.heap[g]? = some (.cells cs.toArray 107 (0, 0))) (hh : HashAt w g m all) (h1 : w1.heap[g1]? = some (.cells cs.toArray 107 (0, 0))) : HashAt w1 g1 m all := by
  obtain ⟨rest, k1, k2⟩ := hh.out
  rw [h] at k2
  exact ⟨rest, k1, h1.trans k2⟩

/-- While a hash is asked: its copy holds x. -/
structure SumSt (w : World) (x : List UInt8) (wr : World) : Prop where
  below : Below w.heap.size w wr
  res : wr.heap[w.heap.size]? = some (.cells (List.replicate 32 (Value.int .u8 0)).toArray 26 (0, 0))
  copy : HashAt wr (w.heap.size + 1) x x.length

theorem SumSt.size {w wr : World} {x : List UInt8} (h : SumSt w x wr) : w.heap.size + 2 ≤ wr.heap.size := h.copy.lt
theorem SumSt.later {w wr w' : World} {x : List UInt8} (h : SumSt w x wr) (hb : Below wr.heap.size wr w') : SumSt w x w' := by
  have hs := h.size
  exact ⟨h.below.trans (hb.mono (by omega)), (hb.block _ (by omega)).trans h.res, h.copy.below hb h.copy.lt⟩

theorem SumSt.write {w wr : World} {x : List UInt8} (h : SumSt w x wr) (hT : Tabs w) (l : List UInt8) (b n c : Nat) (hr : RdB wr (some ⟨b, 0, none⟩) l) (en : l.length = n) (hc : n ≤ c) (hb : b ≠ w.heap.size + 1) (hl : x.length + n ≤ 1000000000) :
    Calls Tryd.prog 28 #[.pointer (some ⟨w.heap.size + 1, 0, none⟩), .slice (some ⟨b, 0, none⟩) n c] wr fun e w' => e = .returned (.tuple #[]) ∧ SumSt w (x ++ l) w' := by
  have hs := h.size
  have hts := hT.size
  refine (hWrite (w.heap.size + 1) (some ⟨b, 0, none⟩) n c x l wr (hT.below h.below hts) (by omega) h.copy hr en hc (fun _ b' o' e => by cases e; exact hb) hl).mono fun e w' ⟨h1, h2, h3⟩ => ⟨h1, ?_⟩
  exact ⟨h.below.trans (h3.belowOf (by omega) (fun k e => by omega)), (h3.block _ (by omega) (by omega)).trans h.res, by rw [List.length_append, en]; exact h2⟩

theorem SumSt.set {w wr : World} {x : List UInt8} (h : SumSt w x wr) {z : Nat} (hz : w.heap.size + 2 ≤ z) (o : Nat) (u : Value) : SumSt w x (wr.setCell ⟨z, o, none⟩ u) := by
  obtain ⟨rest, h1, h2⟩ := h.copy.out
  exact ⟨h.below.setCell (by show _ ≤ z; omega) _, by rw [Below.heap_setCell _ _ _ _ (by show _ ≠ z; omega)]; exact h.res, ⟨rest, h1, by rw [Below.heap_setCell _ _ _ _ (by show _ ≠ z; omega)]; exact h2⟩⟩
theorem SumSt.drew {w wr : World} {x : List UInt8} (h : SumSt w x wr) : SumSt w x wr.drew := ⟨h.below.drew, h.res, ⟨h.copy.out⟩⟩
theorem HashAt.word {w : World} {g all : Nat} {m : List UInt8} (h : HashAt w g m all) (i : Nat) (hi : i < 8) : w.cell? ⟨g, i, none⟩ = some (.int .u32 (((wst m (m.length / 64))[i]?.getD 0).toNat : Int)) := by
  obtain ⟨rest, h1, h2⟩ := h.out
  rw [cell_of_row w g i _ _ _ h2, hcells_getState (wst_length _ _) _ _ i hi]

structure TailRel (w : World) (x : List UInt8) (v : Int) (z : Nat) (i : Value) (wr : World) : Prop where
  out : ∃ k : Nat, k ≤ 8 ∧ i = .int .i64 k ∧ SumSt w x wr ∧ wr.heap[z]? = some (.cells (numCells v k).toArray 110 (0, 0)) ∧ z < wr.heap.size ∧ w.heap.size + 2 ≤ z

structure OutRel (w : World) (x : List UInt8) (z : Nat) (i : Value) (wr : World) : Prop where
  out : ∃ k : Nat, k ≤ 32 ∧ i = .int .i64 k ∧ SumSt w x wr ∧ wr.heap[z]? = some (.cells (outCells (wst x (x.length / 64)) k).toArray 26 (0, 0)) ∧ z < wr.heap.size ∧ w.heap.size + 2 ≤ z

set_option maxHeartbeats 2000000 in
theorem hSum (g : Nat) (m : List UInt8) (w : World) (hT : Tabs w) (h : HashAt w g m m.length) (hb : m.length ≤ 500000000) :
    Calls Tryd.prog 30 #[.pointer (some ⟨g, 0, none⟩)] w fun e w' => e = .returned (.agg (bvs (wdig m)).toArray) ∧ Below w.heap.size w w' := by
  obtain ⟨cs, hcs, hgc⟩ : ∃ cs : List Value, cs.length = 74 ∧ w.heap[g]? = some (.cells cs.toArray 107 (0, 0)) := by
    obtain ⟨rest, h1, h2⟩ := h.out
    exact ⟨_, hcells_length (wst_length _ _) h1.len _ _, h2⟩
  have hgl := h.lt
  have hco : ∀ v ∈ cs, v.oneCell' = true := by
    obtain ⟨rest, h1, h2⟩ := h.out
    rw [hgc] at h2
    have e := congrArg (fun o : Obj => match o with | .cells c _ _ => c.toList | _ => []) (Option.some.inj h2)
    have e' : cs = hcells _ _ _ _ := e
    rw [e']
    exact hcells_oneCell _ _ _ _
  have hi74 : (Tryd.prog.info? 107).map (·.size) = some cs.length := by rw [hcs]; exact size74
  obtain ⟨iS, zS, hiS, hzS, hcS⟩ := fresh_parts zeroSum
  obtain ⟨zh, hzh, hzz⟩ := zeroHash
  obtain ⟨iH, zH, hiH, hzH, hcH⟩ := fresh_parts hzz
  have HIS := Lib.hid hiS; clear hiS
  have HZS := Lib.hid hzS; clear hzS
  have HCS := Lib.hid hcS; clear hcS
  have HIH := Lib.hid hiH; clear hiH
  have HZH := Lib.hid hzH; clear hzH
  have HCH := Lib.hid hcH; clear hcH hzz
  have HZHS := Lib.hid hzh; clear hzh
  have HCL := Lib.hid hcs; clear hcs
  have HGC := Lib.hid hgc; clear hgc
  have HCO := Lib.hid hco; clear hco
  have HI74 := Lib.hid hi74; clear hi74
  have HH := Lib.hid h; clear h
  have HT := Lib.hid hT; clear hT
  go_enter Tryd.func30, Tryd.ntmps30
  (repeat' ((fail_if_success at_builtin); first | (first | ((with_reducible refine wpList_alloc_fresh (w := w) rfl 26 rfl _ iS zS HIS.out HZS.out HCS.out ?_); intro w1 hg1 hB1 hs1; have HG1 := Lib.hid hg1; clear hg1; have HS1 := Lib.hid hs1; clear hs1; have hq1 := (hB1.block g hgl).trans HGC.out; have HA1 := Lib.hid (rangeAt_whole hq1); have HQ1 := Lib.hid hq1; clear hq1) | (with_reducible refine wpList_load_mid rfl 107 _ rfl g 0 rfl cs _ HA1.out Tryd.underlying107 rfl HI74.out ?_) | ((with_reducible refine wpList_alloc_fresh (w := w1) rfl 107 rfl zh iH zH HIH.out HZH.out HCH.out ?_); intro w2 hg2 hB2 hs2; rw [HS1.out] at hg2 hs2; have HG2 := Lib.hid hg2; clear hg2; have HS2 := Lib.hid hs2; clear hs2; try rw [HS1.out]) | ((with_reducible refine wpList_store_blk rfl 107 _ _ rfl (w.heap.size + 1) 0 cs rfl rfl _ _ HG2.out (by rw [HCL.out, HZHS.out]; exact Nat.le_refl _) HI74.out HCO.out ?_); intro w3 hg3 hG3; have HG3 := Lib.hid hg3; clear hg3)) | go_values | go_skip | go_guarded | go_step | go_upon))
  have hs3 : SumSt w m w3 := by
    have h1 := HS1.out
    have h2 := HS2.out
    have hb3 := HG3.out
    rw [splice_whole _ _ (by rw [HCL.out]; exact HZHS.out.symm)] at hb3
    refine ⟨(hB1.trans (hB2.mono (by omega))).grown hG3 (by omega) (fun k e => by cases e; omega), ?_, hash_copy HGC.out HH.out hb3⟩
    exact (hG3.block _ (by omega) (by simp)).trans ((hB2.block _ (by omega)).trans HG1.out)
  have hz3 := hs3.size
  have hts := HT.out.size
  have HS3 := Lib.hid hs3; clear hs3
  clear hB1 HG1 HA1 HQ1 HG2 HG3 hB2 hG3 HS1 HS2 HIH HZH HCH HZHS HCL HGC HCO HI74
  refine (SumSt.write (HS3.out.later ((Below.refl _ _).alloc (Nat.le_refl _) _)) HT.out [128] w3.heap.size 1 1 (rdb_new w3 [128] _) rfl (Nat.le_refl _) (by omega) (by omega)).mono ?_
  rintro _ w4 ⟨rfl, hs4⟩
  dsimp only
  have ch := hs4.copy.have_
  obtain ⟨r, hr⟩ : ∃ r, (m ++ [128]).length % 64 = r := ⟨_, rfl⟩
  rw [hr] at ch
  have hr64 : r < 64 := by omega
  have hrb : (0 : Int) ≤ (r : Int) ∧ (r : Int) < 64 := by omega
  have HS4 := Lib.hid hs4; clear hs4
  have HR := Lib.hid hr; clear hr
  by_cases h56 : 56 < r
  case' pos =>
    have hgt : decide ((56 : Int) < (r : Int)) = true := by simp; omega
    obtain ⟨z1, hz1⟩ : ∃ z1, z1 + r = 64 := ⟨64 - r, by omega⟩
    have hsub : (64 : Int) - (r : Int) = (z1 : Int) := by omega
    have hz1' : z1 = 64 - r := by omega
    have HZ1 := Lib.hid hz1; clear hz1
    have HZ1' := Lib.hid hz1'; clear hz1'
    (repeat' ((fail_if_success at_builtin); first | (((with_reducible refine wpList_make0 (w := w4) rfl _ _ 22 5 rfl Tryd.underlying22 u8Info z1 rfl rfl (by have := HZ1.out; omega) ?_); intro w5 hr5 hB5 hs5; have HR5 := Lib.hid hr5; clear hr5; have HS5 := Lib.hid hs5; clear hs5)) | go_values | go_skip | go_guarded | go_step | go_upon))
    refine (SumSt.write (HS4.out.later hB5) HT.out (List.replicate z1 0) w4.heap.size z1 z1 HR5.out (by simp) (Nat.le_refl _) (by have := HS4.out.size; omega) (by have := HZ1.out; simp; omega)).mono ?_
    rintro _ w6 ⟨rfl, hs6⟩
    dsimp only
    have hm0 : (((m ++ [128]) ++ List.replicate z1 (0 : UInt8)).length % 64) = 0 := by have h1 := HR.out; have h2 := HZ1.out; rw [List.length_append, List.length_replicate]; omega
    have ch6 : w6.cell? ⟨w.heap.size + 1, 72, none⟩ = some (.int .i64 0) := by rw [hs6.copy.have_, hm0]; rfl
    clear hm0
    have HS6 := Lib.hid hs6; clear hs6
    clear ch hgt hsub
    (repeat' ((fail_if_success at_builtin); first | (((with_reducible refine wpList_make0 (w := w6) rfl _ _ 22 5 rfl Tryd.underlying22 u8Info 56 rfl rfl (by omega) ?_); intro w7 hr7 hB7 hs7; have HR7 := Lib.hid hr7; clear hr7; have HS7 := Lib.hid hs7; clear hs7)) | go_values | go_skip | go_guarded | go_step | go_upon))
    refine (SumSt.write (HS6.out.later hB7) HT.out (List.replicate 56 0) w6.heap.size 56 56 HR7.out (by simp) (Nat.le_refl _) (by have := HS6.out.size; omega) (by have := HZ1.out; simp; omega)).mono ?_
    rintro _ wx ⟨rfl, hsx⟩
    dsimp only
    rw [HZ1'.out, ← HR.out, pad_two m (by rw [HR.out]; exact h56)] at hsx
    have HSX := Lib.hid hsx; clear hsx
  case' neg =>
    have hgt : decide ((56 : Int) < (r : Int)) = false := by simp; omega
    obtain ⟨z1, hz1⟩ : ∃ z1, z1 + r = 56 := ⟨56 - r, by omega⟩
    have hsub : (56 : Int) - (r : Int) = (z1 : Int) := by omega
    have hz1' : z1 = 56 - r := by omega
    have HZ1 := Lib.hid hz1; clear hz1
    have HZ1' := Lib.hid hz1'; clear hz1'
    (repeat' ((fail_if_success at_builtin); first | (((with_reducible refine wpList_make0 (w := w4) rfl _ _ 22 5 rfl Tryd.underlying22 u8Info z1 rfl rfl (by have := HZ1.out; omega) ?_); intro w5 hr5 hB5 hs5; have HR5 := Lib.hid hr5; clear hr5; have HS5 := Lib.hid hs5; clear hs5)) | go_values | go_skip | go_guarded | go_step | go_upon))
    refine (SumSt.write (HS4.out.later hB5) HT.out (List.replicate z1 0) w4.heap.size z1 z1 HR5.out (by simp) (Nat.le_refl _) (by have := HS4.out.size; omega) (by have := HZ1.out; simp; omega)).mono ?_
    rintro _ wx ⟨rfl, hsx⟩
    dsimp only
    rw [HZ1'.out, ← HR.out, pad_one m (by rw [HR.out]; omega)] at hsx
    have HSX := Lib.hid hsx; clear hsx
    clear ch hgt hsub
  all_goals
    obtain ⟨X, hX⟩ : ∃ X, (m ++ [128]) ++ List.replicate (wzeros m.length) 0 = X := ⟨_, rfl⟩
    have hsx := HSX.out
    rw [hX] at hsx
    have hXl : X.length ≤ 500000100 := by rw [← hX]; unfold wzeros; simp; omega
    have hzx := hsx.size
    have hpad : wpad m = X ++ be8 ((m.length : Int) * 8) := by unfold wpad; rw [hX]
    have HP := Lib.hid hpad; clear hpad
    have HSXX := Lib.hid hsx; clear hsx
    have HX := Lib.hid hX; clear hX
    obtain ⟨iT, zT, hiT, hzT, hcT⟩ := fresh_parts zeroTail
    have HIT := Lib.hid hiT; clear hiT
    have HZT := Lib.hid hzT; clear hzT
    have HCT := Lib.hid hcT; clear hcT
    (repeat' ((fail_if_success at_builtin); first | (((with_reducible refine wpList_alloc_fresh (w := wx) rfl 110 rfl _ iT zT HIT.out HZT.out HCT.out ?_); intro wt hgt hBt hst; have HGT := Lib.hid hgt; clear hgt; have HST := Lib.hid hst; clear hst)) | go_values | go_skip | go_guarded | go_step | go_upon))
    have hxt : SumSt w X wt := HSXX.out.later hBt
    have hlt : wx.heap.size < wt.heap.size := by have := HST.out; omega
    have HXT := Lib.hid hxt; clear hxt
    go_loopw [26] (fun i wr => TailRel w X ((m.length : Int) * 8) wx.heap.size i wr) (fun i _ => 8 - (intOf i).toNat)
    case atStart => exact ⟨⟨0, by omega, rfl, HXT.out, by rw [not_cells]; exact HGT.out, hlt, hzx⟩⟩
    case round =>
      obtain ⟨⟨k, hk, rfl, hs, hg, hl, _⟩⟩ := hrel
      have hlen : (numCells ((m.length : Int) * 8) k).length = 8 := by simp [numCells]
      by_cases hlt8 : k < 8
      · obtain ⟨old, hc1⟩ : ∃ u, wr.cell? ⟨wx.heap.size, 7 - k, none⟩ = some u := by
          rw [cell_of_row wr _ (7 - k) _ _ _ hg, List.getElem?_toArray, List.getElem?_eq_getElem (by omega)]
          exact ⟨_, rfl⟩
        have hf1 := frozen_of_row wr wx.heap.size (7 - k) _ _ hg
        have ca := (HH.out.below hs.below hgl).all_
        have HG := Lib.hid hg; clear hg
        have HS := Lib.hid hs; clear hs
        have HL := Lib.hid hlen; clear hlen
        (repeat' ((fail_if_success at_builtin); first | go_values | go_skip | go_guarded | go_step | go_upon))
        go_roundw
        case rel =>
          go_light
          refine ⟨⟨k + 1, by omega, by go_num, HS.out.set hzx _ _, ?_, by simp [World.setCell]; omega, hzx⟩⟩
          rw [row_set HG.out, List.setIfInBounds_toArray]
          exact congrArg (fun l : List Value => some (Obj.cells l.toArray _ _)) (numCells_step _ k hlt8)
        case measure => go_light; simp [intOf]; omega
      · have k8 : k = 8 := by omega
        rw [k8, numCells_all] at hg
        have hrt : RdB wr (some ⟨wx.heap.size, 0, none⟩) (be8 ((m.length : Int) * 8)) := rdc_row hg
        have hn8 : ¬ ((k : Int) < 8) := by omega
        have hn8' : decide ((k : Int) < 8) = false := by simp; omega
        have HRT := Lib.hid hrt; clear hrt
        have HS := Lib.hid hs; clear hs
        have HG := Lib.hid hg; clear hg
        clear hlen k8
        (repeat' ((fail_if_success at_builtin); first | go_values | go_skip | go_guarded | go_step | go_upon))
        refine (SumSt.write HS.out HT.out (be8 ((m.length : Int) * 8)) wx.heap.size 8 8 HRT.out rfl (Nat.le_refl _) (by omega) (by omega)).mono ?_
        rintro _ w9 ⟨rfl, hs9⟩
        dsimp only
        rw [← HP.out] at hs9
        have hz9 := hs9.size
        have HS9 := Lib.hid hs9; clear hs9
        (repeat' ((fail_if_success at_builtin); first | (((with_reducible refine wpList_alloc_fresh (w := w9) rfl 26 rfl _ iS zS HIS.out HZS.out HCS.out ?_); intro wo hgo hBo hso; have HGO := Lib.hid hgo; clear hgo; have HSO := Lib.hid hso; clear hso)) | go_values | go_skip | go_guarded | go_step | go_upon))
        have hxo : SumSt w (wpad m) wo := HS9.out.later hBo
        have hlo : w9.heap.size < wo.heap.size := by have := HSO.out; omega
        have HXO := Lib.hid hxo; clear hxo
        go_loopw [44] (fun i wr => OutRel w (wpad m) w9.heap.size i wr) (fun i _ => 32 - (intOf i).toNat)
        case atStart => exact ⟨⟨0, by omega, rfl, HXO.out, by rw [outCells_zero]; exact HGO.out, hlo, hz9⟩⟩
        case round =>
          clear HS HG HRT hk hl
          obtain ⟨⟨j, hj, rfl, hs, hg, hl, _⟩⟩ := hrel
          by_cases hlt32 : j < 32
          · obtain ⟨p, hp⟩ : ∃ p, j / 4 = p := ⟨_, rfl⟩
            obtain ⟨q, hq⟩ : ∃ q, j % 4 = q := ⟨_, rfl⟩
            obtain ⟨e, he⟩ : ∃ e, 24 - 8 * q = e := ⟨_, rfl⟩
            have hp' : (j : Int) / 4 = (p : Int) := by omega
            have hq' : (j : Int) % 4 = (q : Int) := by omega
            have he' : (24 : Int) - 8 * (q : Int) = (e : Int) := by omega
            have bp : (0 : Int) ≤ (p : Int) ∧ (p : Int) < 8 := by omega
            have bq : (0 : Int) ≤ (q : Int) ∧ (q : Int) < 4 := by omega
            have be : (0 : Int) ≤ (e : Int) ∧ (e : Int) ≤ 24 := by omega
            have bj : (0 : Int) ≤ (j : Int) ∧ (j : Int) < 32 := by omega
            have hw := hs.copy.word p (by omega)
            obtain ⟨x, hx⟩ : ∃ x, (wst (wpad m) ((wpad m).length / 64))[p]?.getD 0 = x := ⟨_, rfl⟩
            rw [hx] at hw
            have bx := x.toNat_lt
            have hstep := outCells_step (wst (wpad m) ((wpad m).length / 64)) j hlt32 x (by rw [hp]; exact hx) e (by rw [hq]; exact he)
            have hc1 : wr.cell? ⟨w9.heap.size, j, none⟩ = some (.int .u8 0) := by rw [cell_of_row wr _ j _ _ _ hg, outCells_get _ j hlt32]
            have hf1 := frozen_of_row wr w9.heap.size j _ _ hg
            have HG := Lib.hid hg; clear hg
            have HS := Lib.hid hs; clear hs
            have HX2 := Lib.hid hx; clear hx
            have HSTEP := Lib.hid hstep; clear hstep
            clear hp hq he
            (repeat' ((fail_if_success at_builtin); first | go_values | go_skip | go_guarded | go_step | go_upon))
            go_roundw
            case rel =>
              go_light
              refine ⟨⟨j + 1, by omega, by go_num, HS.out.set hz9 _ _, ?_, by simp [World.setCell]; omega, hz9⟩⟩
              rw [row_set HG.out, HSTEP.out]
            case measure => go_light; simp [intOf]; omega
          · have j32 : j = 32 := by omega
            rw [j32, outCells_all] at hg
            have hn32 : ¬ ((j : Int) < 32) := by omega
            have hn32' : decide ((j : Int) < 32) = false := by simp; omega
            obtain ⟨D, hD⟩ : ∃ D, wbytes (wst (wpad m) ((wpad m).length / 64)) = D := ⟨_, rfl⟩
            have hDl : (bvs D).length = 32 := by rw [bvs_length, ← hD, wbytes_length]
            rw [hD] at hg
            have hA := rangeAt_whole hg
            have hiD : (Tryd.prog.info? 26).map (·.size) = some (bvs D).length := by rw [hDl]; exact sizeSum
            have hfD : 0 + (bvs D).length ≤ (List.replicate 32 (Value.int .u8 0)).toArray.size := by rw [hDl]; simp
            have HA := Lib.hid hA; clear hA
            have HID := Lib.hid hiD; clear hiD
            have HFD := Lib.hid hfD; clear hfD
            have HDO := Lib.hid (bvs_oneCell D)
            have HDL := Lib.hid hDl; clear hDl
            have HD := Lib.hid hD; clear hD
            have HG := Lib.hid hg; clear hg
            have HRES := Lib.hid hs.res
            have hbel := hs.below
            clear j32 hs
            (repeat' ((fail_if_success at_builtin); first | (first | (with_reducible refine wpList_load_mid rfl 26 _ rfl w9.heap.size 0 rfl (bvs D) _ HA.out Tryd.underlying26 rfl HID.out ?_) | ((with_reducible refine wpList_store_blk rfl 26 _ _ rfl w.heap.size 0 (bvs D) rfl rfl _ _ HRES.out HFD.out HID.out HDO.out ?_); intro wz hgz hGz; have HGZ := Lib.hid hgz; clear hgz)) | go_values | go_skip | go_guarded | go_step | go_upon))
            have hgz := HGZ.out
            rw [splice_whole _ _ (by rw [HDL.out]; simp)] at hgz
            have hR := run_loadVar_mid (P := Tryd.prog) wz w.heap.size 0 26 (bvs D) _ (rangeAt_whole hgz) Tryd.underlying26 rfl HID.out
            have HR2 := Lib.hid hR; clear hR
            clear hgz
            exact bodyPost_ret (results_cell rfl _ _ _ ⟨w.heap.size, 0, none⟩ rfl _ HR2.out) rfl ⟨by unfold wdig wfin; rw [HD.out], hbel.grown hGz hbel.size (fun k e => by cases e; exact Nat.le_refl _)⟩

end Go.Proofs.YtdpfemhfmofmlaaDoor
