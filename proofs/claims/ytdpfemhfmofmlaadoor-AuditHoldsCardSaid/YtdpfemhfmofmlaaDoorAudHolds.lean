/- The law AuditHolds, walked. -/
import Derived.Test.YtdpfemhfmofmlaaDoorHolds21
namespace Go.Proofs.YtdpfemhfmofmlaaDoor
set_option linter.unusedSimpArgs false
set_option linter.unusedVariables false
open Go.RowKit
set_option maxRecDepth 10000
--@PUT2

set_option maxHeartbeats 16000000 in
theorem auditHolds_walk (a : Option Addr) (n c : Nat) (xs : List Ent) (cut : Int) (w : World) (hT : Tabs w) (hr : RdC w a (xs.flatMap Ent.cells)) (hok : ∀ x ∈ xs, x.Ok) (en : xs.length = n) (hn : n ≤ maxLen) (hcut : I64 cut) :
    Calls Tryd.prog 17 #[.slice a n c, .int .i64 cut] w fun e w' => e = .returned (.bool true) ∧ Below w.heap.size w w' := by
  have hts := hT.size
  have HT := Lib.hid hT; clear hT
  have hn9 : (n : Int) ≤ 9223372036854775807 := by unfold maxLen at hn; omega
  subst en
  have hsum : ∀ x ∈ xs, x.sum.length = 32 := fun x hx => (hok x hx).sum
  have HR := Lib.hid hr; clear hr
  have HOK := Lib.hid hok; clear hok
  have HSUM := Lib.hid hsum; clear hsum
  obtain ⟨iE, zE, hiE, hzE, hsE, hbE, hcE⟩ := entInfo_parts
  have HIE := Lib.hid hiE; clear hiE
  have HZE := Lib.hid hzE; clear hzE
  have HCE := Lib.hid hcE; clear hcE
  obtain ⟨iS, zS, hiS, hzS, hcS⟩ := fresh_parts zeroSum
  have HIS := Lib.hid hiS; clear hiS
  have HZS := Lib.hid hzS; clear hzS
  have HCS := Lib.hid hcS; clear hcS
  clear hsE hbE
  have hu73 : Tryd.prog.underlying 73 = some _ := Tryd.underlying73
  have hu26 : Tryd.prog.underlying 26 = some _ := Tryd.underlying26
  go_enter Tryd.func17, Tryd.ntmps17
  (repeat' ((fail_if_success at_builtin); first | go_values | go_skip | go_guarded | go_step | go_upon))
  refine (big21 a xs.length c xs w HR.out HSUM.out rfl).mono ?_
  rintro _ w0 ⟨rfl, hB0⟩
  dsimp only
  obtain ⟨tb, htb⟩ : ∃ tb, decide (100 < xs.length ∨ ∃ x ∈ xs, x.big) = tb := ⟨_, rfl⟩
  rw [htb]
  cases tb
  rotate_left 1
  · (repeat' ((fail_if_success at_builtin); first | go_values | go_skip | go_guarded | go_step | go_upon))
    refine (works21 w0 (HT.out.below hB0 hts)).mono ?_
    rintro _ w1 ⟨rfl, hB1⟩
    dsimp only
    (repeat' ((fail_if_success at_builtin); first | go_values | go_skip | go_guarded | go_step | go_upon))
    go_ret
    exact ⟨rfl, hB0.trans (hB1.mono hB0.size)⟩
  have hb := of_decide_eq_false htb
  clear htb
  have hlen : xs.length ≤ 100 := by
    rcases Nat.lt_or_ge 100 xs.length with h | h
    · exact absurd (Or.inl h) hb
    · exact h
  have hfit : ∀ x ∈ xs, x.Fit := fun x hx => fit_of_small (HOK.out x hx) (fun h => hb (Or.inr ⟨x, hx, h⟩))
  have HFIT := Lib.hid hfit; clear hfit
  have HT0 := Lib.hid (HT.out.below hB0 hts)
  have hts0 := HT0.out.size
  have HR0 := Lib.hid (HR.out.below hB0 (Nat.le_refl _))
  clear hb HR
  (repeat' ((fail_if_success at_builtin); first | go_values | go_skip | go_guarded | go_step | go_upon))
  refine (oneNew w0).mono ?_
  rintro _ w1 ⟨g, rfl, hL⟩
  dsimp only
  have HL := Lib.hid (hL annBA); clear hL
  (repeat' ((fail_if_success at_builtin); first | go_values | go_skip | go_guarded | go_step | go_upon))
  go_loopw [6] (fun i wr => ∃ k : Nat, k ≤ xs.length ∧ i = .int .i64 k ∧ OneLog w0 g annBA (xs.take k) wr) (fun i _ => xs.length - (intOf i).toNat)
  case atStart => exact ⟨0, by omega, rfl, HL.out⟩
  case round =>
    obtain ⟨k, hk, rfl, hL⟩ := hrel
    have HL := Lib.hid hL; clear hL
    by_cases hlt : k < xs.length
    · have hBr : Below w0.heap.size w0 wr := by obtain ⟨S, f, h1, h2, h3, h4⟩ := HL.out.out; exact h4
      obtain ⟨b, off, hba, hra⟩ := ents_at (HR0.out.below hBr (Nat.le_refl _)) HSUM.out k hlt
      have HX := Lib.hid (List.getElem_mem hlt)
      have HSN := Lib.hid (show xs.take (k + 1) = xs.take k ++ [xs[k]] from List.take_succ_eq_append_getElem hlt)
      have HTK := Lib.hid (show (xs.take k).length ≤ 100000 by rw [List.length_take]; omega)
      generalize xs[k] = x at *
      have HRA := Lib.hid hra; clear hra
      have HIX := Lib.hid (show (Tryd.prog.info? 73).map (·.size) = some x.cells.length by rw [Ent.cells_length (HSUM.out x HX.out)]; exact entSize)
      have bk : (0 : Int) ≤ (k : Int) ∧ (k : Int) < (xs.length : Int) := by omega
      subst hba
      (repeat' ((fail_if_success at_builtin); first | ((with_reducible refine wpList_load_mid rfl 73 _ rfl b (off + k * 39) rfl x.cells _ HRA.out hu73 rfl HIX.out ?_)) | go_values | go_skip | go_guarded | go_step | go_upon))
      refine (oneAdd w0 g annBA (xs.take k) x wr HL.out HT0.out annBA_le HTK.out (HFIT.out x HX.out)).mono ?_
      rintro _ w2 ⟨⟨v, rfl⟩, hL2⟩
      dsimp only
      rw [← HSN.out] at hL2
      have HL2 := Lib.hid hL2; clear hL2
      (repeat' ((fail_if_success at_builtin); first | go_values | go_skip | go_guarded | go_step | go_upon))
      go_roundw
      case rel => exact ⟨k + 1, by omega, by go_num, HL2.out⟩
      case measure => simp [intOf]; omega
    obtain rfl : k = xs.length := by omega
    have hL := HL.out
    rw [List.take_length] at hL
    obtain ⟨S, f, h1, h2, h3, hBr⟩ := hL.out
    obtain ⟨rs, hrs⟩ : ∃ rs, addAll xs = rs := ⟨_, rfl⟩
    have hrl : rs.length = xs.length := by rw [← hrs, addAll_length]
    rw [hrs] at h2
    have hrfit : ∀ x ∈ rs, x.Fit := fun x hx => h1.rows annBA x (by rw [h2]; exact hx)
    have hfacts : ∀ k (hk : k < xs.length) (hk' : k < rs.length), ({ xs[k] with no := (k : Int) + 1, sum := (rs[k]).sum } : Ent) = rs[k] ∧ wdig (rs[k].bytes (headOf (rs.take k))) = (rs[k]).sum ∧ headOf (rs.take (k + 1)) = (rs[k]).sum := by
      subst hrs; exact fun k hk hk' => row_facts xs k hk hk'
    have hvy : ∀ K, K ≤ xs.length → verify (rs.take K) (headOf (rs.take K)) = (0, 0) := by subst hrs; exact fun K hK => verify_yes xs K hK
    have hvn : ∀ K, K ≤ xs.length → ∀ H, headOf (rs.take K) ≠ H → verify (rs.take K) H = (K + 1, 24) := by subst hrs; exact fun K hK H hH => verify_no xs K hK H hH
    have hrsum : ∀ x ∈ rs, x.sum.length = 32 := fun x hx => (hrfit x hx).ok.sum
    have HLOG := Lib.hid h1
    have HF2 := Lib.hid h2
    have HRFIT := Lib.hid hrfit
    have HFACTS := Lib.hid hfacts
    have HVY := Lib.hid hvy
    have HVN := Lib.hid hvn
    have HRSUM := Lib.hid hrsum
    have HRL := Lib.hid hrl
    clear h1 h2 h3 hrfit hfacts hvy hvn hrsum hrs hL HL
    (repeat' ((fail_if_success at_builtin); first | go_values | go_skip | go_guarded | go_step | go_upon))
    refine (all21 S g xs.length f annBA wr HLOG.out annBA_le (by omega)).mono ?_
    rw [HF2.out]
    rintro _ w3 ⟨a3, c3, rfl, hc3, hm3, hr3, hB3, _⟩
    dsimp only
    rw [hrl] at hc3 ⊢
    have HR3 := Lib.hid hr3; clear hr3
    have tn : ((xs.length : Int) != (xs.length : Int)) = false := by simp
    (repeat' ((fail_if_success at_builtin); first | go_values | go_skip | go_guarded | go_step | go_upon))
    have hcn := auditCount S g xs.length f annBA w3 (HLOG.out.below hB3) annBA_le (by omega)
    rw [HF2.out, hrl] at hcn
    refine hcn.mono ?_
    rintro _ w3' ⟨rfl, rfl⟩
    dsimp only
    clear hcn
    have hB03 : Below w0.heap.size w0 w3 := hBr.trans (hB3.mono hBr.size)
    have ez : (#[.int .u8 0, .int .u8 0, .int .u8 0, .int .u8 0, .int .u8 0, .int .u8 0, .int .u8 0, .int .u8 0, .int .u8 0, .int .u8 0, .int .u8 0, .int .u8 0, .int .u8 0, .int .u8 0, .int .u8 0, .int .u8 0, .int .u8 0, .int .u8 0, .int .u8 0, .int .u8 0, .int .u8 0, .int .u8 0, .int .u8 0, .int .u8 0, .int .u8 0, .int .u8 0, .int .u8 0, .int .u8 0, .int .u8 0, .int .u8 0, .int .u8 0, .int .u8 0] : Array Value) = (bvs zeros32).toArray := rfl
    have hzl : (bvs zeros32).length = 32 := rfl
    have HEZ := Lib.hid ez
    have HIZ := Lib.hid (show (Tryd.prog.info? 26).map (·.size) = some (bvs zeros32).length by rw [hzl]; exact sizeSum)
    have HFZ := Lib.hid (show 0 + (bvs zeros32).length ≤ (List.replicate 32 (Value.int .u8 0)).toArray.size by rw [hzl]; simp)
    have HOZ := Lib.hid (bvs_oneCell zeros32)
    have HLZ := Lib.hid (show (bvs zeros32).length = (List.replicate 32 (Value.int .u8 0)).toArray.toList.length by rw [hzl]; simp)
    clear ez hzl
    (repeat' ((fail_if_success at_builtin); first | (first | ((with_reducible refine wpList_alloc_fresh (w := w3) rfl 26 rfl _ iS zS HIS.out HZS.out HCS.out ?_); rw [HEZ.out]; intro w4 hg4 hB4 hs4; have HG4 := Lib.hid hg4; clear hg4; have HS4 := Lib.hid hs4; clear hs4) | ((with_reducible refine wpList_store_blk rfl 26 _ _ rfl w3.heap.size 0 (bvs zeros32) rfl rfl _ _ HG4.out HFZ.out HIZ.out HOZ.out ?_); intro w5 hg5 hG5; rw [splice_whole _ _ HLZ.out] at hg5; have HG5 := Lib.hid hg5; clear hg5 HG4)) | go_values | go_skip | go_guarded | go_step | go_upon))
    obtain ⟨z8, hz8⟩ : ∃ z8, w3.heap.size = z8 := ⟨_, rfl⟩
    have hs35 : w3.heap.size < w5.heap.size := by have := hG5.size; have := HS4.out; omega
    have hB35 : Below w3.heap.size w3 w5 := hB4.grown hG5 (by rw [HS4.out]; omega) (fun j e => by cases e; exact Nat.le_refl _)
    have hI : HolI w3 z8 (headOf (rs.take 0)) w5 := ⟨by rw [← hz8]; exact HG5.out, by rw [← hz8]; exact hB35⟩
    have HI := Lib.hid hI
    clear hI hG5 HS4 hB4 HG5 hB35
    rw [hz8] at hs35 ⊢
    have HZ8 := Lib.hid hz8
    clear hz8
    go_loopw [9] (fun i wr => ∃ k : Nat, k ≤ xs.length ∧ i = .int .i64 k ∧ HolI w3 z8 (headOf (rs.take k)) wr) (fun i _ => xs.length - (intOf i).toNat)
    case atStart => exact ⟨0, by omega, rfl, HI.out⟩
    case round =>
      rename_i wr0 wr
      obtain ⟨k, hk, rfl, hI⟩ := hrel
      have hc8 := hI.cell
      have hBI : Below w3.heap.size w3 wr := by rw [HZ8.out]; exact hI.blw
      have hzlt := (Array.getElem?_eq_some_iff.1 hc8).1
      have hB0r : Below w0.heap.size w0 wr := hB03.trans (hBI.mono hB03.size)
      clear HI hI
      by_cases hlt : k < xs.length
      · have hlt3 : k < rs.length := by rw [HRL.out]; exact hlt
        obtain ⟨b, off, hba, hra⟩ := ents_at (HR0.out.below hB0r (Nat.le_refl _)) HSUM.out k hlt
        obtain ⟨b3, o3, hba3, hra3⟩ := ents_at (HR3.out.below hBI (Nat.le_refl _)) HRSUM.out k hlt3
        obtain ⟨hf1, hf2, hf3⟩ := HFACTS.out k hlt hlt3
        have hrm : rs[k] ∈ rs := List.getElem_mem hlt3
        have HXF := Lib.hid (HFIT.out _ (List.getElem_mem hlt))
        obtain ⟨P, hP⟩ : ∃ P, headOf (rs.take k) = P := ⟨_, rfl⟩
        have hPl : P.length = 32 := by rw [← hP]; exact headOf_length _ (fun x hx => (HRFIT.out x (List.mem_of_mem_take hx)).ok)
        rw [hP] at hc8 hf2
        have HRF := Lib.hid (HRFIT.out _ hrm)
        have HHD := Lib.hid hf3
        generalize rs[k] = R at *
        generalize xs[k] = x at *
        have HRA := Lib.hid hra; clear hra
        have HR3A := Lib.hid hra3; clear hra3
        have HF1 := Lib.hid hf1
        have HFN := Lib.hid hf2
        have HC8 := Lib.hid hc8
        have HPL := Lib.hid hPl
        have hxl : x.cells.length = 39 := Ent.cells_length HXF.out.ok.sum
        have HIX := Lib.hid (show (Tryd.prog.info? 73).map (·.size) = some x.cells.length by rw [hxl]; exact entSize)
        have HFX := Lib.hid (show 0 + x.cells.length ≤ zEnt.cells.toArray.size by rw [hxl]; exact Nat.le_refl _)
        have HOX := Lib.hid x.cells_oneCell
        have HLX := Lib.hid (show x.cells.length = zEnt.cells.toArray.toList.length by rw [hxl]; rfl)
        have hRl : R.sum.length = 32 := HRF.out.ok.sum
        have HIS2 := Lib.hid (show (Tryd.prog.info? 26).map (·.size) = some (bvs R.sum).length by rw [bvs_length, hRl]; exact sizeSum)
        have HIR2 := Lib.hid (show (Tryd.prog.info? 73).map (·.size) = some R.cells.length by rw [Ent.cells_length hRl]; exact entSize)
        have HIP2 := Lib.hid (show (Tryd.prog.info? 26).map (·.size) = some (bvs P).length by rw [bvs_length, hPl]; exact sizeSum)
        have HFS := Lib.hid (show 7 + (bvs R.sum).length ≤ ({ x with no := (k : Int) + 1 } : Ent).cells.toArray.size by rw [List.size_toArray, Ent.cells_length (show ({ x with no := (k : Int) + 1 } : Ent).sum.length = 32 from HXF.out.ok.sum), bvs_length, hRl]; omega)
        have HFP := Lib.hid (show 0 + (bvs R.sum).length ≤ (bvs P).toArray.size by rw [List.size_toArray, bvs_length, bvs_length, hRl, hPl]; omega)
        have HLP := Lib.hid (show (bvs R.sum).length = (bvs P).toArray.toList.length by rw [List.toList_toArray, bvs_length, bvs_length, hRl, hPl])
        have HOS := Lib.hid (bvs_oneCell R.sum)
        have HSPL := Lib.hid (show splice ({ x with no := (k : Int) + 1 } : Ent).cells 7 (bvs R.sum) = R.cells by
          rw [ent_set_sum _ R.sum (show ({ x with no := (k : Int) + 1 } : Ent).sum.length = 32 from HXF.out.ok.sum) hRl]; exact congrArg Ent.cells HF1.out)
        have HRLN := Lib.hid hRl
        have bk : (0 : Int) ≤ (k : Int) ∧ (k : Int) < (xs.length : Int) := by omega
        clear hf1 hf2 hf3 hrm hPl hRl hxl hc8 hlt3
        subst hba hba3
        (repeat' ((fail_if_success at_builtin); (fail_if_success (show wpList _ _ _ ({ dst := some 57, op := _, type := _, pos := _, after := _, guard := _ } :: _) _ _)); first | (first | (with_reducible refine wpList_load_mid rfl 73 _ rfl b (off + k * 39) rfl x.cells _ HRA.out hu73 rfl HIX.out ?_) | ((with_reducible refine wpList_alloc_fresh (w := wr) rfl 73 rfl _ iE zE HIE.out HZE.out HCE.out ?_); intro w6 hg6 hB6 hs6; have HG6 := Lib.hid hg6; clear hg6; have HS6 := Lib.hid hs6; clear hs6) | ((with_reducible refine wpList_store_blk rfl 73 _ _ rfl wr.heap.size 0 x.cells rfl rfl _ _ HG6.out HFX.out HIX.out HOX.out ?_); intro w7 hg7 hG7; rw [splice_whole _ _ HLX.out] at hg7; have HG7 := Lib.hid hg7; clear hg7 HG6)) | go_values | go_skip | go_guarded | go_step | go_upon))
        obtain ⟨z, hz⟩ : ∃ z, wr.heap.size = z := ⟨_, rfl⟩
        have hB7 : Below wr.heap.size wr w7 := hB6.grown hG7 (by rw [HS6.out]; omega) (fun j e => by cases e; exact Nat.le_refl _)
        have hz7 : z < w7.heap.size := by have := hG7.size; have := HS6.out; omega
        have hg7 := HG7.out
        rw [hz] at hg7 ⊢
        have c0 : w7.cell? ⟨z, 0, none⟩ = some (.int .i64 x.no) := cell_of_row w7 z 0 _ _ _ hg7
        have f0 := frozen_of_row w7 z 0 _ _ hg7
        have HG8 := Lib.hid hg7
        have HZ := Lib.hid hz
        clear HG7 hG7 HS6 hB6 hg7 hz
        (repeat' ((fail_if_success at_builtin); (fail_if_success (show wpList _ _ _ ({ dst := some 60, op := _, type := _, pos := _, after := _, guard := _ } :: _) _ _)); first | (fail) | go_values | go_skip | go_guarded | go_step | go_upon))
        obtain ⟨w8, hw8⟩ : ∃ w8, w7.setCell ⟨z, 0, none⟩ (.int .i64 ((k : Int) + 1)) = w8 := ⟨_, rfl⟩
        rw [hw8]
        have hg8 : w8.heap[z]? = some (.cells ({ x with no := (k : Int) + 1 } : Ent).cells.toArray 73 (0, 0)) := by
          rw [← hw8, row_set HG8.out, List.setIfInBounds_toArray]; rfl
        have hB8 : Below wr.heap.size wr w8 := by rw [← hw8]; exact hB7.setCell (by rw [HZ.out]; exact Nat.le_refl _) _
        have hz8' : z < w8.heap.size := by rw [← hw8]; simpa [World.setCell] using hz7
        have HW8 := Lib.hid hg8
        have hr3s := ent_sum (rangeAt_below HR3A.out hB8 (Nat.le_refl _))
        have HR3S := Lib.hid hr3s
        clear c0 f0 HG8 hw8 hB7 hz7 hg8 hr3s
        (repeat' ((fail_if_success at_builtin); first | (first | (with_reducible refine wpList_load_mid rfl 26 _ rfl b3 (o3 + k * 39 + 7) rfl (bvs R.sum) _ HR3S.out hu26 rfl HIS2.out ?_) | ((with_reducible refine wpList_store_blk rfl 26 _ _ rfl z 7 (bvs R.sum) rfl rfl _ _ HW8.out HFS.out HIS2.out HOS.out ?_); intro w9 hg9 hG9; rw [List.toList_toArray, HSPL.out] at hg9; have HG9 := Lib.hid hg9; clear hg9)) | go_values | go_skip | go_guarded | go_step | go_upon))
        have hB9 : Below wr.heap.size wr w9 := hB8.grown hG9 (by have := hB8.size; exact this) (fun j e => by cases e; rw [HZ.out]; exact Nat.le_refl _)
        have hz9 : z < w9.heap.size := by have := hG9.size; omega
        have hzz : z8 < z := by rw [← HZ.out]; exact hzlt
        have hrz := rangeAt_whole HG9.out
        have hrzs := ent_sum hrz
        rw [Nat.zero_add] at hrzs
        have hg98 := (hB9.block z8 hzlt).trans HC8.out
        have hr8 := rangeAt_whole hg98
        have HG98 := Lib.hid hg98
        have hS0 : HolS w9 b3 (o3 + k * 39) z z8 R P w9.drew := holS_below (w1 := w9) ⟨⟨rangeAt_below HR3A.out hB9 (Nat.le_refl _), hrz, hr8, hrzs⟩, Below.refl _ _⟩ (Below.refl _ _).drew
        have hB09 : Below w0.heap.size w0 w9 := hB0r.trans (hB9.mono hB0r.size)
        have hneqE := fun w => neqEnt w R R HRLN.out HRLN.out
        rw [decide_eq_true (rfl : R = R)] at hneqE
        have hneqS := fun w => neqSum w R.sum R.sum HRLN.out HRLN.out
        rw [decide_eq_true (rfl : R.sum = R.sum)] at hneqS
        have hiR := HIR2.out
        have hiS := HIS2.out
        have hiP := HIP2.out
        have hTb : ∀ wx, Below w9.heap.size w9 wx → Tabs wx := fun wx h => HT0.out.below (hB09.trans (h.mono hB09.size)) hts0
        clear hrz hrzs hg98 hr8 hG9 HW8 HR3S
        refine wp_region_noPanic ?_
        refine wp_region_held_drew (S := HolS w9 b3 (o3 + k * 39) z z8 R P) (by kernel_rfl) ?_ (fun hHeld => ?_)
        · (exact hS0)
        refine wpAnyH_take (i := 0) (oi := _) (v := ?_) rfl (by kernel_rfl) (by kernel_rfl) (by kernel_rfl) (fun _ _ _ h => h) (Or.inl ⟨by rfl, ?_⟩) (by assumption) ?_
        rotate_left 1
        · (intro w hSw; (try dsimp only at hSw); go_simp; all_goals (with_reducible rfl))
        try simp only [Act.put, List.getElem_toArray, List.getElem_cons_zero, List.getElem_cons_succ, List.setIfInBounds_toArray, List.set_cons_zero, List.set_cons_succ]
        refine wpAnyH_take (i := 1) (oi := _) (v := ?_) rfl (by kernel_rfl) (by kernel_rfl) (by kernel_rfl) (fun _ _ _ h => h) (Or.inl ⟨by rfl, ?_⟩) (by assumption) ?_
        rotate_left 1
        · (intro w hSw; (try dsimp only at hSw); go_simp; all_goals (with_reducible rfl))
        try simp only [Act.put, List.getElem_toArray, List.getElem_cons_zero, List.getElem_cons_succ, List.setIfInBounds_toArray, List.set_cons_zero, List.set_cons_succ]
        refine wpAnyH_take (i := 2) (oi := _) (v := ?_) rfl (by kernel_rfl) (by kernel_rfl) (by kernel_rfl) (fun _ _ _ h => h) (Or.inl ⟨by rfl, ?_⟩) (by assumption) ?_
        rotate_left 1
        · (intro w hSw; (try dsimp only at hSw); go_simp; all_goals (with_reducible rfl))
        try simp only [Act.put, List.getElem_toArray, List.getElem_cons_zero, List.getElem_cons_succ, List.setIfInBounds_toArray, List.set_cons_zero, List.set_cons_succ]
        refine' wpAnyH_take (i := 3) (oi := _) (v := _) rfl (by kernel_rfl) (by kernel_rfl) (by kernel_rfl) (fun _ _ _ h => h) (yieldsIf_load_mid (by rfl) _ _ rfl _ _ rfl _ _ ?ls1 ?lu1 ?ld1 ?li1) (by assumption) ?lr1
        case ls1 => (intro w hSw; (try dsimp only at hSw); go_split_ands; assumption)
        case lu1 => assumption
        case ld1 => rfl
        case li1 => first | assumption | (simp only [*]; done)
        try simp only [Act.put, List.getElem_toArray, List.getElem_cons_zero, List.getElem_cons_succ, List.setIfInBounds_toArray, List.set_cons_zero, List.set_cons_succ]
        refine' wpAnyH_take (i := 4) (oi := _) (v := _) rfl (by kernel_rfl) (by kernel_rfl) (by kernel_rfl) (fun _ _ _ h => h) (yieldsIf_load_mid (by rfl) _ _ rfl _ _ rfl _ _ ?ls2 ?lu2 ?ld2 ?li2) (by assumption) ?lr2
        case ls2 => (intro w hSw; (try dsimp only at hSw); go_split_ands; assumption)
        case lu2 => assumption
        case ld2 => rfl
        case li2 => first | assumption | (simp only [*]; done)
        try simp only [Act.put, List.getElem_toArray, List.getElem_cons_zero, List.getElem_cons_succ, List.setIfInBounds_toArray, List.set_cons_zero, List.set_cons_succ]
        refine wpAnyH_take (i := 5) (oi := _) (v := ?_) rfl (by kernel_rfl) (by kernel_rfl) (by kernel_rfl) (fun _ _ _ h => h) (Or.inl ⟨by rfl, ?_⟩) (by assumption) ?_
        rotate_left 1
        · (intro w hSw; (try dsimp only at hSw); go_simp; all_goals (with_reducible rfl))
        try simp only [Act.put, List.getElem_toArray, List.getElem_cons_zero, List.getElem_cons_succ, List.setIfInBounds_toArray, List.set_cons_zero, List.set_cons_succ]
        refine wpAnyH_take (i := 6) (oi := _) (v := ?_) rfl (by kernel_rfl) (by kernel_rfl) (by kernel_rfl) (fun _ _ _ h => h) (Or.inl ⟨by rfl, ?_⟩) (by assumption) ?_
        rotate_left 1
        · (intro w hSw; (try dsimp only at hSw); go_simp; all_goals (with_reducible rfl))
        try simp only [Act.put, List.getElem_toArray, List.getElem_cons_zero, List.getElem_cons_succ, List.setIfInBounds_toArray, List.set_cons_zero, List.set_cons_succ]
        refine' wpAnyH_take (i := 7) (oi := _) (v := _) rfl (by kernel_rfl) (by kernel_rfl) (by kernel_rfl) (fun _ _ _ h => h) (yieldsIf_load_mid (by rfl) _ _ rfl _ _ rfl _ _ ?ls3 ?lu3 ?ld3 ?li3) (by assumption) ?lr3
        case ls3 => (intro w hSw; (try dsimp only at hSw); go_split_ands; assumption)
        case lu3 => assumption
        case ld3 => rfl
        case li3 => first | assumption | (simp only [*]; done)
        try simp only [Act.put, List.getElem_toArray, List.getElem_cons_zero, List.getElem_cons_succ, List.setIfInBounds_toArray, List.set_cons_zero, List.set_cons_succ]
        refine' wpAnyH_take (i := 8) (oi := _) (v := _) rfl (by kernel_rfl) (by kernel_rfl) (by kernel_rfl) (fun _ _ _ h => h) (yieldsIf_load_mid (by rfl) _ _ rfl _ _ rfl _ _ ?ls4 ?lu4 ?ld4 ?li4) (by assumption) ?lr4
        case ls4 => (intro w hSw; (try dsimp only at hSw); go_split_ands; assumption)
        case lu4 => assumption
        case ld4 => rfl
        case li4 => first | assumption | (simp only [*]; done)
        try simp only [Act.put, List.getElem_toArray, List.getElem_cons_zero, List.getElem_cons_succ, List.setIfInBounds_toArray, List.set_cons_zero, List.set_cons_succ]
        refine wpAnyH_take (i := 10) (oi := _) (v := ?_) rfl (by kernel_rfl) (by kernel_rfl) (by kernel_rfl) (fun _ _ _ h => h) (Or.inl ⟨by rfl, ?_⟩) (by assumption) ?_
        rotate_left 1
        · (intro w hSw; (try dsimp only at hSw); go_simp; all_goals (with_reducible rfl))
        try simp only [Act.put, List.getElem_toArray, List.getElem_cons_zero, List.getElem_cons_succ, List.setIfInBounds_toArray, List.set_cons_zero, List.set_cons_succ]
        refine' wpAnyH_take (i := 11) (oi := _) (v := _) rfl (by kernel_rfl) (by kernel_rfl) (by kernel_rfl) (fun _ _ _ h => h) (yieldsIf_load_mid (by rfl) _ _ rfl _ _ rfl _ _ ?ls5 ?lu5 ?ld5 ?li5) (by assumption) ?lr5
        case ls5 => (intro w hSw; (try dsimp only at hSw); go_split_ands; assumption)
        case lu5 => assumption
        case ld5 => rfl
        case li5 => first | assumption | (simp only [*]; done)
        try simp only [Act.put, List.getElem_toArray, List.getElem_cons_zero, List.getElem_cons_succ, List.setIfInBounds_toArray, List.set_cons_zero, List.set_cons_succ]
        refine wpAnyH_ready (rs := [9]) (by kernel_rfl) (by simp) ?_
        refine AllReadyH.cons (o := _) rfl (fun K hK => ?_) ?_
        rotate_left 1
        · exact AllReadyH.nil
        go_simp
        go_at_call 61
        refine (auditNext P R.sum R _ HFN.out (hTb _ hHeld.2) HPL.out HRF.out.ok HRF.out.str HRF.out.sub).mono ?_
        rintro _ wA ⟨rfl, hBA⟩
        dsimp only
        refine hK.out _ _ ?_ (fun hHeld => ?_)
        · (apply holS_below; assumption; assumption)
        clear hK K
        try simp only [Act.put, List.getElem_toArray, List.getElem_cons_zero, List.getElem_cons_succ, List.setIfInBounds_toArray, List.set_cons_zero, List.set_cons_succ]
        refine wpAnyH_take (i := 12) (oi := _) (v := ?_) rfl (by kernel_rfl) (by kernel_rfl) (by kernel_rfl) (fun _ _ _ h => h) (Or.inl ⟨by rfl, ?_⟩) (by assumption) ?_
        rotate_left 1
        · (intro w hSw; (try dsimp only at hSw); go_simp; all_goals (with_reducible rfl))
        try simp only [Act.put, List.getElem_toArray, List.getElem_cons_zero, List.getElem_cons_succ, List.setIfInBounds_toArray, List.set_cons_zero, List.set_cons_succ]
        refine wpAnyH_take (i := 13) (oi := _) (v := ?_) rfl (by kernel_rfl) (by kernel_rfl) (by kernel_rfl) (fun _ _ _ h => h) (Or.inl ⟨by rfl, ?_⟩) (by assumption) ?_
        rotate_left 1
        · (intro w hSw; (try dsimp only at hSw); go_simp; all_goals (with_reducible rfl))
        try simp only [Act.put, List.getElem_toArray, List.getElem_cons_zero, List.getElem_cons_succ, List.setIfInBounds_toArray, List.set_cons_zero, List.set_cons_succ]
        refine wpAnyH_take (i := 14) (oi := _) (v := ?_) rfl (by kernel_rfl) (by kernel_rfl) (by kernel_rfl) (fun _ _ _ h => h) (Or.inl ⟨by rfl, ?_⟩) (by assumption) ?_
        rotate_left 1
        · (intro w hSw; (try dsimp only at hSw); go_simp; all_goals (with_reducible rfl))
        try simp only [Act.put, List.getElem_toArray, List.getElem_cons_zero, List.getElem_cons_succ, List.setIfInBounds_toArray, List.set_cons_zero, List.set_cons_succ]
        refine wpAnyH_take (i := 15) (oi := _) (v := ?_) rfl (by kernel_rfl) (by kernel_rfl) (by kernel_rfl) (fun _ _ _ h => h) (Or.inl ⟨by rfl, ?_⟩) (by assumption) ?_
        rotate_left 1
        · (intro w hSw; (try dsimp only at hSw); go_simp; all_goals (with_reducible rfl))
        try simp only [Act.put, List.getElem_toArray, List.getElem_cons_zero, List.getElem_cons_succ, List.setIfInBounds_toArray, List.set_cons_zero, List.set_cons_succ]
        refine' wpAnyH_take (i := 16) (oi := _) (v := _) rfl (by kernel_rfl) (by kernel_rfl) (by kernel_rfl) (fun _ _ _ h => h) (yieldsIf_load_mid (by rfl) _ _ rfl _ _ rfl _ _ ?ls6 ?lu6 ?ld6 ?li6) (by assumption) ?lr6
        case ls6 => (intro w hSw; (try dsimp only at hSw); go_split_ands; assumption)
        case lu6 => assumption
        case ld6 => rfl
        case li6 => first | assumption | (simp only [*]; done)
        try simp only [Act.put, List.getElem_toArray, List.getElem_cons_zero, List.getElem_cons_succ, List.setIfInBounds_toArray, List.set_cons_zero, List.set_cons_succ]
        refine' wpAnyH_take (i := 17) (oi := _) (v := _) rfl (by kernel_rfl) (by kernel_rfl) (by kernel_rfl) (fun _ _ _ h => h) (yieldsIf_load_mid (by rfl) _ _ rfl _ _ rfl _ _ ?ls7 ?lu7 ?ld7 ?li7) (by assumption) ?lr7
        case ls7 => (intro w hSw; (try dsimp only at hSw); go_split_ands; assumption)
        case lu7 => assumption
        case ld7 => rfl
        case li7 => first | assumption | (simp only [*]; done)
        try simp only [Act.put, List.getElem_toArray, List.getElem_cons_zero, List.getElem_cons_succ, List.setIfInBounds_toArray, List.set_cons_zero, List.set_cons_succ]
        refine' wpAnyH_take (i := 18) (oi := _) (v := _) rfl (by kernel_rfl) (by kernel_rfl) (by kernel_rfl) (fun _ _ _ h => h) (yieldsIf_load_mid (by rfl) _ _ rfl _ _ rfl _ _ ?ls8 ?lu8 ?ld8 ?li8) (by assumption) ?lr8
        case ls8 => (intro w hSw; (try dsimp only at hSw); go_split_ands; assumption)
        case lu8 => assumption
        case ld8 => rfl
        case li8 => first | assumption | (simp only [*]; done)
        try simp only [Act.put, List.getElem_toArray, List.getElem_cons_zero, List.getElem_cons_succ, List.setIfInBounds_toArray, List.set_cons_zero, List.set_cons_succ]
        refine wpAnyH_ready (rs := [19]) (by kernel_rfl) (by simp) ?_
        refine AllReadyH.cons (o := _) rfl (fun K hK => ?_) ?_
        rotate_left 1
        · exact AllReadyH.nil
        go_simp
        go_at_call 81
        refine (of21 P R _ HPL.out HRF.out.ok HRF.out.str HRF.out.sub).mono ?_
        rintro _ wB ⟨aB, cB, rfl, hcB, hrB, hBB, _⟩
        dsimp only
        refine hK.out _ _ ?_ (fun hHeld => ?_)
        · (apply holS_below; assumption; assumption)
        clear hK K
        try simp only [Act.put, List.getElem_toArray, List.getElem_cons_zero, List.getElem_cons_succ, List.setIfInBounds_toArray, List.set_cons_zero, List.set_cons_succ]
        refine wpAnyH_ready (rs := [20]) (by kernel_rfl) (by simp) ?_
        refine AllReadyH.cons (o := _) rfl (fun K hK => ?_) ?_
        rotate_left 1
        · exact AllReadyH.nil
        go_simp
        go_at_call 24
        refine (shaSumOf aB _ cB (R.bytes P) R.sum _ HFN.out (hTb _ hHeld.2) hrB (by rw [Ent.bytes_length, HPL.out]) hcB (by have := HRF.out.str;have := HRF.out.sub;omega)).mono ?_
        rintro _ wC ⟨rfl, hBC⟩
        dsimp only
        refine hK.out _ _ ?_ (fun hHeld => ?_)
        · (apply holS_below; assumption; assumption)
        clear hK K
        try simp only [Act.put, List.getElem_toArray, List.getElem_cons_zero, List.getElem_cons_succ, List.setIfInBounds_toArray, List.set_cons_zero, List.set_cons_succ]
        refine wpAnyH_take (i := 21) (oi := _) (v := ?_) rfl (by kernel_rfl) (by kernel_rfl) (by kernel_rfl) (fun _ _ _ h => h) (Or.inl ⟨by rfl, ?_⟩) (by assumption) ?_
        rotate_left 1
        · (intro w hSw; (try dsimp only at hSw); go_simp; all_goals (with_reducible rfl))
        try simp only [Act.put, List.getElem_toArray, List.getElem_cons_zero, List.getElem_cons_succ, List.setIfInBounds_toArray, List.set_cons_zero, List.set_cons_succ]
        refine wpAnyH_take (i := 22) (oi := _) (v := ?_) rfl (by kernel_rfl) (by kernel_rfl) (by kernel_rfl) (fun _ _ _ h => h) (Or.inl ⟨by rfl, ?_⟩) (by assumption) ?_
        rotate_left 1
        · (intro w hSw; (try dsimp only at hSw); go_simp; all_goals (with_reducible rfl))
        try simp only [Act.put, List.getElem_toArray, List.getElem_cons_zero, List.getElem_cons_succ, List.setIfInBounds_toArray, List.set_cons_zero, List.set_cons_succ]
        refine wpAnyH_done (by kernel_rfl) ?_ _
        refine NoPanic.normal ?_
        have hB9C := hHeld.2
        have hBrC : Below wr.heap.size wr wC := hB9.trans (hB9C.mono hB9.size)
        have hc8C := (hBrC.block z8 hzlt).trans HC8.out
        have HC8C := Lib.hid hc8C
        have HRZS := Lib.hid hHeld.1.2.2.2
        clear hHeld hS0 hneqE hneqS hiR hiS hiP hTb hBA hBB hBC hrB hc8C
        (repeat' ((fail_if_success at_builtin); first | (first | (with_reducible refine wpList_load_mid rfl 26 _ rfl z 7 rfl (bvs R.sum) _ HRZS.out hu26 rfl HIS2.out ?_) | ((with_reducible refine wpList_store_blk rfl 26 _ _ rfl z8 0 (bvs R.sum) rfl rfl _ _ HC8C.out HFP.out HIS2.out HOS.out ?_); intro wD hgD hGD; rw [splice_whole _ _ HLP.out] at hgD; have HGD := Lib.hid hgD; clear hgD)) | go_values | go_skip | go_guarded | go_step | go_upon))
        have hN : HolI w3 z8 (headOf (rs.take (k + 1))) wD := ⟨by rw [HHD.out]; exact HGD.out, by rw [← HZ8.out]; exact (hBI.trans (hBrC.mono hBI.size)).grown hGD (by have := hBI.size; have := hBrC.size; omega) (fun j e => by cases e; rw [HZ8.out]; exact Nat.le_refl _)⟩
        have HN := Lib.hid hN
        clear hN hGD HGD HC8C HRZS
        (repeat' ((fail_if_success at_builtin); first | go_values | go_skip | go_guarded | go_step | go_upon))
        go_roundw
        case rel => exact ⟨k + 1, by omega, by go_num, HN.out⟩
        case measure => simp [intOf]; omega
      · obtain rfl : k = xs.length := by omega
        obtain ⟨P, hP⟩ : ∃ P, headOf (rs.take xs.length) = P := ⟨_, rfl⟩
        have htk : rs.take xs.length = rs := by rw [← HRL.out, List.take_length]
        have hPl : P.length = 32 := by rw [← hP]; exact headOf_length _ (fun x hx => (HRFIT.out x (List.mem_of_mem_take hx)).ok)
        have hvP := HVY.out xs.length (Nat.le_refl _)
        rw [hP, htk] at hvP
        rw [hP] at hc8
        have HHP := Lib.hid (show headOf (f annBA) = P by rw [HF2.out, ← hP, htk])
        have HC8 := Lib.hid hc8
        have HPL := Lib.hid hPl
        have HVP := Lib.hid hvP
        have hLr := HLOG.out.below (hB3.trans (hBI.mono hB3.size))
        have HLR := Lib.hid hLr
        have b1 := pick_lt cut ((xs.length : Int) + 1) (by omega)
        obtain ⟨p1, hp1⟩ : ∃ p, pick cut ((xs.length : Int) + 1) = p := ⟨_, rfl⟩
        rw [hp1] at b1
        obtain ⟨M, hM⟩ : ∃ M : Nat, p1 = (M : Int) := ⟨p1.toNat, by omega⟩
        subst hM
        have HP1 := Lib.hid hp1
        have hMn : M ≤ xs.length := by omega
        clear hc8 hPl hvP hP htk hLr hp1
        (repeat' ((fail_if_success at_builtin); first | go_values | go_skip | go_guarded | go_step | go_upon))
        refine (auditHead S g xs.length f annBA P wr HLR.out annBA_le (by omega) HHP.out).mono ?_
        rintro _ wA ⟨rfl, hBA⟩
        dsimp only
        have hB3A : Below w3.heap.size w3 wA := hBI.trans (hBA.mono hBI.size)
        have hB0A : Below w0.heap.size w0 wA := hB03.trans (hB3A.mono hB03.size)
        (repeat' ((fail_if_success at_builtin); first | go_values | go_skip | go_guarded | go_step | go_upon))
        refine (auditVerify a3 xs.length c3 rs P 0 0 wA HVP.out (HT0.out.below hB0A hts0) (HR3.out.below hB3A (Nat.le_refl _)) (fun x hx => ⟨(HRFIT.out x hx).ok, (HRFIT.out x hx).str, (HRFIT.out x hx).sub⟩) HRL.out (by omega) (by omega) HPL.out).mono ?_
        rintro _ wB ⟨rfl, hBB⟩
        dsimp only
        have hBrB : Below wr.heap.size wr wB := hBA.trans (hBB.mono hBA.size)
        (repeat' ((fail_if_success at_builtin); first | go_values | go_skip | go_guarded | go_step | go_upon))
        refine (pickAny cut ((xs.length : Int) + 1) wB hcut (by omega)).mono ?_
        rintro _ wB' ⟨rfl, rfl⟩
        dsimp only
        rw [HP1.out]
        (repeat' ((fail_if_success at_builtin); (fail_if_success (show wpList _ _ _ ({ dst := some 104, op := _, type := _, pos := _, after := _, guard := _ } :: _) _ _)); first | (first | ((with_reducible refine wpList_alloc_fresh (w := wB) rfl 26 rfl _ iS zS HIS.out HZS.out HCS.out ?_); rw [HEZ.out]; intro wC hgC hBC hsC; have HGC := Lib.hid hgC; clear hgC; have HSC := Lib.hid hsC; clear hsC) | ((with_reducible refine wpList_store_blk rfl 26 _ _ rfl wB.heap.size 0 (bvs zeros32) rfl rfl _ _ HGC.out HFZ.out HIZ.out HOZ.out ?_); intro wD hgD hGD; rw [splice_whole _ _ HLZ.out] at hgD; have HGD := Lib.hid hgD; clear hgD HGC)) | go_values | go_skip | go_guarded | go_step | go_upon))
        obtain ⟨z13, hz13e⟩ : ∃ z, wB.heap.size = z := ⟨_, rfl⟩
        have hz13D : z13 < wD.heap.size := by have := hGD.size; have := HSC.out; omega
        have hBBD : Below wB.heap.size wB wD := hBC.grown hGD (by rw [HSC.out]; omega) (fun j e => by cases e; exact Nat.le_refl _)
        have hBrD : Below wr.heap.size wr wD := hBrB.trans (hBBD.mono hBrB.size)
        have hz13l : w3.heap.size ≤ z13 := by have := hBI.size; have := hBrB.size; omega
        have hz13r : wr.heap.size ≤ z13 := by have := hBrB.size; omega
        have hgD := HGD.out
        rw [hz13e] at hgD ⊢
        have HGD2 := Lib.hid hgD
        clear HGD hgD hGD HSC hBC hBBD hz13e hBA hBB hBrB hB3A hB0A HVP HLR
        by_cases hM0 : 0 < M
        · obtain ⟨j, hj⟩ : ∃ j, M = j + 1 := ⟨M - 1, by omega⟩
          have hj3 : j < rs.length := by rw [HRL.out]; omega
          have hBD3 : Below w3.heap.size w3 wD := hBI.trans (hBrD.mono hBI.size)
          obtain ⟨b3, o3, hba3, hra3⟩ := ents_at (HR3.out.below hBD3 (Nat.le_refl _)) HRSUM.out j hj3
          have hsm := ent_sum hra3
          have hq : headOf (rs.take M) = rs[j].sum := by rw [hj, List.take_succ_eq_append_getElem hj3, headOf_snoc]
          have hql : (rs[j].sum).length = 32 := HRSUM.out _ (List.getElem_mem hj3)
          obtain ⟨Q, hQ⟩ : ∃ Q, (rs[j].sum) = Q := ⟨_, rfl⟩
          rw [hQ] at hq hql hsm
          have HQ := Lib.hid hq
          have HQL := Lib.hid hql
          have HSM := Lib.hid hsm
          have HIQ := Lib.hid (show (Tryd.prog.info? 26).map (·.size) = some (bvs Q).length by rw [bvs_length, hql]; exact sizeSum)
          have HFQ := Lib.hid (show 0 + (bvs Q).length ≤ (bvs zeros32).toArray.size by rw [List.size_toArray, bvs_length, bvs_length, hql]; exact Nat.le_refl _)
          have HLQ := Lib.hid (show (bvs Q).length = (bvs zeros32).toArray.toList.length by rw [List.toList_toArray, bvs_length, bvs_length, hql]; rfl)
          have HOQ := Lib.hid (bvs_oneCell Q)
          have hj1 : ((M : Int) - 1) = (j : Int) := by omega
          have bj : (0 : Int) ≤ (j : Int) ∧ (j : Int) < (xs.length : Int) := by omega
          clear hra3 hsm hq hql hQ hj3 hj
          have hba0 := hba3
          rw [hba3]
          (repeat' ((fail_if_success at_builtin); first | (first | (with_reducible refine wpList_load_mid rfl 26 _ rfl b3 (o3 + j * 39 + 7) rfl (bvs Q) _ HSM.out hu26 rfl HIQ.out ?_) | ((with_reducible refine wpList_store_blk rfl 26 _ _ rfl z13 0 (bvs Q) rfl rfl _ _ HGD2.out HFQ.out HIQ.out HOQ.out ?_); intro wH hgH hGH; rw [splice_whole _ _ HLQ.out] at hgH; have HG13 := Lib.hid hgH; clear hgH)) | go_values | go_skip | go_guarded | go_step | go_upon))
          have hBH : Below wr.heap.size wr wH := hBrD.grown hGH hBrD.size (fun j e => by cases e; exact hz13r)
          have hz13 : z13 < wH.heap.size := by have := hGH.size; omega
          rw [← hba0]
          clear hba3 hba0 hGH hBD3 HGD2 HSM
          clear hj1 bj
          have hBH3 : Below w3.heap.size w3 wH := hBI.trans (hBH.mono hBI.size)
          have hBH0 : Below w0.heap.size w0 wH := hB03.trans (hBH3.mono hB03.size)
          have hTb : ∀ wx, Below wH.heap.size wH wx → Tabs wx := fun wx h => HT0.out.below (hBH0.trans (h.mono hBH0.size)) hts0
          have HTB := Lib.hid hTb
          have HP8 := Lib.hid ((hBH.block z8 hzlt).trans HC8.out)
          have hz8H : z8 < wH.heap.size := Nat.lt_of_lt_of_le hzlt hBH.size
          have hRM : ∀ wx, Below wH.heap.size wH wx → RdC wx a3 ((rs.take M).flatMap Ent.cells) := fun wx h => by
            rw [ents_take rs M HRSUM.out]
            exact rdc_take (HR3.out.below (hBH3.trans (h.mono hBH3.size)) (Nat.le_refl _)) _
          have HRM := Lib.hid hRM
          have hML : (rs.take M).length = M := by rw [List.length_take, HRL.out]; omega
          have HML := Lib.hid hML
          have hFM : ∀ x ∈ rs.take M, x.Ok ∧ x.stream.size ≤ 4096 ∧ x.subject.size ≤ 4096 := fun x hx => ⟨(HRFIT.out x (List.mem_of_mem_take hx)).ok, (HRFIT.out x (List.mem_of_mem_take hx)).str, (HRFIT.out x (List.mem_of_mem_take hx)).sub⟩
          have HFM := Lib.hid hFM
          have hsl := fun w => run_slice_toS (P := Tryd.prog) 68 73 39 Tryd.underlying68 entSize a3 xs.length c3 M (by omega) w
          have hvQ := HVY.out M (by omega)
          rw [HQ.out] at hvQ
          have HVQ := Lib.hid hvQ
          have hiQ : (Tryd.prog.info? 26).map (·.size) = some (bvs Q).length := by rw [bvs_length, HQL.out]; exact sizeSum
          have hS0 : Hol2 wH z13 Q wH.drew := ⟨rangeAt_whole (w := wH.drew) HG13.out, (Below.refl _ _).drew⟩
          clear hTb hRM hML hFM hvQ
          refine wp_region_noPanic ?_
          refine wp_region_held_drew (S := Hol2 wH z13 Q) (by kernel_rfl) ?_ (fun hHeld => ?_)
          · (exact hS0)
          refine wpAnyH_take (i := 0) (oi := _) (v := ?_) rfl (by kernel_rfl) (by kernel_rfl) (by kernel_rfl) (fun _ _ _ h => h) (Or.inl ⟨by rfl, ?_⟩) (by assumption) ?_
          rotate_left 1
          · (intro w hSw; (try dsimp only at hSw); go_simp; all_goals (with_reducible rfl))
          try simp only [Act.put, List.getElem_toArray, List.getElem_cons_zero, List.getElem_cons_succ, List.setIfInBounds_toArray, List.set_cons_zero, List.set_cons_succ]
          refine wpAnyH_take (i := 1) (oi := _) (v := ?_) rfl (by kernel_rfl) (by kernel_rfl) (by kernel_rfl) (fun _ _ _ h => h) (Or.inl ⟨by rfl, ?_⟩) (by assumption) ?_
          rotate_left 1
          · (intro w hSw; (try dsimp only at hSw); go_simp; all_goals (with_reducible rfl))
          try simp only [Act.put, List.getElem_toArray, List.getElem_cons_zero, List.getElem_cons_succ, List.setIfInBounds_toArray, List.set_cons_zero, List.set_cons_succ]
          refine wpAnyH_take (i := 2) (oi := _) (v := ?_) rfl (by kernel_rfl) (by kernel_rfl) (by kernel_rfl) (fun _ _ _ h => h) (Or.inl ⟨by rfl, ?_⟩) (by assumption) ?_
          rotate_left 1
          · (intro w hSw; (try dsimp only at hSw); go_simp; all_goals (with_reducible rfl))
          try simp only [Act.put, List.getElem_toArray, List.getElem_cons_zero, List.getElem_cons_succ, List.setIfInBounds_toArray, List.set_cons_zero, List.set_cons_succ]
          refine' wpAnyH_take (i := 3) (oi := _) (v := _) rfl (by kernel_rfl) (by kernel_rfl) (by kernel_rfl) (fun _ _ _ h => h) (yieldsIf_load_mid (by rfl) _ _ rfl _ _ rfl _ _ ?ls9 ?lu9 ?ld9 ?li9) (by assumption) ?lr9
          case ls9 => (intro w hSw; (try dsimp only at hSw); go_split_ands; assumption)
          case lu9 => assumption
          case ld9 => rfl
          case li9 => first | assumption | (simp only [*]; done)
          try simp only [Act.put, List.getElem_toArray, List.getElem_cons_zero, List.getElem_cons_succ, List.setIfInBounds_toArray, List.set_cons_zero, List.set_cons_succ]
          refine wpAnyH_ready (rs := [4]) (by kernel_rfl) (by simp) ?_
          refine AllReadyH.cons (o := _) rfl (fun K hK => ?_) ?_
          rotate_left 1
          · exact AllReadyH.nil
          go_simp
          go_at_call 68
          refine (auditVerify a3 M c3 (rs.take M) Q 0 0 _ HVQ.out (HTB.out _ hHeld.2) (HRM.out _ hHeld.2) HFM.out HML.out (by omega) (by omega) HQL.out).mono ?_
          rintro _ wI ⟨rfl, hBI2⟩
          dsimp only
          refine hK.out _ _ ?_ (fun hHeld => ?_)
          · (apply hol2_below; assumption; assumption)
          clear hK K
          try simp only [Act.put, List.getElem_toArray, List.getElem_cons_zero, List.getElem_cons_succ, List.setIfInBounds_toArray, List.set_cons_zero, List.set_cons_succ]
          refine wpAnyH_take (i := 5) (oi := _) (v := ?_) rfl (by kernel_rfl) (by kernel_rfl) (by kernel_rfl) (fun _ _ _ h => h) (Or.inl ⟨by rfl, ?_⟩) (by assumption) ?_
          rotate_left 1
          · (intro w hSw; (try dsimp only at hSw); go_simp; all_goals (with_reducible rfl))
          try simp only [Act.put, List.getElem_toArray, List.getElem_cons_zero, List.getElem_cons_succ, List.setIfInBounds_toArray, List.set_cons_zero, List.set_cons_succ]
          refine wpAnyH_take (i := 6) (oi := _) (v := ?_) rfl (by kernel_rfl) (by kernel_rfl) (by kernel_rfl) (fun _ _ _ h => h) (Or.inl ⟨by rfl, ?_⟩) (by assumption) ?_
          rotate_left 1
          · (intro w hSw; (try dsimp only at hSw); go_simp; all_goals (with_reducible rfl))
          try simp only [Act.put, List.getElem_toArray, List.getElem_cons_zero, List.getElem_cons_succ, List.setIfInBounds_toArray, List.set_cons_zero, List.set_cons_succ]
          refine wpAnyH_take (i := 7) (oi := _) (v := ?_) rfl (by kernel_rfl) (by kernel_rfl) (by kernel_rfl) (fun _ _ _ h => h) (Or.inl ⟨by rfl, ?_⟩) (by assumption) ?_
          rotate_left 1
          · (intro w hSw; (try dsimp only at hSw); go_simp; all_goals (with_reducible rfl))
          try simp only [Act.put, List.getElem_toArray, List.getElem_cons_zero, List.getElem_cons_succ, List.setIfInBounds_toArray, List.set_cons_zero, List.set_cons_succ]
          refine wpAnyH_take (i := 8) (oi := _) (v := ?_) rfl (by kernel_rfl) (by kernel_rfl) (by kernel_rfl) (fun _ _ _ h => h) (Or.inl ⟨by rfl, ?_⟩) (by assumption) ?_
          rotate_left 1
          · (intro w hSw; (try dsimp only at hSw); go_simp; all_goals (with_reducible rfl))
          try simp only [Act.put, List.getElem_toArray, List.getElem_cons_zero, List.getElem_cons_succ, List.setIfInBounds_toArray, List.set_cons_zero, List.set_cons_succ]
          refine wpAnyH_take (i := 9) (oi := _) (v := ?_) rfl (by kernel_rfl) (by kernel_rfl) (by kernel_rfl) (fun _ _ _ h => h) (Or.inl ⟨by rfl, ?_⟩) (by assumption) ?_
          rotate_left 1
          · (intro w hSw; (try dsimp only at hSw); go_simp; all_goals (with_reducible rfl))
          try simp only [Act.put, List.getElem_toArray, List.getElem_cons_zero, List.getElem_cons_succ, List.setIfInBounds_toArray, List.set_cons_zero, List.set_cons_succ]
          refine wpAnyH_done (by kernel_rfl) ?_ _
          refine NoPanic.normal ?_
          have hHI := hHeld.2
          have HGI := Lib.hid ((hHI.block z13 hz13).trans HG13.out)
          have HP8I := Lib.hid ((hHI.block z8 hz8H).trans HP8.out)
          clear hHeld hS0 hBI2
          have hiP : (Tryd.prog.info? 26).map (·.size) = some (bvs P).length := by rw [bvs_length, HPL.out]; exact sizeSum
          have hneqP := fun w => neqSum w P P HPL.out HPL.out
          rw [decide_eq_true (rfl : P = P)] at hneqP
          have hSP : Hol2 wI z8 P wI.drew := ⟨rangeAt_whole (w := wI.drew) HP8I.out, (Below.refl _ _).drew⟩
          have hLI := HLOG.out.below (hB3.trans ((hBH3.trans (hHI.mono hBH3.size)).mono hB3.size))
          have HLI := Lib.hid hLI
          clear hLI
          (repeat' ((fail_if_success at_builtin); first | go_values | go_skip | go_guarded | go_step | go_upon))
          refine wp_region_noPanic ?_
          refine wp_region_held_drew (S := Hol2 wI z8 P) (by kernel_rfl) ?_ (fun hHeld => ?_)
          · (exact hSP)
          refine wpAnyH_take (i := 0) (oi := _) (v := ?_) rfl (by kernel_rfl) (by kernel_rfl) (by kernel_rfl) (fun _ _ _ h => h) (Or.inl ⟨by rfl, ?_⟩) (by assumption) ?_
          rotate_left 1
          · (intro w hSw; (try dsimp only at hSw); go_simp; all_goals (with_reducible rfl))
          try simp only [Act.put, List.getElem_toArray, List.getElem_cons_zero, List.getElem_cons_succ, List.setIfInBounds_toArray, List.set_cons_zero, List.set_cons_succ]
          refine wpAnyH_take (i := 1) (oi := _) (v := ?_) rfl (by kernel_rfl) (by kernel_rfl) (by kernel_rfl) (fun _ _ _ h => h) (Or.inl ⟨by rfl, ?_⟩) (by assumption) ?_
          rotate_left 1
          · (intro w hSw; (try dsimp only at hSw); go_simp; all_goals (with_reducible rfl))
          try simp only [Act.put, List.getElem_toArray, List.getElem_cons_zero, List.getElem_cons_succ, List.setIfInBounds_toArray, List.set_cons_zero, List.set_cons_succ]
          refine wpAnyH_take (i := 2) (oi := _) (v := ?_) rfl (by kernel_rfl) (by kernel_rfl) (by kernel_rfl) (fun _ _ _ h => h) (Or.inl ⟨by rfl, ?_⟩) (by assumption) ?_
          rotate_left 1
          · (intro w hSw; (try dsimp only at hSw); go_simp; all_goals (with_reducible rfl))
          try simp only [Act.put, List.getElem_toArray, List.getElem_cons_zero, List.getElem_cons_succ, List.setIfInBounds_toArray, List.set_cons_zero, List.set_cons_succ]
          refine wpAnyH_take (i := 3) (oi := _) (v := ?_) rfl (by kernel_rfl) (by kernel_rfl) (by kernel_rfl) (fun _ _ _ h => h) (Or.inl ⟨by rfl, ?_⟩) (by assumption) ?_
          rotate_left 1
          · (intro w hSw; (try dsimp only at hSw); go_simp; all_goals (with_reducible rfl))
          try simp only [Act.put, List.getElem_toArray, List.getElem_cons_zero, List.getElem_cons_succ, List.setIfInBounds_toArray, List.set_cons_zero, List.set_cons_succ]
          refine wpAnyH_take (i := 4) (oi := _) (v := ?_) rfl (by kernel_rfl) (by kernel_rfl) (by kernel_rfl) (fun _ _ _ h => h) (Or.inl ⟨by rfl, ?_⟩) (by assumption) ?_
          rotate_left 1
          · (intro w hSw; (try dsimp only at hSw); go_simp; all_goals (with_reducible rfl))
          try simp only [Act.put, List.getElem_toArray, List.getElem_cons_zero, List.getElem_cons_succ, List.setIfInBounds_toArray, List.set_cons_zero, List.set_cons_succ]
          refine wpAnyH_take (i := 5) (oi := _) (v := ?_) rfl (by kernel_rfl) (by kernel_rfl) (by kernel_rfl) (fun _ _ _ h => h) (Or.inl ⟨by rfl, ?_⟩) (by assumption) ?_
          rotate_left 1
          · (intro w hSw; (try dsimp only at hSw); go_simp; all_goals (with_reducible rfl))
          try simp only [Act.put, List.getElem_toArray, List.getElem_cons_zero, List.getElem_cons_succ, List.setIfInBounds_toArray, List.set_cons_zero, List.set_cons_succ]
          refine wpAnyH_take (i := 6) (oi := _) (v := ?_) rfl (by kernel_rfl) (by kernel_rfl) (by kernel_rfl) (fun _ _ _ h => h) (Or.inl ⟨by rfl, ?_⟩) (by assumption) ?_
          rotate_left 1
          · (intro w hSw; (try dsimp only at hSw); go_simp; all_goals (with_reducible rfl))
          try simp only [Act.put, List.getElem_toArray, List.getElem_cons_zero, List.getElem_cons_succ, List.setIfInBounds_toArray, List.set_cons_zero, List.set_cons_succ]
          refine wpAnyH_take (i := 7) (oi := _) (v := ?_) rfl (by kernel_rfl) (by kernel_rfl) (by kernel_rfl) (fun _ _ _ h => h) (Or.inl ⟨by rfl, ?_⟩) (by assumption) ?_
          rotate_left 1
          · (intro w hSw; (try dsimp only at hSw); go_simp; all_goals (with_reducible rfl))
          try simp only [Act.put, List.getElem_toArray, List.getElem_cons_zero, List.getElem_cons_succ, List.setIfInBounds_toArray, List.set_cons_zero, List.set_cons_succ]
          refine wpAnyH_take (i := 8) (oi := _) (v := ?_) rfl (by kernel_rfl) (by kernel_rfl) (by kernel_rfl) (fun _ _ _ h => h) (Or.inl ⟨by rfl, ?_⟩) (by assumption) ?_
          rotate_left 1
          · (intro w hSw; (try dsimp only at hSw); go_simp; all_goals (with_reducible rfl))
          try simp only [Act.put, List.getElem_toArray, List.getElem_cons_zero, List.getElem_cons_succ, List.setIfInBounds_toArray, List.set_cons_zero, List.set_cons_succ]
          refine wpAnyH_take (i := 9) (oi := _) (v := ?_) rfl (by kernel_rfl) (by kernel_rfl) (by kernel_rfl) (fun _ _ _ h => h) (Or.inl ⟨by rfl, ?_⟩) (by assumption) ?_
          rotate_left 1
          · (intro w hSw; (try dsimp only at hSw); go_simp; all_goals (with_reducible rfl))
          try simp only [Act.put, List.getElem_toArray, List.getElem_cons_zero, List.getElem_cons_succ, List.setIfInBounds_toArray, List.set_cons_zero, List.set_cons_succ]
          refine wpAnyH_take (i := 10) (oi := _) (v := ?_) rfl (by kernel_rfl) (by kernel_rfl) (by kernel_rfl) (fun _ _ _ h => h) (Or.inl ⟨by rfl, ?_⟩) (by assumption) ?_
          rotate_left 1
          · (intro w hSw; (try dsimp only at hSw); go_simp; all_goals (with_reducible rfl))
          try simp only [Act.put, List.getElem_toArray, List.getElem_cons_zero, List.getElem_cons_succ, List.setIfInBounds_toArray, List.set_cons_zero, List.set_cons_succ]
          refine wpAnyH_take (i := 11) (oi := _) (v := ?_) rfl (by kernel_rfl) (by kernel_rfl) (by kernel_rfl) (fun _ _ _ h => h) (Or.inl ⟨by rfl, ?_⟩) (by assumption) ?_
          rotate_left 1
          · (intro w hSw; (try dsimp only at hSw); go_simp; all_goals (with_reducible rfl))
          try simp only [Act.put, List.getElem_toArray, List.getElem_cons_zero, List.getElem_cons_succ, List.setIfInBounds_toArray, List.set_cons_zero, List.set_cons_succ]
          refine wpAnyH_take (i := 12) (oi := _) (v := ?_) rfl (by kernel_rfl) (by kernel_rfl) (by kernel_rfl) (fun _ _ _ h => h) (Or.inl ⟨by rfl, ?_⟩) (by assumption) ?_
          rotate_left 1
          · (intro w hSw; (try dsimp only at hSw); go_simp; all_goals (with_reducible rfl))
          try simp only [Act.put, List.getElem_toArray, List.getElem_cons_zero, List.getElem_cons_succ, List.setIfInBounds_toArray, List.set_cons_zero, List.set_cons_succ]
          refine wpAnyH_take (i := 13) (oi := _) (v := ?_) rfl (by kernel_rfl) (by kernel_rfl) (by kernel_rfl) (fun _ _ _ h => h) (Or.inl ⟨by rfl, ?_⟩) (by assumption) ?_
          rotate_left 1
          · (intro w hSw; (try dsimp only at hSw); go_simp; all_goals (with_reducible rfl))
          try simp only [Act.put, List.getElem_toArray, List.getElem_cons_zero, List.getElem_cons_succ, List.setIfInBounds_toArray, List.set_cons_zero, List.set_cons_succ]
          refine wpAnyH_take (i := 14) (oi := _) (v := ?_) rfl (by kernel_rfl) (by kernel_rfl) (by kernel_rfl) (fun _ _ _ h => h) (Or.inl ⟨by rfl, ?_⟩) (by assumption) ?_
          rotate_left 1
          · (intro w hSw; (try dsimp only at hSw); go_simp; all_goals (with_reducible rfl))
          try simp only [Act.put, List.getElem_toArray, List.getElem_cons_zero, List.getElem_cons_succ, List.setIfInBounds_toArray, List.set_cons_zero, List.set_cons_succ]
          refine wpAnyH_take (i := 15) (oi := _) (v := ?_) rfl (by kernel_rfl) (by kernel_rfl) (by kernel_rfl) (fun _ _ _ h => h) (Or.inl ⟨by rfl, ?_⟩) (by assumption) ?_
          rotate_left 1
          · (intro w hSw; (try dsimp only at hSw); go_simp; all_goals (with_reducible rfl))
          try simp only [Act.put, List.getElem_toArray, List.getElem_cons_zero, List.getElem_cons_succ, List.setIfInBounds_toArray, List.set_cons_zero, List.set_cons_succ]
          refine' wpAnyH_take (i := 17) (oi := _) (v := _) rfl (by kernel_rfl) (by kernel_rfl) (by kernel_rfl) (fun _ _ _ h => h) (yieldsIf_load_mid (by rfl) _ _ rfl _ _ rfl _ _ ?ls10 ?lu10 ?ld10 ?li10) (by assumption) ?lr10
          case ls10 => (intro w hSw; (try dsimp only at hSw); go_split_ands; assumption)
          case lu10 => assumption
          case ld10 => rfl
          case li10 => first | assumption | (simp only [*]; done)
          try simp only [Act.put, List.getElem_toArray, List.getElem_cons_zero, List.getElem_cons_succ, List.setIfInBounds_toArray, List.set_cons_zero, List.set_cons_succ]
          refine wpAnyH_ready (rs := [16]) (by kernel_rfl) (by simp) ?_
          refine AllReadyH.cons (o := _) rfl (fun K hK => ?_) ?_
          rotate_left 1
          · exact AllReadyH.nil
          go_simp
          go_at_call 73
          refine (auditHead S g xs.length f annBA P _ (HLI.out.below hHeld.2) annBA_le (by omega) HHP.out).mono ?_
          rintro _ wJ ⟨rfl, hBJ2⟩
          dsimp only
          refine hK.out _ _ ?_ (fun hHeld => ?_)
          · (apply hol2_below; assumption; assumption)
          clear hK K
          try simp only [Act.put, List.getElem_toArray, List.getElem_cons_zero, List.getElem_cons_succ, List.setIfInBounds_toArray, List.set_cons_zero, List.set_cons_succ]
          refine wpAnyH_take (i := 18) (oi := _) (v := ?_) rfl (by kernel_rfl) (by kernel_rfl) (by kernel_rfl) (fun _ _ _ h => h) (Or.inl ⟨by rfl, ?_⟩) (by assumption) ?_
          rotate_left 1
          · (intro w hSw; (try dsimp only at hSw); go_simp; all_goals (with_reducible rfl))
          try simp only [Act.put, List.getElem_toArray, List.getElem_cons_zero, List.getElem_cons_succ, List.setIfInBounds_toArray, List.set_cons_zero, List.set_cons_succ]
          refine wpAnyH_take (i := 19) (oi := _) (v := ?_) rfl (by kernel_rfl) (by kernel_rfl) (by kernel_rfl) (fun _ _ _ h => h) (Or.inl ⟨by rfl, ?_⟩) (by assumption) ?_
          rotate_left 1
          · (intro w hSw; (try dsimp only at hSw); go_simp; all_goals (with_reducible rfl))
          try simp only [Act.put, List.getElem_toArray, List.getElem_cons_zero, List.getElem_cons_succ, List.setIfInBounds_toArray, List.set_cons_zero, List.set_cons_succ]
          refine wpAnyH_done (by kernel_rfl) ?_ _
          refine NoPanic.normal ?_
          have hHJ := hHI.trans (hHeld.2.mono hHI.size)
          have hgJ := (hHJ.block z13 hz13).trans HG13.out
          clear hHeld hSP hBJ2 hneqP HGI HP8I HLI
          obtain ⟨q0, qt, hqq⟩ : ∃ q0 qt, Q = q0 :: qt := by
            match Q, HQL.out with
            | q0 :: qt, _ => exact ⟨q0, qt, rfl⟩
          have c0 : wJ.cell? ⟨z13, 0, none⟩ = some (.int .u8 (q0.toNat : Int)) := cell_of_row wJ z13 0 _ _ _ (by rw [hqq] at hgJ; exact hgJ)
          have f0 := frozen_of_row wJ z13 0 _ _ hgJ
          have hx1 := xor_one q0
          have HGJ := Lib.hid hgJ
          clear hgJ
          (repeat' ((fail_if_success at_builtin); first | go_values | go_skip | go_guarded | go_step | go_upon))
          obtain ⟨wK, hwK⟩ : ∃ wK, wJ.setCell ⟨z13, 0, none⟩ (.int .u8 ((xor1 q0).toNat : Int)) = wK := ⟨_, rfl⟩
          rw [hwK]
          have hgK : wK.heap[z13]? = some (.cells (bvs (flip0 Q)).toArray 26 (0, 0)) := by
            rw [← hwK, row_set HGJ.out, List.setIfInBounds_toArray, hqq]; rfl
          have hHJ13 : Below z13 wH wJ := hHJ.mono (by omega)
          have hBHK : Below z13 wH wK := by rw [← hwK]; exact hHJ13.setCell (Nat.le_refl _) _
          have hBK3 : Below w3.heap.size w3 wK := hBH3.trans (hBHK.mono hz13l)
          have hBK0 : Below w0.heap.size w0 wK := hB03.trans (hBK3.mono hB03.size)
          have hTb : ∀ wx, Below wK.heap.size wK wx → Tabs wx := fun wx h => HT0.out.below (hBK0.trans (h.mono hBK0.size)) hts0
          have HTB2 := Lib.hid hTb
          have hRM : ∀ wx, Below wK.heap.size wK wx → RdC wx a3 ((rs.take M).flatMap Ent.cells) := fun wx h => by
            rw [ents_take rs M HRSUM.out]
            exact rdc_take (HR3.out.below (hBK3.trans (h.mono hBK3.size)) (Nat.le_refl _)) _
          have HRM2 := Lib.hid hRM
          obtain ⟨Q', hQ'⟩ : ∃ Q', flip0 Q = Q' := ⟨_, rfl⟩
          have hQl' : Q'.length = 32 := by rw [← hQ', flip0_length]; exact HQL.out
          have HQL2 := Lib.hid hQl'
          have hvQ2 := HVN.out M (by omega) Q' (by rw [HQ.out, ← hQ']; exact flip0_ne HQL.out)
          have HVQ2 := Lib.hid hvQ2
          rw [hQ'] at hgK
          have hiQ2 : (Tryd.prog.info? 26).map (·.size) = some (bvs Q').length := by rw [bvs_length, hQl']; exact sizeSum
          have hS2 : Hol2 wK z13 Q' wK.drew := ⟨rangeAt_whole (w := wK.drew) hgK, (Below.refl _ _).drew⟩
          clear hTb hRM hvQ2 hgK hwK c0 f0 hx1 hQl' hqq hQ' HGJ
          refine wp_region_noPanic ?_
          refine wp_region_held_drew (S := Hol2 wK z13 Q') (by kernel_rfl) ?_ (fun hHeld => ?_)
          · (exact hS2)
          refine wpAnyH_take (i := 0) (oi := _) (v := ?_) rfl (by kernel_rfl) (by kernel_rfl) (by kernel_rfl) (fun _ _ _ h => h) (Or.inl ⟨by rfl, ?_⟩) (by assumption) ?_
          rotate_left 1
          · (intro w hSw; (try dsimp only at hSw); go_simp; all_goals (with_reducible rfl))
          try simp only [Act.put, List.getElem_toArray, List.getElem_cons_zero, List.getElem_cons_succ, List.setIfInBounds_toArray, List.set_cons_zero, List.set_cons_succ]
          refine wpAnyH_take (i := 1) (oi := _) (v := ?_) rfl (by kernel_rfl) (by kernel_rfl) (by kernel_rfl) (fun _ _ _ h => h) (Or.inl ⟨by rfl, ?_⟩) (by assumption) ?_
          rotate_left 1
          · (intro w hSw; (try dsimp only at hSw); go_simp; all_goals (with_reducible rfl))
          try simp only [Act.put, List.getElem_toArray, List.getElem_cons_zero, List.getElem_cons_succ, List.setIfInBounds_toArray, List.set_cons_zero, List.set_cons_succ]
          refine wpAnyH_take (i := 2) (oi := _) (v := ?_) rfl (by kernel_rfl) (by kernel_rfl) (by kernel_rfl) (fun _ _ _ h => h) (Or.inl ⟨by rfl, ?_⟩) (by assumption) ?_
          rotate_left 1
          · (intro w hSw; (try dsimp only at hSw); go_simp; all_goals (with_reducible rfl))
          try simp only [Act.put, List.getElem_toArray, List.getElem_cons_zero, List.getElem_cons_succ, List.setIfInBounds_toArray, List.set_cons_zero, List.set_cons_succ]
          refine' wpAnyH_take (i := 3) (oi := _) (v := _) rfl (by kernel_rfl) (by kernel_rfl) (by kernel_rfl) (fun _ _ _ h => h) (yieldsIf_load_mid (by rfl) _ _ rfl _ _ rfl _ _ ?ls11 ?lu11 ?ld11 ?li11) (by assumption) ?lr11
          case ls11 => (intro w hSw; (try dsimp only at hSw); go_split_ands; assumption)
          case lu11 => assumption
          case ld11 => rfl
          case li11 => first | assumption | (simp only [*]; done)
          try simp only [Act.put, List.getElem_toArray, List.getElem_cons_zero, List.getElem_cons_succ, List.setIfInBounds_toArray, List.set_cons_zero, List.set_cons_succ]
          refine wpAnyH_ready (rs := [4]) (by kernel_rfl) (by simp) ?_
          refine AllReadyH.cons (o := _) rfl (fun K hK => ?_) ?_
          rotate_left 1
          · exact AllReadyH.nil
          go_simp
          go_at_call 68
          refine (auditVerify a3 M c3 (rs.take M) Q' (M+1) 24 _ HVQ2.out (HTB2.out _ hHeld.2) (HRM2.out _ hHeld.2) HFM.out HML.out (by omega) (by omega) HQL2.out).mono ?_
          rintro _ wL ⟨rfl, hBL2⟩
          dsimp only
          rw [show ((M + 1 : Nat) : Int) = (M : Int) + 1 from rfl]
          refine hK.out _ _ ?_ (fun hHeld => ?_)
          · (apply hol2_below; assumption; assumption)
          clear hK K
          try simp only [Act.put, List.getElem_toArray, List.getElem_cons_zero, List.getElem_cons_succ, List.setIfInBounds_toArray, List.set_cons_zero, List.set_cons_succ]
          refine wpAnyH_take (i := 5) (oi := _) (v := ?_) rfl (by kernel_rfl) (by kernel_rfl) (by kernel_rfl) (fun _ _ _ h => h) (Or.inl ⟨by rfl, ?_⟩) (by assumption) ?_
          rotate_left 1
          · (intro w hSw; (try dsimp only at hSw); go_simp; all_goals (with_reducible rfl))
          try simp only [Act.put, List.getElem_toArray, List.getElem_cons_zero, List.getElem_cons_succ, List.setIfInBounds_toArray, List.set_cons_zero, List.set_cons_succ]
          refine wpAnyH_take (i := 6) (oi := _) (v := ?_) rfl (by kernel_rfl) (by kernel_rfl) (by kernel_rfl) (fun _ _ _ h => h) (Or.inl ⟨by rfl, ?_⟩) (by assumption) ?_
          rotate_left 1
          · (intro w hSw; (try dsimp only at hSw); go_simp; all_goals (with_reducible rfl))
          try simp only [Act.put, List.getElem_toArray, List.getElem_cons_zero, List.getElem_cons_succ, List.setIfInBounds_toArray, List.set_cons_zero, List.set_cons_succ]
          refine wpAnyH_take (i := 7) (oi := _) (v := ?_) rfl (by kernel_rfl) (by kernel_rfl) (by kernel_rfl) (fun _ _ _ h => h) (Or.inl ⟨by rfl, ?_⟩) (by assumption) ?_
          rotate_left 1
          · (intro w hSw; (try dsimp only at hSw); go_simp; all_goals (with_reducible rfl))
          try simp only [Act.put, List.getElem_toArray, List.getElem_cons_zero, List.getElem_cons_succ, List.setIfInBounds_toArray, List.set_cons_zero, List.set_cons_succ]
          refine wpAnyH_take (i := 8) (oi := _) (v := ?_) rfl (by kernel_rfl) (by kernel_rfl) (by kernel_rfl) (fun _ _ _ h => h) (Or.inl ⟨by rfl, ?_⟩) (by assumption) ?_
          rotate_left 1
          · (intro w hSw; (try dsimp only at hSw); go_simp; all_goals (with_reducible rfl))
          try simp only [Act.put, List.getElem_toArray, List.getElem_cons_zero, List.getElem_cons_succ, List.setIfInBounds_toArray, List.set_cons_zero, List.set_cons_succ]
          refine wpAnyH_take (i := 9) (oi := _) (v := ?_) rfl (by kernel_rfl) (by kernel_rfl) (by kernel_rfl) (fun _ _ _ h => h) (Or.inl ⟨by rfl, ?_⟩) (by assumption) ?_
          rotate_left 1
          · (intro w hSw; (try dsimp only at hSw); go_simp; all_goals (with_reducible rfl))
          try simp only [Act.put, List.getElem_toArray, List.getElem_cons_zero, List.getElem_cons_succ, List.setIfInBounds_toArray, List.set_cons_zero, List.set_cons_succ]
          refine wpAnyH_done (by kernel_rfl) ?_ _
          refine NoPanic.normal ?_
          have hHL := hHeld.2
          have hTL := HTB2.out _ hHL
          have hB0L : Below w0.heap.size w0 wL := hBK0.trans (hHL.mono hBK0.size)
          have tq : ((M : Int) + 1 == (M : Int) + 1) = true := by simp
          clear hHeld hS2 hBL2
          (repeat' ((fail_if_success at_builtin); first | go_values | go_skip | go_guarded | go_step | go_upon))
          refine (works21 wL hTL).mono ?_
          rintro _ wM ⟨rfl, hBM⟩
          dsimp only
          (repeat' ((fail_if_success at_builtin); first | go_values | go_skip | go_guarded | go_step | go_upon))
          go_ret
          exact ⟨rfl, hB0.trans ((hB0L.trans (hBM.mono hB0L.size)).mono hB0.size)⟩
        · have hM00 : M = 0 := by omega
          obtain ⟨Q, hQ⟩ : ∃ Q, zeros32 = Q := ⟨_, rfl⟩
          have HQ := Lib.hid (show headOf (rs.take M) = Q by rw [hM00, ← hQ]; rfl)
          have HQL := Lib.hid (show Q.length = 32 by rw [← hQ]; rfl)
          have hgH := HGD2.out
          rw [hQ] at hgH
          have HG13 := Lib.hid hgH
          have hBH := hBrD
          have hz13 := hz13D
          clear hQ hgH HGD2 hM00
          (repeat' ((fail_if_success at_builtin); first | go_values | go_skip | go_guarded | go_step | go_upon))
          clear hM0
          have hBH3 : Below w3.heap.size w3 wD := hBI.trans (hBH.mono hBI.size)
          have hBH0 : Below w0.heap.size w0 wD := hB03.trans (hBH3.mono hB03.size)
          have hTb : ∀ wx, Below wD.heap.size wD wx → Tabs wx := fun wx h => HT0.out.below (hBH0.trans (h.mono hBH0.size)) hts0
          have HTB := Lib.hid hTb
          have HP8 := Lib.hid ((hBH.block z8 hzlt).trans HC8.out)
          have hz8H : z8 < wD.heap.size := Nat.lt_of_lt_of_le hzlt hBH.size
          have hRM : ∀ wx, Below wD.heap.size wD wx → RdC wx a3 ((rs.take M).flatMap Ent.cells) := fun wx h => by
            rw [ents_take rs M HRSUM.out]
            exact rdc_take (HR3.out.below (hBH3.trans (h.mono hBH3.size)) (Nat.le_refl _)) _
          have HRM := Lib.hid hRM
          have hML : (rs.take M).length = M := by rw [List.length_take, HRL.out]; omega
          have HML := Lib.hid hML
          have hFM : ∀ x ∈ rs.take M, x.Ok ∧ x.stream.size ≤ 4096 ∧ x.subject.size ≤ 4096 := fun x hx => ⟨(HRFIT.out x (List.mem_of_mem_take hx)).ok, (HRFIT.out x (List.mem_of_mem_take hx)).str, (HRFIT.out x (List.mem_of_mem_take hx)).sub⟩
          have HFM := Lib.hid hFM
          have hsl := fun w => run_slice_toS (P := Tryd.prog) 68 73 39 Tryd.underlying68 entSize a3 xs.length c3 M (by omega) w
          have hvQ := HVY.out M (by omega)
          rw [HQ.out] at hvQ
          have HVQ := Lib.hid hvQ
          have hiQ : (Tryd.prog.info? 26).map (·.size) = some (bvs Q).length := by rw [bvs_length, HQL.out]; exact sizeSum
          have hS0 : Hol2 wD z13 Q wD.drew := ⟨rangeAt_whole (w := wD.drew) HG13.out, (Below.refl _ _).drew⟩
          clear hTb hRM hML hFM hvQ
          refine wp_region_noPanic ?_
          refine wp_region_held_drew (S := Hol2 wD z13 Q) (by kernel_rfl) ?_ (fun hHeld => ?_)
          · (exact hS0)
          refine wpAnyH_take (i := 0) (oi := _) (v := ?_) rfl (by kernel_rfl) (by kernel_rfl) (by kernel_rfl) (fun _ _ _ h => h) (Or.inl ⟨by rfl, ?_⟩) (by assumption) ?_
          rotate_left 1
          · (intro w hSw; (try dsimp only at hSw); go_simp; all_goals (with_reducible rfl))
          try simp only [Act.put, List.getElem_toArray, List.getElem_cons_zero, List.getElem_cons_succ, List.setIfInBounds_toArray, List.set_cons_zero, List.set_cons_succ]
          refine wpAnyH_take (i := 1) (oi := _) (v := ?_) rfl (by kernel_rfl) (by kernel_rfl) (by kernel_rfl) (fun _ _ _ h => h) (Or.inl ⟨by rfl, ?_⟩) (by assumption) ?_
          rotate_left 1
          · (intro w hSw; (try dsimp only at hSw); go_simp; all_goals (with_reducible rfl))
          try simp only [Act.put, List.getElem_toArray, List.getElem_cons_zero, List.getElem_cons_succ, List.setIfInBounds_toArray, List.set_cons_zero, List.set_cons_succ]
          refine wpAnyH_take (i := 2) (oi := _) (v := ?_) rfl (by kernel_rfl) (by kernel_rfl) (by kernel_rfl) (fun _ _ _ h => h) (Or.inl ⟨by rfl, ?_⟩) (by assumption) ?_
          rotate_left 1
          · (intro w hSw; (try dsimp only at hSw); go_simp; all_goals (with_reducible rfl))
          try simp only [Act.put, List.getElem_toArray, List.getElem_cons_zero, List.getElem_cons_succ, List.setIfInBounds_toArray, List.set_cons_zero, List.set_cons_succ]
          refine' wpAnyH_take (i := 3) (oi := _) (v := _) rfl (by kernel_rfl) (by kernel_rfl) (by kernel_rfl) (fun _ _ _ h => h) (yieldsIf_load_mid (by rfl) _ _ rfl _ _ rfl _ _ ?ls12 ?lu12 ?ld12 ?li12) (by assumption) ?lr12
          case ls12 => (intro w hSw; (try dsimp only at hSw); go_split_ands; assumption)
          case lu12 => assumption
          case ld12 => rfl
          case li12 => first | assumption | (simp only [*]; done)
          try simp only [Act.put, List.getElem_toArray, List.getElem_cons_zero, List.getElem_cons_succ, List.setIfInBounds_toArray, List.set_cons_zero, List.set_cons_succ]
          refine wpAnyH_ready (rs := [4]) (by kernel_rfl) (by simp) ?_
          refine AllReadyH.cons (o := _) rfl (fun K hK => ?_) ?_
          rotate_left 1
          · exact AllReadyH.nil
          go_simp
          go_at_call 68
          refine (auditVerify a3 M c3 (rs.take M) Q 0 0 _ HVQ.out (HTB.out _ hHeld.2) (HRM.out _ hHeld.2) HFM.out HML.out (by omega) (by omega) HQL.out).mono ?_
          rintro _ wI ⟨rfl, hBI2⟩
          dsimp only
          refine hK.out _ _ ?_ (fun hHeld => ?_)
          · (apply hol2_below; assumption; assumption)
          clear hK K
          try simp only [Act.put, List.getElem_toArray, List.getElem_cons_zero, List.getElem_cons_succ, List.setIfInBounds_toArray, List.set_cons_zero, List.set_cons_succ]
          refine wpAnyH_take (i := 5) (oi := _) (v := ?_) rfl (by kernel_rfl) (by kernel_rfl) (by kernel_rfl) (fun _ _ _ h => h) (Or.inl ⟨by rfl, ?_⟩) (by assumption) ?_
          rotate_left 1
          · (intro w hSw; (try dsimp only at hSw); go_simp; all_goals (with_reducible rfl))
          try simp only [Act.put, List.getElem_toArray, List.getElem_cons_zero, List.getElem_cons_succ, List.setIfInBounds_toArray, List.set_cons_zero, List.set_cons_succ]
          refine wpAnyH_take (i := 6) (oi := _) (v := ?_) rfl (by kernel_rfl) (by kernel_rfl) (by kernel_rfl) (fun _ _ _ h => h) (Or.inl ⟨by rfl, ?_⟩) (by assumption) ?_
          rotate_left 1
          · (intro w hSw; (try dsimp only at hSw); go_simp; all_goals (with_reducible rfl))
          try simp only [Act.put, List.getElem_toArray, List.getElem_cons_zero, List.getElem_cons_succ, List.setIfInBounds_toArray, List.set_cons_zero, List.set_cons_succ]
          refine wpAnyH_take (i := 7) (oi := _) (v := ?_) rfl (by kernel_rfl) (by kernel_rfl) (by kernel_rfl) (fun _ _ _ h => h) (Or.inl ⟨by rfl, ?_⟩) (by assumption) ?_
          rotate_left 1
          · (intro w hSw; (try dsimp only at hSw); go_simp; all_goals (with_reducible rfl))
          try simp only [Act.put, List.getElem_toArray, List.getElem_cons_zero, List.getElem_cons_succ, List.setIfInBounds_toArray, List.set_cons_zero, List.set_cons_succ]
          refine wpAnyH_take (i := 8) (oi := _) (v := ?_) rfl (by kernel_rfl) (by kernel_rfl) (by kernel_rfl) (fun _ _ _ h => h) (Or.inl ⟨by rfl, ?_⟩) (by assumption) ?_
          rotate_left 1
          · (intro w hSw; (try dsimp only at hSw); go_simp; all_goals (with_reducible rfl))
          try simp only [Act.put, List.getElem_toArray, List.getElem_cons_zero, List.getElem_cons_succ, List.setIfInBounds_toArray, List.set_cons_zero, List.set_cons_succ]
          refine wpAnyH_take (i := 9) (oi := _) (v := ?_) rfl (by kernel_rfl) (by kernel_rfl) (by kernel_rfl) (fun _ _ _ h => h) (Or.inl ⟨by rfl, ?_⟩) (by assumption) ?_
          rotate_left 1
          · (intro w hSw; (try dsimp only at hSw); go_simp; all_goals (with_reducible rfl))
          try simp only [Act.put, List.getElem_toArray, List.getElem_cons_zero, List.getElem_cons_succ, List.setIfInBounds_toArray, List.set_cons_zero, List.set_cons_succ]
          refine wpAnyH_done (by kernel_rfl) ?_ _
          refine NoPanic.normal ?_
          have hHI := hHeld.2
          have HGI := Lib.hid ((hHI.block z13 hz13).trans HG13.out)
          have HP8I := Lib.hid ((hHI.block z8 hz8H).trans HP8.out)
          clear hHeld hS0 hBI2
          have hiP : (Tryd.prog.info? 26).map (·.size) = some (bvs P).length := by rw [bvs_length, HPL.out]; exact sizeSum
          have hneqP := fun w => neqSum w P P HPL.out HPL.out
          rw [decide_eq_true (rfl : P = P)] at hneqP
          have hSP : Hol2 wI z8 P wI.drew := ⟨rangeAt_whole (w := wI.drew) HP8I.out, (Below.refl _ _).drew⟩
          have hLI := HLOG.out.below (hB3.trans ((hBH3.trans (hHI.mono hBH3.size)).mono hB3.size))
          have HLI := Lib.hid hLI
          clear hLI
          (repeat' ((fail_if_success at_builtin); first | go_values | go_skip | go_guarded | go_step | go_upon))
          refine wp_region_noPanic ?_
          refine wp_region_held_drew (S := Hol2 wI z8 P) (by kernel_rfl) ?_ (fun hHeld => ?_)
          · (exact hSP)
          refine wpAnyH_take (i := 0) (oi := _) (v := ?_) rfl (by kernel_rfl) (by kernel_rfl) (by kernel_rfl) (fun _ _ _ h => h) (Or.inl ⟨by rfl, ?_⟩) (by assumption) ?_
          rotate_left 1
          · (intro w hSw; (try dsimp only at hSw); go_simp; all_goals (with_reducible rfl))
          try simp only [Act.put, List.getElem_toArray, List.getElem_cons_zero, List.getElem_cons_succ, List.setIfInBounds_toArray, List.set_cons_zero, List.set_cons_succ]
          refine wpAnyH_take (i := 1) (oi := _) (v := ?_) rfl (by kernel_rfl) (by kernel_rfl) (by kernel_rfl) (fun _ _ _ h => h) (Or.inl ⟨by rfl, ?_⟩) (by assumption) ?_
          rotate_left 1
          · (intro w hSw; (try dsimp only at hSw); go_simp; all_goals (with_reducible rfl))
          try simp only [Act.put, List.getElem_toArray, List.getElem_cons_zero, List.getElem_cons_succ, List.setIfInBounds_toArray, List.set_cons_zero, List.set_cons_succ]
          refine wpAnyH_take (i := 2) (oi := _) (v := ?_) rfl (by kernel_rfl) (by kernel_rfl) (by kernel_rfl) (fun _ _ _ h => h) (Or.inl ⟨by rfl, ?_⟩) (by assumption) ?_
          rotate_left 1
          · (intro w hSw; (try dsimp only at hSw); go_simp; all_goals (with_reducible rfl))
          try simp only [Act.put, List.getElem_toArray, List.getElem_cons_zero, List.getElem_cons_succ, List.setIfInBounds_toArray, List.set_cons_zero, List.set_cons_succ]
          refine wpAnyH_take (i := 3) (oi := _) (v := ?_) rfl (by kernel_rfl) (by kernel_rfl) (by kernel_rfl) (fun _ _ _ h => h) (Or.inl ⟨by rfl, ?_⟩) (by assumption) ?_
          rotate_left 1
          · (intro w hSw; (try dsimp only at hSw); go_simp; all_goals (with_reducible rfl))
          try simp only [Act.put, List.getElem_toArray, List.getElem_cons_zero, List.getElem_cons_succ, List.setIfInBounds_toArray, List.set_cons_zero, List.set_cons_succ]
          refine wpAnyH_take (i := 4) (oi := _) (v := ?_) rfl (by kernel_rfl) (by kernel_rfl) (by kernel_rfl) (fun _ _ _ h => h) (Or.inl ⟨by rfl, ?_⟩) (by assumption) ?_
          rotate_left 1
          · (intro w hSw; (try dsimp only at hSw); go_simp; all_goals (with_reducible rfl))
          try simp only [Act.put, List.getElem_toArray, List.getElem_cons_zero, List.getElem_cons_succ, List.setIfInBounds_toArray, List.set_cons_zero, List.set_cons_succ]
          refine wpAnyH_take (i := 5) (oi := _) (v := ?_) rfl (by kernel_rfl) (by kernel_rfl) (by kernel_rfl) (fun _ _ _ h => h) (Or.inl ⟨by rfl, ?_⟩) (by assumption) ?_
          rotate_left 1
          · (intro w hSw; (try dsimp only at hSw); go_simp; all_goals (with_reducible rfl))
          try simp only [Act.put, List.getElem_toArray, List.getElem_cons_zero, List.getElem_cons_succ, List.setIfInBounds_toArray, List.set_cons_zero, List.set_cons_succ]
          refine wpAnyH_take (i := 6) (oi := _) (v := ?_) rfl (by kernel_rfl) (by kernel_rfl) (by kernel_rfl) (fun _ _ _ h => h) (Or.inl ⟨by rfl, ?_⟩) (by assumption) ?_
          rotate_left 1
          · (intro w hSw; (try dsimp only at hSw); go_simp; all_goals (with_reducible rfl))
          try simp only [Act.put, List.getElem_toArray, List.getElem_cons_zero, List.getElem_cons_succ, List.setIfInBounds_toArray, List.set_cons_zero, List.set_cons_succ]
          refine wpAnyH_take (i := 7) (oi := _) (v := ?_) rfl (by kernel_rfl) (by kernel_rfl) (by kernel_rfl) (fun _ _ _ h => h) (Or.inl ⟨by rfl, ?_⟩) (by assumption) ?_
          rotate_left 1
          · (intro w hSw; (try dsimp only at hSw); go_simp; all_goals (with_reducible rfl))
          try simp only [Act.put, List.getElem_toArray, List.getElem_cons_zero, List.getElem_cons_succ, List.setIfInBounds_toArray, List.set_cons_zero, List.set_cons_succ]
          refine wpAnyH_take (i := 8) (oi := _) (v := ?_) rfl (by kernel_rfl) (by kernel_rfl) (by kernel_rfl) (fun _ _ _ h => h) (Or.inl ⟨by rfl, ?_⟩) (by assumption) ?_
          rotate_left 1
          · (intro w hSw; (try dsimp only at hSw); go_simp; all_goals (with_reducible rfl))
          try simp only [Act.put, List.getElem_toArray, List.getElem_cons_zero, List.getElem_cons_succ, List.setIfInBounds_toArray, List.set_cons_zero, List.set_cons_succ]
          refine wpAnyH_take (i := 9) (oi := _) (v := ?_) rfl (by kernel_rfl) (by kernel_rfl) (by kernel_rfl) (fun _ _ _ h => h) (Or.inl ⟨by rfl, ?_⟩) (by assumption) ?_
          rotate_left 1
          · (intro w hSw; (try dsimp only at hSw); go_simp; all_goals (with_reducible rfl))
          try simp only [Act.put, List.getElem_toArray, List.getElem_cons_zero, List.getElem_cons_succ, List.setIfInBounds_toArray, List.set_cons_zero, List.set_cons_succ]
          refine wpAnyH_take (i := 10) (oi := _) (v := ?_) rfl (by kernel_rfl) (by kernel_rfl) (by kernel_rfl) (fun _ _ _ h => h) (Or.inl ⟨by rfl, ?_⟩) (by assumption) ?_
          rotate_left 1
          · (intro w hSw; (try dsimp only at hSw); go_simp; all_goals (with_reducible rfl))
          try simp only [Act.put, List.getElem_toArray, List.getElem_cons_zero, List.getElem_cons_succ, List.setIfInBounds_toArray, List.set_cons_zero, List.set_cons_succ]
          refine wpAnyH_take (i := 11) (oi := _) (v := ?_) rfl (by kernel_rfl) (by kernel_rfl) (by kernel_rfl) (fun _ _ _ h => h) (Or.inl ⟨by rfl, ?_⟩) (by assumption) ?_
          rotate_left 1
          · (intro w hSw; (try dsimp only at hSw); go_simp; all_goals (with_reducible rfl))
          try simp only [Act.put, List.getElem_toArray, List.getElem_cons_zero, List.getElem_cons_succ, List.setIfInBounds_toArray, List.set_cons_zero, List.set_cons_succ]
          refine wpAnyH_take (i := 12) (oi := _) (v := ?_) rfl (by kernel_rfl) (by kernel_rfl) (by kernel_rfl) (fun _ _ _ h => h) (Or.inl ⟨by rfl, ?_⟩) (by assumption) ?_
          rotate_left 1
          · (intro w hSw; (try dsimp only at hSw); go_simp; all_goals (with_reducible rfl))
          try simp only [Act.put, List.getElem_toArray, List.getElem_cons_zero, List.getElem_cons_succ, List.setIfInBounds_toArray, List.set_cons_zero, List.set_cons_succ]
          refine wpAnyH_take (i := 13) (oi := _) (v := ?_) rfl (by kernel_rfl) (by kernel_rfl) (by kernel_rfl) (fun _ _ _ h => h) (Or.inl ⟨by rfl, ?_⟩) (by assumption) ?_
          rotate_left 1
          · (intro w hSw; (try dsimp only at hSw); go_simp; all_goals (with_reducible rfl))
          try simp only [Act.put, List.getElem_toArray, List.getElem_cons_zero, List.getElem_cons_succ, List.setIfInBounds_toArray, List.set_cons_zero, List.set_cons_succ]
          refine wpAnyH_take (i := 14) (oi := _) (v := ?_) rfl (by kernel_rfl) (by kernel_rfl) (by kernel_rfl) (fun _ _ _ h => h) (Or.inl ⟨by rfl, ?_⟩) (by assumption) ?_
          rotate_left 1
          · (intro w hSw; (try dsimp only at hSw); go_simp; all_goals (with_reducible rfl))
          try simp only [Act.put, List.getElem_toArray, List.getElem_cons_zero, List.getElem_cons_succ, List.setIfInBounds_toArray, List.set_cons_zero, List.set_cons_succ]
          refine wpAnyH_take (i := 15) (oi := _) (v := ?_) rfl (by kernel_rfl) (by kernel_rfl) (by kernel_rfl) (fun _ _ _ h => h) (Or.inl ⟨by rfl, ?_⟩) (by assumption) ?_
          rotate_left 1
          · (intro w hSw; (try dsimp only at hSw); go_simp; all_goals (with_reducible rfl))
          try simp only [Act.put, List.getElem_toArray, List.getElem_cons_zero, List.getElem_cons_succ, List.setIfInBounds_toArray, List.set_cons_zero, List.set_cons_succ]
          refine' wpAnyH_take (i := 17) (oi := _) (v := _) rfl (by kernel_rfl) (by kernel_rfl) (by kernel_rfl) (fun _ _ _ h => h) (yieldsIf_load_mid (by rfl) _ _ rfl _ _ rfl _ _ ?ls13 ?lu13 ?ld13 ?li13) (by assumption) ?lr13
          case ls13 => (intro w hSw; (try dsimp only at hSw); go_split_ands; assumption)
          case lu13 => assumption
          case ld13 => rfl
          case li13 => first | assumption | (simp only [*]; done)
          try simp only [Act.put, List.getElem_toArray, List.getElem_cons_zero, List.getElem_cons_succ, List.setIfInBounds_toArray, List.set_cons_zero, List.set_cons_succ]
          refine wpAnyH_ready (rs := [16]) (by kernel_rfl) (by simp) ?_
          refine AllReadyH.cons (o := _) rfl (fun K hK => ?_) ?_
          rotate_left 1
          · exact AllReadyH.nil
          go_simp
          go_at_call 73
          refine (auditHead S g xs.length f annBA P _ (HLI.out.below hHeld.2) annBA_le (by omega) HHP.out).mono ?_
          rintro _ wJ ⟨rfl, hBJ2⟩
          dsimp only
          refine hK.out _ _ ?_ (fun hHeld => ?_)
          · (apply hol2_below; assumption; assumption)
          clear hK K
          try simp only [Act.put, List.getElem_toArray, List.getElem_cons_zero, List.getElem_cons_succ, List.setIfInBounds_toArray, List.set_cons_zero, List.set_cons_succ]
          refine wpAnyH_take (i := 18) (oi := _) (v := ?_) rfl (by kernel_rfl) (by kernel_rfl) (by kernel_rfl) (fun _ _ _ h => h) (Or.inl ⟨by rfl, ?_⟩) (by assumption) ?_
          rotate_left 1
          · (intro w hSw; (try dsimp only at hSw); go_simp; all_goals (with_reducible rfl))
          try simp only [Act.put, List.getElem_toArray, List.getElem_cons_zero, List.getElem_cons_succ, List.setIfInBounds_toArray, List.set_cons_zero, List.set_cons_succ]
          refine wpAnyH_take (i := 19) (oi := _) (v := ?_) rfl (by kernel_rfl) (by kernel_rfl) (by kernel_rfl) (fun _ _ _ h => h) (Or.inl ⟨by rfl, ?_⟩) (by assumption) ?_
          rotate_left 1
          · (intro w hSw; (try dsimp only at hSw); go_simp; all_goals (with_reducible rfl))
          try simp only [Act.put, List.getElem_toArray, List.getElem_cons_zero, List.getElem_cons_succ, List.setIfInBounds_toArray, List.set_cons_zero, List.set_cons_succ]
          refine wpAnyH_done (by kernel_rfl) ?_ _
          refine NoPanic.normal ?_
          have hHJ := hHI.trans (hHeld.2.mono hHI.size)
          have hgJ := (hHJ.block z13 hz13).trans HG13.out
          clear hHeld hSP hBJ2 hneqP HGI HP8I HLI
          obtain ⟨q0, qt, hqq⟩ : ∃ q0 qt, Q = q0 :: qt := by
            match Q, HQL.out with
            | q0 :: qt, _ => exact ⟨q0, qt, rfl⟩
          have c0 : wJ.cell? ⟨z13, 0, none⟩ = some (.int .u8 (q0.toNat : Int)) := cell_of_row wJ z13 0 _ _ _ (by rw [hqq] at hgJ; exact hgJ)
          have f0 := frozen_of_row wJ z13 0 _ _ hgJ
          have hx1 := xor_one q0
          have HGJ := Lib.hid hgJ
          clear hgJ
          (repeat' ((fail_if_success at_builtin); first | go_values | go_skip | go_guarded | go_step | go_upon))
          obtain ⟨wK, hwK⟩ : ∃ wK, wJ.setCell ⟨z13, 0, none⟩ (.int .u8 ((xor1 q0).toNat : Int)) = wK := ⟨_, rfl⟩
          rw [hwK]
          have hgK : wK.heap[z13]? = some (.cells (bvs (flip0 Q)).toArray 26 (0, 0)) := by
            rw [← hwK, row_set HGJ.out, List.setIfInBounds_toArray, hqq]; rfl
          have hHJ13 : Below z13 wD wJ := hHJ.mono (by omega)
          have hBHK : Below z13 wD wK := by rw [← hwK]; exact hHJ13.setCell (Nat.le_refl _) _
          have hBK3 : Below w3.heap.size w3 wK := hBH3.trans (hBHK.mono hz13l)
          have hBK0 : Below w0.heap.size w0 wK := hB03.trans (hBK3.mono hB03.size)
          have hTb : ∀ wx, Below wK.heap.size wK wx → Tabs wx := fun wx h => HT0.out.below (hBK0.trans (h.mono hBK0.size)) hts0
          have HTB2 := Lib.hid hTb
          have hRM : ∀ wx, Below wK.heap.size wK wx → RdC wx a3 ((rs.take M).flatMap Ent.cells) := fun wx h => by
            rw [ents_take rs M HRSUM.out]
            exact rdc_take (HR3.out.below (hBK3.trans (h.mono hBK3.size)) (Nat.le_refl _)) _
          have HRM2 := Lib.hid hRM
          obtain ⟨Q', hQ'⟩ : ∃ Q', flip0 Q = Q' := ⟨_, rfl⟩
          have hQl' : Q'.length = 32 := by rw [← hQ', flip0_length]; exact HQL.out
          have HQL2 := Lib.hid hQl'
          have hvQ2 := HVN.out M (by omega) Q' (by rw [HQ.out, ← hQ']; exact flip0_ne HQL.out)
          have HVQ2 := Lib.hid hvQ2
          rw [hQ'] at hgK
          have hiQ2 : (Tryd.prog.info? 26).map (·.size) = some (bvs Q').length := by rw [bvs_length, hQl']; exact sizeSum
          have hS2 : Hol2 wK z13 Q' wK.drew := ⟨rangeAt_whole (w := wK.drew) hgK, (Below.refl _ _).drew⟩
          clear hTb hRM hvQ2 hgK hwK c0 f0 hx1 hQl' hqq hQ' HGJ
          refine wp_region_noPanic ?_
          refine wp_region_held_drew (S := Hol2 wK z13 Q') (by kernel_rfl) ?_ (fun hHeld => ?_)
          · (exact hS2)
          refine wpAnyH_take (i := 0) (oi := _) (v := ?_) rfl (by kernel_rfl) (by kernel_rfl) (by kernel_rfl) (fun _ _ _ h => h) (Or.inl ⟨by rfl, ?_⟩) (by assumption) ?_
          rotate_left 1
          · (intro w hSw; (try dsimp only at hSw); go_simp; all_goals (with_reducible rfl))
          try simp only [Act.put, List.getElem_toArray, List.getElem_cons_zero, List.getElem_cons_succ, List.setIfInBounds_toArray, List.set_cons_zero, List.set_cons_succ]
          refine wpAnyH_take (i := 1) (oi := _) (v := ?_) rfl (by kernel_rfl) (by kernel_rfl) (by kernel_rfl) (fun _ _ _ h => h) (Or.inl ⟨by rfl, ?_⟩) (by assumption) ?_
          rotate_left 1
          · (intro w hSw; (try dsimp only at hSw); go_simp; all_goals (with_reducible rfl))
          try simp only [Act.put, List.getElem_toArray, List.getElem_cons_zero, List.getElem_cons_succ, List.setIfInBounds_toArray, List.set_cons_zero, List.set_cons_succ]
          refine wpAnyH_take (i := 2) (oi := _) (v := ?_) rfl (by kernel_rfl) (by kernel_rfl) (by kernel_rfl) (fun _ _ _ h => h) (Or.inl ⟨by rfl, ?_⟩) (by assumption) ?_
          rotate_left 1
          · (intro w hSw; (try dsimp only at hSw); go_simp; all_goals (with_reducible rfl))
          try simp only [Act.put, List.getElem_toArray, List.getElem_cons_zero, List.getElem_cons_succ, List.setIfInBounds_toArray, List.set_cons_zero, List.set_cons_succ]
          refine' wpAnyH_take (i := 3) (oi := _) (v := _) rfl (by kernel_rfl) (by kernel_rfl) (by kernel_rfl) (fun _ _ _ h => h) (yieldsIf_load_mid (by rfl) _ _ rfl _ _ rfl _ _ ?ls14 ?lu14 ?ld14 ?li14) (by assumption) ?lr14
          case ls14 => (intro w hSw; (try dsimp only at hSw); go_split_ands; assumption)
          case lu14 => assumption
          case ld14 => rfl
          case li14 => first | assumption | (simp only [*]; done)
          try simp only [Act.put, List.getElem_toArray, List.getElem_cons_zero, List.getElem_cons_succ, List.setIfInBounds_toArray, List.set_cons_zero, List.set_cons_succ]
          refine wpAnyH_ready (rs := [4]) (by kernel_rfl) (by simp) ?_
          refine AllReadyH.cons (o := _) rfl (fun K hK => ?_) ?_
          rotate_left 1
          · exact AllReadyH.nil
          go_simp
          go_at_call 68
          refine (auditVerify a3 M c3 (rs.take M) Q' (M+1) 24 _ HVQ2.out (HTB2.out _ hHeld.2) (HRM2.out _ hHeld.2) HFM.out HML.out (by omega) (by omega) HQL2.out).mono ?_
          rintro _ wL ⟨rfl, hBL2⟩
          dsimp only
          rw [show ((M + 1 : Nat) : Int) = (M : Int) + 1 from rfl]
          refine hK.out _ _ ?_ (fun hHeld => ?_)
          · (apply hol2_below; assumption; assumption)
          clear hK K
          try simp only [Act.put, List.getElem_toArray, List.getElem_cons_zero, List.getElem_cons_succ, List.setIfInBounds_toArray, List.set_cons_zero, List.set_cons_succ]
          refine wpAnyH_take (i := 5) (oi := _) (v := ?_) rfl (by kernel_rfl) (by kernel_rfl) (by kernel_rfl) (fun _ _ _ h => h) (Or.inl ⟨by rfl, ?_⟩) (by assumption) ?_
          rotate_left 1
          · (intro w hSw; (try dsimp only at hSw); go_simp; all_goals (with_reducible rfl))
          try simp only [Act.put, List.getElem_toArray, List.getElem_cons_zero, List.getElem_cons_succ, List.setIfInBounds_toArray, List.set_cons_zero, List.set_cons_succ]
          refine wpAnyH_take (i := 6) (oi := _) (v := ?_) rfl (by kernel_rfl) (by kernel_rfl) (by kernel_rfl) (fun _ _ _ h => h) (Or.inl ⟨by rfl, ?_⟩) (by assumption) ?_
          rotate_left 1
          · (intro w hSw; (try dsimp only at hSw); go_simp; all_goals (with_reducible rfl))
          try simp only [Act.put, List.getElem_toArray, List.getElem_cons_zero, List.getElem_cons_succ, List.setIfInBounds_toArray, List.set_cons_zero, List.set_cons_succ]
          refine wpAnyH_take (i := 7) (oi := _) (v := ?_) rfl (by kernel_rfl) (by kernel_rfl) (by kernel_rfl) (fun _ _ _ h => h) (Or.inl ⟨by rfl, ?_⟩) (by assumption) ?_
          rotate_left 1
          · (intro w hSw; (try dsimp only at hSw); go_simp; all_goals (with_reducible rfl))
          try simp only [Act.put, List.getElem_toArray, List.getElem_cons_zero, List.getElem_cons_succ, List.setIfInBounds_toArray, List.set_cons_zero, List.set_cons_succ]
          refine wpAnyH_take (i := 8) (oi := _) (v := ?_) rfl (by kernel_rfl) (by kernel_rfl) (by kernel_rfl) (fun _ _ _ h => h) (Or.inl ⟨by rfl, ?_⟩) (by assumption) ?_
          rotate_left 1
          · (intro w hSw; (try dsimp only at hSw); go_simp; all_goals (with_reducible rfl))
          try simp only [Act.put, List.getElem_toArray, List.getElem_cons_zero, List.getElem_cons_succ, List.setIfInBounds_toArray, List.set_cons_zero, List.set_cons_succ]
          refine wpAnyH_take (i := 9) (oi := _) (v := ?_) rfl (by kernel_rfl) (by kernel_rfl) (by kernel_rfl) (fun _ _ _ h => h) (Or.inl ⟨by rfl, ?_⟩) (by assumption) ?_
          rotate_left 1
          · (intro w hSw; (try dsimp only at hSw); go_simp; all_goals (with_reducible rfl))
          try simp only [Act.put, List.getElem_toArray, List.getElem_cons_zero, List.getElem_cons_succ, List.setIfInBounds_toArray, List.set_cons_zero, List.set_cons_succ]
          refine wpAnyH_done (by kernel_rfl) ?_ _
          refine NoPanic.normal ?_
          have hHL := hHeld.2
          have hTL := HTB2.out _ hHL
          have hB0L : Below w0.heap.size w0 wL := hBK0.trans (hHL.mono hBK0.size)
          have tq : ((M : Int) + 1 == (M : Int) + 1) = true := by simp
          clear hHeld hS2 hBL2
          (repeat' ((fail_if_success at_builtin); first | go_values | go_skip | go_guarded | go_step | go_upon))
          refine (works21 wL hTL).mono ?_
          rintro _ wM ⟨rfl, hBM⟩
          dsimp only
          (repeat' ((fail_if_success at_builtin); first | go_values | go_skip | go_guarded | go_step | go_upon))
          go_ret
          exact ⟨rfl, hB0.trans ((hB0L.trans (hBM.mono hB0L.size)).mono hB0.size)⟩

end Go.Proofs.YtdpfemhfmofmlaaDoor
