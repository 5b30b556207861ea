/- What the reference of the audit answers: a row's next digest; whether rows hold. -/
import Derived.Test.YtdpfemhfmofmlaaDoorRefN21
namespace Go.Proofs.YtdpfemhfmofmlaaDoor
set_option linter.unusedSimpArgs false
set_option linter.unusedVariables false
open Go.RowKit
set_option maxRecDepth 10000
--@PUT2

set_option maxHeartbeats 2000000 in
theorem refNext21 (p D : List UInt8) (x : Ent) (w : World) (hD : x.next p = D) (hp : p.length = 32) (hx : x.Fit) :
    Calls Tryd.prog 62 #[.agg (bvs p).toArray, .agg x.cells.toArray] w fun e w' => e = .returned (.agg (bvs D).toArray) ∧ Below w.heap.size w w' := by
  obtain ⟨iS, zS, hiS, hzS, hcS⟩ := fresh_parts zeroSum
  have HIS := Lib.hid hiS; clear hiS
  have HZS := Lib.hid hzS; clear hzS
  have HCS := Lib.hid hcS; clear hcS
  obtain ⟨w0, hw0⟩ : ∃ w0, (w.alloc (.cells (bvs p).toArray 26)).alloc (.cells x.cells.toArray 73) = w0 := ⟨_, rfl⟩
  have hs0 : w0.heap.size = w.heap.size + 2 := by rw [← hw0]; simp
  have hB0 : Below w.heap.size w w0 := by rw [← hw0]; exact ((Below.refl _ _).alloc (Nat.le_refl _) _).alloc (by simp) _
  have hg0 : w0.heap[w.heap.size]? = some (.cells (bvs p).toArray 26 (0, 0)) := by
    rw [← hw0, Below.heap_alloc _ _ _ (by simp)]; exact heap_alloc_new w _
  have hg1 : w0.heap[w.heap.size + 1]? = some (.cells x.cells.toArray 73 (0, 0)) := by
    have h := heap_alloc_new (w.alloc (.cells (bvs p).toArray 26)) (.cells x.cells.toArray 73)
    rw [hw0, show (w.alloc (.cells (bvs p).toArray 26)).heap.size = w.heap.size + 1 by simp] at h
    exact h
  have hu26 : Tryd.prog.underlying 26 = some _ := Tryd.underlying26
  have hu73 : Tryd.prog.underlying 73 = some _ := Tryd.underlying73
  have hDl : (bvs D).length = 32 := by rw [bvs_length, ← hD]; exact Ent.next_length _ _
  have HIP := Lib.hid (show (Tryd.prog.info? 26).map (·.size) = some (bvs p).length by rw [bvs_length, hp]; exact sizeSum)
  have HIX := Lib.hid (show (Tryd.prog.info? 73).map (·.size) = some x.cells.length by rw [Ent.cells_length hx.ok.sum]; exact entSize)
  have HIH := Lib.hid (show (Tryd.prog.info? 26).map (·.size) = some (bvs D).length by rw [hDl]; exact sizeSum)
  have HFH := Lib.hid (show 0 + (bvs D).length ≤ (List.replicate 32 (Value.int .u8 0)).toArray.size by rw [hDl]; simp)
  have HHO := Lib.hid (bvs_oneCell D)
  have HHL := Lib.hid hDl; clear hDl
  have HW0 := Lib.hid hw0; clear hw0
  have HG0 := Lib.hid (rangeAt_whole hg0); clear hg0
  have HG1 := Lib.hid (rangeAt_whole hg1); clear hg1
  have HS0 := Lib.hid hs0; clear hs0
  have HD := Lib.hid hD; clear hD
  have HP := Lib.hid hp; clear hp
  have HX := Lib.hid hx; clear hx
  have hbl := x.bytes_length p
  have hxs := HX.out.str
  have hxu := HX.out.sub
  rw [HP.out] at hbl
  have HBL := Lib.hid hbl; clear hbl
  go_enter Tryd.func62, Tryd.ntmps62
  (repeat' ((fail_if_success at_builtin); (fail_if_success (show wpList _ _ _ ({ dst := some 4, op := _, type := _, pos := _, after := _, guard := _ } :: _) _ _)); first | (fail) | go_values | go_skip | go_guarded | go_step | go_upon))
  rw [HW0.out]
  refine wpList_alloc_fresh (w := w0) rfl 26 rfl _ iS zS HIS.out HZS.out HCS.out ?_
  intro w1 hg1 hB1 hs1
  have HG2 := Lib.hid hg1; clear hg1
  have hs1' : w1.heap.size = w.heap.size + 3 := by rw [hs1, HS0.out]
  have HRP := Lib.hid (rangeAt_below HG0.out hB1 (Nat.le_refl _))
  have HRX := Lib.hid (rangeAt_below HG1.out hB1 (Nat.le_refl _))
  have HS1 := Lib.hid hs1'; clear hs1 hs1'
  rw [HS0.out]
  have hg2 := HG2.out
  rw [HS0.out] at hg2
  have HG3 := Lib.hid hg2; clear hg2 HG2
  (repeat' ((fail_if_success at_builtin); first | (first | (with_reducible refine wpList_load_mid rfl 26 _ rfl w.heap.size 0 rfl (bvs p) _ HRP.out hu26 rfl HIP.out ?_) | (with_reducible refine wpList_load_mid rfl 73 _ rfl (w.heap.size + 1) 0 rfl x.cells _ HRX.out hu73 rfl HIX.out ?_)) | go_values | go_skip | go_guarded | go_step | go_upon))
  refine (refOf21 p x w1 HP.out HX.out).mono ?_
  rintro _ w2 ⟨a2, c2, rfl, hc2, hr2, hB2, _⟩
  dsimp only
  have hB12 : Below w.heap.size w w2 := (hB0.trans (hB1.mono hB0.size)).trans (hB2.mono (by have := HS1.out; omega))
  have HQ2 := Lib.hid ((hB2.block (w.heap.size + 2) (by have := HS1.out; omega)).trans HG3.out)
  have HR2 := Lib.hid hr2; clear hr2
  (repeat' ((fail_if_success at_builtin); first | go_values | go_skip | go_guarded | go_step | go_upon))
  refine (refSumOf a2 (88 + x.stream.size + x.subject.size) c2 (x.bytes p) D w2 HD.out HR2.out (by have := HBL.out; omega) (by omega)).mono ?_
  rintro _ w3 ⟨rfl, hB3⟩
  dsimp only
  have HQ3 := Lib.hid ((hB3.block (w.heap.size + 2) (by have := hB2.size; have := HS1.out; omega)).trans HQ2.out)
  have hB13 : Below w.heap.size w w3 := hB12.trans (hB3.mono hB12.size)
  (repeat' ((fail_if_success at_builtin); first | (((with_reducible refine wpList_store_blk rfl 26 _ _ rfl (w.heap.size + 2) 0 (bvs D) rfl rfl _ _ HQ3.out HFH.out HIH.out HHO.out ?_); intro wz hgz hGz; have HGZ := Lib.hid hgz; clear hgz)) | go_values | go_skip | go_guarded | go_step | go_upon))
  have hgz := HGZ.out
  rw [splice_whole _ _ (by rw [HHL.out]; simp)] at hgz
  have hR := run_loadVar_mid (P := Tryd.prog) wz (w.heap.size + 2) 0 26 (bvs D) _ (rangeAt_whole hgz) Tryd.underlying26 rfl HIH.out
  have HRZ := Lib.hid hR; clear hR
  clear hgz
  exact bodyPost_ret (results_cell rfl _ _ _ ⟨w.heap.size + 2, 0, none⟩ rfl _ HRZ.out) rfl ⟨rfl, hB13.grown hGz hB13.size (fun k e => by cases e; omega)⟩


theorem row_same (l : List Ent) (k : Nat) (x : Ent) (hk : k ≤ l.length) : rowOf (l.take k) x = x ↔ x.no = (k : Int) + 1 ∧ x.sum = x.next (headOf (l.take k)) := by
  have hl : (l.take k).length = k := by rw [List.length_take]; omega
  unfold rowOf
  rw [hl]
  constructor
  · intro h
    have h1 : x.no = (k : Int) + 1 := (congrArg Ent.no h).symm
    have h2 := congrArg Ent.sum h
    dsimp only at h2
    refine ⟨h1, ?_⟩
    rw [← h2, ← h1]
  · rintro ⟨h1, h2⟩
    rw [← h1]
    show ({ x with sum := Ent.next (headOf (l.take k)) x } : Ent) = x
    rw [← h2]

structure RVer (w : World) (zp : Nat) (l : List Ent) (head : List UInt8) (n : Nat) (i : Value) (wr : World) : Prop where
  out : ∃ k : Nat, k ≤ n ∧ i = .int .i64 k ∧ Below w.heap.size w wr ∧ wr.heap[w.heap.size]? = some (.cells (bvs head).toArray 26 (0, 0)) ∧ wr.heap[zp]? = some (.cells (bvs (headOf (l.take k))).toArray 26 (0, 0)) ∧ verify l head = verGo (l.take k) (l.drop k) head

abbrev RVS (wr : World) (b o zp : Nat) (P : List UInt8) (x : Ent) (w' : World) : Prop :=
  (w'.cell? ⟨b, o, none⟩ = some (.int .i64 x.no) ∧ w'.rangeAt b (o + 7) (bvs x.sum) ∧ w'.rangeAt zp 0 (bvs P) ∧ w'.rangeAt b o x.cells) ∧ Below wr.heap.size wr w'
theorem rvs_below {wr w' w'' : World} {b o zp : Nat} {P : List UInt8} {x : Ent} (hb : Below w'.heap.size w' w'') (h : RVS wr b o zp P x w') : RVS wr b o zp P x w'' :=
  ⟨⟨cell_below hb h.1.1 (Nat.le_refl _), rangeAt_below h.1.2.1 hb (Nat.le_refl _), rangeAt_below h.1.2.2.1 hb (Nat.le_refl _), rangeAt_below h.1.2.2.2 hb (Nat.le_refl _)⟩, h.2.trans (hb.mono h.2.size)⟩

set_option maxHeartbeats 4000000 in
theorem refVerify21 (a : Option Addr) (n c : Nat) (l : List Ent) (head : List UInt8) (vn : Nat) (ve : Int) (w : World) (hv : verify l head = (vn, ve)) (h : RdC w a (l.flatMap Ent.cells)) (hok : ∀ x ∈ l, x.Fit) (en : l.length = n) (hc : n ≤ c) (hn : n ≤ 1000000) (hh : head.length = 32) :
    Calls Tryd.prog 69 #[.slice a n c, .agg (bvs head).toArray] w fun e w' => e = .returned (.tuple #[.int .i64 vn, .int .i64 ve]) ∧ Below w.heap.size w w' := by
  obtain ⟨iS, zS, hiS, hzS, hcS⟩ := fresh_parts zeroSum
  have HIS := Lib.hid hiS; clear hiS
  have HZS := Lib.hid hzS; clear hzS
  have HCS := Lib.hid hcS; clear hcS
  have HR := Lib.hid h; clear h
  have HOK := Lib.hid hok; clear hok
  have HV := Lib.hid hv; clear hv
  have HH := Lib.hid hh; clear hh
  subst en
  have hu26 : Tryd.prog.underlying 26 = some _ := Tryd.underlying26
  have hu73 : Tryd.prog.underlying 73 = some _ := Tryd.underlying73
  have HG0 := Lib.hid (heap_alloc_new w (.cells (bvs head).toArray 26))
  have HB0 := Lib.hid (show Below w.heap.size w (w.alloc (.cells (bvs head).toArray 26)) from (Below.refl _ _).alloc (Nat.le_refl _) _)
  have hbz : ∀ w, (Instr.build 26 #[]).run Tryd.prog w = .ok (.agg (List.replicate 32 (Value.int .u8 0)).toArray) w := fun w => by kernel_rfl
  have HFZ := Lib.hid (show 0 + (List.replicate 32 (Value.int .u8 0)).length ≤ (List.replicate 32 (Value.int .u8 0)).toArray.size by simp)
  have HIZ := Lib.hid (show (Tryd.prog.info? 26).map (·.size) = some (List.replicate 32 (Value.int .u8 0)).length by rw [List.length_replicate]; exact sizeSum)
  have HOZ := Lib.hid (show ∀ v ∈ List.replicate 32 (Value.int .u8 0), v.oneCell' = true from fun v hv => by rw [List.eq_of_mem_replicate hv]; rfl)
  go_enter Tryd.func69, Tryd.ntmps69
  (repeat' ((fail_if_success at_builtin); first | (first | ((with_reducible refine wpList_alloc_fresh (w := w.alloc (.cells (bvs head).toArray 26)) rfl 26 rfl _ iS zS HIS.out HZS.out HCS.out ?_); intro w1 hg1 hB1 hs1; have HG1 := Lib.hid hg1; clear hg1; have HS1 := Lib.hid hs1; clear hs1) | ((with_reducible refine wpList_store_blk rfl 26 _ _ rfl (w.alloc (.cells (bvs head).toArray 26)).heap.size 0 (List.replicate 32 (Value.int .u8 0)) rfl rfl _ _ HG1.out HFZ.out HIZ.out HOZ.out ?_); intro w2 hg2 hG2; rw [splice_whole _ _ (by simp)] at hg2; have HG2 := Lib.hid hg2; clear hg2)) | go_values | go_skip | go_guarded | go_step | go_upon))
  have hsa : (w.alloc (.cells (bvs head).toArray 26)).heap.size = w.heap.size + 1 := by simp
  have hs1 := HS1.out
  have hg2 := HG2.out
  rw [hsa] at hs1 hg2 hG2
  have hB01 : Below w.heap.size w w1 := HB0.out.trans (hB1.mono (by omega))
  have hB02 : Below w.heap.size w w2 := hB01.grown hG2 hB01.size (fun g e => by cases e; omega)
  have hgh := (hG2.block w.heap.size (by omega) (by simp)).trans ((hB1.block w.heap.size (by omega)).trans HG0.out)
  have HGP := Lib.hid hg2
  have HGH := Lib.hid hgh
  clear hg2 hgh HG2 HG1 HG0 hs1 HS1 hsa hB1 hG2
  go_loopw [7] (fun i wr => RVer w (w.heap.size + 1) l head l.length i wr) (fun i _ => l.length - (intOf i).toNat)
  case atStart => exact ⟨0, by omega, rfl, hB02, HGH.out, HGP.out, rfl⟩
  case round =>
    obtain ⟨k, hk, rfl, hB, hgh, hgp, hver⟩ := hrel
    have hzp := (Array.getElem?_eq_some_iff.1 hgp).1
    have HVER := Lib.hid hver; clear hver
    clear HGH HGP hB02 hB01
    by_cases hlt : k < l.length
    · obtain ⟨b, off, hba, hra⟩ := ents_at (HR.out.below hB (Nat.le_refl _)) (fun x hx => (HOK.out x hx).ok.sum) k hlt
      have hx := HOK.out l[k] (List.getElem_mem hlt)
      have HST := Lib.hid (verGo_step l head k hlt)
      have HBAD := Lib.hid (verGo_bad l head k hlt)
      have HNX := Lib.hid (show headOf (l.take (k + 1)) = l[k].sum by rw [List.take_succ_eq_append_getElem hlt, headOf_snoc])
      obtain ⟨x, hxe⟩ : ∃ x, l[k] = x := ⟨_, rfl⟩
      rw [hxe] at hra hx HST HBAD HNX
      clear hxe
      have HSAME := Lib.hid (row_same l k x hk)
      obtain ⟨P, hP⟩ : ∃ P, headOf (l.take k) = P := ⟨_, rfl⟩
      rw [hP] at hgp HSAME
      have hPl : P.length = 32 := by rw [← hP]; exact headOf_length _ (fun y hy => (HOK.out y (List.mem_of_mem_take hy)).ok)
      clear hP
      have HGH := Lib.hid hgh; clear hgh
      have HGP := Lib.hid hgp
      have HX := Lib.hid hx; clear hx
      have HPL := Lib.hid hPl; clear hPl
      have hiX : (Tryd.prog.info? 73).map (·.size) = some x.cells.length := by rw [Ent.cells_length HX.out.ok.sum]; exact entSize
      have hiS2 : (Tryd.prog.info? 26).map (·.size) = some (bvs x.sum).length := by rw [bvs_length, HX.out.ok.sum]; exact sizeSum
      have hiP : (Tryd.prog.info? 26).map (·.size) = some (bvs P).length := by rw [bvs_length, HPL.out]; exact sizeSum
      have hS0 : RVS wr b (off + k * 39) (w.heap.size + 1) P x wr.drew := rvs_below (w' := wr) (Below.refl _ _).drew ⟨⟨hra 0 _ rfl, ent_sum hra, rangeAt_whole hgp, hra⟩, Below.refl _ _⟩
      have HRS := Lib.hid (ent_sum hra)
      clear hgp hra
      subst hba
      have bk : (0 : Int) ≤ (k : Int) ∧ (k : Int) < (l.length : Int) := by omega
      by_cases hno : x.no = (k : Int) + 1
      · have t1 : ((x.no : Int) != (k : Int) + 1) = false := by simp [hno]
        have HNO := Lib.hid hno; clear hno
        obtain ⟨D, hD⟩ : ∃ D, x.next P = D := ⟨_, rfl⟩
        have hDl : D.length = 32 := by rw [← hD]; exact Ent.next_length _ _
        have HD := Lib.hid hD; clear hD
        obtain ⟨tb, htb⟩ : ∃ tb, (!decide (x.sum = D)) = tb := ⟨_, rfl⟩
        have hneq := fun w => neqSum w x.sum D HX.out.ok.sum hDl
        rw [htb] at hneq
        have HTB := Lib.hid htb; clear htb
        (repeat' ((fail_if_success at_builtin); first | go_values | go_skip | go_guarded | go_step | go_upon))
        have hwr : IntKind.i64.wrap ((k : Int) + 1) = (k : Int) + 1 := IntWalk.i64_in _ (by omega)
        refine wp_region_noPanic ?_
        refine wp_region_held_drew (S := RVS wr b (off + k * 39) (w.heap.size + 1) P x) (by kernel_rfl) ?_ (fun hHeld => ?_)
        · (exact hS0)
        refine wpAnyH_take (i := 0) (oi := _) (v := ?_) rfl (by kernel_rfl) (by kernel_rfl) (by kernel_rfl) (fun _ _ _ h => h) (Or.inl ⟨by rfl, ?_⟩) (by assumption) ?_
        rotate_left 1
        · (intro w hSw; (try dsimp only at hSw); go_simp; all_goals (with_reducible rfl))
        try simp only [Act.put, List.getElem_toArray, List.getElem_cons_zero, List.getElem_cons_succ, List.setIfInBounds_toArray, List.set_cons_zero, List.set_cons_succ]
        refine wpAnyH_take (i := 1) (oi := _) (v := ?_) rfl (by kernel_rfl) (by kernel_rfl) (by kernel_rfl) (fun _ _ _ h => h) (Or.inl ⟨by rfl, ?_⟩) (by assumption) ?_
        rotate_left 1
        · (intro w hSw; (try dsimp only at hSw); go_simp; all_goals (with_reducible rfl))
        try simp only [Act.put, List.getElem_toArray, List.getElem_cons_zero, List.getElem_cons_succ, List.setIfInBounds_toArray, List.set_cons_zero, List.set_cons_succ]
        refine wpAnyH_take (i := 2) (oi := _) (v := ?_) rfl (by kernel_rfl) (by kernel_rfl) (by kernel_rfl) (fun _ _ _ h => h) (Or.inl ⟨by rfl, ?_⟩) (by assumption) ?_
        rotate_left 1
        · (intro w hSw; (try dsimp only at hSw); go_simp; all_goals (with_reducible rfl))
        try simp only [Act.put, List.getElem_toArray, List.getElem_cons_zero, List.getElem_cons_succ, List.setIfInBounds_toArray, List.set_cons_zero, List.set_cons_succ]
        refine wpAnyH_take (i := 3) (oi := _) (v := ?_) rfl (by kernel_rfl) (by kernel_rfl) (by kernel_rfl) (fun _ _ _ h => h) (Or.inl ⟨by rfl, ?_⟩) (by assumption) ?_
        rotate_left 1
        · (intro w hSw; (try dsimp only at hSw); go_simp; all_goals (with_reducible rfl))
        try simp only [Act.put, List.getElem_toArray, List.getElem_cons_zero, List.getElem_cons_succ, List.setIfInBounds_toArray, List.set_cons_zero, List.set_cons_succ]
        refine wpAnyH_take (i := 4) (oi := _) (v := ?_) rfl (by kernel_rfl) (by kernel_rfl) (by kernel_rfl) (fun _ _ _ h => h) (Or.inl ⟨by rfl, ?_⟩) (by assumption) ?_
        rotate_left 1
        · (intro w hSw; (try dsimp only at hSw); go_simp; all_goals (with_reducible rfl))
        try simp only [Act.put, List.getElem_toArray, List.getElem_cons_zero, List.getElem_cons_succ, List.setIfInBounds_toArray, List.set_cons_zero, List.set_cons_succ]
        refine wpAnyH_take (i := 5) (oi := _) (v := ?_) rfl (by kernel_rfl) (by kernel_rfl) (by kernel_rfl) (fun _ _ _ h => h) (Or.inl ⟨by rfl, ?_⟩) (by assumption) ?_
        rotate_left 1
        · (intro w hSw; (try dsimp only at hSw); go_simp; all_goals (with_reducible rfl))
        try simp only [Act.put, List.getElem_toArray, List.getElem_cons_zero, List.getElem_cons_succ, List.setIfInBounds_toArray, List.set_cons_zero, List.set_cons_succ]
        refine wpAnyH_take (i := 6) (oi := _) (v := ?_) rfl (by kernel_rfl) (by kernel_rfl) (by kernel_rfl) (fun _ _ _ h => h) (Or.inl ⟨by rfl, ?_⟩) (by assumption) ?_
        rotate_left 1
        · (intro w hSw; (try dsimp only at hSw); go_simp; all_goals (with_reducible rfl))
        try simp only [Act.put, List.getElem_toArray, List.getElem_cons_zero, List.getElem_cons_succ, List.setIfInBounds_toArray, List.set_cons_zero, List.set_cons_succ]
        refine wpAnyH_take (i := 7) (oi := _) (v := ?_) rfl (by kernel_rfl) (by kernel_rfl) (by kernel_rfl) (fun _ _ _ h => h) (Or.inl ⟨by rfl, ?_⟩) (by assumption) ?_
        rotate_left 1
        · (intro w hSw; (try dsimp only at hSw); go_simp; all_goals (with_reducible rfl))
        try simp only [Act.put, List.getElem_toArray, List.getElem_cons_zero, List.getElem_cons_succ, List.setIfInBounds_toArray, List.set_cons_zero, List.set_cons_succ]
        refine wpAnyH_take (i := 8) (oi := _) (v := ?_) rfl (by kernel_rfl) (by kernel_rfl) (by kernel_rfl) (fun _ _ _ h => h) (Or.inl ⟨by rfl, ?_⟩) (by assumption) ?_
        rotate_left 1
        · (intro w hSw; (try dsimp only at hSw); go_simp; all_goals (with_reducible rfl))
        try simp only [Act.put, List.getElem_toArray, List.getElem_cons_zero, List.getElem_cons_succ, List.setIfInBounds_toArray, List.set_cons_zero, List.set_cons_succ]
        refine wpAnyH_take (i := 9) (oi := _) (v := ?_) rfl (by kernel_rfl) (by kernel_rfl) (by kernel_rfl) (fun _ _ _ h => h) (Or.inl ⟨by rfl, ?_⟩) (by assumption) ?_
        rotate_left 1
        · (intro w hSw; (try dsimp only at hSw); go_simp; all_goals (with_reducible rfl))
        try simp only [Act.put, List.getElem_toArray, List.getElem_cons_zero, List.getElem_cons_succ, List.setIfInBounds_toArray, List.set_cons_zero, List.set_cons_succ]
        refine wpAnyH_take (i := 10) (oi := _) (v := ?_) rfl (by kernel_rfl) (by kernel_rfl) (by kernel_rfl) (fun _ _ _ h => h) (Or.inl ⟨by rfl, ?_⟩) (by assumption) ?_
        rotate_left 1
        · (intro w hSw; (try dsimp only at hSw); go_simp; all_goals (with_reducible rfl))
        try simp only [Act.put, List.getElem_toArray, List.getElem_cons_zero, List.getElem_cons_succ, List.setIfInBounds_toArray, List.set_cons_zero, List.set_cons_succ]
        refine wpAnyH_take (i := 11) (oi := _) (v := ?_) rfl (by kernel_rfl) (by kernel_rfl) (by kernel_rfl) (fun _ _ _ h => h) (Or.inl ⟨by rfl, ?_⟩) (by assumption) ?_
        rotate_left 1
        · (intro w hSw; (try dsimp only at hSw); go_simp; all_goals (with_reducible rfl))
        try simp only [Act.put, List.getElem_toArray, List.getElem_cons_zero, List.getElem_cons_succ, List.setIfInBounds_toArray, List.set_cons_zero, List.set_cons_succ]
        refine wpAnyH_take (i := 12) (oi := _) (v := ?_) rfl (by kernel_rfl) (by kernel_rfl) (by kernel_rfl) (fun _ _ _ h => h) (Or.inl ⟨by rfl, ?_⟩) (by assumption) ?_
        rotate_left 1
        · (intro w hSw; (try dsimp only at hSw); go_simp; all_goals (with_reducible rfl))
        try simp only [Act.put, List.getElem_toArray, List.getElem_cons_zero, List.getElem_cons_succ, List.setIfInBounds_toArray, List.set_cons_zero, List.set_cons_succ]
        refine' wpAnyH_take (i := 13) (oi := _) (v := _) rfl (by kernel_rfl) (by kernel_rfl) (by kernel_rfl) (fun _ _ _ h => h) (yieldsIf_load_mid (by rfl) _ _ rfl _ _ rfl _ _ ?ls1 ?lu1 ?ld1 ?li1) (by assumption) ?lr1
        case ls1 => (intro w hSw; (try dsimp only at hSw); go_split_ands; assumption)
        case lu1 => assumption
        case ld1 => rfl
        case li1 => first | assumption | (simp only [*]; done)
        try simp only [Act.put, List.getElem_toArray, List.getElem_cons_zero, List.getElem_cons_succ, List.setIfInBounds_toArray, List.set_cons_zero, List.set_cons_succ]
        refine' wpAnyH_take (i := 14) (oi := _) (v := _) rfl (by kernel_rfl) (by kernel_rfl) (by kernel_rfl) (fun _ _ _ h => h) (yieldsIf_load_mid (by rfl) _ _ rfl _ _ rfl _ _ ?ls2 ?lu2 ?ld2 ?li2) (by assumption) ?lr2
        case ls2 => (intro w hSw; (try dsimp only at hSw); go_split_ands; assumption)
        case lu2 => assumption
        case ld2 => rfl
        case li2 => first | assumption | (simp only [*]; done)
        try simp only [Act.put, List.getElem_toArray, List.getElem_cons_zero, List.getElem_cons_succ, List.setIfInBounds_toArray, List.set_cons_zero, List.set_cons_succ]
        refine wpAnyH_take (i := 15) (oi := _) (v := ?_) rfl (by kernel_rfl) (by kernel_rfl) (by kernel_rfl) (fun _ _ _ h => h) (Or.inl ⟨by rfl, ?_⟩) (by assumption) ?_
        rotate_left 1
        · (intro w hSw; (try dsimp only at hSw); go_simp; all_goals (with_reducible rfl))
        try simp only [Act.put, List.getElem_toArray, List.getElem_cons_zero, List.getElem_cons_succ, List.setIfInBounds_toArray, List.set_cons_zero, List.set_cons_succ]
        refine wpAnyH_take (i := 16) (oi := _) (v := ?_) rfl (by kernel_rfl) (by kernel_rfl) (by kernel_rfl) (fun _ _ _ h => h) (Or.inl ⟨by rfl, ?_⟩) (by assumption) ?_
        rotate_left 1
        · (intro w hSw; (try dsimp only at hSw); go_simp; all_goals (with_reducible rfl))
        try simp only [Act.put, List.getElem_toArray, List.getElem_cons_zero, List.getElem_cons_succ, List.setIfInBounds_toArray, List.set_cons_zero, List.set_cons_succ]
        refine wpAnyH_take (i := 17) (oi := _) (v := ?_) rfl (by kernel_rfl) (by kernel_rfl) (by kernel_rfl) (fun _ _ _ h => h) (Or.inl ⟨by rfl, ?_⟩) (by assumption) ?_
        rotate_left 1
        · (intro w hSw; (try dsimp only at hSw); go_simp; all_goals (with_reducible rfl))
        try simp only [Act.put, List.getElem_toArray, List.getElem_cons_zero, List.getElem_cons_succ, List.setIfInBounds_toArray, List.set_cons_zero, List.set_cons_succ]
        refine' wpAnyH_take (i := 18) (oi := _) (v := _) rfl (by kernel_rfl) (by kernel_rfl) (by kernel_rfl) (fun _ _ _ h => h) (yieldsIf_load_mid (by rfl) _ _ rfl _ _ rfl _ _ ?ls3 ?lu3 ?ld3 ?li3) (by assumption) ?lr3
        case ls3 => (intro w hSw; (try dsimp only at hSw); go_split_ands; assumption)
        case lu3 => assumption
        case ld3 => rfl
        case li3 => first | assumption | (simp only [*]; done)
        try simp only [Act.put, List.getElem_toArray, List.getElem_cons_zero, List.getElem_cons_succ, List.setIfInBounds_toArray, List.set_cons_zero, List.set_cons_succ]
        refine wpAnyH_ready (rs := [19]) (by kernel_rfl) (by simp) ?_
        refine AllReadyH.cons (o := _) rfl (fun K hK => ?_) ?_
        rotate_left 1
        · exact AllReadyH.nil
        go_simp
        go_at_call 62
        refine (refNext21 P D x _ HD.out HPL.out HX.out).mono ?_
        rintro _ wA ⟨rfl, hBA⟩
        dsimp only
        refine hK.out _ _ ?_ (fun hHeld => ?_)
        · (apply rvs_below; assumption; assumption)
        clear hK K
        try simp only [Act.put, List.getElem_toArray, List.getElem_cons_zero, List.getElem_cons_succ, List.setIfInBounds_toArray, List.set_cons_zero, List.set_cons_succ]
        refine wpAnyH_take (i := 20) (oi := _) (v := ?_) rfl (by kernel_rfl) (by kernel_rfl) (by kernel_rfl) (fun _ _ _ h => h) (Or.inl ⟨by rfl, ?_⟩) (by assumption) ?_
        rotate_left 1
        · (intro w hSw; (try dsimp only at hSw); go_simp; all_goals (with_reducible rfl))
        try simp only [Act.put, List.getElem_toArray, List.getElem_cons_zero, List.getElem_cons_succ, List.setIfInBounds_toArray, List.set_cons_zero, List.set_cons_succ]
        refine wpAnyH_take (i := 21) (oi := _) (v := ?_) rfl (by kernel_rfl) (by kernel_rfl) (by kernel_rfl) (fun _ _ _ h => h) (Or.inl ⟨by rfl, ?_⟩) (by assumption) ?_
        rotate_left 1
        · (intro w hSw; (try dsimp only at hSw); go_simp; all_goals (with_reducible rfl))
        try simp only [Act.put, List.getElem_toArray, List.getElem_cons_zero, List.getElem_cons_succ, List.setIfInBounds_toArray, List.set_cons_zero, List.set_cons_succ]
        refine wpAnyH_done (by kernel_rfl) ?_ _
        refine NoPanic.normal ?_
        have hHc := hHeld.1.2.1
        have hBA2 := hHeld.2
        have hBwA : Below w.heap.size w wA := hB.trans (hBA2.mono hB.size)
        have HGHA := Lib.hid ((hBA2.block w.heap.size (Array.getElem?_eq_some_iff.1 HGH.out).1).trans HGH.out)
        have HGPA := Lib.hid ((hBA2.block (w.heap.size + 1) hzp).trans HGP.out)
        have HFP := Lib.hid (show 0 + (bvs x.sum).length ≤ (bvs P).toArray.size by rw [List.size_toArray, bvs_length, bvs_length, HPL.out, HX.out.ok.sum]; omega)
        have HXO := Lib.hid (bvs_oneCell x.sum)
        have HHC := Lib.hid hHc
        clear hHeld hS0 hBA hHc hwr
        cases tb with
        | false =>
          have hrx : x.sum = D := by have := HTB.out; simpa using this
          have HRX := Lib.hid (HSAME.out.2 ⟨HNO.out, by rw [HD.out]; exact hrx⟩)
          clear hrx
          (repeat' ((fail_if_success at_builtin); first | (first | (with_reducible refine wpList_load_mid rfl 26 _ rfl b (off + k * 39 + 7) rfl (bvs x.sum) _ HHC.out hu26 rfl hiS2 ?_) | ((with_reducible refine wpList_store_blk rfl 26 _ _ rfl (w.heap.size + 1) 0 (bvs x.sum) rfl rfl _ _ HGPA.out HFP.out hiS2 HXO.out ?_); intro wB hgB hGB; rw [splice_whole _ _ (by rw [bvs_length,HX.out.ok.sum];simp [bvs_length,HPL.out])] at hgB; have HGB := Lib.hid hgB; clear hgB)) | go_values | go_skip | go_guarded | go_step | go_upon))
          go_roundw
          case rel => exact ⟨k + 1, by omega, by go_num, hBwA.grown hGB hBwA.size (fun g e => by cases e; omega), (hGB.block w.heap.size (by have := (Array.getElem?_eq_some_iff.1 HGHA.out).1; omega) (by simp)).trans HGHA.out, by rw [HNX.out]; exact HGB.out, by rw [HVER.out]; exact HST.out HRX.out⟩
          case measure => simp [intOf]; omega
        | true =>
          have hrx : x.sum ≠ D := by have := HTB.out; simpa using this
          have hfin := HVER.out.symm.trans HV.out
          rw [HBAD.out (fun hs => hrx (by rw [← HD.out]; exact (HSAME.out.1 hs).2))] at hfin
          have HE1 := Lib.hid (show k + 1 = vn from congrArg Prod.fst hfin)
          have HE2 := Lib.hid (show (24 : Int) = ve from congrArg Prod.snd hfin)
          clear hfin hrx
          (repeat' ((fail_if_success at_builtin); first | go_values | go_skip | go_guarded | go_step | go_upon))
          go_ret2
          refine ⟨?_, hBwA⟩
          rw [← HE1.out, ← HE2.out]; rfl
      · have t1 : ((x.no : Int) != (k : Int) + 1) = true := by simp [hno]
        have hfin := HVER.out.symm.trans HV.out
        rw [HBAD.out (fun hs => hno (HSAME.out.1 hs).1)] at hfin
        have HE1 := Lib.hid (show k + 1 = vn from congrArg Prod.fst hfin)
        have HE2 := Lib.hid (show (24 : Int) = ve from congrArg Prod.snd hfin)
        clear hfin hno
        (repeat' ((fail_if_success at_builtin); first | go_values | go_skip | go_guarded | go_step | go_upon))
        have hwr : IntKind.i64.wrap ((k : Int) + 1) = (k : Int) + 1 := IntWalk.i64_in _ (by omega)
        refine wp_region_noPanic ?_
        refine wp_region_held_drew (S := RVS wr b (off + k * 39) (w.heap.size + 1) P x) (by kernel_rfl) ?_ (fun hHeld => ?_)
        · (exact hS0)
        refine wpAnyH_take (i := 0) (oi := _) (v := ?_) rfl (by kernel_rfl) (by kernel_rfl) (by kernel_rfl) (fun _ _ _ h => h) (Or.inl ⟨by rfl, ?_⟩) (by assumption) ?_
        rotate_left 1
        · (intro w hSw; (try dsimp only at hSw); go_simp; all_goals (with_reducible rfl))
        try simp only [Act.put, List.getElem_toArray, List.getElem_cons_zero, List.getElem_cons_succ, List.setIfInBounds_toArray, List.set_cons_zero, List.set_cons_succ]
        refine wpAnyH_take (i := 1) (oi := _) (v := ?_) rfl (by kernel_rfl) (by kernel_rfl) (by kernel_rfl) (fun _ _ _ h => h) (Or.inl ⟨by rfl, ?_⟩) (by assumption) ?_
        rotate_left 1
        · (intro w hSw; (try dsimp only at hSw); go_simp; all_goals (with_reducible rfl))
        try simp only [Act.put, List.getElem_toArray, List.getElem_cons_zero, List.getElem_cons_succ, List.setIfInBounds_toArray, List.set_cons_zero, List.set_cons_succ]
        refine wpAnyH_take (i := 2) (oi := _) (v := ?_) rfl (by kernel_rfl) (by kernel_rfl) (by kernel_rfl) (fun _ _ _ h => h) (Or.inl ⟨by rfl, ?_⟩) (by assumption) ?_
        rotate_left 1
        · (intro w hSw; (try dsimp only at hSw); go_simp; all_goals (with_reducible rfl))
        try simp only [Act.put, List.getElem_toArray, List.getElem_cons_zero, List.getElem_cons_succ, List.setIfInBounds_toArray, List.set_cons_zero, List.set_cons_succ]
        refine wpAnyH_take (i := 3) (oi := _) (v := ?_) rfl (by kernel_rfl) (by kernel_rfl) (by kernel_rfl) (fun _ _ _ h => h) (Or.inl ⟨by rfl, ?_⟩) (by assumption) ?_
        rotate_left 1
        · (intro w hSw; (try dsimp only at hSw); go_simp; all_goals (with_reducible rfl))
        try simp only [Act.put, List.getElem_toArray, List.getElem_cons_zero, List.getElem_cons_succ, List.setIfInBounds_toArray, List.set_cons_zero, List.set_cons_succ]
        refine wpAnyH_take (i := 4) (oi := _) (v := ?_) rfl (by kernel_rfl) (by kernel_rfl) (by kernel_rfl) (fun _ _ _ h => h) (Or.inl ⟨by rfl, ?_⟩) (by assumption) ?_
        rotate_left 1
        · (intro w hSw; (try dsimp only at hSw); go_simp; all_goals (with_reducible rfl))
        try simp only [Act.put, List.getElem_toArray, List.getElem_cons_zero, List.getElem_cons_succ, List.setIfInBounds_toArray, List.set_cons_zero, List.set_cons_succ]
        refine wpAnyH_take (i := 5) (oi := _) (v := ?_) rfl (by kernel_rfl) (by kernel_rfl) (by kernel_rfl) (fun _ _ _ h => h) (Or.inl ⟨by rfl, ?_⟩) (by assumption) ?_
        rotate_left 1
        · (intro w hSw; (try dsimp only at hSw); go_simp; all_goals (with_reducible rfl))
        try simp only [Act.put, List.getElem_toArray, List.getElem_cons_zero, List.getElem_cons_succ, List.setIfInBounds_toArray, List.set_cons_zero, List.set_cons_succ]
        refine wpAnyH_take (i := 6) (oi := _) (v := ?_) rfl (by kernel_rfl) (by kernel_rfl) (by kernel_rfl) (fun _ _ _ h => h) (Or.inl ⟨by rfl, ?_⟩) (by assumption) ?_
        rotate_left 1
        · (intro w hSw; (try dsimp only at hSw); go_simp; all_goals (with_reducible rfl))
        try simp only [Act.put, List.getElem_toArray, List.getElem_cons_zero, List.getElem_cons_succ, List.setIfInBounds_toArray, List.set_cons_zero, List.set_cons_succ]
        refine wpAnyH_take (i := 7) (oi := _) (v := ?_) rfl (by kernel_rfl) (by kernel_rfl) (by kernel_rfl) (fun _ _ _ h => h) (Or.inl ⟨by rfl, ?_⟩) (by assumption) ?_
        rotate_left 1
        · (intro w hSw; (try dsimp only at hSw); go_simp; all_goals (with_reducible rfl))
        try simp only [Act.put, List.getElem_toArray, List.getElem_cons_zero, List.getElem_cons_succ, List.setIfInBounds_toArray, List.set_cons_zero, List.set_cons_succ]
        refine wpAnyH_take (i := 8) (oi := _) (v := ?_) rfl (by kernel_rfl) (by kernel_rfl) (by kernel_rfl) (fun _ _ _ h => h) (Or.inl ⟨by rfl, ?_⟩) (by assumption) ?_
        rotate_left 1
        · (intro w hSw; (try dsimp only at hSw); go_simp; all_goals (with_reducible rfl))
        try simp only [Act.put, List.getElem_toArray, List.getElem_cons_zero, List.getElem_cons_succ, List.setIfInBounds_toArray, List.set_cons_zero, List.set_cons_succ]
        refine wpAnyH_take (i := 9) (oi := _) (v := undef) rfl (by kernel_rfl) (by kernel_rfl) (by kernel_rfl) (fun _ _ _ h => h) (Or.inr ⟨by kernel_rfl, rfl⟩) (by assumption) ?_
        try simp only [Act.put, List.getElem_toArray, List.getElem_cons_zero, List.getElem_cons_succ, List.setIfInBounds_toArray, List.set_cons_zero, List.set_cons_succ]
        refine wpAnyH_take (i := 10) (oi := _) (v := undef) rfl (by kernel_rfl) (by kernel_rfl) (by kernel_rfl) (fun _ _ _ h => h) (Or.inr ⟨by kernel_rfl, rfl⟩) (by assumption) ?_
        try simp only [Act.put, List.getElem_toArray, List.getElem_cons_zero, List.getElem_cons_succ, List.setIfInBounds_toArray, List.set_cons_zero, List.set_cons_succ]
        refine wpAnyH_take (i := 11) (oi := _) (v := undef) rfl (by kernel_rfl) (by kernel_rfl) (by kernel_rfl) (fun _ _ _ h => h) (Or.inr ⟨by kernel_rfl, rfl⟩) (by assumption) ?_
        try simp only [Act.put, List.getElem_toArray, List.getElem_cons_zero, List.getElem_cons_succ, List.setIfInBounds_toArray, List.set_cons_zero, List.set_cons_succ]
        refine wpAnyH_take (i := 12) (oi := _) (v := undef) rfl (by kernel_rfl) (by kernel_rfl) (by kernel_rfl) (fun _ _ _ h => h) (Or.inr ⟨by kernel_rfl, rfl⟩) (by assumption) ?_
        try simp only [Act.put, List.getElem_toArray, List.getElem_cons_zero, List.getElem_cons_succ, List.setIfInBounds_toArray, List.set_cons_zero, List.set_cons_succ]
        refine wpAnyH_take (i := 13) (oi := _) (v := undef) rfl (by kernel_rfl) (by kernel_rfl) (by kernel_rfl) (fun _ _ _ h => h) (Or.inr ⟨by kernel_rfl, rfl⟩) (by assumption) ?_
        try simp only [Act.put, List.getElem_toArray, List.getElem_cons_zero, List.getElem_cons_succ, List.setIfInBounds_toArray, List.set_cons_zero, List.set_cons_succ]
        refine wpAnyH_take (i := 14) (oi := _) (v := undef) rfl (by kernel_rfl) (by kernel_rfl) (by kernel_rfl) (fun _ _ _ h => h) (Or.inr ⟨by kernel_rfl, rfl⟩) (by assumption) ?_
        try simp only [Act.put, List.getElem_toArray, List.getElem_cons_zero, List.getElem_cons_succ, List.setIfInBounds_toArray, List.set_cons_zero, List.set_cons_succ]
        refine wpAnyH_take (i := 15) (oi := _) (v := undef) rfl (by kernel_rfl) (by kernel_rfl) (by kernel_rfl) (fun _ _ _ h => h) (Or.inr ⟨by kernel_rfl, rfl⟩) (by assumption) ?_
        try simp only [Act.put, List.getElem_toArray, List.getElem_cons_zero, List.getElem_cons_succ, List.setIfInBounds_toArray, List.set_cons_zero, List.set_cons_succ]
        refine wpAnyH_take (i := 16) (oi := _) (v := undef) rfl (by kernel_rfl) (by kernel_rfl) (by kernel_rfl) (fun _ _ _ h => h) (Or.inr ⟨by kernel_rfl, rfl⟩) (by assumption) ?_
        try simp only [Act.put, List.getElem_toArray, List.getElem_cons_zero, List.getElem_cons_succ, List.setIfInBounds_toArray, List.set_cons_zero, List.set_cons_succ]
        refine wpAnyH_take (i := 17) (oi := _) (v := undef) rfl (by kernel_rfl) (by kernel_rfl) (by kernel_rfl) (fun _ _ _ h => h) (Or.inr ⟨by kernel_rfl, rfl⟩) (by assumption) ?_
        try simp only [Act.put, List.getElem_toArray, List.getElem_cons_zero, List.getElem_cons_succ, List.setIfInBounds_toArray, List.set_cons_zero, List.set_cons_succ]
        refine wpAnyH_take (i := 18) (oi := _) (v := undef) rfl (by kernel_rfl) (by kernel_rfl) (by kernel_rfl) (fun _ _ _ h => h) (Or.inr ⟨by kernel_rfl, rfl⟩) (by assumption) ?_
        try simp only [Act.put, List.getElem_toArray, List.getElem_cons_zero, List.getElem_cons_succ, List.setIfInBounds_toArray, List.set_cons_zero, List.set_cons_succ]
        refine wpAnyH_ready (rs := [19]) (by kernel_rfl) (by simp) ?_
        refine AllReadyH.cons (o := _) rfl (fun K hK => ?_) ?_
        rotate_left 1
        · exact AllReadyH.nil
        go_simp
        skip
        refine hK.out _ _ ?_ (fun hHeld => ?_)
        · (assumption)
        clear hK K
        try simp only [Act.put, List.getElem_toArray, List.getElem_cons_zero, List.getElem_cons_succ, List.setIfInBounds_toArray, List.set_cons_zero, List.set_cons_succ]
        refine wpAnyH_take (i := 20) (oi := _) (v := undef) rfl (by kernel_rfl) (by kernel_rfl) (by kernel_rfl) (fun _ _ _ h => h) (Or.inr ⟨by kernel_rfl, rfl⟩) (by assumption) ?_
        try simp only [Act.put, List.getElem_toArray, List.getElem_cons_zero, List.getElem_cons_succ, List.setIfInBounds_toArray, List.set_cons_zero, List.set_cons_succ]
        refine wpAnyH_take (i := 21) (oi := _) (v := ?_) rfl (by kernel_rfl) (by kernel_rfl) (by kernel_rfl) (fun _ _ _ h => h) (Or.inl ⟨by rfl, ?_⟩) (by assumption) ?_
        rotate_left 1
        · (intro w hSw; (try dsimp only at hSw); go_simp; all_goals (with_reducible rfl))
        try simp only [Act.put, List.getElem_toArray, List.getElem_cons_zero, List.getElem_cons_succ, List.setIfInBounds_toArray, List.set_cons_zero, List.set_cons_succ]
        refine wpAnyH_done (by kernel_rfl) ?_ _
        refine NoPanic.normal ?_
        have hBwA : Below w.heap.size w wr.drew := hB.drew
        clear hHeld hS0 hwr
        (repeat' ((fail_if_success at_builtin); first | go_values | go_skip | go_guarded | go_step | go_upon))
        go_ret2
        refine ⟨?_, hBwA⟩
        rw [← HE1.out, ← HE2.out]; rfl
    · obtain rfl : k = l.length := by omega
      have hend := HVER.out.symm.trans HV.out
      rw [verGo_end] at hend
      rw [List.take_length] at hgp
      obtain ⟨P, hP⟩ : ∃ P, headOf l = P := ⟨_, rfl⟩
      rw [hP] at hend hgp
      have hPl : P.length = 32 := by rw [← hP]; exact headOf_length l (fun x hx => (HOK.out x hx).ok)
      clear hP
      have HGH := Lib.hid (rangeAt_whole hgh); clear hgh
      have HGP := Lib.hid (rangeAt_whole hgp); clear hgp
      have HIH := Lib.hid (show (Tryd.prog.info? 26).map (·.size) = some (bvs head).length by rw [bvs_length, HH.out]; exact sizeSum)
      have HIP := Lib.hid (show (Tryd.prog.info? 26).map (·.size) = some (bvs P).length by rw [bvs_length, hPl]; exact sizeSum)
      obtain ⟨tb, htb⟩ : ∃ tb, (!decide (P = head)) = tb := ⟨_, rfl⟩
      have hneq := fun w => neqSum w P head hPl HH.out
      rw [htb] at hneq
      have HTB := Lib.hid htb; clear htb
      have HEND := Lib.hid hend; clear hend hPl
      clear HVER
      cases tb with
      | false =>
        have hph : P = head := by have := HTB.out; simpa using this
        have hfin := HEND.out
        rw [if_pos hph] at hfin
        have HE1 := Lib.hid (show 0 = vn from congrArg Prod.fst hfin)
        have HE2 := Lib.hid (show (0 : Int) = ve from congrArg Prod.snd hfin)
        clear hfin hph
        (repeat' ((fail_if_success at_builtin); first | (first | (with_reducible refine wpList_load_mid rfl 26 _ rfl w.heap.size 0 rfl (bvs head) _ HGH.out hu26 rfl HIH.out ?_) | (with_reducible refine wpList_load_mid rfl 26 _ rfl (w.heap.size + 1) 0 rfl (bvs P) _ HGP.out hu26 rfl HIP.out ?_)) | go_values | go_skip | go_guarded | go_step | go_upon))
        go_ret2
        refine ⟨?_, hB⟩
        rw [← HE1.out, ← HE2.out]; rfl
      | true =>
        have hph : P ≠ head := by have := HTB.out; simpa using this
        have hfin := HEND.out
        rw [if_neg hph] at hfin
        have HE1 := Lib.hid (show l.length + 1 = vn from congrArg Prod.fst hfin)
        have HE2 := Lib.hid (show (24 : Int) = ve from congrArg Prod.snd hfin)
        clear hfin hph
        (repeat' ((fail_if_success at_builtin); first | (first | (with_reducible refine wpList_load_mid rfl 26 _ rfl w.heap.size 0 rfl (bvs head) _ HGH.out hu26 rfl HIH.out ?_) | (with_reducible refine wpList_load_mid rfl 26 _ rfl (w.heap.size + 1) 0 rfl (bvs P) _ HGP.out hu26 rfl HIP.out ?_)) | go_values | go_skip | go_guarded | go_step | go_upon))
        go_ret2
        refine ⟨?_, hB⟩
        rw [← HE1.out, ← HE2.out]; rfl

end Go.Proofs.YtdpfemhfmofmlaaDoor
