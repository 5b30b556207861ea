/- The law AuditVerifies, walked. -/
import Derived.Test.YtdpfemhfmofmlaaDoorVer21
import Derived.Deep.DeepCutAuto
import Derived.Deep.CutRange
namespace Go.Proofs.YtdpfemhfmofmlaaDoor
set_option linter.unusedSimpArgs false
set_option linter.unusedVariables false
open Go.RowKit
set_option maxRecDepth 10000
--@PUT2

abbrev NxtS (wb : World) (z5 b o : Nat) (H : List UInt8) (x : Ent) (w' : World) : Prop := (w'.rangeAt z5 0 (bvs H) ∧ w'.rangeAt b o x.cells) ∧ Below wb.heap.size wb w'
theorem nxtS_below {wb w1 w2 : World} {z5 b o : Nat} {H : List UInt8} {x : Ent} (h : NxtS wb z5 b o H x w1) (hb : Below w1.heap.size w1 w2) : NxtS wb z5 b o H x w2 :=
  ⟨⟨rangeAt_below h.1.1 hb (Nat.le_refl _), rangeAt_below h.1.2 hb (Nat.le_refl _)⟩, h.2.trans (hb.mono h.2.size)⟩

set_option maxHeartbeats 16000000 in
theorem auditVerifies_walk (a : Option Addr) (n c : Nat) (xs : List Ent) (H : List UInt8) (at_ how : Int) (w : World) (hT : Tabs w) (hr : RdC w a (xs.flatMap Ent.cells)) (hok : ∀ x ∈ xs, x.Ok) (en : xs.length = n) (hnc : n ≤ c) (hn : c ≤ maxLen) (hH : H.length = 32) (hat : I64 at_) (hhow : I64 how) :
    Calls Tryd.prog 15 #[.slice a n c, .agg (bvs H).toArray, .int .i64 at_, .int .i64 how] w fun e w' => e = .returned (.bool true) ∧ Below w.heap.size w w' := by
  have hts := hT.size
  have hn9 : (n : Int) ≤ 9223372036854775807 := by unfold maxLen at hn; omega
  subst en
  have hsum : ∀ x ∈ xs, x.sum.length = 32 := fun x hx => (hok x hx).sum
  have HOK := Lib.hid hok; clear hok
  have HSUM := Lib.hid hsum; clear hsum
  have HHL := Lib.hid hH; clear hH
  have hu73 : Tryd.prog.underlying 73 = some _ := Tryd.underlying73
  have hu26 : Tryd.prog.underlying 26 = some _ := Tryd.underlying26
  obtain ⟨wz, hwz⟩ : ∃ wz, w.alloc (.cells (bvs H).toArray 26) = wz := ⟨_, rfl⟩
  have hBz : Below w.heap.size w wz := by rw [← hwz]; exact (Below.refl _ _).alloc (Nat.le_refl _) _
  have hgz : wz.heap[w.heap.size]? = some (.cells (bvs H).toArray 26 (0, 0)) := by rw [← hwz]; exact heap_alloc_new w _
  have hTz := hT.below hBz hts
  have hRz := hr.below hBz (Nat.le_refl _)
  have hsz : w.heap.size < wz.heap.size := (Array.getElem?_eq_some_iff.1 hgz).1
  have HWZ := Lib.hid hwz; clear hwz
  have HT := Lib.hid hTz; clear hTz
  have HR := Lib.hid hRz; clear hRz
  have HGZ := Lib.hid hgz; clear hgz
  clear hr hT
  go_enter Tryd.func15, Tryd.ntmps15
  (repeat' ((fail_if_success at_builtin); first | go_values | go_skip | go_guarded | go_step | go_upon))
  rw [HWZ.out]
  obtain ⟨z5, hz5⟩ : ∃ z5, w.heap.size = z5 := ⟨_, rfl⟩
  have hz5l : z5 < wz.heap.size := by omega
  have hgz := HGZ.out
  rw [hz5] at hgz
  try rw [hz5]
  have HGZ5 := Lib.hid hgz
  have HZ5 := Lib.hid hz5
  clear hgz hz5 hsz HGZ
  refine (big21 a xs.length c xs wz HR.out HSUM.out rfl).mono ?_
  rintro _ w0 ⟨rfl, hB0⟩
  dsimp only
  obtain ⟨tb, htb⟩ : ∃ tb, decide (100 < xs.length ∨ ∃ x ∈ xs, x.big) = tb := ⟨_, rfl⟩
  rw [htb]
  have htz := HT.out.size
  have hBw0 : Below w.heap.size w w0 := hBz.trans (hB0.mono hBz.size)
  have HT0 := Lib.hid (HT.out.below hB0 htz)
  have hts0 := HT0.out.size
  cases tb
  rotate_left 1
  · (repeat' ((fail_if_success at_builtin); first | go_values | go_skip | go_guarded | go_step | go_upon))
    refine (works21 w0 HT0.out).mono ?_
    rintro _ w1 ⟨rfl, hB1⟩
    dsimp only
    (repeat' ((fail_if_success at_builtin); first | go_values | go_skip | go_guarded | go_step | go_upon))
    go_ret
    exact ⟨rfl, hBw0.trans (hB1.mono hBw0.size)⟩
  have hb := of_decide_eq_false htb
  clear htb
  have hlen : xs.length ≤ 100 := by
    rcases Nat.lt_or_ge 100 xs.length with h | h
    · exact absurd (Or.inl h) hb
    · exact h
  have hsml : ∀ x ∈ xs, ¬ x.big := fun x hx h => hb (Or.inr ⟨x, hx, h⟩)
  have HSML := Lib.hid hsml; clear hsml
  have hfit : ∀ x ∈ xs, x.Fit := fun x hx => fit_of_small (HOK.out x hx) (HSML.out x hx)
  have HFIT := Lib.hid hfit; clear hfit
  have HR0 := Lib.hid (HR.out.below hB0 (Nat.le_refl _))
  have HG50 := Lib.hid ((hB0.block z5 hz5l).trans HGZ5.out)
  have hz50 : z5 < w0.heap.size := Nat.lt_of_lt_of_le hz5l hB0.size
  clear hb HR HGZ5 hB0
  (repeat' ((fail_if_success at_builtin); first | go_values | go_skip | go_guarded | go_step | go_upon))
  refine (oneRNew w0).mono ?_
  rintro _ w1 ⟨m, rfl, hL⟩
  dsimp only
  have HL := Lib.hid hL; clear hL
  (repeat' ((fail_if_success at_builtin); first | go_values | go_skip | go_guarded | go_step | go_upon))
  go_loopw [10] (fun i wr => ∃ k : Nat, k ≤ xs.length ∧ i = .int .i64 k ∧ OneR w0 m k wr) (fun i _ => xs.length - (intOf i).toNat)
  case atStart => exact ⟨0, by omega, rfl, HL.out⟩
  case round =>
    obtain ⟨k, hk, rfl, hL⟩ := hrel
    have hBr : Below w0.heap.size w0 wr := by obtain ⟨S, cs, h1, h2, h3, _⟩ := hL.out; exact h3
    have HL := Lib.hid hL; clear hL
    by_cases hlt : k < xs.length
    · obtain ⟨b, off, hba, hra⟩ := ents_at HR0.out HSUM.out k hlt
      have HX := Lib.hid (List.getElem_mem hlt)
      generalize xs[k] = x at *
      have HRA := Lib.hid hra; clear hra
      have hxs : x.sum.length = 32 := HSUM.out x HX.out
      have hix : (Tryd.prog.info? 73).map (·.size) = some x.cells.length := by rw [Ent.cells_length hxs]; exact entSize
      have HIX := Lib.hid hix
      have HRW := Lib.hid (rangeAt_below HRA.out hBr (Nat.le_refl _))
      have bk : (0 : Int) ≤ (k : Int) ∧ (k : Int) < (xs.length : Int) := by omega
      subst hba
      clear hxs hix
      (repeat' ((fail_if_success at_builtin); first | ((with_reducible refine wpList_load_mid rfl 73 _ rfl b (off + k * 39) rfl x.cells _ HRW.out hu73 rfl HIX.out ?_)) | go_values | go_skip | go_guarded | go_step | go_upon))
      refine (oneRAdd w0 m k ⟨#[]⟩ x wr HL.out (by omega) (HFIT.out x HX.out) (HSML.out x HX.out)).mono ?_
      rintro _ w2 ⟨⟨v, rfl⟩, hL2⟩
      dsimp only
      have hB2 : Below w0.heap.size w0 w2 := by obtain ⟨S, cs, h1, h2, h3, _⟩ := hL2.out; exact h3
      have HL2 := Lib.hid hL2; clear hL2
      obtain ⟨D, hD⟩ : ∃ D, x.next H = D := ⟨_, rfl⟩
      have hDl : D.length = 32 := by rw [← hD]; exact Ent.next_length _ _
      have HD := Lib.hid hD; clear hD
      have hS0 : NxtS w2 z5 b (off + k * 39) H x w2.drew := nxtS_below (w1 := w2) ⟨⟨rangeAt_below (rangeAt_whole HG50.out) hB2 (Nat.le_refl _), rangeAt_below HRA.out hB2 (Nat.le_refl _)⟩, Below.refl _ _⟩ (Below.refl _ _).drew
      have hneqD := fun w => neqSum w D D hDl hDl
      rw [decide_eq_true (rfl : D = D)] at hneqD
      have hiX := HIX.out
      have hiH : (Tryd.prog.info? 26).map (·.size) = some (bvs H).length := by rw [bvs_length, HHL.out]; exact sizeSum
      have hTb : ∀ wx, Below w2.heap.size w2 wx → Tabs wx := fun wx h => HT0.out.below (hB2.trans (h.mono hB2.size)) hts0
      clear HRW hDl
      (repeat' ((fail_if_success at_builtin); first | go_values | go_skip | go_guarded | go_step | go_upon))
      refine wp_region_noPanic ?_
      refine wp_region_held_drew (S := NxtS w2 z5 b (off + k * 39) H x) (by kernel_rfl) ?_ (fun hHeld => ?_)
      · (exact hS0)
      refine' wpAnyH_take (i := 0) (oi := _) (v := _) rfl (by kernel_rfl) (by kernel_rfl) (by kernel_rfl) (fun _ _ _ h => h) (yieldsIf_load_mid (by rfl) _ _ rfl _ _ rfl _ _ ?ls1 ?lu1 ?ld1 ?li1) (by assumption) ?lr1
      case ls1 => (intro w hSw; (try dsimp only at hSw); go_split_ands; assumption)
      case lu1 => assumption
      case ld1 => rfl
      case li1 => first | assumption | (simp only [*]; done)
      try simp only [Act.put, List.getElem_toArray, List.getElem_cons_zero, List.getElem_cons_succ, List.setIfInBounds_toArray, List.set_cons_zero, List.set_cons_succ]
      refine wpAnyH_take (i := 1) (oi := _) (v := ?_) rfl (by kernel_rfl) (by kernel_rfl) (by kernel_rfl) (fun _ _ _ h => h) (Or.inl ⟨by rfl, ?_⟩) (by assumption) ?_
      rotate_left 1
      · (intro w hSw; (try dsimp only at hSw); go_simp; all_goals (with_reducible rfl))
      try simp only [Act.put, List.getElem_toArray, List.getElem_cons_zero, List.getElem_cons_succ, List.setIfInBounds_toArray, List.set_cons_zero, List.set_cons_succ]
      refine wpAnyH_take (i := 2) (oi := _) (v := ?_) rfl (by kernel_rfl) (by kernel_rfl) (by kernel_rfl) (fun _ _ _ h => h) (Or.inl ⟨by rfl, ?_⟩) (by assumption) ?_
      rotate_left 1
      · (intro w hSw; (try dsimp only at hSw); go_simp; all_goals (with_reducible rfl))
      try simp only [Act.put, List.getElem_toArray, List.getElem_cons_zero, List.getElem_cons_succ, List.setIfInBounds_toArray, List.set_cons_zero, List.set_cons_succ]
      refine wpAnyH_take (i := 3) (oi := _) (v := ?_) rfl (by kernel_rfl) (by kernel_rfl) (by kernel_rfl) (fun _ _ _ h => h) (Or.inl ⟨by rfl, ?_⟩) (by assumption) ?_
      rotate_left 1
      · (intro w hSw; (try dsimp only at hSw); go_simp; all_goals (with_reducible rfl))
      try simp only [Act.put, List.getElem_toArray, List.getElem_cons_zero, List.getElem_cons_succ, List.setIfInBounds_toArray, List.set_cons_zero, List.set_cons_succ]
      refine' wpAnyH_take (i := 4) (oi := _) (v := _) rfl (by kernel_rfl) (by kernel_rfl) (by kernel_rfl) (fun _ _ _ h => h) (yieldsIf_load_mid (by rfl) _ _ rfl _ _ rfl _ _ ?ls2 ?lu2 ?ld2 ?li2) (by assumption) ?lr2
      case ls2 => (intro w hSw; (try dsimp only at hSw); go_split_ands; assumption)
      case lu2 => assumption
      case ld2 => rfl
      case li2 => first | assumption | (simp only [*]; done)
      try simp only [Act.put, List.getElem_toArray, List.getElem_cons_zero, List.getElem_cons_succ, List.setIfInBounds_toArray, List.set_cons_zero, List.set_cons_succ]
      refine' wpAnyH_take (i := 6) (oi := _) (v := _) rfl (by kernel_rfl) (by kernel_rfl) (by kernel_rfl) (fun _ _ _ h => h) (yieldsIf_load_mid (by rfl) _ _ rfl _ _ rfl _ _ ?ls3 ?lu3 ?ld3 ?li3) (by assumption) ?lr3
      case ls3 => (intro w hSw; (try dsimp only at hSw); go_split_ands; assumption)
      case lu3 => assumption
      case ld3 => rfl
      case li3 => first | assumption | (simp only [*]; done)
      try simp only [Act.put, List.getElem_toArray, List.getElem_cons_zero, List.getElem_cons_succ, List.setIfInBounds_toArray, List.set_cons_zero, List.set_cons_succ]
      refine wpAnyH_take (i := 7) (oi := _) (v := ?_) rfl (by kernel_rfl) (by kernel_rfl) (by kernel_rfl) (fun _ _ _ h => h) (Or.inl ⟨by rfl, ?_⟩) (by assumption) ?_
      rotate_left 1
      · (intro w hSw; (try dsimp only at hSw); go_simp; all_goals (with_reducible rfl))
      try simp only [Act.put, List.getElem_toArray, List.getElem_cons_zero, List.getElem_cons_succ, List.setIfInBounds_toArray, List.set_cons_zero, List.set_cons_succ]
      refine wpAnyH_take (i := 8) (oi := _) (v := ?_) rfl (by kernel_rfl) (by kernel_rfl) (by kernel_rfl) (fun _ _ _ h => h) (Or.inl ⟨by rfl, ?_⟩) (by assumption) ?_
      rotate_left 1
      · (intro w hSw; (try dsimp only at hSw); go_simp; all_goals (with_reducible rfl))
      try simp only [Act.put, List.getElem_toArray, List.getElem_cons_zero, List.getElem_cons_succ, List.setIfInBounds_toArray, List.set_cons_zero, List.set_cons_succ]
      refine wpAnyH_take (i := 9) (oi := _) (v := ?_) rfl (by kernel_rfl) (by kernel_rfl) (by kernel_rfl) (fun _ _ _ h => h) (Or.inl ⟨by rfl, ?_⟩) (by assumption) ?_
      rotate_left 1
      · (intro w hSw; (try dsimp only at hSw); go_simp; all_goals (with_reducible rfl))
      try simp only [Act.put, List.getElem_toArray, List.getElem_cons_zero, List.getElem_cons_succ, List.setIfInBounds_toArray, List.set_cons_zero, List.set_cons_succ]
      refine' wpAnyH_take (i := 10) (oi := _) (v := _) rfl (by kernel_rfl) (by kernel_rfl) (by kernel_rfl) (fun _ _ _ h => h) (yieldsIf_load_mid (by rfl) _ _ rfl _ _ rfl _ _ ?ls4 ?lu4 ?ld4 ?li4) (by assumption) ?lr4
      case ls4 => (intro w hSw; (try dsimp only at hSw); go_split_ands; assumption)
      case lu4 => assumption
      case ld4 => rfl
      case li4 => first | assumption | (simp only [*]; done)
      try simp only [Act.put, List.getElem_toArray, List.getElem_cons_zero, List.getElem_cons_succ, List.setIfInBounds_toArray, List.set_cons_zero, List.set_cons_succ]
      refine wpAnyH_ready (rs := [5]) (by kernel_rfl) (by simp) ?_
      refine AllReadyH.cons (o := _) rfl (fun K hK => ?_) ?_
      rotate_left 1
      · exact AllReadyH.nil
      go_simp
      go_at_call 61
      refine (auditNext H D x _ HD.out (hTb _ hHeld.2) HHL.out (HFIT.out x HX.out).ok (HFIT.out x HX.out).str (HFIT.out x HX.out).sub).mono ?_
      rintro _ wA ⟨rfl, hBA⟩
      dsimp only
      refine hK.out _ _ ?_ (fun hHeld => ?_)
      · (apply nxtS_below; assumption; assumption)
      clear hK K
      try simp only [Act.put, List.getElem_toArray, List.getElem_cons_zero, List.getElem_cons_succ, List.setIfInBounds_toArray, List.set_cons_zero, List.set_cons_succ]
      refine wpAnyH_ready (rs := [11]) (by kernel_rfl) (by simp) ?_
      refine AllReadyH.cons (o := _) rfl (fun K hK => ?_) ?_
      rotate_left 1
      · exact AllReadyH.nil
      go_simp
      go_at_call 62
      refine (refNext21 H D x _ HD.out HHL.out (HFIT.out x HX.out)).mono ?_
      rintro _ wB ⟨rfl, hBB⟩
      dsimp only
      refine hK.out _ _ ?_ (fun hHeld => ?_)
      · (apply nxtS_below; assumption; assumption)
      clear hK K
      try simp only [Act.put, List.getElem_toArray, List.getElem_cons_zero, List.getElem_cons_succ, List.setIfInBounds_toArray, List.set_cons_zero, List.set_cons_succ]
      refine wpAnyH_take (i := 12) (oi := _) (v := ?_) rfl (by kernel_rfl) (by kernel_rfl) (by kernel_rfl) (fun _ _ _ h => h) (Or.inl ⟨by rfl, ?_⟩) (by assumption) ?_
      rotate_left 1
      · (intro w hSw; (try dsimp only at hSw); go_simp; all_goals (with_reducible rfl))
      try simp only [Act.put, List.getElem_toArray, List.getElem_cons_zero, List.getElem_cons_succ, List.setIfInBounds_toArray, List.set_cons_zero, List.set_cons_succ]
      refine wpAnyH_done (by kernel_rfl) ?_ _
      refine NoPanic.normal ?_
      have hN := HL2.out.below hHeld.2
      have HN := Lib.hid hN
      clear hN hHeld hS0 hneqD hiX hiH hTb hBA hBB
      (repeat' ((fail_if_success at_builtin); first | go_values | go_skip | go_guarded | go_step | go_upon))
      go_roundw
      case rel => exact ⟨k + 1, by omega, by go_num, HN.out⟩
      case measure => simp [intOf]; omega
    obtain rfl : k = xs.length := by omega
    (repeat' ((fail_if_success at_builtin); first | go_values | go_skip | go_guarded | go_step | go_upon))
    refine (oneRAll w0 m xs.length ⟨#[]⟩ wr HL.out (by omega)).mono ?_
    rintro _ wr' ⟨l, a4, c4, rfl, hll, hlf, hr4, rfl⟩
    dsimp only
    have HLF := Lib.hid hlf
    have HR4 := Lib.hid hr4
    have HLR := Lib.hid HL.out
    clear hlf hr4 HL
    (repeat' ((fail_if_success at_builtin); first | go_values | go_skip | go_guarded | go_step | go_upon))
    refine (copyEntries a4 l.length c4 l wr HR4.out (fun x hx => (HLF.out x hx).1.ok.sum) rfl (by omega)).mono ?_
    rintro _ w4 ⟨a5, c5, rfl, hc5, hm5, hr5, hB5, hO5⟩
    dsimp only
    have HR5 := Lib.hid hr5
    have HO5 := Lib.hid hO5
    obtain ⟨iS, zS, hiS, hzS, hsS⟩ := sumInfo_parts
    have HIS := Lib.hid hiS
    have HZS := Lib.hid hzS
    have HSS := Lib.hid hsS
    clear hr5 hO5 HR4 hiS hzS hsS
    by_cases hl0 : 0 < l.length
    · have b1 := pick_lt at_ (l.length : Int) (by omega)
      obtain ⟨p1, hp1⟩ : ∃ p, pick at_ (l.length : Int) = p := ⟨_, rfl⟩
      rw [hp1] at b1
      obtain ⟨j, hj⟩ : ∃ j : Nat, p1 = (j : Int) := ⟨p1.toNat, by omega⟩
      subst hj
      have HP1 := Lib.hid hp1
      have hjl : j < l.length := by omega
      clear hp1
      obtain ⟨b, off, hba, hra⟩ := ents_at HR5.out (fun x hx => (HLF.out x hx).1.ok.sum) j hjl
      have hoff : off = 0 := by
        rw [hba] at HO5
        rcases HO5.out.2 with ⟨e, _⟩ | ⟨_, _, _, e, _⟩
        · cases e
        · cases e; rfl
      subst hoff
      subst hba
      have HX := Lib.hid (List.getElem_mem hjl)
      generalize hxx : l[j] = x at *
      clear hxx
      have hxs : x.sum.length = 32 := (HLF.out x HX.out).1.ok.sum
      have hix : (Tryd.prog.info? 73).map (·.size) = some x.cells.length := by rw [Ent.cells_length hxs]; exact entSize
      have HIX := Lib.hid hix
      have HRA := Lib.hid hra
      have hxb : x.stream.size ≤ 512 ∧ x.subject.size ≤ 512 := by have := (HLF.out x HX.out).2; unfold Ent.big at this; omega
      have bj : (0 : Int) ≤ (j : Int) ∧ (j : Int) < (l.length : Int) := by omega
      rw [Nat.zero_add] at hra
      clear hix hxs
      (repeat' ((fail_if_success at_builtin); first | go_values | go_skip | go_guarded | go_step | go_upon))
      refine (pickAny at_ (l.length : Int) w4 hat (by omega)).mono ?_
      rintro _ w4' ⟨rfl, rfl⟩
      dsimp only
      rw [HP1.out]
      have HRA2 := Lib.hid hra
      clear hra HRA
      (repeat' ((fail_if_success at_builtin); first | ((with_reducible refine wpList_load_mid rfl 73 _ rfl b (j * 39) rfl x.cells _ HRA2.out hu73 rfl HIX.out ?_)) | go_values | go_skip | go_guarded | go_step | go_upon))
      refine (turned21 x how w4 (HLF.out x HX.out).1.ok hxb.1 hxb.2 hhow).mono ?_
      rintro _ w6 ⟨y, rfl, hyf, hB6⟩
      dsimp only
      have hO6 := owns_below HO5.out hB6 (Nat.le_refl _)
      obtain ⟨cur, cap, hcur, hsz, hnc⟩ : ∃ cur cap, w6.heap[b]? = some (.cells cur 73 (0, 0)) ∧ cur.size = cap * 39 ∧ l.length ≤ cap := by
        rcases hO6.2 with ⟨e, _⟩ | ⟨g', cap, cur, e, _, hh, h1, h2, h3, _⟩
        · cases e
        · cases e; exact ⟨cur, _, hh, h3, h1⟩
      have hyl : y.cells.length = 39 := Ent.cells_length hyf.ok.sum
      have HCUR := Lib.hid hcur
      have HIY := Lib.hid (show (Tryd.prog.info? 73).map (·.size) = some y.cells.length by rw [hyl]; exact entSize)
      have HFT := Lib.hid (show j * 39 + y.cells.length ≤ cur.size by rw [hyl, hsz]; have := Nat.mul_le_mul_right 39 (show j + 1 ≤ cap by omega); omega)
      have HOY := Lib.hid y.cells_oneCell
      have HO6 := Lib.hid hO6
      have HYF := Lib.hid hyf
      clear hcur hsz hnc hyl hO6 hyf
      (repeat' ((fail_if_success at_builtin); first | (((with_reducible refine wpList_store_blk rfl 73 _ _ rfl b (j * 39) y.cells rfl rfl _ _ HCUR.out HFT.out HIY.out HOY.out ?_); intro wX hg7 hG7; have HG7 := Lib.hid hg7; clear hg7)) | go_values | go_skip | go_guarded | go_step | go_upon))
      obtain ⟨l', hl'⟩ : ∃ l', l.set j y = l' := ⟨_, rfl⟩
      have hln : l'.length = l.length := by rw [← hl', List.length_set]
      have hbw : wr.heap.size ≤ b := (owns_span HO5.out b rfl).1
      have HRX := Lib.hid (show RdC wX (some ⟨b, 0, none⟩) (l'.flatMap Ent.cells) by rw [← hl']; exact owns_put HO6.out rfl (fun x hx => (HLF.out x hx).1.ok.sum) HYF.out.ok.sum hjl HCUR.out HG7.out)
      have HFX := Lib.hid (show ∀ x ∈ l', x.Fit by
        intro x hx
        rw [← hl'] at hx
        rcases List.mem_or_eq_of_mem_set hx with h2 | h2
        · exact (HLF.out x h2).1
        · rw [h2]; exact HYF.out)
      have hBX : Below wr.heap.size wr wX := (hB5.trans (hB6.mono hB5.size)).grown hG7 (Nat.le_trans hB5.size hB6.size) (fun k e => by cases e; exact hbw)
      obtain ⟨a5, ha5⟩ : ∃ a5, some (⟨b, 0, none⟩ : Addr) = a5 := ⟨_, rfl⟩
      rw [ha5] at HRX
      rw [ha5, ← hln]
      have hl'l : l'.length ≤ xs.length := by omega
      have hc5' : l'.length ≤ c5 := by omega
      clear hl' hln hbw ha5 hG7
      have hLX := HLR.out.below hBX
      have HLX := Lib.hid hLX
      have hB0X : Below w0.heap.size w0 wX := hBr.trans (hBX.mono hBr.size)
      have hS0 : Hol2 wX z5 H wX.drew := hol2_below (w1 := wX) ⟨rangeAt_below (rangeAt_whole HG50.out) hB0X (Nat.le_refl _), Below.refl _ _⟩ (Below.refl _ _).drew
      have hiH : (Tryd.prog.info? 26).map (·.size) = some (bvs H).length := by rw [bvs_length, HHL.out]; exact sizeSum
      clear hLX
      (repeat' ((fail_if_success at_builtin); first | go_values | go_skip | go_guarded | go_step | go_upon))
      refine wp_region_noPanic ?_
      refine wp_region_held_drew (S := Hol2 wX z5 H) (by kernel_rfl) ?_ (fun hHeld => ?_)
      · (exact hS0)
      refine' wpAnyH_take (i := 0) (oi := _) (v := _) rfl (by kernel_rfl) (by kernel_rfl) (by kernel_rfl) (fun _ _ _ h => h) (yieldsIf_load_mid (by rfl) _ _ rfl _ _ rfl _ _ ?ls5 ?lu5 ?ld5 ?li5) (by assumption) ?lr5
      case ls5 => (intro w hSw; (try dsimp only at hSw); go_split_ands; assumption)
      case lu5 => assumption
      case ld5 => rfl
      case li5 => first | assumption | (simp only [*]; done)
      try simp only [Act.put, List.getElem_toArray, List.getElem_cons_zero, List.getElem_cons_succ, List.setIfInBounds_toArray, List.set_cons_zero, List.set_cons_succ]
      refine wpAnyH_take (i := 1) (oi := _) (v := ?_) rfl (by kernel_rfl) (by kernel_rfl) (by kernel_rfl) (fun _ _ _ h => h) (Or.inl ⟨by rfl, ?_⟩) (by assumption) ?_
      rotate_left 1
      · (intro w hSw; (try dsimp only at hSw); go_simp; all_goals (with_reducible rfl))
      try simp only [Act.put, List.getElem_toArray, List.getElem_cons_zero, List.getElem_cons_succ, List.setIfInBounds_toArray, List.set_cons_zero, List.set_cons_succ]
      refine wpAnyH_take (i := 3) (oi := _) (v := ?_) rfl (by kernel_rfl) (by kernel_rfl) (by kernel_rfl) (fun _ _ _ h => h) (Or.inl ⟨by rfl, ?_⟩) (by assumption) ?_
      rotate_left 1
      · (intro w hSw; (try dsimp only at hSw); go_simp; all_goals (with_reducible rfl))
      try simp only [Act.put, List.getElem_toArray, List.getElem_cons_zero, List.getElem_cons_succ, List.setIfInBounds_toArray, List.set_cons_zero, List.set_cons_succ]
      refine wpAnyH_ready (rs := [2]) (by kernel_rfl) (by simp) ?_
      refine AllReadyH.cons (o := _) rfl (fun K hK => ?_) ?_
      rotate_left 1
      · exact AllReadyH.nil
      go_simp
      go_at_call 66
      refine (oneRHead w0 m xs.length ⟨#[]⟩ _ (HLX.out.below hHeld.2) (by omega)).mono ?_
      rintro _ wY ⟨P, rfl, hPl, hBY⟩
      dsimp only
      refine hK.out _ _ ?_ (fun hHeld => ?_)
      · (apply hol2_below; assumption; assumption)
      clear hK K
      try simp only [Act.put, List.getElem_toArray, List.getElem_cons_zero, List.getElem_cons_succ, List.setIfInBounds_toArray, List.set_cons_zero, List.set_cons_succ]
      have HPL := Lib.hid hPl
      refine wpAnyH_ready (rs := [4]) (by kernel_rfl) (by simp) ?_
      refine AllReadyH.cons (o := _) rfl (fun K hK => ?_) ?_
      rotate_left 1
      · exact AllReadyH.nil
      refine step_build_three (by kernel_rfl) 80 26 _ _ _ rfl Tryd.underlying80 32 (bvs H) (bvs P) (bvs zeros32) (by rw [bvs_length, HHL.out]) (by rw [bvs_length, HPL.out]) rfl rfl rfl rfl iS zS HIS.out HZS.out HSS.out (by decide) (by decide) ?_
      intro wZ hgZ hBZ hsZ
      refine hK.out _ _ ?_ (fun hHeld => ?_)
      · (apply hol2_below; assumption; assumption)
      clear hK K
      try simp only [Act.put, List.getElem_toArray, List.getElem_cons_zero, List.getElem_cons_succ, List.setIfInBounds_toArray, List.set_cons_zero, List.set_cons_succ]
      refine wpAnyH_take (i := 5) (oi := _) (v := ?_) rfl (by kernel_rfl) (by kernel_rfl) (by kernel_rfl) (fun _ _ _ h => h) (Or.inl ⟨by rfl, ?_⟩) (by assumption) ?_
      rotate_left 1
      · (intro w hSw; (try dsimp only at hSw); go_simp; all_goals (with_reducible rfl))
      try simp only [Act.put, List.getElem_toArray, List.getElem_cons_zero, List.getElem_cons_succ, List.setIfInBounds_toArray, List.set_cons_zero, List.set_cons_succ]
      refine wpAnyH_done (by kernel_rfl) ?_ _
      refine NoPanic.normal ?_
      have hBXZ := hHeld.2
      have HGZ := Lib.hid hgZ
      obtain ⟨z12, hz12⟩ : ∃ z, wY.heap.size = z := ⟨_, rfl⟩
      rw [hz12] at hgZ
      try rw [hz12]
      have HGZ2 := Lib.hid hgZ
      have hz12l : z12 < wZ.heap.size := by omega
      have hXl : wX.heap.size ≤ wZ.heap.size := hBXZ.size
      have HRZ := Lib.hid (HRX.out.below hBXZ (Nat.le_refl _))
      have hB0Z : Below w0.heap.size w0 wZ := hB0X.trans (hBXZ.mono hB0X.size)
      have HR0Z := Lib.hid (HR0.out.below hB0Z (Nat.le_refl _))
      clear hHeld hS0 hiH hgZ HGZ hBY hBZ hsZ hz12 HRX
      (repeat' ((fail_if_success at_builtin); first | go_values | go_skip | go_guarded | go_step | go_upon))
      go_loopw [13] (fun i wr => ∃ k : Nat, k ≤ 3 ∧ i = .int .i64 k ∧ Below wZ.heap.size wZ wr) (fun i _ => 3 - (intOf i).toNat)
      case atStart => exact ⟨0, by omega, rfl, Below.refl _ _⟩
      case round =>
        obtain ⟨i, hi, rfl, hBi⟩ := hrel
        have hB0i : Below w0.heap.size w0 wr := hB0Z.trans (hBi.mono hB0Z.size)
        by_cases hlt : i < 3
        · obtain ⟨Q, hQl, hQr⟩ := heads_at HGZ2.out HHL.out HPL.out rfl i hlt
          have HQL := Lib.hid hQl
          have HQR := Lib.hid hQr
          have hiQ : (Tryd.prog.info? 26).map (·.size) = some (bvs Q).length := by rw [bvs_length, hQl]; exact sizeSum
          have HIQ := Lib.hid hiQ
          obtain ⟨vn, ve, hv1⟩ : ∃ vn ve, verify l' Q = (vn, ve) := ⟨_, _, rfl⟩
          obtain ⟨un, ue, hv2⟩ : ∃ un ue, verify xs Q = (un, ue) := ⟨_, _, rfl⟩
          have HV1 := Lib.hid hv1
          have HV2 := Lib.hid hv2
          have bi : (0 : Int) ≤ (i : Int) ∧ (i : Int) < 3 := by omega
          have tv1 : ((vn : Int) != (vn : Int)) = false := by simp
          have tv2 : (ve != ve) = false := by simp
          have tu1 : ((un : Int) != (un : Int)) = false := by simp
          have tu2 : (ue != ue) = false := by simp
          clear hQl hQr hv1 hv2
          (repeat' ((fail_if_success at_builtin); first | go_values | go_skip | go_guarded | go_step | go_upon))
          refine (lentEntries a5 l'.length c5 l' wr (HRZ.out.below hBi (Nat.le_refl _)) (fun x hx => (HFX.out x hx).ok.sum) rfl (by omega)).mono ?_
          rintro _ wA ⟨a6, c6, rfl, hc6, hm6, hr6, hBA, _⟩
          dsimp only
          have hlm : (l' ++ marksE).length = l'.length + 5 := by simp [marksE]
          rw [hlm] at hc6 ⊢
          have HR6 := Lib.hid hr6
          have hsl := fun w => run_slice_toS (P := Tryd.prog) 68 73 39 Tryd.underlying68 entSize a6 (l'.length + 5) c6 l'.length (by omega) w
          have hZA : Below wZ.heap.size wZ wA := hBi.trans (hBA.mono hBi.size)
          have hTb : ∀ wx, Below wA.heap.size wA wx → Tabs wx := fun wx h => HT0.out.below (hB0i.trans ((hBA.mono hB0i.size).trans (h.mono (Nat.le_trans hB0i.size hBA.size)))) hts0
          have HTB := Lib.hid hTb
          have hS1 : HedS wA z12 (i * 32) Q wA.drew := hedS_below (w1 := wA) ⟨rangeAt_below HQR.out hZA (Nat.le_refl _), Below.refl _ _⟩ (Below.refl _ _).drew
          clear hr6 hlm hTb
          (repeat' ((fail_if_success at_builtin); first | go_values | go_skip | go_guarded | go_step | go_upon))
          refine wp_region_noPanic ?_
          refine wp_region_held_drew (S := HedS wA z12 (i * 32) Q) (by kernel_rfl) ?_ (fun hHeld => ?_)
          · (exact hS1)
          refine wpAnyH_take (i := 0) (oi := _) (v := ?_) rfl (by kernel_rfl) (by kernel_rfl) (by kernel_rfl) (fun _ _ _ h => h) (Or.inl ⟨by rfl, ?_⟩) (by assumption) ?_
          rotate_left 1
          · (intro w hSw; (try dsimp only at hSw); go_simp; all_goals (with_reducible rfl))
          try simp only [Act.put, List.getElem_toArray, List.getElem_cons_zero, List.getElem_cons_succ, List.setIfInBounds_toArray, List.set_cons_zero, List.set_cons_succ]
          refine wpAnyH_take (i := 1) (oi := _) (v := ?_) rfl (by kernel_rfl) (by kernel_rfl) (by kernel_rfl) (fun _ _ _ h => h) (Or.inl ⟨by rfl, ?_⟩) (by assumption) ?_
          rotate_left 1
          · (intro w hSw; (try dsimp only at hSw); go_simp; all_goals (with_reducible rfl))
          try simp only [Act.put, List.getElem_toArray, List.getElem_cons_zero, List.getElem_cons_succ, List.setIfInBounds_toArray, List.set_cons_zero, List.set_cons_succ]
          refine wpAnyH_take (i := 2) (oi := _) (v := ?_) rfl (by kernel_rfl) (by kernel_rfl) (by kernel_rfl) (fun _ _ _ h => h) (Or.inl ⟨by rfl, ?_⟩) (by assumption) ?_
          rotate_left 1
          · (intro w hSw; (try dsimp only at hSw); go_simp; all_goals (with_reducible rfl))
          try simp only [Act.put, List.getElem_toArray, List.getElem_cons_zero, List.getElem_cons_succ, List.setIfInBounds_toArray, List.set_cons_zero, List.set_cons_succ]
          refine wpAnyH_take (i := 3) (oi := _) (v := ?_) rfl (by kernel_rfl) (by kernel_rfl) (by kernel_rfl) (fun _ _ _ h => h) (Or.inl ⟨by rfl, ?_⟩) (by assumption) ?_
          rotate_left 1
          · (intro w hSw; (try dsimp only at hSw); go_simp; all_goals (with_reducible rfl))
          try simp only [Act.put, List.getElem_toArray, List.getElem_cons_zero, List.getElem_cons_succ, List.setIfInBounds_toArray, List.set_cons_zero, List.set_cons_succ]
          refine wpAnyH_take (i := 4) (oi := _) (v := ?_) rfl (by kernel_rfl) (by kernel_rfl) (by kernel_rfl) (fun _ _ _ h => h) (Or.inl ⟨by rfl, ?_⟩) (by assumption) ?_
          rotate_left 1
          · (intro w hSw; (try dsimp only at hSw); go_simp; all_goals (with_reducible rfl))
          try simp only [Act.put, List.getElem_toArray, List.getElem_cons_zero, List.getElem_cons_succ, List.setIfInBounds_toArray, List.set_cons_zero, List.set_cons_succ]
          refine wpAnyH_take (i := 5) (oi := _) (v := ?_) rfl (by kernel_rfl) (by kernel_rfl) (by kernel_rfl) (fun _ _ _ h => h) (Or.inl ⟨by rfl, ?_⟩) (by assumption) ?_
          rotate_left 1
          · (intro w hSw; (try dsimp only at hSw); go_simp; all_goals (with_reducible rfl))
          try simp only [Act.put, List.getElem_toArray, List.getElem_cons_zero, List.getElem_cons_succ, List.setIfInBounds_toArray, List.set_cons_zero, List.set_cons_succ]
          refine wpAnyH_take (i := 6) (oi := _) (v := ?_) rfl (by kernel_rfl) (by kernel_rfl) (by kernel_rfl) (fun _ _ _ h => h) (Or.inl ⟨by rfl, ?_⟩) (by assumption) ?_
          rotate_left 1
          · (intro w hSw; (try dsimp only at hSw); go_simp; all_goals (with_reducible rfl))
          try simp only [Act.put, List.getElem_toArray, List.getElem_cons_zero, List.getElem_cons_succ, List.setIfInBounds_toArray, List.set_cons_zero, List.set_cons_succ]
          refine' wpAnyH_take (i := 7) (oi := _) (v := _) rfl (by kernel_rfl) (by kernel_rfl) (by kernel_rfl) (fun _ _ _ h => h) (yieldsIf_load_mid (by rfl) _ _ rfl _ _ rfl _ _ ?ls6 ?lu6 ?ld6 ?li6) (by assumption) ?lr6
          case ls6 => (intro w hSw; (try dsimp only at hSw); go_split_ands; assumption)
          case lu6 => assumption
          case ld6 => rfl
          case li6 => first | assumption | (simp only [*]; done)
          try simp only [Act.put, List.getElem_toArray, List.getElem_cons_zero, List.getElem_cons_succ, List.setIfInBounds_toArray, List.set_cons_zero, List.set_cons_succ]
          refine wpAnyH_ready (rs := [8]) (by kernel_rfl) (by simp) ?_
          refine AllReadyH.cons (o := _) rfl (fun K hK => ?_) ?_
          rotate_left 1
          · exact AllReadyH.nil
          go_simp
          go_at_call 68
          refine (auditVerify a6 l'.length c6 l' Q vn ve _ HV1.out (HTB.out _ hHeld.2) (by have := rdc_take (HR6.out.below hHeld.2 (Nat.le_refl _)) (l'.length * 39);rwa [List.flatMap_append, List.take_left' (ents_length l' (fun x hx => (HFX.out x hx).ok.sum))] at this) (fun x hx => ⟨(HFX.out x hx).ok, (HFX.out x hx).str, (HFX.out x hx).sub⟩) rfl (by omega) (by omega) HQL.out).mono ?_
          rintro _ wB ⟨rfl, hBB⟩
          dsimp only
          refine hK.out _ _ ?_ (fun hHeld => ?_)
          · (apply hedS_below; assumption; assumption)
          clear hK K
          try simp only [Act.put, List.getElem_toArray, List.getElem_cons_zero, List.getElem_cons_succ, List.setIfInBounds_toArray, List.set_cons_zero, List.set_cons_succ]
          refine wpAnyH_take (i := 9) (oi := _) (v := ?_) rfl (by kernel_rfl) (by kernel_rfl) (by kernel_rfl) (fun _ _ _ h => h) (Or.inl ⟨by rfl, ?_⟩) (by assumption) ?_
          rotate_left 1
          · (intro w hSw; (try dsimp only at hSw); go_simp; all_goals (with_reducible rfl))
          try simp only [Act.put, List.getElem_toArray, List.getElem_cons_zero, List.getElem_cons_succ, List.setIfInBounds_toArray, List.set_cons_zero, List.set_cons_succ]
          refine wpAnyH_take (i := 10) (oi := _) (v := ?_) rfl (by kernel_rfl) (by kernel_rfl) (by kernel_rfl) (fun _ _ _ h => h) (Or.inl ⟨by rfl, ?_⟩) (by assumption) ?_
          rotate_left 1
          · (intro w hSw; (try dsimp only at hSw); go_simp; all_goals (with_reducible rfl))
          try simp only [Act.put, List.getElem_toArray, List.getElem_cons_zero, List.getElem_cons_succ, List.setIfInBounds_toArray, List.set_cons_zero, List.set_cons_succ]
          refine wpAnyH_take (i := 11) (oi := _) (v := ?_) rfl (by kernel_rfl) (by kernel_rfl) (by kernel_rfl) (fun _ _ _ h => h) (Or.inl ⟨by rfl, ?_⟩) (by assumption) ?_
          rotate_left 1
          · (intro w hSw; (try dsimp only at hSw); go_simp; all_goals (with_reducible rfl))
          try simp only [Act.put, List.getElem_toArray, List.getElem_cons_zero, List.getElem_cons_succ, List.setIfInBounds_toArray, List.set_cons_zero, List.set_cons_succ]
          refine wpAnyH_take (i := 12) (oi := _) (v := ?_) rfl (by kernel_rfl) (by kernel_rfl) (by kernel_rfl) (fun _ _ _ h => h) (Or.inl ⟨by rfl, ?_⟩) (by assumption) ?_
          rotate_left 1
          · (intro w hSw; (try dsimp only at hSw); go_simp; all_goals (with_reducible rfl))
          try simp only [Act.put, List.getElem_toArray, List.getElem_cons_zero, List.getElem_cons_succ, List.setIfInBounds_toArray, List.set_cons_zero, List.set_cons_succ]
          refine wpAnyH_take (i := 13) (oi := _) (v := ?_) rfl (by kernel_rfl) (by kernel_rfl) (by kernel_rfl) (fun _ _ _ h => h) (Or.inl ⟨by rfl, ?_⟩) (by assumption) ?_
          rotate_left 1
          · (intro w hSw; (try dsimp only at hSw); go_simp; all_goals (with_reducible rfl))
          try simp only [Act.put, List.getElem_toArray, List.getElem_cons_zero, List.getElem_cons_succ, List.setIfInBounds_toArray, List.set_cons_zero, List.set_cons_succ]
          refine wpAnyH_done (by kernel_rfl) ?_ _
          refine NoPanic.normal ?_
          have hAB := hHeld.2
          have hqB := hHeld.1
          have HQB := Lib.hid hqB
          have hZB : Below wZ.heap.size wZ wB := hZA.trans (hAB.mono hZA.size)
          clear hHeld hS1 hBB hqB hsl hiQ
          (repeat' ((fail_if_success at_builtin); first | ((with_reducible refine wpList_load_mid rfl 26 _ rfl z12 (i * 32) rfl (bvs Q) _ HQB.out hu26 rfl HIQ.out ?_)) | go_values | go_skip | go_guarded | go_step | go_upon))
          refine (refVerify21 a5 l'.length c5 l' Q vn ve wB HV1.out (HRZ.out.below hZB (Nat.le_refl _)) HFX.out rfl hc5' (by omega) HQL.out).mono ?_
          rintro _ wC ⟨rfl, hBC⟩
          dsimp only
          have hAC := hAB.trans (hBC.mono hAB.size)
          have hZC : Below wZ.heap.size wZ wC := hZA.trans (hAC.mono hZA.size)
          have HQC := Lib.hid (rangeAt_below HQR.out hZC (Nat.le_refl _))
          (repeat' ((fail_if_success at_builtin); first | ((with_reducible refine wpList_load_mid rfl 26 _ rfl z12 (i * 32) rfl (bvs Q) _ HQC.out hu26 rfl HIQ.out ?_)) | go_values | go_skip | go_guarded | go_step | go_upon))
          refine (auditVerify a xs.length c xs Q un ue wC HV2.out (HTB.out _ hAC) (HR0Z.out.below hZC (Nat.le_refl _)) (fun x hx => ⟨(HFIT.out x hx).ok, (HFIT.out x hx).str, (HFIT.out x hx).sub⟩) rfl hnc (by omega) HQL.out).mono ?_
          rintro _ wD ⟨rfl, hBD⟩
          dsimp only
          have hAD := hAC.trans (hBD.mono hAC.size)
          have hZD : Below wZ.heap.size wZ wD := hZA.trans (hAD.mono hZA.size)
          have HQD := Lib.hid (rangeAt_below HQR.out hZD (Nat.le_refl _))
          (repeat' ((fail_if_success at_builtin); first | ((with_reducible refine wpList_load_mid rfl 26 _ rfl z12 (i * 32) rfl (bvs Q) _ HQD.out hu26 rfl HIQ.out ?_)) | go_values | go_skip | go_guarded | go_step | go_upon))
          refine (refVerify21 a xs.length c xs Q un ue wD HV2.out (HR0Z.out.below hZD (Nat.le_refl _)) HFIT.out rfl hnc (by omega) HQL.out).mono ?_
          rintro _ wE ⟨rfl, hBE⟩
          dsimp only
          have hAE := hAD.trans (hBE.mono hAD.size)
          have hZE : Below wZ.heap.size wZ wE := hZA.trans (hAE.mono hZA.size)
          (repeat' ((fail_if_success at_builtin); first | go_values | go_skip | go_guarded | go_step | go_upon))
          refine (keptEntries a6 a5 l'.length c6 c5 l' wE (HR6.out.below hAE (Nat.le_refl _)) (HRZ.out.below hZE (Nat.le_refl _)) (fun x hx => (HFX.out x hx).ok.sum) rfl hc6 (by omega)).mono ?_
          rintro _ wF ⟨rfl, hBF⟩
          dsimp only
          have hZF : Below wZ.heap.size wZ wF := hZE.trans (hBF.mono hZE.size)
          (repeat' ((fail_if_success at_builtin); first | go_values | go_skip | go_guarded | go_step | go_upon))
          go_roundw
          case rel => exact ⟨i + 1, by omega, by go_num, hZF⟩
          case measure => simp [intOf]; omega
        · (repeat' ((fail_if_success at_builtin); first | go_values | go_skip | go_guarded | go_step | go_upon))
          refine (works21 wr (HT0.out.below hB0i hts0)).mono ?_
          rintro _ wA ⟨rfl, hBA⟩
          dsimp only
          (repeat' ((fail_if_success at_builtin); first | go_values | go_skip | go_guarded | go_step | go_upon))
          go_ret
          exact ⟨rfl, hBw0.trans ((hB0i.trans (hBA.mono hB0i.size)).mono hBw0.size)⟩
    · have HRX := Lib.hid HR5.out
      have HFX := Lib.hid (show ∀ x ∈ l, x.Fit from fun x hx => (HLF.out x hx).1)
      have hBX := hB5
      have hl'l := hll
      have hc5' := hc5
      have hLX := HLR.out.below hBX
      have HLX := Lib.hid hLX
      have hB0X : Below w0.heap.size w0 w4 := hBr.trans (hBX.mono hBr.size)
      have hS0 : Hol2 w4 z5 H w4.drew := hol2_below (w1 := w4) ⟨rangeAt_below (rangeAt_whole HG50.out) hB0X (Nat.le_refl _), Below.refl _ _⟩ (Below.refl _ _).drew
      have hiH : (Tryd.prog.info? 26).map (·.size) = some (bvs H).length := by rw [bvs_length, HHL.out]; exact sizeSum
      clear hLX
      (repeat' ((fail_if_success at_builtin); first | go_values | go_skip | go_guarded | go_step | go_upon))
      clear hl0
      refine wp_region_noPanic ?_
      refine wp_region_held_drew (S := Hol2 w4 z5 H) (by kernel_rfl) ?_ (fun hHeld => ?_)
      · (exact hS0)
      refine' wpAnyH_take (i := 0) (oi := _) (v := _) rfl (by kernel_rfl) (by kernel_rfl) (by kernel_rfl) (fun _ _ _ h => h) (yieldsIf_load_mid (by rfl) _ _ rfl _ _ rfl _ _ ?ls7 ?lu7 ?ld7 ?li7) (by assumption) ?lr7
      case ls7 => (intro w hSw; (try dsimp only at hSw); go_split_ands; assumption)
      case lu7 => assumption
      case ld7 => rfl
      case li7 => first | assumption | (simp only [*]; done)
      try simp only [Act.put, List.getElem_toArray, List.getElem_cons_zero, List.getElem_cons_succ, List.setIfInBounds_toArray, List.set_cons_zero, List.set_cons_succ]
      refine wpAnyH_take (i := 1) (oi := _) (v := ?_) rfl (by kernel_rfl) (by kernel_rfl) (by kernel_rfl) (fun _ _ _ h => h) (Or.inl ⟨by rfl, ?_⟩) (by assumption) ?_
      rotate_left 1
      · (intro w hSw; (try dsimp only at hSw); go_simp; all_goals (with_reducible rfl))
      try simp only [Act.put, List.getElem_toArray, List.getElem_cons_zero, List.getElem_cons_succ, List.setIfInBounds_toArray, List.set_cons_zero, List.set_cons_succ]
      refine wpAnyH_take (i := 3) (oi := _) (v := ?_) rfl (by kernel_rfl) (by kernel_rfl) (by kernel_rfl) (fun _ _ _ h => h) (Or.inl ⟨by rfl, ?_⟩) (by assumption) ?_
      rotate_left 1
      · (intro w hSw; (try dsimp only at hSw); go_simp; all_goals (with_reducible rfl))
      try simp only [Act.put, List.getElem_toArray, List.getElem_cons_zero, List.getElem_cons_succ, List.setIfInBounds_toArray, List.set_cons_zero, List.set_cons_succ]
      refine wpAnyH_ready (rs := [2]) (by kernel_rfl) (by simp) ?_
      refine AllReadyH.cons (o := _) rfl (fun K hK => ?_) ?_
      rotate_left 1
      · exact AllReadyH.nil
      go_simp
      go_at_call 66
      refine (oneRHead w0 m xs.length ⟨#[]⟩ _ (HLX.out.below hHeld.2) (by omega)).mono ?_
      rintro _ wY ⟨P, rfl, hPl, hBY⟩
      dsimp only
      refine hK.out _ _ ?_ (fun hHeld => ?_)
      · (apply hol2_below; assumption; assumption)
      clear hK K
      try simp only [Act.put, List.getElem_toArray, List.getElem_cons_zero, List.getElem_cons_succ, List.setIfInBounds_toArray, List.set_cons_zero, List.set_cons_succ]
      have HPL := Lib.hid hPl
      refine wpAnyH_ready (rs := [4]) (by kernel_rfl) (by simp) ?_
      refine AllReadyH.cons (o := _) rfl (fun K hK => ?_) ?_
      rotate_left 1
      · exact AllReadyH.nil
      refine step_build_three (by kernel_rfl) 80 26 _ _ _ rfl Tryd.underlying80 32 (bvs H) (bvs P) (bvs zeros32) (by rw [bvs_length, HHL.out]) (by rw [bvs_length, HPL.out]) rfl rfl rfl rfl iS zS HIS.out HZS.out HSS.out (by decide) (by decide) ?_
      intro wZ hgZ hBZ hsZ
      refine hK.out _ _ ?_ (fun hHeld => ?_)
      · (apply hol2_below; assumption; assumption)
      clear hK K
      try simp only [Act.put, List.getElem_toArray, List.getElem_cons_zero, List.getElem_cons_succ, List.setIfInBounds_toArray, List.set_cons_zero, List.set_cons_succ]
      refine wpAnyH_take (i := 5) (oi := _) (v := ?_) rfl (by kernel_rfl) (by kernel_rfl) (by kernel_rfl) (fun _ _ _ h => h) (Or.inl ⟨by rfl, ?_⟩) (by assumption) ?_
      rotate_left 1
      · (intro w hSw; (try dsimp only at hSw); go_simp; all_goals (with_reducible rfl))
      try simp only [Act.put, List.getElem_toArray, List.getElem_cons_zero, List.getElem_cons_succ, List.setIfInBounds_toArray, List.set_cons_zero, List.set_cons_succ]
      refine wpAnyH_done (by kernel_rfl) ?_ _
      refine NoPanic.normal ?_
      have hBXZ := hHeld.2
      have HGZ := Lib.hid hgZ
      obtain ⟨z12, hz12⟩ : ∃ z, wY.heap.size = z := ⟨_, rfl⟩
      rw [hz12] at hgZ
      try rw [hz12]
      have HGZ2 := Lib.hid hgZ
      have hz12l : z12 < wZ.heap.size := by omega
      have hXl : w4.heap.size ≤ wZ.heap.size := hBXZ.size
      have HRZ := Lib.hid (HRX.out.below hBXZ (Nat.le_refl _))
      have hB0Z : Below w0.heap.size w0 wZ := hB0X.trans (hBXZ.mono hB0X.size)
      have HR0Z := Lib.hid (HR0.out.below hB0Z (Nat.le_refl _))
      clear hHeld hS0 hiH hgZ HGZ hBY hBZ hsZ hz12 HRX
      (repeat' ((fail_if_success at_builtin); first | go_values | go_skip | go_guarded | go_step | go_upon))
      go_loopw [13] (fun i wr => ∃ k : Nat, k ≤ 3 ∧ i = .int .i64 k ∧ Below wZ.heap.size wZ wr) (fun i _ => 3 - (intOf i).toNat)
      case atStart => exact ⟨0, by omega, rfl, Below.refl _ _⟩
      case round =>
        obtain ⟨i, hi, rfl, hBi⟩ := hrel
        have hB0i : Below w0.heap.size w0 wr := hB0Z.trans (hBi.mono hB0Z.size)
        by_cases hlt : i < 3
        · obtain ⟨Q, hQl, hQr⟩ := heads_at HGZ2.out HHL.out HPL.out rfl i hlt
          have HQL := Lib.hid hQl
          have HQR := Lib.hid hQr
          have hiQ : (Tryd.prog.info? 26).map (·.size) = some (bvs Q).length := by rw [bvs_length, hQl]; exact sizeSum
          have HIQ := Lib.hid hiQ
          obtain ⟨vn, ve, hv1⟩ : ∃ vn ve, verify l Q = (vn, ve) := ⟨_, _, rfl⟩
          obtain ⟨un, ue, hv2⟩ : ∃ un ue, verify xs Q = (un, ue) := ⟨_, _, rfl⟩
          have HV1 := Lib.hid hv1
          have HV2 := Lib.hid hv2
          have bi : (0 : Int) ≤ (i : Int) ∧ (i : Int) < 3 := by omega
          have tv1 : ((vn : Int) != (vn : Int)) = false := by simp
          have tv2 : (ve != ve) = false := by simp
          have tu1 : ((un : Int) != (un : Int)) = false := by simp
          have tu2 : (ue != ue) = false := by simp
          clear hQl hQr hv1 hv2
          (repeat' ((fail_if_success at_builtin); first | go_values | go_skip | go_guarded | go_step | go_upon))
          refine (lentEntries a5 l.length c5 l wr (HRZ.out.below hBi (Nat.le_refl _)) (fun x hx => (HFX.out x hx).ok.sum) rfl (by omega)).mono ?_
          rintro _ wA ⟨a6, c6, rfl, hc6, hm6, hr6, hBA, _⟩
          dsimp only
          have hlm : (l ++ marksE).length = l.length + 5 := by simp [marksE]
          rw [hlm] at hc6 ⊢
          have HR6 := Lib.hid hr6
          have hsl := fun w => run_slice_toS (P := Tryd.prog) 68 73 39 Tryd.underlying68 entSize a6 (l.length + 5) c6 l.length (by omega) w
          have hZA : Below wZ.heap.size wZ wA := hBi.trans (hBA.mono hBi.size)
          have hTb : ∀ wx, Below wA.heap.size wA wx → Tabs wx := fun wx h => HT0.out.below (hB0i.trans ((hBA.mono hB0i.size).trans (h.mono (Nat.le_trans hB0i.size hBA.size)))) hts0
          have HTB := Lib.hid hTb
          have hS1 : HedS wA z12 (i * 32) Q wA.drew := hedS_below (w1 := wA) ⟨rangeAt_below HQR.out hZA (Nat.le_refl _), Below.refl _ _⟩ (Below.refl _ _).drew
          clear hr6 hlm hTb
          (repeat' ((fail_if_success at_builtin); first | go_values | go_skip | go_guarded | go_step | go_upon))
          refine wp_region_noPanic ?_
          refine wp_region_held_drew (S := HedS wA z12 (i * 32) Q) (by kernel_rfl) ?_ (fun hHeld => ?_)
          · (exact hS1)
          refine wpAnyH_take (i := 0) (oi := _) (v := ?_) rfl (by kernel_rfl) (by kernel_rfl) (by kernel_rfl) (fun _ _ _ h => h) (Or.inl ⟨by rfl, ?_⟩) (by assumption) ?_
          rotate_left 1
          · (intro w hSw; (try dsimp only at hSw); go_simp; all_goals (with_reducible rfl))
          try simp only [Act.put, List.getElem_toArray, List.getElem_cons_zero, List.getElem_cons_succ, List.setIfInBounds_toArray, List.set_cons_zero, List.set_cons_succ]
          refine wpAnyH_take (i := 1) (oi := _) (v := ?_) rfl (by kernel_rfl) (by kernel_rfl) (by kernel_rfl) (fun _ _ _ h => h) (Or.inl ⟨by rfl, ?_⟩) (by assumption) ?_
          rotate_left 1
          · (intro w hSw; (try dsimp only at hSw); go_simp; all_goals (with_reducible rfl))
          try simp only [Act.put, List.getElem_toArray, List.getElem_cons_zero, List.getElem_cons_succ, List.setIfInBounds_toArray, List.set_cons_zero, List.set_cons_succ]
          refine wpAnyH_take (i := 2) (oi := _) (v := ?_) rfl (by kernel_rfl) (by kernel_rfl) (by kernel_rfl) (fun _ _ _ h => h) (Or.inl ⟨by rfl, ?_⟩) (by assumption) ?_
          rotate_left 1
          · (intro w hSw; (try dsimp only at hSw); go_simp; all_goals (with_reducible rfl))
          try simp only [Act.put, List.getElem_toArray, List.getElem_cons_zero, List.getElem_cons_succ, List.setIfInBounds_toArray, List.set_cons_zero, List.set_cons_succ]
          refine wpAnyH_take (i := 3) (oi := _) (v := ?_) rfl (by kernel_rfl) (by kernel_rfl) (by kernel_rfl) (fun _ _ _ h => h) (Or.inl ⟨by rfl, ?_⟩) (by assumption) ?_
          rotate_left 1
          · (intro w hSw; (try dsimp only at hSw); go_simp; all_goals (with_reducible rfl))
          try simp only [Act.put, List.getElem_toArray, List.getElem_cons_zero, List.getElem_cons_succ, List.setIfInBounds_toArray, List.set_cons_zero, List.set_cons_succ]
          refine wpAnyH_take (i := 4) (oi := _) (v := ?_) rfl (by kernel_rfl) (by kernel_rfl) (by kernel_rfl) (fun _ _ _ h => h) (Or.inl ⟨by rfl, ?_⟩) (by assumption) ?_
          rotate_left 1
          · (intro w hSw; (try dsimp only at hSw); go_simp; all_goals (with_reducible rfl))
          try simp only [Act.put, List.getElem_toArray, List.getElem_cons_zero, List.getElem_cons_succ, List.setIfInBounds_toArray, List.set_cons_zero, List.set_cons_succ]
          refine wpAnyH_take (i := 5) (oi := _) (v := ?_) rfl (by kernel_rfl) (by kernel_rfl) (by kernel_rfl) (fun _ _ _ h => h) (Or.inl ⟨by rfl, ?_⟩) (by assumption) ?_
          rotate_left 1
          · (intro w hSw; (try dsimp only at hSw); go_simp; all_goals (with_reducible rfl))
          try simp only [Act.put, List.getElem_toArray, List.getElem_cons_zero, List.getElem_cons_succ, List.setIfInBounds_toArray, List.set_cons_zero, List.set_cons_succ]
          refine wpAnyH_take (i := 6) (oi := _) (v := ?_) rfl (by kernel_rfl) (by kernel_rfl) (by kernel_rfl) (fun _ _ _ h => h) (Or.inl ⟨by rfl, ?_⟩) (by assumption) ?_
          rotate_left 1
          · (intro w hSw; (try dsimp only at hSw); go_simp; all_goals (with_reducible rfl))
          try simp only [Act.put, List.getElem_toArray, List.getElem_cons_zero, List.getElem_cons_succ, List.setIfInBounds_toArray, List.set_cons_zero, List.set_cons_succ]
          refine' wpAnyH_take (i := 7) (oi := _) (v := _) rfl (by kernel_rfl) (by kernel_rfl) (by kernel_rfl) (fun _ _ _ h => h) (yieldsIf_load_mid (by rfl) _ _ rfl _ _ rfl _ _ ?ls8 ?lu8 ?ld8 ?li8) (by assumption) ?lr8
          case ls8 => (intro w hSw; (try dsimp only at hSw); go_split_ands; assumption)
          case lu8 => assumption
          case ld8 => rfl
          case li8 => first | assumption | (simp only [*]; done)
          try simp only [Act.put, List.getElem_toArray, List.getElem_cons_zero, List.getElem_cons_succ, List.setIfInBounds_toArray, List.set_cons_zero, List.set_cons_succ]
          refine wpAnyH_ready (rs := [8]) (by kernel_rfl) (by simp) ?_
          refine AllReadyH.cons (o := _) rfl (fun K hK => ?_) ?_
          rotate_left 1
          · exact AllReadyH.nil
          go_simp
          go_at_call 68
          refine (auditVerify a6 l.length c6 l Q vn ve _ HV1.out (HTB.out _ hHeld.2) (by have := rdc_take (HR6.out.below hHeld.2 (Nat.le_refl _)) (l.length * 39);rwa [List.flatMap_append, List.take_left' (ents_length l (fun x hx => (HFX.out x hx).ok.sum))] at this) (fun x hx => ⟨(HFX.out x hx).ok, (HFX.out x hx).str, (HFX.out x hx).sub⟩) rfl (by omega) (by omega) HQL.out).mono ?_
          rintro _ wB ⟨rfl, hBB⟩
          dsimp only
          refine hK.out _ _ ?_ (fun hHeld => ?_)
          · (apply hedS_below; assumption; assumption)
          clear hK K
          try simp only [Act.put, List.getElem_toArray, List.getElem_cons_zero, List.getElem_cons_succ, List.setIfInBounds_toArray, List.set_cons_zero, List.set_cons_succ]
          refine wpAnyH_take (i := 9) (oi := _) (v := ?_) rfl (by kernel_rfl) (by kernel_rfl) (by kernel_rfl) (fun _ _ _ h => h) (Or.inl ⟨by rfl, ?_⟩) (by assumption) ?_
          rotate_left 1
          · (intro w hSw; (try dsimp only at hSw); go_simp; all_goals (with_reducible rfl))
          try simp only [Act.put, List.getElem_toArray, List.getElem_cons_zero, List.getElem_cons_succ, List.setIfInBounds_toArray, List.set_cons_zero, List.set_cons_succ]
          refine wpAnyH_take (i := 10) (oi := _) (v := ?_) rfl (by kernel_rfl) (by kernel_rfl) (by kernel_rfl) (fun _ _ _ h => h) (Or.inl ⟨by rfl, ?_⟩) (by assumption) ?_
          rotate_left 1
          · (intro w hSw; (try dsimp only at hSw); go_simp; all_goals (with_reducible rfl))
          try simp only [Act.put, List.getElem_toArray, List.getElem_cons_zero, List.getElem_cons_succ, List.setIfInBounds_toArray, List.set_cons_zero, List.set_cons_succ]
          refine wpAnyH_take (i := 11) (oi := _) (v := ?_) rfl (by kernel_rfl) (by kernel_rfl) (by kernel_rfl) (fun _ _ _ h => h) (Or.inl ⟨by rfl, ?_⟩) (by assumption) ?_
          rotate_left 1
          · (intro w hSw; (try dsimp only at hSw); go_simp; all_goals (with_reducible rfl))
          try simp only [Act.put, List.getElem_toArray, List.getElem_cons_zero, List.getElem_cons_succ, List.setIfInBounds_toArray, List.set_cons_zero, List.set_cons_succ]
          refine wpAnyH_take (i := 12) (oi := _) (v := ?_) rfl (by kernel_rfl) (by kernel_rfl) (by kernel_rfl) (fun _ _ _ h => h) (Or.inl ⟨by rfl, ?_⟩) (by assumption) ?_
          rotate_left 1
          · (intro w hSw; (try dsimp only at hSw); go_simp; all_goals (with_reducible rfl))
          try simp only [Act.put, List.getElem_toArray, List.getElem_cons_zero, List.getElem_cons_succ, List.setIfInBounds_toArray, List.set_cons_zero, List.set_cons_succ]
          refine wpAnyH_take (i := 13) (oi := _) (v := ?_) rfl (by kernel_rfl) (by kernel_rfl) (by kernel_rfl) (fun _ _ _ h => h) (Or.inl ⟨by rfl, ?_⟩) (by assumption) ?_
          rotate_left 1
          · (intro w hSw; (try dsimp only at hSw); go_simp; all_goals (with_reducible rfl))
          try simp only [Act.put, List.getElem_toArray, List.getElem_cons_zero, List.getElem_cons_succ, List.setIfInBounds_toArray, List.set_cons_zero, List.set_cons_succ]
          refine wpAnyH_done (by kernel_rfl) ?_ _
          refine NoPanic.normal ?_
          have hAB := hHeld.2
          have hqB := hHeld.1
          have HQB := Lib.hid hqB
          have hZB : Below wZ.heap.size wZ wB := hZA.trans (hAB.mono hZA.size)
          clear hHeld hS1 hBB hqB hsl hiQ
          (repeat' ((fail_if_success at_builtin); first | ((with_reducible refine wpList_load_mid rfl 26 _ rfl z12 (i * 32) rfl (bvs Q) _ HQB.out hu26 rfl HIQ.out ?_)) | go_values | go_skip | go_guarded | go_step | go_upon))
          refine (refVerify21 a5 l.length c5 l Q vn ve wB HV1.out (HRZ.out.below hZB (Nat.le_refl _)) HFX.out rfl hc5' (by omega) HQL.out).mono ?_
          rintro _ wC ⟨rfl, hBC⟩
          dsimp only
          have hAC := hAB.trans (hBC.mono hAB.size)
          have hZC : Below wZ.heap.size wZ wC := hZA.trans (hAC.mono hZA.size)
          have HQC := Lib.hid (rangeAt_below HQR.out hZC (Nat.le_refl _))
          (repeat' ((fail_if_success at_builtin); first | ((with_reducible refine wpList_load_mid rfl 26 _ rfl z12 (i * 32) rfl (bvs Q) _ HQC.out hu26 rfl HIQ.out ?_)) | go_values | go_skip | go_guarded | go_step | go_upon))
          refine (auditVerify a xs.length c xs Q un ue wC HV2.out (HTB.out _ hAC) (HR0Z.out.below hZC (Nat.le_refl _)) (fun x hx => ⟨(HFIT.out x hx).ok, (HFIT.out x hx).str, (HFIT.out x hx).sub⟩) rfl hnc (by omega) HQL.out).mono ?_
          rintro _ wD ⟨rfl, hBD⟩
          dsimp only
          have hAD := hAC.trans (hBD.mono hAC.size)
          have hZD : Below wZ.heap.size wZ wD := hZA.trans (hAD.mono hZA.size)
          have HQD := Lib.hid (rangeAt_below HQR.out hZD (Nat.le_refl _))
          (repeat' ((fail_if_success at_builtin); first | ((with_reducible refine wpList_load_mid rfl 26 _ rfl z12 (i * 32) rfl (bvs Q) _ HQD.out hu26 rfl HIQ.out ?_)) | go_values | go_skip | go_guarded | go_step | go_upon))
          refine (refVerify21 a xs.length c xs Q un ue wD HV2.out (HR0Z.out.below hZD (Nat.le_refl _)) HFIT.out rfl hnc (by omega) HQL.out).mono ?_
          rintro _ wE ⟨rfl, hBE⟩
          dsimp only
          have hAE := hAD.trans (hBE.mono hAD.size)
          have hZE : Below wZ.heap.size wZ wE := hZA.trans (hAE.mono hZA.size)
          (repeat' ((fail_if_success at_builtin); first | go_values | go_skip | go_guarded | go_step | go_upon))
          refine (keptEntries a6 a5 l.length c6 c5 l wE (HR6.out.below hAE (Nat.le_refl _)) (HRZ.out.below hZE (Nat.le_refl _)) (fun x hx => (HFX.out x hx).ok.sum) rfl hc6 (by omega)).mono ?_
          rintro _ wF ⟨rfl, hBF⟩
          dsimp only
          have hZF : Below wZ.heap.size wZ wF := hZE.trans (hBF.mono hZE.size)
          (repeat' ((fail_if_success at_builtin); first | go_values | go_skip | go_guarded | go_step | go_upon))
          go_roundw
          case rel => exact ⟨i + 1, by omega, by go_num, hZF⟩
          case measure => simp [intOf]; omega
        · (repeat' ((fail_if_success at_builtin); first | go_values | go_skip | go_guarded | go_step | go_upon))
          refine (works21 wr (HT0.out.below hB0i hts0)).mono ?_
          rintro _ wA ⟨rfl, hBA⟩
          dsimp only
          (repeat' ((fail_if_success at_builtin); first | go_values | go_skip | go_guarded | go_step | go_upon))
          go_ret
          exact ⟨rfl, hBw0.trans ((hB0i.trans (hBA.mono hB0i.size)).mono hBw0.size)⟩

end Go.Proofs.YtdpfemhfmofmlaaDoor
