/- What the helpers of sealerylaw21 answer: of, big. -/
import Derived.Test.YtdpfemhfmofmlaaDoorLogD
import Derived.BigRegion
import Derived.RegionTactic
namespace Go.Proofs.YtdpfemhfmofmlaaDoor
set_option linter.unusedSimpArgs false
set_option linter.unusedVariables false
open Go.RowKit
set_option maxRecDepth 10000
--@PUT2

theorem partI (p : List UInt8) (l : List Int) (k : Nat) (hk : k < l.length) : p ++ intsB (l.take k) ++ be8 l[k] = p ++ intsB (l.take (k + 1)) := by
  rw [List.take_succ_eq_append_getElem hk]; unfold intsB; rw [List.flatMap_append]; simp
theorem partI_length (p : List UInt8) (l : List Int) (k : Nat) (hk : k ≤ l.length) : (p ++ intsB (l.take k)).length = p.length + 8 * k := by
  rw [List.length_append]
  have : (intsB (l.take k)).length = (l.take k).length * 8 := by
    unfold intsB
    induction l.take k with
    | nil => rfl
    | cons x xs ih => rw [List.flatMap_cons, List.length_append, ih, be8_length, List.length_cons]; omega
  rw [this, List.length_take]
  omega

abbrev OfS21 (wr : World) (z : Nat) (t5 t6 : ByteArray) (w' : World) : Prop :=
  (w'.cell? ⟨z, 5, none⟩ = some (.string t5) ∧ w'.cell? ⟨z, 6, none⟩ = some (.string t6)) ∧ Below wr.heap.size wr w'
theorem ofs21_below {wr w1 w2 : World} {z : Nat} {t5 t6 : ByteArray} (hb : Below w1.heap.size w1 w2) (h : OfS21 wr z t5 t6 w1) : OfS21 wr z t5 t6 w2 :=
  ⟨⟨cell_below hb h.1.1 (Nat.le_refl _), cell_below hb h.1.2 (Nat.le_refl _)⟩, h.2.trans (hb.mono h.2.size)⟩

structure OfRel (w : World) (p : List UInt8) (L : List Int) (z : Nat) (cs : Array Value) (o i : Value) (wr : World) : Prop where
  out : ∃ (k : Nat) (a : Option Addr) (c : Nat), k ≤ L.length ∧ i = .int .i64 k ∧ o = .slice a (p.length + 8 * k) c ∧ p.length + 8 * k ≤ c ∧ RdB wr a (p ++ intsB (L.take k)) ∧ Below w.heap.size w wr ∧ wr.heap[w.heap.size + 1]? = some (.cells cs 73 (0, 0)) ∧ RdC wr (some ⟨z, 0, none⟩) (L.map (Value.int .i64)) ∧ z + 1 ≤ wr.heap.size

set_option maxHeartbeats 2000000 in
theorem of21 (p : List UInt8) (x : Ent) (w : World) (hp : p.length = 32) (hx : x.Ok) (h5 : x.stream.size ≤ 4096) (h6 : x.subject.size ≤ 4096) :
    Calls Tryd.prog 81 #[.agg (bvs p).toArray, .agg x.cells.toArray] w (GotB w (88 + x.stream.size + x.subject.size) (x.bytes p)) := by
  have HBE := Lib.hid (x.bytes_eq p)
  obtain ⟨I0, I1, I2, I3, I4, _, _, _⟩ := hx
  obtain ⟨v0, v1, v2, v3, v4, t5, t6, s7⟩ := x
  obtain ⟨x, hxe⟩ : ∃ x : Ent, (⟨v0, v1, v2, v3, v4, t5, t6, s7⟩ : Ent) = x := ⟨_, rfl⟩
  dsimp only at I0 I1 I2 I3 I4 h5 h6
  rw [hxe] at HBE ⊢
  have hxt : x.stream = t5 ∧ x.subject = t6 ∧ x.ints = [v0, v1, v2, v3, v4] := by rw [← hxe]; exact ⟨rfl, rfl, rfl⟩
  rw [hxt.1, hxt.2.1] at HBE ⊢
  rw [hxt.2.2] at HBE
  have hIs : ∀ v ∈ [v0, v1, v2, v3, v4], I64 v := by intro v hv; simp at hv; rcases hv with rfl | rfl | rfl | rfl | rfl <;> assumption
  have HIS := Lib.hid hIs; clear hIs
  obtain ⟨w0, hw0⟩ : ∃ w0, (w.alloc (.cells (bvs p).toArray 26)).alloc (.cells x.cells.toArray 73) = w0 := ⟨_, rfl⟩
  have hs0 : w0.heap.size = w.heap.size + 2 := by rw [← hw0]; simp
  have hB0 : Below w.heap.size w w0 := by rw [← hw0]; exact ((Below.refl _ _).alloc (Nat.le_refl _) _).alloc (by simp) _
  have hg0 : w0.heap[w.heap.size]? = some (.cells (bvs p).toArray 26 (0, 0)) := by
    rw [← hw0, Below.heap_alloc _ _ _ (by simp)]; exact heap_alloc_new w _
  have hg1 : w0.heap[w.heap.size + 1]? = some (.cells x.cells.toArray 73 (0, 0)) := by
    have h := heap_alloc_new (w.alloc (.cells (bvs p).toArray 26)) (.cells x.cells.toArray 73)
    rw [hw0, show (w.alloc (.cells (bvs p).toArray 26)).heap.size = w.heap.size + 1 by simp] at h
    exact h
  have hraP := rangeAt_whole hg0
  have HP := Lib.hid hp
  have HXE := Lib.hid hxe
  have HXT := Lib.hid hxt
  have HW0 := Lib.hid hw0
  have HG1 := Lib.hid hg1
  have HRP := Lib.hid hraP
  have HS0 := Lib.hid hs0
  have hu26 : Tryd.prog.underlying 26 = some _ := Tryd.underlying26
  have HIP := Lib.hid (show (Tryd.prog.info? 26).map (·.size) = some (bvs p).length by rw [bvs_length, hp]; exact sizeSum)
  clear hp hxe hxt hw0 hg0 hg1 hraP hs0
  go_enter Tryd.func81, Tryd.ntmps81
  (repeat' ((fail_if_success at_builtin); (fail_if_success (show wpList _ _ _ ({ dst := some 8, op := _, type := _, pos := _, after := _, guard := _ } :: _) _ _)); first | (fail) | go_values | go_skip | go_guarded | go_step | go_upon))
  rw [HW0.out]
  (repeat' ((fail_if_success at_builtin); first | ((with_reducible refine wpList_load_mid rfl 26 _ rfl w.heap.size 0 rfl (bvs p) _ HRP.out hu26 rfl HIP.out ?_)) | go_values | go_skip | go_guarded | go_step | go_upon))
  refine (packSum none 0 0 [] p w0 (RdC.nil _ _) rfl (by decide) HP.out).mono ?_
  rintro _ w1 ⟨a1, c1, rfl, hc1, hr1, hB1, _⟩
  dsimp only
  rw [List.nil_append] at hr1
  have hB01 : Below w.heap.size w w1 := hB0.trans (hB1.mono hB0.size)
  have hg1 := (hB1.block (w.heap.size + 1) (by rw [HS0.out]; omega)).trans HG1.out
  have hraE := rangeAt_whole hg1
  have HQ1 := Lib.hid hg1; clear hg1
  rw [← HXE.out] at hraE
  obtain ⟨q0, q1, q2, q3, q4, q5, q6⟩ := ent_cell hraE
  dsimp only at q0 q1 q2 q3 q4 q5 q6
  have HR1 := Lib.hid hr1; clear hr1 hraE
  have hs1 : w.heap.size + 2 ≤ w1.heap.size := by have := hB1.size; rw [HS0.out] at this; exact this
  (repeat' ((fail_if_success at_builtin); first | go_values | go_skip | go_guarded | go_step | go_upon))
  have hz := heap_alloc_new w1 (.cells #[.int .i64 v0, .int .i64 v1, .int .i64 v2, .int .i64 v3, .int .i64 v4] 3)
  obtain ⟨wz, hwz⟩ : ∃ wz, w1.alloc (.cells #[.int .i64 v0, .int .i64 v1, .int .i64 v2, .int .i64 v3, .int .i64 v4] 3) = wz := ⟨_, rfl⟩
  have hBz : Below w1.heap.size w1 wz := by rw [← hwz]; exact (Below.refl _ _).alloc (Nat.le_refl _) _
  have hsz : wz.heap.size = w1.heap.size + 1 := by rw [← hwz]; simp
  rw [hwz] at hz
  rw [hwz]
  clear hwz q0 q1 q2 q3 q4 q5 q6 hB1
  obtain ⟨L, hL⟩ : ∃ L, [v0, v1, v2, v3, v4] = L := ⟨_, rfl⟩
  have hLl : L.length = 5 := by rw [← hL]; rfl
  have hzr : RdC wz (some ⟨w1.heap.size, 0, none⟩) (L.map (Value.int .i64)) := by rw [← hL]; exact rd_rowC hz
  rw [hL] at HIS HBE
  have HZR := Lib.hid hzr; clear hzr hz
  have hgz := (hBz.block (w.heap.size + 1) (by omega)).trans HQ1.out
  have HGZ := Lib.hid hgz; clear hgz
  have HRZ := Lib.hid (HR1.out.below hBz (Nat.le_refl _))
  have hB0z : Below w.heap.size w wz := hB01.trans (hBz.mono hB01.size)
  have HL := Lib.hid hL; clear hL
  have HLL := Lib.hid hLl; clear hLl
  obtain ⟨z, hzz⟩ : ∃ z, w1.heap.size = z := ⟨_, rfl⟩
  rw [hzz] at HZR hsz ⊢
  clear hzz
  have h32 : (32 : Nat) = p.length + 8 * 0 := by rw [HP.out]
  have hn5 : ∀ j : Int, j < 5 ↔ j < (L.length : Int) := fun j => by rw [HLL.out]; rfl
  go_loopw [5, 7] (fun o i wr => OfRel w p L z x.cells.toArray o i wr) (fun _ i _ => 5 - (intOf i).toNat)
  case atStart => exact ⟨0, a1, c1, by omega, rfl, by rw [HP.out], by rw [HP.out]; omega, by simpa [intsB] using HRZ.out, hB0z, HGZ.out, HZR.out, by omega⟩
  case round =>
    obtain ⟨k, a, c, hk, rfl, rfl, hc, hr, hB, hge, hzr, hzs⟩ := hrel
    clear hn5 h32
    have HGE := Lib.hid hge; clear hge
    have HR := Lib.hid hr; clear hr
    have HZ := Lib.hid hzr; clear hzr
    have hL5 := HLL.out
    have hp32 := HP.out
    have HL5 := Lib.hid hL5
    by_cases hlt : k < 5
    · have hkl : k < L.length := by omega
      have q0 := HZ.out.cell k (by rw [List.length_map]; exact hkl)
      rw [List.getElem_map, Nat.zero_add] at q0
      have hiv := HIS.out L[k] (List.getElem_mem hkl)
      have HSN := Lib.hid (partI p L k hkl)
      obtain ⟨v, hv⟩ : ∃ v, L[k] = v := ⟨_, rfl⟩
      rw [hv] at q0 hiv HSN
      have HPL := Lib.hid (partI_length p L k (by omega))
      have HIV := Lib.hid hiv
      clear hv hiv hL5 hp32
      (repeat' ((fail_if_success at_builtin); first | go_values | go_skip | go_guarded | go_step | go_upon))
      refine (packInt a _ c _ v wr HR.out HPL.out (by have := HP.out; omega) HIV.out).mono ?_
      rintro _ w5 ⟨a5, c5, rfl, hc5, hr5, hB5, hO5⟩
      dsimp only
      rw [HSN.out] at hr5
      have HR5 := Lib.hid hr5; clear hr5
      (repeat' ((fail_if_success at_builtin); first | go_values | go_skip | go_guarded | go_step | go_upon))
      go_roundw
      case rel => exact ⟨k + 1, a5, c5, by have := HL5.out; omega, by go_num, rfl, by omega, HR5.out, hB.trans (hB5.mono hB.size), (hB5.block _ (by have := (Array.getElem?_eq_some_iff.1 HGE.out).1; omega)).trans HGE.out, HZ.out.below hB5 (Nat.le_refl _), by have := hB5.size; omega⟩
      case measure => simp [intOf]; omega
    · obtain rfl : k = 5 := by omega
      have hr := HR.out
      rw [show L.take 5 = L from List.take_of_length_le (by omega)] at hr
      have hraE := rangeAt_whole HGE.out
      rw [← HXE.out] at hraE
      obtain ⟨_, _, _, _, _, q5, q6⟩ := ent_cell hraE
      dsimp only at q5 q6
      rw [Nat.zero_add] at q5 q6
      have hS0 : OfS21 wr (w.heap.size + 1) t5 t6 wr.drew := ⟨⟨q5, q6⟩, (Below.refl _ _).drew⟩
      have HRR := Lib.hid (hr.below (Below.refl wr.heap.size wr).drew (Nat.le_refl _))
      have HPL := Lib.hid (show (p ++ intsB L).length = 72 by have h72 := partI_length p L 5 (by omega); rw [show L.take 5 = L from List.take_of_length_le (by omega), HP.out] at h72; exact h72)
      have HL1 := Lib.hid (show (p ++ intsB L ++ be8 t5.size ++ t5.data.toList).length = 72 + 8 + t5.size by rw [List.length_append, List.length_append, HPL.out, be8_length, Array.length_toList]; rfl)
      clear hr hraE hL5 q5 q6
      (repeat' ((fail_if_success at_builtin); first | go_values | go_skip | go_guarded | go_step | go_upon))
      refine wp_region_noPanic ?_
      refine wp_region_held_drew (S := OfS21 wr (w.heap.size + 1) t5 t6) (by kernel_rfl) ?_ (fun hHeld => ?_)
      · (exact hS0)
      refine wpAnyH_take (i := 0) (oi := _) (v := ?_) rfl (by kernel_rfl) (by kernel_rfl) (by kernel_rfl) (fun _ _ _ h => h) (Or.inl ⟨by rfl, ?_⟩) (by assumption) ?_
      rotate_left 1
      · (intro w hSw; (try dsimp only at hSw); go_simp; all_goals (with_reducible rfl))
      try simp only [Act.put, List.getElem_toArray, List.getElem_cons_zero, List.getElem_cons_succ, List.setIfInBounds_toArray, List.set_cons_zero, List.set_cons_succ]
      refine wpAnyH_take (i := 1) (oi := _) (v := ?_) rfl (by kernel_rfl) (by kernel_rfl) (by kernel_rfl) (fun _ _ _ h => h) (Or.inl ⟨by rfl, ?_⟩) (by assumption) ?_
      rotate_left 1
      · (intro w hSw; (try dsimp only at hSw); go_simp; all_goals (with_reducible rfl))
      try simp only [Act.put, List.getElem_toArray, List.getElem_cons_zero, List.getElem_cons_succ, List.setIfInBounds_toArray, List.set_cons_zero, List.set_cons_succ]
      refine wpAnyH_take (i := 2) (oi := _) (v := ?_) rfl (by kernel_rfl) (by kernel_rfl) (by kernel_rfl) (fun _ _ _ h => h) (Or.inl ⟨by rfl, ?_⟩) (by assumption) ?_
      rotate_left 1
      · (intro w hSw; (try dsimp only at hSw); go_simp; all_goals (with_reducible rfl))
      try simp only [Act.put, List.getElem_toArray, List.getElem_cons_zero, List.getElem_cons_succ, List.setIfInBounds_toArray, List.set_cons_zero, List.set_cons_succ]
      refine wpAnyH_take (i := 4) (oi := _) (v := ?_) rfl (by kernel_rfl) (by kernel_rfl) (by kernel_rfl) (fun _ _ _ h => h) (Or.inl ⟨by rfl, ?_⟩) (by assumption) ?_
      rotate_left 1
      · (intro w hSw; (try dsimp only at hSw); go_simp; all_goals (with_reducible rfl))
      try simp only [Act.put, List.getElem_toArray, List.getElem_cons_zero, List.getElem_cons_succ, List.setIfInBounds_toArray, List.set_cons_zero, List.set_cons_succ]
      refine wpAnyH_take (i := 5) (oi := _) (v := ?_) rfl (by kernel_rfl) (by kernel_rfl) (by kernel_rfl) (fun _ _ _ h => h) (Or.inl ⟨by rfl, ?_⟩) (by assumption) ?_
      rotate_left 1
      · (intro w hSw; (try dsimp only at hSw); go_simp; all_goals (with_reducible rfl))
      try simp only [Act.put, List.getElem_toArray, List.getElem_cons_zero, List.getElem_cons_succ, List.setIfInBounds_toArray, List.set_cons_zero, List.set_cons_succ]
      refine wpAnyH_ready (rs := [3]) (by kernel_rfl) (by simp) ?_
      refine AllReadyH.cons (o := _) rfl (fun K hK => ?_) ?_
      rotate_left 1
      · exact AllReadyH.nil
      go_simp
      go_at_call 96
      refine (packText a _ c (p ++ intsB L) t5 _ HRR.out HPL.out (by omega) (by omega)).mono ?_
      rintro _ wA ⟨a2, c2, rfl, hc2, hr2, hBA, _⟩
      dsimp only
      refine hK.out _ _ ?_ (fun hHeld => ?_)
      · (apply ofs21_below; assumption; assumption)
      clear hK K
      try simp only [Act.put, List.getElem_toArray, List.getElem_cons_zero, List.getElem_cons_succ, List.setIfInBounds_toArray, List.set_cons_zero, List.set_cons_succ]
      refine wpAnyH_ready (rs := [6]) (by kernel_rfl) (by simp) ?_
      refine AllReadyH.cons (o := _) rfl (fun K hK => ?_) ?_
      rotate_left 1
      · exact AllReadyH.nil
      go_simp
      go_at_call 96
      refine (packText a2 _ c2 _ t6 wA hr2 HL1.out (by omega) (by omega)).mono ?_
      rintro _ wB ⟨a3, c3, rfl, h3⟩
      dsimp only
      refine hK.out _ _ ?_ (fun hHeld => ?_)
      · (apply ofs21_below; exact h3.2.2.1; assumption)
      clear hK K
      try simp only [Act.put, List.getElem_toArray, List.getElem_cons_zero, List.getElem_cons_succ, List.setIfInBounds_toArray, List.set_cons_zero, List.set_cons_succ]
      refine wpAnyH_take (i := 7) (oi := _) (v := ?_) rfl (by kernel_rfl) (by kernel_rfl) (by kernel_rfl) (fun _ _ _ h => h) (Or.inl ⟨by rfl, ?_⟩) (by assumption) ?_
      rotate_left 1
      · (intro w hSw; (try dsimp only at hSw); go_simp; all_goals (with_reducible rfl))
      try simp only [Act.put, List.getElem_toArray, List.getElem_cons_zero, List.getElem_cons_succ, List.setIfInBounds_toArray, List.set_cons_zero, List.set_cons_succ]
      refine wpAnyH_done (by kernel_rfl) ?_ _
      refine NoPanic.normal ?_
      have hBw := (Below.refl wr.heap.size wr).drew.trans hBA
      clear hHeld hS0
      (repeat' ((fail_if_success at_builtin); first | go_values | go_skip | go_guarded | go_step | go_upon))
      go_ret
      have hfin : x.bytes p = p ++ intsB L ++ be8 t5.size ++ t5.data.toList ++ be8 t6.size ++ t6.data.toList := by rw [HBE.out]; simp [textsB]
      rw [hfin, show 88 + t5.size + t6.size = 72 + 8 + t5.size + 8 + t6.size by omega]
      exact gotB_lift h3 (hB.trans (hBw.mono hB.size))

end Go.Proofs.YtdpfemhfmofmlaaDoor
