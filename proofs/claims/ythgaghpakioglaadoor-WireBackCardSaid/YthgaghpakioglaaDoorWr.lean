/- bytes.Buffer's Write, at a reader. -/
import Derived.Test.YthgaghpakioglaaDoorWrite
namespace Go.Proofs.YthgaghpakioglaaDoor
set_option linter.unusedSimpArgs false
set_option linter.unusedVariables false
open Go.RowKit
set_option maxRecDepth 10000

theorem splice_end (cur : Array Value) (m : Nat) (cs : List Value) (h : m + cs.length ≤ cur.size) : (splice cur.toList m cs).toArray.size = cur.size ∧ (splice cur.toList m cs).toArray.toList.take (m + cs.length) = cur.toList.take m ++ cs := by
  have hz : cur.toList.length = cur.size := Array.length_toList
  have ht : (cur.toList.take m).length = m := by rw [List.length_take]; omega
  unfold splice
  constructor
  · rw [List.size_toArray, List.length_append, List.length_append, List.length_drop, ht]; omega
  · show (cur.toList.take m ++ (cs ++ cur.toList.drop (m + cs.length))).take (m + cs.length) = _
    rw [← List.append_assoc, List.take_append_of_le_length (by rw [List.length_append, ht]; exact Nat.le_refl _), List.take_of_length_le (by rw [List.length_append, ht]; exact Nat.le_refl _)]

theorem rd_set {w : World} {b : Option Addr} {ps : List UInt8} {g : Nat} (h : RdB w b ps) (hne : 0 < ps.length → ∀ blk o, b = some ⟨blk, o, none⟩ → blk ≠ g) (j : Nat) (v : Value) : RdB (w.setCell ⟨g, j, none⟩ v) b ps := by
  by_cases h0 : 0 < ps.length
  · exact RdC.congr h (fun bb oo e _ => Below.heap_setCell _ _ _ _ (hne h0 bb oo e))
  · have hp : ps = [] := List.eq_nil_of_length_eq_zero (by omega)
    subst hp; exact RdC.nil _ _
theorem rd_grown {w w' : World} {b : Option Addr} {ps : List UInt8} {g : Nat} (h : RdB w b ps) (hne : 0 < ps.length → ∀ blk o, b = some ⟨blk, o, none⟩ → blk ≠ g) (hg : w.grownBy w' (some g)) : RdB w' b ps := by
  by_cases h0 : 0 < ps.length
  · exact RdC.congr h (fun bb oo e hlt => hg.block bb hlt (fun e2 => hne h0 bb oo e (Option.some.inj e2)))
  · have hp : ps = [] := List.eq_nil_of_length_eq_zero (by omega)
    subst hp; exact RdC.nil _ _
theorem rd_frm {w w' : World} {b : Option Addr} {ps : List UInt8} {S : Nat → Prop} (h : RdB w b ps) (hne : 0 < ps.length → ∀ blk o, b = some ⟨blk, o, none⟩ → ¬ S blk) (hF : Frm w.heap.size S w w') : RdB w' b ps := by
  by_cases h0 : 0 < ps.length
  · exact RdC.congr h (fun bb oo e hlt => hF.block bb hlt (hne h0 bb oo e))
  · have hp : ps = [] := List.eq_nil_of_length_eq_zero (by omega)
    subst hp; exact RdC.nil _ _

/-- grow, whatever the reader holds. -/
theorem bufGrow (g p n c off : Nat) (r : Option Nat) (lr : Int) (br : Bool) (l : List UInt8) (cur : Array Value) (w : World) (h : Raw w g (r.map fun k => ⟨k, 0, none⟩) n c off lr br) (ho : off ≤ n) (hnc : n ≤ c) (hc : c ≤ 9223372036854775807) (hll : l.length = n - off)
    (hk : ∀ k, r = some k → k ≠ g ∧ w.heap[k]? = some (.cells cur 5 (0, 0)) ∧ cur.size = c ∧ (cur.toList.take n).drop off = bvs l) (hr : r = none → c = 0) (hno : c < n + p) (hp : 1 ≤ p) (hbig : l.length + p ≤ 1000000) :
    Calls Tryd.prog 36 #[.pointer (some ⟨g, 0, none⟩), .int .i64 p] w fun e w' => e = .returned (.int .i64 l.length) ∧ Grown w g (r.map fun k => ⟨k, 0, none⟩) l.length p l br w' := by
  cases r with
  | none =>
    obtain rfl := hr rfl
    obtain rfl : n = 0 := by omega
    obtain rfl : off = 0 := by omega
    obtain rfl : l = [] := List.eq_nil_of_length_eq_zero hll
    by_cases h64 : p ≤ 64
    · exact growNilSmall g p lr br w h hp h64
    · exact growNilBig g p lr br w h (by omega) (by simpa using hbig)
  | some k =>
    obtain ⟨k1, k2, k3, k4⟩ := hk k rfl
    by_cases hm : n ≠ off ∨ off = 0
    · by_cases hs : p + l.length ≤ c / 2
      · exact growSlide g k n c off p lr br l cur w h k1 k2 k3 ho hnc hc k4 hll hm hno hs
      · exact growNew g k n c off p lr br l cur w h k1 k2 k3 ho hnc hc k4 hll hm hno (by omega) hbig (by omega) hp
    · obtain rfl : n = off := by omega
      have hn0 : n ≠ 0 := by omega
      obtain rfl : l = [] := List.eq_nil_of_length_eq_zero (by omega)
      by_cases hpc : p ≤ c
      · exact growBack g k n c p lr br cur w h k1 k2 k3 hnc hc hn0 hpc hno
      · exact growNew0 g k n c p lr br cur w h k1 k2 k3 hnc hn0 (by omega) (by simpa using hbig)

set_option maxHeartbeats 4000000 in
theorem bufWrite (g : Nat) (r : Option Nat) (l : List UInt8) (br : Bool) (b : Option Addr) (n1 c1 : Nat) (ps : List UInt8) (w : World) (h : In w g r l br) (hb : RdB w b ps) (e1 : ps.length = n1) (hne : 0 < ps.length → ∀ blk o, b = some ⟨blk, o, none⟩ → blk ≠ g ∧ r ≠ some blk) (hbig : l.length + n1 ≤ 1000000) :
    Calls Tryd.prog 29 #[.pointer (some ⟨g, 0, none⟩), .slice b n1 c1] w fun e w' => e = .returned (.tuple #[.int .i64 n1, .nilIface]) ∧ ∃ r', In w' g r' (l ++ ps) br ∧ NewRow w r r' ∧ InF g r w w' := by
  obtain ⟨n, c, off, lr, cur, h1, h2, h3, h4, h5, h6, h7⟩ := h.out
  have hlt := h.lt
  have f2 := frozen_of_row w g 2 _ _ h1
  have cc2 := cell_of_row w g 2 _ _ _ h1
  have hraw : Raw w g (r.map fun k => ⟨k, 0, none⟩) n c off lr br := h1
  have HW := Lib.hid hraw; clear hraw h1 h
  have HB := Lib.hid hb; clear hb
  have H6 := Lib.hid h6; clear h6
  have H7 := Lib.hid h7; clear h7
  have HNE := Lib.hid hne; clear hne
  have HE1 := Lib.hid e1; clear e1
  have HL := Lib.hid h2; clear h2
  go_enter Tryd.func29, Tryd.ntmps29
  (repeat' ((fail_if_success at_builtin); first | go_values | go_skip | go_guarded | go_step | go_upon))
  obtain ⟨w1, hw1⟩ : ∃ w1, w.setCell ⟨g, 2, none⟩ (.int .i8 0) = w1 := ⟨_, rfl⟩
  have hr1 : Raw w1 g (r.map fun k => ⟨k, 0, none⟩) n c off 0 br := by rw [← hw1]; exact set_at HW.out 2 _
  have hb1 : RdB w1 b ps := by rw [← hw1]; exact rd_set HB.out (fun h0 blk o e => (HNE.out h0 blk o e).1) 2 _
  have hs1 : w1.heap.size = w.heap.size := by rw [← hw1]; simp [World.setCell]
  have hF1 : InF g r w w1 := by rw [← hw1]; exact (Frm.refl _ _ w).setCell (fun _ => Or.inl rfl) _
  have hk1 : ∀ k, r = some k → k ≠ g ∧ w1.heap[k]? = some (.cells cur 5 (0, 0)) ∧ cur.size = c ∧ (cur.toList.take n).drop off = bvs l := fun k e => ⟨(H6.out k e).1, by rw [← hw1, Below.heap_setCell _ _ _ _ (by show k ≠ g; exact (H6.out k e).1)]; exact (H6.out k e).2.1, (H6.out k e).2.2⟩
  rw [hw1]
  clear hw1 f2 cc2
  have HR1 := Lib.hid hr1; clear hr1
  have HB1 := Lib.hid hb1; clear hb1
  have HF1 := Lib.hid hF1; clear hF1
  have HK1 := Lib.hid hk1; clear hk1
  have HS1 := Lib.hid hs1; clear hs1
  by_cases hroom : n + n1 ≤ c
  · refine (tryYes g _ n c off n1 0 br w1 HR1.out h5 hroom).mono ?_
    rintro _ w2 ⟨rfl, hg2, hr2⟩
    dsimp only
    have HG2 := Lib.hid hg2; clear hg2
    have HR2 := Lib.hid hr2; clear hr2
    have c0 := cell_of_row w2 g 0 _ _ _ HR2.out
    obtain ⟨a2, ha2⟩ : ∃ a2, (if c = n then r.map (fun k => (⟨k, 0, none⟩ : Addr)) else (r.map (fun k => (⟨k, 0, none⟩ : Addr))).map (·.add n)) = a2 := ⟨_, rfl⟩
    have hsl : ∀ w, (Instr.slice 22 (.slice (r.map fun k => ⟨k, 0, none⟩) (n + n1) c) (some (.int .i64 (n : Int))) none none).run Tryd.prog w = .ok (.slice a2 n1 (c - n)) w := fun w => by
      have h := run_slice_from (P := Tryd.prog) 22 5 Tryd.underlying22 hszB (r.map fun k => ⟨k, 0, none⟩) (n + n1) c n (by omega) w
      rw [Nat.add_sub_cancel_left, ha2] at h
      exact h
    have HA2 := Lib.hid ha2; clear ha2
    have hB2 : RdB w2 b ps := rd_grown HB1.out (fun h0 blk o e => (HNE.out h0 blk o e).1) HG2.out
    have HB2 := Lib.hid hB2; clear hB2
    (repeat' ((fail_if_success at_builtin); (fail_if_success (show wpList _ _ _ ({ dst := some 31, op := _, type := _, pos := _, after := _, guard := _ } :: _) _ _)); first | (fail) | go_values | go_skip | go_guarded | go_step | go_upon))
    cases r with
    | none =>
      have hn1 : n1 = 0 := by have := H7.out rfl; omega
      have hps : ps = [] := List.eq_nil_of_length_eq_zero (by rw [HE1.out]; exact hn1)
      refine wpList_cp rfl _ _ _ _ rfl 5 Tryd.underlying22 hszB a2 b n1 (c - n) n1 c1 rfl rfl g 0 _ _ HR2.out [] (by rw [hn1]; rfl) (fun h => absurd h (by decide)) (RdC.nil _ _) (by simp) (fun v hv => by cases hv) ?_
      intro w3 hg3 hG3
      have HG3 := Lib.hid hg3; clear hg3
      have hnn : n = 0 := by have := H7.out rfl; omega
      have h6 := H6.out
      clear c0
      (repeat' ((fail_if_success at_builtin); first | go_values | go_skip | go_guarded | go_step | go_upon))
      go_ret2
      have hr3 : Raw w3 g none (n + n1) c off 0 br := HG3.out
      refine ⟨by rw [hn1]; rfl, none, ⟨⟨n + n1, c, off, 0, cur, hr3, by rw [hps, List.append_nil, HL.out, hn1]; omega, by omega, hroom, h5, (fun k e => by cases e), fun _ => H7.out rfl⟩⟩, Or.inl rfl, ?_⟩
      exact (HF1.out.grown HG2.out (by rw [HS1.out]; exact Nat.le_refl _) (fun j e _ => by cases e; exact Or.inl rfl)).grown hG3 (by have := HG2.out.size; rw [HS1.out] at this; exact this) (fun j e _ => by cases e; exact Or.inl rfl)
    | some k =>
      obtain ⟨k1, k2, k3, k4⟩ := HK1.out k rfl
      have hk2 : w2.heap[k]? = some (.cells cur 5 (0, 0)) := (HG2.out.block k (Array.getElem?_eq_some_iff.1 k2).1 (by intro e; cases e; exact k1 rfl)).trans k2
      refine wpList_cp rfl _ _ _ _ rfl 5 Tryd.underlying22 hszB a2 b n1 (c - n) n1 c1 rfl rfl k n cur _ hk2 (bvs ps) (by rw [bvs_length, HE1.out]; exact (Nat.min_self _).symm) (fun h => by
        rw [bvs_length, HE1.out] at h
        rw [← HA2.out, if_neg (by omega)]
        show some (Addr.add ⟨k, 0, none⟩ n) = _
        rw [Lib.addr_add, Nat.zero_add]) HB2.out (by rw [bvs_length, HE1.out, k3]; exact hroom) (bvs_oneCell ps) ?_
      intro w3 hg3 hG3
      have hr3 : Raw w3 g (some ⟨k, 0, none⟩) (n + n1) c off 0 br := (hG3.block g (by have := HG2.out.size; rw [HS1.out] at this; omega) (by intro e; cases e; exact k1 rfl)).trans HR2.out
      have hsp := splice_end cur n (bvs ps) (by rw [bvs_length, HE1.out, k3]; exact hroom)
      rw [bvs_length, HE1.out] at hsp
      have HSP := Lib.hid hsp; clear hsp
      have HG3 := Lib.hid hg3; clear hg3
      have HR3 := Lib.hid hr3; clear hr3
      rw [bvs_length, HE1.out]
      clear c0 hk2
      (repeat' ((fail_if_success at_builtin); first | go_values | go_skip | go_guarded | go_step | go_upon))
      go_ret2
      refine ⟨rfl, some k, ⟨⟨n + n1, c, off, 0, (splice cur.toList n (bvs ps)).toArray, HR3.out, by rw [List.length_append, HL.out, HE1.out]; omega, by omega, hroom, h5, fun j e => ?_, fun e => by cases e⟩⟩, Or.inl rfl, ?_⟩
      · cases e
        refine ⟨k1, HG3.out, by rw [HSP.out.1]; exact k3, ?_⟩
        rw [HSP.out.2, List.drop_append_of_le_length (by rw [List.length_take, Array.length_toList, k3]; omega), k4, bvs_append]
      · exact (HF1.out.grown HG2.out (by rw [HS1.out]; exact Nat.le_refl _) (fun j e _ => by cases e; exact Or.inl rfl)).grown hG3 (by have := HG2.out.size; rw [HS1.out] at this; exact this) (fun j e _ => by cases e; exact Or.inr rfl)
  · have hp1 : 1 ≤ n1 := by omega
    refine (tryNo g _ n c off n1 0 br w1 HR1.out h4 h5 (by omega)).mono ?_
    rintro _ _ ⟨rfl, rfl⟩
    dsimp only
    have HGR := Lib.hid (bufGrow g n1 n c off r 0 br l cur w1 HR1.out h3 h4 h5 HL.out HK1.out H7.out (by omega) hp1 hbig)
    (repeat' ((fail_if_success at_builtin); first | go_values | go_skip | go_guarded | go_step | go_upon))
    refine HGR.out.mono ?_
    rintro _ w3 ⟨rfl, k, c', lr', cur', r1, r2, r3, r4, r5, r6, r7, r8, r9⟩
    dsimp only
    unfold maxLen at r6
    have HR3 := Lib.hid r1; clear r1
    have c0 := cell_of_row w3 g 0 _ _ _ HR3.out
    obtain ⟨m, hm⟩ : ∃ m, l.length = m := ⟨_, rfl⟩
    rw [hm] at r5 r7 HR3 c0 hbig ⊢
    have HM := Lib.hid hm; clear hm
    obtain ⟨a2, ha2⟩ : ∃ a2, (if c' = m then some (⟨k, 0, none⟩ : Addr) else (some (⟨k, 0, none⟩ : Addr)).map (·.add m)) = a2 := ⟨_, rfl⟩
    have hsl : ∀ w, (Instr.slice 22 (.slice (some ⟨k, 0, none⟩) (m + n1) c') (some (.int .i64 (m : Int))) none none).run Tryd.prog w = .ok (.slice a2 n1 (c' - m)) w := fun w => by
      have h := run_slice_from (P := Tryd.prog) 22 5 Tryd.underlying22 hszB (some ⟨k, 0, none⟩) (m + n1) c' m (by omega) w
      rw [Nat.add_sub_cancel_left, ha2] at h
      exact h
    have HA2 := Lib.hid ha2; clear ha2
    have hrk : ∀ j, (j = g ∨ (r.map fun k => (⟨k, 0, none⟩ : Addr)) = some ⟨j, 0, none⟩) → (j = g ∨ r = some j) := by
      intro j hj
      rcases hj with h | h
      · exact Or.inl h
      · right
        cases r with
        | none => cases h
        | some q => simp at h; rw [h]
    have hB3 : RdB w3 b ps := rd_frm HB1.out (fun h0 blk o e hS => by
      rcases hrk blk hS with h | h
      · exact (HNE.out h0 blk o e).1 h
      · exact (HNE.out h0 blk o e).2 h) r9
    have HB3 := Lib.hid hB3; clear hB3
    have HR7 := Lib.hid r7; clear r7
    (repeat' ((fail_if_success at_builtin); (fail_if_success (show wpList _ _ _ ({ dst := some 31, op := _, type := _, pos := _, after := _, guard := _ } :: _) _ _)); first | (fail) | go_values | go_skip | go_guarded | go_step | go_upon))
    refine wpList_cp rfl _ _ _ _ rfl 5 Tryd.underlying22 hszB a2 b n1 (c' - m) n1 c1 rfl rfl k m cur' _ r3 (bvs ps) (by rw [bvs_length, HE1.out]; exact (Nat.min_self _).symm) (fun h => by
      rw [bvs_length, HE1.out] at h
      rw [← HA2.out, if_neg (by omega)]
      show some (Addr.add ⟨k, 0, none⟩ m) = _
      rw [Lib.addr_add, Nat.zero_add]) HB3.out (by rw [bvs_length, HE1.out, r4]; exact r5) (bvs_oneCell ps) ?_
    intro w4 hg4 hG4
    have hgl3 : g < w3.heap.size := (Array.getElem?_eq_some_iff.1 HR3.out).1
    have hr4 : Raw w4 g (some ⟨k, 0, none⟩) (m + n1) c' 0 lr' br := (hG4.block g hgl3 (by intro e; cases e; exact r2 rfl)).trans HR3.out
    have hsp := splice_end cur' m (bvs ps) (by rw [bvs_length, HE1.out, r4]; exact r5)
    rw [bvs_length, HE1.out] at hsp
    have HSP := Lib.hid hsp; clear hsp
    have HG4 := Lib.hid hg4; clear hg4
    have HR4 := Lib.hid hr4; clear hr4
    rw [bvs_length, HE1.out]
    clear c0
    (repeat' ((fail_if_success at_builtin); first | go_values | go_skip | go_guarded | go_step | go_upon))
    go_ret2
    refine ⟨rfl, some k, ⟨⟨m + n1, c', 0, lr', (splice cur'.toList m (bvs ps)).toArray, HR4.out, by rw [List.length_append, HM.out, HE1.out]; rfl, by omega, r5, r6, fun j e => ?_, fun e => by cases e⟩⟩, ?_, ?_⟩
    · cases e
      refine ⟨r2, HG4.out, by rw [HSP.out.1]; exact r4, ?_⟩
      rw [HSP.out.2, List.drop_zero, HR7.out, bvs_append]
    · rcases r8 with h | h
      · left
        cases r with
        | none => cases h
        | some q => simp at h; rw [h]
      · exact Or.inr ⟨k, rfl, by rw [HS1.out] at h; exact h⟩
    · have hf9 : Frm w.heap.size (fun j => j = g ∨ r = some j) w1 w3 := r9.mono (by rw [HS1.out]; exact Nat.le_refl _) (fun j _ h => hrk j h)
      have hf13 := HF1.out.trans hf9
      exact hf13.grown hG4 (by have := r9.size; rw [HS1.out] at this; exact this) (fun j e hj => by
        cases e
        rcases r8 with h | h
        · exact hrk _ (Or.inr h)
        · rw [HS1.out] at h; omega)

end Go.Proofs.YthgaghpakioglaaDoor
