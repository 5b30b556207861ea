/- The laws ShaAsked and ShaWhole, walked. -/
import Derived.Test.YtdpfemhfmofmlaaDoorShaSums
import Derived.IntWalk
namespace Go.Proofs.YtdpfemhfmofmlaaDoor
set_option linter.unusedSimpArgs false
open Go.RowKit
set_option maxRecDepth 10000

/-- A write in a later world: the bytes lie in older memory. -/
theorem hWriteOld (w0 : World) (g : Nat) (a : Option Addr) (n c : Nat) (m l : List UInt8) (w : World) (hT : Tabs w0) (hB : Below w0.heap.size w0 w) (hg : w0.heap.size ≤ g) (h : HashAt w g m m.length) (hr : RdB w0 a l) (en : l.length = n) (hc : n ≤ c) (hb : m.length + n ≤ 1000000000) :
    Calls Tryd.prog 28 #[.pointer (some ⟨g, 0, none⟩), .slice a n c] w fun e w' => e = .returned (.tuple #[]) ∧ HashAt w' g (m ++ l) (m ++ l).length ∧ Below w0.heap.size w0 w' ∧ Frm w.heap.size (fun k => k = g) w w' := by
  have hne : 0 < l.length → ∀ b off, a = some ⟨b, off, none⟩ → b ≠ g := by
    intro h0 b off e
    obtain ⟨b', off', e', hb'⟩ := hr.lt (by rw [bvs_length]; exact h0)
    rw [e] at e'
    cases e'
    omega
  have hts := hT.size
  refine (hWrite g a n c m l w (hT.below hB hT.size) (by omega) h (hr.below hB (Nat.le_refl _)) en hc hne hb).mono fun e w' ⟨h1, h2, h3⟩ => ⟨h1, by rw [List.length_append, en]; exact h2, hB.trans (h3.belowOf hB.size (fun k e => by omega)), h3⟩

/-- A hash behind what changes another block alone. -/
theorem HashAt.frm {w w' : World} {g g' all : Nat} {m : List UInt8} (h : HashAt w g m all) (hf : Frm w.heap.size (fun k => k = g') w w') (hne : g ≠ g') : HashAt w' g m all := by
  obtain ⟨rest, h1, h2⟩ := h.out
  exact ⟨rest, h1, (hf.block g h.lt hne).trans h2⟩

/-- What is known of each world where two hashes are asked. -/
abbrev WA (w0 : World) (g1 g2 zw : Nat) (M1 M2 D l : List UInt8) (a : Option Addr) (w' : World) : Prop :=
  w'.rangeAt zw 0 (bvs D) ∧ (Tabs w' ∧ HashAt w' g1 M1 M1.length ∧ HashAt w' g2 M2 M2.length ∧ RdB w' a l ∧ Below w0.heap.size w0 w')
theorem wa_below {w0 w1 w2 : World} {g1 g2 zw : Nat} {M1 M2 D l : List UInt8} {a : Option Addr} (hb : Below w1.heap.size w1 w2) (h : WA w0 g1 g2 zw M1 M2 D l a w1) : WA w0 g1 g2 zw M1 M2 D l a w2 :=
  ⟨rangeAt_below h.1 hb (Nat.le_refl _), h.2.1.below hb h.2.1.size, h.2.2.1.below hb h.2.2.1.lt, h.2.2.2.1.below hb h.2.2.2.1.lt, h.2.2.2.2.1.below hb (Nat.le_refl _), h.2.2.2.2.2.trans (hb.mono h.2.2.2.2.2.size)⟩
theorem wa_drew {w0 w1 : World} {g1 g2 zw : Nat} {M1 M2 D l : List UInt8} {a : Option Addr} (h : WA w0 g1 g2 zw M1 M2 D l a w1) : WA w0 g1 g2 zw M1 M2 D l a w1.drew := wa_below ((Below.refl w1.heap.size w1).drew) h

theorem hSumOf (g : Nat) (m D : List UInt8) (w : World) (hD : wdig m = D) (hT : Tabs w) (h : HashAt w g m m.length) (hb : m.length ≤ 500000000) :
    Calls Tryd.prog 30 #[.pointer (some ⟨g, 0, none⟩)] w fun e w' => e = .returned (.agg (bvs D).toArray) ∧ Below w.heap.size w w' := by
  subst hD; exact hSum g m w hT h hb
theorem shaSumOf (a : Option Addr) (n c : Nat) (l D : List UInt8) (w : World) (hD : wdig l = D) (hT : Tabs w) (hr : RdB w a l) (en : l.length = n) (hc : n ≤ c) (hn : n ≤ 400000000) :
    Calls Tryd.prog 24 #[.slice a n c] w fun e w' => e = .returned (.agg (bvs D).toArray) ∧ Below w.heap.size w w' := by
  subst hD; exact shaSum a n c l w hT hr en hc hn

set_option maxHeartbeats 2000000 in
theorem shaAsked_walk (a b : Option Addr) (n1 n2 c1 c2 : Nat) (l1 l2 : List UInt8) (w : World) (hT : Tabs w) (h1 : RdB w a l1) (h2 : RdB w b l2) (e1 : l1.length = n1) (e2 : l2.length = n2) (hn1 : n1 ≤ c1) (hn2 : n2 ≤ c2) (hc1 : c1 ≤ 9223372036854775807) (hc2 : c2 ≤ 9223372036854775807) :
    Calls Tryd.prog 6 #[.slice a n1 c1, .slice b n2 c2] w fun e w' => e = .returned (.bool true) ∧ Below w.heap.size w w' := by
  subst e1 e2
  have hts := hT.size
  have HT := Lib.hid hT; clear hT
  have HR1 := Lib.hid h1; clear h1
  have HR2 := Lib.hid h2; clear h2
  have hlen1 : (l1.length : Int) ≤ 9223372036854775807 := by omega
  have hlen2 : (l2.length : Int) ≤ 9223372036854775807 := by omega
  by_cases hb1 : 8192 < l1.length
  · have t1 : decide ((8192 : Int) < (l1.length : Int)) = true := by simp; omega
    go_enter Tryd.func6, Tryd.ntmps6
    (repeat' ((fail_if_success at_builtin); first | go_values | go_skip | go_guarded | go_step | go_upon))
    refine (works01 w HT.out).mono ?_
    rintro _ w1 ⟨rfl, hB1⟩
    dsimp only
    (repeat' ((fail_if_success at_builtin); first | go_values | go_skip | go_guarded | go_step | go_upon))
    go_ret
    exact ⟨rfl, hB1⟩
  · have t1 : decide ((8192 : Int) < (l1.length : Int)) = false := by simp; omega
    by_cases hb2 : 8192 < l2.length
    · have t2 : decide ((8192 : Int) < (l2.length : Int)) = true := by simp; omega
      go_enter Tryd.func6, Tryd.ntmps6
      (repeat' ((fail_if_success at_builtin); first | go_values | go_skip | go_guarded | go_step | go_upon))
      refine (works01 w HT.out).mono ?_
      rintro _ w1 ⟨rfl, hB1⟩
      dsimp only
      (repeat' ((fail_if_success at_builtin); first | go_values | go_skip | go_guarded | go_step | go_upon))
      go_ret
      exact ⟨rfl, hB1⟩
    · have t2 : decide ((8192 : Int) < (l2.length : Int)) = false := by simp; omega
      obtain ⟨iS, zS, hiS, hzS, hcS⟩ := fresh_parts zeroSum
      have HIS := Lib.hid hiS; clear hiS
      have HZS := Lib.hid hzS; clear hzS
      have HCS := Lib.hid hcS; clear hcS
      obtain ⟨D, hD⟩ : ∃ D, wdig l1 = D := ⟨_, rfl⟩
      obtain ⟨E, hE⟩ : ∃ E, wdig (l1 ++ l2) = E := ⟨_, rfl⟩
      have hDl : (bvs D).length = 32 := by rw [bvs_length, ← hD, wdig_length]
      have heqD := fun w => eqSumSame D (by rw [← hD, wdig_length]) w
      have heqE := fun w => eqSumSame E (by rw [← hE, wdig_length]) w
      have hu26 : Tryd.prog.underlying 26 = some _ := Tryd.underlying26
      have hi26 : (Tryd.prog.info? 26).map (·.size) = some (bvs D).length := by rw [hDl]; exact sizeSum
      have hfD : 0 + (bvs D).length ≤ (List.replicate 32 (Value.int .u8 0)).toArray.size := by rw [hDl]; simp
      have HEQD := Lib.hid heqD; clear heqD
      have HEQE := Lib.hid heqE; clear heqE
      have HI26 := Lib.hid hi26; clear hi26
      have HFD := Lib.hid hfD; clear hfD
      have HDO := Lib.hid (bvs_oneCell D)
      have HDL := Lib.hid hDl; clear hDl
      have HD := Lib.hid hD; clear hD
      have HE := Lib.hid hE; clear hE
      have HU26 := Lib.hid hu26; clear hu26
      go_enter Tryd.func6, Tryd.ntmps6
      (repeat' ((fail_if_success at_builtin); first | go_values | go_skip | go_guarded | go_step | go_upon))
      refine (hNew w HT.out).mono ?_
      rintro _ w1 ⟨rfl, hh1, hB1, hs1⟩
      dsimp only
      have HH1 := Lib.hid hh1; clear hh1
      have HS1 := Lib.hid hs1; clear hs1
      (repeat' ((fail_if_success at_builtin); first | go_values | go_skip | go_guarded | go_step | go_upon))
      refine (hWriteOld w w.heap.size a _ c1 [] l1 w1 HT.out hB1 (Nat.le_refl _) HH1.out HR1.out rfl hn1 (by simp; omega)).mono ?_
      rintro _ w2 ⟨rfl, hh2, hB2, _⟩
      dsimp only
      rw [List.nil_append] at hh2
      have HH2 := Lib.hid hh2; clear hh2
      (repeat' ((fail_if_success at_builtin); first | go_values | go_skip | go_guarded | go_step | go_upon))
      refine (hSumOf w.heap.size l1 D w2 HD.out (HT.out.below hB2 hts) HH2.out (by omega)).mono ?_
      rintro _ w3 ⟨rfl, hB3⟩
      dsimp only
      have hB03 : Below w.heap.size w w3 := hB2.trans (hB3.mono hB2.size)
      have hh3 := HH2.out.below hB3 HH2.out.lt
      have hz3 := hh3.lt
      have HH3 := Lib.hid hh3; clear hh3
      (repeat' ((fail_if_success at_builtin); first | (first | ((with_reducible refine wpList_alloc_fresh (w := w3) rfl 26 rfl _ iS zS HIS.out HZS.out HCS.out ?_); intro w4 hg4 hB4 hs4; have HG4 := Lib.hid hg4; clear hg4; have HS4 := Lib.hid hs4; clear hs4) | ((with_reducible refine wpList_store_blk rfl 26 _ _ rfl w3.heap.size 0 (bvs D) rfl rfl _ _ HG4.out HFD.out HI26.out HDO.out ?_); intro w5 hg5 hG5; have HG5 := Lib.hid hg5; clear hg5)) | go_values | go_skip | go_guarded | go_step | go_upon))
      have hg5 := HG5.out
      rw [splice_whole _ _ (by rw [HDL.out]; simp)] at hg5
      have hB35 : Below w3.heap.size w3 w5 := hB4.grown hG5 (by have := HS4.out; omega) (fun k e => by cases e; exact Nat.le_refl _)
      have hB05 : Below w.heap.size w w5 := hB03.trans (hB35.mono hB03.size)
      have hh5 := HH3.out.below hB35 HH3.out.lt
      have hz5 : w3.heap.size < w5.heap.size := (Array.getElem?_eq_some_iff.1 hg5).1
      have HG5' := Lib.hid hg5; clear hg5
      have HH5 := Lib.hid hh5; clear hh5
      refine (hWriteOld w w.heap.size b _ c2 l1 l2 w5 HT.out hB05 (Nat.le_refl _) HH5.out HR2.out rfl hn2 (by omega)).mono ?_
      rintro _ w6 ⟨rfl, hh6, hB6, hF6⟩
      dsimp only
      have hg6 := (hF6.block w3.heap.size hz5 (by omega)).trans HG5'.out
      have HH6 := Lib.hid hh6; clear hh6
      have HG6 := Lib.hid hg6; clear hg6
      have hz6 := hF6.size
      (repeat' ((fail_if_success at_builtin); first | go_values | go_skip | go_guarded | go_step | go_upon))
      refine (hNew w6 (HT.out.below hB6 hts)).mono ?_
      rintro _ w7 ⟨rfl, hh7, hB7, hs7⟩
      dsimp only
      have hB07 : Below w.heap.size w w7 := hB6.trans (hB7.mono hB6.size)
      have hh67 := HH6.out.below hB7 HH6.out.lt
      have hg7 := (hB7.block w3.heap.size (by omega)).trans HG6.out
      have HH7 := Lib.hid hh7; clear hh7
      have HH67 := Lib.hid hh67; clear hh67
      have HG7 := Lib.hid hg7; clear hg7
      have HS7 := Lib.hid hs7; clear hs7
      have hz60 := hB6.size
      (repeat' ((fail_if_success at_builtin); first | go_values | go_skip | go_guarded | go_step | go_upon))
      refine (hWriteOld w w6.heap.size a _ c1 [] l1 w7 HT.out hB07 hz60 HH7.out HR1.out rfl hn1 (by simp; omega)).mono ?_
      rintro _ w8 ⟨rfl, hh8, hB8, hF8⟩
      dsimp only
      rw [List.nil_append] at hh8
      have hh68 := HH67.out.frm hF8 (by omega)
      have hg8 := (hF8.block w3.heap.size (by have := HS7.out; omega) (by omega)).trans HG7.out
      have HH8 := Lib.hid hh8; clear hh8
      have HH68 := Lib.hid hh68; clear hh68
      have HG8 := Lib.hid hg8; clear hg8
      have hz8 := hF8.size
      (repeat' ((fail_if_success at_builtin); first | go_values | go_skip | go_guarded | go_step | go_upon))
      refine (hWriteOld w w6.heap.size b _ c2 l1 l2 w8 HT.out hB8 hz60 HH8.out HR2.out rfl hn2 (by omega)).mono ?_
      rintro _ w9 ⟨rfl, hh9, hB9, hF9⟩
      dsimp only
      have hh69 := HH68.out.frm hF9 (by omega)
      have hg9 := (hF9.block w3.heap.size (by have := HS7.out; omega) (by omega)).trans HG8.out
      have hwa : WA w w.heap.size w6.heap.size w3.heap.size (l1 ++ l2) (l1 ++ l2) D l1 a w9 := ⟨rangeAt_whole hg9, HT.out.below hB9 hts, hh69, hh9, HR1.out.below hB9 (Nat.le_refl _), hB9⟩
      have hwad := wa_drew hwa
      clear hwa hg9 hh69 hh9
      have heqD := HEQD.out
      have heqE := HEQE.out
      have hu26 := HU26.out
      have hi26 := HI26.out
      have hl26 := HDL.out
      have ho26 := HDO.out
      (repeat' ((fail_if_success at_builtin); first | go_values | go_skip | go_guarded | go_step | go_upon))
      have hbb : (l1 ++ l2).length ≤ 500000000 := by rw [List.length_append]; omega
      have HBB := Lib.hid hbb; clear hbb
      refine wp_region_noPanic ?_
      refine wp_region_held_drew (S := WA w w.heap.size w6.heap.size w3.heap.size (l1 ++ l2) (l1 ++ l2) D l1 a) (by kernel_rfl) ?_ (fun hHeld => ?_)
      · (assumption)
      refine' wpAnyH_take (i := 0) (oi := _) (v := _) rfl (by kernel_rfl) (by kernel_rfl) (by kernel_rfl) (fun _ _ _ h => h) (yieldsIf_load_mid (by rfl) _ _ rfl _ _ rfl _ _ ?ls1 ?lu1 ?ld1 ?li1) (by assumption) ?lr1
      case ls1 => (intro w hSw; (try dsimp only at hSw); go_split_ands; assumption)
      case lu1 => assumption
      case ld1 => rfl
      case li1 => first | assumption | (simp only [*]; done)
      try simp only [Act.put, List.setIfInBounds_toArray, List.set_cons_zero, List.set_cons_succ]
      refine wpAnyH_take (i := 1) (oi := _) (v := ?_) rfl (by kernel_rfl) (by kernel_rfl) (by kernel_rfl) (fun _ _ _ h => h) (Or.inl ⟨by rfl, ?_⟩) (by assumption) ?_
      rotate_left 1
      · (intro w hSw; (try dsimp only at hSw); go_simp; all_goals (with_reducible rfl))
      try simp only [Act.put, List.setIfInBounds_toArray, List.set_cons_zero, List.set_cons_succ]
      refine wpAnyH_ready (rs := [2]) (by kernel_rfl) (by simp) ?_
      refine AllReadyH.cons (o := _) rfl (fun K hK => ?_) ?_
      rotate_left 1
      · exact AllReadyH.nil
      go_simp
      go_at_call 24
      refine (shaSumOf a _ c1 l1 D _ HD.out hHeld.2.1 hHeld.2.2.2.2.1 rfl hn1 (by omega)).mono ?_
      rintro _ wA ⟨rfl, hBA⟩
      dsimp only
      refine hK.out _ _ ?_ (fun hHeld => ?_)
      · (apply wa_below; assumption; assumption)
      clear hK K
      try simp only [Act.put, List.setIfInBounds_toArray, List.set_cons_zero, List.set_cons_succ]
      refine wpAnyH_take (i := 3) (oi := _) (v := ?_) rfl (by kernel_rfl) (by kernel_rfl) (by kernel_rfl) (fun _ _ _ h => h) (Or.inl ⟨by rfl, ?_⟩) (by assumption) ?_
      rotate_left 1
      · (intro w hSw; (try dsimp only at hSw); go_simp; all_goals (with_reducible rfl))
      try simp only [Act.put, List.setIfInBounds_toArray, List.set_cons_zero, List.set_cons_succ]
      refine wpAnyH_take (i := 4) (oi := _) (v := ?_) rfl (by kernel_rfl) (by kernel_rfl) (by kernel_rfl) (fun _ _ _ h => h) (Or.inl ⟨by rfl, ?_⟩) (by assumption) ?_
      rotate_left 1
      · (intro w hSw; (try dsimp only at hSw); go_simp; all_goals (with_reducible rfl))
      try simp only [Act.put, List.setIfInBounds_toArray, List.set_cons_zero, List.set_cons_succ]
      refine wpAnyH_take (i := 5) (oi := _) (v := ?_) rfl (by kernel_rfl) (by kernel_rfl) (by kernel_rfl) (fun _ _ _ h => h) (Or.inl ⟨by rfl, ?_⟩) (by assumption) ?_
      rotate_left 1
      · (intro w hSw; (try dsimp only at hSw); go_simp; all_goals (with_reducible rfl))
      try simp only [Act.put, List.setIfInBounds_toArray, List.set_cons_zero, List.set_cons_succ]
      refine wpAnyH_take (i := 7) (oi := _) (v := ?_) rfl (by kernel_rfl) (by kernel_rfl) (by kernel_rfl) (fun _ _ _ h => h) (Or.inl ⟨by rfl, ?_⟩) (by assumption) ?_
      rotate_left 1
      · (intro w hSw; (try dsimp only at hSw); go_simp; all_goals (with_reducible rfl))
      try simp only [Act.put, List.setIfInBounds_toArray, List.set_cons_zero, List.set_cons_succ]
      refine wpAnyH_ready (rs := [6]) (by kernel_rfl) (by simp) ?_
      refine AllReadyH.cons (o := _) rfl (fun K hK => ?_) ?_
      rotate_left 1
      · exact AllReadyH.nil
      go_simp
      go_at_call 30
      refine (hSumOf w.heap.size (l1 ++ l2) E _ HE.out hHeld.2.1 hHeld.2.2.1 HBB.out).mono ?_
      rintro _ wB ⟨rfl, hBB⟩
      dsimp only
      refine hK.out _ _ ?_ (fun hHeld => ?_)
      · (apply wa_below; assumption; assumption)
      clear hK K
      try simp only [Act.put, List.setIfInBounds_toArray, List.set_cons_zero, List.set_cons_succ]
      refine wpAnyH_ready (rs := [8]) (by kernel_rfl) (by simp) ?_
      refine AllReadyH.cons (o := _) rfl (fun K hK => ?_) ?_
      rotate_left 1
      · exact AllReadyH.nil
      go_simp
      go_at_call 30
      refine (hSumOf w6.heap.size (l1 ++ l2) E _ HE.out hHeld.2.1 hHeld.2.2.2.1 HBB.out).mono ?_
      rintro _ wC ⟨rfl, hBC⟩
      dsimp only
      refine hK.out _ _ ?_ (fun hHeld => ?_)
      · (apply wa_below; assumption; assumption)
      clear hK K
      try simp only [Act.put, List.setIfInBounds_toArray, List.set_cons_zero, List.set_cons_succ]
      refine wpAnyH_take (i := 9) (oi := _) (v := ?_) rfl (by kernel_rfl) (by kernel_rfl) (by kernel_rfl) (fun _ _ _ h => h) (Or.inl ⟨by rfl, ?_⟩) (by assumption) ?_
      rotate_left 1
      · (intro w hSw; (try dsimp only at hSw); go_simp; all_goals (with_reducible rfl))
      try simp only [Act.put, List.setIfInBounds_toArray, List.set_cons_zero, List.set_cons_succ]
      refine wpAnyH_take (i := 10) (oi := _) (v := ?_) rfl (by kernel_rfl) (by kernel_rfl) (by kernel_rfl) (fun _ _ _ h => h) (Or.inl ⟨by rfl, ?_⟩) (by assumption) ?_
      rotate_left 1
      · (intro w hSw; (try dsimp only at hSw); go_simp; all_goals (with_reducible rfl))
      try simp only [Act.put, List.setIfInBounds_toArray, List.set_cons_zero, List.set_cons_succ]
      refine wpAnyH_take (i := 11) (oi := _) (v := ?_) rfl (by kernel_rfl) (by kernel_rfl) (by kernel_rfl) (fun _ _ _ h => h) (Or.inl ⟨by rfl, ?_⟩) (by assumption) ?_
      rotate_left 1
      · (intro w hSw; (try dsimp only at hSw); go_simp; all_goals (with_reducible rfl))
      try simp only [Act.put, List.setIfInBounds_toArray, List.set_cons_zero, List.set_cons_succ]
      refine wpAnyH_ready (rs := [12]) (by kernel_rfl) (by simp) ?_
      refine AllReadyH.cons (o := _) rfl (fun K hK => ?_) ?_
      rotate_left 1
      · exact AllReadyH.nil
      go_simp
      go_at_call 22
      refine (works01 _ hHeld.2.1).mono ?_
      rintro _ wD ⟨rfl, hBD⟩
      dsimp only
      refine hK.out _ _ ?_ (fun hHeld => ?_)
      · (apply wa_below; assumption; assumption)
      clear hK K
      try simp only [Act.put, List.setIfInBounds_toArray, List.set_cons_zero, List.set_cons_succ]
      refine wpAnyH_take (i := 13) (oi := _) (v := ?_) rfl (by kernel_rfl) (by kernel_rfl) (by kernel_rfl) (fun _ _ _ h => h) (Or.inl ⟨by rfl, ?_⟩) (by assumption) ?_
      rotate_left 1
      · (intro w hSw; (try dsimp only at hSw); go_simp; all_goals (with_reducible rfl))
      try simp only [Act.put, List.setIfInBounds_toArray, List.set_cons_zero, List.set_cons_succ]
      refine wpAnyH_take (i := 14) (oi := _) (v := ?_) rfl (by kernel_rfl) (by kernel_rfl) (by kernel_rfl) (fun _ _ _ h => h) (Or.inl ⟨by rfl, ?_⟩) (by assumption) ?_
      rotate_left 1
      · (intro w hSw; (try dsimp only at hSw); go_simp; all_goals (with_reducible rfl))
      try simp only [Act.put, List.setIfInBounds_toArray, List.set_cons_zero, List.set_cons_succ]
      refine wpAnyH_done (by kernel_rfl) ?_ _
      refine NoPanic.normal ?_
      (repeat' ((fail_if_success at_builtin); first | go_values | go_skip | go_guarded | go_step | go_upon))
      go_ret
      exact ⟨rfl, hHeld.2.2.2.2.2⟩

end Go.Proofs.YtdpfemhfmofmlaaDoor
