/- whole (sealerylaw18), walked: all of a tenant's events, read piece by piece. -/
import Derived.Test.YthgaghpakioglaaSam18
namespace Go.Proofs.Ythgaghpakioglaa
open Go.RowKit
set_option linter.unusedSimpArgs false
set_option linter.unusedVariables false
set_option maxRecDepth 10000
--@PUT2

theorem StrS.len {w : World} {F : Nat → Prop} {g cnt : Nat} {φ : ByteArray → List EvS} (h : StrS w F g cnt φ) (s : ByteArray) : (φ s).length ≤ 1000 := by
  obtain ⟨S, f, h1, h2⟩ := h.out
  rw [← h2, List.length_map]
  obtain ⟨b, n, fm, hx⟩ := h1.x
  cases hf : fm s with
  | none => rw [hx.2.none_ s hf]; exact Nat.zero_le _
  | some v => obtain ⟨tb, _, ht⟩ := hx.2.some_ s v hf; exact ht.len
/-- Events in new memory, by what they say. -/
def Evs (w : World) (base : Nat) (a : Option Addr) (c : Nat) (L : List EvS) : Prop :=
  ∃ outs : List Ev, outs.map Ev.sem = L ∧ w.ownsRow base 54 6 (.slice a L.length c) L.length (outs.flatMap Ev.cells) ∧ ∀ x ∈ outs, x.Rd base w
theorem Evs.below {w w' : World} {base : Nat} {a : Option Addr} {c : Nat} {L : List EvS} (h : Evs w base a c L) (hb : Below w.heap.size w w') : Evs w' base a c L := by
  obtain ⟨outs, h1, h2, h3⟩ := h
  exact ⟨outs, h1, owns_below h2 hb (Nat.le_refl _), fun x hx => (h3 x hx).below hb⟩

set_option maxHeartbeats 4000000 in
theorem wholeAll {w : World} {F : Nat → Prop} {g cnt : Nat} {φ : ByteArray → List EvS} (h : StrS w F g cnt φ) (s t : ByteArray) (step : Nat) (hs : s.size ≤ maxLen) (h1 : 1 ≤ step) (h2 : step ≤ 64) :
    Calls Try.prog 19 #[.pointer (some ⟨g, 0, none⟩), .string s, .string t, .bool false, .int .i64 (step : Int)] w fun e w' => ∃ a c, e = .returned (.slice a (φ s).length c) ∧ (φ s).length ≤ c ∧ Evs w' w.heap.size a c (φ s) ∧ Below w.heap.size w w' := by
  have hlen := h.len s
  obtain ⟨L, hL⟩ : ∃ L, φ s = L := ⟨_, rfl⟩
  rw [hL] at hlen ⊢
  have HL := Lib.hid hL
  have HS := Lib.hid h
  clear h hL
  go_enter Try.func19, Try.ntmps19
  (repeat' ((fail_if_success at_builtin); first | go_values | go_skip | go_guarded | go_step | go_upon))
  go_loopw [11, 12, 13] (fun o f i wr => ∃ (m k : Nat) (a : Option Addr) (c : Nat), o = .slice a (L.take m).length c ∧ f = .int .i64 ((m : Int) + 1) ∧ i = .int .i64 (k : Int) ∧ k ≤ m ∧ m ≤ L.length ∧ Evs wr w.heap.size a c (L.take m) ∧ (L.take m).length ≤ c ∧ Below w.heap.size w wr) (fun _ _ i _ => 1100 - (intOf i).toNat)
  case atStart => exact ⟨0, 0, none, 0, rfl, rfl, rfl, Nat.le_refl _, Nat.zero_le _, ⟨[], rfl, World.ownsRow_nil _ _ _ _, fun x hx => (by cases hx)⟩, Nat.le_refl _, Below.refl _ _⟩
  case round =>
    obtain ⟨m, k, a, c, rfl, rfl, rfl, hkm, hmL, hE, hc, hB⟩ := hrel
    have HE := Lib.hid hE
    clear hE
    have hml : (L.take m).length = m := by rw [List.length_take]; exact Nat.min_eq_left hmL
    have HML := Lib.hid hml
    clear hml
    have t1 : decide ((k : Int) < 1100) = true := by rw [decide_eq_true_eq]; omega
    have hS := HS.out.below hB
    have HS2 := Lib.hid hS
    clear hS
    (repeat' ((fail_if_success at_builtin); first | go_values | go_skip | go_guarded | go_step | go_upon))
    refine (allS HS2.out s ((m : Int) + 1) (step : Int) hs (by omega) (by omega)).mono ?_
    rw [HL.out, show (max ((m : Int) + 1) 1 - 1).toNat = m by omega, show (min (step : Int) 64).toNat = step by omega]
    rintro _ w2 h2'
    obtain ⟨xs, a2, c2, rfl, hx2, hx3, hx4, hB2, hx5⟩ := h2'
    have hxl : xs.length = ((L.drop m).take step).length := by rw [← hx5, List.length_map]
    have hB02 : Below w.heap.size w w2 := hB.trans (hB2.mono hB.size)
    have HE2 := Lib.hid (HE.out.below hB2)
    have HX3 := Lib.hid hx3
    have HX4 := Lib.hid hx4
    have HX5 := Lib.hid hx5
    have hlx := hxl
    rw [List.length_take, List.length_drop] at hlx
    obtain ⟨X, hX⟩ : ∃ X, xs.length = X := ⟨_, rfl⟩
    rw [hX] at hx2 hlx ⊢
    have HXX := Lib.hid hX
    clear hx3 hx4 hx5 hxl hX
    dsimp only
    by_cases h0 : X = 0
    · subst h0
      (repeat' ((fail_if_success at_builtin); first | go_values | go_skip | go_guarded | go_step | go_upon))
      have hme : m = L.length := by omega
      have htk : L.take m = L := by rw [hme, List.take_length]
      rw [htk] at hc HE2 ⊢
      go_ret
      exact ⟨a, c, rfl, hc, HE2.out, hB02⟩
    · have t2 : ((X : Int) == 0) = false := by simp; omega
      obtain ⟨outs, e1, e2, e3⟩ := HE2.out
      obtain ⟨iE, zE, hiE, hzE, hsE, hbE, hcE⟩ := evInfo_parts
      have HIE := Lib.hid hiE
      have HZE := Lib.hid hzE
      have HSE := Lib.hid hsE
      have HBE := Lib.hid hbE
      have HCE := Lib.hid hcE
      have E1 := Lib.hid e1
      have E2 := Lib.hid e2
      have E3 := Lib.hid e3
      clear hiE hzE hsE hbE hcE e1 e2 e3 HE2 HE
      have hsz := hB02.size
      (repeat' ((fail_if_success at_builtin); first | go_values | go_skip | go_guarded | go_step | go_upon))
      have hx3 := HX3.out
      rw [HXX.out] at hx3
      refine wpList_app3 rfl _ _ _ _ rfl w.heap.size 54 iE zE 6 80 Try.underlying26 HIE.out HZE.out HSE.out HBE.out (by rw [HCE.out];rfl) (.slice a (L.take m).length c) (L.take m).length _ rfl E2.out _ rfl X (xs.flatMap Ev.cells) (src_of_rdc Try.underlying26 (rdc_of_owns hx3) (by rw [evs_length, HXX.out]) (fun u hu => (by obtain ⟨x, _, hx⟩ := List.mem_flatMap.1 hu; exact x.cells_oneCell u hx))) (by unfold maxLen;have := HML.out;omega) (by have := HML.out;omega) hsz ?_
      intro v7 w7 hO7 hG7 hv7
      obtain ⟨a7, c7, rfl, hc7, _, _⟩ := owns_slice hO7
      have hst : (L.drop m).take step = (L.drop m).take X := by
        rcases Nat.lt_or_ge step (L.length - m) with h | h
        · rw [show X = step by omega]
        · rw [List.take_of_length_le (by rw [List.length_drop]; exact h), List.take_of_length_le (by rw [List.length_drop]; omega)]
      have htk : L.take (m + X) = L.take m ++ xs.map Ev.sem := by rw [HX5.out, hst, List.take_add]
      have hlk : (L.take m).length + X = (L.take (m + X)).length := by rw [htk, List.length_append, List.length_map, HXX.out]
      rw [hlk] at hO7 hc7 ⊢
      have hB7 : Below w.heap.size w w7 := hB02.grown hG7 hsz (fun k e => (E2.out.lt k e).1)
      have hE7 : Evs w7 w.heap.size a7 c7 (L.take (m + X)) := ⟨outs ++ xs, by rw [htk, List.map_append, E1.out], by rw [List.flatMap_append]; exact hO7, fun x hx => by
        rcases List.mem_append.1 hx with hx | hx
        · exact (E3.out x hx).ownNe E2.out (by decide) hG7
        · exact ((HX4.out x hx).of hB.size (fun _ _ _ hb => hb)).ownNe E2.out (by decide) hG7⟩
      have HE7 := Lib.hid hE7
      obtain ⟨Z, hZ⟩ : ∃ Z, (L.take (m + X)).length = Z := ⟨_, rfl⟩
      rw [hZ] at hc7 ⊢
      have HZ := Lib.hid hZ
      have HLX := Lib.hid hlx
      have hX6 : m + X ≤ 1000 := by omega
      clear hZ hlx hE7 hO7 hG7 hv7 hst htk hlk hx3
      (repeat' ((fail_if_success at_builtin); first | go_values | go_skip | go_guarded | go_step | go_upon))
      go_roundw
      case rel => exact ⟨m + X, k + 1, a7, c7, by rw [HZ.out], by simp; omega, by simp, by omega, by have := HLX.out; omega, HE7.out, by rw [HZ.out]; exact hc7, hB7⟩
      case measure => simp [intOf]; omega

end Go.Proofs.Ythgaghpakioglaa
