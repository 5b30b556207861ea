/- The kit's words on events: sameEvent, SameEvents, walked. -/
import Derived.Test.YthgaghpakioglaaStrR
import Derived.Deep.DeepCutAuto
import Derived.Deep.CutRange
import Derived.BigQuiet
import Derived.Deep.RegionWith
namespace Go.Proofs.Ythgaghpakioglaa
set_option linter.unusedSimpArgs false
set_option linter.unusedVariables false
open Go.RowKit
set_option maxRecDepth 10000

set_option maxHeartbeats 400000 in
theorem sameBytesL (a b : Option Addr) (n1 n2 c d : Nat) (l m : List UInt8) (w : World) (hl : RdB w a l) (hm : RdB w b m) (e1 : l.length = n1) (e2 : m.length = n2) (hn : n1 ≤ 9223372036854775807) :
    Calls Try.prog 33 #[.slice a n1 c, .slice b n2 d] w fun e w' => e = .returned (.bool (decide (l = m))) ∧ ∃ n, w' = w.drewN n := by
  subst e1 e2
  go_enter Try.func33, Try.ntmps33
  by_cases hlen : l.length = m.length
  · have h0 : ((l.length : Int) != (m.length : Int)) = false := by simp [hlen]
    (repeat' ((fail_if_success at_builtin); first | go_values | go_skip | go_guarded | go_step | go_upon))
    go_loopw [5] (fun i wr => ∃ k n : Nat, k ≤ l.length ∧ i = .int .i64 k ∧ wr = w.drewN n ∧ l.take k = m.take k) (fun i _ => l.length - (intOf i).toNat)
    case atStart => exact ⟨0, 0, Nat.zero_le _, rfl, rfl, by simp⟩
    case round =>
      obtain ⟨k, n, hk, rfl, rfl, he⟩ := hrel
      have HE := Lib.hid he; clear he
      have HL := Lib.hid hlen; clear hlen
      by_cases hlt : k < l.length
      · have hltm : k < m.length := by have := HL.out; omega
        obtain ⟨b1, o1, rfl, hc1⟩ := hl.byte k hlt
        obtain ⟨b2, o2, rfl, hc2⟩ := hm.byte k hltm
        by_cases hx : l[k] = m[k]
        · have hb : ((l[k].toNat : Int) == (m[k].toNat : Int)) = true := by simp [hx]
          have HX := Lib.hid hx; clear hx
          (repeat' ((fail_if_success at_builtin); first | go_values | go_skip | go_guarded | go_step | go_upon))
          go_quiet (fail)
          (repeat' ((fail_if_success at_builtin); first | go_values | go_skip | go_guarded | go_step | go_upon))
          go_roundw
          case rel =>
            refine ⟨k + 1, n + nq, by omega, by go_num, rfl, ?_⟩
            rw [List.take_succ_eq_append_getElem hlt, List.take_succ_eq_append_getElem hltm, HE.out, HX.out]
          case measure => simp [intOf]; omega
        · have hb : ((l[k].toNat : Int) == (m[k].toNat : Int)) = false := by
            simp
            intro e
            exact hx (UInt8.toNat_inj.1 (by omega))
          (repeat' ((fail_if_success at_builtin); first | go_values | go_skip | go_guarded | go_step | go_upon))
          go_quiet (fail)
          (repeat' ((fail_if_success at_builtin); first | go_values | go_skip | go_guarded | go_step | go_upon))
          go_ret
          exact ⟨by rw [decide_eq_false (take_snoc_ne hlt hltm hx)]; rfl, n + nq, by simp [World.drewN, Nat.add_assoc]⟩
      · (repeat' ((fail_if_success at_builtin); first | go_values | go_skip | go_guarded | go_step | go_upon))
        go_ret
        refine ⟨?_, _, rfl⟩
        have h1 := HE.out
        have h2 := HL.out
        obtain rfl : k = l.length := by omega
        have : l = m := by
          rw [List.take_of_length_le (Nat.le_refl _)] at h1
          rw [h1, h2, List.take_of_length_le (Nat.le_refl _)]
        simp [this]
  · have h0 : ((l.length : Int) != (m.length : Int)) = true := by simp; omega
    (repeat' ((fail_if_success at_builtin); first | go_values | go_skip | go_guarded | go_step | go_upon))
    go_ret
    exact ⟨by rw [decide_eq_false (by intro e; exact hlen (by rw [e]))]; rfl, 0, rfl⟩


theorem tl_inj (a b : ByteArray) (h : a.toList = b.toList) : a = b := by
  rw [ByteArray.toList_eq, ByteArray.toList_eq] at h
  exact ByteArray.ext (Array.toList_inj.1 h)
set_option maxHeartbeats 2000000 in
theorem sameEvent18 (x y : Ev) (w : World) (hx : RdB w x.sa x.sl) (hxl : x.sl.length = x.sn) (hy : RdB w y.sa y.sl) (hyl : y.sl.length = y.sn) (hb : x.sn ≤ 9223372036854775807) :
    Calls Try.prog 41 #[.agg x.cells.toArray, .agg y.cells.toArray] w fun e w' => ∃ b : Bool, e = .returned (.bool b) ∧ (b = true ↔ x.sem = y.sem) ∧ Below w.heap.size w w' := by
  have hBB : ∀ o0 o1, Below w.heap.size w ((w.alloc o0).alloc o1) := fun o0 o1 => (al2 w o0 o1).2.2
  have HBB := Lib.hid hBB
  have HX := Lib.hid hx
  have HY := Lib.hid hy
  have HXL := Lib.hid hxl
  have HYL := Lib.hid hyl
  clear hBB hx hy hxl hyl
  unfold Ev.cells
  go_enter Try.func41, Try.ntmps41
  (repeat' ((fail_if_success at_builtin); first | go_values | go_skip | go_guarded | go_step | go_upon))
  all_goals first
    | (refine bodyPost_ret (v := .bool false) (by simp [results, Try.results41, go_sem]) rfl ⟨false, rfl, ⟨fun h => (by cases h), fun h => ?_⟩, HBB.out _ _⟩
       have e1 : x.st = y.st := congrArg EvS.st h
       have e2 : x.su = y.su := congrArg EvS.su h
       have e3 : x.v = y.v := congrArg EvS.v h
       have e4 : x.p = y.p := congrArg EvS.p h
       have e5 : x.u = y.u := congrArg EvS.u h
       simp_all)
    | skip
  have e1 := tl_inj x.st y.st (by assumption)
  have e2 := tl_inj x.su y.su (by assumption)
  have e3 : x.v = y.v := by assumption
  have e4 : x.p = y.p := by assumption
  have e5 : x.u = y.u := by assumption
  have hsem : x.sem = y.sem ↔ x.sl = y.sl := by
    unfold Ev.sem
    rw [e1, e2, e3, e4, e5]
    exact ⟨fun h => congrArg EvS.sl h, fun h => by rw [h]⟩
  have HSEM := Lib.hid hsem
  clear e1 e2 e3 e4 e5 hsem
  refine (sameBytesL x.sa y.sa x.sn y.sn x.sc y.sc x.sl y.sl _ (HX.out.below (HBB.out _ _) (Nat.le_refl _)) (HY.out.below (HBB.out _ _) (Nat.le_refl _)) HXL.out HYL.out hb).mono ?_
  rintro _ w' ⟨rfl, n, rfl⟩
  have hfin := below_drewN' (HBB.out (.cells x.cells.toArray 54) (.cells y.cells.toArray 54)) n
  dsimp only
  (repeat' ((fail_if_success at_builtin); first | go_values | go_skip | go_guarded | go_step | go_upon))
  go_ret
  exact ⟨_, rfl, by rw [decide_eq_true_eq]; exact HSEM.out.symm, below_drewN' (HBB.out _ _) n⟩

set_option maxHeartbeats 4000000 in
theorem sameEvents18 (xs ys : List Ev) (a b : Option Addr) (n m c d : Nat) (w : World) (hx : RdC w a (xs.flatMap Ev.cells)) (hxn : xs.length = n) (hxr : ∀ x ∈ xs, x.Rd 0 w ∧ x.sn ≤ 9223372036854775807) (hy : RdC w b (ys.flatMap Ev.cells)) (hym : ys.length = m) (hyr : ∀ y ∈ ys, y.Rd 0 w) (hn : n ≤ 1000000) (hm : m ≤ 1000000) :
    Calls Try.prog 18 #[.slice a n c, .slice b m d] w fun e w' => ∃ bb : Bool, e = .returned (.bool bb) ∧ (bb = true ↔ xs.map Ev.sem = ys.map Ev.sem) ∧ Below w.heap.size w w' := by
  have HXR := Lib.hid hxr
  have HYR := Lib.hid hyr
  have HX := Lib.hid hx
  have HY := Lib.hid hy
  clear hx hy hxr hyr
  go_enter Try.func18, Try.ntmps18
  by_cases hlen : n = m
  · have h0 : ((n : Int) != (m : Int)) = false := by simp [hlen]
    have HLEN := Lib.hid hlen
    clear hlen
    (repeat' ((fail_if_success at_builtin); first | go_values | go_skip | go_guarded | go_step | go_upon))
    go_loopw [5] (fun i wr => ∃ k : Nat, k ≤ n ∧ i = .int .i64 k ∧ (xs.take k).map Ev.sem = (ys.take k).map Ev.sem ∧ Below w.heap.size w wr) (fun i _ => n - (intOf i).toNat)
    case atStart => exact ⟨0, Nat.zero_le _, rfl, by simp, Below.refl _ _⟩
    case round =>
      obtain ⟨k, hk, rfl, he, hB⟩ := hrel
      have HE := Lib.hid he
      clear he
      by_cases hlt : k < n
      · have bk : (0 : Int) ≤ (k : Int) ∧ (k : Int) < (n : Int) := by omega
        have bk2 : (0 : Int) ≤ (k : Int) ∧ (k : Int) < (m : Int) := by have := HLEN.out; omega
        have hkx : k < xs.length := by omega
        have hky : k < ys.length := by have := HLEN.out; omega
        obtain ⟨b1, o1, rfl, hc1⟩ := ev_cells (HX.out.below hB (Nat.le_refl _)) k hkx
        obtain ⟨b2, o2, rfl, hc2⟩ := ev_cells (HY.out.below hB (Nat.le_refl _)) k hky
        have hmx := HXR.out _ (List.getElem_mem hkx)
        have hmy := HYR.out _ (List.getElem_mem hky)
        have htx : (xs.take (k + 1)).map Ev.sem = (xs.take k).map Ev.sem ++ [xs[k].sem] := by rw [List.take_succ_eq_append_getElem hkx, List.map_append]; rfl
        have hty : (ys.take (k + 1)).map Ev.sem = (ys.take k).map Ev.sem ++ [ys[k].sem] := by rw [List.take_succ_eq_append_getElem hky, List.map_append]; rfl
        obtain ⟨x, hxe⟩ : ∃ x, xs[k] = x := ⟨_, rfl⟩
        obtain ⟨y, hye⟩ : ∃ y, ys[k] = y := ⟨_, rfl⟩
        rw [hxe] at hc1 hmx htx
        rw [hye] at hc2 hmy hty
        have hBd : Below w.heap.size w wr.drew := hB.drew
        have hrx := hmx.1.below hBd
        have hry := hmy.below hBd
        have hxn2 := hmx.2
        have p0 : wr.cell? ⟨b1, o1 + k * 6, none⟩ = some (.string x.st) := hc1 0 _ rfl
        have p1 : wr.cell? ⟨b1, o1 + k * 6 + 1, none⟩ = some (.string x.su) := hc1 1 _ rfl
        have p2 : wr.cell? ⟨b1, o1 + k * 6 + 2, none⟩ = some (.int .i64 x.v) := hc1 2 _ rfl
        have p3 : wr.cell? ⟨b1, o1 + k * 6 + 3, none⟩ = some (.int .i64 x.p) := hc1 3 _ rfl
        have p4 : wr.cell? ⟨b1, o1 + k * 6 + 4, none⟩ = some (.int .i64 x.u) := hc1 4 _ rfl
        have p5 : wr.cell? ⟨b1, o1 + k * 6 + 5, none⟩ = some (.slice x.sa x.sn x.sc) := hc1 5 _ rfl
        have q0 : wr.cell? ⟨b2, o2 + k * 6, none⟩ = some (.string y.st) := hc2 0 _ rfl
        have q1 : wr.cell? ⟨b2, o2 + k * 6 + 1, none⟩ = some (.string y.su) := hc2 1 _ rfl
        have q2 : wr.cell? ⟨b2, o2 + k * 6 + 2, none⟩ = some (.int .i64 y.v) := hc2 2 _ rfl
        have q3 : wr.cell? ⟨b2, o2 + k * 6 + 3, none⟩ = some (.int .i64 y.p) := hc2 3 _ rfl
        have q4 : wr.cell? ⟨b2, o2 + k * 6 + 4, none⟩ = some (.int .i64 y.u) := hc2 4 _ rfl
        have q5 : wr.cell? ⟨b2, o2 + k * 6 + 5, none⟩ = some (.slice y.sa y.sn y.sc) := hc2 5 _ rfl
        have HRX := Lib.hid hrx
        have HRY := Lib.hid hry
        have HTX := Lib.hid htx
        have HTY := Lib.hid hty
        clear hc1 hc2 hmx hmy htx hty hrx hry hxe hye
        go_upto_region 6 with fail
        go_cut [26] from 17 (fun v wx => ∃ bb : Bool, v = .bool (!bb) ∧ (bb = true ↔ x.sem = y.sem) ∧ Below w.heap.size w wx)
        case first =>
          go_region_with (refine (sameEvent18 x y wr.drew HRX.out.rd HRX.out.len HRY.out.rd HRY.out.len hxn2).mono ?_; rintro _ w2 ⟨bb, rfl, hbb, hB2⟩; have HBB := Lib.hid hbb; clear hbb; dsimp only)
          all_goals go_wp2
          all_goals (go_meet; exact ⟨bb, rfl, HBB.out, hBd.trans (hB2.mono hBd.size)⟩)
        case rest =>
          obtain ⟨bb, rfl, hbb, hB2⟩ := hcut
          have HBB := Lib.hid hbb
          clear hbb
          cases bb with
          | true =>
            (repeat' ((fail_if_success at_builtin); first | go_values | go_skip | go_guarded | go_step | go_upon))
            go_roundw
            case rel => exact ⟨k + 1, by omega, by simp, by rw [HTX.out, HTY.out, HE.out, HBB.out.1 (by first | rfl | trivial)], hB2⟩
            case measure => simp [intOf]; omega
          | false =>
            (repeat' ((fail_if_success at_builtin); first | go_values | go_skip | go_guarded | go_step | go_upon))
            go_ret
            refine ⟨false, rfl, ⟨fun h => (by cases h), fun h => ?_⟩, hB2⟩
            have h1 := congrArg (List.take (k + 1)) h
            rw [← List.map_take, ← List.map_take, HTX.out, HTY.out, HE.out] at h1
            have h2 := List.append_cancel_left h1
            have h3 : x.sem = y.sem := by simpa using h2
            have h4 := HBB.out.2 h3
            simp at h4
      · (repeat' ((fail_if_success at_builtin); first | go_values | go_skip | go_guarded | go_step | go_upon))
        go_ret
        obtain rfl : k = n := by omega
        refine ⟨true, rfl, ⟨fun _ => ?_, fun _ => rfl⟩, hB⟩
        have h1 := HE.out
        rw [List.take_of_length_le (by omega), List.take_of_length_le (by have := HLEN.out; omega)] at h1
        exact h1
  · have h0 : ((n : Int) != (m : Int)) = true := by simp; omega
    (repeat' ((fail_if_success at_builtin); first | go_values | go_skip | go_guarded | go_step | go_upon))
    go_ret
    exact ⟨false, rfl, ⟨fun h => (by cases h), fun h => absurd (by have := congrArg List.length h; simpa [hxn, hym] using this) hlen⟩, Below.refl _ _⟩

end Go.Proofs.Ythgaghpakioglaa
