/- Append (package streams), walked. -/
import Derived.Test.YthgaghpakioglaaStrE
import Derived.Deep.DeepCutAuto
import Derived.Deep.CutRange
namespace Go.Proofs.Ythgaghpakioglaa
set_option linter.unusedSimpArgs false
set_option linter.unusedVariables false
open Go.RowKit
set_option maxRecDepth 10000
--@PUT2

/-- Behind the tenant's making: it is there. -/
def AppT (w : World) (F : Nat → Prop) (g cnt : Nat) (f : ByteArray → List Ev) (name : ByteArray) (wx : World) : Prop :=
  ∃ (S : ByteArray → Nat → Prop) (F' : Nat → Prop) (b n tb : Nat) (fm : ByteArray → Option Value), StrX wx S F' g b n fm f ∧ n ≤ cnt + 1 ∧ fm name = some (.pointer (some ⟨tb, 0, none⟩)) ∧ (∀ k, F' k → F k ∨ w.heap.size ≤ k) ∧ (∀ k, F k → F' k) ∧ Frm w.heap.size F w wx
/-- What lies behind some rounds: rs, what was made so far, says L. -/
def AppI (w : World) (F : Nat → Prop) (g cnt : Nat) (f : ByteArray → List Ev) (name : ByteArray) (L : List EvS) (v : Value) (wx : World) : Prop :=
  ∃ (S : ByteArray → Nat → Prop) (F' : Nat → Prop) (b n tb : Nat) (fm : ByteArray → Option Value) (f' : ByteArray → List Ev) (outs : List Ev), StrX wx S F' g b n fm f' ∧ n ≤ cnt + 1 ∧ fm name = some (.pointer (some ⟨tb, 0, none⟩)) ∧
    (∀ k, F' k → F k ∨ w.heap.size ≤ k) ∧ (∀ k, F k → F' k) ∧ Frm w.heap.size F w wx ∧ (f' name).map Ev.sem = (f name).map Ev.sem ++ L ∧ (∀ s, s ≠ name → f' s = f s) ∧ outs.map Ev.sem = L ∧
    wx.ownsRow w.heap.size 54 6 v L.length (outs.flatMap Ev.cells) ∧ (∀ k, v.ownBlock = some k → ¬ F' k) ∧ (∀ x ∈ outs, x.Rd w.heap.size wx ∧ (0 < x.sl.length → ∀ b o, x.sa = some ⟨b, o, none⟩ → ¬ F' b))
/-- Behind a round of Append. -/
theorem AppI.next {w wr w5 w6 w7 : World} {F F4 S5 : Nat → Prop} {S4 : ByteArray → Nat → Prop} {g cnt b4 n4 tb4 : Nat} {f f4 : ByteArray → List Ev} {fm4 : ByteArray → Option Value} {name : ByteArray} {L : List EvS} {outs : List Ev} {R2 R3 : Ev} {va v' : Value}
    (hx : StrX wr S4 F4 g b4 n4 fm4 f4) (hn : n4 ≤ cnt + 1) (hfm : fm4 name = some (.pointer (some ⟨tb4, 0, none⟩))) (hF1 : ∀ k, F4 k → F k ∨ w.heap.size ≤ k) (hF2 : ∀ k, F k → F4 k) (hFr : Frm w.heap.size F w wr) (hff : (f4 name).map Ev.sem = (f name).map Ev.sem ++ L) (hfo : ∀ s, s ≠ name → f4 s = f s)
    (ho : outs.map Ev.sem = L) (hown : wr.ownsRow w.heap.size 54 6 va L.length (outs.flatMap Ev.cells)) (hoff : ∀ k, va.ownBlock = some k → ¬ F4 k) (hrd : ∀ x ∈ outs, x.Rd w.heap.size wr ∧ (0 < x.sl.length → ∀ b o, x.sa = some ⟨b, o, none⟩ → ¬ F4 b))
    (hr3 : R3.Rd wr.heap.size w5) (hoff3 : 0 < R3.sl.length → ∀ b o, R3.sa = some ⟨b, o, none⟩ → ¬ S5 b) (hT : TenAt w5 S5 tb4 (f4 name ++ [R2])) (hin : ∀ k, S4 name k → S5 k) (hout : ∀ k, S5 k → S4 name k ∨ wr.heap.size ≤ k) (hF5 : Frm wr.heap.size (S4 name) wr w5)
    (hB6 : Below w5.heap.size w5 w6) (hO7 : w7.ownsRow w.heap.size 54 6 v' (L.length + 1) (outs.flatMap Ev.cells ++ R3.cells)) (hG7 : w6.grownBy w7 va.ownBlock) (hv7 : v'.ownBlock = va.ownBlock ∨ ∀ k, v'.ownBlock = some k → w6.heap.size ≤ k) (hs : R2.sem = R3.sem) (hown6 : w6.ownsRow w.heap.size 54 6 va L.length (outs.flatMap Ev.cells)) :
    AppI w F g cnt f name (L ++ [R3.sem]) v' w7 := by
  have hwr := hFr.size
  have h56 := hB6.size
  have h67 := hG7.size
  have hr5 := hF5.size
  have hX5 := hx.turned hfm hT hout hF5
  have hval : ∀ k, va.ownBlock = some k → k < wr.heap.size := fun k e => (hown.lt k e).2
  have hX7 := (hX5.below hB6).keep (w' := w7) (fun k hk => hG7.block k (by have := hX5.low k hk; omega) (by
    intro e
    rcases hk with h1 | h1
    · exact hoff k e.symm h1
    · rcases hout k h1 with h2 | h2
      · exact hoff k e.symm (hx.sub name k h2)
      · have := hval k e.symm; omega)) h67
  have hsub : ∀ k, S4 name k → k < w.heap.size → F k := fun k h1 h2 => by
    rcases hF1 k (hx.sub name k h1) with h3 | h3
    · exact h3
    · omega
  have h57 : ∀ x : Ev, x.Rd w.heap.size w5 → x.Rd w.heap.size w7 := fun x hx5 => (hx5.below hB6).ownNe hown6 (by decide) hG7
  refine ⟨_, _, b4, n4, tb4, fm4, _, outs ++ [R3], hX7, hn, hfm, ?_, fun k hk => Or.inl (hF2 k hk), ?_, ?_, ?_, ?_, ?_, ?_, ?_⟩
  · rintro k (h1 | h1)
    · exact hF1 k h1
    · rcases hout k h1 with h2 | h2
      · exact hF1 k (hx.sub name k h2)
      · exact .inr (by omega)
  · refine ((hFr.trans (hF5.mono hwr (fun k hk h1 => hsub k h1 hk))).trans (Frm.ofBelow (hB6.mono (by omega)))).grown hG7 (by omega) (fun k e hk => ?_)
    have := (hown.lt k e).1
    omega
  · rw [lput_same, List.map_append, hff, List.append_assoc]
    simp [hs]
  · intro s hs'
    rw [lput_other _ _ _ _ hs']
    exact hfo s hs'
  · rw [List.map_append, ho]; rfl
  · rw [List.length_append, List.flatMap_append, List.flatMap_singleton]
    exact hO7
  · intro k e hk
    have hlow : k < w5.heap.size := hX5.low k hk
    rcases hv7 with h1 | h1
    · rw [h1] at e
      rcases hk with h2 | h2
      · exact hoff k e h2
      · rcases hout k h2 with h3 | h3
        · exact hoff k e (hx.sub name k h3)
        · have := hval k e; omega
    · have := h1 k e; omega
  · intro x hxm
    rcases List.mem_append.1 hxm with hxm | hxm
    · obtain ⟨g1, g2⟩ := hrd x hxm
      refine ⟨h57 x (g1.frm hF5 (Nat.le_refl _) (fun h0 b o e h1 => g2 h0 b o e (hx.sub name b h1))), fun h0 b o e hk => ?_⟩
      rcases hk with h1 | h1
      · exact g2 h0 b o e h1
      · rcases hout b h1 with h2 | h2
        · exact g2 h0 b o e (hx.sub name b h2)
        · obtain ⟨b', o', c', fr', e', hb'⟩ := g1.ty h0
          rw [e] at e'; cases e'
          have := lt_of_get hb'
          omega
    · rw [List.mem_singleton.1 hxm]
      refine ⟨h57 R3 (hr3.of hwr fun _ _ _ hb => hb), fun h0 b o e hk => ?_⟩
      rcases hk with h1 | h1
      · have := hx.low b h1
        have := hr3.lo h0 b o e
        omega
      · exact hoff3 h0 b o e h1

def AppNoR (w : World) (S : ByteArray → Nat → Prop) (F : Nat → Prop) (g cnt : Nat) (f : ByteArray → List Ev) (e : Ending) (w' : World) : Prop :=
  e = .returned (.tuple #[.slice none 0 0, .int .i64 3]) ∧ StrAt w' S F g cnt f ∧ Below w.heap.size w w'
def AppYesR (w : World) (F : Nat → Prop) (g cnt : Nat) (f : ByteArray → List Ev) (name : ByteArray) (L : List EvS) (e : Ending) (w' : World) : Prop :=
  ∃ (a : Option Addr) (c : Nat), e = .returned (.tuple #[.slice a L.length c, .int .i64 0]) ∧ L.length ≤ c ∧ AppI w F g cnt f name L (.slice a L.length c) w'

set_option maxHeartbeats 8000000 in
theorem strAppendNo (S : ByteArray → Nat → Prop) (F : Nat → Prop) (g cnt : Nat) (f : ByteArray → List Ev) (name st su : ByteArray) (us : Int) (a : Option Addr) (n c : Nat) (w : World) (h : StrAt w S F g cnt f) (hnm : name.size ≤ maxLen) (hc : n ≤ c) (hmx : n ≤ 9223372036854775807) (hbig : 1000 < (f name).length + n) :
    Calls Try.prog 11 #[.pointer (some ⟨g, 0, none⟩), .string name, .string st, .string su, .int .i64 us, .slice a n c] w (AppNoR w S F g cnt f) := by
  obtain ⟨b, m, fm, hm, hx⟩ := h.x
  have hlen : (f name).length ≤ 1000 := by
    cases hf : fm name with
    | none => rw [hx.none_ name hf]; exact Nat.zero_le _
    | some v => obtain ⟨tb, _, ht⟩ := hx.some_ name v hf; exact ht.len
  obtain ⟨N, hN⟩ : ∃ N, (f name).length = N := ⟨_, rfl⟩
  have HH := Lib.hid h
  have HN := Lib.hid hN
  rw [hN] at hlen hbig
  clear h hx hN
  have t1 : decide ((1000 : Int) - (N : Int) < (n : Int)) = true := by rw [decide_eq_true_eq]; omega
  go_enter Try.func11, Try.ntmps11
  (repeat' ((fail_if_success at_builtin); first | go_values | go_skip | go_guarded | go_step | go_upon))
  refine (strOf S F g cnt f name w HH.out hnm).mono ?_
  rintro _ w1 ⟨tb, rfl, ht, hB⟩
  obtain ⟨aa, ac, vm, h1, h2, h3, h4, h5, h6⟩ := ht.out
  rw [HN.out] at h1 h3
  have c0 : w1.cell? ⟨tb, 0, none⟩ = some (.slice aa N ac) := cell_of_row w1 tb 0 _ _ _ h1
  clear ht h1 h2 h5 h6
  dsimp only
  (repeat' ((fail_if_success at_builtin); first | go_values | go_skip | go_guarded | go_step | go_upon))
  exact bodyPost_ret (v := .tuple #[.slice none 0 0, .int .i64 3]) (by simp [results, Try.results11, go_sem]) rfl ⟨rfl, HH.out.below hB, hB⟩

set_option maxHeartbeats 8000000 in
theorem strAppend (S : ByteArray → Nat → Prop) (F : Nat → Prop) (g cnt : Nat) (f : ByteArray → List Ev) (name st su : ByteArray) (us : Int) (a : Option Addr) (n c : Nat) (ps : List Piece) (w : World) (h : StrAt w S F g cnt f) (hnm : name.size ≤ maxLen) (hst : st.size ≤ maxLen ∧ su.size ≤ maxLen) (hus : -9223372036854775808 ≤ us ∧ us ≤ 9223372036854775807)
    (hP : ∀ wq, Frm w.heap.size F w wq → Pieces wq a ps) (hl : ps.length = n) (hc : n ≤ c) (hcnt : cnt ≤ 1000000) (hbig : (f name).length + n ≤ 1000) :
    Calls Try.prog 11 #[.pointer (some ⟨g, 0, none⟩), .string name, .string st, .string su, .int .i64 us, .slice a n c] w (AppYesR w F g cnt f name (appS st su us ((f name).map Ev.sem) 0 (ps.map (·.l)))) := by
  obtain ⟨b, m, fm, hm, hx⟩ := h.x
  obtain ⟨N, hN⟩ : ∃ N, (f name).length = N := ⟨_, rfl⟩
  have HX := Lib.hid hx
  have HH := Lib.hid h
  have HP := Lib.hid hP
  have HN := Lib.hid hN
  rw [hN] at hbig
  have hlow := hx.low g hx.foot
  have hlowb := hx.low b hx.fb
  have hgb : b ≠ g := hx.map.ne hx.row
  obtain ⟨L, hL⟩ : ∃ L, appS st su us ((f name).map Ev.sem) 0 (ps.map (·.l)) = L := ⟨_, rfl⟩
  have hLn : L.length = n := by rw [← hL, appS_length, List.length_map]; exact hl
  rw [hL]
  have HL := Lib.hid hL
  have HLN := Lib.hid hLn
  have HPL := Lib.hid hl
  have HWL := Lib.hid (rfl : w.heap.size = w.heap.size)
  clear h hx hP hN hL hLn hl HWL
  have t1 : decide ((1000 : Int) - (N : Int) < (n : Int)) = false := by rw [decide_eq_false_iff_not]; omega
  go_enter Try.func11, Try.ntmps11
  (repeat' ((fail_if_success at_builtin); first | go_values | go_skip | go_guarded | go_step | go_upon))
  refine (strOf S F g cnt f name w HH.out hnm).mono ?_
  rintro _ w1 ⟨tb0, rfl, ht, hB⟩
  obtain ⟨aa, ac, vm, h1, h2, h3, h4, h5, h6⟩ := ht.out
  rw [HN.out] at h1 h3
  have c0 : w1.cell? ⟨tb0, 0, none⟩ = some (.slice aa N ac) := cell_of_row w1 tb0 0 _ _ _ h1
  clear ht h1 h2 h5 h6
  dsimp only
  have hx1 := HX.out.below hB
  have g0 : w1.cell? ⟨g, 0, none⟩ = some (.map (some b)) := cell_of_row w1 g 0 _ _ _ hx1.row
  have hlk := hx1.map.lookup Try.underlying9 Try.underlying72 (z := .pointer none) (by kernel_rfl) name hnm
  have HX1 := Lib.hid hx1
  have hb1 := hB.size
  obtain ⟨tq, htq⟩ : ∃ tq, (fm name).isNone = tq := ⟨_, rfl⟩
  have HTQ := Lib.hid htq
  have HLK := Lib.hid hlk
  clear hx1 htq hlk
  go_upto_region 3 with fail
  go_cut [34] from 28 (fun v wx => v = .bool tq ∧ wx = w1)
  case first =>
    have hlk := HLK.out
    cases hf : fm name with
    | none =>
      rw [hf] at hlk
      (repeat' ((fail_if_success at_builtin); first | go_values | go_skip | go_guarded | go_step | go_upon))
      go_meet
      exact ⟨by rw [← HTQ.out, hf]; rfl, rfl⟩
    | some v =>
      obtain ⟨tb, rfl, _⟩ := HX.out.some_ name v hf
      rw [hf] at hlk
      (repeat' ((fail_if_success at_builtin); first | go_values | go_skip | go_guarded | go_step | go_upon))
      go_meet
      exact ⟨by rw [← HTQ.out, hf]; rfl, rfl⟩
  case rest =>
    obtain ⟨rfl, rfl⟩ := hcut
    go_upto_if 34 with fail
    go_cut [] from 28 (fun wx => AppT w F g cnt f name wx)
    case first =>
      cases tq with
      | false =>
        (repeat' ((fail_if_success at_builtin); first | go_values | go_skip | go_guarded | go_step | go_upon))
        go_meet
        cases hf : fm name with
        | none => have := HTQ.out; rw [hf] at this; cases this
        | some v =>
          obtain ⟨tb, rfl, _⟩ := HX.out.some_ name v hf
          exact ⟨S, F, b, m, tb, fm, HX1.out, by omega, hf, fun k h => .inl h, fun k h => h, Frm.ofBelow hB⟩
      | true =>
        have hfn : fm name = none := by
          cases hf : fm name with
          | none => rfl
          | some v => have := HTQ.out; rw [hf] at this; cases this
        have HFN := Lib.hid hfn
        clear hfn
        have hmm := @run_makeMap Try.prog
        generalize wc = w1 at *
        have hmn : m < maxLen := by unfold maxLen; omega
        (repeat' ((fail_if_success at_builtin); first | (((refine wpList_mapUpdate_s rfl _ _ _ rfl Try.underlying9 Try.underlying72 rfl ((HX1.out.map.alloc _).alloc _) hmn name rfl hnm (.pointer (some ⟨w1.heap.size + 1, 0, none⟩)) rfl ?_); intro w2 hm2 hG2)) | go_values | go_skip | go_guarded | go_step | go_upon))
        go_meet
        have hsm := SMap.made Try.prog 9 w1
        have hsz1 : (w1.alloc (.map #[] 0)).heap.size = w1.heap.size + 1 := by simp
        have hrowt := heap_alloc_new (w1.alloc (.map #[] 0)) (.cells #[.slice none 0 0, .map (some w1.heap.size), .int .i64 0] 77)
        rw [hsz1] at hrowt
        have hBx : ∀ o, Below w1.heap.size w1 ((w1.alloc (.map #[] 0)).alloc o) := fun o => ((Below.refl _ _).alloc (Nat.le_refl _) _).alloc (by simp) o
        have hX2 := HX1.out.made HFN.out (hBx _) hrowt (hsm.alloc _) (by omega) (Nat.le_refl _) hm2 hG2
        refine ⟨_, _, b, m + 1, w1.heap.size + 1, _, hX2, by omega, by simp [sput], ?_, fun k h => Or.inl h, ?_⟩
        · rintro k (h | h | h)
          · exact .inl h
          · exact .inr (by omega)
          · exact .inr (by omega)
        · exact ((Frm.ofBelow hB).trans (Frm.ofBelow ((hBx _).mono hb1))).grown hG2 (by have := (hBx (.cells #[.slice none 0 0, .map (some w1.heap.size), .int .i64 0] 77)).size; omega) (fun k e _ => by cases e; exact HX.out.fb)
    case rest =>
      obtain ⟨S2, F2, b2, n2, tb, fm2, hx2, hn2, hfm2, hF2, hF2', hFr2⟩ := hcut
      generalize wc = w3 at *
      have HX2 := Lib.hid hx2
      have HFM2 := Lib.hid hfm2
      have HF2 := Lib.hid hF2
      have HF2' := Lib.hid hF2'
      have HFR2 := Lib.hid hFr2
      clear hx2 hfm2 hF2 hF2' hFr2 HX1 HLK g0 c0 HTQ
      (repeat' ((fail_if_success at_builtin); first | go_values | go_skip | go_guarded | go_step | go_upon))
      have hw3 := HFR2.out.size
      go_loopw [14, 45] (fun o i wr => ∃ k : Nat, k ≤ n ∧ i = .int .i64 k ∧ AppI w F g cnt f name (L.take k) o wr) (fun _ i _ => n - (intOf i).toNat)
      case atStart =>
        exact ⟨0, Nat.zero_le _, rfl, S2, F2, b2, n2, tb, fm2, f, [], HX2.out, hn2, HFM2.out, HF2.out, HF2'.out, HFR2.out, by simp, fun _ _ => rfl, rfl, World.ownsRow_nil _ _ _ _, fun k e => (by cases e), fun x hx => (by cases hx)⟩
      case round =>
        obtain ⟨k, hk, rfl, hI⟩ := hrel
        by_cases hlt : k < n
        · obtain ⟨S4, F4, b4, n4, tb4, fm4, f4, outs, hx4, hn4, hfm4, hF4, hF4', hFr4, hf4, hfo4, ho4, hown4, hoff4, hrd4⟩ := hI
          obtain ⟨va, vc, rfl, hvc, _, _⟩ := owns_slice hown4
          have hP4 := HP.out wr hFr4
          obtain ⟨pb, po, hpa, pc0⟩ := hP4.at_ k (by rw [HPL.out]; exact hlt)
          have hpk := hP4.ok _ (List.getElem_mem (by rw [HPL.out]; exact hlt : k < ps.length))
          obtain ⟨P, hPk⟩ : ∃ P, ps[k]'(by rw [HPL.out]; exact hlt) = P := ⟨_, rfl⟩
          rw [hPk] at pc0 hpk
          subst hpa
          have g4 : wr.cell? ⟨g, 0, none⟩ = some (.map (some b4)) := cell_of_row wr g 0 _ _ _ hx4.row
          have hlk4 := hx4.map.lookup Try.underlying9 Try.underlying72 (z := .pointer none) (by kernel_rfl) name hnm
          rw [hfm4] at hlk4
          have bk : (0 : Int) ≤ (k : Int) ∧ (k : Int) < (n : Int) := by omega
          have HX4 := Lib.hid hx4
          have HFM4 := Lib.hid hfm4
          have HF4 := Lib.hid hF4
          have HF4' := Lib.hid hF4'
          have HFR4 := Lib.hid hFr4
          have HFF4 := Lib.hid hf4
          have HFO4 := Lib.hid hfo4
          have HOU4 := Lib.hid ho4
          have HOWN4 := Lib.hid hown4
          have HOFF4 := Lib.hid hoff4
          have HRD4 := Lib.hid hrd4
          have HPK := Lib.hid hpk
          have HPP := Lib.hid hPk
          clear hx4 hfm4 hF4 hF4' hFr4 hf4 hfo4 ho4 hown4 hoff4 hrd4 hpk hPk hP4
          (repeat' ((fail_if_success at_builtin); first | go_values | go_skip | go_guarded | go_step | go_upon))
          obtain ⟨tb', htb', hT4⟩ := HX4.out.some_ name _ HFM4.out
          cases htb'
          have hlk : (L.take k).length = k := by rw [List.length_take, HLN.out]; exact Nat.min_eq_left (by omega)
          have hfl : (f4 name).length = N + k := by
            have h1 := congrArg List.length HFF4.out
            rw [List.length_map, List.length_append, List.length_map, HN.out, hlk] at h1
            exact h1
          have hsubk : ∀ j, S4 name j → j < w.heap.size → F j := fun j h1 h2 => by
            rcases HF4.out j (HX4.out.sub name j h1) with h3 | h3
            · exact h3
            · omega
          have hu : -9223372036854775808 ≤ wrap64 (wrap64 (us + (k : Int)) + 1) ∧ wrap64 (wrap64 (us + (k : Int)) + 1) ≤ 9223372036854775807 := by rw [← IntWalk.i64_left]; exact i64_rng _
          refine (strAdd (S4 name) tb4 (f4 name) ⟨st, su, 0, 0, wrap64 (wrap64 (us + (k : Int)) + 1), P.a, P.n, P.c, P.l⟩ wr hT4 HPK.out.len (fun wq hq => ?_) hst hu HPK.out.max (by omega)).mono ?_
          · have h1 := (HP.out wq (HFR4.out.trans (hq.mono HFR4.out.size (fun j hj h1 => hsubk j h1 hj)))).ok _ (List.getElem_mem (by rw [HPL.out]; exact hlt : k < ps.length))
            rw [HPP.out] at h1
            exact h1.rd
          rintro _ w5 ⟨S5, a2, c2, a3, c3, rfl, hr3, hoff3, hT5, hin5, hout5, hF5⟩
          obtain ⟨R3, hR3⟩ : ∃ R3 : Ev, ({ (⟨st, su, 0, 0, wrap64 (wrap64 (us + (k : Int)) + 1), P.a, P.n, P.c, P.l⟩ : Ev).num (f4 name) with sa := a3, sc := c3 } : Ev) = R3 := ⟨_, rfl⟩
          obtain ⟨R2, hR2⟩ : ∃ R2 : Ev, ({ (⟨st, su, 0, 0, wrap64 (wrap64 (us + (k : Int)) + 1), P.a, P.n, P.c, P.l⟩ : Ev).num (f4 name) with sa := a2, sc := c2 } : Ev) = R2 := ⟨_, rfl⟩
          have hs3 : R2.sem = R3.sem := by rw [← hR2, ← hR3]; rfl
          have hl3 : R3.sl = P.l ∧ R3.sa = a3 := by rw [← hR3]; exact ⟨rfl, rfl⟩
          have hm3 : R3.sem = ⟨st, su, (cntS ((f4 name).map Ev.sem) st : Int) + 1, ((f4 name).length : Int) + 1, useI us k, P.l⟩ := by
            rw [← hR3, ← idxOf_length]
            show (⟨_, _, _, _, _, _⟩ : EvS) = _
            congr 1
            unfold useI
            rw [IntWalk.i64_left, IntWalk.i64_left]
            rfl
          rw [hR3] at hr3 ⊢
          rw [hR2] at hT5
          rw [← hl3.1, ← hl3.2] at hoff3
          have HS3 := Lib.hid hs3
          have HM3 := Lib.hid hm3
          have HR3 := Lib.hid hr3
          have HO3 := Lib.hid hoff3
          have HT5 := Lib.hid hT5
          have HIN5 := Lib.hid hin5
          have HOUT5 := Lib.hid hout5
          have HF5 := Lib.hid hF5
          have HFL := Lib.hid hfl
          have HLK := Lib.hid hlk
          have HT4 := Lib.hid hT4
          have hwr5 := hF5.size
          have howr : ∀ j, (Value.slice va (L.take k).length vc).ownBlock = some j → j < wr.heap.size := fun j e => (HOWN4.out.lt j e).2
          have hown5 : w5.ownsRow w.heap.size 54 6 (.slice va (L.take k).length vc) (L.take k).length (outs.flatMap Ev.cells) := owns_blk HOWN4.out (fun j e => hF5.block j (howr j e) (fun h => HOFF4.out j e (HX4.out.sub name j h)))
          have HOWN5 := Lib.hid hown5
          clear hs3 hm3 hl3 hR3 hR2 hr3 hoff3 hT5 hin5 hout5 hF5 hfl hlk hT4 hown5 howr
          obtain ⟨iE, zE, hiE, hzE, hsE, hbE, hcE⟩ := evInfo_parts
          have HIE := Lib.hid hiE
          have HZE := Lib.hid hzE
          have HSE := Lib.hid hsE
          have HBE := Lib.hid hbE
          have HCE := Lib.hid hcE
          clear hiE hzE hsE hbE hcE
          have hwl := HFR4.out.size
          have hcut5 : w.heap.size ≤ w5.heap.size := by omega
          dsimp only
          (repeat' ((fail_if_success at_builtin); first | (((with_reducible refine wpList_build_one rfl 26 54 _ rfl Try.underlying26 R3.cells rfl iE zE HIE.out HZE.out (by rw [HSE.out, R3.cells_length]) (by rw [R3.cells_length];omega) (by rw [R3.cells_length];omega) ?_); intro w6 hg6 hB6 hs6; have HG6 := Lib.hid hg6; clear hg6)) | go_values | go_skip | go_guarded | go_step | go_upon))
          refine wpList_app3 rfl _ _ _ _ rfl w.heap.size 54 iE zE 6 80 Try.underlying26 HIE.out HZE.out HSE.out HBE.out (by rw [HCE.out];rfl) (.slice va (L.take k).length vc) (L.take k).length _ rfl (owns_below HOWN5.out hB6 (Nat.le_refl _)) _ rfl 1 R3.cells (src_of_rdc Try.underlying26 (rd_rowN HG6.out) rfl R3.cells_oneCell) (by unfold maxLen;have := HLK.out;omega) (by have := HLK.out;omega) (by have := hB6.size;omega) ?_
          intro v7 w7 hO7 hG7 hv7
          have HO7 := Lib.hid hO7
          have HG7 := Lib.hid hG7
          have HV7 := Lib.hid hv7
          clear hO7 hG7 hv7
          (repeat' ((fail_if_success at_builtin); first | go_values | go_skip | go_guarded | go_step | go_upon))
          have htk : L.take (k + 1) = L.take k ++ [R3.sem] := by
            have h := appS_take st su us (ps.map (·.l)) ((f name).map Ev.sem) k (by rw [List.length_map, HPL.out]; exact hlt)
            rw [HL.out, ← HFF4.out, List.length_map, List.getElem_map, HPP.out] at h
            rw [h, HM3.out]
          refine ⟨⟨k + 1, by omega, by simp, ?_⟩, by simp [intOf]; omega⟩
          rw [htk]
          exact AppI.next HX4.out hn4 HFM4.out HF4.out HF4'.out HFR4.out HFF4.out HFO4.out HOU4.out HOWN4.out HOFF4.out HRD4.out HR3.out HO3.out HT5.out HIN5.out HOUT5.out HF5.out hB6 HO7.out HG7.out HV7.out HS3.out (owns_below HOWN5.out hB6 (Nat.le_refl _))
        · obtain rfl : k = n := by omega
          have htk : L.take k = L := by rw [← HLN.out, List.take_length]
          rw [htk] at hI
          have hI2 := hI
          obtain ⟨_, _, _, _, _, _, _, _, _, _, _, _, _, _, _, _, _, hown4, _⟩ := hI2
          obtain ⟨va, vc, rfl, hvc, _, _⟩ := owns_slice hown4
          have HI := Lib.hid hI
          clear hI hown4
          (repeat' ((fail_if_success at_builtin); first | go_values | go_skip | go_guarded | go_step | go_upon))
          exact bodyPost_ret (v := .tuple #[.slice va L.length vc, .int .i64 0]) (by simp [results, Try.results11, go_sem]) rfl ⟨va, vc, rfl, hvc, HI.out⟩

end Go.Proofs.Ythgaghpakioglaa
