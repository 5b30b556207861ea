/- The law NetOrder, walked. -/
import Derived.Test.YthgaghpakioglaaNetL
import Derived.Test.YthgaghpakioglaaOrd29
import Derived.Test.YthgaghpakioglaaApp8
import Derived.Deep.DeepCutAuto
import Derived.Deep.CutRange
namespace Go.Proofs.Ythgaghpakioglaa
set_option linter.unusedSimpArgs false
set_option linter.unusedVariables false
open Go.RowKit
set_option maxRecDepth 10000
--@PUT2

def Own3 (vs vc vr : Value) : Nat → Prop := fun k => vs.ownBlock = some k ∨ vc.ownBlock = some k ∨ vr.ownBlock = some k
structure OrdB (B g : Nat) (ms : List Cn) (sent come rep : List UInt8) (vs vc vr : Value) (wx : World) : Prop where
  s : wx.ownsRow B 5 1 vs sent.length (bvs sent)
  c : wx.ownsRow B 5 1 vc come.length (bvs come)
  r : wx.ownsRow B 5 1 vr rep.length (bvs rep)
  net : NetM wx g (Own3 vs vc vr) ms
  sc : ∀ k, vs.ownBlock = some k → vc.ownBlock ≠ some k
  sr : ∀ k, vs.ownBlock = some k → vr.ownBlock ≠ some k
  cr : ∀ k, vc.ownBlock = some k → vr.ownBlock ≠ some k

theorem cell_other {w w' : World} {o : Option Nat} {b i : Nat} {v : Value} (hg : w.grownBy w' o) (h : w.cell? ⟨b, i, Option.none⟩ = some v) (hne : o ≠ some b) : w'.cell? ⟨b, i, Option.none⟩ = some v := by
  rw [← h]
  exact World.cell?_of_block (w := w) (a := ⟨b, i, Option.none⟩) (hg.block b (World.block_lt_of_cell? w _ h) (fun e => hne e.symm))
section
variable {B g : Nat} {ms ms' : List Cn} {sent come rep : List UInt8} {vs vc vr : Value} {wx w' : World}
theorem own_neB {n : Nat} {v : Value} {xs : List Value} {S : Nat → Prop} (h : NetM wx g S ms) (ho : wx.ownsRow B 5 1 v n xs) : v.ownBlock ≠ some g := by
  obtain ⟨arr, hg⟩ := h.row
  intro e2
  rcases ho.2 with ⟨rfl, _⟩ | ⟨g', cap, cur, rfl, _, hh, _⟩
  · cases e2
  · cases e2
    rw [hg] at hh
    cases hh
theorem own_ltB {n : Nat} {v : Value} {xs : List Value} (ho : wx.ownsRow B 5 1 v n xs) {k : Nat} (hk : v.ownBlock = some k) : k < wx.heap.size := (ho.lt k hk).2
theorem OrdB.low (h : OrdB B g ms sent come rep vs vc vr wx) : ∀ k, Own3 vs vc vr k → k < wx.heap.size := by
  rintro k (h1 | h1 | h1)
  · exact own_ltB h.s h1
  · exact own_ltB h.c h1
  · exact own_ltB h.r h1
theorem OrdB.below (h : OrdB B g ms sent come rep vs vc vr wx) (hb : Below wx.heap.size wx w') : OrdB B g ms sent come rep vs vc vr w' :=
  ⟨owns_below h.s hb (Nat.le_refl _), owns_below h.c hb (Nat.le_refl _), owns_below h.r hb (Nat.le_refl _), h.net.below hb, h.sc, h.sr, h.cr⟩
theorem OrdB.called (h : OrdB B g ms sent come rep vs vc vr wx) (hg : wx.grownBy w' (some g)) (hn : NetM w' g (Own3 vs vc vr) ms') : OrdB B g ms' sent come rep vs vc vr w' :=
  ⟨owns_other_row h.s hg (fun k e e2 => own_neB h.net h.s (by rw [e, e2])), owns_other_row h.c hg (fun k e e2 => own_neB h.net h.c (by rw [e, e2])), owns_other_row h.r hg (fun k e e2 => own_neB h.net h.r (by rw [e, e2])), hn, h.sc, h.sr, h.cr⟩
theorem OrdB.reset (h : OrdB B g ms sent come rep vs vc vr wx) : OrdB B g ms [] [] [] (.slice Option.none 0 0) (.slice Option.none 0 0) (.slice Option.none 0 0) wx :=
  ⟨World.ownsRow_nil _ _ _ _, World.ownsRow_nil _ _ _ _, World.ownsRow_nil _ _ _ _, h.net.grown (o := Option.none) (World.grownBy.refl _ _) (fun k e => by cases e) (fun k hk => by rcases hk with e | e | e <;> cases e), (fun k e => by cases e), (fun k e => by cases e), (fun k e => by cases e)⟩
theorem OrdB.start (hn : NetM wx g NoS ms) : OrdB B g ms [] [] [] (.slice Option.none 0 0) (.slice Option.none 0 0) (.slice Option.none 0 0) wx :=
  ⟨World.ownsRow_nil _ _ _ _, World.ownsRow_nil _ _ _ _, World.ownsRow_nil _ _ _ _, hn.grown (o := Option.none) (World.grownBy.refl _ _) (fun k e => by cases e) (fun k hk => by rcases hk with e | e | e <;> cases e), (fun k e => by cases e), (fun k e => by cases e), (fun k e => by cases e)⟩
theorem OrdB.app_s (h : OrdB B g ms sent come rep vs vc vr wx) {v' : Value} {xs : List UInt8} (ho : w'.ownsRow B 5 1 v' xs.length (bvs xs)) (hg : wx.grownBy w' vs.ownBlock) (hv : v'.ownBlock = vs.ownBlock ∨ ∀ k, v'.ownBlock = some k → wx.heap.size ≤ k) :
    OrdB B g ms xs come rep v' vc vr w' := by
  have key : ∀ k, v'.ownBlock = some k → vs.ownBlock = some k ∨ wx.heap.size ≤ k := fun k e => by
    rcases hv with h1 | h1
    · exact .inl (by rw [← h1]; exact e)
    · exact .inr (h1 k e)
  have ap0 : ∀ k, v'.ownBlock = some k → vc.ownBlock ≠ some k := fun k e e2 => by
    rcases key k e with h1 | h1
    · exact h.sc k h1 e2
    · have := own_ltB h.c e2; omega
  have ap1 : ∀ k, v'.ownBlock = some k → vr.ownBlock ≠ some k := fun k e e2 => by
    rcases key k e with h1 | h1
    · exact h.sr k h1 e2
    · have := own_ltB h.r e2; omega
  have ap2 : ∀ k, vc.ownBlock = some k → vr.ownBlock ≠ some k := h.cr
  refine ⟨ho, owns_other_row h.c hg (fun k e => fun e2 => h.sc k e2 e), owns_other_row h.r hg (fun k e => fun e2 => h.sr k e2 e), h.net.grown hg (fun k e => ⟨.inl e, fun e2 => own_neB h.net h.s (by rw [e, e2])⟩) ?_, ap0, ap1, ap2⟩
  rintro k (e | e | e)
  · rcases key k e with h1 | h1
    · exact .inl (.inl h1)
    · exact .inr h1
  · exact .inl (.inr (.inl e))
  · exact .inl (.inr (.inr e))
theorem OrdB.app_c (h : OrdB B g ms sent come rep vs vc vr wx) {v' : Value} {xs : List UInt8} (ho : w'.ownsRow B 5 1 v' xs.length (bvs xs)) (hg : wx.grownBy w' vc.ownBlock) (hv : v'.ownBlock = vc.ownBlock ∨ ∀ k, v'.ownBlock = some k → wx.heap.size ≤ k) :
    OrdB B g ms sent xs rep vs v' vr w' := by
  have key : ∀ k, v'.ownBlock = some k → vc.ownBlock = some k ∨ wx.heap.size ≤ k := fun k e => by
    rcases hv with h1 | h1
    · exact .inl (by rw [← h1]; exact e)
    · exact .inr (h1 k e)
  have ap0 : ∀ k, vs.ownBlock = some k → v'.ownBlock ≠ some k := fun k e e2 => by
    rcases key k e2 with h1 | h1
    · exact h.sc k e h1
    · have := own_ltB h.s e; omega
  have ap1 : ∀ k, vs.ownBlock = some k → vr.ownBlock ≠ some k := h.sr
  have ap2 : ∀ k, v'.ownBlock = some k → vr.ownBlock ≠ some k := fun k e e2 => by
    rcases key k e with h1 | h1
    · exact h.cr k h1 e2
    · have := own_ltB h.r e2; omega
  refine ⟨owns_other_row h.s hg (fun k e => h.sc k e), ho, owns_other_row h.r hg (fun k e => fun e2 => h.cr k e2 e), h.net.grown hg (fun k e => ⟨.inr (.inl e), fun e2 => own_neB h.net h.c (by rw [e, e2])⟩) ?_, ap0, ap1, ap2⟩
  rintro k (e | e | e)
  · exact .inl (.inl e)
  · rcases key k e with h1 | h1
    · exact .inl (.inr (.inl h1))
    · exact .inr h1
  · exact .inl (.inr (.inr e))
theorem OrdB.app_r (h : OrdB B g ms sent come rep vs vc vr wx) {v' : Value} {xs : List UInt8} (ho : w'.ownsRow B 5 1 v' xs.length (bvs xs)) (hg : wx.grownBy w' vr.ownBlock) (hv : v'.ownBlock = vr.ownBlock ∨ ∀ k, v'.ownBlock = some k → wx.heap.size ≤ k) :
    OrdB B g ms sent come xs vs vc v' w' := by
  have key : ∀ k, v'.ownBlock = some k → vr.ownBlock = some k ∨ wx.heap.size ≤ k := fun k e => by
    rcases hv with h1 | h1
    · exact .inl (by rw [← h1]; exact e)
    · exact .inr (h1 k e)
  have ap0 : ∀ k, vs.ownBlock = some k → vc.ownBlock ≠ some k := h.sc
  have ap1 : ∀ k, vs.ownBlock = some k → v'.ownBlock ≠ some k := fun k e e2 => by
    rcases key k e2 with h1 | h1
    · exact h.sr k e h1
    · have := own_ltB h.s e; omega
  have ap2 : ∀ k, vc.ownBlock = some k → v'.ownBlock ≠ some k := fun k e e2 => by
    rcases key k e2 with h1 | h1
    · exact h.cr k e h1
    · have := own_ltB h.c e; omega
  refine ⟨owns_other_row h.s hg (fun k e => h.sr k e), owns_other_row h.c hg (fun k e => h.cr k e), ho, h.net.grown hg (fun k e => ⟨.inr (.inr e), fun e2 => own_neB h.net h.r (by rw [e, e2])⟩) ?_, ap0, ap1, ap2⟩
  rintro k (e | e | e)
  · exact .inl (.inl e)
  · exact .inl (.inr (.inl e))
  · rcases key k e with h1 | h1
    · exact .inl (.inr (.inr h1))
    · exact .inr h1
end

set_option maxHeartbeats 8000000 in
theorem netOrder_walk (a0 : Option Addr) (n0 c0 : Nat) (os : List Op29) (cv : Int) (w : World) (h : Ops29 w a0 os) (hl : os.length = n0) (hcap : n0 ≤ c0) (hmx : n0 ≤ 9223372036854775807) (hcv : -9223372036854775808 ≤ cv ∧ cv ≤ 9223372036854775807) :
    Calls Try.prog 8 #[.slice a0 n0 c0, .int .i64 cv] w fun e w' => e = .returned (.bool true) ∧ Below w.heap.size w w' := by
  subst hl
  have HOPS := Lib.hid h
  cases hlg : long29 os with
  | true =>
    have HLG := Lib.hid hlg
    clear h hlg
    go_enter Try.func8, Try.ntmps8
    (repeat' ((fail_if_success at_builtin); first | go_values | go_skip | go_guarded | go_step | go_upon))
    refine (long_of a0 os.length c0 os w HOPS.out rfl hcap hmx).mono ?_
    rintro _ w1 ⟨rfl, rfl⟩
    rw [HLG.out]
    dsimp only
    (repeat' ((fail_if_success at_builtin); first | go_values | go_skip | go_guarded | go_step | go_upon))
    refine (netWorks w).mono ?_
    rintro _ w2 ⟨rfl, hB⟩
    dsimp only
    (repeat' ((fail_if_success at_builtin); first | go_values | go_skip | go_guarded | go_step | go_upon))
    go_ret
    exact ⟨rfl, hB⟩
  | false =>
    have HLG := Lib.hid hlg
    have hlt0 : os.length ≤ 200 ∧ tot29 os ≤ 8192 := by
      unfold long29 at hlg
      simp at hlg
      omega
    obtain ⟨hlen, htot⟩ := hlt0
    have hp8 := pick_lt cv 8 (by decide)
    clear h hlg
    go_enter Try.func8, Try.ntmps8
    (repeat' ((fail_if_success at_builtin); first | go_values | go_skip | go_guarded | go_step | go_upon))
    refine (long_of a0 os.length c0 os w HOPS.out rfl hcap hmx).mono ?_
    rintro _ w1 ⟨rfl, rfl⟩
    rw [HLG.out]
    dsimp only
    (repeat' ((fail_if_success at_builtin); first | go_values | go_skip | go_guarded | go_step | go_upon))
    refine (pickAny cv 8 w hcv (by decide)).mono ?_
    rintro _ w1 ⟨rfl, rfl⟩
    dsimp only
    obtain ⟨p, hp⟩ : ∃ p, pick cv 8 = p := ⟨_, rfl⟩
    rw [hp] at hp8 ⊢
    clear hp
    (repeat' ((fail_if_success at_builtin); first | go_values | go_skip | go_guarded | go_step | go_upon))
    refine (netNewM w NoS).mono ?_
    rintro _ w1 ⟨rfl, hN1, hB1⟩
    obtain ⟨g, hgw⟩ : ∃ g, w.heap.size = g := ⟨_, rfl⟩
    rw [hgw] at hN1 ⊢
    dsimp only
    obtain ⟨c, hc⟩ : ∃ c, 1 + p = c := ⟨_, rfl⟩
    have hc18 : 1 ≤ c ∧ c ≤ 8 := by omega
    have hci : -9223372036854775808 ≤ c ∧ c ≤ 9223372036854775807 := by omega
    have HN1 := Lib.hid hN1
    have HGW := Lib.hid hgw
    clear hN1 hgw
    (repeat' ((fail_if_success at_builtin); first | go_values | go_skip | go_guarded | go_step | go_upon))
    rw [hc]
    have hgB : w.heap.size ≤ g := by rw [HGW.out]; exact Nat.le_refl _
    clear hc hp8 HGW hlen
    go_loopw [6, 7, 8, 9, 10] (fun s r p o i wr => ∃ (k : Nat) (ms : List Cn) (sent come rep : List UInt8) (opn : Bool), k ≤ os.length ∧ i = .int .i64 k ∧ o = .bool opn ∧ OrdB w.heap.size g ms sent come rep s r p wr ∧ InvO ms c sent come rep opn ∧ BndO ms (tot29 (os.take k)) ∧ sent.length ≤ tot29 (os.take k) ∧ rep.length ≤ tot29 (os.take k) ∧ Below w.heap.size w wr) (fun _ _ _ _ i _ => os.length - (intOf i).toNat)
    case atStart => exact ⟨0, _, [], [], [], false, Nat.zero_le _, rfl, rfl, OrdB.start HN1.out, InvO.start c hc18, fun m hm => by rw [List.eq_of_mem_replicate hm]; exact ⟨Nat.zero_le _, Nat.zero_le _⟩, Nat.zero_le _, Nat.zero_le _, hB1⟩
    case round =>
      clear hB1 HN1
      obtain ⟨k, ms, sent, come, rep, opn, hk, rfl, rfl, hD, hI, hBn, hls, hlr, hB⟩ := hrel
      obtain ⟨sa, sc, rfl, hsc, _, _⟩ := owns_slice hD.s
      obtain ⟨ra, rc, rfl, hrc, _, _⟩ := owns_slice hD.c
      obtain ⟨pa, pc, rfl, hpc, _, _⟩ := owns_slice hD.r
      have hlc := hI.le
      have HD := Lib.hid hD
      have HI := Lib.hid hI
      have HBN := Lib.hid hBn
      clear hD hI hBn
      by_cases hlt : k < os.length
      · have hO := HOPS.out.below hB (Nat.le_refl _)
        obtain ⟨b, off, hba, q0, q1, q2, q3⟩ := hO.at_ k hlt
        have hoo := hO.ok _ (List.getElem_mem hlt)
        have HTT := Lib.hid (tot29_take os k hlt)
        have HTL := Lib.hid (tot29_le os (k + 1))
        obtain ⟨o, ho⟩ : ∃ o, os[k] = o := ⟨_, rfl⟩
        rw [ho] at q0 q1 q2 q3 hoo HTT
        obtain ⟨T, hTT⟩ : ∃ T, tot29 (os.take k) = T := ⟨_, rfl⟩
        rw [hTT] at HTT HBN hls hlr
        have HOO := Lib.hid hoo
        have HT0 := Lib.hid hTT
        clear ho hO hTT hoo
        subst hba
        have bk : (0 : Int) ≤ (k : Int) ∧ (k : Int) < (os.length : Int) := by omega
        (repeat' ((fail_if_success at_builtin); first | go_values | go_skip | go_guarded | go_step | go_upon))
        obtain ⟨wA, hwA⟩ : ∃ wA, wr.alloc (.cells #[.int .i64 o.kd, .int .i64 o.c, .int .i64 o.n, .slice o.ba o.bn o.bc] 63) = wA := ⟨_, rfl⟩
        have hBA : Below wr.heap.size wr wA := by rw [← hwA]; exact (Below.refl _ _).alloc (Nat.le_refl _) _
        have hzA : wA.heap[wr.heap.size]? = some (.cells #[.int .i64 o.kd, .int .i64 o.c, .int .i64 o.n, .slice o.ba o.bn o.bc] 63 (0, 0)) := by rw [← hwA]; exact heap_alloc_new wr _
        have HDA := Lib.hid (HD.out.below hBA)
        have HOA := Lib.hid (HOO.out.below hBA (Nat.le_refl _))
        have hBWA := hB.trans (hBA.mono hB.size)
        have hon : o.bn ≤ 8192 ∧ T + o.bn ≤ 8192 := by have := HTT.out; have := HTL.out; omega
        obtain ⟨hon1, hon2⟩ := hon
        rw [hwA]
        have hgz : g ≠ wr.heap.size := Nat.ne_of_lt HD.out.net.lt
        have hzo : ∀ v k, v = some k → (Own3 (.slice sa sent.length sc) (.slice ra come.length rc) (.slice pa rep.length pc)) k → k ≠ wr.heap.size := fun v k _ h => Nat.ne_of_lt (HD.out.low k h)
        obtain ⟨z, hz⟩ : ∃ z, wr.heap.size = z := ⟨_, rfl⟩
        rw [hz] at hzA hgz hzo ⊢
        have HZA := Lib.hid hzA
        have HZO := Lib.hid hzo
        clear q0 q1 q2 q3 hwA hz hBA bk hzA hzo
        refine (netDoes g _ o ms wA HDA.out.net HDA.out.low HOA.out (fun m hm => by have := HBN.out m hm; omega)).mono ?_
        rintro _ w2 ⟨ga, gc, rfl, hgc, hgr, hN2, hG2⟩
        obtain ⟨got, er, ms', hdd⟩ : ∃ got er ms', doesM ms o = (got, er, ms') := ⟨_, _, _, rfl⟩
        rw [hdd] at hgc hgr hN2
        rw [hdd]
        dsimp only at hgc hgr hN2 ⊢
        have HD2 := Lib.hid (HDA.out.called hG2 hN2)
        have hB2 : Below w.heap.size w w2 := hBWA.grown hG2 hBWA.size (fun k e => by cases e; exact hgB)
        have hz2 := (hG2.block z (Array.getElem?_eq_some_iff.1 HZA.out).1 (by intro e; exact hgz (Option.some.inj e).symm)).trans HZA.out
        have z0 : w2.cell? ⟨z, 0, Option.none⟩ = some (.int .i64 o.kd) := cell_of_row w2 z 0 _ _ _ hz2
        have z1 : w2.cell? ⟨z, 1, Option.none⟩ = some (.int .i64 o.c) := cell_of_row w2 z 1 _ _ _ hz2
        have z2 : w2.cell? ⟨z, 2, Option.none⟩ = some (.int .i64 o.n) := cell_of_row w2 z 2 _ _ _ hz2
        have z3 : w2.cell? ⟨z, 3, Option.none⟩ = some (.slice o.ba o.bn o.bc) := cell_of_row w2 z 3 _ _ _ hz2
        have HZ2 := Lib.hid hz2
        have HGR := Lib.hid hgr
        have HDD := Lib.hid hdd
        have HBN2 := Lib.hid (show BndO ms' (T + o.bn) by have := HBN.out.does o HOO.out.len; rw [hdd] at this; exact this)
        have HO2 := Lib.hid (HDA.out.net.keeps HOA.out.rd hG2)
        have HOL := Lib.hid HOO.out.len
        have HON := Lib.hid HOO.out.n
        have HOC := Lib.hid HOO.out.c
        have HOK := Lib.hid HOO.out.kd
        have HG2 := Lib.hid hG2
        obtain ⟨tb, htb⟩ : ∃ tb, decide (o.c = c ∧ 0 ≤ o.kd ∧ o.kd ≤ 4) = tb := ⟨_, rfl⟩
        have HTB := Lib.hid htb
        clear hz2 hgr hdd htb hG2 hN2 HDA HOA hBWA HZA
        go_upto_region 12 with fail
        go_cut [51] from 22 to 157 (fun v wx => v = .bool tb ∧ wx = w2)
        case first =>
          by_cases e1 : o.c = c
          · have b1 : (o.c == c) = true := by simp [e1]
            by_cases e2 : 0 ≤ o.kd
            · have b2 : decide (0 ≤ o.kd) = true := by simp [e2]
              by_cases e3 : o.kd ≤ 4
              · have b3 : decide (o.kd ≤ 4) = true := by simp [e3]
                (repeat' ((fail_if_success at_builtin); first | go_values | go_skip | go_guarded | go_step | go_upon))
                go_meet
                exact ⟨by rw [← HTB.out, decide_eq_true ⟨e1, e2, e3⟩], rfl⟩
              · have b3 : decide (o.kd ≤ 4) = false := by simp [e3]
                (repeat' ((fail_if_success at_builtin); first | go_values | go_skip | go_guarded | go_step | go_upon))
                go_meet
                exact ⟨by rw [← HTB.out, decide_eq_false (fun h => e3 h.2.2)], rfl⟩
            · have b2 : decide (0 ≤ o.kd) = false := by simp [e2]
              (repeat' ((fail_if_success at_builtin); first | go_values | go_skip | go_guarded | go_step | go_upon))
              go_meet
              exact ⟨by rw [← HTB.out, decide_eq_false (fun h => e2 h.2.1)], rfl⟩
          · have b1 : (o.c == c) = false := by simp [e1]
            (repeat' ((fail_if_success at_builtin); first | go_values | go_skip | go_guarded | go_step | go_upon))
            go_meet
            exact ⟨by rw [← HTB.out, decide_eq_false (fun h => e1 h.1)], rfl⟩
        case rest =>
          obtain ⟨rfl, rfl⟩ := hcut
          go_upto_if 51 with fail
          go_cut [6, 7, 8, 9] from 22 to 157 (fun s r p q wx => ∃ (sent2 come2 rep2 : List UInt8) (opn2 : Bool), q = .bool opn2 ∧ OrdB w.heap.size g ms' sent2 come2 rep2 s r p wx ∧ InvO ms' c sent2 come2 rep2 opn2 ∧ sent2.length ≤ T + o.bn ∧ rep2.length ≤ T + o.bn ∧ Below w.heap.size w wx)
          case first =>
            cases tb with
            | false =>
              (repeat' ((fail_if_success at_builtin); first | go_values | go_skip | go_guarded | go_step | go_upon))
              go_meet
              refine ⟨sent, come, rep, opn, rfl, HD2.out, ?_, by omega, by omega, hB2⟩
              have h1 := of_decide_eq_false HTB.out
              have h2 := HDD.out
              by_cases e1 : o.c = c
              · rw [doesM_nokind (fun h => h1 ⟨e1, h⟩)] at h2
                cases h2
                exact HI.out
              · have h3 := HI.out.other e1
                rw [h2] at h3
                exact h3
            | true =>
            have h1 := of_decide_eq_true HTB.out
            obtain ⟨e1, e2, e3⟩ := h1
            obtain ⟨kd, oc, n, ba, bn, bc, bl⟩ := o
            dsimp only at e1 e2 e3 z0 z1 z2 z3 hon1 hon2 HDD HO2 HOL HON HTT HBN2 ⊢
            subst e1
            --@GEN
            have hk5 : kd = 0 ∨ kd = 1 ∨ kd = 2 ∨ kd = 3 ∨ kd = 4 := by omega
            rcases hk5 with rfl | rfl | rfl | rfl | rfl
            · cases opn with
              | false =>
                obtain ⟨ms2, hd, hi⟩ := Inv_open_yes (n := n) (ba := ba) (bn := bn) (bc := bc) (bl := bl) HI.out
                cases (HDD.out.symm.trans hd)
                have HI2 := Lib.hid hi
                clear hd hi HI
                have HGRX := Lib.hid (RdC.nil wc ga)
                (repeat' ((fail_if_success at_builtin); first | go_values | go_skip | go_guarded | go_step | go_upon))
                refine app8x rfl _ _ rfl w.heap.size _ 0 ([] : List UInt8) rfl (OrdB.reset HD2.out).c ga 0 gc ([] : List UInt8) rfl HGRX.out rfl (by omega) hB2.size ?_
                intro a6 c6 w6 h61 h62 h63 h64
                have HD6 := Lib.hid ((OrdB.reset HD2.out).app_c (xs := ([] : List UInt8) ++ ([] : List UInt8)) (v' := .slice a6 (0 + 0) c6) (by rw [List.length_append]; exact h62) h63 h64)
                have hB6 := hB2.grown h63 hB2.size (fun k e => ((OrdB.reset HD2.out).c.lt k e).1)
                clear h61 h62 h63 h64
                (repeat' ((fail_if_success at_builtin); first | go_values | go_skip | go_guarded | go_step | go_upon))
                go_meet
                exact ⟨([] : List UInt8), ([] : List UInt8) ++ ([] : List UInt8), ([] : List UInt8), true, rfl, HD6.out, by rw [List.append_nil]; exact HI2.out, by simp only [List.length_append, List.length_nil]; have := HOL.out; omega, by simp only [List.length_append, List.length_nil]; have := HOL.out; omega, hB6⟩
              | true =>
                have hd := Inv_open_no (n := n) (ba := ba) (bn := bn) (bc := bc) (bl := bl) HI.out
                cases (HDD.out.symm.trans hd)
                have HI2 := Lib.hid HI.out
                clear hd HI
                have HGRX := Lib.hid (RdC.nil wc ga)
                (repeat' ((fail_if_success at_builtin); first | go_values | go_skip | go_guarded | go_step | go_upon))
                refine app8x rfl _ _ rfl w.heap.size _ come.length come rfl HD2.out.c ga 0 gc ([] : List UInt8) rfl HGRX.out rfl (by omega) hB2.size ?_
                intro a6 c6 w6 h61 h62 h63 h64
                have HD6 := Lib.hid (HD2.out.app_c (xs := come ++ ([] : List UInt8)) (v' := .slice a6 (come.length + 0) c6) (by rw [List.length_append]; exact h62) h63 h64)
                have hB6 := hB2.grown h63 hB2.size (fun k e => (HD2.out.c.lt k e).1)
                clear h61 h62 h63 h64
                (repeat' ((fail_if_success at_builtin); first | go_values | go_skip | go_guarded | go_step | go_upon))
                go_meet
                exact ⟨sent, come ++ ([] : List UInt8), rep, true, rfl, HD6.out, by rw [List.append_nil]; exact HI2.out, by simp only [List.length_append, List.length_nil]; have := HOL.out; omega, by simp only [List.length_append, List.length_nil]; have := HOL.out; omega, hB6⟩
            · cases opn with
              | false =>
                have hd := Inv_close_no (n := n) (ba := ba) (bn := bn) (bc := bc) (bl := bl) HI.out
                cases (HDD.out.symm.trans hd)
                have HI2 := Lib.hid HI.out
                clear hd HI
                have HGRX := Lib.hid (RdC.nil wc ga)
                (repeat' ((fail_if_success at_builtin); first | go_values | go_skip | go_guarded | go_step | go_upon))
                refine app8x rfl _ _ rfl w.heap.size _ come.length come rfl HD2.out.c ga 0 gc ([] : List UInt8) rfl HGRX.out rfl (by omega) hB2.size ?_
                intro a6 c6 w6 h61 h62 h63 h64
                have HD6 := Lib.hid (HD2.out.app_c (xs := come ++ ([] : List UInt8)) (v' := .slice a6 (come.length + 0) c6) (by rw [List.length_append]; exact h62) h63 h64)
                have hB6 := hB2.grown h63 hB2.size (fun k e => (HD2.out.c.lt k e).1)
                clear h61 h62 h63 h64
                (repeat' ((fail_if_success at_builtin); first | go_values | go_skip | go_guarded | go_step | go_upon))
                go_meet
                exact ⟨sent, come ++ ([] : List UInt8), rep, false, rfl, HD6.out, by rw [List.append_nil]; exact HI2.out, by simp only [List.length_append, List.length_nil]; have := HOL.out; omega, by simp only [List.length_append, List.length_nil]; have := HOL.out; omega, hB6⟩
              | true =>
                obtain ⟨ms2, hd, hi⟩ := Inv_close_yes (n := n) (ba := ba) (bn := bn) (bc := bc) (bl := bl) HI.out
                cases (HDD.out.symm.trans hd)
                have HI2 := Lib.hid hi
                clear hd hi HI
                have HGRX := Lib.hid (RdC.nil wc ga)
                (repeat' ((fail_if_success at_builtin); first | go_values | go_skip | go_guarded | go_step | go_upon))
                refine app8x rfl _ _ rfl w.heap.size _ come.length come rfl HD2.out.c ga 0 gc ([] : List UInt8) rfl HGRX.out rfl (by omega) hB2.size ?_
                intro a6 c6 w6 h61 h62 h63 h64
                have HD6 := Lib.hid (HD2.out.app_c (xs := come ++ ([] : List UInt8)) (v' := .slice a6 (come.length + 0) c6) (by rw [List.length_append]; exact h62) h63 h64)
                have hB6 := hB2.grown h63 hB2.size (fun k e => (HD2.out.c.lt k e).1)
                clear h61 h62 h63 h64
                (repeat' ((fail_if_success at_builtin); first | go_values | go_skip | go_guarded | go_step | go_upon))
                go_meet
                exact ⟨sent, come ++ ([] : List UInt8), rep, false, rfl, HD6.out, by rw [List.append_nil]; exact HI2.out, by simp only [List.length_append, List.length_nil]; have := HOL.out; omega, by simp only [List.length_append, List.length_nil]; have := HOL.out; omega, hB6⟩
            · cases opn with
              | false =>
                have hd := Inv_send_no (n := n) (ba := ba) (bn := bn) (bc := bc) (bl := bl) HI.out
                cases (HDD.out.symm.trans hd)
                have HI2 := Lib.hid HI.out
                clear hd HI
                have HGRX := Lib.hid (RdC.nil wc ga)
                (repeat' ((fail_if_success at_builtin); first | go_values | go_skip | go_guarded | go_step | go_upon))
                refine app8x rfl _ _ rfl w.heap.size _ come.length come rfl HD2.out.c ga 0 gc ([] : List UInt8) rfl HGRX.out rfl (by omega) hB2.size ?_
                intro a6 c6 w6 h61 h62 h63 h64
                have HD6 := Lib.hid (HD2.out.app_c (xs := come ++ ([] : List UInt8)) (v' := .slice a6 (come.length + 0) c6) (by rw [List.length_append]; exact h62) h63 h64)
                have hB6 := hB2.grown h63 hB2.size (fun k e => (HD2.out.c.lt k e).1)
                clear h61 h62 h63 h64
                (repeat' ((fail_if_success at_builtin); first | go_values | go_skip | go_guarded | go_step | go_upon))
                go_meet
                exact ⟨sent, come ++ ([] : List UInt8), rep, false, rfl, HD6.out, by rw [List.append_nil]; exact HI2.out, by simp only [List.length_append, List.length_nil]; have := HOL.out; omega, by simp only [List.length_append, List.length_nil]; have := HOL.out; omega, hB6⟩
              | true =>
                obtain ⟨ms2, hd, hi⟩ := Inv_send_yes (n := n) (ba := ba) (bn := bn) (bc := bc) (bl := bl) HI.out
                cases (HDD.out.symm.trans hd)
                have HI2 := Lib.hid hi
                clear hd hi HI
                have HGRX := Lib.hid (RdC.nil wc ga)
                (repeat' ((fail_if_success at_builtin); first | go_values | go_skip | go_guarded | go_step | go_upon))
                refine app8x rfl _ _ rfl w.heap.size _ sent.length sent rfl HD2.out.s ba bn bc bl rfl HO2.out HOL.out (by omega) hB2.size ?_
                intro a5 c5 w5 h51 h52 h53 h54
                have HD5 := Lib.hid (HD2.out.app_s (xs := sent ++ bl) (v' := .slice a5 (sent.length + bn) c5) (by rw [List.length_append, HOL.out]; exact h52) h53 h54)
                have hB5 := hB2.grown h53 hB2.size (fun k e => (HD2.out.s.lt k e).1)
                have hq : (Value.slice sa sent.length sc).ownBlock ≠ some z := fun e => HZO.out _ _ e (.inl e) rfl
                have y0 : w5.cell? ⟨z, 0, Option.none⟩ = some (.int .i64 2) := cell_other h53 z0 hq
                have HGR5 := Lib.hid (RdC.nil w5 ga)
                clear h51 h52 h53 h54 hq
                (repeat' ((fail_if_success at_builtin); first | go_values | go_skip | go_guarded | go_step | go_upon))
                refine app8x rfl _ _ rfl w.heap.size _ come.length come rfl HD5.out.c ga 0 gc ([] : List UInt8) rfl HGR5.out rfl (by omega) hB5.size ?_
                intro a6 c6 w6 h61 h62 h63 h64
                have HD6 := Lib.hid (HD5.out.app_c (xs := come ++ ([] : List UInt8)) (v' := .slice a6 (come.length + 0) c6) (by rw [List.length_append]; exact h62) h63 h64)
                have hB6 := hB5.grown h63 hB5.size (fun k e => (HD5.out.c.lt k e).1)
                clear h61 h62 h63 h64
                (repeat' ((fail_if_success at_builtin); first | go_values | go_skip | go_guarded | go_step | go_upon))
                go_meet
                exact ⟨(sent ++ bl), come ++ ([] : List UInt8), rep, true, rfl, HD6.out, by rw [List.append_nil]; exact HI2.out, by simp only [List.length_append, List.length_nil]; have := HOL.out; omega, by simp only [List.length_append, List.length_nil]; have := HOL.out; omega, hB6⟩
            · cases opn with
              | false =>
                have hd := Inv_deliver_no (n := n) (ba := ba) (bn := bn) (bc := bc) (bl := bl) HI.out
                cases (HDD.out.symm.trans hd)
                have HI2 := Lib.hid HI.out
                clear hd HI
                have HGRX := Lib.hid (RdC.nil wc ga)
                (repeat' ((fail_if_success at_builtin); first | go_values | go_skip | go_guarded | go_step | go_upon))
                refine app8x rfl _ _ rfl w.heap.size _ come.length come rfl HD2.out.c ga 0 gc ([] : List UInt8) rfl HGRX.out rfl (by omega) hB2.size ?_
                intro a6 c6 w6 h61 h62 h63 h64
                have HD6 := Lib.hid (HD2.out.app_c (xs := come ++ ([] : List UInt8)) (v' := .slice a6 (come.length + 0) c6) (by rw [List.length_append]; exact h62) h63 h64)
                have hB6 := hB2.grown h63 hB2.size (fun k e => (HD2.out.c.lt k e).1)
                clear h61 h62 h63 h64
                (repeat' ((fail_if_success at_builtin); first | go_values | go_skip | go_guarded | go_step | go_upon))
                go_meet
                exact ⟨sent, come ++ ([] : List UInt8), rep, false, rfl, HD6.out, by rw [List.append_nil]; exact HI2.out, by simp only [List.length_append, List.length_nil]; have := HOL.out; omega, by simp only [List.length_append, List.length_nil]; have := HOL.out; omega, hB6⟩
              | true =>
                obtain ⟨got2, ms2, hd, hi, hn⟩ := Inv_deliver_yes (n := n) (ba := ba) (bn := bn) (bc := bc) (bl := bl) HI.out
                cases (HDD.out.symm.trans hd)
                have HI2 := Lib.hid hi
                clear hd hi HI
                have HGRX := Lib.hid HGR.out
                have hgl : come.length + got.length ≤ 2147483648 := by have h1 := HI2.out.le; rw [List.length_append] at h1; omega
                by_cases hg0 : got.length = 0
                · obtain rfl : got = [] := List.eq_nil_of_length_eq_zero hg0
                  clear hg0 hn
                  (repeat' ((fail_if_success at_builtin); first | go_values | go_skip | go_guarded | go_step | go_upon))
                  refine app8x rfl _ _ rfl w.heap.size _ come.length come rfl HD2.out.c ga 0 gc [] rfl HGRX.out rfl (by omega) hB2.size ?_
                  intro a6 c6 w6 h61 h62 h63 h64
                  have HD6 := Lib.hid (HD2.out.app_c (xs := come ++ []) (v' := .slice a6 (come.length + 0) c6) (by rw [List.length_append]; exact h62) h63 h64)
                  have hB6 := hB2.grown h63 hB2.size (fun k e => (HD2.out.c.lt k e).1)
                  clear h61 h62 h63 h64
                  (repeat' ((fail_if_success at_builtin); first | go_values | go_skip | go_guarded | go_step | go_upon))
                  go_meet
                  exact ⟨sent, come ++ [], rep, true, rfl, HD6.out, HI2.out, by simp only [List.length_append, List.length_nil]; have := HOL.out; omega, by simp only [List.length_append, List.length_nil]; have := HOL.out; omega, hB6⟩
                · have t0 : decide ((0 : Int) < (got.length : Int)) = true := by rw [decide_eq_true_eq]; omega
                  have t1 : decide (n < (got.length : Int)) = false := by rw [decide_eq_false_iff_not]; have := hn (by omega); omega
                  have t2 : decide (0 < got.length) = true := by rw [decide_eq_true_eq]; omega
                  have t3 : 0 < got.length := by omega
                  have HG0 := Lib.hid hg0
                  clear hg0 hn
                  (repeat' ((fail_if_success at_builtin); first | go_values | go_skip | go_guarded | go_step | go_upon))
                  refine app8x rfl _ _ rfl w.heap.size _ come.length come rfl HD2.out.c ga got.length gc got rfl HGRX.out rfl (by omega) hB2.size ?_
                  intro a6 c6 w6 h61 h62 h63 h64
                  have HD6 := Lib.hid (HD2.out.app_c (xs := come ++ got) (v' := .slice a6 (come.length + got.length) c6) (by rw [List.length_append]; exact h62) h63 h64)
                  have hB6 := hB2.grown h63 hB2.size (fun k e => (HD2.out.c.lt k e).1)
                  clear h61 h62 h63 h64
                  (repeat' ((fail_if_success at_builtin); first | go_values | go_skip | go_guarded | go_step | go_upon))
                  go_meet
                  exact ⟨sent, come ++ got, rep, true, rfl, HD6.out, HI2.out, by simp only [List.length_append, List.length_nil]; have := HOL.out; omega, by simp only [List.length_append, List.length_nil]; have := HOL.out; omega, hB6⟩
            · cases opn with
              | false =>
                have hd := Inv_reply_no (n := n) (ba := ba) (bn := bn) (bc := bc) (bl := bl) HI.out
                cases (HDD.out.symm.trans hd)
                have HI2 := Lib.hid HI.out
                clear hd HI
                have HGRX := Lib.hid (RdC.nil wc ga)
                (repeat' ((fail_if_success at_builtin); first | go_values | go_skip | go_guarded | go_step | go_upon))
                refine app8x rfl _ _ rfl w.heap.size _ come.length come rfl HD2.out.c ga 0 gc ([] : List UInt8) rfl HGRX.out rfl (by omega) hB2.size ?_
                intro a6 c6 w6 h61 h62 h63 h64
                have HD6 := Lib.hid (HD2.out.app_c (xs := come ++ ([] : List UInt8)) (v' := .slice a6 (come.length + 0) c6) (by rw [List.length_append]; exact h62) h63 h64)
                have hB6 := hB2.grown h63 hB2.size (fun k e => (HD2.out.c.lt k e).1)
                clear h61 h62 h63 h64
                (repeat' ((fail_if_success at_builtin); first | go_values | go_skip | go_guarded | go_step | go_upon))
                go_meet
                exact ⟨sent, come ++ ([] : List UInt8), rep, false, rfl, HD6.out, by rw [List.append_nil]; exact HI2.out, by simp only [List.length_append, List.length_nil]; have := HOL.out; omega, by simp only [List.length_append, List.length_nil]; have := HOL.out; omega, hB6⟩
              | true =>
                obtain ⟨ms2, hd, hi⟩ := Inv_reply_yes (n := n) (ba := ba) (bn := bn) (bc := bc) (bl := bl) HI.out
                cases (HDD.out.symm.trans hd)
                have HI2 := Lib.hid hi
                clear hd hi HI
                have HGRX := Lib.hid (RdC.nil wc ga)
                (repeat' ((fail_if_success at_builtin); first | go_values | go_skip | go_guarded | go_step | go_upon))
                refine app8x rfl _ _ rfl w.heap.size _ rep.length rep rfl HD2.out.r ba bn bc bl rfl HO2.out HOL.out (by omega) hB2.size ?_
                intro a5 c5 w5 h51 h52 h53 h54
                have HD5 := Lib.hid (HD2.out.app_r (xs := rep ++ bl) (v' := .slice a5 (rep.length + bn) c5) (by rw [List.length_append, HOL.out]; exact h52) h53 h54)
                have hB5 := hB2.grown h53 hB2.size (fun k e => (HD2.out.r.lt k e).1)
                have hq : (Value.slice pa rep.length pc).ownBlock ≠ some z := fun e => HZO.out _ _ e (.inr (.inr e)) rfl
                have y0 : w5.cell? ⟨z, 0, Option.none⟩ = some (.int .i64 4) := cell_other h53 z0 hq
                have HGR5 := Lib.hid (RdC.nil w5 ga)
                clear h51 h52 h53 h54 hq
                (repeat' ((fail_if_success at_builtin); first | go_values | go_skip | go_guarded | go_step | go_upon))
                refine app8x rfl _ _ rfl w.heap.size _ come.length come rfl HD5.out.c ga 0 gc ([] : List UInt8) rfl HGR5.out rfl (by omega) hB5.size ?_
                intro a6 c6 w6 h61 h62 h63 h64
                have HD6 := Lib.hid (HD5.out.app_c (xs := come ++ ([] : List UInt8)) (v' := .slice a6 (come.length + 0) c6) (by rw [List.length_append]; exact h62) h63 h64)
                have hB6 := hB5.grown h63 hB5.size (fun k e => (HD5.out.c.lt k e).1)
                clear h61 h62 h63 h64
                (repeat' ((fail_if_success at_builtin); first | go_values | go_skip | go_guarded | go_step | go_upon))
                go_meet
                exact ⟨sent, come ++ ([] : List UInt8), (rep ++ bl), true, rfl, HD6.out, by rw [List.append_nil]; exact HI2.out, by simp only [List.length_append, List.length_nil]; have := HOL.out; omega, by simp only [List.length_append, List.length_nil]; have := HOL.out; omega, hB6⟩
            --@GENEND
          case rest =>
            obtain ⟨sent2, come2, rep2, opn2, rfl, hD3, hI3, hls3, hlr3, hB3⟩ := hcut
            obtain ⟨sa3, sc3, rfl, hsc3, _, _⟩ := owns_slice hD3.s
            obtain ⟨ra3, rc3, rfl, hrc3, _, _⟩ := owns_slice hD3.c
            obtain ⟨pa3, pc3, rfl, hpc3, _, _⟩ := owns_slice hD3.r
            have hlc3 := hI3.le
            have hpre := hI3.pre
            have HD3 := Lib.hid hD3
            have HI3 := Lib.hid hI3
            have HP3 := Lib.hid hpre
            have HM3 := Lib.hid hI3.is
            have HS3 := Lib.hid hI3.sent_
            clear HD2 hB2 z0 z1 z2 z3 HZ2 HGR HG2 hD3 hI3 hpre HI HD HZO HDD HO2 HOL HON HOC HOK HTB HBN hls hlr hsc hrc hpc hlc hgc hgz
            have hsl : ∀ w, (Instr.slice 51 (.slice sa3 sent2.length sc3) none (some (.int .i64 (come2.length : Int))) none).run Try.prog w = .ok (.slice sa3 come2.length sc3) w := fun w => run_slice_toS (P := Try.prog) 51 5 1 Try.underlying51 byteSize sa3 sent2.length sc3 come2.length (Nat.le_trans hlc3 hsc3) w
            have d1 : decide ((sent2.length : Int) < (come2.length : Int)) = false := by rw [decide_eq_false_iff_not]; omega
            have d2 : decide (sent2.length < come2.length) = false := by rw [decide_eq_false_iff_not]; omega
            have hb3 : sent2.length ≤ 8192 := by omega
            have hb4 : rep2.length ≤ 8192 := by omega
            have hb5 : come2.length ≤ 8192 := by omega
            cases opn2 with
            | true =>
              have hwy := HI3.out.waits_yes
              obtain ⟨N, hN⟩ : ∃ N, waitsM ms' c = N := ⟨_, rfl⟩
              rw [hN] at hwy
              have HW3 := Lib.hid hN
              have hne : ((N : Int) != (sent2.length : Int) - (come2.length : Int)) = false := by simp; omega
              have HWY := Lib.hid hwy
              clear hN hwy
              (repeat' ((fail_if_success at_builtin); first | go_values | go_skip | go_guarded | go_step | go_upon))
              refine (same_yes (rdc_of_owns HD3.out.c) ((rdc_of_owns HD3.out.s).takeB come2.length) rfl (by rw [List.length_take]; exact Nat.min_eq_left hlc3) (by omega) HP3.out).mono ?_
              rintro _ wD ⟨rfl, hsD⟩
              dsimp only
              have HDD := Lib.hid (HD3.out.below (hsD.below _))
              have hBD : Below w.heap.size w wD := hB3.trans (hsD.below _)
              clear hsD hB3 HD3
              (repeat' ((fail_if_success at_builtin); first | go_values | go_skip | go_guarded | go_step | go_upon))
              refine (netIsM g _ c ms' wD HDD.out.net hci).mono ?_
              rintro _ wE ⟨rfl, rfl⟩
              rw [HM3.out]
              dsimp only
              (repeat' ((fail_if_success at_builtin); first | go_values | go_skip | go_guarded | go_step | go_upon))
              refine (netSentM g _ c ms' wD HDD.out.net hci).mono ?_
              rintro _ wE ⟨xa, xc, rfl, hxc, hxr, hBE⟩
              rw [HS3.out] at hxc hxr ⊢
              have HXR := Lib.hid hxr
              have HDE := Lib.hid (HDD.out.below hBE)
              have hBE2 : Below w.heap.size w wE := hBD.trans (hBE.mono hBD.size)
              clear hxr hBE HDD hBD
              dsimp only
              (repeat' ((fail_if_success at_builtin); first | go_values | go_skip | go_guarded | go_step | go_upon))
              refine (same_yes HXR.out (rdc_of_owns HDE.out.r) rfl rfl (by omega) rfl).mono ?_
              rintro _ wF ⟨rfl, hsF⟩
              have HDF := Lib.hid (HDE.out.below (hsF.below _))
              have hBF : Below w.heap.size w wF := hBE2.trans (hsF.below _)
              clear hsF HDE hBE2 HXR
              dsimp only
              (repeat' ((fail_if_success at_builtin); first | go_values | go_skip | go_guarded | go_step | go_upon))
              refine (netWaitsM g _ c ms' wF HDF.out.net hci).mono ?_
              rintro _ wG ⟨rfl, hBG⟩
              rw [HW3.out]
              have HDG := Lib.hid (HDF.out.below hBG)
              have hBG2 : Below w.heap.size w wG := hBF.trans (hBG.mono hBF.size)
              clear hBG HDF hBF
              dsimp only
              (repeat' ((fail_if_success at_builtin); first | go_values | go_skip | go_guarded | go_step | go_upon))
              go_roundw
              case rel => exact ⟨k + 1, ms', sent2, come2, rep2, true, by omega, by go_num, rfl, HDG.out, HI3.out, by rw [HTT.out]; exact HBN2.out, by rw [HTT.out]; exact hls3, by rw [HTT.out]; exact hlr3, hBG2⟩
              case measure => simp [intOf]; omega
            | false =>
              have HW3 := Lib.hid HI3.out.waits_no
              (repeat' ((fail_if_success at_builtin); first | go_values | go_skip | go_guarded | go_step | go_upon))
              refine (same_yes (rdc_of_owns HD3.out.c) ((rdc_of_owns HD3.out.s).takeB come2.length) rfl (by rw [List.length_take]; exact Nat.min_eq_left hlc3) (by omega) HP3.out).mono ?_
              rintro _ wD ⟨rfl, hsD⟩
              dsimp only
              have HDD := Lib.hid (HD3.out.below (hsD.below _))
              have hBD : Below w.heap.size w wD := hB3.trans (hsD.below _)
              clear hsD hB3 HD3
              (repeat' ((fail_if_success at_builtin); first | go_values | go_skip | go_guarded | go_step | go_upon))
              refine (netIsM g _ c ms' wD HDD.out.net hci).mono ?_
              rintro _ wE ⟨rfl, rfl⟩
              rw [HM3.out]
              dsimp only
              (repeat' ((fail_if_success at_builtin); first | go_values | go_skip | go_guarded | go_step | go_upon))
              refine (netSentM g _ c ms' wD HDD.out.net hci).mono ?_
              rintro _ wE ⟨xa, xc, rfl, hxc, hxr, hBE⟩
              rw [HS3.out] at hxc hxr ⊢
              have HXR := Lib.hid hxr
              have HDE := Lib.hid (HDD.out.below hBE)
              have hBE2 : Below w.heap.size w wE := hBD.trans (hBE.mono hBD.size)
              clear hxr hBE HDD hBD
              dsimp only
              (repeat' ((fail_if_success at_builtin); first | go_values | go_skip | go_guarded | go_step | go_upon))
              refine (same_yes HXR.out (rdc_of_owns HDE.out.r) rfl rfl (by omega) rfl).mono ?_
              rintro _ wF ⟨rfl, hsF⟩
              have HDF := Lib.hid (HDE.out.below (hsF.below _))
              have hBF : Below w.heap.size w wF := hBE2.trans (hsF.below _)
              clear hsF HDE hBE2 HXR
              dsimp only
              (repeat' ((fail_if_success at_builtin); first | go_values | go_skip | go_guarded | go_step | go_upon))
              refine (netWaitsM g _ c ms' wF HDF.out.net hci).mono ?_
              rintro _ wG ⟨rfl, hBG⟩
              rw [HW3.out]
              have HDG := Lib.hid (HDF.out.below hBG)
              have hBG2 : Below w.heap.size w wG := hBF.trans (hBG.mono hBF.size)
              clear hBG HDF hBF
              dsimp only
              (repeat' ((fail_if_success at_builtin); first | go_values | go_skip | go_guarded | go_step | go_upon))
              go_roundw
              case rel => exact ⟨k + 1, ms', sent2, come2, rep2, false, by omega, by go_num, rfl, HDG.out, HI3.out, by rw [HTT.out]; exact HBN2.out, by rw [HTT.out]; exact hls3, by rw [HTT.out]; exact hlr3, hBG2⟩
              case measure => simp [intOf]; omega
      · obtain rfl : k = os.length := by omega
        rw [List.take_of_length_le (Nat.le_refl _)] at hls hlr
        have hs8 : sent.length ≤ 8192 := by omega
        have hI2 : ((-9223372036854775808 : Int) ≤ 1099511627776 ∧ (1099511627776 : Int) ≤ 9223372036854775807) := by decide
        clear hls hlr HBN
        cases opn with
        | true =>
          obtain ⟨got, ms2, hd, he⟩ := Inv_rest (n := 1099511627776) HI.out (by omega)
          have HDL := Lib.hid hd
          have HE := Lib.hid he
          have hlg : come.length + got.length ≤ 8192 := by rw [← List.length_append, he]; exact hs8
          clear hd he
          (repeat' ((fail_if_success at_builtin); first | go_values | go_skip | go_guarded | go_step | go_upon))
          refine (netDeliver g _ c 1099511627776 ms wr HD.out.net hci hI2).mono ?_
          rintro _ w2 ⟨ga, gc, rfl, hgc, hgr, hN2, hG2⟩
          rw [HDL.out] at hgc hgr hN2 ⊢
          dsimp only at hgc hgr hN2 ⊢
          have HD2 := Lib.hid (HD.out.called hG2 hN2)
          have hB2 : Below w.heap.size w w2 := hB.grown hG2 hB.size (fun k e => by cases e; exact hgB)
          have HGR := Lib.hid hgr
          clear hgr hN2 hG2 HD hB
          (repeat' ((fail_if_success at_builtin); first | go_values | go_skip | go_guarded | go_step | go_upon))
          refine app8xG (by rfl) _ _ rfl w.heap.size _ come.length come rfl HD2.out.c ga got.length gc got rfl HGR.out rfl (by omega) hB2.size ?_
          intro a6 c6 w6 h61 h62 h63 h64
          have HD6 := Lib.hid (HD2.out.app_c (xs := come ++ got) (v' := .slice a6 (come.length + got.length) c6) (by rw [List.length_append]; exact h62) h63 h64)
          have hB6 := hB2.grown h63 hB2.size (fun k e => (HD2.out.c.lt k e).1)
          have HR6 := Lib.hid (rdc_of_owns h62)
          clear h61 h62 h63 h64 HD2 hB2
          (repeat' ((fail_if_success at_builtin); first | go_values | go_skip | go_guarded | go_step | go_upon))
          refine (same_yes HR6.out (rdc_of_owns HD6.out.s) (List.length_append) rfl (by omega) HE.out).mono ?_
          rintro _ w7 ⟨rfl, hs7⟩
          have hB7 : Below w.heap.size w w7 := hB6.trans (hs7.below _)
          clear hs7 hB6 HD6 HR6
          dsimp only
          (repeat' ((fail_if_success at_builtin); first | go_values | go_skip | go_guarded | go_step | go_upon))
          refine (netWorks w7).mono ?_
          rintro _ w8 ⟨rfl, hB8⟩
          dsimp only
          have hB9 : Below w.heap.size w w8 := hB7.trans (hB8.mono hB7.size)
          clear hB7 hB8
          (repeat' ((fail_if_success at_builtin); first | go_values | go_skip | go_guarded | go_step | go_upon))
          go_ret
          exact ⟨rfl, hB9⟩
        | false =>
          have HDL := Lib.hid (Inv_deliver_none (n := 1099511627776) HI.out)
          (repeat' ((fail_if_success at_builtin); first | go_values | go_skip | go_guarded | go_step | go_upon))
          refine (netDeliver g _ c 1099511627776 ms wr HD.out.net hci hI2).mono ?_
          rintro _ w2 ⟨ga, gc, rfl, hgc, hgr, hN2, hG2⟩
          rw [HDL.out]
          dsimp only [List.length_nil]
          have hB2 : Below w.heap.size w w2 := hB.grown hG2 hB.size (fun k e => by cases e; exact hgB)
          clear hgr hN2 hG2 HD hB hgc
          (repeat' ((fail_if_success at_builtin); first | go_values | go_skip | go_guarded | go_step | go_upon))
          refine (netWorks w2).mono ?_
          rintro _ w8 ⟨rfl, hB8⟩
          dsimp only
          have hB9 : Below w.heap.size w w8 := hB2.trans (hB8.mono hB2.size)
          clear hB2 hB8
          (repeat' ((fail_if_success at_builtin); first | go_values | go_skip | go_guarded | go_step | go_upon))
          go_ret
          exact ⟨rfl, hB9⟩

end Go.Proofs.Ythgaghpakioglaa
