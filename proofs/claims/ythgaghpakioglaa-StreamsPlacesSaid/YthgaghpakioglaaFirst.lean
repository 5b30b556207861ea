/- The first events that an iterator tells (streams.first), for every iterator. -/
import Derived.Test.YthgaghpakioglaaEv
import Derived.Shelf.Abstract
import Derived.Shelf.RegionOpen
import Derived.WalkKit
import Derived.OwnWalkIn
import Derived.TacticsInMore
import Derived.LoopNIn
import Derived.LoopIn
import Derived.Maps.OwnIn
namespace Go.Proofs.Ythgaghpakioglaa
set_option linter.unusedSimpArgs false
set_option linter.unusedVariables false
open Go.RowKit Go.Shelf
set_option maxRecDepth 10000
attribute [local go_sem] Oper.semAt_some

/-- What is told: all that the iterator has, fewer than M; or its first M. -/
def Told (S Sp : List Ev → Prop) (M : Int) (xs : List Ev) : Prop := (M < 1 ∧ xs = []) ∨ (1 ≤ M ∧ ((S xs ∧ (xs.length : Int) < M) ∨ (Sp xs ∧ (xs.length : Int) = M)))
def FirstR (w : World) (S Sp : List Ev → Prop) (M : Int) (e : Ending) (w' : World) : Prop :=
  ∃ (xs : List Ev) (a : Option Addr) (c : Nat), e = .returned (.slice a xs.length c) ∧ xs.length ≤ c ∧ w'.ownsRow w.heap.size 54 6 (.slice a xs.length c) xs.length (xs.flatMap Ev.cells) ∧ (∀ x ∈ xs, x.Rd w.heap.size w') ∧ Below w.heap.size w w' ∧ Told S Sp M xs

set_option maxHeartbeats 4000000 in
theorem firstNo (gf : Nat) (lb : Array Value) (S Sp : List Ev → Prop) (N : Int) (w : World) (hN : N < 1) (hi : -9223372036854775808 ≤ N) :
    Calls Try.prog 52 #[.func (.func gf) #[] lb, .int .i64 N] w (FirstR w S Sp (min N 64)) := by
  have t0 : decide (N < 1) = true := by simpa using hN
  refine (callsIn_wide (n := 9)).1 ?_
  refine callsIn_of_wp_marks Try.func52 rfl trivial ?_ rfl
  simp only [Try.ntmps52, List.size_toArray, List.length_cons, List.length_nil, Nat.reduceAdd, Nat.reduceSub, Array.replicate_succ, Array.replicate_zero, List.push_toArray, List.append_toArray, List.nil_append, List.cons_append]
  gi_wp2
  refine ⟨_, results_tmp rfl _ _ _, [], none, 0, rfl, Nat.le_refl _, World.ownsRow_nil _ _ _ _, (fun x hx => by cases hx), ((Below.refl _ w).alloc (Nat.le_refl _) _).alloc (by simp) _, .inl ⟨by omega, rfl⟩⟩

/-- What lies between two rounds. -/
def FirI (w : World) (M : Nat) (pre : List Ev) (W : World) : Prop := ∃ v, W.heap[w.heap.size]? = some (.cells #[.int .i64 (M : Int)] 3 (0, 0)) ∧ W.heap[w.heap.size + 1]? = some (.cells #[v] 26 (0, 0)) ∧
  W.ownsRow w.heap.size 54 6 v pre.length (pre.flatMap Ev.cells) ∧ (∀ x ∈ pre, x.Rd w.heap.size W) ∧ Below w.heap.size w W
theorem owns_calm {A B : World} {base e size n : Nat} {v : Value} {xs : List Value} (h : A.ownsRow base e size v n xs) (hc : CalmW A B) : B.ownsRow base e size v n xs := by
  refine ⟨h.1, ?_⟩
  rcases h.2 with h2 | ⟨g, cap, cur, hv, hb, hh, r⟩
  · exact .inl h2
  · exact .inr ⟨g, cap, cur, hv, hb, hc.block _ _ hh rfl, r⟩
theorem FirI.calm {w A B : World} {M : Nat} {pre : List Ev} (h : FirI w M pre A) (hc : CalmW A B) (hb : Below w.heap.size A B) : FirI w M pre B := by
  obtain ⟨v, h1, h2, h3, h4, h5⟩ := h
  exact ⟨v, hc.block _ _ h1 rfl, hc.block _ _ h2 rfl, owns_calm h3 hc, fun x hx => (h4 x hx).calm hc, h5.trans hb⟩
/-- An event is put behind the others, in the variable's own memory. -/
theorem FirI.push {w B WN w1 : World} {M : Nat} {pre : List Ev} {x : Ev} {va a' : Option Addr} {vc c' : Nat} (hn : w1.heap[w.heap.size]? = some (.cells #[.int .i64 (M : Int)] 3 (0, 0))) (ho : w1.heap[w.heap.size + 1]? = some (.cells #[.slice va pre.length vc] 26 (0, 0)))
    (hown : w1.ownsRow w.heap.size 54 6 (.slice a' (pre.length + 1) c') (pre.length + 1) (pre.flatMap Ev.cells ++ x.cells)) (hownN : WN.ownsRow w.heap.size 54 6 (.slice va pre.length vc) pre.length (pre.flatMap Ev.cells))
    (hg : WN.grownBy w1 (Value.slice va pre.length vc).ownBlock) (hBN : Below B.heap.size B WN) (hB : Below w.heap.size w B) (hrd : ∀ y ∈ pre, y.Rd w.heap.size B) (hx : x.Rd w.heap.size B) :
    KeepB B (w1.setCell ⟨w.heap.size + 1, 0, none⟩ (.slice a' (pre.length + 1) c')) ∧ Below w.heap.size B (w1.setCell ⟨w.heap.size + 1, 0, none⟩ (.slice a' (pre.length + 1) c')) ∧ FirI w M (pre ++ [x]) (w1.setCell ⟨w.heap.size + 1, 0, none⟩ (.slice a' (pre.length + 1) c')) := by
  have hg2 : w1.grownBy (w1.setCell ⟨w.heap.size + 1, 0, none⟩ (.slice a' (pre.length + 1) c')) (some (w.heap.size + 1)) := grownBy_setCell' w1 (w.heap.size + 1) _
  have hBB : Below w.heap.size B (w1.setCell ⟨w.heap.size + 1, 0, none⟩ (.slice a' (pre.length + 1) c')) :=
    ((hBN.mono hB.size).grown hg (Nat.le_trans hB.size hBN.size) (fun k e => (hownN.lt k e).1)).grown hg2 (Nat.le_trans hB.size (Nat.le_trans hBN.size hg.size)) (fun k e => by cases e; exact Nat.le_succ _)
  have step : ∀ y : Ev, y.Rd w.heap.size B → y.Rd w.heap.size (w1.setCell ⟨w.heap.size + 1, 0, none⟩ (.slice a' (pre.length + 1) c')) := fun y hy => ((hy.below hBN).ownNe hownN (by decide) hg).typNe ho (by decide) hg2
  refine ⟨((KeepB.of_below hBN).trans (KeepB.of_own hownN hg)).trans (KeepB.of_grown hg2 ho rfl), hBB, _, row_grown hn hg2 (by intro e; simp at e), Boxed.set (t := 26) _ ho, ?_, ?_, hB.trans hBB⟩
  · have := owns_keep hown hg2 (.inr (fun e => own_typ hown ho (by decide) e.symm))
    rw [List.length_append, List.flatMap_append, List.flatMap_singleton]
    exact this
  · intro y hy
    rcases List.mem_append.1 hy with h | h
    · exact step y (hrd y h)
    · rw [List.mem_singleton.1 h]; exact step x hx
def FirMid (w : World) (M : Nat) (T : Nat → Value → Array Value) (pre : List Ev) (x : Ev) (a1 : Act) (B : World) : Prop :=
  ∃ z, a1 = { tmps := T z (.agg x.cells.toArray), defers := [] } ∧ B.heap[z]? = some (.cells x.cells.toArray 54 (0, 0)) ∧ w.heap.size + 1 < z ∧ FirI w M pre B ∧ pre.length < M ∧ x.Rd w.heap.size B

set_option maxHeartbeats 4000000 in
theorem firstYes (gf : Nat) (lb : Array Value) (S Sp : List Ev → Prop) (N : Int) (w : World) (eg : ∀ args w, (callFunc gf args).run Try.prog w = .ok (.enter gf args) w) (hN : 1 ≤ N) (hi : N ≤ 9223372036854775807) (hit : IterOK Try.prog gf lb (fun x : Ev => .agg x.cells.toArray) (fun x W => Ev.Rd w.heap.size W x) w.heap.size S Sp w) :
    Calls Try.prog 52 #[.func (.func gf) #[] lb, .int .i64 N] w (FirstR w S Sp (min N 64)) := by
  obtain ⟨M, hM⟩ : ∃ M : Nat, min N 64 = (M : Int) := ⟨(min N 64).toNat, by omega⟩
  have hM1 : 1 ≤ M ∧ M ≤ 64 := by omega
  rw [hM]
  have t0 : decide (N < 1) = false := by simpa using hN
  have t2 : decide ((64 : Int) < 1) = false := by decide
  by_cases h64 : 64 < N
  · have t1 : decide (64 < N) = true := by simpa using h64
    have h64m : (64 : Int) = (M : Int) := by omega
    have H64 := Lib.hid h64m
    have HM := Lib.hid hM
    clear h64m hM
    refine (callsIn_wide (n := 9)).1 ?_
    refine callsIn_of_wp_marks Try.func52 rfl trivial ?_ rfl
    simp only [Try.ntmps52, List.size_toArray, List.length_cons, List.length_nil, Nat.reduceAdd, Nat.reduceSub, Array.replicate_succ, Array.replicate_zero, List.push_toArray, List.append_toArray, List.nil_append, List.cons_append]
    gi_wp2
    rw [H64.out]
    obtain ⟨W1, hW1⟩ : ∃ W1, (w.alloc (.cells #[.int .i64 (M : Int)] 3)).alloc (.cells #[.slice none 0 0] 26) = W1 := ⟨_, rfl⟩
    have hB1 : Below w.heap.size w W1 := by rw [← hW1]; exact ((Below.refl _ _).alloc (Nat.le_refl _) _).alloc (by simp) _
    have hn1 : W1.heap[w.heap.size]? = some (.cells #[.int .i64 (M : Int)] 3 (0, 0)) := by rw [← hW1, Go.heap_alloc_old _ _ (by simp)]; exact heap_alloc_new w _
    have ho1 : W1.heap[w.heap.size + 1]? = some (.cells #[.slice none 0 0] 26 (0, 0)) := by
      have := heap_alloc_new (w.alloc (.cells #[.int .i64 (M : Int)] 3)) (.cells #[.slice none 0 0] 26)
      rw [hW1] at this
      simpa using this
    rw [hW1]
    clear hW1
    refine wpIn_rng (n := 9) (gf := gf) (lb := lb) rfl eg hit hB1 hB1.size (fun pre W => FirI w M pre W ∧ pre.length < M) (fun id pre W => id = 0 ∧ FirI w M pre W ∧ pre.length = M)
      (fun s A B h hc hb => ⟨h.1.calm hc hb, h.2⟩) (fun c s A B h hc hb => ⟨h.1, h.2.1.calm hc hb, h.2.2⟩) ⟨⟨_, hn1, ho1, World.ownsRow_nil _ _ _ _, (fun x hx => by cases hx), hB1⟩, by show 0 < M; omega⟩
      (FirMid w M (fun z y => #[.func (.func gf) #[] lb, .int .i64 N, undef, .pointer (some ⟨w.heap.size, 0, none⟩), .slice none 0 0, .pointer (some ⟨w.heap.size + 1, 0, none⟩), .pointer (some ⟨z, 0, none⟩), .int .i64 N, .int .i64 (M : Int), .int .i64 (M : Int), .bool false, .func (.func gf) #[] lb, y, undef, undef, undef, undef, undef, undef, undef, undef, undef])) ?hMid ?assign ?body ?done ?stop
    case hMid =>
      rintro pre x a1 B C ⟨z, h1, h2, h3, h4, h5, h6⟩ hc hb
      exact ⟨z, h1, hc.block _ _ h2 rfl, h3, h4.calm hc hb, h5, h6.calm hc⟩
    case assign =>
      rintro l pre x A ⟨hI, hlen⟩ hG
      have HI := Lib.hid hI
      have HG := Lib.hid hG
      obtain ⟨_, _, hob, _, _, hBA⟩ := hI
      have hlt := lt_of_get hob
      clear hG hob
      obtain ⟨st, su, v, p, u, sa, sn, sc, sl⟩ := x
      dsimp only [Ev.cells]
      gi_wp2
      have hBx : ∀ o, Below A.heap.size A (A.alloc o) := fun o => (Below.refl _ _).alloc (Nat.le_refl _) _
      exact ⟨KeepB.of_below (hBx _), (hBx _).mono (by omega), A.heap.size, rfl, heap_alloc_new A _, hlt, HI.out.calm (CalmW.of_below (hBx _)) ((hBx _).mono (by omega)), hlen, HG.out.calm (CalmW.of_below (hBx _))⟩
    case body =>
      rintro l pre x a1 B ⟨z, rfl, hz, hzlt, hI, hlen, hG⟩
      obtain ⟨v, hn, ho, hown, hrd, hB⟩ := hI
      obtain ⟨va, vc, rfl, hvc, _, _⟩ := owns_slice hown
      obtain ⟨i0, z0, hi0, hz0, hs0, hb0, hc0⟩ := evInfo_parts
      have cn : B.cell? ⟨w.heap.size, 0, none⟩ = some (.int .i64 (M : Int)) := cell_of_row B _ 0 _ _ _ hn
      have co : B.cell? ⟨w.heap.size + 1, 0, none⟩ = some (.slice va pre.length vc) := cell_of_row B _ 0 _ _ _ ho
      have q0 : B.cell? ⟨z, 0, none⟩ = some (.string x.st) := cell_of_row B _ 0 _ _ _ hz
      have q1 : B.cell? ⟨z, 1, none⟩ = some (.string x.su) := cell_of_row B _ 1 _ _ _ hz
      have q2 : B.cell? ⟨z, 2, none⟩ = some (.int .i64 x.v) := cell_of_row B _ 2 _ _ _ hz
      have q3 : B.cell? ⟨z, 3, none⟩ = some (.int .i64 x.p) := cell_of_row B _ 3 _ _ _ hz
      have q4 : B.cell? ⟨z, 4, none⟩ = some (.int .i64 x.u) := cell_of_row B _ 4 _ _ _ hz
      have q5 : B.cell? ⟨z, 5, none⟩ = some (.slice x.sa x.sn x.sc) := cell_of_row B _ 5 _ _ _ hz
      have HN1 := Lib.hid hn
      have HO1 := Lib.hid ho
      have HOWN := Lib.hid hown
      have HRD := Lib.hid hrd
      have HG := Lib.hid hG
      have HI0 := Lib.hid hi0
      have HZ0 := Lib.hid hz0
      have HC0 := Lib.hid hc0
      have hBs := hB.size
      have hlt1 := lt_of_get ho
      clear hn ho hown hrd hG hi0 hz0 hc0 hz HM
      dsimp only [Ev.cells]
      have hMM : pre.length + 1 = M ∨ pre.length + 1 < M := by omega
      have HMM := Lib.hid hMM
      clear hMM
      have hcells : ∀ t, ∀ (j : Nat) (u : Value), [Value.string x.st, .string x.su, .int .i64 x.v, .int .i64 x.p, .int .i64 x.u, .slice x.sa x.sn x.sc][j]? = some u → (B.alloc (.cells #[Value.string x.st, .string x.su, .int .i64 x.v, .int .i64 x.p, .int .i64 x.u, .slice x.sa x.sn x.sc] t)).cell? ((⟨B.heap.size, 0, none⟩ : Addr).add j) = some u := fun t => cells_new B _ t
      have HCE := Lib.hid hcells
      clear hcells
      gi_wp2_with (gi_at_builtin; refine Go.Shut.out ?_)
      unfold Go.Shut
      obtain ⟨WN, hWN⟩ : ∃ WN, B.alloc (.cells #[Value.string x.st, .string x.su, .int .i64 x.v, .int .i64 x.p, .int .i64 x.u, .slice x.sa x.sn x.sc] 54) = WN := ⟨_, rfl⟩
      have hBN : Below B.heap.size B WN := by rw [← hWN]; exact (Below.refl _ _).alloc (Nat.le_refl _) _
      have hownN : WN.ownsRow w.heap.size 54 6 (.slice va pre.length vc) pre.length (pre.flatMap Ev.cells) := by rw [← hWN]; exact HOWN.out.alloc _
      have hnN : WN.heap[w.heap.size]? = some (.cells #[.int .i64 (M : Int)] 3 (0, 0)) := by rw [← hWN]; exact row_alloc HN1.out _
      have hoN : WN.heap[w.heap.size + 1]? = some (.cells #[.slice va pre.length vc] 26 (0, 0)) := by rw [← hWN]; exact row_alloc HO1.out _
      have hcN : ∀ (j : Nat) (u : Value), [Value.string x.st, .string x.su, .int .i64 x.v, .int .i64 x.p, .int .i64 x.u, .slice x.sa x.sn x.sc][j]? = some u → WN.cell? ((⟨B.heap.size, 0, none⟩ : Addr).add j) = some u := by rw [← hWN]; exact cells_new B _ _
      have hsN : w.heap.size ≤ WN.heap.size := Nat.le_trans hBs hBN.size
      rw [hWN]
      refine wpListIn_append_own_at _ rfl _ _ _ rfl w.heap.size 54 i0 z0 6 80 Try.underlying26 HI0.out HZ0.out hs0 hb0 (by rw [HC0.out]; rfl) (by decide) (.slice va pre.length vc) pre.length _ rfl hownN ⟨B.heap.size, 0, none⟩ 1 1 _ rfl rfl hcN (by simp [Value.oneCell']) (by unfold maxLen; omega) (by omega) hsN ?_
      intro v' w1 hO' hg' _ hv'
      obtain ⟨a', c', rfl, hc', _, _⟩ := owns_slice hO'
      have hn2 := row_grown hnN hg' (own_typ hownN hnN (by decide))
      have ho2 := row_grown hoN hg' (own_typ hownN hoN (by decide))
      have cn2 := cell_of_row w1 _ 0 _ _ _ hn2
      have co2 := cell_of_row w1 _ 0 _ _ _ ho2
      have fo2 := frozen_of_row w1 (w.heap.size + 1) 0 _ _ ho2
      have HN2 := Lib.hid hn2
      have HO2 := Lib.hid ho2
      have HOWN2 := Lib.hid hO'
      have HOWNN := Lib.hid hownN
      have HGR2 := Lib.hid hg'
      clear hn2 ho2 hO' hg' hv' cn co hWN hownN hnN hoN hcN
      have HBN := Lib.hid hBN
      clear hBN
      rcases HMM.out with hm | hm
      · have tq : ((pre.length : Int) + 1 == (M : Int)) = true := by simp; omega
        have HM2 := Lib.hid hm
        clear hm
        gi_wp2
        obtain ⟨k1, k2, k3⟩ := FirI.push (x := x) HN2.out HO2.out HOWN2.out HOWNN.out HGR2.out HBN.out hB HRD.out HG.out
        exact ⟨k1, rfl, k3, by rw [List.length_append]; exact HM2.out⟩
      · have tq : ((pre.length : Int) + 1 == (M : Int)) = false := by simp; omega
        have HM2 := Lib.hid hm
        clear hm
        gi_wp2
        obtain ⟨k1, k2, k3⟩ := FirI.push (x := x) HN2.out HO2.out HOWN2.out HOWNN.out HGR2.out HBN.out hB HRD.out HG.out
        exact ⟨k1, k2, k3, by rw [List.length_append]; exact HM2.out⟩
    case done =>
      rintro D xs W hD hS ⟨⟨v, hn, ho, hown, hrd, hB⟩, hlen⟩ hK
      obtain ⟨va, vc, rfl, hvc, _, _⟩ := owns_slice hown
      have co : W.cell? ⟨w.heap.size + 1, 0, none⟩ = some (.slice va xs.length vc) := cell_of_row W _ 0 _ _ _ ho
      have HOWN := Lib.hid hown
      have HRD := Lib.hid hrd
      have HK := Lib.hid hK
      clear hn ho hown hrd hK HM
      gi_wp2
      refine ⟨by simp, .inl ⟨_, _, rfl, run_takeDeferred HK.out, _, results_tmp rfl _ _ _, ?_⟩⟩
      have hc := CalmW.putObj (l := D) (.deferred none) HK.out rfl
      exact ⟨xs, va, vc, rfl, hvc, owns_calm HOWN.out hc, fun x hx => (HRD.out x hx).calm hc, hB.trans (below_putObj _ _ (Nat.le_trans hB1.size hD)), .inr ⟨by omega, .inl ⟨hS, by omega⟩⟩⟩
    case stop =>
      rintro D id xs W hD hS ⟨rfl, ⟨v, hn, ho, hown, hrd, hB⟩, hlen⟩ hK
      obtain ⟨va, vc, rfl, hvc, _, _⟩ := owns_slice hown
      have co : W.cell? ⟨w.heap.size + 1, 0, none⟩ = some (.slice va xs.length vc) := cell_of_row W _ 0 _ _ _ ho
      have HOWN := Lib.hid hown
      have HRD := Lib.hid hrd
      have HK := Lib.hid hK
      have HLEN := Lib.hid hlen
      clear hn ho hown hrd hK HM hlen
      gi_wp2
      refine ⟨by simp, .inl ⟨_, _, rfl, run_takeDeferred HK.out, _, results_tmp rfl _ _ _, ?_⟩⟩
      have hc := CalmW.putObj (l := D) (.deferred none) HK.out rfl
      exact ⟨xs, va, vc, rfl, hvc, owns_calm HOWN.out hc, fun x hx => (HRD.out x hx).calm hc, hB.trans (below_putObj _ _ (Nat.le_trans hB1.size hD)), .inr ⟨by omega, .inr ⟨hS, by have := HLEN.out; omega⟩⟩⟩
  · have t1 : decide (64 < N) = false := by simpa using h64
    have hNM : N = (M : Int) := by omega
    have HM := Lib.hid hNM
    clear hNM hM
    refine (callsIn_wide (n := 9)).1 ?_
    refine callsIn_of_wp_marks Try.func52 rfl trivial ?_ rfl
    simp only [Try.ntmps52, List.size_toArray, List.length_cons, List.length_nil, Nat.reduceAdd, Nat.reduceSub, Array.replicate_succ, Array.replicate_zero, List.push_toArray, List.append_toArray, List.nil_append, List.cons_append]
    gi_wp2
    rw [HM.out]
    obtain ⟨W1, hW1⟩ : ∃ W1, (w.alloc (.cells #[.int .i64 (M : Int)] 3)).alloc (.cells #[.slice none 0 0] 26) = W1 := ⟨_, rfl⟩
    have hB1 : Below w.heap.size w W1 := by rw [← hW1]; exact ((Below.refl _ _).alloc (Nat.le_refl _) _).alloc (by simp) _
    have hn1 : W1.heap[w.heap.size]? = some (.cells #[.int .i64 (M : Int)] 3 (0, 0)) := by rw [← hW1, Go.heap_alloc_old _ _ (by simp)]; exact heap_alloc_new w _
    have ho1 : W1.heap[w.heap.size + 1]? = some (.cells #[.slice none 0 0] 26 (0, 0)) := by
      have := heap_alloc_new (w.alloc (.cells #[.int .i64 (M : Int)] 3)) (.cells #[.slice none 0 0] 26)
      rw [hW1] at this
      simpa using this
    rw [hW1]
    clear hW1
    refine wpIn_rng (n := 9) (gf := gf) (lb := lb) rfl eg hit hB1 hB1.size (fun pre W => FirI w M pre W ∧ pre.length < M) (fun id pre W => id = 0 ∧ FirI w M pre W ∧ pre.length = M)
      (fun s A B h hc hb => ⟨h.1.calm hc hb, h.2⟩) (fun c s A B h hc hb => ⟨h.1, h.2.1.calm hc hb, h.2.2⟩) ⟨⟨_, hn1, ho1, World.ownsRow_nil _ _ _ _, (fun x hx => by cases hx), hB1⟩, by show 0 < M; omega⟩
      (FirMid w M (fun z y => #[.func (.func gf) #[] lb, .int .i64 (M : Int), undef, .pointer (some ⟨w.heap.size, 0, none⟩), .slice none 0 0, .pointer (some ⟨w.heap.size + 1, 0, none⟩), .pointer (some ⟨z, 0, none⟩), .int .i64 (M : Int), .int .i64 (M : Int), .int .i64 (M : Int), .bool false, .func (.func gf) #[] lb, y, undef, undef, undef, undef, undef, undef, undef, undef, undef])) ?hMid ?assign ?body ?done ?stop
    case hMid =>
      rintro pre x a1 B C ⟨z, h1, h2, h3, h4, h5, h6⟩ hc hb
      exact ⟨z, h1, hc.block _ _ h2 rfl, h3, h4.calm hc hb, h5, h6.calm hc⟩
    case assign =>
      rintro l pre x A ⟨hI, hlen⟩ hG
      have HI := Lib.hid hI
      have HG := Lib.hid hG
      obtain ⟨_, _, hob, _, _, hBA⟩ := hI
      have hlt := lt_of_get hob
      clear hG hob
      obtain ⟨st, su, v, p, u, sa, sn, sc, sl⟩ := x
      dsimp only [Ev.cells]
      gi_wp2
      have hBx : ∀ o, Below A.heap.size A (A.alloc o) := fun o => (Below.refl _ _).alloc (Nat.le_refl _) _
      exact ⟨KeepB.of_below (hBx _), (hBx _).mono (by omega), A.heap.size, rfl, heap_alloc_new A _, hlt, HI.out.calm (CalmW.of_below (hBx _)) ((hBx _).mono (by omega)), hlen, HG.out.calm (CalmW.of_below (hBx _))⟩
    case body =>
      rintro l pre x a1 B ⟨z, rfl, hz, hzlt, hI, hlen, hG⟩
      obtain ⟨v, hn, ho, hown, hrd, hB⟩ := hI
      obtain ⟨va, vc, rfl, hvc, _, _⟩ := owns_slice hown
      obtain ⟨i0, z0, hi0, hz0, hs0, hb0, hc0⟩ := evInfo_parts
      have cn : B.cell? ⟨w.heap.size, 0, none⟩ = some (.int .i64 (M : Int)) := cell_of_row B _ 0 _ _ _ hn
      have co : B.cell? ⟨w.heap.size + 1, 0, none⟩ = some (.slice va pre.length vc) := cell_of_row B _ 0 _ _ _ ho
      have q0 : B.cell? ⟨z, 0, none⟩ = some (.string x.st) := cell_of_row B _ 0 _ _ _ hz
      have q1 : B.cell? ⟨z, 1, none⟩ = some (.string x.su) := cell_of_row B _ 1 _ _ _ hz
      have q2 : B.cell? ⟨z, 2, none⟩ = some (.int .i64 x.v) := cell_of_row B _ 2 _ _ _ hz
      have q3 : B.cell? ⟨z, 3, none⟩ = some (.int .i64 x.p) := cell_of_row B _ 3 _ _ _ hz
      have q4 : B.cell? ⟨z, 4, none⟩ = some (.int .i64 x.u) := cell_of_row B _ 4 _ _ _ hz
      have q5 : B.cell? ⟨z, 5, none⟩ = some (.slice x.sa x.sn x.sc) := cell_of_row B _ 5 _ _ _ hz
      have HN1 := Lib.hid hn
      have HO1 := Lib.hid ho
      have HOWN := Lib.hid hown
      have HRD := Lib.hid hrd
      have HG := Lib.hid hG
      have HI0 := Lib.hid hi0
      have HZ0 := Lib.hid hz0
      have HC0 := Lib.hid hc0
      have hBs := hB.size
      have hlt1 := lt_of_get ho
      clear hn ho hown hrd hG hi0 hz0 hc0 hz HM
      dsimp only [Ev.cells]
      have hMM : pre.length + 1 = M ∨ pre.length + 1 < M := by omega
      have HMM := Lib.hid hMM
      clear hMM
      have hcells : ∀ t, ∀ (j : Nat) (u : Value), [Value.string x.st, .string x.su, .int .i64 x.v, .int .i64 x.p, .int .i64 x.u, .slice x.sa x.sn x.sc][j]? = some u → (B.alloc (.cells #[Value.string x.st, .string x.su, .int .i64 x.v, .int .i64 x.p, .int .i64 x.u, .slice x.sa x.sn x.sc] t)).cell? ((⟨B.heap.size, 0, none⟩ : Addr).add j) = some u := fun t => cells_new B _ t
      have HCE := Lib.hid hcells
      clear hcells
      gi_wp2_with (gi_at_builtin; refine Go.Shut.out ?_)
      unfold Go.Shut
      obtain ⟨WN, hWN⟩ : ∃ WN, B.alloc (.cells #[Value.string x.st, .string x.su, .int .i64 x.v, .int .i64 x.p, .int .i64 x.u, .slice x.sa x.sn x.sc] 54) = WN := ⟨_, rfl⟩
      have hBN : Below B.heap.size B WN := by rw [← hWN]; exact (Below.refl _ _).alloc (Nat.le_refl _) _
      have hownN : WN.ownsRow w.heap.size 54 6 (.slice va pre.length vc) pre.length (pre.flatMap Ev.cells) := by rw [← hWN]; exact HOWN.out.alloc _
      have hnN : WN.heap[w.heap.size]? = some (.cells #[.int .i64 (M : Int)] 3 (0, 0)) := by rw [← hWN]; exact row_alloc HN1.out _
      have hoN : WN.heap[w.heap.size + 1]? = some (.cells #[.slice va pre.length vc] 26 (0, 0)) := by rw [← hWN]; exact row_alloc HO1.out _
      have hcN : ∀ (j : Nat) (u : Value), [Value.string x.st, .string x.su, .int .i64 x.v, .int .i64 x.p, .int .i64 x.u, .slice x.sa x.sn x.sc][j]? = some u → WN.cell? ((⟨B.heap.size, 0, none⟩ : Addr).add j) = some u := by rw [← hWN]; exact cells_new B _ _
      have hsN : w.heap.size ≤ WN.heap.size := Nat.le_trans hBs hBN.size
      rw [hWN]
      refine wpListIn_append_own_at _ rfl _ _ _ rfl w.heap.size 54 i0 z0 6 80 Try.underlying26 HI0.out HZ0.out hs0 hb0 (by rw [HC0.out]; rfl) (by decide) (.slice va pre.length vc) pre.length _ rfl hownN ⟨B.heap.size, 0, none⟩ 1 1 _ rfl rfl hcN (by simp [Value.oneCell']) (by unfold maxLen; omega) (by omega) hsN ?_
      intro v' w1 hO' hg' _ hv'
      obtain ⟨a', c', rfl, hc', _, _⟩ := owns_slice hO'
      have hn2 := row_grown hnN hg' (own_typ hownN hnN (by decide))
      have ho2 := row_grown hoN hg' (own_typ hownN hoN (by decide))
      have cn2 := cell_of_row w1 _ 0 _ _ _ hn2
      have co2 := cell_of_row w1 _ 0 _ _ _ ho2
      have fo2 := frozen_of_row w1 (w.heap.size + 1) 0 _ _ ho2
      have HN2 := Lib.hid hn2
      have HO2 := Lib.hid ho2
      have HOWN2 := Lib.hid hO'
      have HOWNN := Lib.hid hownN
      have HGR2 := Lib.hid hg'
      clear hn2 ho2 hO' hg' hv' cn co hWN hownN hnN hoN hcN
      have HBN := Lib.hid hBN
      clear hBN
      rcases HMM.out with hm | hm
      · have tq : ((pre.length : Int) + 1 == (M : Int)) = true := by simp; omega
        have HM2 := Lib.hid hm
        clear hm
        gi_wp2
        obtain ⟨k1, k2, k3⟩ := FirI.push (x := x) HN2.out HO2.out HOWN2.out HOWNN.out HGR2.out HBN.out hB HRD.out HG.out
        exact ⟨k1, rfl, k3, by rw [List.length_append]; exact HM2.out⟩
      · have tq : ((pre.length : Int) + 1 == (M : Int)) = false := by simp; omega
        have HM2 := Lib.hid hm
        clear hm
        gi_wp2
        obtain ⟨k1, k2, k3⟩ := FirI.push (x := x) HN2.out HO2.out HOWN2.out HOWNN.out HGR2.out HBN.out hB HRD.out HG.out
        exact ⟨k1, k2, k3, by rw [List.length_append]; exact HM2.out⟩
    case done =>
      rintro D xs W hD hS ⟨⟨v, hn, ho, hown, hrd, hB⟩, hlen⟩ hK
      obtain ⟨va, vc, rfl, hvc, _, _⟩ := owns_slice hown
      have co : W.cell? ⟨w.heap.size + 1, 0, none⟩ = some (.slice va xs.length vc) := cell_of_row W _ 0 _ _ _ ho
      have HOWN := Lib.hid hown
      have HRD := Lib.hid hrd
      have HK := Lib.hid hK
      clear hn ho hown hrd hK HM
      gi_wp2
      refine ⟨by simp, .inl ⟨_, _, rfl, run_takeDeferred HK.out, _, results_tmp rfl _ _ _, ?_⟩⟩
      have hc := CalmW.putObj (l := D) (.deferred none) HK.out rfl
      exact ⟨xs, va, vc, rfl, hvc, owns_calm HOWN.out hc, fun x hx => (HRD.out x hx).calm hc, hB.trans (below_putObj _ _ (Nat.le_trans hB1.size hD)), .inr ⟨by omega, .inl ⟨hS, by omega⟩⟩⟩
    case stop =>
      rintro D id xs W hD hS ⟨rfl, ⟨v, hn, ho, hown, hrd, hB⟩, hlen⟩ hK
      obtain ⟨va, vc, rfl, hvc, _, _⟩ := owns_slice hown
      have co : W.cell? ⟨w.heap.size + 1, 0, none⟩ = some (.slice va xs.length vc) := cell_of_row W _ 0 _ _ _ ho
      have HOWN := Lib.hid hown
      have HRD := Lib.hid hrd
      have HK := Lib.hid hK
      have HLEN := Lib.hid hlen
      clear hn ho hown hrd hK HM hlen
      gi_wp2
      refine ⟨by simp, .inl ⟨_, _, rfl, run_takeDeferred HK.out, _, results_tmp rfl _ _ _, ?_⟩⟩
      have hc := CalmW.putObj (l := D) (.deferred none) HK.out rfl
      exact ⟨xs, va, vc, rfl, hvc, owns_calm HOWN.out hc, fun x hx => (HRD.out x hx).calm hc, hB.trans (below_putObj _ _ (Nat.le_trans hB1.size hD)), .inr ⟨by omega, .inr ⟨hS, by have := HLEN.out; omega⟩⟩⟩

end Go.Proofs.Ythgaghpakioglaa
