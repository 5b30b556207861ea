/- What sealerylaw27.fed answers: a reader that was fed with pieces, all that it told. -/
import Derived.Test.YthgaghpakioglaaDoorWireBrk
import Derived.Test.YthgaghpakioglaaDoorNested
namespace Go.Proofs.YthgaghpakioglaaDoor
set_option linter.unusedSimpArgs false
set_option linter.unusedVariables false
open Go.RowKit
set_option maxRecDepth 10000

/-- What is told of more bytes. -/
theorem tell_append_no (x y : List UInt8) (h : (tell x).2.2 = false) : tell (x ++ y) = ((tell x).1 ++ (tell ((tell x).2.1 ++ y)).1, (tell ((tell x).2.1 ++ y)).2) := by
  have key : ∀ (k : Nat) (x : List UInt8), x.length ≤ k → (tell x).2.2 = false → tell (x ++ y) = ((tell x).1 ++ (tell ((tell x).2.1 ++ y)).1, (tell ((tell x).2.1 ++ y)).2) := by
    intro k
    induction k with
    | zero =>
      intro x hx _
      obtain rfl : x = [] := List.eq_nil_of_length_eq_zero (by omega)
      rfl
    | succ k ih =>
      intro x hx h
      cases hn : next1 x with
      | none =>
        rw [tell_none hn] at h ⊢
        rw [show stuck x = false from h]
        rfl
      | some r =>
        obtain ⟨b, m⟩ := r
        have hless := next1_less hn
        obtain ⟨h1, h2⟩ := next1_form hn
        rw [tell_some hn] at h ⊢
        have hx2 : next1 (x ++ y) = some (b, m ++ y) := by rw [h1, List.append_assoc]; exact next1_parcel b _ h2
        rw [tell_some hx2, ih m (by omega) h]
        rfl
  exact key x.length x (Nat.le_refl _) h
theorem stuck_append {x : List UInt8} (y : List UInt8) (h : stuck x = true) : next1 (x ++ y) = none ∧ stuck (x ++ y) = true := by
  have h4 := next1_none h
  obtain ⟨d0, d1, d2, d3, m, rfl⟩ := four h4
  have hm : mayB (num4 [d0, d1, d2, d3]) = false := by
    unfold stuck at h
    rw [Bool.and_eq_true, show (d0 :: d1 :: d2 :: d3 :: m).take 4 = [d0, d1, d2, d3] from rfl] at h
    simpa using h.2
  have ht : (d0 :: d1 :: d2 :: d3 :: m ++ y).take 4 = [d0, d1, d2, d3] := rfl
  constructor
  · unfold next1
    rw [ht, if_neg]
    rintro ⟨_, h2, _⟩
    rw [hm] at h2
    cases h2
  · unfold stuck
    rw [ht, hm, decide_eq_true (by simp)]
    rfl
theorem tell_append_yes (x y : List UInt8) (h : (tell x).2.2 = true) : tell (x ++ y) = tell x := by
  have key : ∀ (k : Nat) (x : List UInt8), x.length ≤ k → (tell x).2.2 = true → tell (x ++ y) = tell x := by
    intro k
    induction k with
    | zero =>
      intro x hx h
      obtain rfl : x = [] := List.eq_nil_of_length_eq_zero (by omega)
      cases h
    | succ k ih =>
      intro x hx h
      cases hn : next1 x with
      | none =>
        rw [tell_none hn] at h ⊢
        have hs : stuck x = true := h
        obtain ⟨q1, q2⟩ := stuck_append y hs
        rw [tell_none q1, q2, hs]
        rfl
      | some r =>
        obtain ⟨b, m⟩ := r
        have hless := next1_less hn
        obtain ⟨h1, h2⟩ := next1_form hn
        rw [tell_some hn] at h ⊢
        have hx2 : next1 (x ++ y) = some (b, m ++ y) := by rw [h1, List.append_assoc]; exact next1_parcel b _ h2
        rw [tell_some hx2, ih m (by omega) h]
  exact key x.length x (Nat.le_refl _) h

/-- What a reader tells that stands in front of R. -/
def toldS (R : List UInt8) (br : Bool) : List (List UInt8) × List UInt8 × Bool := if br then ([], [], true) else tell R
theorem tell_step (P x : List UInt8) : tell (P ++ x) = ((tell P).1 ++ (toldS (if (tell P).2.2 then (tell P).2.1 else (tell P).2.1 ++ x) (tell P).2.2).1, (toldS (if (tell P).2.2 then (tell P).2.1 else (tell P).2.1 ++ x) (tell P).2.2).2) := by
  cases h : (tell P).2.2 with
  | true =>
    rw [tell_append_yes P x h]
    have hF := (tell_form P).eq
    obtain ⟨m, _, _, h3⟩ := hF
    have := (h3 h).2
    unfold toldS
    rw [if_pos rfl]
    simp only [List.append_nil]
    rw [← this, ← h]
  | false =>
    rw [tell_append_no P x h]
    rfl
theorem tell_rest_le (P : List UInt8) : (tell P).2.1.length ≤ P.length := by
  obtain ⟨m, h1, h2, h3⟩ := (tell_form P).eq
  have hl := congrArg List.length h1
  rw [List.length_append] at hl
  cases h : (tell P).2.2 with
  | true => rw [(h3 h).2]; simp
  | false => rw [← h2 h]; omega
theorem tell_many_le (P : List UInt8) : (tell P).1.length ≤ P.length := by
  obtain ⟨m, h1, _⟩ := (tell_form P).eq
  have hl := congrArg List.length h1
  rw [List.length_append] at hl
  have := flat_count (tell P).1
  omega

set_option maxHeartbeats 1000000 in
theorem toldBroken (g : Nat) (r : Option Nat) (l : List UInt8) (w : World) (h : In w g r l true) :
    Calls Tryd.prog 19 #[.pointer (some ⟨g, 0, none⟩)] w fun e w' => e = .returned (.tuple #[.slice none 0 0, .int .i64 5]) ∧ In w' g r [] true ∧ w.grownBy w' (some g) := by
  have HI := Lib.hid h; clear h
  go_enter Tryd.func19, Tryd.ntmps19
  (repeat' ((fail_if_success at_builtin); first | go_values | go_skip | go_guarded | go_step | go_upon))
  go_loopw [4] (fun o wr => o = .slice none 0 0 ∧ wr = w) (fun o _ => 0)
  case atStart => exact ⟨rfl, rfl⟩
  case round =>
    obtain ⟨rfl, rfl⟩ := hrel
    (repeat' ((fail_if_success at_builtin); first | go_values | go_skip | go_guarded | go_step | go_upon))
    refine (inNextBroken g r l wr HI.out).mono ?_
    rintro _ w2 ⟨rfl, hi2, hg2⟩
    dsimp only
    have HI2 := Lib.hid hi2; clear hi2
    have HG2 := Lib.hid hg2; clear hg2
    (repeat' ((fail_if_success at_builtin); first | go_values | go_skip | go_guarded | go_step | go_upon))
    go_ret2
    exact ⟨rfl, HI2.out, HG2.out⟩

/-- A reader, and what it told. -/
structure RdSt (B : Nat) (w : World) (g : Nat) (r : Option Nat) (v : Value) (ps : List Pc) (R : List UInt8) (br : Bool) : Prop where
  own : w.ownsRow B 22 1 v ps.length (ps.map Pc.cell)
  ok : ∀ p ∈ ps, p.Ok w ∧ p.Off (fun j => j = g ∨ r = some j ∨ j < B)
  rdr : In w g r R br
  low1 : B ≤ g
  low2 : ∀ k, r = some k → B ≤ k
  size : B ≤ w.heap.size

theorem In.types {w : World} {g : Nat} {r : Option Nat} {l : List UInt8} {br : Bool} (h : In w g r l br) {b : Nat} {c : Array Value} {fr : Nat × Nat} (hb : w.heap[b]? = some (.cells c 22 fr)) : b ≠ g ∧ r ≠ some b := by
  obtain ⟨_, _, _, _, _, h1, _, _, _, _, h6, _⟩ := h.out
  refine ⟨fun e => ?_, fun e => ?_⟩
  · subst e; rw [hb] at h1; cases h1
  · have := (h6 b e).2.1
    rw [hb] at this
    cases this

/-- A row of rows, while others turn. -/
theorem owns_in {w w' : World} {base g : Nat} {v : Value} {n : Nat} {xs : List Value} {r : Option Nat} {l : List UInt8} {br : Bool} {S : Nat → Prop} (h : w.ownsRow base 22 1 v n xs) (hi : In w g r l br) (hS : ∀ k, S k → k = g ∨ r = some k) (hF : Frm w.heap.size S w w') : w'.ownsRow base 22 1 v n xs := by
  refine ⟨h.1, ?_⟩
  rcases h.2 with h2 | ⟨g', cap, cur, hv, hg', hh, q⟩
  · exact .inl h2
  · obtain ⟨n1, n2⟩ := hi.types hh
    refine .inr ⟨g', cap, cur, hv, hg', ?_, q⟩
    rw [hF.block g' (Array.getElem?_eq_some_iff.1 hh).1 (fun hs => by
      rcases hS _ hs with h | h
      · exact n1 h
      · exact n2 h)]
    exact hh

theorem feedSt {B g : Nat} {r : Option Nat} {v : Value} {ps : List Pc} {R : List UInt8} {br : Bool} {w : World} (h : RdSt B w g r v ps R br) (b : Option Addr) (n1 c1 : Nat) (x : List UInt8) (hb : RdB w b x) (e1 : x.length = n1) (hold : 0 < x.length → ∀ blk o, b = some ⟨blk, o, none⟩ → blk < B) (hbig : R.length + n1 ≤ 1000000) :
    Calls Tryd.prog 18 #[.pointer (some ⟨g, 0, none⟩), .slice b n1 c1] w fun e w' => e = .returned (.tuple #[]) ∧ ∃ r', RdSt B w' g r' v ps (if br then R else R ++ x) br ∧ Below B w w' := by
  cases br with
  | true =>
    refine (inFeedBroken g r R b n1 c1 w h.rdr).mono ?_
    rintro _ _ ⟨rfl, rfl⟩
    exact ⟨rfl, r, h, Below.refl _ _⟩
  | false =>
    refine (inFeed g r R b n1 c1 x w h.rdr hb e1 (fun h0 blk o e => ?_) hbig).mono ?_
    · have hlt := hold h0 blk o e
      have h1 := h.low1
      refine ⟨by omega, fun e2 => ?_⟩
      have := h.low2 _ e2
      omega
    · rintro _ w' ⟨rfl, r', hi', hn, hf⟩
      refine ⟨rfl, r', ⟨owns_in h.own h.rdr (fun k hk => hk) hf, fun p hp => ?_, hi', h.low1, fun k e => ?_, Nat.le_trans h.size hf.size⟩, frm_below hf h.low1 h.low2 h.size⟩
      · obtain ⟨h1, h2⟩ := h.ok p hp
        refine ⟨h1.frm (fun h0 bb o e hk => h2 h0 bb o e (by rcases hk with hk | hk; exact Or.inl hk; exact Or.inr (Or.inl hk))) hf, fun h0 bb o e hk => ?_⟩
        rcases hk with hk | hk | hk
        · exact h2 h0 bb o e (Or.inl hk)
        · rcases hn with hn | ⟨k', hn, hk'⟩
          · rw [hn] at hk
            exact h2 h0 bb o e (Or.inr (Or.inl hk))
          · rw [hn] at hk
            have e3 := Option.some.inj hk
            obtain ⟨b', o', e', hlt⟩ := h1.rd.lt (by rw [bvs_length]; exact h0)
            rw [e] at e'
            cases e'
            omega
        · exact h2 h0 bb o e (Or.inr (Or.inr hk))
      · rcases hn with hn | ⟨k', hn, hk'⟩
        · rw [hn] at e; exact h.low2 k e
        · rw [hn] at e
          have := Option.some.inj e
          have := h.size
          omega

/-- What told answered: the bodies, each in memory of its own. -/
structure Got (w w' : World) (a : Option Addr) (c : Nat) (qs : List Pc) : Prop where
  cap : qs.length ≤ c
  own : w'.ownsRow w.heap.size 22 1 (.slice a qs.length c) qs.length (qs.map Pc.cell)
  ok : ∀ q ∈ qs, q.Ok w' ∧ q.Off (fun j => j < w.heap.size)

theorem toldSt {B g : Nat} {r : Option Nat} {v : Value} {ps : List Pc} {R : List UInt8} {br : Bool} {w : World} (h : RdSt B w g r v ps R br) (hl : R.length ≤ 80000) :
    Calls Tryd.prog 19 #[.pointer (some ⟨g, 0, none⟩)] w fun e w' => ∃ (a : Option Addr) (c : Nat) (qs : List Pc), e = .returned (.tuple #[.slice a qs.length c, .int .i64 (if (toldS R br).2.2 then 5 else 0)]) ∧ RdSt B w' g r v ps (toldS R br).2.1 (toldS R br).2.2 ∧ Got w w' a c qs ∧ qs.map (·.l) = (toldS R br).1 ∧ Below B w w' := by
  have hglt := h.rdr.lt
  have key : ∀ (w' : World) (R2 : List UInt8) (br2 : Bool), In w' g r R2 br2 → Frm w.heap.size (fun j => j = g) w w' → RdSt B w' g r v ps R2 br2 ∧ Below B w w' := by
    intro w' R2 br2 hi hf
    refine ⟨⟨owns_in h.own h.rdr (fun k hk => Or.inl hk) hf, fun p hp => ?_, hi, h.low1, h.low2, Nat.le_trans h.size hf.size⟩, frm_below (r := r) (hf.mono (Nat.le_refl _) (fun k _ h => Or.inl h)) h.low1 h.low2 h.size⟩
    obtain ⟨h1, h2⟩ := h.ok p hp
    exact ⟨h1.frm (fun h0 bb o e hk => h2 h0 bb o e (Or.inl hk)) hf, h2⟩
  cases br with
  | true =>
    refine (toldBroken g r R w h.rdr).mono ?_
    rintro _ w' ⟨rfl, hi, hg⟩
    obtain ⟨k1, k2⟩ := key w' [] true hi ((Frm.refl _ _ _).grown hg (Nat.le_refl _) (fun k e _ => by cases e; rfl))
    exact ⟨none, 0, [], rfl, k1, ⟨Nat.le_refl _, World.ownsRow_nil _ _ _ _, fun q hq => by cases hq⟩, rfl, k2⟩
  | false =>
    refine (toldIn g r R w h.rdr hl).mono ?_
    rintro _ w' ⟨a, c, qs, rfl, h1, h2, h3, h4, h5, h6⟩
    obtain ⟨k1, k2⟩ := key w' _ _ h5 h6
    exact ⟨a, c, qs, rfl, k1, ⟨h1, h2, h3⟩, h4, k2⟩

theorem pcs_oneCell (ps : List Pc) : ∀ u ∈ ps.map Pc.cell, u.oneCell' = true := by
  intro u hu
  obtain ⟨p, _, rfl⟩ := List.mem_map.1 hu
  rfl

theorem told_app2 {w2 w3 : World} {v : Value} {base n : Nat} {xs : List Value} {g : Nat} {r : Option Nat} {m : List UInt8} {br : Bool} (hg3 : w2.grownBy w3 v.ownBlock) (hO : w2.ownsRow base 22 1 v n xs) (hi : In w2 g r m br) :
    In w3 g r m br ∧ ∀ p : Pc, p.Ok w2 → p.Ok w3 := by
  have hne : ∀ (b : Nat) (c : Array Value) (t : TypeId) (fr : Nat × Nat), w2.heap[b]? = some (Obj.cells c t fr) → t ≠ 22 → w3.heap[b]? = w2.heap[b]? := by
    intro b c t fr hh ht
    refine hg3.block b (Array.getElem?_eq_some_iff.1 hh).1 (fun e => ?_)
    rcases hO.2 with ⟨rfl, _⟩ | ⟨g', cap, cur, rfl, _, hh', _⟩
    · cases e
    · have e2 : g' = b := (Option.some.inj e).symm
      rw [e2, hh] at hh'
      cases hh'
      exact ht rfl
  refine ⟨hi.keeps ?_ ?_, fun p hp => ?_⟩
  · obtain ⟨_, _, _, _, _, h1, _⟩ := hi.out
    exact hne g _ _ _ h1 (by decide)
  · intro k e
    obtain ⟨_, _, _, _, _, _, _, _, _, _, h6, _⟩ := hi.out
    exact hne k _ _ _ (h6 k e).2.1 (by decide)
  · refine ⟨hp.len, hp.fits, ?_, fun h0 => ?_⟩
    · by_cases h0 : 0 < p.n
      · obtain ⟨b, off, cs, fr, ha, hh⟩ := hp.typ h0
        exact RdC.congr hp.rd (fun bb oo e _ => by
          rw [ha] at e
          cases e
          exact hne b _ _ _ hh (by decide))
      · have hl : p.l = [] := List.eq_nil_of_length_eq_zero (by have := hp.len; omega)
        rw [hl]; exact RdC.nil _ _
    · obtain ⟨b, off, cs, fr, ha, hh⟩ := hp.typ h0
      exact ⟨b, off, cs, fr, ha, (hne b _ _ _ hh (by decide)).trans hh⟩

/-- 'append(out, l...)'. -/
theorem appSt {B g : Nat} {r : Option Nat} {v : Value} {ps qs : List Pc} {R : List UInt8} {br : Bool} {w0 w : World} {xa : Option Addr} {c : Nat} (hst : RdSt B w g r v ps R br) (hq : Got w0 w xa c qs) (hw0 : g < w0.heap.size ∧ B ≤ w0.heap.size) (hr0 : ∀ k, r = some k → k < w0.heap.size)
    {ops : Array Oper} {rest : List Oper} {o : Oper} {a : Act} {Q : Exit → Act → World → Prop} (hgd : o.guard = none) (s x : Operand)
    (ho : o.op = .call { callee := .builtin .append, args := #[s, x], argTypes := #[31, 31] })
    (hsv : a.eval s = v) (hxv : a.eval x = .slice xa qs.length c) (hb : ps.length + qs.length ≤ 1000000)
    (h : ∀ v' w', RdSt B w' g r v' (ps ++ qs) R br → Below B w w' → wpList Tryd.prog ops Q rest (a.put o.dst v') w') :
    wpList Tryd.prog ops Q (o :: rest) a w := by
  obtain ⟨i0, hi, hz0, hz1, hz2⟩ := info_parts sliceInfo
  refine wpList_app w hgd s x 31 31 ho B 22 i0 _ 1 24 Tryd.underlying31 hi hz0 hz1 hz2 rfl v ps.length (ps.map Pc.cell) hsv hst.own _ hxv qs.length (qs.map Pc.cell) (src_of_rdc Tryd.underlying31 (rdc_of_owns hq.own) (by simp) (pcs_oneCell qs)) (by unfold maxLen; omega) (by omega) hst.size ?_
  intro v' w' hO hg
  obtain ⟨t1, t2⟩ := told_app2 hg hst.own hst.rdr
  refine h v' w' ⟨by rw [List.length_append, List.map_append]; exact hO, fun p hp => ?_, t1, hst.low1, hst.low2, Nat.le_trans hst.size hg.size⟩ ((Below.refl _ _).grown hg hst.size (fun k e => (hst.own.lt k e).1))
  rcases List.mem_append.1 hp with hp | hp
  · exact ⟨t2 p (hst.ok p hp).1, (hst.ok p hp).2⟩
  · refine ⟨t2 p (hq.ok p hp).1, fun h0 b o e hk => (hq.ok p hp).2 h0 b o e ?_⟩
    show b < w0.heap.size
    rcases hk with hk | hk | hk
    · omega
    · exact hr0 b hk
    · omega

end Go.Proofs.YthgaghpakioglaaDoor
