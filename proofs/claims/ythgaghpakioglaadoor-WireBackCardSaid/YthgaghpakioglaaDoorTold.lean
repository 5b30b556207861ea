/- What sealerylaw27.told answers: all bodies that a reader tells. -/
import Derived.Test.YthgaghpakioglaaDoorWorks27
import Derived.Test.YthgaghpakioglaaDoorTell
namespace Go.Proofs.YthgaghpakioglaaDoor
set_option linter.unusedSimpArgs false
set_option linter.unusedVariables false
open Go.RowKit
set_option maxRecDepth 10000

theorem typ_frm {w w' : World} {S : Nat → Prop} {e : TypeId} {a : Option Addr} {n : Nat} (h : Typ w e a n) (ho : 0 < n → ∀ b o, a = some ⟨b, o, none⟩ → ¬ S b) (hF : Frm w.heap.size S w w') : Typ w' e a n := fun h0 => by
  obtain ⟨b, off, cs, fr, ha, hh⟩ := h h0
  exact ⟨b, off, cs, fr, ha, (hF.block b (Array.getElem?_eq_some_iff.1 hh).1 (ho h0 b off ha)).trans hh⟩

/-- Bytes in memory. -/
structure Pc where
  a : Option Addr
  n : Nat
  c : Nat
  l : List UInt8
def Pc.cell (p : Pc) : Value := .slice p.a p.n p.c
structure Pc.Ok (w : World) (p : Pc) : Prop where
  len : p.l.length = p.n
  fits : p.n ≤ p.c
  rd : RdB w p.a p.l
  typ : Typ w 5 p.a p.n
/-- Its memory is no block of the set. -/
def Pc.Off (S : Nat → Prop) (p : Pc) : Prop := 0 < p.l.length → ∀ b o, p.a = some ⟨b, o, none⟩ → ¬ S b
theorem Pc.Ok.frm {w w' : World} {S : Nat → Prop} {p : Pc} (h : p.Ok w) (ho : p.Off S) (hF : Frm w.heap.size S w w') : p.Ok w' := ⟨h.len, h.fits, rd_frm h.rd ho hF, typ_frm h.typ (fun h0 => ho (by rw [h.len]; exact h0)) hF⟩

theorem sliceInfo : (Tryd.prog.info? 22).map (fun i => (i.zero, i.size, i.bytes)) = some (some (.slice none 0 0), 1, 24) := by kernel_rfl

def lenOf : Value → Nat | .slice _ n _ => n | _ => 0

structure ToldRel (w : World) (g : Nat) (r : Option Nat) (l : List UInt8) (o : Value) (wr : World) : Prop where
  out : ∃ (ps : List Pc) (rest : List UInt8), wr.ownsRow w.heap.size 22 1 o ps.length (ps.map Pc.cell) ∧ (∀ p ∈ ps, p.Ok wr ∧ p.Off (fun j => j < w.heap.size)) ∧ In wr g r rest false ∧ tell l = (ps.map (·.l) ++ (tell rest).1, (tell rest).2) ∧ 5 * ps.length + rest.length ≤ l.length ∧
    Frm w.heap.size (fun j => j = g) w wr

theorem owns_frmB {w w' : World} {base e size g : Nat} {v : Value} {n : Nat} {xs : List Value} (h : w.ownsRow base e size v n xs) (hF : Frm w.heap.size (fun k => k = g) w w') (hg : g < base) : w'.ownsRow base e size v n xs := by
  refine ⟨h.1, ?_⟩
  rcases h.2 with h2 | ⟨g', cap, cur, hv, hg', hh, r⟩
  · exact .inl h2
  · exact .inr ⟨g', cap, cur, hv, hg', by rw [hF.block g' (Array.getElem?_eq_some_iff.1 hh).1 (by omega)]; exact hh, r⟩

theorem told_next {w wr w2 : World} {g : Nat} {ps : List Pc} {o : Value} (hg : g < w.heap.size) (hO : wr.ownsRow w.heap.size 22 1 o ps.length (ps.map Pc.cell)) (hps : ∀ p ∈ ps, p.Ok wr ∧ p.Off (fun j => j < w.heap.size)) (hF : Frm w.heap.size (fun j => j = g) w wr) (h2 : Frm wr.heap.size (fun j => j = g) wr w2) :
    w2.ownsRow w.heap.size 22 1 o ps.length (ps.map Pc.cell) ∧ (∀ p ∈ ps, p.Ok w2 ∧ p.Off (fun j => j < w.heap.size)) ∧ Frm w.heap.size (fun j => j = g) w w2 :=
  ⟨owns_frmB hO h2 hg, fun p hp => ⟨(hps p hp).1.frm (fun h0 b o' e hb => (hps p hp).2 h0 b o' e (by rw [hb]; exact hg)) h2, (hps p hp).2⟩, hF.trans (h2.mono hF.size (fun _ _ h => h))⟩

/-- The list of the bodies turns; the reader and the bodies do not. -/
theorem told_app {w2 w3 : World} {v : Value} {base n : Nat} {xs : List Value} {g : Nat} {r : Option Nat} {m : List UInt8} (hg3 : w2.grownBy w3 v.ownBlock) (hO : w2.ownsRow base 22 1 v n xs) (hi : In w2 g r m false) :
    In w3 g r m false ∧ ∀ p : Pc, p.Ok w2 → p.Ok w3 := by
  have hne : ∀ (b : Nat) (c : Array Value) (t : TypeId) (fr : Nat × Nat), w2.heap[b]? = some (Obj.cells c t fr) → t ≠ 22 → w3.heap[b]? = w2.heap[b]? := by
    intro b c t fr hh ht
    refine hg3.block b (Array.getElem?_eq_some_iff.1 hh).1 (fun e => ?_)
    rcases hO.2 with ⟨rfl, _⟩ | ⟨g', cap, cur, rfl, _, hh', _⟩
    · cases e
    · have e2 : g' = b := (Option.some.inj e).symm
      rw [e2, hh] at hh'
      cases hh'
      exact ht rfl
  refine ⟨hi.keeps ?_ ?_, fun p hp => ?_⟩
  · obtain ⟨_, _, _, _, _, h1, _⟩ := hi.out
    exact hne g _ _ _ h1 (by decide)
  · intro k e
    obtain ⟨_, _, _, _, _, _, _, _, _, _, h6, _⟩ := hi.out
    exact hne k _ _ _ (h6 k e).2.1 (by decide)
  · refine ⟨hp.len, hp.fits, ?_, fun h0 => ?_⟩
    · by_cases h0 : 0 < p.n
      · obtain ⟨b, off, cs, fr, ha, hh⟩ := hp.typ h0
        exact RdC.congr hp.rd (fun bb oo e _ => by
          rw [ha] at e
          cases e
          exact hne b _ _ _ hh (by decide))
      · have hl : p.l = [] := List.eq_nil_of_length_eq_zero (by have := hp.len; omega)
        rw [hl]; exact RdC.nil _ _
    · obtain ⟨b, off, cs, fr, ha, hh⟩ := hp.typ h0
      exact ⟨b, off, cs, fr, ha, (hne b _ _ _ hh (by decide)).trans hh⟩

/-- 'append(out, b)' of bytes. -/
theorem appPc (w : World) (p : Pc) {ops : Array Oper} {rest : List Oper} {o : Oper} {a : Act} {Q : Exit → Act → World → Prop} (hgd : o.guard = none) (s y : Operand)
    (ho : o.op = .call { callee := .builtin .append, args := #[s, y], argTypes := #[31, 31] })
    (base : Nat) (v : Value) (n : Nat) (xs : List Value) (hsv : a.eval s = v) (hown : w.ownsRow base 22 1 v n xs)
    (hxv : a.eval y = .slice (some ⟨w.heap.size, 0, none⟩) 1 1) (hb : n ≤ 1000000) (hbase : base ≤ w.heap.size)
    (h : ∀ v' w', w'.ownsRow base 22 1 v' (n + 1) (xs ++ [p.cell]) → w.grownBy w' v.ownBlock → wpList Tryd.prog ops Q rest (a.put o.dst v') w') :
    wpList Tryd.prog ops Q (o :: rest) a (w.alloc (.cells #[p.cell] 22)) := by
  obtain ⟨i0, hi, hz0, hz1, hz2⟩ := info_parts sliceInfo
  have hc := cell_one_new w p.cell 22 0 _ rfl
  refine wpList_app _ hgd s y 31 31 ho base 22 i0 _ 1 24 Tryd.underlying31 hi hz0 hz1 hz2 rfl v n xs hsv (hown.alloc _) _ hxv 1 [p.cell] (Src.ofSlice _ Tryd.underlying31 _ 1 1 _ rfl (by intro j u hj; cases j with | zero => simp at hj; subst hj; exact hc | succ j => simp at hj) (by simp [Value.oneCell', Pc.cell])) (by unfold maxLen; omega) (by omega) (by simp; omega) ?_
  intro v' w' h1 h2
  exact h v' w' h1 ((World.grownBy_alloc w _ _).trans h2)

set_option maxHeartbeats 4000000 in
theorem toldIn (g : Nat) (r : Option Nat) (l : List UInt8) (w : World) (h : In w g r l false) (hl : l.length ≤ 80000) :
    Calls Tryd.prog 19 #[.pointer (some ⟨g, 0, none⟩)] w fun e w' => ∃ (a : Option Addr) (c : Nat) (ps : List Pc), e = .returned (.tuple #[.slice a ps.length c, .int .i64 (if (tell l).2.2 then 5 else 0)]) ∧ ps.length ≤ c ∧ w'.ownsRow w.heap.size 22 1 (.slice a ps.length c) ps.length (ps.map Pc.cell) ∧
      (∀ p ∈ ps, p.Ok w' ∧ p.Off (fun j => j < w.heap.size)) ∧ ps.map (·.l) = (tell l).1 ∧ In w' g r (tell l).2.1 (tell l).2.2 ∧ Frm w.heap.size (fun j => j = g) w w' := by
  have hglt := h.lt
  have HI := Lib.hid h; clear h
  go_enter Tryd.func19, Tryd.ntmps19
  (repeat' ((fail_if_success at_builtin); first | go_values | go_skip | go_guarded | go_step | go_upon))
  go_loopw [4] (fun o wr => ToldRel w g r l o wr) (fun o _ => 80000 - lenOf o)
  case atStart => exact ⟨⟨[], l, by exact World.ownsRow_nil _ _ _ _, (fun p hp => by cases hp), HI.out, rfl, by show 5 * 0 + l.length ≤ l.length; omega, Frm.refl _ _ _⟩⟩
  case round =>
    obtain ⟨⟨ps, rest, hO, hps, hin, htell, hcnt, hF⟩⟩ := hrel
    obtain ⟨a0, c0, rfl, hc0, _, _⟩ := owns_slice hO
    have t1 : decide ((ps.length : Int) < 16384) = true := by simp; omega
    have HO := Lib.hid hO; clear hO
    have HPS := Lib.hid hps; clear hps
    have HIN := Lib.hid hin; clear hin
    have HT := Lib.hid htell; clear htell
    have HF := Lib.hid hF; clear hF
    (repeat' ((fail_if_success at_builtin); first | go_values | go_skip | go_guarded | go_step | go_upon))
    cases hn : next1 rest with
    | none =>
      have HN := Lib.hid hn; clear hn
      by_cases h4 : rest.length < 4
      · have hst : stuck rest = false := by unfold stuck; rw [decide_eq_false (by omega)]; rfl
        have HST := Lib.hid hst; clear hst
        refine (inNextShort g r rest wr HIN.out h4).mono ?_
        rintro _ w2 ⟨rfl, hs2⟩
        dsimp only
        have HF2 := Lib.hid (show Frm wr.heap.size (fun j => j = g) wr w2 from Frm.ofBelow (hs2.below _))
        have HI2 := Lib.hid (show In w2 g r rest false from HIN.out.below (hs2.below _))
        clear hs2
        (repeat' ((fail_if_success at_builtin); first | go_values | go_skip | go_guarded | go_step | go_upon))
        go_ret2
        obtain ⟨q1, q2, q3⟩ := told_next hglt HO.out HPS.out HF.out HF2.out
        rw [tell_none HN.out] at HT
        refine ⟨a0, c0, ps, by rw [HT.out, HST.out]; rfl, hc0, q1, q2, ?_, ?_, q3⟩
        · rw [HT.out]; simp
        · rw [HT.out]; exact by rw [HST.out]; exact HI2.out
      · obtain ⟨d0, d1, d2, d3, m, rfl⟩ := four (l := rest) (by omega)
        cases hm : mayB (num4 [d0, d1, d2, d3]) with
        | false =>
          have hst : stuck (d0 :: d1 :: d2 :: d3 :: m) = true := by unfold stuck; rw [decide_eq_true (by simp)]; show (true && !mayB (num4 [d0, d1, d2, d3])) = true; rw [hm]; rfl
          have HST := Lib.hid hst; clear hst
          refine (inNextBad g r d0 d1 d2 d3 m wr HIN.out hm).mono ?_
          rintro _ w2 ⟨rfl, hi2, hf2⟩
          dsimp only
          have HF2 := Lib.hid hf2; clear hf2
          have HI2 := Lib.hid hi2; clear hi2
          clear hm
          (repeat' ((fail_if_success at_builtin); first | go_values | go_skip | go_guarded | go_step | go_upon))
          go_ret2
          obtain ⟨q1, q2, q3⟩ := told_next hglt HO.out HPS.out HF.out HF2.out
          rw [tell_none HN.out] at HT
          refine ⟨a0, c0, ps, by rw [HT.out, HST.out]; rfl, hc0, q1, q2, ?_, ?_, q3⟩
          · rw [HT.out]; simp
          · rw [HT.out]; exact by rw [HST.out]; exact HI2.out
        | true =>
          have hst : stuck (d0 :: d1 :: d2 :: d3 :: m) = false := by unfold stuck; show (_ && !mayB (num4 [d0, d1, d2, d3])) = false; rw [hm, Bool.not_true, Bool.and_false]
          have HST := Lib.hid hst; clear hst
          have hw : m.length < num4 [d0, d1, d2, d3] := by
            have h := HN.out
            unfold next1 at h
            rcases Nat.lt_or_ge m.length (num4 [d0, d1, d2, d3]) with h2 | h2
            · exact h2
            · rw [if_pos ⟨by simp, hm, by show 4 + num4 [d0, d1, d2, d3] ≤ m.length + 4; omega⟩] at h
              cases h
          refine (inNextWait g r d0 d1 d2 d3 m wr HIN.out hm hw).mono ?_
          rintro _ w2 ⟨rfl, hB2⟩
          dsimp only
          have HF2 := Lib.hid (show Frm wr.heap.size (fun j => j = g) wr w2 from Frm.ofBelow hB2)
          have HI2 := Lib.hid (show In w2 g r (d0 :: d1 :: d2 :: d3 :: m) false from HIN.out.below hB2)
          clear hm hw hB2
          (repeat' ((fail_if_success at_builtin); first | go_values | go_skip | go_guarded | go_step | go_upon))
          go_ret2
          obtain ⟨q1, q2, q3⟩ := told_next hglt HO.out HPS.out HF.out HF2.out
          rw [tell_none HN.out] at HT
          refine ⟨a0, c0, ps, by rw [HT.out, HST.out]; rfl, hc0, q1, q2, ?_, ?_, q3⟩
          · rw [HT.out]; simp
          · rw [HT.out]; exact by rw [HST.out]; exact HI2.out
    | some bm =>
      obtain ⟨b, m'⟩ := bm
      have hless := next1_less hn
      have HTS := Lib.hid (tell_some hn)
      have h := hn
      unfold next1 at h
      split at h
      · rename_i hc
        obtain ⟨h1, h2, h3⟩ := hc
        obtain ⟨d0, d1, d2, d3, m, rfl⟩ := four (l := rest) h1
        obtain ⟨N, hN⟩ : ∃ N, num4 [d0, d1, d2, d3] = N := ⟨_, rfl⟩
        have e4 : num4 ((d0 :: d1 :: d2 :: d3 :: m).take 4) = N := hN
        rw [e4] at h2 h3 h
        have hNm : N ≤ m.length := by simp at h3; omega
        have hd : (d0 :: d1 :: d2 :: d3 :: m).drop (4 + N) = m.drop N := by rw [Nat.add_comm]; rfl
        rw [hd] at h
        cases h
        have hmb : mayB N = true := h2
        clear hn h1 h2 h3 e4 hd
        refine (inNextYes g r d0 d1 d2 d3 m N wr HIN.out hN hmb hNm).mono ?_
        rintro _ w2 ⟨a2, c2, rfl, hc2, hr2, hO2, hi2, hf2⟩
        dsimp only
        have hb2 : ∀ b o, 0 < (m.take N).length → a2 = some ⟨b, o, none⟩ → wr.heap.size ≤ b := by
          intro b o h0 e
          subst e
          exact (hO2.lt b rfl).1
        obtain ⟨q1, q2, q3⟩ := told_next hglt HO.out HPS.out HF.out hf2
        have Q1 := Lib.hid q1; clear q1
        have Q2 := Lib.hid q2; clear q2
        have Q3 := Lib.hid q3; clear q3
        have HI2 := Lib.hid hi2; clear hi2
        have HR2 := Lib.hid hr2; clear hr2
        have HB2 := Lib.hid hb2; clear hb2
        have HTY := Lib.hid (typ_of_owns hO2)
        clear hf2 hO2 hN hmb
        (repeat' ((fail_if_success at_builtin); first | go_values | go_skip | go_guarded | go_step | go_upon))
        refine appPc w2 ⟨a2, N, c2, m.take N⟩ rfl _ _ rfl w.heap.size _ ps.length (ps.map Pc.cell) rfl Q1.out rfl (by omega) Q3.out.size ?_
        intro v3 w3 hO3 hg3
        have hg3' : w2.grownBy w3 (Value.slice a0 ps.length c0).ownBlock := hg3
        have HG3 := Lib.hid hg3'; clear hg3 hg3'
        obtain ⟨a3, c3, rfl, hc3, _, _⟩ := owns_slice hO3
        have HO3 := Lib.hid hO3; clear hO3
        (repeat' ((fail_if_success at_builtin); first | go_values | go_skip | go_guarded | go_step | go_upon))
        go_roundw
        case rel =>
          have hpc : (⟨a2, N, c2, m.take N⟩ : Pc).Ok w2 := ⟨by show (m.take N).length = N; rw [List.length_take]; omega, hc2, HR2.out, HTY.out⟩
          have hoff : (⟨a2, N, c2, m.take N⟩ : Pc).Off (fun j => j < w.heap.size) := fun h0 b o e hb => by
            have := HB2.out b o h0 e
            have := HF.out.size
            omega
          obtain ⟨z1, z2⟩ := told_app HG3.out Q1.out HI2.out
          refine ⟨⟨ps ++ [⟨a2, N, c2, m.take N⟩], m.drop N, ?_, ?_, z1, ?_, ?_, ?_⟩⟩
          · rw [List.length_append, List.map_append]; exact HO3.out
          · intro p hp
            rcases List.mem_append.1 hp with h1 | h1
            · exact ⟨z2 p (Q2.out p h1).1, (Q2.out p h1).2⟩
            · rw [List.mem_singleton.1 h1]; exact ⟨z2 _ hpc, hoff⟩
          · rw [HT.out, HTS.out, List.map_append, List.append_assoc]; rfl
          · rw [List.length_append]; show 5 * (ps.length + 1) + _ ≤ _; omega
          · exact Q3.out.grown HG3.out Q3.out.size (fun k e hk => by have := (Q1.out.lt k e).1; omega)
        case measure =>
          show 80000 - (ps.length + 1) < 80000 - ps.length
          omega
      · cases h

end Go.Proofs.YthgaghpakioglaaDoor
