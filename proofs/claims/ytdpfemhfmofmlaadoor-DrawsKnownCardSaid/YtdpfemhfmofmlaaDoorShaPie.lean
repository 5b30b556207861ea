/- The law ShaPieces, walked. -/
import Derived.Test.YtdpfemhfmofmlaaDoorShaTwo
import Derived.Test.YtdpfemhfmofmlaaDoorOpen
import Derived.SizedLaws
namespace Go.Proofs.YtdpfemhfmofmlaaDoor
open Go.RowKit
set_option linter.unusedSimpArgs false
set_option maxRecDepth 10000

/-- A piece that came in. -/
structure Piece where
  a : Option Addr
  n : Nat
  c : Nat
  l : List UInt8

def Piece.cells (p : Piece) : List Value := [.slice p.a p.n p.c]

structure Piece.Ok (w : World) (p : Piece) : Prop where
  len : p.l.length = p.n
  fits : p.n ≤ p.c
  max : p.n ≤ 140737488351232
  rd : RdB w p.a p.l

structure Pieces (w : World) (a : Option Addr) (ps : List Piece) : Prop where
  rd : RdC w a (ps.flatMap Piece.cells)
  ok : ∀ p ∈ ps, p.Ok w

theorem Pieces.at_ {w : World} {a : Option Addr} {ps : List Piece} (h : Pieces w a ps) (k : Nat) (hk : k < ps.length) : ∃ b off, a = some ⟨b, off, none⟩ ∧ w.cell? ⟨b, off + k, none⟩ = some (.slice ps[k].a ps[k].n ps[k].c) := by
  have hl := flat_length Piece.cells 1 (fun _ => rfl) ps
  obtain ⟨b, off, rfl, _⟩ := h.rd.lt (by rw [hl]; omega)
  refine ⟨b, off, rfl, ?_⟩
  rw [h.rd.cell k (by rw [hl]; omega), ← List.getElem?_eq_getElem, flat_get Piece.cells 1 (by omega) (fun _ => rfl) ps k, Nat.div_one, List.getElem?_eq_getElem hk, Nat.mod_one]
  rfl

section
variable {H : Type} {enc : TypeId × Value → H} {P : Program} {w : World} {fuel : Nat} {cs : List Value} {y : DataW H × List MemPlace}

theorem weightsAll_mem {e : TypeId} : ∀ {l : List (DataW H)} {d : DataW H}, d ∈ l → ∀ n ∈ d.weights P e, n ∈ DataW.weightsAll P e l
  | d' :: r, d, hd, n, hn => by
    simp only [DataW.weightsAll, List.mem_append]
    rcases List.mem_cons.1 hd with rfl | h
    · exact Or.inl hn
    · exact Or.inr (weightsAll_mem h n hn)

/-- 'ox_slice', the reach of each element's datum handed on. -/
theorem ox_sliceW {τ : Type} {t e : TypeId} {size : Nat} (hsz : 0 < size) (ht : P.underlying t = some (.slice e)) (hce : P.cellsOf e = size) (cells : τ → List Value) (F : τ → Prop) (hlen : ∀ x, (cells x).length = size)
    (he : ∀ n cs' (y' : DataW H × List MemPlace), Reads enc P w n e cs' y' → (∀ m ∈ y'.1.weights P e, m ≤ reachBytes) → ∃ x, cs' = cells x ∧ F x) (h : Reads enc P w fuel t cs y) (hy : ∀ m ∈ y.1.weights P t, m ≤ reachBytes) :
    ∃ (a : Option Addr) (n c : Nat) (xs : List τ), cs = [.slice a n c] ∧ xs.length = n ∧ n ≤ c ∧ c ≤ maxLen ∧ RdC w a (xs.flatMap cells) ∧ ∀ x ∈ xs, F x := by
  rcases Go.Deep.open_slice ht h with ⟨rfl, _⟩ | ⟨a, len, cap, m, n, D, Pl, rfl, _, hl, hm, hmm, hyy, hel⟩
  · exact ⟨none, 0, 0, [], rfl, rfl, Nat.le_refl _, by unfold maxLen; omega, RdC.nil _ _, fun x hx => by cases hx⟩
  · have hx : ∀ i, i < len → ∃ x, (∀ j v, (cells x)[j]? = some v → w.cell? (a.add (i * size + j)) = some v) ∧ F x := by
      intro i hi
      obtain ⟨cs', hc, ht'⟩ := hel i (by rw [hmm]; simp; omega)
      obtain ⟨x, rfl, hF⟩ := he n cs' _ ht' (fun q hq => hy q (by
        subst hyy
        simp only [DataW.weights, ht, List.mem_cons, List.mem_append]
        exact Or.inr (Or.inl (weightsAll_mem (List.mem_map.2 ⟨i, List.mem_range.2 hi, rfl⟩) _ hq))))
      refine ⟨x, fun j v hj => ?_, hF⟩
      rw [hce] at hc
      unfold World.cells? at hc
      rw [if_pos (Nat.zero_le _)] at hc
      have hj' : j < size := by rw [← hlen x]; exact (List.getElem?_eq_some_iff.1 hj).1
      have := (mapM_some _ _ hc).2 j
      rw [List.getElem?_range hj', hj] at this
      simp only [Option.bind_some] at this
      rw [Go.Deep.add_add] at this
      exact this
    obtain ⟨xs, hxl, hxp⟩ := list_choose len hx
    refine ⟨some a, len, cap, xs, rfl, hxl, hl, hm, ⟨fun i hi => ?_⟩, fun x hx' => ?_⟩
    · rw [flat_length cells size hlen xs] at hi
      have hq : i / size < xs.length := Nat.div_lt_of_lt_mul (by rw [Nat.mul_comm]; exact hi)
      have hr : i % size < size := Nat.mod_lt _ hsz
      have hplain : ∃ b off, a = ⟨b, off, none⟩ := by
        obtain ⟨b, off, spot⟩ := a
        cases spot with
        | none => exact ⟨b, off, rfl⟩
        | some s =>
          have h0 := (hxp 0 (Nat.lt_of_le_of_lt (Nat.zero_le _) hq)).1 0 _ (List.getElem?_eq_getElem (by rw [hlen]; exact hsz))
          simp [Addr.add, World.cell?] at h0
          split at h0 <;> simp at h0
      obtain ⟨b, off, rfl⟩ := hplain
      refine ⟨b, off, rfl, ?_⟩
      have h1 := (hxp _ hq).1 (i % size) _ (List.getElem?_eq_getElem (by rw [hlen]; exact hr))
      rw [Addr.add_lit, Nat.mul_comm, Nat.div_add_mod] at h1
      rw [h1, flat_get cells size hsz hlen, List.getElem?_eq_getElem hq]
      simp [hlen, hr]
    · obtain ⟨i, hi, rfl⟩ := List.mem_iff_getElem.1 hx'
      exact (hxp i hi).2

/-- The capacity of bytes within the reach. -/
theorem reach_bytes {t e : TypeId} (ht : P.underlying t = some (.slice e)) (hb : P.bytesOf e = 1) {a : Option Addr} {n c : Nat} (h : Reads enc P w fuel t [.slice a n c] y) (hy : ∀ m ∈ y.1.weights P t, m ≤ reachBytes) : c ≤ 140737488351232 := by
  rcases Go.Deep.open_slice ht h with ⟨e1, _⟩ | ⟨a', len, cap, m, n', D, Pl, e1, _, hl, hm, hmm, hyy, _⟩
  · cases e1; omega
  · cases e1
    subst hyy
    have := hy _ (by simp only [DataW.weights, ht]; exact List.mem_cons_self)
    rw [hb] at this
    simp at hmm
    subst hmm
    simp [reachBytes] at this
    omega

theorem ox_pieces {t e u : TypeId} (ht : P.underlying t = some (.slice e)) (he : P.underlying e = some (.slice u)) (hu : P.underlying u = some (.int .u8)) (hce : P.cellsOf e = 1) (hcu : P.cellsOf u = 1) (hbu : P.bytesOf u = 1)
    (h : Reads enc P w fuel t cs y) (hy : ∀ m ∈ y.1.weights P t, m ≤ reachBytes) :
    ∃ (a : Option Addr) (n c : Nat) (ps : List Piece), cs = [.slice a n c] ∧ ps.length = n ∧ n ≤ c ∧ c ≤ maxLen ∧ Pieces w a ps := by
  obtain ⟨a, n, c, ps, h1, h2, h3, h4, h5, h6⟩ := ox_sliceW (size := 1) (by omega) ht hce Piece.cells (Piece.Ok w) (fun _ => rfl) (fun n cs' y' hr hy' => by
    obtain ⟨a, n, c, l, rfl, h2, h3, h4, h5⟩ := ox_bytes he hu hcu hr
    exact ⟨⟨a, n, c, l⟩, rfl, ⟨h2, h3, Nat.le_trans h3 (reach_bytes he hbu hr hy'), h5⟩⟩) h hy
  exact ⟨a, n, c, ps, h1, h2, h3, h4, h5, h6⟩
end

theorem neqSumSame (D : List UInt8) (hD : D.length = 32) (w : World) : (binOp .neq 26 (.agg (bvs D).toArray) (.agg (bvs D).toArray)).run Tryd.prog w = .ok (.bool false) w := by
  rw [run_neq_struct, show bvs D = D.map Extern.Stop.cell from rfl, run_equalIn_bytes w 9998 26 5 32 Tryd.underlying26 Tryd.underlying5 (fun w => by kernel_rfl) D D hD hD]
  simp

theorem refSumOf (a : Option Addr) (n c : Nat) (l D : List UInt8) (w : World) (hD : wdig l = D) (h : RdB w a l) (en : l.length = n) (hn : n ≤ 400000000) :
    Calls Tryd.prog 25 #[.slice a n c] w fun e w' => e = .returned (.agg (bvs D).toArray) ∧ Below w.heap.size w w' := by
  subst hD; exact refSum a n c l w h en hn

theorem owns_frm {w w' : World} {base e size g : Nat} {v : Value} {n : Nat} {xs : List Value} (h : w.ownsRow base e size v n xs) (hF : Frm w.heap.size (fun k => k = g) w w') (hg : g < base) : w'.ownsRow base e size v n xs := by
  refine ⟨h.1, ?_⟩
  rcases h.2 with h2 | ⟨g', cap, cur, hv, hg', hh, r⟩
  · exact .inl h2
  · exact .inr ⟨g', cap, cur, hv, hg', by rw [hF.block g' (Array.getElem?_eq_some_iff.1 hh).1 (by omega)]; exact hh, r⟩

theorem owns_belowLt {w w' : World} {base e size B : Nat} {v : Value} {n : Nat} {xs : List Value} (h : w.ownsRow base e size v n xs) (hb : Below B w w') (hB : ∀ g, v.ownBlock = some g → g < B) : w'.ownsRow base e size v n xs := by
  refine ⟨h.1, ?_⟩
  rcases h.2 with h2 | ⟨g', cap, cur, hv, hg', hh, r⟩
  · exact .inl h2
  · exact .inr ⟨g', cap, cur, hv, hg', by rw [hb.block g' (hB g' (by rw [hv]; rfl))]; exact hh, r⟩

structure PieRel (w0 : World) (base g1 g2 : Nat) (ps : List Piece) (all i : Value) (wr : World) : Prop where
  out : ∃ (k : Nat) (m : List UInt8), i = .int .i64 k ∧ k ≤ ps.length ∧ m.length ≤ 8192 ∧ Below w0.heap.size w0 wr ∧ base ≤ wr.heap.size ∧ HashAt wr g1 m m.length ∧ HashAt wr g2 [] 0 ∧ wr.ownsRow base 5 1 all m.length (bvs m)

set_option maxHeartbeats 4000000 in
theorem shaPieces_walk (a : Option Addr) (n c : Nat) (ps : List Piece) (w : World) (hT : Tabs w) (h : Pieces w a ps) (en : ps.length = n) (hn : n ≤ c) (hc : c ≤ 9223372036854775807) :
    Calls Tryd.prog 4 #[.slice a n c] w fun e w' => e = .returned (.bool true) ∧ Below w.heap.size w w' := by
  subst en
  have hts := hT.size
  have HT := Lib.hid hT; clear hT
  have HP := Lib.hid h; clear h
  have hlen : (ps.length : Int) ≤ 9223372036854775807 := by omega
  by_cases hb : 60 < ps.length
  · have hb1 : (60 : Int) < (ps.length : Int) := by omega
    go_enter Tryd.func4, Tryd.ntmps4
    (repeat' ((fail_if_success at_builtin); first | go_values | go_skip | go_guarded | go_step | go_upon))
    refine (hNew w HT.out).mono ?_
    rintro _ w1 ⟨rfl, hh1, hB1, hs1⟩
    dsimp only
    (repeat' ((fail_if_success at_builtin); first | go_values | go_skip | go_guarded | go_step | go_upon))
    refine (hNew w1 (HT.out.below hB1 hts)).mono ?_
    rintro _ w2 ⟨rfl, hh2, hB2, hs2⟩
    dsimp only
    have hB02 : Below w.heap.size w w2 := hB1.trans (hB2.mono hB1.size)
    (repeat' ((fail_if_success at_builtin); first | go_values | go_skip | go_guarded | go_step | go_upon))
    refine (works01 w2 (HT.out.below hB02 hts)).mono ?_
    rintro _ w3 ⟨rfl, hB3⟩
    dsimp only
    (repeat' ((fail_if_success at_builtin); first | go_values | go_skip | go_guarded | go_step | go_upon))
    go_ret
    exact ⟨rfl, hB02.trans (hB3.mono hB02.size)⟩
  · have hb1 : ¬ ((60 : Int) < (ps.length : Int)) := by omega
    obtain ⟨iS, zS, hiS, hzS, hcS⟩ := fresh_parts zeroSum
    have HIS := Lib.hid hiS; clear hiS
    have HZS := Lib.hid hzS; clear hzS
    have HCS := Lib.hid hcS; clear hcS
    obtain ⟨E, hE⟩ : ∃ E, wdig [] = E := ⟨_, rfl⟩
    have heqE := fun w => eqSumSame E (by rw [← hE, wdig_length]) w
    have HEQE := Lib.hid heqE; clear heqE
    have HE := Lib.hid hE; clear hE
    have hu26 : Tryd.prog.underlying 26 = some _ := Tryd.underlying26
    have HU26 := Lib.hid hu26; clear hu26
    go_enter Tryd.func4, Tryd.ntmps4
    (repeat' ((fail_if_success at_builtin); first | go_values | go_skip | go_guarded | go_step | go_upon))
    refine (hNew w HT.out).mono ?_
    rintro _ w1 ⟨rfl, hh1, hB1, hs1⟩
    dsimp only
    have HH1 := Lib.hid hh1; clear hh1
    have HS1 := Lib.hid hs1; clear hs1
    (repeat' ((fail_if_success at_builtin); first | go_values | go_skip | go_guarded | go_step | go_upon))
    refine (hNew w1 (HT.out.below hB1 hts)).mono ?_
    rintro _ w2 ⟨rfl, hh2, hB2, hs2⟩
    dsimp only
    have hB02 : Below w.heap.size w w2 := hB1.trans (hB2.mono hB1.size)
    have hh12 := HH1.out.below hB2 HH1.out.lt
    have HH2 := Lib.hid hh2; clear hh2
    have HH12 := Lib.hid hh12; clear hh12
    have HS2 := Lib.hid hs2; clear hs2
    obtain ⟨g1, hg1⟩ : ∃ g, w.heap.size = g := ⟨_, rfl⟩
    obtain ⟨g2, hg2⟩ : ∃ g, w1.heap.size = g := ⟨_, rfl⟩
    obtain ⟨base, hbase⟩ : ∃ g, w2.heap.size = g := ⟨_, rfl⟩
    have HN : Hid (w.heap.size = g1 ∧ w1.heap.size = g2 ∧ w2.heap.size = base ∧ g1 < base ∧ g2 < base ∧ g1 < g2) := Lib.hid ⟨hg1, hg2, hbase, by have := HS1.out; have := HS2.out; omega, by have := HS2.out; omega, by have := HS1.out; omega⟩
    rw [hg1, hg2]
    rw [hg1] at HH12
    rw [hg2] at HH2
    clear hg1 hg2 hbase
    (repeat' ((fail_if_success at_builtin); first | go_values | go_skip | go_guarded | go_step | go_upon))
    go_loopw [5, 6, 7] (fun all i _ wr => PieRel w base g1 g2 ps all i wr) (fun _ i _ _ => ps.length - (intOf i).toNat)
    case atStart => exact ⟨⟨0, [], rfl, by omega, by simp, hB02, by have := HN.out; omega, HH12.out, HH2.out, World.ownsRow_nil _ _ _ _⟩⟩
    case round =>
      obtain ⟨⟨k, m, rfl, hk, hm, hB, hbs, hh1, hh2, hO⟩⟩ := hrel
      obtain ⟨aa, ac, rfl, hac, hacm, _⟩ := owns_slice hO
      have HA := Lib.hid hh1; clear hh1
      have HB := Lib.hid hh2; clear hh2
      have HO := Lib.hid hO; clear hO
      by_cases hlt : k < ps.length
      · obtain ⟨b, off, rfl, hcw⟩ := HP.out.at_ k hlt
        have hok := HP.out.ok _ (List.getElem_mem hlt)
        generalize ps[k] = p at hcw hok
        obtain ⟨pa, pn, pc, pl⟩ := p
        obtain ⟨e1, e2, e3, e4⟩ := hok
        dsimp only at e1 e2 e3 e4 hcw
        subst e1
        have HR := Lib.hid e4; clear e4
        have hc0 := cell_below hB hcw (Nat.le_refl _)
        have HCW := Lib.hid hcw; clear hcw
        by_cases hbig : 8192 < m.length + pl.length
        · have hb2 : (8192 : Int) < (m.length : Int) + (pl.length : Int) := by omega
          (repeat' ((fail_if_success at_builtin); first | go_values | go_skip | go_guarded | go_step | go_upon))
          refine (works01 wr (HT.out.below hB hts)).mono ?_
          rintro _ w3 ⟨rfl, hB3⟩
          dsimp only
          (repeat' ((fail_if_success at_builtin); first | go_values | go_skip | go_guarded | go_step | go_upon))
          go_ret
          exact ⟨rfl, hB.trans (hB3.mono hB.size)⟩
        · have hb2 : ¬ ((8192 : Int) < (m.length : Int) + (pl.length : Int)) := by omega
          (repeat' ((fail_if_success at_builtin); first | go_values | go_skip | go_guarded | go_step | go_upon))
          refine (lentBytes pa _ pc pl wr (HR.out.below hB (Nat.le_refl _)) rfl (by omega)).mono ?_
          rintro _ w3 ⟨a1, c1, rfl, hc1, hr1, hB3, hO1⟩
          dsimp only
          have hB03 : Below w.heap.size w w3 := hB.trans (hB3.mono hB.size)
          have hc3 := cell_below hB03 HCW.out (Nat.le_refl _)
          have hc5 : (0 : Int) ≤ (pl.length : Int) ∧ (pl.length : Int) ≤ (c1 : Int) := by omega
          have HR1 := Lib.hid hr1; clear hr1
          have HO1 := Lib.hid hO1; clear hO1
          clear hc0
          (repeat' ((fail_if_success at_builtin); first | go_values | go_skip | go_guarded | go_step | go_upon))
          have hn1 : ∀ b off, a1 = some ⟨b, off, none⟩ → b ≠ g1 := fun b' off' e => by
            have := (HO1.out.lt b' (by rw [e]; rfl)).1
            have := HN.out
            omega
          refine (hWrite g1 a1 _ c1 m pl w3 (HT.out.below hB03 hts) (by have := HN.out; omega) (HA.out.below hB3 HA.out.lt) HR1.out.left rfl (by omega) (fun _ => hn1) (by omega)).mono ?_
          rintro _ w4 ⟨rfl, hh4, hF4⟩
          dsimp only
          rw [← List.length_append] at hh4
          have hB04 : Below w.heap.size w w4 := hB03.trans (hF4.belowOf hB03.size (fun k e => by have := HN.out; omega))
          have hc4 := cell_below hB04 HCW.out (Nat.le_refl _)
          have hh24 := (HB.out.below hB3 HB.out.lt).frm hF4 (by have := HN.out; omega)
          have hr4 := HR1.out.frm hF4 (Nat.le_refl _) (fun b off e => hn1 b off e)
          have hO14 := owns_frm HO1.out hF4 (by have := HN.out; omega)
          have hO4 := owns_frm (owns_below HO.out hB3 (Nat.le_refl _)) hF4 (by have := HN.out; omega)
          have HH4 := Lib.hid hh4; clear hh4
          have HH24 := Lib.hid hh24; clear hh24
          have HR4 := Lib.hid hr4; clear hr4
          have HO14 := Lib.hid hO14; clear hO14
          have HO4 := Lib.hid hO4; clear hO4
          clear hc3 hn1
          (repeat' ((fail_if_success at_builtin); first | go_values | go_skip | go_guarded | go_step | go_upon))
          refine (keptBytes a1 pa pl.length c1 pc pl w4 HR4.out (HR.out.below hB04 (Nat.le_refl _)) rfl hc1 (by omega)).mono ?_
          rintro _ w5 ⟨rfl, hB5⟩
          dsimp only
          have hB05 : Below w.heap.size w w5 := hB04.trans (hB5.mono hB04.size)
          have hc5' := cell_below hB05 HCW.out (Nat.le_refl _)
          clear hc4
          (repeat' ((fail_if_success at_builtin); first | go_values | go_skip | go_guarded | go_step | go_upon))
          have hO15 := owns_below HO14.out hB5 (Nat.le_refl _)
          refine (spoilBytes wr.heap.size (pl.length + 5) c1 a1 _ w5 hO15 (by omega)).mono ?_
          rintro _ w6 ⟨rfl, hG6⟩
          dsimp only
          have hz35 : wr.heap.size ≤ w5.heap.size := Nat.le_trans hB3.size (Nat.le_trans hF4.size hB5.size)
          have hB6 : Below wr.heap.size w5 w6 := (Below.refl wr.heap.size w5).grown hG6 hz35 (fun g e => (hO15.lt g e).1)
          have hB06 : Below w.heap.size w w6 := hB05.trans (hB6.mono hB.size)
          have hc6 := cell_below hB06 HCW.out (Nat.le_refl _)
          have hh6 := (HH4.out.below hB5 HH4.out.lt).below hB6 HA.out.lt
          have hh26 := (HH24.out.below hB5 HH24.out.lt).below hB6 HB.out.lt
          have hO6 := owns_belowLt (owns_below HO4.out hB5 (Nat.le_refl _)) hB6 (fun g e => (HO.out.lt g e).2)
          have hz6 : base ≤ w6.heap.size := Nat.le_trans hbs (Nat.le_trans hz35 hB6.size)
          have HH6 := Lib.hid hh6; clear hh6
          have HH26 := Lib.hid hh26; clear hh26
          have HO6 := Lib.hid hO6; clear hO6
          clear hc5' hO15
          (repeat' ((fail_if_success at_builtin); first | go_values | go_skip | go_guarded | go_step | go_upon))
          refine app8 rfl _ _ rfl base _ m.length m rfl HO6.out pa pl.length pc pl rfl (HR.out.below hB06 (Nat.le_refl _)) rfl (by omega) hz6 ?_
          intro a7 c7 w7 hc7 hr7 hO7 hG7
          have hB7 : Below base w6 w7 := (Below.refl base w6).grown hG7 hz6 (fun g e => (HO6.out.lt g e).1)
          have hB07 : Below w.heap.size w w7 := hB06.trans (hB7.mono (by have := HN.out; omega))
          have hh7 := HH6.out.below hB7 (by have := HN.out; omega)
          have hh27 := HH26.out.below hB7 (by have := HN.out; omega)
          have hz7 : base ≤ w7.heap.size := Nat.le_trans hz6 hB7.size
          have hml : (m ++ pl).length ≤ 8192 := by rw [List.length_append]; omega
          have hmn : (m ++ pl).length = m.length + pl.length := List.length_append
          rw [← hmn] at hO7
          have HH7 := Lib.hid hh7; clear hh7
          have HH27 := Lib.hid hh27; clear hh27
          have HO7 := Lib.hid hO7; clear hO7
          have HR7 := Lib.hid hr7; clear hr7
          obtain ⟨D, hD⟩ : ∃ D, wdig (m ++ pl) = D := ⟨_, rfl⟩
          have hneD := fun w => neqSumSame D (by rw [← hD, wdig_length]) w
          have HD := Lib.hid hD; clear hD
          have HML := Lib.hid hml; clear hml
          have HMN := Lib.hid hmn; clear hmn
          clear hc6
          by_cases h3 : (k : Int).tmod 3 = 1
          · (repeat' ((fail_if_success at_builtin); first | go_values | go_skip | go_guarded | go_step | go_upon))
            refine (hSumOf g1 (m ++ pl) D w7 HD.out (HT.out.below hB07 hts) HH7.out (by have := HML.out; omega)).mono ?_
            rintro _ w8 ⟨rfl, hB8⟩
            dsimp only
            have hB08 : Below w.heap.size w w8 := hB07.trans (hB8.mono hB07.size)
            (repeat' ((fail_if_success at_builtin); first | go_values | go_skip | go_guarded | go_step | go_upon))
            refine (refSumOf a7 _ c7 (m ++ pl) D w8 HD.out (HR7.out.below hB8 (Nat.le_refl _)) HMN.out (by omega)).mono ?_
            rintro _ w9 ⟨rfl, hB9⟩
            dsimp only
            have hB79 : Below w7.heap.size w7 w9 := hB8.trans (hB9.mono hB8.size)
            have hB09 : Below w.heap.size w w9 := hB07.trans (hB79.mono hB07.size)
            (repeat' ((fail_if_success at_builtin); first | go_values | go_skip | go_guarded | go_step | go_upon))
            go_roundw
            case rel => exact ⟨⟨k + 1, m ++ pl, by first | rfl | go_num, by omega, HML.out, hB09, Nat.le_trans hz7 hB79.size, HH7.out.below hB79 HH7.out.lt, HH27.out.below hB79 HH27.out.lt, by rw [← HMN.out]; exact owns_below HO7.out hB79 (Nat.le_refl _)⟩⟩
            case measure => simp [intOf]; omega
          · (repeat' ((fail_if_success at_builtin); first | go_values | go_skip | go_guarded | go_step | go_upon))
            go_roundw
            case rel => exact ⟨⟨k + 1, m ++ pl, by first | rfl | go_num, by omega, HML.out, hB07, hz7, HH7.out, HH27.out, by rw [← HMN.out]; exact HO7.out⟩⟩
            case measure => simp [intOf]; omega
      · have hk1 : ¬ ((k : Int) < (ps.length : Int)) := by omega
        obtain ⟨D, hD⟩ : ∃ D, wdig m = D := ⟨_, rfl⟩
        have hDl : (bvs D).length = 32 := by rw [bvs_length, ← hD, wdig_length]
        have heqD := fun w => eqSumSame D (by rw [← hD, wdig_length]) w
        have hi26 : (Tryd.prog.info? 26).map (·.size) = some (bvs D).length := by rw [hDl]; exact sizeSum
        have hfD : 0 + (bvs D).length ≤ (List.replicate 32 (Value.int .u8 0)).toArray.size := by rw [hDl]; simp
        have HEQD := Lib.hid heqD; clear heqD
        have HI26 := Lib.hid hi26; clear hi26
        have HFD := Lib.hid hfD; clear hfD
        have HDO := Lib.hid (bvs_oneCell D)
        have HDL := Lib.hid hDl; clear hDl
        have HD := Lib.hid hD; clear hD
        (repeat' ((fail_if_success at_builtin); first | go_values | go_skip | go_guarded | go_step | go_upon))
        refine (refSumOf aa m.length ac m D wr HD.out (rdc_of_owns HO.out) rfl (by omega)).mono ?_
        rintro _ w3 ⟨rfl, hB3⟩
        dsimp only
        have hB03 : Below w.heap.size w w3 := hB.trans (hB3.mono hB.size)
        (repeat' ((fail_if_success at_builtin); first | (first | ((with_reducible refine wpList_alloc_fresh (w := w3) rfl 26 rfl _ iS zS HIS.out HZS.out HCS.out ?_); intro w4 hg4 hB4 hs4; have HG4 := Lib.hid hg4; clear hg4; have HS4 := Lib.hid hs4; clear hs4) | ((with_reducible refine wpList_store_blk rfl 26 _ _ rfl w3.heap.size 0 (bvs D) rfl rfl _ _ HG4.out HFD.out HI26.out HDO.out ?_); intro w5 hg5 hG5; have HG5 := Lib.hid hg5; clear hg5)) | go_values | go_skip | go_guarded | go_step | go_upon))
        have hg5 := HG5.out
        rw [splice_whole _ _ (by rw [HDL.out]; simp)] at hg5
        have hB35 : Below w3.heap.size w3 w5 := hB4.grown hG5 (by have := HS4.out; omega) (fun k e => by cases e; exact Nat.le_refl _)
        have hB5 : Below wr.heap.size wr w5 := hB3.trans (hB35.mono hB3.size)
        have hB05 : Below w.heap.size w w5 := hB.trans (hB5.mono hB.size)
        have hwa : WA w g1 g2 w3.heap.size m [] D m aa w5 := ⟨rangeAt_whole hg5, HT.out.below hB05 hts, HA.out.below hB5 HA.out.lt, HB.out.below hB5 HB.out.lt, (rdc_of_owns HO.out).below hB5 (Nat.le_refl _), hB05⟩
        have hwad := wa_drew hwa
        clear hwa hg5
        have heqD := HEQD.out
        have heqE := HEQE.out
        have hu26 := HU26.out
        have hi26 := HI26.out
        have hl26 := HDL.out
        have ho26 := HDO.out
        (repeat' ((fail_if_success at_builtin); first | go_values | go_skip | go_guarded | go_step | go_upon))
        refine wp_region_noPanic ?_
        refine wp_region_held_drew (S := WA w g1 g2 w3.heap.size m [] D m aa) (by kernel_rfl) ?_ (fun hHeld => ?_)
        · (assumption)
        refine wpAnyH_take (i := 0) (oi := _) (v := ?_) rfl (by kernel_rfl) (by kernel_rfl) (by kernel_rfl) (fun _ _ _ h => h) (Or.inl ⟨by rfl, ?_⟩) (by assumption) ?_
        rotate_left 1
        · (intro w hSw; (try dsimp only at hSw); go_simp; all_goals (with_reducible rfl))
        try simp only [Act.put, List.setIfInBounds_toArray, List.set_cons_zero, List.set_cons_succ]
        refine' wpAnyH_take (i := 2) (oi := _) (v := _) rfl (by kernel_rfl) (by kernel_rfl) (by kernel_rfl) (fun _ _ _ h => h) (yieldsIf_load_mid (by rfl) _ _ rfl _ _ rfl _ _ ?ls1 ?lu1 ?ld1 ?li1) (by assumption) ?lr1
        case ls1 => (intro w hSw; (try dsimp only at hSw); go_split_ands; assumption)
        case lu1 => assumption
        case ld1 => rfl
        case li1 => first | assumption | (simp only [*]; done)
        try simp only [Act.put, List.setIfInBounds_toArray, List.set_cons_zero, List.set_cons_succ]
        refine wpAnyH_ready (rs := [1]) (by kernel_rfl) (by simp) ?_
        refine AllReadyH.cons (o := _) rfl (fun K hK => ?_) ?_
        rotate_left 1
        · exact AllReadyH.nil
        go_simp
        go_at_call 30
        refine (hSumOf g1 m D _ HD.out hHeld.2.1 hHeld.2.2.1 (by omega)).mono ?_
        rintro _ wB ⟨rfl, hBB⟩
        dsimp only
        refine hK.out _ _ ?_ (fun hHeld => ?_)
        · (apply wa_below; assumption; assumption)
        clear hK K
        try simp only [Act.put, List.setIfInBounds_toArray, List.set_cons_zero, List.set_cons_succ]
        refine wpAnyH_take (i := 3) (oi := _) (v := ?_) rfl (by kernel_rfl) (by kernel_rfl) (by kernel_rfl) (fun _ _ _ h => h) (Or.inl ⟨by rfl, ?_⟩) (by assumption) ?_
        rotate_left 1
        · (intro w hSw; (try dsimp only at hSw); go_simp; all_goals (with_reducible rfl))
        try simp only [Act.put, List.setIfInBounds_toArray, List.set_cons_zero, List.set_cons_succ]
        refine wpAnyH_take (i := 4) (oi := _) (v := ?_) rfl (by kernel_rfl) (by kernel_rfl) (by kernel_rfl) (fun _ _ _ h => h) (Or.inl ⟨by rfl, ?_⟩) (by assumption) ?_
        rotate_left 1
        · (intro w hSw; (try dsimp only at hSw); go_simp; all_goals (with_reducible rfl))
        try simp only [Act.put, List.setIfInBounds_toArray, List.set_cons_zero, List.set_cons_succ]
        refine wpAnyH_take (i := 5) (oi := _) (v := ?_) rfl (by kernel_rfl) (by kernel_rfl) (by kernel_rfl) (fun _ _ _ h => h) (Or.inl ⟨by rfl, ?_⟩) (by assumption) ?_
        rotate_left 1
        · (intro w hSw; (try dsimp only at hSw); go_simp; all_goals (with_reducible rfl))
        try simp only [Act.put, List.setIfInBounds_toArray, List.set_cons_zero, List.set_cons_succ]
        refine' wpAnyH_take (i := 7) (oi := _) (v := _) rfl (by kernel_rfl) (by kernel_rfl) (by kernel_rfl) (fun _ _ _ h => h) (yieldsIf_load_mid (by rfl) _ _ rfl _ _ rfl _ _ ?ls2 ?lu2 ?ld2 ?li2) (by assumption) ?lr2
        case ls2 => (intro w hSw; (try dsimp only at hSw); go_split_ands; assumption)
        case lu2 => assumption
        case ld2 => rfl
        case li2 => first | assumption | (simp only [*]; done)
        try simp only [Act.put, List.setIfInBounds_toArray, List.set_cons_zero, List.set_cons_succ]
        refine wpAnyH_ready (rs := [6]) (by kernel_rfl) (by simp) ?_
        refine AllReadyH.cons (o := _) rfl (fun K hK => ?_) ?_
        rotate_left 1
        · exact AllReadyH.nil
        go_simp
        go_at_call 30
        refine (hSumOf g1 m D _ HD.out hHeld.2.1 hHeld.2.2.1 (by omega)).mono ?_
        rintro _ wC ⟨rfl, hBC⟩
        dsimp only
        refine hK.out _ _ ?_ (fun hHeld => ?_)
        · (apply wa_below; assumption; assumption)
        clear hK K
        try simp only [Act.put, List.setIfInBounds_toArray, List.set_cons_zero, List.set_cons_succ]
        refine wpAnyH_take (i := 8) (oi := _) (v := ?_) rfl (by kernel_rfl) (by kernel_rfl) (by kernel_rfl) (fun _ _ _ h => h) (Or.inl ⟨by rfl, ?_⟩) (by assumption) ?_
        rotate_left 1
        · (intro w hSw; (try dsimp only at hSw); go_simp; all_goals (with_reducible rfl))
        try simp only [Act.put, List.setIfInBounds_toArray, List.set_cons_zero, List.set_cons_succ]
        refine wpAnyH_take (i := 9) (oi := _) (v := ?_) rfl (by kernel_rfl) (by kernel_rfl) (by kernel_rfl) (fun _ _ _ h => h) (Or.inl ⟨by rfl, ?_⟩) (by assumption) ?_
        rotate_left 1
        · (intro w hSw; (try dsimp only at hSw); go_simp; all_goals (with_reducible rfl))
        try simp only [Act.put, List.setIfInBounds_toArray, List.set_cons_zero, List.set_cons_succ]
        refine wpAnyH_take (i := 10) (oi := _) (v := ?_) rfl (by kernel_rfl) (by kernel_rfl) (by kernel_rfl) (fun _ _ _ h => h) (Or.inl ⟨by rfl, ?_⟩) (by assumption) ?_
        rotate_left 1
        · (intro w hSw; (try dsimp only at hSw); go_simp; all_goals (with_reducible rfl))
        try simp only [Act.put, List.setIfInBounds_toArray, List.set_cons_zero, List.set_cons_succ]
        refine wpAnyH_take (i := 11) (oi := _) (v := ?_) rfl (by kernel_rfl) (by kernel_rfl) (by kernel_rfl) (fun _ _ _ h => h) (Or.inl ⟨by rfl, ?_⟩) (by assumption) ?_
        rotate_left 1
        · (intro w hSw; (try dsimp only at hSw); go_simp; all_goals (with_reducible rfl))
        try simp only [Act.put, List.setIfInBounds_toArray, List.set_cons_zero, List.set_cons_succ]
        refine wpAnyH_ready (rs := [12]) (by kernel_rfl) (by simp) ?_
        refine AllReadyH.cons (o := _) rfl (fun K hK => ?_) ?_
        rotate_left 1
        · exact AllReadyH.nil
        go_simp
        go_at_call 30
        refine (hSumOf g2 [] E _ HE.out hHeld.2.1 hHeld.2.2.2.1 (by decide)).mono ?_
        rintro _ wF ⟨rfl, hBF⟩
        dsimp only
        refine hK.out _ _ ?_ (fun hHeld => ?_)
        · (apply wa_below; assumption; assumption)
        clear hK K
        try simp only [Act.put, List.setIfInBounds_toArray, List.set_cons_zero, List.set_cons_succ]
        refine wpAnyH_ready (rs := [13]) (by kernel_rfl) (by simp) ?_
        refine AllReadyH.cons (o := _) rfl (fun K hK => ?_) ?_
        rotate_left 1
        · exact AllReadyH.nil
        go_simp
        go_at_call 25
        refine (refSumOf none 0 0 [] E _ HE.out (RdC.nil _ _) rfl (by decide)).mono ?_
        rintro _ wG ⟨rfl, hBG⟩
        dsimp only
        refine hK.out _ _ ?_ (fun hHeld => ?_)
        · (apply wa_below; assumption; assumption)
        clear hK K
        try simp only [Act.put, List.setIfInBounds_toArray, List.set_cons_zero, List.set_cons_succ]
        refine wpAnyH_take (i := 14) (oi := _) (v := ?_) rfl (by kernel_rfl) (by kernel_rfl) (by kernel_rfl) (fun _ _ _ h => h) (Or.inl ⟨by rfl, ?_⟩) (by assumption) ?_
        rotate_left 1
        · (intro w hSw; (try dsimp only at hSw); go_simp; all_goals (with_reducible rfl))
        try simp only [Act.put, List.setIfInBounds_toArray, List.set_cons_zero, List.set_cons_succ]
        refine wpAnyH_take (i := 15) (oi := _) (v := ?_) rfl (by kernel_rfl) (by kernel_rfl) (by kernel_rfl) (fun _ _ _ h => h) (Or.inl ⟨by rfl, ?_⟩) (by assumption) ?_
        rotate_left 1
        · (intro w hSw; (try dsimp only at hSw); go_simp; all_goals (with_reducible rfl))
        try simp only [Act.put, List.setIfInBounds_toArray, List.set_cons_zero, List.set_cons_succ]
        refine wpAnyH_take (i := 16) (oi := _) (v := ?_) rfl (by kernel_rfl) (by kernel_rfl) (by kernel_rfl) (fun _ _ _ h => h) (Or.inl ⟨by rfl, ?_⟩) (by assumption) ?_
        rotate_left 1
        · (intro w hSw; (try dsimp only at hSw); go_simp; all_goals (with_reducible rfl))
        try simp only [Act.put, List.setIfInBounds_toArray, List.set_cons_zero, List.set_cons_succ]
        refine wpAnyH_ready (rs := [17]) (by kernel_rfl) (by simp) ?_
        refine AllReadyH.cons (o := _) rfl (fun K hK => ?_) ?_
        rotate_left 1
        · exact AllReadyH.nil
        go_simp
        go_at_call 22
        refine (works01 _ hHeld.2.1).mono ?_
        rintro _ wD ⟨rfl, hBD⟩
        dsimp only
        refine hK.out _ _ ?_ (fun hHeld => ?_)
        · (apply wa_below; assumption; assumption)
        clear hK K
        try simp only [Act.put, List.setIfInBounds_toArray, List.set_cons_zero, List.set_cons_succ]
        refine wpAnyH_take (i := 18) (oi := _) (v := ?_) rfl (by kernel_rfl) (by kernel_rfl) (by kernel_rfl) (fun _ _ _ h => h) (Or.inl ⟨by rfl, ?_⟩) (by assumption) ?_
        rotate_left 1
        · (intro w hSw; (try dsimp only at hSw); go_simp; all_goals (with_reducible rfl))
        try simp only [Act.put, List.setIfInBounds_toArray, List.set_cons_zero, List.set_cons_succ]
        refine wpAnyH_take (i := 19) (oi := _) (v := ?_) rfl (by kernel_rfl) (by kernel_rfl) (by kernel_rfl) (fun _ _ _ h => h) (Or.inl ⟨by rfl, ?_⟩) (by assumption) ?_
        rotate_left 1
        · (intro w hSw; (try dsimp only at hSw); go_simp; all_goals (with_reducible rfl))
        try simp only [Act.put, List.setIfInBounds_toArray, List.set_cons_zero, List.set_cons_succ]
        refine wpAnyH_done (by kernel_rfl) ?_ _
        refine NoPanic.normal ?_
        (repeat' ((fail_if_success at_builtin); first | go_values | go_skip | go_guarded | go_step | go_upon))
        go_ret
        exact ⟨rfl, hHeld.2.2.2.2.2⟩

end Go.Proofs.YtdpfemhfmofmlaaDoor
