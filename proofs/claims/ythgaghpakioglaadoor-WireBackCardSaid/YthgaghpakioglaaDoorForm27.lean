/- What bytes tell, put again, is their beginning (no program in sight); told, all blocks from B on. -/
import Derived.Test.YthgaghpakioglaaDoorTold
namespace Go.Proofs.YthgaghpakioglaaDoor
set_option linter.unusedSimpArgs false
set_option linter.unusedVariables false
open Go.RowKit
set_option maxRecDepth 10000

theorem num_len4 (d0 d1 d2 d3 : UInt8) : len4 (num4 [d0, d1, d2, d3]) = [d0, d1, d2, d3] := by
  have h0 := d0.toNat_lt
  have h1 := d1.toNat_lt
  have h2 := d2.toNat_lt
  have h3 := d3.toNat_lt
  have key : ∀ (d : UInt8) (v : Int), v = d.toNat → u8 v = d := fun d v e => by rw [e, u8_toNat]
  simp only [num4, len4, List.foldl_cons, List.foldl_nil, nb, Nat.mul_zero, Nat.mul_one, Int.pow_zero, Int.ediv_one, Nat.reduceMul, Int.reducePow]
  rw [key d0, key d1, key d2, key d3] <;> omega

theorem next1_form {l b m : List UInt8} (h : next1 l = some (b, m)) : l = parcel b ++ m ∧ mayB b.length = true := by
  unfold next1 at h
  split at h
  · rename_i hc
    obtain ⟨h1, h2, h3⟩ := hc
    obtain ⟨d0, d1, d2, d3, t, rfl⟩ := four h1
    have e4 : (d0 :: d1 :: d2 :: d3 :: t).take 4 = [d0, d1, d2, d3] := rfl
    have hd : (d0 :: d1 :: d2 :: d3 :: t).drop 4 = t := rfl
    rw [e4] at h h2 h3
    rw [hd] at h
    have hl : num4 [d0, d1, d2, d3] ≤ t.length := by simp at h3; omega
    have hL := num_len4 d0 d1 d2 d3
    generalize num4 [d0, d1, d2, d3] = N at *
    have hdd : (d0 :: d1 :: d2 :: d3 :: t).drop (4 + N) = t.drop N := by rw [Nat.add_comm]; rfl
    rw [hdd] at h
    cases h
    have hlen : (t.take N).length = N := by rw [List.length_take]; omega
    refine ⟨?_, by rw [hlen]; exact h2⟩
    unfold parcel
    rw [hlen, hL, List.append_assoc, List.take_append_drop]
    rfl
  · cases h

theorem next1_none {l : List UInt8} (h : stuck l = true) : 4 ≤ l.length := by
  unfold stuck at h
  rw [Bool.and_eq_true] at h
  exact of_decide_eq_true h.1

structure Form (l : List UInt8) (bs : List (List UInt8)) (rest : List UInt8) (br : Bool) : Prop where
  may : ∀ b ∈ bs, mayB b.length = true
  eq : ∃ m, l = bs.flatMap parcel ++ m ∧ (br = false → m = rest) ∧ (br = true → 4 ≤ m.length ∧ rest = [])
theorem tell_form (l : List UInt8) : Form l (tell l).1 (tell l).2.1 (tell l).2.2 := by
  have key : ∀ (k : Nat) (l : List UInt8), l.length ≤ k → Form l (tell l).1 (tell l).2.1 (tell l).2.2 := by
    intro k
    induction k with
    | zero =>
      intro l hl
      obtain rfl : l = [] := List.eq_nil_of_length_eq_zero (by omega)
      exact ⟨fun b hb => (by cases hb), [], rfl, fun _ => rfl, fun h => (by cases h)⟩
    | succ k ih =>
      intro l hl
      cases hn : next1 l with
      | none =>
        rw [tell_none hn]
        refine ⟨fun b hb => (by cases hb), l, rfl, fun h => ?_, fun h => ?_⟩
        · rw [show stuck l = false from h]; rfl
        · rw [show stuck l = true from h]; exact ⟨next1_none h, rfl⟩
      | some r =>
        obtain ⟨b, m⟩ := r
        have hless := next1_less hn
        obtain ⟨h1, h2⟩ := next1_form hn
        obtain ⟨i1, m', i2, i3, i4⟩ := ih m (by omega)
        rw [tell_some hn]
        refine ⟨fun x hx => ?_, m', ?_, i3, i4⟩
        · rcases List.mem_cons.1 hx with rfl | hx
          · exact h2
          · exact i1 x hx
        · rw [List.flatMap_cons, List.append_assoc, ← i2]; exact h1
  exact key l.length l (Nat.le_refl _)

/-- What told answers: the bodies in memory of their own. -/
structure ToldOut (w w' : World) (a : Option Addr) (c : Nat) (ps : List Pc) : Prop where
  cap : ps.length ≤ c
  own : w'.ownsRow w.heap.size 22 1 (.slice a ps.length c) ps.length (ps.map Pc.cell)
  ok : ∀ p ∈ ps, p.Ok w' ∧ p.Off (fun j => j < w.heap.size)

theorem toldB (B g : Nat) (l : List UInt8) (w : World) (h : InB B w g l false) (hl : l.length ≤ 80000) :
    Calls Tryd.prog 19 #[.pointer (some ⟨g, 0, none⟩)] w fun e w' => ∃ (a : Option Addr) (c : Nat) (ps : List Pc), e = .returned (.tuple #[.slice a ps.length c, .int .i64 (if (tell l).2.2 then 5 else 0)]) ∧ ToldOut w w' a c ps ∧ ps.map (·.l) = (tell l).1 ∧ InB B w' g (tell l).2.1 (tell l).2.2 ∧ Below B w w' := by
  obtain ⟨r, hi, hg, hr, hw⟩ := h.out
  refine (toldIn g r l w hi hl).mono ?_
  rintro _ w' ⟨a, c, ps, rfl, h1, h2, h3, h4, h5, h6⟩
  exact ⟨a, c, ps, rfl, ⟨h1, h2, h3⟩, h4, ⟨r, h5, hg, hr, Nat.le_trans hw h6.size⟩, frm_below (r := r) (h6.mono (Nat.le_refl _) (fun k _ h => Or.inl h)) hg hr hw⟩

theorem ToldOut.row {w w' wr : World} {a : Option Addr} {c : Nat} {ps : List Pc} (h : ToldOut w w' a c ps) (hB : Below w'.heap.size w' wr) (k : Nat) (hk : k < ps.length) :
    ∃ b off, a = some ⟨b, off, none⟩ ∧ wr.cell? ⟨b, off + k, none⟩ = some (.slice ps[k].a ps[k].n ps[k].c) ∧ RdB wr ps[k].a ps[k].l ∧ ps[k].l.length = ps[k].n ∧ ps[k].n ≤ ps[k].c := by
  have hr := (rdc_of_owns h.own).below hB (Nat.le_refl _)
  obtain ⟨b, off, rfl, _⟩ := hr.lt (by rw [List.length_map]; omega)
  have hc := hr.cell k (by rw [List.length_map]; exact hk)
  rw [List.getElem_map] at hc
  have hp := (h.ok ps[k] (List.getElem_mem hk)).1
  exact ⟨b, off, rfl, hc, hp.rd.below hB (Nat.le_refl _), hp.len, hp.fits⟩

theorem flat_take (bs : List (List UInt8)) (k : Nat) (h : k < bs.length) : (bs.take (k + 1)).flatMap parcel = (bs.take k).flatMap parcel ++ parcel bs[k] := by
  rw [List.take_succ_eq_append_getElem h, List.flatMap_append]
  simp
theorem parcel_length (l : List UInt8) : (parcel l).length = 4 + l.length := by unfold parcel; rw [List.length_append, len4_length]
theorem ToldOut.at {w w' wr : World} {a : Option Addr} {c : Nat} {ps : List Pc} {bs : List (List UInt8)} (h : ToldOut w w' a c ps) (hps : ps.map (·.l) = bs) (hB : Below w'.heap.size w' wr) (k : Nat) (hk : k < ps.length) :
    ∃ (p : Pc) (b off : Nat), a = some ⟨b, off, none⟩ ∧ wr.cell? ⟨b, off + k, none⟩ = some (.slice p.a p.n p.c) ∧ RdB wr p.a p.l ∧ p.l.length = p.n ∧ p.n ≤ p.c ∧ p.l ∈ bs ∧ (bs.take (k + 1)).flatMap parcel = (bs.take k).flatMap parcel ++ parcel p.l ∧ bs.take (k + 1) = bs.take k ++ [p.l] ∧ bs[k]? = some p.l := by
  obtain ⟨b, off, e, h1, h2, h3, h4⟩ := h.row hB k hk
  subst hps
  have hb : k < (ps.map (·.l)).length := by rw [List.length_map]; exact hk
  have hg : (ps.map (·.l))[k] = ps[k].l := List.getElem_map ..
  exact ⟨ps[k], b, off, e, h1, h2, h3, h4, by rw [← hg]; exact List.getElem_mem hb, by rw [flat_take _ k hb, hg], by rw [List.take_succ_eq_append_getElem hb, hg], by rw [List.getElem?_eq_getElem hb, hg]⟩
theorem flat_count (L : List (List UInt8)) : L.length * 4 ≤ (L.flatMap parcel).length := by
  induction L with
  | nil => simp
  | cons x L ih => rw [List.flatMap_cons, List.length_append, List.length_cons, parcel_length]; omega
theorem flat_le (bs : List (List UInt8)) (k : Nat) : ((bs.take k).flatMap parcel).length ≤ (bs.flatMap parcel).length := by
  have h := congrArg (fun x => (List.flatMap parcel x).length) (List.take_append_drop k bs)
  simp only [List.flatMap_append, List.length_append] at h
  omega

end Go.Proofs.YthgaghpakioglaaDoor
