/- Bodies that were put, told again as far as they are whole (no walk); what WireBack lays. -/
import Derived.Test.YthgaghpakioglaaDoorFedW
namespace Go.Proofs.YthgaghpakioglaaDoor
set_option linter.unusedSimpArgs false
set_option linter.unusedVariables false
open Go.RowKit
set_option maxRecDepth 10000

theorem parcel_short (b : List UInt8) (hm : mayB b.length = true) (e : Nat) (he : e < (parcel b).length) : tell ((parcel b).take e) = ([], (parcel b).take e, false) := by
  have hb2 : b.length ≤ 32768 := by unfold mayB at hm; have := of_decide_eq_true hm; omega
  obtain ⟨x, hx⟩ : ∃ x, (parcel b).take e = x := ⟨_, rfl⟩
  have hxl : x.length = e := by rw [← hx, List.length_take]; omega
  rw [hx]
  by_cases h4 : e < 4
  · have hn : next1 x = none := by unfold next1; rw [if_neg]; rintro ⟨h, _⟩; omega
    have hs : stuck x = false := by unfold stuck; rw [decide_eq_false (by omega)]; rfl
    rw [tell_none hn, hs]; rfl
  · have ht : x.take 4 = len4 b.length := by
      rw [← hx, List.take_take, Nat.min_eq_left (by omega)]
      unfold parcel
      rw [List.take_append_of_le_length (by rw [len4_length]; omega), List.take_of_length_le (by rw [len4_length]; omega)]
    have hnum : num4 (x.take 4) = b.length := by rw [ht]; exact len4_num _ (by omega)
    have hn : next1 x = none := by
      unfold next1
      rw [if_neg]
      rintro ⟨_, _, h⟩
      rw [hnum] at h
      rw [parcel_length] at he
      omega
    have hs : stuck x = false := by unfold stuck; rw [hnum, hm]; simp
    rw [tell_none hn, hs]; rfl

theorem tell_take (bs : List (List UInt8)) (hm : ∀ b ∈ bs, mayB b.length = true) : ∀ e, ∃ k R, k ≤ bs.length ∧ tell ((bs.flatMap parcel).take e) = (bs.take k, R, false) ∧ (k < bs.length → e < ((bs.take (k + 1)).flatMap parcel).length) ∧ ((bs.flatMap parcel).length ≤ e → k = bs.length ∧ R = []) := by
  induction bs with
  | nil =>
    intro e
    refine ⟨0, [], Nat.le_refl _, ?_, fun h => absurd h (by simp), fun _ => ⟨rfl, rfl⟩⟩
    rw [List.flatMap_nil, List.take_nil]
    rfl
  | cons b bs ih =>
    intro e
    have hb := hm b List.mem_cons_self
    by_cases he : (parcel b).length ≤ e
    · obtain ⟨k, R, h1, h2, h3, h4⟩ := ih (fun x hx => hm x (List.mem_cons_of_mem _ hx)) (e - (parcel b).length)
      refine ⟨k + 1, R, by simp; omega, ?_, ?_, ?_⟩
      · rw [List.flatMap_cons, List.take_append, List.take_of_length_le he, tell_some (next1_parcel b _ hb), h2]; rfl
      · intro hk
        have hk' : k < bs.length := by simpa using hk
        have := h3 hk'
        rw [List.take_succ_cons, List.flatMap_cons, List.length_append]; omega
      · intro hl
        rw [List.flatMap_cons, List.length_append] at hl
        obtain ⟨g1, g2⟩ := h4 (by omega)
        exact ⟨by simp [g1], g2⟩
    · refine ⟨0, (parcel b).take e, Nat.zero_le _, ?_, ?_, ?_⟩
      · rw [List.flatMap_cons, List.take_append_of_le_length (by omega), parcel_short b hb e (by omega)]; rfl
      · intro _
        rw [List.take_succ_cons, List.take_zero, List.flatMap_cons, List.flatMap_nil, List.append_nil]
        omega
      · intro hl
        rw [List.flatMap_cons, List.length_append] at hl
        omega

def pcOf (p : Piece) : Pc := ⟨p.a, p.n, p.c, p.l⟩
/-- The bodies that may be, as they lie. -/
def wnt (ps : List Piece) : List Pc := (ps.filter fun p => mayB p.l.length).map pcOf
theorem wnt_yes {ps : List Piece} {k : Nat} {p : Piece} (h : ps.take (k + 1) = ps.take k ++ [p]) (hm : mayB p.l.length = true) : wnt (ps.take (k + 1)) = wnt (ps.take k) ++ [pcOf p] := by
  unfold wnt
  rw [h, List.filter_append, List.map_append]
  simp [hm]
theorem wnt_no {ps : List Piece} {k : Nat} {p : Piece} (h : ps.take (k + 1) = ps.take k ++ [p]) (hm : mayB p.l.length = false) : wnt (ps.take (k + 1)) = wnt (ps.take k) := by
  unfold wnt
  rw [h, List.filter_append, List.map_append]
  simp [hm]
/-- Their bytes. -/
def bod (q : List Pc) : List (List UInt8) := q.map (·.l)
theorem wnt_may (ps : List Piece) : ∀ b ∈ bod (wnt ps), mayB b.length = true := by
  intro b hb
  unfold bod wnt at hb
  rw [List.map_map] at hb
  obtain ⟨p, hp, rfl⟩ := List.mem_map.1 hb
  exact (List.mem_filter.1 hp).2
theorem wnt_len (ps : List Piece) : (wnt ps).length ≤ ps.length := by
  unfold wnt
  rw [List.length_map]
  exact List.length_filter_le _ _
theorem wnt_mem {ps : List Piece} {x : Pc} (h : x ∈ wnt ps) : ∃ p ∈ ps, pcOf p = x := by
  unfold wnt at h
  obtain ⟨p, hp, rfl⟩ := List.mem_map.1 h
  exact ⟨p, (List.mem_filter.1 hp).1, rfl⟩
theorem wnt_le (ps : List Piece) (hl : ∀ p ∈ ps, p.l.length = p.n) : ((bod (wnt ps)).flatMap parcel).length ≤ total ps + 3 * ps.length := by
  induction ps with
  | nil => simp [wnt, bod]
  | cons p ps ih =>
    have h1 := ih (fun q hq => hl q (List.mem_cons_of_mem _ hq))
    have h2 := hl p List.mem_cons_self
    have e : total (p :: ps) = p.n + 1 + total ps := by unfold total; simp
    unfold wnt bod at *
    rw [List.filter_cons, List.length_cons]
    split
    · rw [List.map_cons, List.map_cons, List.flatMap_cons, List.length_append, parcel_length, e]
      show 4 + p.l.length + _ ≤ _
      omega
    · rw [e]; omega

/-- Where each body ends. -/
def endsI (bs : List (List UInt8)) : List Value := (List.range bs.length).map fun k => .int .i64 (((bs.take (k + 1)).flatMap parcel).length : Int)
theorem endsI_snoc (bs : List (List UInt8)) (b : List UInt8) : endsI (bs ++ [b]) = endsI bs ++ [.int .i64 ((((bs ++ [b]).flatMap parcel).length : Nat) : Int)] := by
  unfold endsI
  rw [List.length_append, List.length_singleton, List.range_succ, List.map_append, List.map_singleton]
  congr 1
  · apply List.map_congr_left
    intro k hk
    have hk' : k < bs.length := by simpa using hk
    rw [List.take_append_of_le_length (by omega)]
  · rw [List.take_of_length_le (by rw [List.length_append, List.length_singleton]; omega)]
theorem endsI_get (bs : List (List UInt8)) (k : Nat) (hk : k < bs.length) (hk' : k < (endsI bs).length) : (endsI bs)[k] = .int .i64 ((((bs.take (k + 1)).flatMap parcel).length : Nat) : Int) := by
  simp [endsI]
theorem endsI_length (bs : List (List UInt8)) : (endsI bs).length = bs.length := by simp [endsI]

theorem owns_other {w w' : World} {base base2 e e2 s s2 n n2 : Nat} {v v2 : Value} {xs xs2 : List Value} (h : w.ownsRow base e s v n xs) (h2 : w.ownsRow base2 e2 s2 v2 n2 xs2) (hne : e ≠ e2) (hg : w.grownBy w' v.ownBlock) : w'.ownsRow base2 e2 s2 v2 n2 xs2 := by
  refine ⟨h2.1, ?_⟩
  rcases h2.2 with q | ⟨g', cap, cur, hv, hg', hh, q⟩
  · exact .inl q
  · refine .inr ⟨g', cap, cur, hv, hg', ?_, q⟩
    rw [hg.block g' (Array.getElem?_eq_some_iff.1 hh).1 (fun e3 => ?_)]
    · exact hh
    · rcases h.2 with ⟨rfl, _⟩ | ⟨g2, cap2, cur2, rfl, _, hh2, _⟩
      · cases e3
      · have e4 : g2 = g' := (Option.some.inj e3).symm
        rw [e4, hh] at hh2
        cases hh2
        exact hne rfl

theorem intInfo : (Tryd.prog.info? 3).map (fun i => (i.zero, i.size, i.bytes)) = some (some (.int .i64 0), 1, 8) := by kernel_rfl
/-- 'append(ends, n)'. -/
theorem appNum (w : World) (m : Int) {ops : Array Oper} {rest : List Oper} {o : Oper} {a : Act} {Q : Exit → Act → World → Prop} (hgd : o.guard = none) (s y : Operand)
    (ho : o.op = .call { callee := .builtin .append, args := #[s, y], argTypes := #[34, 34] })
    (base : Nat) (v : Value) (n : Nat) (xs : List Value) (hsv : a.eval s = v) (hown : w.ownsRow base 3 1 v n xs)
    (hxv : a.eval y = .slice (some ⟨w.heap.size, 0, none⟩) 1 1) (hb : n ≤ 1000000) (hbase : base ≤ w.heap.size)
    (h : ∀ v' w', w'.ownsRow base 3 1 v' (n + 1) (xs ++ [.int .i64 m]) → w.grownBy w' v.ownBlock → wpList Tryd.prog ops Q rest (a.put o.dst v') w') :
    wpList Tryd.prog ops Q (o :: rest) a (w.alloc (.cells #[.int .i64 m] 3)) := by
  obtain ⟨i0, hi, hz0, hz1, hz2⟩ := info_parts intInfo
  have hc := cell_one_new w (.int .i64 m) 3 0 _ rfl
  refine wpList_app _ hgd s y 34 34 ho base 3 i0 _ 1 8 Tryd.underlying34 hi hz0 hz1 hz2 rfl v n xs hsv (hown.alloc _) _ hxv 1 [.int .i64 m] (Src.ofSlice _ Tryd.underlying34 _ 1 1 _ rfl (by intro j u hj; cases j with | zero => simp at hj; subst hj; exact hc | succ j => simp at hj) (by simp [Value.oneCell'])) (by unfold maxLen; omega) (by omega) (by simp; omega) ?_
  intro v' w' h1 h2
  exact h v' w' h1 ((World.grownBy_alloc w _ _).trans h2)

/-- What was laid of some bodies. -/
structure LaidW (w0 wr : World) (vb vw ve : Value) (q : List Pc) : Prop where
  b : wr.ownsRow w0.heap.size 5 1 vb ((bod q).flatMap parcel).length (bvs ((bod q).flatMap parcel))
  want : wr.ownsRow w0.heap.size 22 1 vw q.length (q.map Pc.cell)
  ends : wr.ownsRow w0.heap.size 3 1 ve q.length (endsI (bod q))
  blw : Below w0.heap.size w0 wr

abbrev PairS (wb : World) (b1 o1 b2 o2 : Nat) (v1 v2 : Value) (w' : World) : Prop := (w'.cell? ⟨b1, o1, none⟩ = some v1 ∧ w'.cell? ⟨b2, o2, none⟩ = some v2) ∧ Below wb.heap.size wb w'
theorem pairs_below {wb w1 w2 : World} {b1 o1 b2 o2 : Nat} {v1 v2 : Value} (h : PairS wb b1 o1 b2 o2 v1 v2 w1) (hb : Below w1.heap.size w1 w2) : PairS wb b1 o1 b2 o2 v1 v2 w2 :=
  ⟨⟨cell_below hb h.1.1 (Nat.le_refl _), cell_below hb h.1.2 (Nat.le_refl _)⟩, h.2.trans (hb.mono h.2.size)⟩

/-- From one beginning to a longer one. -/
theorem tell_more {bs : List (List UInt8)} (hm : ∀ b ∈ bs, mayB b.length = true) {i s k0 : Nat} {R : List UInt8} (h : tell ((bs.flatMap parcel).take i) = (bs.take k0, R, false)) (hk0 : k0 ≤ bs.length) (x : List UInt8) (hx : (bs.flatMap parcel).take i ++ x = (bs.flatMap parcel).take (i + s)) :
    ∃ k1 R1, k0 ≤ k1 ∧ k1 ≤ bs.length ∧ tell (R ++ x) = ((bs.take k1).drop k0, R1, false) ∧ tell ((bs.flatMap parcel).take (i + s)) = (bs.take k1, R1, false) ∧ (k1 < bs.length → i + s < ((bs.take (k1 + 1)).flatMap parcel).length) := by
  obtain ⟨k1, R1, h1, h2, h3, _⟩ := tell_take bs hm (i + s)
  have ha := tell_append_no ((bs.flatMap parcel).take i) x (by rw [h])
  rw [hx, h2, h] at ha
  simp only [Prod.mk.injEq] at ha
  obtain ⟨e1, e2⟩ := ha
  have hl := congrArg List.length e1
  rw [List.length_append, List.length_take, List.length_take, Nat.min_eq_left h1, Nat.min_eq_left hk0] at hl
  refine ⟨k1, R1, by omega, h1, ?_, h2, h3⟩
  have hd : (tell (R ++ x)).1 = (bs.take k1).drop k0 := by
    rw [e1, List.drop_left' (by rw [List.length_take, Nat.min_eq_left hk0])]
  rw [← hd, e2]

end Go.Proofs.YthgaghpakioglaaDoor
