/- StreamsKnown: what its calls leave. -/
import Derived.Test.YthgaghpakioglaaStrR
import Derived.Test.YthgaghpakioglaaFull18
namespace Go.Proofs.Ythgaghpakioglaa
set_option linter.unusedSimpArgs false
set_option linter.unusedVariables false
open Go.RowKit
set_option maxRecDepth 10000

theorem appS_read (st su : ByteArray) (us : Int) : ∀ (bs : List (List UInt8)) (es : List EvS) (i : Nat), readS (appS st su us es i bs) st 1 = appS st su us es i bs
  | [], _, _ => rfl
  | b :: r, es, i => by
    have h := appS_read st su us r (es ++ [⟨st, su, (cntS es st : Int) + 1, (es.length : Int) + 1, useI us i, b⟩]) (i + 1)
    unfold readS at h ⊢
    simp only [appS, List.filter_cons, true_and]
    rw [h, if_pos (by rw [decide_eq_true_eq]; omega)]
theorem readS_append (a b : List EvS) (s : ByteArray) (fr : Int) : readS (a ++ b) s fr = readS a s fr ++ readS b s fr := by unfold readS; exact List.filter_append ..
theorem names_old (st su : ByteArray) (us : Int) : ∀ (bs : List (List UInt8)) (es : List EvS) (i : Nat), cntS es st ≠ 0 → namesS (es ++ appS st su us es i bs) = namesS es
  | [], es, i, h => by simp [appS]
  | b :: r, es, i, h => by
    obtain ⟨x, hx⟩ : ∃ x : EvS, (⟨st, su, (cntS es st : Int) + 1, (es.length : Int) + 1, useI us i, b⟩ : EvS) = x := ⟨_, rfl⟩
    have hst : x.st = st := by rw [← hx]
    have h1 : namesS (es ++ [x]) = namesS es := by rw [namesS_snoc, hst, if_neg h]
    have h2 := names_old st su us r (es ++ [x]) (i + 1) (by rw [cntS_append]; simp [cntS, hst])
    simp only [appS, hx]
    rw [show es ++ x :: appS st su us (es ++ [x]) (i + 1) r = es ++ [x] ++ appS st su us (es ++ [x]) (i + 1) r by simp, h2, h1]
theorem names_new (st su : ByteArray) (us : Int) (b : List UInt8) (r : List (List UInt8)) (es : List EvS) (i : Nat) (h : cntS es st = 0) : namesS (es ++ appS st su us es i (b :: r)) = namesS es + 1 := by
  obtain ⟨x, hx⟩ : ∃ x : EvS, (⟨st, su, (cntS es st : Int) + 1, (es.length : Int) + 1, useI us i, b⟩ : EvS) = x := ⟨_, rfl⟩
  have hst : x.st = st := by rw [← hx]
  have h1 : namesS (es ++ [x]) = namesS es + 1 := by rw [namesS_snoc, hst, if_pos h]
  have h2 := names_old st su us r (es ++ [x]) (i + 1) (by rw [cntS_append]; simp [cntS, hst])
  simp only [appS, hx]
  rw [show es ++ x :: appS st su us (es ++ [x]) (i + 1) r = es ++ [x] ++ appS st su us (es ++ [x]) (i + 1) r by simp, h2, h1]

/-- The tenants, and a piece that came in beside them. -/
structure KSt (w0 w : World) (F : Nat → Prop) (g cnt : Nat) (φ : ByteArray → List EvS) (pb qb : Nat) : Prop where
  s : StrS w F g cnt φ
  b : Below w0.heap.size w0 w
  f : ∀ k, F k → w0.heap.size ≤ k
  n : ¬ F pb ∧ ¬ F qb ∧ pb < w.heap.size ∧ qb < w.heap.size
  p : Pieces w (some ⟨pb, 0, none⟩) [⟨some ⟨qb, 0, none⟩, 1, 1, [1]⟩]
theorem Pieces.below {w w' : World} {a : Option Addr} {ps : List Piece} (h : Pieces w a ps) (hb : Below w.heap.size w w') : Pieces w' a ps :=
  ⟨h.rd.below hb (Nat.le_refl _), fun p hm => ⟨(h.ok p hm).len, (h.ok p hm).fits, (h.ok p hm).max, (h.ok p hm).rd.below hb (Nat.le_refl _)⟩⟩
theorem KSt.below {w0 w w' : World} {F : Nat → Prop} {g cnt : Nat} {φ : ByteArray → List EvS} {pb qb : Nat} (h : KSt w0 w F g cnt φ pb qb) (hb : Below w.heap.size w w') : KSt w0 w' F g cnt φ pb qb :=
  ⟨h.s.below hb, h.b.trans (hb.mono h.b.size), h.f, ⟨h.n.1, h.n.2.1, Nat.lt_of_lt_of_le h.n.2.2.1 hb.size, Nat.lt_of_lt_of_le h.n.2.2.2 hb.size⟩, h.p.below hb⟩
def AppK (w0 w : World) (F : Nat → Prop) (g cnt : Nat) (φ : ByteArray → List EvS) (pb qb : Nat) (name : ByteArray) (L : List EvS) (e : Ending) (w' : World) : Prop :=
  ∃ (a : Option Addr) (c : Nat) (F' : Nat → Prop), e = .returned (.tuple #[.slice a L.length c, .int .i64 0]) ∧ L.length ≤ c ∧ KSt w0 w' F' g (cnt + 1) (putS φ name L) pb qb ∧ EvRow w' w.heap.size F' a c L ∧ (∀ k, F' k → F k ∨ w.heap.size ≤ k) ∧ Frm w.heap.size F w w'
theorem appendK {w0 w : World} {F : Nat → Prop} {g cnt : Nat} {φ : ByteArray → List EvS} {pb qb : Nat} (h : KSt w0 w F g cnt φ pb qb) (name st su : ByteArray) (us : Int) (a : Option Addr) (n c : Nat) (ps : List Piece) (L : List EvS) (hL : appS st su us (φ name) 0 (ps.map (·.l)) = L)
    (hnm : name.size ≤ maxLen) (hst : st.size ≤ maxLen ∧ su.size ≤ maxLen) (hus : -9223372036854775808 ≤ us ∧ us ≤ 9223372036854775807) (hP : Pieces w a ps) (ha : ∀ b o, a = some ⟨b, o, none⟩ → ¬ F b) (hp : ∀ p ∈ ps, ∀ b o, p.a = some ⟨b, o, none⟩ → ¬ F b)
    (hl : ps.length = n) (hc : n ≤ c) (hcnt : cnt ≤ 1000000) (hbig : (φ name).length + n ≤ 1000) :
    Calls Try.prog 11 #[.pointer (some ⟨g, 0, none⟩), .string name, .string st, .string su, .int .i64 us, .slice a n c] w (AppK w0 w F g cnt φ pb qb name L) := by
  refine (appendS h.s name st su us a n c ps hnm hst hus (fun wq hq => hP.frm hq ha hp) hl hc hcnt hbig).mono ?_
  rintro e w' ⟨a', c', F', rfl, k1, k2, k3, k4, k5, k6⟩
  rw [hL] at k1 k2 k3 ⊢
  have hs := h.b.size
  have hs2 := k6.size
  have hno : ∀ k, ¬ F k → k < w.heap.size → ¬ F' k := fun k h1 h2 h3 => by
    rcases k4 k h3 with h4 | h4
    · exact h1 h4
    · omega
  refine ⟨a', c', F', rfl, k1, ⟨k2, h.b.trans ⟨k6.os, k6.tape, k6.output, k6.size, fun k hk => k6.block k (by omega) (fun hh => by have := h.f k hh; omega)⟩, fun k hk => ?_, ⟨hno _ h.n.1 h.n.2.2.1, hno _ h.n.2.1 h.n.2.2.2, by have := h.n.2.2.1; omega, by have := h.n.2.2.2; omega⟩, ?_⟩, k3, k4, k6⟩
  · rcases k4 k hk with h4 | h4
    · exact h.f k h4
    · omega
  · exact h.p.frm k6 (fun b o e => by cases e; exact h.n.1) (fun p hm b o e => by rw [List.mem_singleton.1 hm] at e; cases e; exact h.n.2.1)
/-- An Append of the piece that came in. -/
theorem appendOne {w0 w : World} {F : Nat → Prop} {g cnt : Nat} {φ : ByteArray → List EvS} {pb qb : Nat} (h : KSt w0 w F g cnt φ pb qb) (name st su : ByteArray) (us : Int) (L : List EvS) (hL : appS st su us (φ name) 0 [[1]] = L)
    (hnm : name.size ≤ maxLen) (hst : st.size ≤ maxLen ∧ su.size ≤ maxLen) (hus : -9223372036854775808 ≤ us ∧ us ≤ 9223372036854775807) (hcnt : cnt ≤ 1000000) (hbig : (φ name).length + 1 ≤ 1000) :
    Calls Try.prog 11 #[.pointer (some ⟨g, 0, none⟩), .string name, .string st, .string su, .int .i64 us, .slice (some ⟨pb, 0, none⟩) 1 1] w (AppK w0 w F g cnt φ pb qb name L) :=
  appendK h name st su us (some ⟨pb, 0, none⟩) 1 1 [⟨some ⟨qb, 0, none⟩, 1, 1, [1]⟩] L hL hnm hst hus h.p (fun b o e => by cases e; exact h.n.1) (fun p hm b o e => by rw [List.mem_singleton.1 hm] at e; cases e; exact h.n.2.1) rfl (Nat.le_refl _) hcnt hbig

def sK1 : List EvS := [⟨⟨#[97]⟩, ⟨#[115]⟩, 1, 1, 1, [1]⟩, ⟨⟨#[97]⟩, ⟨#[115]⟩, 2, 2, 2, [2]⟩]
def sK2 : List EvS := [⟨⟨#[98]⟩, ⟨#[115]⟩, 1, 3, 3, [1]⟩]
def sKB : List EvS := [⟨⟨#[97]⟩, ⟨#[115]⟩, 1, 1, 1, [1]⟩]
def sK4 : List EvS := [⟨⟨#[97]⟩, ⟨#[116]⟩, 3, 4, 6, [1]⟩]
def sφ1 : ByteArray → List EvS := putS (fun _ => []) ⟨#[97, 110, 110]⟩ sK1
def sφ2 : ByteArray → List EvS := putS sφ1 ⟨#[97, 110, 110]⟩ sK2
def sφ3 : ByteArray → List EvS := putS sφ2 ⟨#[98, 111, 98]⟩ sKB
def sφ4 : ByteArray → List EvS := putS sφ3 ⟨#[97, 110, 110]⟩ sK4
def sφ5 : ByteArray → List EvS := putS sφ4 ⟨#[97, 110, 110]⟩ []
theorem s_app1 : appS ⟨#[97]⟩ ⟨#[115]⟩ 0 [] 0 [[1], [2]] = sK1 := by kernel_rfl
theorem s_app2 : appS ⟨#[98]⟩ ⟨#[115]⟩ 2 (sφ1 ⟨#[97, 110, 110]⟩) 0 [[1]] = sK2 := by kernel_rfl
theorem s_appB : appS ⟨#[97]⟩ ⟨#[115]⟩ 0 (sφ2 ⟨#[98, 111, 98]⟩) 0 [[1]] = sKB := by kernel_rfl
theorem s_app4 : appS ⟨#[97]⟩ ⟨#[116]⟩ 5 (sφ3 ⟨#[97, 110, 110]⟩) 0 [[1]] = sK4 := by kernel_rfl
theorem s_at1 : (sφ1 ⟨#[97, 110, 110]⟩).length = 2 := by kernel_rfl
theorem s_at2 : (sφ2 ⟨#[98, 111, 98]⟩).length = 0 := by kernel_rfl
theorem s_at3 : (sφ3 ⟨#[97, 110, 110]⟩).length = 3 := by kernel_rfl
theorem s_at4 : (sφ4 ⟨#[97, 110, 110]⟩).length = 4 := by kernel_rfl
theorem s_at5 : (sφ5 ⟨#[97, 110, 110]⟩).length = 4 := by kernel_rfl
def sRA : List EvS := [⟨⟨#[97]⟩, ⟨#[115]⟩, 2, 2, 2, [2]⟩, ⟨⟨#[97]⟩, ⟨#[116]⟩, 3, 4, 6, [1]⟩]
theorem s_ra : (readS (sφ4 ⟨#[97, 110, 110]⟩) ⟨#[97]⟩ 2).take (min (9 : Int) 64).toNat = sRA := by kernel_rfl
def sRB : List EvS := [⟨⟨#[98]⟩, ⟨#[115]⟩, 1, 3, 3, [1]⟩, ⟨⟨#[97]⟩, ⟨#[116]⟩, 3, 4, 6, [1]⟩]
theorem s_rb : ((sφ4 ⟨#[97, 110, 110]⟩).drop (max (3 : Int) 1 - 1).toNat).take (min (9 : Int) 64).toNat = sRB := by kernel_rfl
theorem s_rc : (readS (sφ4 ⟨#[97, 110, 110]⟩) ⟨#[97]⟩ 4).take (min (9 : Int) 64).toNat = [] := by kernel_rfl
def sRD : List EvS := [⟨⟨#[97]⟩, ⟨#[115]⟩, 1, 1, 1, [1]⟩]
theorem s_rd : ((sφ4 ⟨#[97, 110, 110]⟩).drop (max (-9223372036854775808 : Int) 1 - 1).toNat).take (min (1 : Int) 64).toNat = sRD := by kernel_rfl
theorem s_rf : ((sφ4 ⟨#[97, 110, 110]⟩).drop (max (1 : Int) 1 - 1).toNat).take (min (-1 : Int) 64).toNat = [] := by kernel_rfl
theorem s_rg : ((sφ4 ⟨#[97, 110, 110]⟩).drop (max (9223372036854775807 : Int) 1 - 1).toNat).take (min (5 : Int) 64).toNat = [] := List.eq_nil_of_length_eq_zero (by rw [List.length_take, List.length_drop, s_at4]; omega)
theorem s_c1 : cntS (sφ5 ⟨#[97, 110, 110]⟩) ⟨#[97]⟩ = 3 := by kernel_rfl
theorem s_c3 : namesS (sφ5 ⟨#[97, 110, 110]⟩) = 2 := by kernel_rfl
theorem s_c4 : (sφ5 ⟨#[98, 111, 98]⟩).length = 1 := by kernel_rfl
theorem s_c5 : (sφ5 ⟨#[]⟩).length = 0 := by kernel_rfl
theorem s_c6 : namesS (sφ5 ⟨#[101, 118, 101]⟩) = 0 := by kernel_rfl
theorem s_c7 : szS (sφ5 ⟨#[101, 118, 101]⟩) = 0 := by kernel_rfl
theorem s_c8 : cntS (sφ5 ⟨#[101, 118, 101]⟩) ⟨#[97]⟩ = 0 := by kernel_rfl
def sKD : List EvS := appS ⟨#[100]⟩ ⟨#[115]⟩ 0 (sφ5 ⟨#[97, 110, 110]⟩) 0 ((List.replicate 200 nilP).map (·.l))
def sφ6 : ByteArray → List EvS := putS sφ5 ⟨#[97, 110, 110]⟩ sKD
theorem sKD_len : sKD.length = 200 := by unfold sKD; rw [appS_length, List.length_map, List.length_replicate]
theorem s_at6 : sφ6 ⟨#[97, 110, 110]⟩ = sφ5 ⟨#[97, 110, 110]⟩ ++ sKD := by unfold sφ6 putS; rw [if_pos rfl]
theorem s_d1 : (((sφ6 ⟨#[97, 110, 110]⟩).drop (max (1 : Int) 1 - 1).toNat).take (min (4611686018427387904 : Int) 64).toNat).length = 64 := by
  rw [List.length_take, List.length_drop, s_at6, List.length_append, s_at5, sKD_len]; rfl
theorem s_d2 : ((readS (sφ6 ⟨#[97, 110, 110]⟩) ⟨#[100]⟩ 1).take (min (65 : Int) 64).toNat).length = 64 := by
  rw [List.length_take, s_at6, readS_append]
  have h : readS sKD ⟨#[100]⟩ 1 = sKD := appS_read _ _ _ _ _ _
  rw [h, List.length_append, sKD_len]
  have h2 : (min (65 : Int) 64).toNat = 64 := rfl
  omega
theorem s_d3 : namesS (sφ6 ⟨#[97, 110, 110]⟩) = 3 := by
  rw [s_at6]
  have h := names_new ⟨#[100]⟩ ⟨#[115]⟩ 0 [] ((List.replicate 199 nilP).map (·.l)) (sφ5 ⟨#[97, 110, 110]⟩) 0 (by kernel_rfl)
  rw [s_c3] at h
  exact h
theorem mkBs (W : World) (p : Nat) (hp : p ≤ 300) : (Instr.makeSlice 30 (.int .i64 (p : Int)) (.int .i64 (p : Int))).run Try.prog W = .ok (.slice (some ⟨W.heap.size, 0, none⟩) p p) (W.alloc (.cells (List.replicate p (Value.slice none 0 0)).toArray 51)) := by
  obtain ⟨i0, hi, hz0, hz1, hz2⟩ := info_parts bsInfo
  have h := run_makeSlice (P := Try.prog) W 30 51 i0 (.slice none 0 0) Try.underlying30 hi hz0 .i64 .i64 (p : Int) (p : Int) (by omega) (by omega) (by rw [hz1]; omega) (by rw [hz2]; omega) (by omega)
  have e : madeCells (Value.slice none 0 0).cells ((p : Int).toNat * i0.size) = (List.replicate p (Value.slice none 0 0)).toArray := by
    rw [hz1]
    apply Array.ext_getElem?
    intro j
    by_cases hj : j < p
    · simp [madeCells, Value.cells, hj, Nat.mod_one]
    · simp [madeCells, Value.cells, hj]
  rw [e] at h
  simpa using h

end Go.Proofs.Ythgaghpakioglaa
