/- Tenants' events by what they say: the contracts that the laws use. -/
import Derived.Test.YthgaghpakioglaaStrG
namespace Go.Proofs.Ythgaghpakioglaa
set_option linter.unusedSimpArgs false
set_option linter.unusedVariables false
open Go.RowKit
set_option maxRecDepth 10000

/-- The tenants at g say φ. -/
structure StrS (w : World) (F : Nat → Prop) (g cnt : Nat) (φ : ByteArray → List EvS) : Prop where
  out : ∃ S f, StrAt w S F g cnt f ∧ ∀ s, (f s).map Ev.sem = φ s
  low : ∀ k, F k → k < w.heap.size
theorem StrS.below {w w' : World} {F : Nat → Prop} {g cnt : Nat} {φ : ByteArray → List EvS} (h : StrS w F g cnt φ) (hb : Below w.heap.size w w') : StrS w' F g cnt φ := by
  obtain ⟨S, f, h1, h2⟩ := h.out
  exact ⟨⟨S, f, h1.below hb, h2⟩, fun k hk => Nat.lt_of_lt_of_le (h.low k hk) hb.size⟩
theorem StrS.keep {w w' : World} {F : Nat → Prop} {g cnt : Nat} {φ : ByteArray → List EvS} (h : StrS w F g cnt φ) (hk : ∀ k, F k → w'.heap[k]? = w.heap[k]?) (hs : w.heap.size ≤ w'.heap.size) : StrS w' F g cnt φ := by
  obtain ⟨S, f, h1, h2⟩ := h.out
  exact ⟨⟨S, f, h1.keep hk hs, h2⟩, fun k hk => Nat.lt_of_lt_of_le (h.low k hk) hs⟩
theorem StrS.more {w : World} {F : Nat → Prop} {g cnt cnt' : Nat} {φ : ByteArray → List EvS} (h : StrS w F g cnt φ) (hc : cnt ≤ cnt') : StrS w F g cnt' φ := by
  obtain ⟨S, f, h1, h2⟩ := h.out
  obtain ⟨b, n, fm, k1, k2⟩ := h1.x
  exact ⟨⟨S, f, k2.at_ (Nat.le_trans k1 hc), h2⟩, h.low⟩
/-- Events that say L, in a row of their own; F: what they do not lie in. -/
structure EvRow (w : World) (base : Nat) (F : Nat → Prop) (a : Option Addr) (c : Nat) (L : List EvS) : Prop where
  out : ∃ outs : List Ev, outs.map Ev.sem = L ∧ w.ownsRow base 54 6 (.slice a L.length c) L.length (outs.flatMap Ev.cells) ∧ (∀ k, (Value.slice a L.length c).ownBlock = some k → ¬ F k) ∧ ∀ x ∈ outs, x.Rd base w ∧ (0 < x.sl.length → ∀ b o, x.sa = some ⟨b, o, none⟩ → ¬ F b)
theorem EvRow.frm {w w' : World} {base n : Nat} {F F' : Nat → Prop} {a : Option Addr} {c : Nat} {L : List EvS} (h : EvRow w base F a c L) (hF : Frm n F w w') (hn : w.heap.size ≤ n) (hFF : ∀ k, F' k → F k ∨ w.heap.size ≤ k) : EvRow w' base F' a c L := by
  obtain ⟨outs, h1, h2, h3, h4⟩ := h.out
  have hlt : ∀ k, (Value.slice a L.length c).ownBlock = some k → k < w.heap.size := fun k e => (h2.lt k e).2
  refine ⟨outs, h1, owns_blk h2 (fun k e => hF.block k (Nat.lt_of_lt_of_le (hlt k e) hn) (h3 k e)), fun k e hk => ?_, fun x hx => ⟨(h4 x hx).1.frm hF hn (h4 x hx).2, fun h0 b o e hk => ?_⟩⟩
  · rcases hFF k hk with h | h
    · exact h3 k e h
    · have := hlt k e; omega
  · rcases hFF b hk with h | h
    · exact (h4 x hx).2 h0 b o e h
    · obtain ⟨b', o', c', fr', e', hb⟩ := (h4 x hx).1.ty h0
      rw [e] at e'; cases e'
      have := lt_of_get hb
      omega
theorem EvRow.below {w w' : World} {base : Nat} {F : Nat → Prop} {a : Option Addr} {c : Nat} {L : List EvS} (h : EvRow w base F a c L) (hb : Below w.heap.size w w') : EvRow w' base F a c L := h.frm (Frm.ofBelow hb) (Nat.le_refl _) (fun _ h => .inl h)
/-- The cells of one of them. -/
theorem EvRow.get {w : World} {base : Nat} {F : Nat → Prop} {a : Option Addr} {c : Nat} {L : List EvS} (h : EvRow w base F a c L) (m : Nat) (e : EvS) (hm : L[m]? = some e) :
    ∃ b o, a = some ⟨b, o, none⟩ ∧ ∃ sa sn sc, (Ev.mk e.st e.su e.v e.p e.u sa sn sc e.sl).Rd base w ∧ ∀ j u, ((Ev.mk e.st e.su e.v e.p e.u sa sn sc e.sl).cells)[j]? = some u → w.cell? ⟨b, o + m * 6 + j, none⟩ = some u := by
  obtain ⟨outs, h1, h2, h3, h4⟩ := h.out
  rw [← h1, List.getElem?_map] at hm
  obtain ⟨x, hx, rfl⟩ := Option.map_eq_some_iff.1 hm
  obtain ⟨hl, rfl⟩ := List.getElem?_eq_some_iff.1 hx
  obtain ⟨b, o, rfl, hc⟩ := ev_cells (rdc_of_owns h2) m hl
  exact ⟨b, o, rfl, outs[m].sa, outs[m].sn, outs[m].sc, (h4 _ (List.getElem_mem hl)).1, hc⟩

def putS (φ : ByteArray → List EvS) (s : ByteArray) (L : List EvS) : ByteArray → List EvS := fun t => if t = s then φ s ++ L else φ t
def AppR (w : World) (F : Nat → Prop) (g cnt : Nat) (φ : ByteArray → List EvS) (name : ByteArray) (L : List EvS) (e : Ending) (w' : World) : Prop :=
  ∃ (a : Option Addr) (c : Nat) (F' : Nat → Prop), e = .returned (.tuple #[.slice a L.length c, .int .i64 0]) ∧ L.length ≤ c ∧ StrS w' F' g (cnt + 1) (putS φ name L) ∧ EvRow w' w.heap.size F' a c L ∧ (∀ k, F' k → F k ∨ w.heap.size ≤ k) ∧ (∀ k, F k → F' k) ∧ Frm w.heap.size F w w'
theorem appendS {w : World} {F : Nat → Prop} {g cnt : Nat} {φ : ByteArray → List EvS} (h : StrS w F g cnt φ) (name st su : ByteArray) (us : Int) (a : Option Addr) (n c : Nat) (ps : List Piece) (hnm : name.size ≤ maxLen) (hst : st.size ≤ maxLen ∧ su.size ≤ maxLen) (hus : -9223372036854775808 ≤ us ∧ us ≤ 9223372036854775807)
    (hP : ∀ wq, Frm w.heap.size F w wq → Pieces wq a ps) (hl : ps.length = n) (hc : n ≤ c) (hcnt : cnt ≤ 1000000) (hbig : (φ name).length + n ≤ 1000) :
    Calls Try.prog 11 #[.pointer (some ⟨g, 0, none⟩), .string name, .string st, .string su, .int .i64 us, .slice a n c] w (AppR w F g cnt φ name (appS st su us (φ name) 0 (ps.map (·.l)))) := by
  obtain ⟨S, f, h1, h2⟩ := h.out
  have hb : (f name).length + n ≤ 1000 := by rw [← List.length_map (f := Ev.sem), h2]; exact hbig
  refine (strAppend S F g cnt f name st su us a n c ps w h1 hnm hst hus hP hl hc hcnt hb).mono ?_
  rintro e w' ⟨a', c', rfl, k1, S', F', b, m, tb, fm, f', outs, k2, k3, k4, k5, k6, k7, k8, k9, k10, k11, k12, k13⟩
  rw [h2] at k1 k8 k10 k11 k12 ⊢
  have hat := k2.at_ k3
  refine ⟨a', c', F', rfl, k1, ⟨⟨S', f', hat, fun s => ?_⟩, hat.low⟩, ⟨outs, k10, k11, k12, k13⟩, k5, k6, k7⟩
  unfold putS
  by_cases hs : s = name
  · rw [if_pos hs, hs, k8]
  · rw [if_neg hs, k9 s hs, h2]
theorem appendNoS {w : World} {F : Nat → Prop} {g cnt : Nat} {φ : ByteArray → List EvS} (h : StrS w F g cnt φ) (name st su : ByteArray) (us : Int) (a : Option Addr) (n c : Nat) (hnm : name.size ≤ maxLen) (hc : n ≤ c) (hmx : n ≤ 9223372036854775807) (hbig : 1000 < (φ name).length + n) :
    Calls Try.prog 11 #[.pointer (some ⟨g, 0, none⟩), .string name, .string st, .string su, .int .i64 us, .slice a n c] w fun e w' => e = .returned (.tuple #[.slice none 0 0, .int .i64 3]) ∧ StrS w' F g cnt φ ∧ Below w.heap.size w w' := by
  obtain ⟨S, f, h1, h2⟩ := h.out
  refine (strAppendNo S F g cnt f name st su us a n c w h1 hnm hc hmx (by rw [← List.length_map (f := Ev.sem), h2]; exact hbig)).mono ?_
  rintro e w' ⟨rfl, k1, k2⟩
  exact ⟨rfl, ⟨⟨S, f, k1, h2⟩, k1.low⟩, k2⟩
theorem newS (w : World) : Calls Try.prog 9 #[] w fun e w' => ∃ g F, e = .returned (.pointer (some ⟨g, 0, none⟩)) ∧ StrS w' F g 0 (fun _ => []) ∧ (∀ k, F k → w.heap.size ≤ k) ∧ Below w.heap.size w w' := by
  refine (strNew w).mono ?_
  rintro _ w1 ⟨g, rfl, h1, h2⟩
  exact ⟨g, _, rfl, ⟨⟨_, _, h1, fun _ => rfl⟩, h1.low⟩, fun k hk => hk.1, h2⟩
theorem countS {w : World} {F : Nat → Prop} {g cnt : Nat} {φ : ByteArray → List EvS} (h : StrS w F g cnt φ) (s : ByteArray) (hs : s.size ≤ maxLen) : Calls Try.prog 12 #[.pointer (some ⟨g, 0, none⟩), .string s] w fun e w' => e = .returned (.int .i64 ((φ s).length : Int)) ∧ Below w.heap.size w w' := by
  obtain ⟨S, f, h1, h2⟩ := h.out
  rw [← h2, List.length_map]
  exact strCount S F g cnt f s w h1 hs
theorem versionS {w : World} {F : Nat → Prop} {g cnt : Nat} {φ : ByteArray → List EvS} (h : StrS w F g cnt φ) (s t : ByteArray) (hs : s.size ≤ maxLen) (ht : t.size ≤ maxLen) : Calls Try.prog 13 #[.pointer (some ⟨g, 0, none⟩), .string s, .string t] w fun e w' => e = .returned (.int .i64 (cntS (φ s) t : Int)) ∧ Below w.heap.size w w' := by
  obtain ⟨S, f, h1, h2⟩ := h.out
  rw [← h2, ← idxOf_length]
  exact strVersion S F g cnt f s t w h1 hs ht
theorem namesSS {w : World} {F : Nat → Prop} {g cnt : Nat} {φ : ByteArray → List EvS} (h : StrS w F g cnt φ) (s : ByteArray) (hs : s.size ≤ maxLen) : Calls Try.prog 14 #[.pointer (some ⟨g, 0, none⟩), .string s] w fun e w' => e = .returned (.int .i64 (namesS (φ s) : Int)) ∧ Below w.heap.size w w' := by
  obtain ⟨S, f, h1, h2⟩ := h.out
  rw [← h2, ← namesOf_sem]
  exact strNames S F g cnt f s w h1 hs
theorem sizeS {w : World} {F : Nat → Prop} {g cnt : Nat} {φ : ByteArray → List EvS} (h : StrS w F g cnt φ) (s : ByteArray) (hs : s.size ≤ maxLen) : Calls Try.prog 20 #[.pointer (some ⟨g, 0, none⟩), .string s] w fun e w' => e = .returned (.int .i64 (szS (φ s) : Int)) ∧ Below w.heap.size w w' := by
  obtain ⟨S, f, h1, h2⟩ := h.out
  have hl : ∀ e ∈ f s, e.sl.length = e.sn := by
    obtain ⟨b, n, fm, hx⟩ := h1.x
    cases hf : fm s with
    | none => rw [hx.2.none_ s hf]; intro e he; cases he
    | some v => obtain ⟨tb, _, ht⟩ := hx.2.some_ s v hf; exact fun e he => (ht.rd e he).1.len
  rw [← h2, ← szOf_sem _ hl]
  exact strSize S F g cnt f s w h1 hs
theorem allS {w : World} {F : Nat → Prop} {g cnt : Nat} {φ : ByteArray → List EvS} (h : StrS w F g cnt φ) (s : ByteArray) (fr N : Int) (hs : s.size ≤ maxLen) (hfr : -9223372036854775808 ≤ fr ∧ fr ≤ 9223372036854775807) (hN : -9223372036854775808 ≤ N ∧ N ≤ 9223372036854775807) :
    Calls Try.prog 28 #[.pointer (some ⟨g, 0, none⟩), .string s, .int .i64 fr, .int .i64 N] w (GotEv w (((φ s).drop (max fr 1 - 1).toNat).take (min N 64).toNat)) := by
  obtain ⟨S, f, h1, h2⟩ := h.out
  rw [← h2]
  exact strAll S F g cnt f s fr N w h1 hs hfr hN
theorem GotEv.row {w w' : World} {L : List EvS} {e : Ending} (h : GotEv w L e w') : ∃ a c, e = .returned (.slice a L.length c) ∧ L.length ≤ c ∧ Below w.heap.size w w' ∧ ∀ F : Nat → Prop, (∀ k, F k → k < w.heap.size) → EvRow w' w.heap.size F a c L := by
  obtain ⟨xs, a, c, rfl, h2, h3, h4, h5, h6⟩ := h
  have hl : xs.length = L.length := by rw [← h6, List.length_map]
  rw [hl] at h2 h3 ⊢
  refine ⟨a, c, rfl, h2, h5, fun F hF => ⟨xs, h6, h3, fun k e hk => ?_, fun x hx => ⟨h4 x hx, fun h0 b o e hk => ?_⟩⟩⟩
  · have := (h3.lt k e).1; have := hF k hk; omega
  · have := (h4 x hx).lo h0 b o e; have := hF b hk; omega

theorem Pieces.frm {w wq : World} {F : Nat → Prop} {a : Option Addr} {ps : List Piece} (h : Pieces w a ps) (hF : Frm w.heap.size F w wq) (ha : ∀ b o, a = some ⟨b, o, none⟩ → ¬ F b) (hp : ∀ p ∈ ps, ∀ b o, p.a = some ⟨b, o, none⟩ → ¬ F b) : Pieces wq a ps :=
  ⟨h.rd.congr (fun b o e hlt => hF.block b hlt (ha b o e)), fun p hm => ⟨(h.ok p hm).len, (h.ok p hm).fits, (h.ok p hm).max, (h.ok p hm).rd.congr (fun b o e hlt => hF.block b hlt (hp p hm b o e))⟩⟩
theorem al2 (w : World) (o0 o1 : Obj) : ((w.alloc o0).alloc o1).heap[w.heap.size]? = some o0 ∧ ((w.alloc o0).alloc o1).heap[w.heap.size + 1]? = some o1 ∧ Below w.heap.size w ((w.alloc o0).alloc o1) := by
  have h1 := World.alloc_heap_new (w.alloc o0) o1
  rw [show (w.alloc o0).heap.size = w.heap.size + 1 by simp] at h1
  exact ⟨(Go.heap_alloc_old _ _ (by simp)).trans (World.alloc_heap_new w o0), h1, ((Below.refl _ _).alloc (Nat.le_refl _) _).alloc (by simp) _⟩
theorem al3 (w : World) (o0 o1 o2 : Obj) : (((w.alloc o0).alloc o1).alloc o2).heap[w.heap.size]? = some o0 ∧ (((w.alloc o0).alloc o1).alloc o2).heap[w.heap.size + 1]? = some o1 ∧ (((w.alloc o0).alloc o1).alloc o2).heap[w.heap.size + 1 + 1]? = some o2 ∧ Below w.heap.size w (((w.alloc o0).alloc o1).alloc o2) := by
  obtain ⟨h1, h2, h3⟩ := al2 w o0 o1
  have h4 := World.alloc_heap_new ((w.alloc o0).alloc o1) o2
  rw [show ((w.alloc o0).alloc o1).heap.size = w.heap.size + 1 + 1 by simp] at h4
  exact ⟨(Go.heap_alloc_old _ _ (by simp; omega)).trans h1, (Go.heap_alloc_old _ _ (by simp)).trans h2, h4, h3.alloc (by simp; omega) _⟩
theorem rdb_row {w : World} {g : Nat} {l : List UInt8} {cs : Array Value} {t : TypeId} {fr : Nat × Nat} (h : w.heap[g]? = some (.cells cs t fr)) (hc : cs = (bvs l).toArray) : RdB w (some ⟨g, 0, none⟩) l := by
  subst hc; exact rd_rowN h

end Go.Proofs.Ythgaghpakioglaa
