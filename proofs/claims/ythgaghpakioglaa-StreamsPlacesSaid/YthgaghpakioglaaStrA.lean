/- Tenants' events in memory (package streams): a tenant, the tenants; New, of. -/
import Derived.Test.YthgaghpakioglaaFresh
import Derived.Test.YthgaghpakioglaaSMap
namespace Go.Proofs.Ythgaghpakioglaa
set_option linter.unusedSimpArgs false
set_option linter.unusedVariables false
open Go.RowKit
set_option maxRecDepth 10000
--@PUT2

/-- Where the events of a stream stand. -/
def idx (s : ByteArray) : List Ev → Nat → List Nat
  | [], _ => []
  | e :: r, k => if e.st = s then k :: idx s r (k + 1) else idx s r (k + 1)
def idxOf (es : List Ev) (s : ByteArray) : List Nat := idx s es 0
theorem idx_append (s : ByteArray) : ∀ (a b : List Ev) (k : Nat), idx s (a ++ b) k = idx s a k ++ idx s b (k + a.length)
  | [], b, k => by simp [idx]
  | e :: r, b, k => by
    simp only [List.cons_append, idx, idx_append s r b (k + 1), List.length_cons]
    rw [show k + (r.length + 1) = k + 1 + r.length by omega]
    split <;> simp
theorem idxOf_snoc (es : List Ev) (e : Ev) (s : ByteArray) : idxOf (es ++ [e]) s = if e.st = s then idxOf es s ++ [es.length] else idxOf es s := by
  unfold idxOf
  rw [idx_append]
  simp only [idx, Nat.zero_add]
  split <;> simp
theorem idx_lt (s : ByteArray) : ∀ (es : List Ev) (k i : Nat), i ∈ idx s es k → k ≤ i ∧ i < k + es.length ∧ (es[i - k]?).map (·.st) = some s
  | [], k, i, h => by simp [idx] at h
  | e :: r, k, i, h => by
    have step : i ∈ idx s r (k + 1) → k ≤ i ∧ i < k + (e :: r).length ∧ ((e :: r)[i - k]?).map (·.st) = some s := fun h => by
      obtain ⟨h1, h2, h3⟩ := idx_lt s r (k + 1) i h
      refine ⟨by omega, by simp; omega, ?_⟩
      obtain ⟨m, hm⟩ : ∃ m, i - k = m + 1 := ⟨i - k - 1, by omega⟩
      rw [show i - (k + 1) = m by omega] at h3
      rw [hm, List.getElem?_cons_succ]
      exact h3
    simp only [idx] at h
    split at h
    · rename_i he
      rcases List.mem_cons.1 h with rfl | h
      · exact ⟨Nat.le_refl _, by simp, by simp [he]⟩
      · exact step h
    · exact step h
theorem idxOf_mem {es : List Ev} {s : ByteArray} {i : Nat} (h : i ∈ idxOf es s) : ∃ hi : i < es.length, es[i].st = s := by
  obtain ⟨_, h2, h3⟩ := idx_lt s es 0 i h
  have hi : i < es.length := by omega
  rw [Nat.sub_zero, List.getElem?_eq_getElem hi] at h3
  exact ⟨hi, Option.some.inj h3⟩
theorem idx_length_le (s : ByteArray) : ∀ (es : List Ev) (k : Nat), (idx s es k).length ≤ es.length
  | [], _ => Nat.le_refl _
  | e :: r, k => by
    simp only [idx]
    have := idx_length_le s r (k + 1)
    split <;> simp <;> omega
theorem idxOf_length_le (es : List Ev) (s : ByteArray) : (idxOf es s).length ≤ es.length := idx_length_le s es 0
/-- How many sealed bytes. -/
def szOf : List Ev → Nat
  | [] => 0
  | e :: r => e.sn + szOf r
theorem szOf_append : ∀ a b : List Ev, szOf (a ++ b) = szOf a + szOf b
  | [], b => by simp [szOf]
  | e :: r, b => by simp only [List.cons_append, szOf, szOf_append r b]; omega
/-- Those streams that have events, each counted where its first event stands. -/
def namesOf (es : List Ev) : Nat := ((List.range es.length).filter fun i => (idxOf (es.take i) (es[i]?.getD zEv).st).isEmpty).length
theorem namesOf_nil : namesOf [] = 0 := rfl
theorem namesOf_snoc (es : List Ev) (e : Ev) : namesOf (es ++ [e]) = if idxOf es e.st = [] then namesOf es + 1 else namesOf es := by
  unfold namesOf
  rw [List.length_append, show es.length + [e].length = es.length + 1 from rfl, List.range_succ, List.filter_append, List.length_append]
  have h1 : ((List.range es.length).filter fun i => (idxOf ((es ++ [e]).take i) ((es ++ [e])[i]?.getD zEv).st).isEmpty) = (List.range es.length).filter fun i => (idxOf (es.take i) (es[i]?.getD zEv).st).isEmpty := by
    apply List.filter_congr
    intro i hi
    have hi' : i < es.length := List.mem_range.1 hi
    rw [List.take_append_of_le_length (by omega), List.getElem?_append_left hi']
  rw [h1]
  have h2 : (idxOf ((es ++ [e]).take es.length) ((es ++ [e])[es.length]?.getD zEv).st) = idxOf es e.st := by
    rw [List.take_left, List.getElem?_append_right (Nat.le_refl _)]
    simp
  simp only [List.filter_cons, h2, List.filter_nil]
  cases h3 : idxOf es e.st with
  | nil => simp
  | cons a b => simp

def ivs (l : List Nat) : List Value := l.map fun (n : Nat) => Value.int .i64 (n : Int)
theorem ivs_oneCell (l : List Nat) : ∀ u ∈ ivs l, u.oneCell' = true := by
  intro u hu; obtain ⟨_, _, rfl⟩ := List.mem_map.1 hu; rfl

/-- The events of a tenant, as the text says them. -/
structure EvsOk (es : List Ev) : Prop where
  st : ∀ e ∈ es, e.st.size ≤ maxLen ∧ e.su.size ≤ maxLen
  num : ∀ e ∈ es, (-9223372036854775808 ≤ e.u ∧ e.u ≤ 9223372036854775807) ∧ e.sn ≤ 140737488351232
  pos : ∀ (i : Nat) (h : i < es.length), es[i].p = (i : Int) + 1
  ver : ∀ (i : Nat) (h : i < es.length), es[i].v = ((idxOf (es.take i) es[i].st).length : Int) + 1

/-- A tenant at tb, for reading. -/
structure TenRd (w : World) (tb : Nat) (es : List Ev) : Prop where
  out : ∃ (aa : Option Addr) (ac : Nat) (vm : Value), w.heap[tb]? = some (.cells #[.slice aa es.length ac, vm, .int .i64 (szOf es : Int)] 77 (0, 0)) ∧ RdC w aa (es.flatMap Ev.cells) ∧ es.length ≤ ac ∧ ac ≤ maxLen ∧
    (∀ s : ByteArray, s.size ≤ maxLen → ∃ (ia : Option Addr) (ic : Nat), (∀ w' : World, Below w.heap.size w w' → (Instr.lookup 75 vm (.string s) false).run Try.prog w' = .ok (.slice ia (idxOf es s).length ic) w') ∧ RdC w ia (ivs (idxOf es s)) ∧ (idxOf es s).length ≤ ic ∧ ic ≤ maxLen) ∧
    (∀ (ty : TypeId) (w' : World), Below w.heap.size w w' → (Builtin.len_ #[75] ty #[vm]).run Try.prog w' = .ok (.int .i64 (namesOf es : Int)) w')
  rd : ∀ e ∈ es, e.Rd 0 w
  ok : EvsOk es
  len : es.length ≤ 1000
theorem TenRd.below {w w' : World} {tb : Nat} {es : List Ev} (h : TenRd w tb es) (hb : Below w.heap.size w w') : TenRd w' tb es := by
  obtain ⟨aa, ac, vm, h1, h2, h3, h4, h5, h6⟩ := h.out
  refine ⟨⟨aa, ac, vm, row_below h1 hb (lt_of_get h1), h2.below hb (Nat.le_refl _), h3, h4, fun s hs => ?_, fun ty w2 hb2 => h6 ty w2 (hb.trans (hb2.mono hb.size))⟩, fun e he => (h.rd e he).below hb, h.ok, h.len⟩
  obtain ⟨ia, ic, g1, g2, g3, g4⟩ := h5 s hs
  exact ⟨ia, ic, fun w2 hb2 => g1 w2 (hb.trans (hb2.mono hb.size)), g2.below hb (Nat.le_refl _), g3, g4⟩

/-- A tenant at tb; S: the blocks that it lies in. -/
structure TenAt (w : World) (S : Nat → Prop) (tb : Nat) (es : List Ev) : Prop where
  out : ∃ (va : Value) (mb : Nat) (fm : ByteArray → Option Value), w.heap[tb]? = some (.cells #[va, .map (some mb), .int .i64 (szOf es : Int)] 77 (0, 0)) ∧
    w.ownsRow 0 54 6 va es.length (es.flatMap Ev.cells) ∧ (∀ k, va.ownBlock = some k → S k) ∧ SMap Try.prog 9 w mb (namesOf es) fm ∧ S mb ∧
    (∀ s, fm s = none → idxOf es s = []) ∧ (∀ s v, fm s = some v → w.ownsRow 0 3 1 v (idxOf es s).length (ivs (idxOf es s)) ∧ (∀ k, v.ownBlock = some k → S k) ∧ idxOf es s ≠ []) ∧
    (∀ s s' v v' k, fm s = some v → fm s' = some v' → v.ownBlock = some k → v'.ownBlock = some k → s = s')
  foot : S tb
  low : ∀ k, S k → k < w.heap.size
  rd : ∀ e ∈ es, e.Rd 0 w ∧ (0 < e.sl.length → ∀ b o, e.sa = some ⟨b, o, none⟩ → S b)
  ok : EvsOk es
  len : es.length ≤ 1000
theorem TenAt.view {w : World} {S : Nat → Prop} {tb : Nat} {es : List Ev} (h : TenAt w S tb es) : TenRd w tb es := by
  obtain ⟨va, mb, fm, h1, h2, h3, h4, h5, h6, h7, h8⟩ := h.out
  obtain ⟨aa, ac, rfl, hac, hac2, _⟩ := owns_slice h2
  refine ⟨⟨aa, ac, _, h1, rdc_of_owns h2, hac, hac2, fun s hs => ?_, fun ty w' hb => ?_⟩, fun e he => (h.rd e he).1, h.ok, h.len⟩
  · cases hf : fm s with
    | none =>
      refine ⟨none, 0, fun w' hb => ?_, by rw [h6 s hf]; exact RdC.nil _ _, by rw [h6 s hf]; exact Nat.le_refl _, by unfold maxLen; omega⟩
      rw [(h4.below hb (h.low mb h5)).lookup Try.underlying9 Try.underlying75 (z := .slice none 0 0) (by kernel_rfl) s hs, hf, h6 s hf]
      rfl
    | some v =>
      obtain ⟨g1, _, _⟩ := h7 s v hf
      obtain ⟨ia, ic, rfl, hic, hic2, _⟩ := owns_slice g1
      refine ⟨ia, ic, fun w' hb => ?_, rdc_of_owns g1, hic, hic2⟩
      rw [(h4.below hb (h.low mb h5)).lookup Try.underlying9 Try.underlying75 (z := .slice none 0 0) (by kernel_rfl) s hs, hf]
      rfl
  · exact (h4.below hb (h.low mb h5)).len Try.underlying75 ty
theorem owns_blk {w w' : World} {base e size : Nat} {v : Value} {n : Nat} {xs : List Value} (h : w.ownsRow base e size v n xs) (hb : ∀ k, v.ownBlock = some k → w'.heap[k]? = w.heap[k]?) : w'.ownsRow base e size v n xs := by
  refine ⟨h.1, ?_⟩
  rcases h.2 with h2 | ⟨g', cap, cur, hv, hg', hh, r⟩
  · exact .inl h2
  · exact .inr ⟨g', cap, cur, hv, hg', by rw [hb g' (by rw [hv]; rfl)]; exact hh, r⟩
/-- A tenant where none of its blocks has turned. -/
theorem TenAt.keep {w w' : World} {S : Nat → Prop} {tb : Nat} {es : List Ev} (h : TenAt w S tb es) (hk : ∀ k, S k → w'.heap[k]? = w.heap[k]?) (hs : w.heap.size ≤ w'.heap.size) : TenAt w' S tb es := by
  obtain ⟨va, mb, fm, h1, h2, h3, h4, h5, h6, h7, h8⟩ := h.out
  refine ⟨⟨va, mb, fm, (hk tb h.foot).trans h1, owns_blk h2 (fun k e => hk k (h3 k e)), h3, h4.block (hk mb h5), h5, h6, fun s v hv => ⟨owns_blk (h7 s v hv).1 (fun k e => hk k ((h7 s v hv).2.1 k e)), (h7 s v hv).2⟩, h8⟩, h.foot, fun k e => Nat.lt_of_lt_of_le (h.low k e) hs, fun e he => ⟨?_, (h.rd e he).2⟩, h.ok, h.len⟩
  obtain ⟨g1, g2⟩ := h.rd e he
  refine ⟨g1.len, g1.cap, ?_, ?_, g1.lo⟩
  · rcases Nat.eq_zero_or_pos e.sl.length with h0 | h0
    · rw [List.eq_nil_of_length_eq_zero h0]; exact RdC.nil _ _
    · exact RdC.congr g1.rd fun b o e2 _ => hk b (g2 h0 b o e2)
  · intro h0
    obtain ⟨b, off, c, fr, ha, hb⟩ := g1.ty h0
    exact ⟨b, off, c, fr, ha, (hk b (g2 h0 b off ha)).trans hb⟩
theorem TenAt.below {w w' : World} {S : Nat → Prop} {tb : Nat} {es : List Ev} (h : TenAt w S tb es) (hb : Below w.heap.size w w') : TenAt w' S tb es := h.keep (fun k hk => hb.block k (h.low k hk)) hb.size

/-- The tenants at g. -/
structure StrAt (w : World) (S : ByteArray → Nat → Prop) (F : Nat → Prop) (g cnt : Nat) (f : ByteArray → List Ev) : Prop where
  out : ∃ (b n : Nat) (fm : ByteArray → Option Value), w.heap[g]? = some (.cells #[.map (some b)] 74 (0, 0)) ∧ SMap Try.prog 9 w b n fm ∧ n ≤ cnt ∧ F b ∧ (∀ s k, S s k → k ≠ g ∧ k ≠ b) ∧
    (∀ s, fm s = none → f s = []) ∧ (∀ s v, fm s = some v → ∃ tb, v = .pointer (some ⟨tb, 0, none⟩) ∧ TenAt w (S s) tb (f s))
  foot : F g
  low : ∀ k, F k → k < w.heap.size
  sub : ∀ s k, S s k → F k
  disj : ∀ s s' k, S s k → S s' k → s = s'
theorem StrAt.keep {w w' : World} {S : ByteArray → Nat → Prop} {F : Nat → Prop} {g cnt : Nat} {f : ByteArray → List Ev} (h : StrAt w S F g cnt f) (hk : ∀ k, F k → w'.heap[k]? = w.heap[k]?) (hs : w.heap.size ≤ w'.heap.size) : StrAt w' S F g cnt f := by
  obtain ⟨b, n, fm, h1, h2, h3, h4, h5, h6, h7⟩ := h.out
  exact ⟨⟨b, n, fm, (hk g h.foot).trans h1, h2.block (hk b h4), h3, h4, h5, h6, fun s v hv => by
    obtain ⟨tb, e, ht⟩ := h7 s v hv
    exact ⟨tb, e, ht.keep (fun k e => hk k (h.sub s k e)) hs⟩⟩, h.foot, fun k e => Nat.lt_of_lt_of_le (h.low k e) hs, h.sub, h.disj⟩
theorem StrAt.below {w w' : World} {S : ByteArray → Nat → Prop} {F : Nat → Prop} {g cnt : Nat} {f : ByteArray → List Ev} (h : StrAt w S F g cnt f) (hb : Below w.heap.size w w') : StrAt w' S F g cnt f := h.keep (fun k hk => hb.block k (h.low k hk)) hb.size

end Go.Proofs.Ythgaghpakioglaa
