/- An event is put behind a tenant's others (package streams: add). -/
import Derived.Test.YthgaghpakioglaaStrB
import Derived.Test.YthgaghpakioglaaBuild1
import Derived.Deep.RegionHeld3
import Derived.Deep.DeepCutAuto
import Derived.Deep.CutRange
namespace Go.Proofs.Ythgaghpakioglaa
set_option linter.unusedSimpArgs false
set_option linter.unusedVariables false
open Go.RowKit
set_option maxRecDepth 10000
--@PUT2

theorem szOf_bound : ∀ es : List Ev, (∀ e ∈ es, e.sn ≤ 140737488351232) → szOf es ≤ es.length * 140737488351232
  | [], _ => Nat.le_refl _
  | e :: r, h => by
    have h1 := szOf_bound r (fun x hx => h x (List.mem_cons_of_mem _ hx))
    have h2 := h e List.mem_cons_self
    simp only [szOf, List.length_cons]
    omega
/-- The event as it is numbered. -/
def Ev.num (e : Ev) (es : List Ev) : Ev := { e with v := ((idxOf es e.st).length : Int) + 1, p := (es.length : Int) + 1 }

theorem step_mapUpdate_s {P : Program} {k t e : TypeId} {w : World} {b n : Nat} {f : ByteArray → Option Value} {ops : Array Oper} {o : Oper} {a : Act} {K : Act → World → Prop} {Q : Exit → Act → World → Prop} {E : Prop} (hw : Region.wanted o (yielded ops a.tmps) = true) (m x y : Operand) (hop : o.op = Op.mapUpdate t m x y)
    (hk : P.underlying k = some .string) (ht : P.underlying t = some (.map k e)) (hm : a.eval m = .map (some b)) (h : SMap P k w b n f) (hn : n < maxLen) (s : ByteArray) (hx : a.eval x = .string s) (hs : s.size ≤ maxLen) (v : Value) (hy : a.eval y = v)
    (hK : ∀ w', SMap P k w' b (sputN f s n) (sput f s v) → w.grownBy w' (some b) → K (a.put o.dst undef) w') :
    if Region.wanted o (yielded ops a.tmps) = true then Oper.wp P o a w K Q else E := by
  rw [if_pos hw]
  obtain ⟨w', hrun, r1, r2⟩ := h.update hk ht hn s hs v
  unfold Oper.wp
  simp [execOp, hop, hm, hx, hy, hrun, Result.andThen]
  exact hK w' r1 r2

abbrev AdS (tb z mb : Nat) (va lv : Value) (st : ByteArray) (w' : World) : Prop :=
  w'.cell? ⟨tb, 0, none⟩ = some va ∧ w'.cell? ⟨tb, 1, none⟩ = some (.map (some mb)) ∧ w'.cell? ⟨z, 0, none⟩ = some (.string st) ∧ (Instr.lookup 75 (.map (some mb)) (.string st) false).run Try.prog w' = .ok lv w'

abbrev AdT (tb z mb : Nat) (va : Value) (st : ByteArray) (w' : World) : Prop :=
  w'.cell? ⟨tb, 0, none⟩ = some va ∧ w'.cell? ⟨tb, 1, none⟩ = some (.map (some mb)) ∧ w'.cell? ⟨z, 0, none⟩ = some (.string st)
theorem adT_grow {tb z mb : Nat} {va : Value} {st : ByteArray} {w w' : World} {o : Option Nat} (h : AdT tb z mb va st w) (hg : w.grownBy w' o) (h1 : o ≠ some tb) (h2 : o ≠ some z) : AdT tb z mb va st w' :=
  ⟨cell_grow hg h.1 h1, cell_grow hg h.2.1 h1, cell_grow hg h.2.2 h2⟩
theorem rangeAt_belowN {A B : World} {b o : Nat} {cs : List Value} (h : A.rangeAt b o cs) (hb : Below A.heap.size A B) : B.rangeAt b o cs := fun j v hj => by
  have h1 := h j v hj
  have h2 := hb.cell (p := ⟨b, o + j, none⟩) (World.block_lt_of_cell? A _ h1)
  rw [h2]; exact h1
theorem rangeAt_grown {A B : World} {b o : Nat} {cs : List Value} {r : Option Nat} (h : A.rangeAt b o cs) (hg : A.grownBy B r) (hne : r ≠ some b) : B.rangeAt b o cs := fun j v hj => cell_grow hg (h j v hj) hne
theorem own_ne_typ {w : World} {b1 b2 t1 t2 s1 s2 n1 n2 : Nat} {v1 v2 : Value} {x1 x2 : List Value} (h1 : w.ownsRow b1 t1 s1 v1 n1 x1) (h2 : w.ownsRow b2 t2 s2 v2 n2 x2) (ht : t1 ≠ t2) : v1.ownBlock = none ∨ v2.ownBlock ≠ v1.ownBlock := by
  rcases h1.2 with ⟨rfl, _⟩ | ⟨g, cap, cur, rfl, _, hh, _⟩
  · exact .inl rfl
  · exact .inr fun e => own_typ h2 hh ht e
theorem own_mapN {P : Program} {k : TypeId} {w : World} {base e size b m : Nat} {v : Value} {n : Nat} {xs : List Value} {f : ByteArray → Option Value} (h : w.ownsRow base e size v n xs) (hm : SMap P k w b m f) : v.ownBlock ≠ some b := by
  obtain ⟨es, clock, hb⟩ := hm.row
  intro e2
  rcases h.2 with ⟨rfl, _⟩ | ⟨g', cap, cur, rfl, _, hh, _⟩
  · cases e2
  · cases e2
    rw [hb] at hh
    cases hh
theorem rd_rowN {w : World} {g : Nat} {cs : List Value} {t : TypeId} {fr : Nat × Nat} (h : w.heap[g]? = some (.cells cs.toArray t fr)) : RdC w (some ⟨g, 0, none⟩) cs :=
  ⟨fun i hi => ⟨g, 0, rfl, by rw [Nat.zero_add, cell_of_row w g i _ _ _ h]; simp⟩⟩
theorem intInfo : (Try.prog.info? 3).map (fun i => (i.zero, i.size, i.bytes)) = some (some (.int .i64 0), 1, 8) := by kernel_rfl

/-- Behind the second statement of add. -/
def AdMid (w : World) (tb z mb n L : Nat) (aa : Option Addr) (ac : Nat) (sz : Int) (E1 : Ev) (lv : Value) (is : List Nat) (nm : Nat) (fm : ByteArray → Option Value) (wx : World) : Prop :=
  ∃ v5, wx.heap[tb]? = some (.cells #[.slice aa n ac, .map (some mb), .int .i64 sz] 77 (0, 0)) ∧ wx.heap[z]? = some (.cells E1.cells.toArray 54 (0, 0)) ∧
    wx.heap[z + 1]? = some (.cells #[.string ⟨#[]⟩, .string ⟨#[]⟩, .int .i64 0, .int .i64 0, .int .i64 0, .slice none 0 0] 54 (0, 0)) ∧
    wx.ownsRow 0 3 1 v5 (L + 1) (ivs is ++ [.int .i64 (n : Int)]) ∧ (v5.ownBlock = lv.ownBlock ∨ ∀ k, v5.ownBlock = some k → z + 2 ≤ k) ∧ SMap Try.prog 9 wx mb (sputN fm E1.st nm) (sput fm E1.st v5) ∧
    Frm z (fun k => k = mb ∨ lv.ownBlock = some k) w wx ∧ z + 2 ≤ wx.heap.size

/-- Behind the third statement of add. -/
def AdMid3 (w : World) (tb z mb n L : Nat) (va : Value) (sz : Int) (E1 : Ev) (es : List Ev) (lv : Value) (is : List Nat) (nm : Nat) (fm : ByteArray → Option Value) (wx : World) : Prop :=
  ∃ (v5 va2 : Value) (a2 : Option Addr) (c2 : Nat), wx.heap[tb]? = some (.cells #[va2, .map (some mb), .int .i64 sz] 77 (0, 0)) ∧ wx.heap[z]? = some (.cells E1.cells.toArray 54 (0, 0)) ∧
    wx.heap[z + 1]? = some (.cells #[.string ⟨#[]⟩, .string ⟨#[]⟩, .int .i64 0, .int .i64 0, .int .i64 0, .slice none 0 0] 54 (0, 0)) ∧
    wx.ownsRow 0 3 1 v5 (L + 1) (ivs is ++ [.int .i64 (n : Int)]) ∧ (v5.ownBlock = lv.ownBlock ∨ ∀ k, v5.ownBlock = some k → z + 2 ≤ k) ∧ SMap Try.prog 9 wx mb (sputN fm E1.st nm) (sput fm E1.st v5) ∧
    wx.ownsRow 0 54 6 va2 (n + 1) (es.flatMap Ev.cells ++ ({ E1 with sa := a2, sc := c2 } : Ev).cells) ∧ (va2.ownBlock = va.ownBlock ∨ ∀ k, va2.ownBlock = some k → z + 2 ≤ k) ∧ ({ E1 with sa := a2, sc := c2 } : Ev).Rd (z + 2) wx ∧
    Frm z (fun k => k = mb ∨ lv.ownBlock = some k ∨ va.ownBlock = some k ∨ k = tb) w wx ∧ z + 2 ≤ wx.heap.size

/-- A tenant behind an event that was added. -/
theorem TenAt.added {w W : World} {S : Nat → Prop} {tb mb : Nat} {es : List Ev} {fm : ByteArray → Option Value} {va va2 v5 : Value} {E2 : Ev} (h : TenAt w S tb es)
    (h2 : w.ownsRow 0 54 6 va es.length (es.flatMap Ev.cells)) (h3 : ∀ k, va.ownBlock = some k → S k) (h4 : SMap Try.prog 9 w mb (namesOf es) fm) (h5 : S mb)
    (h6 : ∀ s, fm s = none → idxOf es s = []) (h7 : ∀ s v, fm s = some v → w.ownsRow 0 3 1 v (idxOf es s).length (ivs (idxOf es s)) ∧ (∀ k, v.ownBlock = some k → S k) ∧ idxOf es s ≠ [])
    (h8 : ∀ s s' v v' k, fm s = some v → fm s' = some v' → v.ownBlock = some k → v'.ownBlock = some k → s = s') (hrow0 : w.heap[tb]? = some (.cells #[va, .map (some mb), .int .i64 (szOf es : Int)] 77 (0, 0)))
    (hrow : W.heap[tb]? = some (.cells #[va2, .map (some mb), .int .i64 ((szOf es + E2.sn : Nat) : Int)] 77 (0, 0)))
    (hall : W.ownsRow 0 54 6 va2 (es.length + 1) (es.flatMap Ev.cells ++ E2.cells)) (hva : va2.ownBlock = va.ownBlock ∨ ∀ k, va2.ownBlock = some k → w.heap.size ≤ k)
    (hmap : SMap Try.prog 9 W mb (sputN fm E2.st (namesOf es)) (sput fm E2.st v5))
    (hidx : W.ownsRow 0 3 1 v5 ((idxOf es E2.st).length + 1) (ivs (idxOf es E2.st) ++ [.int .i64 (es.length : Int)])) (hv5 : v5.ownBlock = ((fm E2.st).getD (.slice none 0 0)).ownBlock ∨ ∀ k, v5.ownBlock = some k → w.heap.size ≤ k)
    (hF : Frm w.heap.size (fun k => k = mb ∨ ((fm E2.st).getD (.slice none 0 0)).ownBlock = some k ∨ va.ownBlock = some k ∨ k = tb) w W) (hE : E2.Rd w.heap.size W)
    (hok : EvsOk (es ++ [E2])) (hlen : es.length < 1000) :
    TenAt W (fun k => S k ∨ va2.ownBlock = some k ∨ v5.ownBlock = some k ∨ (0 < E2.sl.length ∧ ∃ o, E2.sa = some ⟨k, o, none⟩)) tb (es ++ [E2]) := by
  have hlo : w.ownsRow 0 3 1 ((fm E2.st).getD (.slice none 0 0)) (idxOf es E2.st).length (ivs (idxOf es E2.st)) := by
    cases hf : fm E2.st with
    | none => rw [h6 _ hf]; exact World.ownsRow_nil _ _ _ _
    | some v => exact (h7 _ v hf).1
  have hmbt : mb ≠ tb := h4.ne hrow0
  refine ⟨⟨va2, mb, sput fm E2.st v5, ?_, ?_, fun k e => .inr (.inl e), ?_, .inl h5, ?_, ?_, ?_⟩, .inl h.foot, ?_, ?_, hok, by rw [List.length_append]; exact hlen⟩
  · rw [szOf_append, show szOf [E2] = E2.sn from Nat.add_zero _]; exact hrow
  · rw [List.length_append, List.flatMap_append, List.flatMap_singleton]; exact hall
  · have hn : sputN fm E2.st (namesOf es) = namesOf (es ++ [E2]) := by
      rw [namesOf_snoc]
      unfold sputN
      cases hf : fm E2.st with
      | none => rw [if_pos (h6 _ hf)]; rfl
      | some v => rw [if_neg (h7 _ v hf).2.2]; rfl
    rw [← hn]; exact hmap
  · intro s hs
    by_cases e : s = E2.st
    · subst e; simp [sput] at hs
    · rw [idxOf_snoc, if_neg (fun e2 => e e2.symm)]
      exact h6 s (by simpa [sput, e] using hs)
  · intro s v hs
    by_cases e : s = E2.st
    · subst e
      simp [sput] at hs
      subst hs
      rw [idxOf_snoc, if_pos rfl]
      refine ⟨?_, fun k e => .inr (.inr (.inl e)), by simp⟩
      rw [List.length_append, show ivs (idxOf es E2.st ++ [es.length]) = ivs (idxOf es E2.st) ++ [.int .i64 (es.length : Int)] by simp [ivs]]
      exact hidx
    · rw [idxOf_snoc, if_neg (fun e2 => e e2.symm)]
      have hs' : fm s = some v := by simpa [sput, e] using hs
      obtain ⟨g1, g2, g3⟩ := h7 s v hs'
      refine ⟨owns_blk g1 fun k hk => hF.block k (h.low k (g2 k hk)) ?_, fun k hk => .inl (g2 k hk), g3⟩
      rintro (e2 | e2 | e2 | e2)
      · subst e2; exact own_mapN g1 h4 hk
      · cases hf : fm E2.st with
        | none => rw [hf] at e2; cases e2
        | some u => rw [hf] at e2; exact e (h8 s E2.st v u k hs' hf hk e2)
      · rcases own_ne_typ g1 h2 (by decide) with h9 | h9
        · rw [h9] at hk; cases hk
        · exact h9 (by rw [e2, hk])
      · subst e2; exact own_typ g1 hrow0 (by decide) hk
  · intro s s' v v' k hs hs' hk hk'
    have key : ∀ t u, fm t = some u → t ≠ E2.st → u.ownBlock = some k → v5.ownBlock = some k → False := by
      intro t u ht hne hu h5k
      rcases hv5 with h9 | h9
      · rw [h9] at h5k
        cases hf : fm E2.st with
        | none => rw [hf] at h5k; cases h5k
        | some u0 => rw [hf] at h5k; exact hne (h8 t E2.st u u0 k ht hf hu h5k)
      · have h10 := h9 k h5k
        have h11 := h.low k ((h7 t u ht).2.1 k hu)
        omega
    by_cases e : s = E2.st
    · by_cases e' : s' = E2.st
      · rw [e, e']
      · exfalso
        have e1 : v5 = v := by simpa [sput, e] using hs
        exact key s' v' (by simpa [sput, e'] using hs') e' hk' (by rw [e1]; exact hk)
    · by_cases e' : s' = E2.st
      · exfalso
        have e1 : v5 = v' := by simpa [sput, e'] using hs'
        exact key s v (by simpa [sput, e] using hs) e hk (by rw [e1]; exact hk')
      · exact h8 s s' v v' k (by simpa [sput, e] using hs) (by simpa [sput, e'] using hs') hk hk'
  · rintro k (hk | hk | hk | ⟨h0, o, hk⟩)
    · exact Nat.lt_of_lt_of_le (h.low k hk) hF.size
    · exact (hall.lt k hk).2
    · exact (hidx.lt k hk).2
    · obtain ⟨b, off, c, fr, ha, hb⟩ := hE.ty h0
      rw [ha] at hk; cases hk
      exact lt_of_get hb
  · intro e he
    rcases List.mem_append.1 he with he | he
    · obtain ⟨g1, g2⟩ := h.rd e he
      refine ⟨g1.of (Nat.le_refl _) fun b c fr hb => (hF.block b (lt_of_get hb) ?_).trans hb, fun h0 b o e2 => .inl (g2 h0 b o e2)⟩
      rintro (e2 | e2 | e2 | e2)
      · exact h4.ne hb e2.symm
      · exact own_typ hlo hb (by decide) e2
      · exact own_typ h2 hb (by decide) e2
      · subst e2; rw [hrow0] at hb; cases hb
    · rw [List.mem_singleton.1 he]
      exact ⟨hE.of (Nat.zero_le _) fun _ _ _ hb => hb, fun h0 b o e2 => .inr (.inr (.inr ⟨h0, o, e2⟩))⟩

theorem EvsOk.snoc {es : List Ev} {e : Ev} (h : EvsOk es) (h1 : e.st.size ≤ maxLen ∧ e.su.size ≤ maxLen) (h2 : (-9223372036854775808 ≤ e.u ∧ e.u ≤ 9223372036854775807) ∧ e.sn ≤ 140737488351232) (h3 : e.p = (es.length : Int) + 1) (h4 : e.v = ((idxOf es e.st).length : Int) + 1) : EvsOk (es ++ [e]) := by
  refine ⟨fun x hx => ?_, fun x hx => ?_, fun i hi => ?_, fun i hi => ?_⟩
  · rcases List.mem_append.1 hx with hx | hx
    · exact h.st x hx
    · rw [List.mem_singleton.1 hx]; exact h1
  · rcases List.mem_append.1 hx with hx | hx
    · exact h.num x hx
    · rw [List.mem_singleton.1 hx]; exact h2
  · by_cases hlt : i < es.length
    · rw [List.getElem_append_left hlt]; exact h.pos i hlt
    · have hie : i = es.length := by rw [List.length_append] at hi; simp at hi; omega
      subst hie
      rw [List.getElem_append_right (Nat.le_refl _)]
      simpa using h3
  · by_cases hlt : i < es.length
    · rw [List.getElem_append_left hlt, List.take_append_of_le_length (by omega)]; exact h.ver i hlt
    · have hie : i = es.length := by rw [List.length_append] at hi; simp at hi; omega
      subst hie
      rw [List.getElem_append_right (Nat.le_refl _), List.take_left]
      simpa using h4

/-- What add answers, and what it leaves. -/
def AddR (w : World) (S : Nat → Prop) (tb : Nat) (es : List Ev) (e : Ev) (r : Ending) (w' : World) : Prop :=
  ∃ (S' : Nat → Prop) (a2 : Option Addr) (c2 : Nat) (a3 : Option Addr) (c3 : Nat), r = .returned (.agg ({ e.num es with sa := a3, sc := c3 } : Ev).cells.toArray) ∧ ({ e.num es with sa := a3, sc := c3 } : Ev).Rd w.heap.size w' ∧
    (0 < e.sl.length → ∀ b o, a3 = some ⟨b, o, none⟩ → ¬ S' b) ∧ TenAt w' S' tb (es ++ [{ e.num es with sa := a2, sc := c2 }]) ∧ (∀ k, S k → S' k) ∧ (∀ k, S' k → S k ∨ w.heap.size ≤ k) ∧ Frm w.heap.size S w w'

set_option maxHeartbeats 4000000 in
theorem strAdd (S : Nat → Prop) (tb : Nat) (es : List Ev) (e : Ev) (w : World) (h : TenAt w S tb es) (hel : e.sl.length = e.sn) (he : ∀ wq, Frm w.heap.size S w wq → RdB wq e.sa e.sl) (hst : e.st.size ≤ maxLen ∧ e.su.size ≤ maxLen) (hu : -9223372036854775808 ≤ e.u ∧ e.u ≤ 9223372036854775807) (hsn : e.sn ≤ 140737488351232) (hlen : es.length < 1000) :
    Calls Try.prog 39 #[.pointer (some ⟨tb, 0, none⟩), .agg e.cells.toArray] w (AddR w S tb es e) := by
  have hsz : szOf es ≤ es.length * 140737488351232 := szOf_bound es (fun x hx => (h.ok.num x hx).2)
  have hsz2 : szOf es ≤ 140737488351232000 := by omega
  clear hsz
  have hsz := hsz2
  clear hsz2
  obtain ⟨st, su, v, p, u, sa, sn, sc, sl⟩ := e
  dsimp only at hst hu hsn
  obtain ⟨va, mb, fm, h1, h2, h3, h4, h5, h6, h7, h8⟩ := h.out
  obtain ⟨aa, ac, rfl, hac, hac2, _⟩ := owns_slice h2
  have hlk := h4.lookup Try.underlying9 Try.underlying75 (z := .slice none 0 0) (by kernel_rfl) st hst.1
  obtain ⟨lv, hlv⟩ : ∃ lv, (fm st).getD (.slice none 0 0) = lv := ⟨_, rfl⟩
  have hlo : w.ownsRow 0 3 1 lv (idxOf es st).length (ivs (idxOf es st)) := by
    cases hf : fm st with
    | none => rw [hf] at hlv; rw [← hlv, h6 _ hf]; exact World.ownsRow_nil _ _ _ _
    | some v => rw [hf] at hlv; rw [← hlv]; exact (h7 _ v hf).1
  obtain ⟨la, lc, rfl, hlc, hlc2, _⟩ := owns_slice hlo
  rw [hlv] at hlk
  have hil := idxOf_length_le es st
  have HX := Lib.hid h
  have HALL := Lib.hid h2
  have H3 := Lib.hid h3
  have H5 := Lib.hid h5
  have H6 := Lib.hid h6
  have H7 := Lib.hid h7
  have H8 := Lib.hid h8
  have HM := Lib.hid h4
  have HE := Lib.hid he
  have HEL := Lib.hid hel
  have HLO := Lib.hid hlo
  have HLV := Lib.hid hlv
  have HROW := Lib.hid h1
  have htb := lt_of_get h1
  have hmb := h.low mb h5
  obtain ⟨L, hL⟩ : ∃ L, (idxOf es st).length = L := ⟨_, rfl⟩
  rw [hL] at hlk hil hlc
  have HL := Lib.hid hL
  obtain ⟨n, hn⟩ : ∃ n, es.length = n := ⟨_, rfl⟩
  rw [hn] at hac hlen hil
  have hrow : w.heap[tb]? = some (.cells #[.slice aa n ac, .map (some mb), .int .i64 (szOf es : Int)] 77 (0, 0)) := by rw [← hn]; exact h1
  have HN := Lib.hid hn
  obtain ⟨w0, hw0⟩ : ∃ w0, (w.alloc (.cells #[.string st, .string su, .int .i64 v, .int .i64 p, .int .i64 u, .slice sa sn sc] 54)).alloc (.cells #[.string ⟨#[]⟩, .string ⟨#[]⟩, .int .i64 0, .int .i64 0, .int .i64 0, .slice none 0 0] 54) = w0 := ⟨_, rfl⟩
  have hB0 : Below w.heap.size w w0 := by rw [← hw0]; exact ((Below.refl _ _).alloc (Nat.le_refl _) _).alloc (by simp) _
  have hs0 : w0.heap.size = w.heap.size + 2 := by rw [← hw0]; simp
  have he0 : w0.heap[w.heap.size]? = some (.cells #[.string st, .string su, .int .i64 v, .int .i64 p, .int .i64 u, .slice sa sn sc] 54 (0, 0)) := by rw [← hw0, Go.heap_alloc_old _ _ (by simp)]; exact heap_alloc_new w _
  have hr0 : w0.heap[w.heap.size + 1]? = some (.cells #[.string ⟨#[]⟩, .string ⟨#[]⟩, .int .i64 0, .int .i64 0, .int .i64 0, .slice none 0 0] 54 (0, 0)) := by
    have := heap_alloc_new (w.alloc (.cells #[.string st, .string su, .int .i64 v, .int .i64 p, .int .i64 u, .slice sa sn sc] 54)) (.cells #[.string ⟨#[]⟩, .string ⟨#[]⟩, .int .i64 0, .int .i64 0, .int .i64 0, .slice none 0 0] 54)
    rw [hw0] at this
    simpa using this
  have hlk0 := fun w' hb => (HM.out.below (w' := w') hb hmb).lookup Try.underlying9 Try.underlying75 (z := .slice none 0 0) (by kernel_rfl) st hst.1
  have HW := Lib.hid hw0
  have HE0 := Lib.hid he0
  have HR0 := Lib.hid hr0
  have HROW0 := Lib.hid (row_below hrow hB0 htb)
  have HLK0 := Lib.hid hlk0
  clear hw0 he0 hr0 h hlo hlv h1 h2 h3 h4 h5 h6 h7 h8 hn hL he hel hrow hlk hlk0
  unfold Ev.cells
  dsimp only
  go_enter Try.func39, Try.ntmps39
  (repeat' ((fail_if_success at_builtin); first | go_values | go_skip | go_guarded | go_step | go_upon))
  rw [HW.out]
  obtain ⟨z, hz⟩ : ∃ z, w.heap.size = z := ⟨_, rfl⟩
  rw [hz] at HE0 HR0 hs0 hB0 htb hmb HLK0 ⊢
  have hlk0 := HLK0.out w0 hB0
  rw [HLV.out, HL.out] at hlk0
  have hS0 : AdS tb z mb (.slice aa n ac) (.slice la L lc) st w0.drew := ⟨cell_of_row w0 tb 0 _ _ _ HROW0.out, cell_of_row w0 tb 1 _ _ _ HROW0.out, cell_of_row w0 z 0 _ _ _ HE0.out, HLK0.out w0.drew hB0.drew |>.trans (by rw [HLV.out, HL.out])⟩
  clear hlk0
  have hwL : IntKind.i64.wrap ((L : Int) + 1) = (L : Int) + 1 := IntWalk.i64_in _ (by omega)
  have hwN : IntKind.i64.wrap ((n : Int) + 1) = (n : Int) + 1 := IntWalk.i64_in _ (by omega)
  refine wp_region_noPanic ?_
  refine wp_region_held_drew (S := AdS tb z mb (.slice aa n ac) (.slice la L lc) st) (by kernel_rfl) ?_ (fun hHeld => ?_)
  · (exact hS0)
  have hBd : Below z w w0.drew := hB0.drew
  have hrd1 : w0.drew.heap[tb]? = some (.cells #[.slice aa n ac, .map (some mb), .int .i64 (szOf es : Int)] 77 (0, 0)) := HROW0.out
  have hzd1 : w0.drew.heap[z]? = some (.cells #[.string st, .string su, .int .i64 v, .int .i64 p, .int .i64 u, .slice sa sn sc] 54 (0, 0)) := HE0.out
  have hrr1 : w0.drew.heap[z + 1]? = some (.cells #[.string ⟨#[]⟩, .string ⟨#[]⟩, .int .i64 0, .int .i64 0, .int .i64 0, .slice none 0 0] 54 (0, 0)) := HR0.out
  have hsd1 : w0.drew.heap.size = z + 2 := hs0
  have HBd := Lib.hid hBd
  have HRD1 := Lib.hid hrd1
  have HZD1 := Lib.hid hzd1
  have HRR1 := Lib.hid hrr1
  have HSD1 := Lib.hid hsd1
  clear hBd hrd1 hzd1 hrr1 hsd1
  generalize w0.drew = w1 at hS0 hHeld HBd HRD1 HZD1 HRR1 HSD1 ⊢
  have hzt : z ≠ tb := by omega
  have f2 := frozen_of_row w1 z 2 _ _ HZD1.out
  have f3 := frozen_of_row w1 z 3 _ _ HZD1.out
  have k2 : w1.cell? ⟨z, 2, none⟩ = some (.int .i64 v) := cell_of_row w1 z 2 _ _ _ HZD1.out
  have k3 : w1.cell? ⟨z, 3, none⟩ = some (.int .i64 p) := cell_of_row w1 z 3 _ _ _ HZD1.out
  have HKEEP := Lib.hid (show ∀ w2, w1.grownBy w2 (some z) → w2.cell? ⟨z, 0, none⟩ = some (.string st) → AdS tb z mb (.slice aa n ac) (.slice la L lc) st w2 from fun w2 hg h0 =>
    ⟨cell_grow hg hS0.1 (by intro e; exact hzt (Option.some.inj e)), cell_grow hg hS0.2.1 (by intro e; exact hzt (Option.some.inj e)), h0, (HLK0.out w2 (HBd.out.grown hg (by have := HSD1.out; omega) (fun k e => by cases e; exact Nat.le_refl _))).trans (by rw [HLV.out, HL.out])⟩)
  refine wpAnyH_take (i := 0) (oi := _) (v := ?_) rfl (by kernel_rfl) (by kernel_rfl) (by kernel_rfl) (fun _ _ _ h => h) (Or.inl ⟨by rfl, ?_⟩) (by assumption) ?_
  rotate_left 1
  · (intro w hSw; (try dsimp only at hSw); go_simp; all_goals (with_reducible rfl))
  try simp only [Act.put, List.getElem_toArray, List.getElem_cons_zero, List.getElem_cons_succ, List.setIfInBounds_toArray, List.set_cons_zero, List.set_cons_succ]
  refine wpAnyH_take (i := 1) (oi := _) (v := ?_) rfl (by kernel_rfl) (by kernel_rfl) (by kernel_rfl) (fun _ _ _ h => h) (Or.inl ⟨by rfl, ?_⟩) (by assumption) ?_
  rotate_left 1
  · (intro w hSw; (try dsimp only at hSw); go_simp; all_goals (with_reducible rfl))
  try simp only [Act.put, List.getElem_toArray, List.getElem_cons_zero, List.getElem_cons_succ, List.setIfInBounds_toArray, List.set_cons_zero, List.set_cons_succ]
  refine wpAnyH_take (i := 2) (oi := _) (v := ?_) rfl (by kernel_rfl) (by kernel_rfl) (by kernel_rfl) (fun _ _ _ h => h) (Or.inl ⟨by rfl, ?_⟩) (by assumption) ?_
  rotate_left 1
  · (intro w hSw; (try dsimp only at hSw); go_simp; all_goals (with_reducible rfl))
  try simp only [Act.put, List.getElem_toArray, List.getElem_cons_zero, List.getElem_cons_succ, List.setIfInBounds_toArray, List.set_cons_zero, List.set_cons_succ]
  refine wpAnyH_take (i := 3) (oi := _) (v := ?_) rfl (by kernel_rfl) (by kernel_rfl) (by kernel_rfl) (fun _ _ _ h => h) (Or.inl ⟨by rfl, ?_⟩) (by assumption) ?_
  rotate_left 1
  · (intro w hSw; (try dsimp only at hSw); go_simp; all_goals (with_reducible rfl))
  try simp only [Act.put, List.getElem_toArray, List.getElem_cons_zero, List.getElem_cons_succ, List.setIfInBounds_toArray, List.set_cons_zero, List.set_cons_succ]
  refine wpAnyH_take (i := 4) (oi := _) (v := ?_) rfl (by kernel_rfl) (by kernel_rfl) (by kernel_rfl) (fun _ _ _ h => h) (Or.inl ⟨by rfl, ?_⟩) (by assumption) ?_
  rotate_left 1
  · (intro w hSw; (try dsimp only at hSw); go_simp; all_goals (with_reducible rfl))
  try simp only [Act.put, List.getElem_toArray, List.getElem_cons_zero, List.getElem_cons_succ, List.setIfInBounds_toArray, List.set_cons_zero, List.set_cons_succ]
  refine wpAnyH_take (i := 5) (oi := _) (v := ?_) rfl (by kernel_rfl) (by kernel_rfl) (by kernel_rfl) (fun _ _ _ h => h) (Or.inl ⟨by rfl, ?_⟩) (by assumption) ?_
  rotate_left 1
  · (intro w hSw; (try dsimp only at hSw); go_simp; all_goals (with_reducible rfl))
  try simp only [Act.put, List.getElem_toArray, List.getElem_cons_zero, List.getElem_cons_succ, List.setIfInBounds_toArray, List.set_cons_zero, List.set_cons_succ]
  refine wpAnyH_take (i := 6) (oi := _) (v := ?_) rfl (by kernel_rfl) (by kernel_rfl) (by kernel_rfl) (fun _ _ _ h => h) (Or.inl ⟨by rfl, ?_⟩) (by assumption) ?_
  rotate_left 1
  · (intro w hSw; (try dsimp only at hSw); go_simp; all_goals (with_reducible rfl))
  try simp only [Act.put, List.getElem_toArray, List.getElem_cons_zero, List.getElem_cons_succ, List.setIfInBounds_toArray, List.set_cons_zero, List.set_cons_succ]
  refine wpAnyH_take (i := 7) (oi := _) (v := ?_) rfl (by kernel_rfl) (by kernel_rfl) (by kernel_rfl) (fun _ _ _ h => h) (Or.inl ⟨by rfl, ?_⟩) (by assumption) ?_
  rotate_left 1
  · (intro w hSw; (try dsimp only at hSw); go_simp; all_goals (with_reducible rfl))
  try simp only [Act.put, List.getElem_toArray, List.getElem_cons_zero, List.getElem_cons_succ, List.setIfInBounds_toArray, List.set_cons_zero, List.set_cons_succ]
  refine wpAnyH_take (i := 8) (oi := _) (v := ?_) rfl (by kernel_rfl) (by kernel_rfl) (by kernel_rfl) (fun _ _ _ h => h) (Or.inl ⟨by rfl, ?_⟩) (by assumption) ?_
  rotate_left 1
  · (intro w hSw; (try dsimp only at hSw); go_simp; all_goals (with_reducible rfl))
  try simp only [Act.put, List.getElem_toArray, List.getElem_cons_zero, List.getElem_cons_succ, List.setIfInBounds_toArray, List.set_cons_zero, List.set_cons_succ]
  refine wpAnyH_take (i := 9) (oi := _) (v := ?_) rfl (by kernel_rfl) (by kernel_rfl) (by kernel_rfl) (fun _ _ _ h => h) (Or.inl ⟨by rfl, ?_⟩) (by assumption) ?_
  rotate_left 1
  · (intro w hSw; (try dsimp only at hSw); go_simp; all_goals (with_reducible rfl))
  try simp only [Act.put, List.getElem_toArray, List.getElem_cons_zero, List.getElem_cons_succ, List.setIfInBounds_toArray, List.set_cons_zero, List.set_cons_succ]
  refine wpAnyH_take (i := 10) (oi := _) (v := ?_) rfl (by kernel_rfl) (by kernel_rfl) (by kernel_rfl) (fun _ _ _ h => h) (Or.inl ⟨by rfl, ?_⟩) (by assumption) ?_
  rotate_left 1
  · (intro w hSw; (try dsimp only at hSw); go_simp; all_goals (with_reducible rfl))
  try simp only [Act.put, List.getElem_toArray, List.getElem_cons_zero, List.getElem_cons_succ, List.setIfInBounds_toArray, List.set_cons_zero, List.set_cons_succ]
  refine wpAnyH_take (i := 11) (oi := _) (v := ?_) rfl (by kernel_rfl) (by kernel_rfl) (by kernel_rfl) (fun _ _ _ h => h) (Or.inl ⟨by rfl, ?_⟩) (by assumption) ?_
  rotate_left 1
  · (intro w hSw; (try dsimp only at hSw); go_simp; all_goals (with_reducible rfl))
  try simp only [Act.put, List.getElem_toArray, List.getElem_cons_zero, List.getElem_cons_succ, List.setIfInBounds_toArray, List.set_cons_zero, List.set_cons_succ]
  refine wpAnyH_take (i := 12) (oi := _) (v := ?_) rfl (by kernel_rfl) (by kernel_rfl) (by kernel_rfl) (fun _ _ _ h => h) (Or.inl ⟨by rfl, ?_⟩) (by assumption) ?_
  rotate_left 1
  · (intro w hSw; (try dsimp only at hSw); go_simp; all_goals (with_reducible rfl))
  try simp only [Act.put, List.getElem_toArray, List.getElem_cons_zero, List.getElem_cons_succ, List.setIfInBounds_toArray, List.set_cons_zero, List.set_cons_succ]
  refine wpAnyH_take (i := 13) (oi := _) (v := ?_) rfl (by kernel_rfl) (by kernel_rfl) (by kernel_rfl) (fun _ _ _ h => h) (Or.inl ⟨by rfl, ?_⟩) (by assumption) ?_
  rotate_left 1
  · (intro w hSw; (try dsimp only at hSw); go_simp; all_goals (with_reducible rfl))
  try simp only [Act.put, List.getElem_toArray, List.getElem_cons_zero, List.getElem_cons_succ, List.setIfInBounds_toArray, List.set_cons_zero, List.set_cons_succ]
  refine wpAnyH_take (i := 14) (oi := _) (v := ?_) rfl (by kernel_rfl) (by kernel_rfl) (by kernel_rfl) (fun _ _ _ h => h) (Or.inl ⟨by rfl, ?_⟩) (by assumption) ?_
  rotate_left 1
  · (intro w hSw; (try dsimp only at hSw); go_simp; all_goals (with_reducible rfl))
  try simp only [Act.put, List.getElem_toArray, List.getElem_cons_zero, List.getElem_cons_succ, List.setIfInBounds_toArray, List.set_cons_zero, List.set_cons_succ]
  refine wpAnyH_take (i := 15) (oi := _) (v := ?_) rfl (by kernel_rfl) (by kernel_rfl) (by kernel_rfl) (fun _ _ _ h => h) (Or.inl ⟨by rfl, ?_⟩) (by assumption) ?_
  rotate_left 1
  · (intro w hSw; (try dsimp only at hSw); go_simp; all_goals (with_reducible rfl))
  try simp only [Act.put, List.getElem_toArray, List.getElem_cons_zero, List.getElem_cons_succ, List.setIfInBounds_toArray, List.set_cons_zero, List.set_cons_succ]
  refine wpAnyH_ready (rs := [16]) (by kernel_rfl) (by simp) ?_
  refine AllReadyH.cons (o := _) rfl (fun K hK => ?_) ?_
  rotate_left 1
  · exact AllReadyH.nil
  go_simp
  refine hK.out _ _ ?_ (fun hHeld => ?_)
  · ((exact HKEEP.out _ (grown_setC _ _ _ _) (by rw [World.cell?_setCell_other _ _ _ _ (by intro e; cases e)]; exact hS0.2.2.1)))
  clear hK K
  try simp only [Act.put, List.getElem_toArray, List.getElem_cons_zero, List.getElem_cons_succ, List.setIfInBounds_toArray, List.set_cons_zero, List.set_cons_succ]
  have HWL := Lib.hid hwL
  have HWN := Lib.hid hwN
  have hz2 := row_setC (o := 2) HZD1.out (.int .i64 ((L : Int) + 1))
  have hg2 := grown_setC w1 z 2 (.int .i64 ((L : Int) + 1))
  obtain ⟨w2, hw2⟩ : ∃ w2, w1.setCell ⟨z, 2, none⟩ (.int .i64 ((L : Int) + 1)) = w2 := ⟨_, rfl⟩
  rw [hw2] at hz2 hg2 hHeld ⊢
  have f3' := frozen_of_row w2 z 3 _ _ hz2
  have k3' : w2.cell? ⟨z, 3, none⟩ = some (.int .i64 p) := cell_of_row w2 z 3 _ _ _ hz2
  have hz3 := row_setC (o := 3) hz2 (.int .i64 ((n : Int) + 1))
  have HG3 := Lib.hid (hg2.trans (grown_setC w2 z 3 (.int .i64 ((n : Int) + 1))))
  have HZ3 := Lib.hid hz3
  have HH2 := Lib.hid hHeld
  clear hw2 hz2 hg2 hz3
  refine wpAnyH_take (i := 17) (oi := _) (v := ?_) rfl (by kernel_rfl) (by kernel_rfl) (by kernel_rfl) (fun _ _ _ h => h) (Or.inl ⟨by rfl, ?_⟩) (by assumption) ?_
  rotate_left 1
  · (intro w hSw; (try dsimp only at hSw); go_simp; all_goals (with_reducible rfl))
  try simp only [Act.put, List.getElem_toArray, List.getElem_cons_zero, List.getElem_cons_succ, List.setIfInBounds_toArray, List.set_cons_zero, List.set_cons_succ]
  refine wpAnyH_ready (rs := [18]) (by kernel_rfl) (by simp) ?_
  refine AllReadyH.cons (o := _) rfl (fun K hK => ?_) ?_
  rotate_left 1
  · exact AllReadyH.nil
  go_simp
  refine hK.out _ _ ?_ (fun hHeld => ?_)
  · ((exact HKEEP.out _ HG3.out (by rw [World.cell?_setCell_other _ _ _ _ (by intro e; cases e)]; exact HH2.out.2.2.1)))
  clear hK K
  try simp only [Act.put, List.getElem_toArray, List.getElem_cons_zero, List.getElem_cons_succ, List.setIfInBounds_toArray, List.set_cons_zero, List.set_cons_succ]
  refine wpAnyH_done (by kernel_rfl) ?_ _
  refine NoPanic.normal ?_
  obtain ⟨E1, hE1⟩ : ∃ E1 : Ev, E1 = ⟨st, su, (L : Int) + 1, (n : Int) + 1, u, sa, sn, sc, sl⟩ := ⟨_, rfl⟩
  have HE1 := Lib.hid hE1
  have hz3 : (w2.setCell ⟨z, 3, none⟩ (.int .i64 ((n : Int) + 1))).heap[z]? = some (.cells E1.cells.toArray 54 (0, 0)) := by rw [hE1]; exact HZ3.out
  have hG3 := HG3.out
  obtain ⟨w3, hw3⟩ : ∃ w3, w2.setCell ⟨z, 3, none⟩ (.int .i64 ((n : Int) + 1)) = w3 := ⟨_, rfl⟩
  rw [hw3] at hz3 hG3 hHeld ⊢
  have hs3 : z + 2 ≤ w3.heap.size := by have := hG3.size; have := HSD1.out; omega
  have hB3 : Below z w w3 := HBd.out.grown hG3 (by have := HSD1.out; omega) (fun k e => by cases e; exact Nat.le_refl _)
  have HRD3 := Lib.hid (row_grown HRD1.out hG3 (by intro e; exact hzt (Option.some.inj e)))
  have HRR3 := Lib.hid (row_grown HRR1.out hG3 (by intro e; have := Option.some.inj e; omega))
  have HZ3' := Lib.hid hz3
  have HS3 := Lib.hid (show w3.cell? ⟨tb, 0, none⟩ = some (.slice aa n ac) ∧ w3.cell? ⟨tb, 1, none⟩ = some (.map (some mb)) ∧ w3.cell? ⟨z, 0, none⟩ = some (.string st) from ⟨hHeld.1, hHeld.2.1, hHeld.2.2.1⟩)
  clear hw3 hz3 hG3 hHeld HKEEP HG3 HZ3 HH2 f2 f3 k2 k3 f3' k3' hS0 HBd HZD1 HRD1 HRR1 HSD1 hE1 hwL hwN
  have hmt : mb ≠ tb := HM.out.ne HROW.out
  have hnm : namesOf es ≤ 1000 := by
    unfold namesOf
    have := List.length_filter_le (fun i => (idxOf (es.take i) (es[i]?.getD zEv).st).isEmpty) (List.range es.length)
    rw [List.length_range] at this
    have := HN.out
    omega
  go_upto_region 2 with fail
  go_cut [] from 22 (fun wx => AdMid w tb z mb n L aa ac (szOf es : Int) E1 (.slice la L lc) (idxOf es st) (namesOf es) fm wx)
  case first =>
      obtain ⟨i0, hi0, hzz0, hsz0, hby0⟩ := info_parts intInfo
      have hS4 : AdT tb z mb (.slice aa n ac) st w3.drew := HS3.out
      refine wp_region_noPanic ?_
      refine wp_region_held_drew (S := AdT tb z mb (.slice aa n ac) st) (by kernel_rfl) ?_ (fun hHeld => ?_)
      · (exact hS4)
      have hrd4 : w3.drew.heap[tb]? = _ := HRD3.out
      have hzd4 : w3.drew.heap[z]? = _ := HZ3'.out
      have hrr4 : w3.drew.heap[z + 1]? = _ := HRR3.out
      have hB4 : Below z w w3.drew := hB3.drew
      have hB4s : z ≤ w3.drew.heap.size := by show z ≤ w3.heap.size; omega
      have hs4 : z + 2 ≤ w3.drew.heap.size := hs3
      have HRD4 := Lib.hid hrd4
      have HZD4 := Lib.hid hzd4
      have HRR4 := Lib.hid hrr4
      clear hrd4 hzd4 hrr4
      generalize w3.drew = w4 at hS4 hHeld HRD4 HZD4 HRR4 hB4 hB4s hs4 ⊢
      have hlk4 : (Instr.lookup 75 (.map (some mb)) (.string st) false).run Try.prog w4 = .ok (.slice la L lc) w4 := (HLK0.out w4 hB4).trans (by rw [HLV.out, HL.out])
      refine wpAnyH_take (i := 0) (oi := _) (v := ?_) rfl (by kernel_rfl) (by kernel_rfl) (by kernel_rfl) (fun _ _ _ h => h) (Or.inl ⟨by rfl, ?_⟩) (by assumption) ?_
      rotate_left 1
      · (intro w hSw; (try dsimp only at hSw); go_simp; all_goals (with_reducible rfl))
      try simp only [Act.put, List.getElem_toArray, List.getElem_cons_zero, List.getElem_cons_succ, List.setIfInBounds_toArray, List.set_cons_zero, List.set_cons_succ]
      refine wpAnyH_take (i := 1) (oi := _) (v := ?_) rfl (by kernel_rfl) (by kernel_rfl) (by kernel_rfl) (fun _ _ _ h => h) (Or.inl ⟨by rfl, ?_⟩) (by assumption) ?_
      rotate_left 1
      · (intro w hSw; (try dsimp only at hSw); go_simp; all_goals (with_reducible rfl))
      try simp only [Act.put, List.getElem_toArray, List.getElem_cons_zero, List.getElem_cons_succ, List.setIfInBounds_toArray, List.set_cons_zero, List.set_cons_succ]
      refine wpAnyH_take (i := 2) (oi := _) (v := ?_) rfl (by kernel_rfl) (by kernel_rfl) (by kernel_rfl) (fun _ _ _ h => h) (Or.inl ⟨by rfl, ?_⟩) (by assumption) ?_
      rotate_left 1
      · (intro w hSw; (try dsimp only at hSw); go_simp; all_goals (with_reducible rfl))
      try simp only [Act.put, List.getElem_toArray, List.getElem_cons_zero, List.getElem_cons_succ, List.setIfInBounds_toArray, List.set_cons_zero, List.set_cons_succ]
      refine wpAnyH_take (i := 3) (oi := _) (v := ?_) rfl (by kernel_rfl) (by kernel_rfl) (by kernel_rfl) (fun _ _ _ h => h) (Or.inl ⟨by rfl, ?_⟩) (by assumption) ?_
      rotate_left 1
      · (intro w hSw; (try dsimp only at hSw); go_simp; all_goals (with_reducible rfl))
      try simp only [Act.put, List.getElem_toArray, List.getElem_cons_zero, List.getElem_cons_succ, List.setIfInBounds_toArray, List.set_cons_zero, List.set_cons_succ]
      refine wpAnyH_take (i := 4) (oi := _) (v := ?_) rfl (by kernel_rfl) (by kernel_rfl) (by kernel_rfl) (fun _ _ _ h => h) (Or.inl ⟨by rfl, ?_⟩) (by assumption) ?_
      rotate_left 1
      · (intro w hSw; (try dsimp only at hSw); go_simp; all_goals (with_reducible rfl))
      try simp only [Act.put, List.getElem_toArray, List.getElem_cons_zero, List.getElem_cons_succ, List.setIfInBounds_toArray, List.set_cons_zero, List.set_cons_succ]
      refine wpAnyH_take (i := 5) (oi := _) (v := ?_) rfl (by kernel_rfl) (by kernel_rfl) (by kernel_rfl) (fun _ _ _ h => h) (Or.inl ⟨by rfl, ?_⟩) (by assumption) ?_
      rotate_left 1
      · (intro w hSw; (try dsimp only at hSw); go_simp; all_goals (with_reducible rfl))
      try simp only [Act.put, List.getElem_toArray, List.getElem_cons_zero, List.getElem_cons_succ, List.setIfInBounds_toArray, List.set_cons_zero, List.set_cons_succ]
      refine wpAnyH_take (i := 6) (oi := _) (v := ?_) rfl (by kernel_rfl) (by kernel_rfl) (by kernel_rfl) (fun _ _ _ h => h) (Or.inl ⟨by rfl, ?_⟩) (by assumption) ?_
      rotate_left 1
      · (intro w hSw; (try dsimp only at hSw); go_simp; all_goals (with_reducible rfl))
      try simp only [Act.put, List.getElem_toArray, List.getElem_cons_zero, List.getElem_cons_succ, List.setIfInBounds_toArray, List.set_cons_zero, List.set_cons_succ]
      refine wpAnyH_take (i := 7) (oi := _) (v := ?_) rfl (by kernel_rfl) (by kernel_rfl) (by kernel_rfl) (fun _ _ _ h => h) (Or.inl ⟨by rfl, ?_⟩) (by assumption) ?_
      rotate_left 1
      · (intro w hSw; (try dsimp only at hSw); go_simp; all_goals (with_reducible rfl))
      try simp only [Act.put, List.getElem_toArray, List.getElem_cons_zero, List.getElem_cons_succ, List.setIfInBounds_toArray, List.set_cons_zero, List.set_cons_succ]
      refine wpAnyH_take (i := 8) (oi := _) (v := ?_) rfl (by kernel_rfl) (by kernel_rfl) (by kernel_rfl) (fun _ _ _ h => h) (Or.inl ⟨by rfl, ?_⟩) (by assumption) ?_
      rotate_left 1
      · (intro w hSw; (try dsimp only at hSw); go_simp; all_goals (with_reducible rfl))
      try simp only [Act.put, List.getElem_toArray, List.getElem_cons_zero, List.getElem_cons_succ, List.setIfInBounds_toArray, List.set_cons_zero, List.set_cons_succ]
      refine wpAnyH_take (i := 9) (oi := _) (v := ?_) rfl (by kernel_rfl) (by kernel_rfl) (by kernel_rfl) (fun _ _ _ h => h) (Or.inl ⟨by rfl, ?_⟩) (by assumption) ?_
      rotate_left 1
      · (intro w hSw; (try dsimp only at hSw); go_simp; all_goals (with_reducible rfl))
      try simp only [Act.put, List.getElem_toArray, List.getElem_cons_zero, List.getElem_cons_succ, List.setIfInBounds_toArray, List.set_cons_zero, List.set_cons_succ]
      refine wpAnyH_take (i := 10) (oi := _) (v := ?_) rfl (by kernel_rfl) (by kernel_rfl) (by kernel_rfl) (fun _ _ _ h => h) (Or.inl ⟨by rfl, ?_⟩) (by assumption) ?_
      rotate_left 1
      · (intro w hSw; (try dsimp only at hSw); go_simp; all_goals (with_reducible rfl))
      try simp only [Act.put, List.getElem_toArray, List.getElem_cons_zero, List.getElem_cons_succ, List.setIfInBounds_toArray, List.set_cons_zero, List.set_cons_succ]
      refine wpAnyH_take (i := 11) (oi := _) (v := ?_) rfl (by kernel_rfl) (by kernel_rfl) (by kernel_rfl) (fun _ _ _ h => h) (Or.inl ⟨by rfl, ?_⟩) (by assumption) ?_
      rotate_left 1
      · (intro w hSw; (try dsimp only at hSw); go_simp; all_goals (with_reducible rfl))
      try simp only [Act.put, List.getElem_toArray, List.getElem_cons_zero, List.getElem_cons_succ, List.setIfInBounds_toArray, List.set_cons_zero, List.set_cons_succ]
      refine wpAnyH_take (i := 13) (oi := _) (v := ?_) rfl (by kernel_rfl) (by kernel_rfl) (by kernel_rfl) (fun _ _ _ h => h) (Or.inl ⟨by rfl, ?_⟩) (by assumption) ?_
      rotate_left 1
      · (intro w hSw; (try dsimp only at hSw); go_simp; all_goals (with_reducible rfl))
      try simp only [Act.put, List.getElem_toArray, List.getElem_cons_zero, List.getElem_cons_succ, List.setIfInBounds_toArray, List.set_cons_zero, List.set_cons_succ]
      refine wpAnyH_take (i := 14) (oi := _) (v := ?_) rfl (by kernel_rfl) (by kernel_rfl) (by kernel_rfl) (fun _ _ _ h => h) (Or.inl ⟨by rfl, ?_⟩) (by assumption) ?_
      rotate_left 1
      · (intro w hSw; (try dsimp only at hSw); go_simp; all_goals (with_reducible rfl))
      try simp only [Act.put, List.getElem_toArray, List.getElem_cons_zero, List.getElem_cons_succ, List.setIfInBounds_toArray, List.set_cons_zero, List.set_cons_succ]
      refine wpAnyH_take (i := 15) (oi := _) (v := ?_) rfl (by kernel_rfl) (by kernel_rfl) (by kernel_rfl) (fun _ _ _ h => h) (Or.inl ⟨by rfl, ?_⟩) (by assumption) ?_
      rotate_left 1
      · (intro w hSw; (try dsimp only at hSw); go_simp; all_goals (with_reducible rfl))
      try simp only [Act.put, List.getElem_toArray, List.getElem_cons_zero, List.getElem_cons_succ, List.setIfInBounds_toArray, List.set_cons_zero, List.set_cons_succ]
      refine wpAnyH_take (i := 16) (oi := _) (v := ?_) rfl (by kernel_rfl) (by kernel_rfl) (by kernel_rfl) (fun _ _ _ h => h) (Or.inl ⟨by rfl, ?_⟩) (by assumption) ?_
      rotate_left 1
      · (intro w hSw; (try dsimp only at hSw); go_simp; all_goals (with_reducible rfl))
      try simp only [Act.put, List.getElem_toArray, List.getElem_cons_zero, List.getElem_cons_succ, List.setIfInBounds_toArray, List.set_cons_zero, List.set_cons_succ]
      refine wpAnyH_take (i := 17) (oi := _) (v := ?_) rfl (by kernel_rfl) (by kernel_rfl) (by kernel_rfl) (fun _ _ _ h => h) (Or.inl ⟨by rfl, ?_⟩) (by assumption) ?_
      rotate_left 1
      · (intro w hSw; (try dsimp only at hSw); go_simp; all_goals (with_reducible rfl))
      try simp only [Act.put, List.getElem_toArray, List.getElem_cons_zero, List.getElem_cons_succ, List.setIfInBounds_toArray, List.set_cons_zero, List.set_cons_succ]
      refine wpAnyH_ready (rs := [12, 18]) (by kernel_rfl) (by simp) ?_
      refine AllReadyH.cons (o := _) rfl (fun K hK => ?_) (AllReadyH.cons (o := _) rfl (fun K hK => ?_) AllReadyH.nil)
      · skip
        go_simp
        refine hK.out _ _ hS4 (fun hHeld => ?_)
        clear hK K
        try simp only [Act.put, List.getElem_toArray, List.getElem_cons_zero, List.getElem_cons_succ, List.setIfInBounds_toArray, List.set_cons_zero, List.set_cons_succ]
        refine wpAnyH_ready (rs := [18]) (by kernel_rfl) (by simp) ?_
        refine AllReadyH.cons (o := _) rfl (fun K hK => ?_) ?_
        rotate_left 1
        · exact AllReadyH.nil
        go_simp
        refine hK.out _ _ ?_ (fun hHeld => ?_)
        · (exact adT_grow hS4 (World.grownBy_alloc w4 _ none) (by intro e; cases e) (by intro e; cases e))
        clear hK K
        try simp only [Act.put, List.getElem_toArray, List.getElem_cons_zero, List.getElem_cons_succ, List.setIfInBounds_toArray, List.set_cons_zero, List.set_cons_succ]
        have hgB : (w4.alloc (.cells #[.int .i64 (n : Int)] 3)).heap[w4.heap.size]? = some (.cells [Value.int .i64 (n : Int)].toArray 3 (0, 0)) := heap_alloc_new w4 _
        have hBB : Below z w (w4.alloc (.cells #[.int .i64 (n : Int)] 3)) := hB4.alloc hB4s _
        obtain ⟨wB, hwB⟩ : ∃ wB, w4.alloc (.cells #[.int .i64 (n : Int)] 3) = wB := ⟨_, rfl⟩
        have hB4B : Below w4.heap.size w4 (w4.alloc (.cells #[.int .i64 (n : Int)] 3)) := (Below.refl _ _).alloc (Nat.le_refl _) _
        rw [hwB] at hgB hBB hB4B hHeld ⊢
        have hSB := hHeld
        have hoB : wB.ownsRow 0 3 1 (.slice la L lc) L (ivs (idxOf es st)) := by have := owns_below HLO.out hBB (by omega); rwa [HL.out] at this
        have hloz : ∀ k, (Value.slice la L lc).ownBlock = some k → k < z ∧ k ≠ tb ∧ k ≠ mb := fun k e => by
          have h1 : w.ownsRow 0 3 1 (.slice la L lc) L (ivs (idxOf es st)) := by have := HLO.out; rwa [HL.out] at this
          refine ⟨by rw [← hz]; exact (h1.lt k e).2, ?_, ?_⟩
          · intro e2; subst e2; exact own_typ h1 (by have := HROW.out; exact this) (by decide) e
          · intro e2; subst e2; exact own_mapN h1 HM.out e
        have HLOZ := Lib.hid hloz
        have hne1 : (Value.slice la L lc).ownBlock ≠ some tb := fun e => (HLOZ.out _ e).2.1 rfl
        have hne2 : (Value.slice la L lc).ownBlock ≠ some z := fun e => by have := (HLOZ.out _ e).1; omega
        have hne3 : (Value.slice la L lc).ownBlock ≠ some mb := fun e => (HLOZ.out _ e).2.2 rfl
        refine wpAnyH_ready (rs := [19]) (by kernel_rfl) (by simp) ?_
        refine AllReadyH.cons (o := _) rfl (fun K hK => ?_) ?_
        rotate_left 1
        · exact AllReadyH.nil
        refine step_app3 rfl _ _ _ _ rfl 0 3 i0 _ 1 8 Try.underlying22 hi0 hzz0 hsz0 hby0 rfl (.slice la L lc) L _ rfl hoB _ rfl 1 [.int .i64 (n : Int)] (src_of_rdc Try.underlying22 (rd_rowN hgB) rfl (by simp [Value.oneCell'])) (by unfold maxLen;omega) (by omega) (Nat.zero_le _) ?_
        intro v5 w5 hO5 hG5 hv5
        refine hK.out _ _ ?_ (fun hHeld => ?_)
        · (exact adT_grow hSB hG5 hne1 hne2)
        clear hK K
        try simp only [Act.put, List.getElem_toArray, List.getElem_cons_zero, List.getElem_cons_succ, List.setIfInBounds_toArray, List.set_cons_zero, List.set_cons_succ]
        have hS5 := hHeld
        have hm5 : SMap Try.prog 9 w5 mb (namesOf es) fm := (HM.out.below hBB hmb).kept hG5 (fun e => hne3 e.symm)
        refine wpAnyH_ready (rs := [20]) (by kernel_rfl) (by simp) ?_
        refine AllReadyH.cons (o := _) rfl (fun K hK => ?_) ?_
        rotate_left 1
        · exact AllReadyH.nil
        refine step_mapUpdate_s (by kernel_rfl) _ _ _ rfl Try.underlying9 Try.underlying75 rfl hm5 (by unfold maxLen;omega) st rfl hst.1 v5 rfl ?_
        intro w6 hm6 hG6
        refine hK.out _ _ ?_ (fun hHeld => ?_)
        · (exact adT_grow hS5 hG6 (by intro e; have := Option.some.inj e; omega) (by intro e; have := Option.some.inj e; omega))
        clear hK K
        try simp only [Act.put, List.getElem_toArray, List.getElem_cons_zero, List.getElem_cons_succ, List.setIfInBounds_toArray, List.set_cons_zero, List.set_cons_succ]
        refine wpAnyH_done (by kernel_rfl) ?_ _
        refine NoPanic.normal ?_
        (repeat' ((fail_if_success at_builtin); first | go_values | go_skip | go_guarded | go_step | go_upon))
        go_meet
        have hst1 : E1.st = st := by rw [HE1.out]
        refine ⟨v5, ?_, ?_, ?_, owns_keep hO5 hG6 (.inr (fun e => own_mapN hO5 hm5 e.symm)), ?_, by rw [hst1]; exact hm6, ?_, ?_⟩
        · exact row_grown (row_grown (row_below HRD4.out hB4B (by omega)) hG5 hne1) hG6 (by intro e; exact hmt (Option.some.inj e))
        · exact row_grown (row_grown (row_below HZD4.out hB4B (by omega)) hG5 hne2) hG6 (by intro e; have := Option.some.inj e; omega)
        · exact row_grown (row_grown (row_below HRR4.out hB4B (by omega)) hG5 (fun e => by have := (HLOZ.out _ e).1; omega)) hG6 (by intro e; have := Option.some.inj e; omega)
        · rcases hv5 with h1 | h1
          · exact .inl h1
          · exact .inr fun k e => by have := h1 k e; have := hB4B.size; omega
        · exact ((Frm.ofBelow hBB).grown hG5 (by have := hB4B.size; omega) (fun k e _ => .inr e)).grown hG6 (by have := hB4B.size; have := hG5.size; omega) (fun k e _ => by cases e; exact .inl rfl)
        · have := hB4B.size; have := hG5.size; have := hG6.size; omega
      · skip
        go_simp
        refine hK.out _ _ (adT_grow hS4 (World.grownBy_alloc w4 _ none) (by intro e; cases e) (by intro e; cases e)) (fun hHeld => ?_)
        clear hK K
        try simp only [Act.put, List.getElem_toArray, List.getElem_cons_zero, List.getElem_cons_succ, List.setIfInBounds_toArray, List.set_cons_zero, List.set_cons_succ]
        have hgB : (w4.alloc (.cells #[.int .i64 (n : Int)] 3)).heap[w4.heap.size]? = some (.cells [Value.int .i64 (n : Int)].toArray 3 (0, 0)) := heap_alloc_new w4 _
        have hBB : Below z w (w4.alloc (.cells #[.int .i64 (n : Int)] 3)) := hB4.alloc hB4s _
        obtain ⟨wB, hwB⟩ : ∃ wB, w4.alloc (.cells #[.int .i64 (n : Int)] 3) = wB := ⟨_, rfl⟩
        have hB4B : Below w4.heap.size w4 (w4.alloc (.cells #[.int .i64 (n : Int)] 3)) := (Below.refl _ _).alloc (Nat.le_refl _) _
        rw [hwB] at hgB hBB hB4B hHeld ⊢
        have hSB := hHeld
        have hlkB : (Instr.lookup 75 (.map (some mb)) (.string st) false).run Try.prog wB = .ok (.slice la L lc) wB := (HLK0.out wB hBB).trans (by rw [HLV.out, HL.out])
        refine wpAnyH_ready (rs := [12]) (by kernel_rfl) (by simp) ?_
        refine AllReadyH.cons (o := _) rfl (fun K hK => ?_) ?_
        rotate_left 1
        · exact AllReadyH.nil
        go_simp
        refine hK.out _ _ ?_ (fun hHeld => ?_)
        · (exact hSB)
        clear hK K
        try simp only [Act.put, List.getElem_toArray, List.getElem_cons_zero, List.getElem_cons_succ, List.setIfInBounds_toArray, List.set_cons_zero, List.set_cons_succ]
        clear hlkB
        have hoB : wB.ownsRow 0 3 1 (.slice la L lc) L (ivs (idxOf es st)) := by have := owns_below HLO.out hBB (by omega); rwa [HL.out] at this
        have hloz : ∀ k, (Value.slice la L lc).ownBlock = some k → k < z ∧ k ≠ tb ∧ k ≠ mb := fun k e => by
          have h1 : w.ownsRow 0 3 1 (.slice la L lc) L (ivs (idxOf es st)) := by have := HLO.out; rwa [HL.out] at this
          refine ⟨by rw [← hz]; exact (h1.lt k e).2, ?_, ?_⟩
          · intro e2; subst e2; exact own_typ h1 (by have := HROW.out; exact this) (by decide) e
          · intro e2; subst e2; exact own_mapN h1 HM.out e
        have HLOZ := Lib.hid hloz
        have hne1 : (Value.slice la L lc).ownBlock ≠ some tb := fun e => (HLOZ.out _ e).2.1 rfl
        have hne2 : (Value.slice la L lc).ownBlock ≠ some z := fun e => by have := (HLOZ.out _ e).1; omega
        have hne3 : (Value.slice la L lc).ownBlock ≠ some mb := fun e => (HLOZ.out _ e).2.2 rfl
        refine wpAnyH_ready (rs := [19]) (by kernel_rfl) (by simp) ?_
        refine AllReadyH.cons (o := _) rfl (fun K hK => ?_) ?_
        rotate_left 1
        · exact AllReadyH.nil
        refine step_app3 rfl _ _ _ _ rfl 0 3 i0 _ 1 8 Try.underlying22 hi0 hzz0 hsz0 hby0 rfl (.slice la L lc) L _ rfl hoB _ rfl 1 [.int .i64 (n : Int)] (src_of_rdc Try.underlying22 (rd_rowN hgB) rfl (by simp [Value.oneCell'])) (by unfold maxLen;omega) (by omega) (Nat.zero_le _) ?_
        intro v5 w5 hO5 hG5 hv5
        refine hK.out _ _ ?_ (fun hHeld => ?_)
        · (exact adT_grow hSB hG5 hne1 hne2)
        clear hK K
        try simp only [Act.put, List.getElem_toArray, List.getElem_cons_zero, List.getElem_cons_succ, List.setIfInBounds_toArray, List.set_cons_zero, List.set_cons_succ]
        have hS5 := hHeld
        have hm5 : SMap Try.prog 9 w5 mb (namesOf es) fm := (HM.out.below hBB hmb).kept hG5 (fun e => hne3 e.symm)
        refine wpAnyH_ready (rs := [20]) (by kernel_rfl) (by simp) ?_
        refine AllReadyH.cons (o := _) rfl (fun K hK => ?_) ?_
        rotate_left 1
        · exact AllReadyH.nil
        refine step_mapUpdate_s (by kernel_rfl) _ _ _ rfl Try.underlying9 Try.underlying75 rfl hm5 (by unfold maxLen;omega) st rfl hst.1 v5 rfl ?_
        intro w6 hm6 hG6
        refine hK.out _ _ ?_ (fun hHeld => ?_)
        · (exact adT_grow hS5 hG6 (by intro e; have := Option.some.inj e; omega) (by intro e; have := Option.some.inj e; omega))
        clear hK K
        try simp only [Act.put, List.getElem_toArray, List.getElem_cons_zero, List.getElem_cons_succ, List.setIfInBounds_toArray, List.set_cons_zero, List.set_cons_succ]
        refine wpAnyH_done (by kernel_rfl) ?_ _
        refine NoPanic.normal ?_
        (repeat' ((fail_if_success at_builtin); first | go_values | go_skip | go_guarded | go_step | go_upon))
        go_meet
        have hst1 : E1.st = st := by rw [HE1.out]
        refine ⟨v5, ?_, ?_, ?_, owns_keep hO5 hG6 (.inr (fun e => own_mapN hO5 hm5 e.symm)), ?_, by rw [hst1]; exact hm6, ?_, ?_⟩
        · exact row_grown (row_grown (row_below HRD4.out hB4B (by omega)) hG5 hne1) hG6 (by intro e; exact hmt (Option.some.inj e))
        · exact row_grown (row_grown (row_below HZD4.out hB4B (by omega)) hG5 hne2) hG6 (by intro e; have := Option.some.inj e; omega)
        · exact row_grown (row_grown (row_below HRR4.out hB4B (by omega)) hG5 (fun e => by have := (HLOZ.out _ e).1; omega)) hG6 (by intro e; have := Option.some.inj e; omega)
        · rcases hv5 with h1 | h1
          · exact .inl h1
          · exact .inr fun k e => by have := h1 k e; have := hB4B.size; omega
        · exact ((Frm.ofBelow hBB).grown hG5 (by have := hB4B.size; omega) (fun k e _ => .inr e)).grown hG6 (by have := hB4B.size; have := hG5.size; omega) (fun k e _ => by cases e; exact .inl rfl)
        · have := hB4B.size; have := hG5.size; have := hG6.size; omega
  case rest =>
    obtain ⟨v5, hrow6, hz6, hr6, hO5, hv5, hm6, hF6, hs6⟩ := hcut
    generalize wc = w6 at *
    obtain ⟨iE, zE, hiE, hzE, hsE, hbE, hcE⟩ := evInfo_parts
    have hlvo : w.ownsRow 0 3 1 (.slice la L lc) L (ivs (idxOf es st)) := by have := HLO.out; rwa [HL.out] at this
    have halo : w.ownsRow 0 54 6 (.slice aa n ac) n (es.flatMap Ev.cells) := by have := HALL.out; rwa [HN.out] at this
    have hsn1 : E1.sn ≤ 140737488351232 := by rw [HE1.out]; show sn ≤ 140737488351232; omega
    have hall6 : w6.ownsRow 0 54 6 (.slice aa n ac) n (es.flatMap Ev.cells) := by
      refine owns_blk halo fun k e => hF6.block k (by rw [← hz]; exact (halo.lt k e).2) ?_
      rintro (e2 | e2)
      · subst e2; exact own_mapN halo HM.out e
      · rcases hlvo.2 with ⟨h4, _⟩ | ⟨g', cap, cur, h4, _, hh, _⟩
        · rw [h4] at e2; cases e2
        · rw [h4] at e2; cases e2
          exact own_typ halo hh (by decide) e
    have hlvS : ∀ k, (Value.slice la L lc).ownBlock = some k → S k := fun k h1 => by
      cases hf : fm st with
      | none => have := HLV.out; rw [hf, HL.out] at this; rw [← this] at h1; cases h1
      | some vv =>
        have h9 := HLV.out
        rw [hf, HL.out] at h9
        have h9' : vv = .slice la L lc := h9
        exact (H7.out st vv hf).2.1 k (by rw [h9']; exact h1)
    have hvaS : ∀ k, (Value.slice aa n ac).ownBlock = some k → S k := fun k h1 => H3.out k (by rw [HN.out]; exact h1)
    have HSUB := Lib.hid (show ∀ wq, Frm z (fun k => k = mb ∨ (Value.slice la L lc).ownBlock = some k ∨ (Value.slice aa n ac).ownBlock = some k ∨ k = tb) w wq → Frm w.heap.size S w wq from fun wq h => h.mono (by omega) (by
      rintro k _ (h1 | h1 | h1 | h1)
      · rw [h1]; exact H5.out
      · exact hlvS k h1
      · exact hvaS k h1
      · rw [h1]; exact HX.out.foot))
    have hE1l : E1.sl.length = E1.sn := by rw [HE1.out]; exact HEL.out
    have HE1RD := Lib.hid (show ∀ wq, Frm w.heap.size S w wq → RdB wq E1.sa E1.sl from fun wq h => by rw [HE1.out]; exact HE.out wq h)
    have hE1rd : RdB w6 E1.sa E1.sl := HE1RD.out w6 (HSUB.out w6 (hF6.mono (Nat.le_refl _) (fun k _ hk => by rcases hk with h | h; exact .inl h; exact .inr (.inl h))))
    have RDX := Lib.hid (show ∀ wq, Below w6.heap.size w6 wq → RdB wq E1.sa E1.sl from fun wq hb => hE1rd.below hb (Nat.le_refl _))
    have hvz : (Value.slice aa n ac).ownBlock ≠ some z := fun e => by have := (halo.lt _ e).2; omega
    have HFIN : Hid (∀ (w7 wf wg w9 : World) (a2 : Option Addr) (c2 : Nat) (va2a : Option Addr) (va2c : Nat) (E2 : Ev), E2 = { E1 with sa := a2, sc := c2 } → Below w6.heap.size w6 w7 → E2.Rd w7.heap.size wf → Below w7.heap.size w7 wf → Below wf.heap.size wf wg →
        w9.ownsRow 0 54 6 (.slice va2a (n + 1) va2c) (n + 1) (es.flatMap Ev.cells ++ E2.cells) → wg.grownBy w9 (Value.slice aa n ac).ownBlock → ((Value.slice va2a (n + 1) va2c).ownBlock = (Value.slice aa n ac).ownBlock ∨ ∀ k, (Value.slice va2a (n + 1) va2c).ownBlock = some k → wg.heap.size ≤ k) →
        AdMid3 w tb z mb n L (.slice aa n ac) (szOf es : Int) E1 es (.slice la L lc) (idxOf es st) (namesOf es) fm (w9.setCell ⟨tb, 0, none⟩ (.slice va2a (n + 1) va2c))) := by
      refine Lib.hid ?_
      intro w7 wf wg w9 a2 c2 va2a va2c E2 hE2 hB67 hrf hBf hBg hO9 hG9 hv9
      have hB7g : Below w7.heap.size w7 wg := hBf.trans (hBg.mono hBf.size)
      have hB6g : Below w6.heap.size w6 wg := hB67.trans (hB7g.mono hB67.size)
      have hzs : w6.heap.size ≤ wg.heap.size := hB6g.size
      have hallg := owns_below hall6 hB6g (Nat.le_refl _)
      have hrowg := row_below hrow6 hB6g (lt_of_get hrow6)
      have hrow9 := row_grown hrowg hG9 (own_typ hallg hrowg (by decide))
      have hGt := grown_setC w9 tb 0 (.slice va2a (n + 1) va2c)
      have hO5g := owns_below hO5 hB6g (Nat.le_refl _)
      have hO59 := owns_keep hO5g hG9 (own_ne_typ hO5g hallg (by decide))
      have hmg := hm6.below hB6g hm6.lt
      have hm9 := hmg.kept hG9 (fun e => own_mapN hallg hmg e.symm)
      subst hE2
      refine ⟨v5, .slice va2a (n + 1) va2c, a2, c2, row_setC hrow9 _, ?_, ?_, owns_keep hO59 hGt (.inr (fun e => own_typ hO59 hrow9 (by decide) e.symm)), hv5, hm9.kept hGt (by intro e; exact hmt (Option.some.inj e)), owns_keep hO9 hGt (.inr (fun e => own_typ hO9 hrow9 (by decide) e.symm)), ?_, ?_, ?_, ?_⟩
      · exact row_grown (row_grown (row_below hz6 hB6g (lt_of_get hz6)) hG9 hvz) hGt (by intro e; exact hzt (Option.some.inj e).symm)
      · exact row_grown (row_grown (row_below hr6 hB6g (lt_of_get hr6)) hG9 (fun e => by have := (halo.lt _ e).2; omega)) hGt (by intro e; have := Option.some.inj e; omega)
      · rcases hv9 with h1 | h1
        · exact .inl h1
        · exact .inr fun k e => by have := h1 k e; omega
      · have hx := hrf.below hBg
        have hx9 := hx.ownNe hallg (by decide) hG9
        exact (hx9.typNe hrow9 (by decide) hGt).of (by have := hB67.size; omega) fun _ _ _ hb => hb
      · exact (((hF6.mono (Nat.le_refl _) (fun k _ hk => by rcases hk with h | h; exact .inl h; exact .inr (.inl h))).trans (Frm.ofBelow (hB6g.mono (by omega)))).grown hG9 (by omega) (fun k e _ => .inr (.inr (.inl e)))).grown hGt (by have := hG9.size; omega) (fun k e _ => by cases e; exact .inr (.inr (.inr rfl)))
      · have := hG9.size; have := hGt.size; omega
    have hu54 : Try.prog.underlying 54 = some _ := Try.underlying54
    have hi54 : (Try.prog.info? 54).map (·.size) = some E1.cells.length := evSize
    clear hHeld HWL HWN HROW0 HR0 HE0 HLK0 HW hs0 hB0 HRD3 HRR3 HZ3' HS3 hB3 hs3
    go_upto_region 3 with fail
    go_cut [] from 22 (fun wx => AdMid3 w tb z mb n L (.slice aa n ac) (szOf es : Int) E1 es (.slice la L lc) (idxOf es st) (namesOf es) fm wx)
    case first =>
      have hH3 : w6.drew.rangeAt z 0 E1.cells := rangeAt_whole (w := w6) hz6
      refine wp_region_noPanic ?_
      refine wp_region_held_drew (S := fun w' => w'.rangeAt z 0 E1.cells) (by kernel_rfl) ?_ (fun hHeld => ?_)
      · (exact hH3)
      have hB67 : Below w6.heap.size w6 w6.drew := (Below.refl _ _).drew
      have hrow7 : w6.drew.heap[tb]? = _ := hrow6
      obtain ⟨w7, hw7⟩ : ∃ w7, w6.drew = w7 := ⟨_, rfl⟩
      rw [hw7] at hB67 hrow7 hH3 hHeld ⊢
      clear hw7
      have c7 : w7.cell? ⟨tb, 0, none⟩ = some (.slice aa n ac) := cell_of_row w7 tb 0 _ _ _ hrow7
      refine wpAnyH_take (i := 0) (oi := _) (v := ?_) rfl (by kernel_rfl) (by kernel_rfl) (by kernel_rfl) (fun _ _ _ h => h) (Or.inl ⟨by rfl, ?_⟩) (by assumption) ?_
      rotate_left 1
      · (intro w hSw; (try dsimp only at hSw); go_simp; all_goals (with_reducible rfl))
      try simp only [Act.put, List.getElem_toArray, List.getElem_cons_zero, List.getElem_cons_succ, List.setIfInBounds_toArray, List.set_cons_zero, List.set_cons_succ]
      refine wpAnyH_take (i := 1) (oi := _) (v := ?_) rfl (by kernel_rfl) (by kernel_rfl) (by kernel_rfl) (fun _ _ _ h => h) (Or.inl ⟨by rfl, ?_⟩) (by assumption) ?_
      rotate_left 1
      · (intro w hSw; (try dsimp only at hSw); go_simp; all_goals (with_reducible rfl))
      try simp only [Act.put, List.getElem_toArray, List.getElem_cons_zero, List.getElem_cons_succ, List.setIfInBounds_toArray, List.set_cons_zero, List.set_cons_succ]
      refine wpAnyH_take (i := 2) (oi := _) (v := ?_) rfl (by kernel_rfl) (by kernel_rfl) (by kernel_rfl) (fun _ _ _ h => h) (Or.inl ⟨by rfl, ?_⟩) (by assumption) ?_
      rotate_left 1
      · (intro w hSw; (try dsimp only at hSw); go_simp; all_goals (with_reducible rfl))
      try simp only [Act.put, List.getElem_toArray, List.getElem_cons_zero, List.getElem_cons_succ, List.setIfInBounds_toArray, List.set_cons_zero, List.set_cons_succ]
      refine wpAnyH_take (i := 3) (oi := _) (v := ?_) rfl (by kernel_rfl) (by kernel_rfl) (by kernel_rfl) (fun _ _ _ h => h) (Or.inl ⟨by rfl, ?_⟩) (by assumption) ?_
      rotate_left 1
      · (intro w hSw; (try dsimp only at hSw); go_simp; all_goals (with_reducible rfl))
      try simp only [Act.put, List.getElem_toArray, List.getElem_cons_zero, List.getElem_cons_succ, List.setIfInBounds_toArray, List.set_cons_zero, List.set_cons_succ]
      refine' wpAnyH_take (i := 5) (oi := _) (v := _) rfl (by kernel_rfl) (by kernel_rfl) (by kernel_rfl) (fun _ _ _ h => h) (yieldsIf_load_mid (by rfl) _ _ rfl _ _ rfl _ _ ?ls1 ?lu1 ?ld1 ?li1) (by assumption) ?lr1
      case ls1 => (intro w hSw; (try dsimp only at hSw); go_split_ands; assumption)
      case lu1 => assumption
      case ld1 => rfl
      case li1 => first | assumption | (simp only [*]; done)
      try simp only [Act.put, List.getElem_toArray, List.getElem_cons_zero, List.getElem_cons_succ, List.setIfInBounds_toArray, List.set_cons_zero, List.set_cons_succ]
      refine wpAnyH_ready (rs := [4, 6]) (by kernel_rfl) (by simp) ?_
      refine AllReadyH.cons (o := _) rfl (fun K hK => ?_) (AllReadyH.cons (o := _) rfl (fun K hK => ?_) AllReadyH.nil)
      · skip
        go_simp
        refine hK.out _ _ hH3 (fun hHeld => ?_)
        clear hK K
        try simp only [Act.put, List.getElem_toArray, List.getElem_cons_zero, List.getElem_cons_succ, List.setIfInBounds_toArray, List.set_cons_zero, List.set_cons_succ]
        have hH4 := hHeld
        refine wpAnyH_ready (rs := [6]) (by kernel_rfl) (by simp) ?_
        refine AllReadyH.cons (o := _) rfl (fun K hK => ?_) ?_
        rotate_left 1
        · exact AllReadyH.nil
        go_simp
        go_at_call 55
        refine (freshOf E1 w7 (RDX.out _ hB67) hE1l hsn1).mono ?_
        rintro _ wf ⟨a2, c2, rfl, hrf, hBf⟩
        dsimp only
        refine hK.out _ _ ?_ (fun hHeld => ?_)
        · (exact rangeAt_belowN hH4 hBf)
        clear hK K
        try simp only [Act.put, List.getElem_toArray, List.getElem_cons_zero, List.getElem_cons_succ, List.setIfInBounds_toArray, List.set_cons_zero, List.set_cons_succ]
        obtain ⟨E2, hE2⟩ : ∃ E2 : Ev, E2 = { E1 with sa := a2, sc := c2 } := ⟨_, rfl⟩
        rw [← hE2] at hrf ⊢
        have HE2 := Lib.hid hE2
        clear hE2
        have hHf := hHeld
        have hrowf := row_below hrow7 hBf (lt_of_get hrow7)
        have cf : wf.cell? ⟨tb, 0, none⟩ = some (.slice aa n ac) := cell_of_row wf tb 0 _ _ _ hrowf
        refine wpAnyH_ready (rs := [7]) (by kernel_rfl) (by simp) ?_
        refine AllReadyH.cons (o := _) rfl (fun K hK => ?_) ?_
        rotate_left 1
        · exact AllReadyH.nil
        refine step_build_one (by kernel_rfl) _ _ _ rfl Try.underlying26 E2.cells rfl iE zE hiE hzE (by rw [hsE];rfl) (by rw [E2.cells_length];omega) (by rw [E2.cells_length];omega) ?_
        intro wg hgg hBg hsg
        refine hK.out _ _ ?_ (fun hHeld => ?_)
        · (exact rangeAt_belowN hHf hBg)
        clear hK K
        try simp only [Act.put, List.getElem_toArray, List.getElem_cons_zero, List.getElem_cons_succ, List.setIfInBounds_toArray, List.set_cons_zero, List.set_cons_succ]
        have hHg := hHeld
        have hB7g : Below w7.heap.size w7 wg := hBf.trans (hBg.mono hBf.size)
        have hB6g : Below w6.heap.size w6 wg := hB67.trans (hB7g.mono hB67.size)
        have hallg := owns_below hall6 hB6g (Nat.le_refl _)
        have hrowg := row_below hrow6 hB6g (lt_of_get hrow6)
        refine wpAnyH_ready (rs := [8]) (by kernel_rfl) (by simp) ?_
        refine AllReadyH.cons (o := _) rfl (fun K hK => ?_) ?_
        rotate_left 1
        · exact AllReadyH.nil
        refine step_app3 rfl _ _ _ _ rfl 0 54 iE zE 6 80 Try.underlying26 hiE hzE hsE hbE (by rw [hcE];rfl) (.slice aa n ac) n _ rfl hallg _ rfl 1 E2.cells (src_of_rdc Try.underlying26 (rd_rowN hgg) rfl E2.cells_oneCell) (by unfold maxLen;omega) (by omega) (Nat.zero_le _) ?_
        intro va2 w9 hO9 hG9 hv9
        refine hK.out _ _ ?_ (fun hHeld => ?_)
        · (exact rangeAt_grown hHg hG9 hvz)
        clear hK K
        try simp only [Act.put, List.getElem_toArray, List.getElem_cons_zero, List.getElem_cons_succ, List.setIfInBounds_toArray, List.set_cons_zero, List.set_cons_succ]
        have hH9 := hHeld
        have hrow9 := row_grown hrowg hG9 (own_typ hallg hrowg (by decide))
        have k9 : w9.cell? ⟨tb, 0, none⟩ = some (.slice aa n ac) := cell_of_row w9 tb 0 _ _ _ hrow9
        have fr9 := frozen_of_row w9 tb 0 _ _ hrow9
        obtain ⟨va2a, va2c, rfl, hva2, _, _⟩ := owns_slice hO9
        refine wpAnyH_take (i := 9) (oi := _) (v := ?_) rfl (by kernel_rfl) (by kernel_rfl) (by kernel_rfl) (fun _ _ _ h => h) (Or.inl ⟨by rfl, ?_⟩) (by assumption) ?_
        rotate_left 1
        · (intro w hSw; (try dsimp only at hSw); go_simp; all_goals (with_reducible rfl))
        try simp only [Act.put, List.getElem_toArray, List.getElem_cons_zero, List.getElem_cons_succ, List.setIfInBounds_toArray, List.set_cons_zero, List.set_cons_succ]
        refine wpAnyH_take (i := 10) (oi := _) (v := ?_) rfl (by kernel_rfl) (by kernel_rfl) (by kernel_rfl) (fun _ _ _ h => h) (Or.inl ⟨by rfl, ?_⟩) (by assumption) ?_
        rotate_left 1
        · (intro w hSw; (try dsimp only at hSw); go_simp; all_goals (with_reducible rfl))
        try simp only [Act.put, List.getElem_toArray, List.getElem_cons_zero, List.getElem_cons_succ, List.setIfInBounds_toArray, List.set_cons_zero, List.set_cons_succ]
        refine wpAnyH_ready (rs := [11]) (by kernel_rfl) (by simp) ?_
        refine AllReadyH.cons (o := _) rfl (fun K hK => ?_) ?_
        rotate_left 1
        · exact AllReadyH.nil
        go_simp
        refine hK.out _ _ ?_ (fun hHeld => ?_)
        · (exact rangeAt_grown hH9 (grown_setC w9 tb 0 _) (by intro e; exact hzt (Option.some.inj e).symm))
        clear hK K
        try simp only [Act.put, List.getElem_toArray, List.getElem_cons_zero, List.getElem_cons_succ, List.setIfInBounds_toArray, List.set_cons_zero, List.set_cons_succ]
        refine wpAnyH_done (by kernel_rfl) ?_ _
        refine NoPanic.normal ?_
        (repeat' ((fail_if_success at_builtin); first | go_values | go_skip | go_guarded | go_step | go_upon))
        go_meet
        exact HFIN.out w7 wf wg w9 a2 c2 va2a va2c E2 HE2.out hB67 hrf hBf hBg hO9 hG9 hv9
      · skip
        go_simp
        go_at_call 55
        refine (freshOf E1 w7 (RDX.out _ hB67) hE1l hsn1).mono ?_
        rintro _ wf ⟨a2, c2, rfl, hrf, hBf⟩
        dsimp only
        refine hK.out _ _ (rangeAt_belowN hHeld hBf) (fun hHeld => ?_)
        clear hK K
        try simp only [Act.put, List.getElem_toArray, List.getElem_cons_zero, List.getElem_cons_succ, List.setIfInBounds_toArray, List.set_cons_zero, List.set_cons_succ]
        obtain ⟨E2, hE2⟩ : ∃ E2 : Ev, E2 = { E1 with sa := a2, sc := c2 } := ⟨_, rfl⟩
        rw [← hE2] at hrf ⊢
        have HE2 := Lib.hid hE2
        clear hE2
        have hHf := hHeld
        have hrowf := row_below hrow7 hBf (lt_of_get hrow7)
        have cf : wf.cell? ⟨tb, 0, none⟩ = some (.slice aa n ac) := cell_of_row wf tb 0 _ _ _ hrowf
        refine wpAnyH_ready (rs := [4, 7]) (by kernel_rfl) (by simp) ?_
        refine AllReadyH.cons (o := _) rfl (fun K hK => ?_) (AllReadyH.cons (o := _) rfl (fun K hK => ?_) AllReadyH.nil)
        · go_simp
          refine hK.out _ _ hHf (fun hHeld => ?_)
          clear hK K
          try simp only [Act.put, List.getElem_toArray, List.getElem_cons_zero, List.getElem_cons_succ, List.setIfInBounds_toArray, List.set_cons_zero, List.set_cons_succ]
          refine wpAnyH_ready (rs := [7]) (by kernel_rfl) (by simp) ?_
          refine AllReadyH.cons (o := _) rfl (fun K hK => ?_) ?_
          rotate_left 1
          · exact AllReadyH.nil
          refine step_build_one (by kernel_rfl) _ _ _ rfl Try.underlying26 E2.cells rfl iE zE hiE hzE (by rw [hsE];rfl) (by rw [E2.cells_length];omega) (by rw [E2.cells_length];omega) ?_
          intro wg hgg hBg hsg
          refine hK.out _ _ ?_ (fun hHeld => ?_)
          · (exact rangeAt_belowN hHf hBg)
          clear hK K
          try simp only [Act.put, List.getElem_toArray, List.getElem_cons_zero, List.getElem_cons_succ, List.setIfInBounds_toArray, List.set_cons_zero, List.set_cons_succ]
          have hHg := hHeld
          have hB7g : Below w7.heap.size w7 wg := hBf.trans (hBg.mono hBf.size)
          have hB6g : Below w6.heap.size w6 wg := hB67.trans (hB7g.mono hB67.size)
          have hallg := owns_below hall6 hB6g (Nat.le_refl _)
          have hrowg := row_below hrow6 hB6g (lt_of_get hrow6)
          refine wpAnyH_ready (rs := [8]) (by kernel_rfl) (by simp) ?_
          refine AllReadyH.cons (o := _) rfl (fun K hK => ?_) ?_
          rotate_left 1
          · exact AllReadyH.nil
          refine step_app3 rfl _ _ _ _ rfl 0 54 iE zE 6 80 Try.underlying26 hiE hzE hsE hbE (by rw [hcE];rfl) (.slice aa n ac) n _ rfl hallg _ rfl 1 E2.cells (src_of_rdc Try.underlying26 (rd_rowN hgg) rfl E2.cells_oneCell) (by unfold maxLen;omega) (by omega) (Nat.zero_le _) ?_
          intro va2 w9 hO9 hG9 hv9
          refine hK.out _ _ ?_ (fun hHeld => ?_)
          · (exact rangeAt_grown hHg hG9 hvz)
          clear hK K
          try simp only [Act.put, List.getElem_toArray, List.getElem_cons_zero, List.getElem_cons_succ, List.setIfInBounds_toArray, List.set_cons_zero, List.set_cons_succ]
          have hH9 := hHeld
          have hrow9 := row_grown hrowg hG9 (own_typ hallg hrowg (by decide))
          have k9 : w9.cell? ⟨tb, 0, none⟩ = some (.slice aa n ac) := cell_of_row w9 tb 0 _ _ _ hrow9
          have fr9 := frozen_of_row w9 tb 0 _ _ hrow9
          obtain ⟨va2a, va2c, rfl, hva2, _, _⟩ := owns_slice hO9
          refine wpAnyH_take (i := 9) (oi := _) (v := ?_) rfl (by kernel_rfl) (by kernel_rfl) (by kernel_rfl) (fun _ _ _ h => h) (Or.inl ⟨by rfl, ?_⟩) (by assumption) ?_
          rotate_left 1
          · (intro w hSw; (try dsimp only at hSw); go_simp; all_goals (with_reducible rfl))
          try simp only [Act.put, List.getElem_toArray, List.getElem_cons_zero, List.getElem_cons_succ, List.setIfInBounds_toArray, List.set_cons_zero, List.set_cons_succ]
          refine wpAnyH_take (i := 10) (oi := _) (v := ?_) rfl (by kernel_rfl) (by kernel_rfl) (by kernel_rfl) (fun _ _ _ h => h) (Or.inl ⟨by rfl, ?_⟩) (by assumption) ?_
          rotate_left 1
          · (intro w hSw; (try dsimp only at hSw); go_simp; all_goals (with_reducible rfl))
          try simp only [Act.put, List.getElem_toArray, List.getElem_cons_zero, List.getElem_cons_succ, List.setIfInBounds_toArray, List.set_cons_zero, List.set_cons_succ]
          refine wpAnyH_ready (rs := [11]) (by kernel_rfl) (by simp) ?_
          refine AllReadyH.cons (o := _) rfl (fun K hK => ?_) ?_
          rotate_left 1
          · exact AllReadyH.nil
          go_simp
          refine hK.out _ _ ?_ (fun hHeld => ?_)
          · (exact rangeAt_grown hH9 (grown_setC w9 tb 0 _) (by intro e; exact hzt (Option.some.inj e).symm))
          clear hK K
          try simp only [Act.put, List.getElem_toArray, List.getElem_cons_zero, List.getElem_cons_succ, List.setIfInBounds_toArray, List.set_cons_zero, List.set_cons_succ]
          refine wpAnyH_done (by kernel_rfl) ?_ _
          refine NoPanic.normal ?_
          (repeat' ((fail_if_success at_builtin); first | go_values | go_skip | go_guarded | go_step | go_upon))
          go_meet
          exact HFIN.out w7 wf wg w9 a2 c2 va2a va2c E2 HE2.out hB67 hrf hBf hBg hO9 hG9 hv9
        · skip
          refine step_build_one (by kernel_rfl) _ _ _ rfl Try.underlying26 E2.cells rfl iE zE hiE hzE (by rw [hsE];rfl) (by rw [E2.cells_length];omega) (by rw [E2.cells_length];omega) ?_
          intro wg hgg hBg hsg
          refine hK.out _ _ (rangeAt_belowN hHf hBg) (fun hHeld => ?_)
          clear hK K
          try simp only [Act.put, List.getElem_toArray, List.getElem_cons_zero, List.getElem_cons_succ, List.setIfInBounds_toArray, List.set_cons_zero, List.set_cons_succ]
          have hrowg0 := row_below hrowf hBg (lt_of_get hrowf)
          have cg : wg.cell? ⟨tb, 0, none⟩ = some (.slice aa n ac) := cell_of_row wg tb 0 _ _ _ hrowg0
          have hHg0 := hHeld
          refine wpAnyH_ready (rs := [4]) (by kernel_rfl) (by simp) ?_
          refine AllReadyH.cons (o := _) rfl (fun K hK => ?_) ?_
          rotate_left 1
          · exact AllReadyH.nil
          go_simp
          refine hK.out _ _ ?_ (fun hHeld => ?_)
          · (exact hHg0)
          clear hK K
          try simp only [Act.put, List.getElem_toArray, List.getElem_cons_zero, List.getElem_cons_succ, List.setIfInBounds_toArray, List.set_cons_zero, List.set_cons_succ]
          have hHg := hHeld
          have hB7g : Below w7.heap.size w7 wg := hBf.trans (hBg.mono hBf.size)
          have hB6g : Below w6.heap.size w6 wg := hB67.trans (hB7g.mono hB67.size)
          have hallg := owns_below hall6 hB6g (Nat.le_refl _)
          have hrowg := row_below hrow6 hB6g (lt_of_get hrow6)
          refine wpAnyH_ready (rs := [8]) (by kernel_rfl) (by simp) ?_
          refine AllReadyH.cons (o := _) rfl (fun K hK => ?_) ?_
          rotate_left 1
          · exact AllReadyH.nil
          refine step_app3 rfl _ _ _ _ rfl 0 54 iE zE 6 80 Try.underlying26 hiE hzE hsE hbE (by rw [hcE];rfl) (.slice aa n ac) n _ rfl hallg _ rfl 1 E2.cells (src_of_rdc Try.underlying26 (rd_rowN hgg) rfl E2.cells_oneCell) (by unfold maxLen;omega) (by omega) (Nat.zero_le _) ?_
          intro va2 w9 hO9 hG9 hv9
          refine hK.out _ _ ?_ (fun hHeld => ?_)
          · (exact rangeAt_grown hHg hG9 hvz)
          clear hK K
          try simp only [Act.put, List.getElem_toArray, List.getElem_cons_zero, List.getElem_cons_succ, List.setIfInBounds_toArray, List.set_cons_zero, List.set_cons_succ]
          have hH9 := hHeld
          have hrow9 := row_grown hrowg hG9 (own_typ hallg hrowg (by decide))
          have k9 : w9.cell? ⟨tb, 0, none⟩ = some (.slice aa n ac) := cell_of_row w9 tb 0 _ _ _ hrow9
          have fr9 := frozen_of_row w9 tb 0 _ _ hrow9
          obtain ⟨va2a, va2c, rfl, hva2, _, _⟩ := owns_slice hO9
          refine wpAnyH_take (i := 9) (oi := _) (v := ?_) rfl (by kernel_rfl) (by kernel_rfl) (by kernel_rfl) (fun _ _ _ h => h) (Or.inl ⟨by rfl, ?_⟩) (by assumption) ?_
          rotate_left 1
          · (intro w hSw; (try dsimp only at hSw); go_simp; all_goals (with_reducible rfl))
          try simp only [Act.put, List.getElem_toArray, List.getElem_cons_zero, List.getElem_cons_succ, List.setIfInBounds_toArray, List.set_cons_zero, List.set_cons_succ]
          refine wpAnyH_take (i := 10) (oi := _) (v := ?_) rfl (by kernel_rfl) (by kernel_rfl) (by kernel_rfl) (fun _ _ _ h => h) (Or.inl ⟨by rfl, ?_⟩) (by assumption) ?_
          rotate_left 1
          · (intro w hSw; (try dsimp only at hSw); go_simp; all_goals (with_reducible rfl))
          try simp only [Act.put, List.getElem_toArray, List.getElem_cons_zero, List.getElem_cons_succ, List.setIfInBounds_toArray, List.set_cons_zero, List.set_cons_succ]
          refine wpAnyH_ready (rs := [11]) (by kernel_rfl) (by simp) ?_
          refine AllReadyH.cons (o := _) rfl (fun K hK => ?_) ?_
          rotate_left 1
          · exact AllReadyH.nil
          go_simp
          refine hK.out _ _ ?_ (fun hHeld => ?_)
          · (exact rangeAt_grown hH9 (grown_setC w9 tb 0 _) (by intro e; exact hzt (Option.some.inj e).symm))
          clear hK K
          try simp only [Act.put, List.getElem_toArray, List.getElem_cons_zero, List.getElem_cons_succ, List.setIfInBounds_toArray, List.set_cons_zero, List.set_cons_succ]
          refine wpAnyH_done (by kernel_rfl) ?_ _
          refine NoPanic.normal ?_
          (repeat' ((fail_if_success at_builtin); first | go_values | go_skip | go_guarded | go_step | go_upon))
          go_meet
          exact HFIN.out w7 wf wg w9 a2 c2 va2a va2c E2 HE2.out hB67 hrf hBf hBg hO9 hG9 hv9
    case rest =>
      obtain ⟨v5b, va2, a2, c2, hrow10, hz10, hr10, hO10, hv10, hm10, hall10, hva10, hE10, hF10, hs10⟩ := hcut
      generalize wc = w10 at *
      have hE1n : E1.sn = sn := by rw [HE1.out]
      have k2 : w10.cell? ⟨tb, 2, none⟩ = some (.int .i64 (szOf es : Int)) := cell_of_row w10 tb 2 _ _ _ hrow10
      have fr2 := frozen_of_row w10 tb 2 _ _ hrow10
      have k5 : w10.cell? ⟨z, 5, none⟩ = some (.slice E1.sa E1.sn E1.sc) := cell_of_row w10 z 5 _ _ _ hz10
      rw [hE1n] at k5
      have hwS : IntKind.i64.wrap ((szOf es : Int) + (sn : Int)) = (szOf es : Int) + (sn : Int) := IntWalk.i64_in _ (by omega)
      have HROW10 := Lib.hid hrow10
      have HZ10 := Lib.hid hz10
      have HR10 := Lib.hid hr10
      have HO10 := Lib.hid hO10
      have HV10 := Lib.hid hv10
      have HM10 := Lib.hid hm10
      have HALL10 := Lib.hid hall10
      have HVA10 := Lib.hid hva10
      have HE10 := Lib.hid hE10
      have HF10 := Lib.hid hF10
      have HE1N := Lib.hid hE1n
      clear hrow6 hz6 hr6 hO5 hv5 hm6 hF6 hall6 hE1rd RDX HFIN hrow10 hz10 hr10 hO10 hv10 hm10 hall10 hva10 hE10 hF10 hE1n
      (repeat' ((fail_if_success at_builtin); first | go_values | go_skip | go_guarded | go_step | go_upon))
      go_region
      have hG11 : w10.grownBy (w10.setCell ⟨tb, 2, none⟩ (.int .i64 ((szOf es : Int) + (sn : Int)))).drew (some tb) := ⟨rfl, rfl, rfl, (grown_setC w10 tb 2 _).size, (grown_setC w10 tb 2 _).block⟩
      have hrow11 : (w10.setCell ⟨tb, 2, none⟩ (.int .i64 ((szOf es : Int) + (sn : Int)))).drew.heap[tb]? = some (.cells #[va2, .map (some mb), .int .i64 ((szOf es : Int) + (sn : Int))] 77 (0, 0)) := row_setC (o := 2) HROW10.out _
      obtain ⟨w11, hw11⟩ : ∃ w11, (w10.setCell ⟨tb, 2, none⟩ (.int .i64 ((szOf es : Int) + (sn : Int)))).drew = w11 := ⟨_, rfl⟩
      rw [hw11] at hG11 hrow11 ⊢
      have hF11 : Frm z (fun k => k = mb ∨ (Value.slice la L lc).ownBlock = some k ∨ (Value.slice aa n ac).ownBlock = some k ∨ k = tb) w w11 := HF10.out.grown hG11 (by omega) (fun k e _ => by cases e; exact .inr (.inr (.inr rfl)))
      have hz11 := row_grown HZ10.out hG11 (by intro e; exact hzt (Option.some.inj e).symm)
      have hr11 := row_grown HR10.out hG11 (by intro e; have := Option.some.inj e; omega)
      have hs11 : z + 2 ≤ w11.heap.size := by have := hG11.size; omega
      have hE1_11 : RdB w11 E1.sa E1.sl := HE1RD.out w11 (HSUB.out w11 hF11)
      have HLVE : (fm st).getD (.slice none 0 0) = .slice la L lc := by rw [HLV.out, HL.out]
      have HT11 := Lib.hid (show TenAt w11 (fun k => S k ∨ va2.ownBlock = some k ∨ v5b.ownBlock = some k ∨ (0 < ({ E1 with sa := a2, sc := c2 } : Ev).sl.length ∧ ∃ o, ({ E1 with sa := a2, sc := c2 } : Ev).sa = some ⟨k, o, none⟩)) tb (es ++ [{ E1 with sa := a2, sc := c2 }]) by
        have hst1 : E1.st = st := by rw [HE1.out]
        have hs1 : ({ E1 with sa := a2, sc := c2 } : Ev).st = st := hst1
        have hn1 : ({ E1 with sa := a2, sc := c2 } : Ev).sn = sn := HE1N.out
        refine TenAt.added (va := .slice aa es.length ac) (va2 := va2) (v5 := v5b) (fm := fm) (mb := mb) HX.out HALL.out H3.out HM.out H5.out H6.out H7.out H8.out HROW.out ?_ ?_ ?_ ?_ ?_ ?_ ?_ ?_ ?_ ?_
        · rw [hn1, Int.natCast_add]; exact hrow11
        · rw [HN.out]; exact owns_keep HALL10.out hG11 (.inr (fun e => own_typ HALL10.out HROW10.out (by decide) e.symm))
        · rcases HVA10.out with h1 | h1
          · exact .inl (by rw [h1, HN.out])
          · exact .inr fun k e => by have := h1 k e; omega
        · exact HM10.out.kept hG11 (by intro e; exact hmt (Option.some.inj e))
        · rw [hs1, HN.out, HL.out]; exact owns_keep HO10.out hG11 (.inr (fun e => own_typ HO10.out HROW10.out (by decide) e.symm))
        · rw [hs1, HLVE]
          rcases HV10.out with h1 | h1
          · exact .inl h1
          · exact .inr fun k e => by have := h1 k e; omega
        · rw [hs1, HLVE, HN.out]; exact hF11.mono (by omega) (fun _ _ h => h)
        · exact (HE10.out.typNe HROW10.out (by decide) hG11).of (by omega) fun _ _ _ hb => hb
        · refine HX.out.ok.snoc ?_ ?_ ?_ ?_
          · rw [HE1.out]; exact hst
          · rw [HE1.out]; exact ⟨hu, by show sn ≤ _; omega⟩
          · rw [HE1.out, HN.out]
          · rw [HE1.out]; show (L : Int) + 1 = _; rw [HL.out]
        · rw [HN.out]; exact hlen)
      have HZR := Lib.hid (rangeAt_whole hz11)
      have HR11 := Lib.hid hr11
      have HF11 := Lib.hid hF11
      clear hw11 hG11 hrow11 hz11 hr11 hF11 hwS k2 fr2 k5 HLVE
      (repeat' ((fail_if_success at_builtin); first | ((with_reducible refine wpList_load_mid rfl 54 _ rfl z 0 rfl E1.cells _ HZR.out hu54 rfl hi54 ?_)) | go_values | go_skip | go_guarded | go_step | go_upon))
      refine (freshOf E1 w11 hE1_11 hE1l hsn1).mono ?_
      rintro _ w12 ⟨a3, c3, rfl, hr3, hB12⟩
      dsimp only
      obtain ⟨E3, hE3⟩ : ∃ E3 : Ev, E3 = { E1 with sa := a3, sc := c3 } := ⟨_, rfl⟩
      rw [← hE3] at hr3 ⊢
      have HE3 := Lib.hid hE3
      have HR12 := Lib.hid (row_below HR11.out hB12 (lt_of_get HR11.out))
      clear hE3
      (repeat' ((fail_if_success at_builtin); first | (((refine wpList_store_blk rfl 54 _ _ rfl (z + 1) 0 E3.cells rfl rfl _ _ HR12.out (Nat.le_refl _) evSize E3.cells_oneCell ?_); intro w13 hg13 hG13; rw [splice_whole _ E3.cells (by rfl)] at hg13; have HG13 := Lib.hid hg13; clear hg13)) | go_values | go_skip | go_guarded | go_step | go_upon))
      have hR := run_loadVar_mid (P := Try.prog) w13 (z + 1) 0 54 E3.cells _ (rangeAt_whole HG13.out) hu54 rfl evSize
      have hT12 := HT11.out.below hB12
      have hT13 := hT12.keep (w' := w13) (fun k hk => hG13.block k (hT12.low k hk) (by
        intro e
        have e' := Option.some.inj e
        subst e'
        rcases hk with h1 | h1 | h1 | ⟨h0, o, h1⟩
        · have := HX.out.low _ h1; omega
        · rcases HVA10.out with h2 | h2
          · rw [h2] at h1; have := (halo.lt _ h1).2; omega
          · have := h2 _ h1; omega
        · rcases HV10.out with h2 | h2
          · rw [h2] at h1; have := (hlvo.lt _ h1).2; omega
          · have := h2 _ h1; omega
        · have := HE10.out.lo h0 _ o h1; omega)) hG13.size
      have hnum : ({ (⟨st, su, v, p, u, sa, sn, sc, sl⟩ : Ev).num es with sa := a2, sc := c2 } : Ev) = { E1 with sa := a2, sc := c2 } := by
        rw [HE1.out]; unfold Ev.num; rw [HL.out, HN.out]
      have hnum3 : ({ (⟨st, su, v, p, u, sa, sn, sc, sl⟩ : Ev).num es with sa := a3, sc := c3 } : Ev) = E3 := by
        rw [HE3.out, HE1.out]; unfold Ev.num; rw [HL.out, HN.out]
      have hout : ∀ k, (S k ∨ va2.ownBlock = some k ∨ v5b.ownBlock = some k ∨ (0 < ({ E1 with sa := a2, sc := c2 } : Ev).sl.length ∧ ∃ o, ({ E1 with sa := a2, sc := c2 } : Ev).sa = some ⟨k, o, none⟩)) → S k ∨ w.heap.size ≤ k := by
        rintro k (h1 | h1 | h1 | ⟨h0, o, h1⟩)
        · exact .inl h1
        · rcases HVA10.out with h2 | h2
          · rw [h2] at h1
            have := H3.out k (by rw [HN.out]; exact h1)
            exact .inl this
          · have := h2 _ h1; exact .inr (by omega)
        · rcases HV10.out with h2 | h2
          · rw [h2] at h1
            cases hf : fm st with
            | none => have := HLV.out; rw [hf, HL.out] at this; rw [← this] at h1; cases h1
            | some vv =>
              have h9 := HLV.out
              rw [hf, HL.out] at h9
              have h9' : vv = .slice la L lc := h9
              exact .inl ((H7.out st vv hf).2.1 k (by rw [h9']; exact h1))
          · have := h2 _ h1; exact .inr (by omega)
        · have := HE10.out.lo h0 _ o h1; exact .inr (by omega)
      obtain ⟨S', hT, hlow, hin, hout'⟩ : ∃ S', TenAt w13 S' tb (es ++ [{ E1 with sa := a2, sc := c2 }]) ∧ (∀ k, S' k → k < w11.heap.size) ∧ (∀ k, S k → S' k) ∧ (∀ k, S' k → S k ∨ w.heap.size ≤ k) := ⟨_, hT13, HT11.out.low, fun k h => Or.inl h, hout⟩
      rw [← hnum] at hT
      refine bodyPost_ret (results_cell rfl _ _ _ ⟨z + 1, 0, none⟩ rfl _ hR) rfl ⟨S', a2, c2, a3, c3, by rw [hnum3], ?_, ?_, hT, hin, hout', ?_⟩
      · rw [hnum3]
        exact (hr3.typNe HR12.out (by decide) hG13).of (by omega) fun _ _ _ hb => hb
      · intro h0 b o e hk
        have h1 := hlow b hk
        have h2 := hr3.lo (by rw [HE3.out, HE1.out]; exact h0) b o (by rw [HE3.out]; exact e)
        omega
      · have hF13 : Frm z (fun k => k = mb ∨ (Value.slice la L lc).ownBlock = some k ∨ (Value.slice aa n ac).ownBlock = some k ∨ k = tb) w w13 := (HF11.out.trans (Frm.ofBelow (hB12.mono (by omega)))).grown hG13 (by have := hB12.size; omega) (fun k e hk => by cases e; omega)
        rw [hz]
        refine hF13.mono (Nat.le_refl _) ?_
        rintro k _ (h1 | h1 | h1 | h1)
        · rw [h1]; exact H5.out
        · cases hf : fm st with
          | none => have := HLV.out; rw [hf, HL.out] at this; rw [← this] at h1; cases h1
          | some vv =>
            have h9 := HLV.out
            rw [hf, HL.out] at h9
            have h9' : vv = .slice la L lc := h9
            exact (H7.out st vv hf).2.1 k (by rw [h9']; exact h1)
        · exact H3.out k (by rw [HN.out]; exact h1)
        · rw [h1]; exact HX.out.foot

end Go.Proofs.Ythgaghpakioglaa
