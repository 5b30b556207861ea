/- Three logs at once: one, another one that nothing is added to, and the reference's. -/
import Derived.Test.YtdpfemhfmofmlaaDoorAudApart
import Derived.Test.YtdpfemhfmofmlaaDoorRAddW
namespace Go.Proofs.YtdpfemhfmofmlaaDoor
set_option linter.unusedSimpArgs false
set_option linter.unusedVariables false
open Go.RowKit
set_option maxRecDepth 10000

structure Logs (w : World) (g o m kg km : Nat) (fg fm : ByteArray → List Ent) (z : Nat) (wr : World) : Prop where
  out : ∃ (S So S2 : Nat → Prop) (cs : List RCh), LogAt wr S g kg fg ∧ LogAt wr So o 0 (fun _ => []) ∧ RLogAt wr S2 m km cs ∧ (∀ u, rowsOf cs u = fm u) ∧
    (∀ j, S j → w.heap.size ≤ j) ∧ (∀ j, So j → w.heap.size ≤ j) ∧ (∀ j, S2 j → w.heap.size ≤ j) ∧ (∀ j, S j → ¬ So j) ∧ (∀ j, S j → ¬ S2 j) ∧ (∀ j, So j → ¬ S2 j) ∧ ¬ S z ∧ ¬ So z ∧ ¬ S2 z
  blw : Below w.heap.size w wr
  lt : z < wr.heap.size
theorem Logs.below {w wr w' : World} {g o m kg km z : Nat} {fg fm : ByteArray → List Ent} (h : Logs w g o m kg km fg fm z wr) (hB : Below wr.heap.size wr w') : Logs w g o m kg km fg fm z w' := by
  obtain ⟨S, So, S2, cs, h1, h2, h3, h4, h5⟩ := h.out
  exact ⟨⟨S, So, S2, cs, h1.below hB, h2.below hB, h3.below hB, h4, h5⟩, h.blw.trans (hB.mono h.blw.size), Nat.lt_of_lt_of_le h.lt hB.size⟩
/-- A new private block. -/
theorem Logs.fresh {w wr w' : World} {g o m kg km z : Nat} {fg fm : ByteArray → List Ent} (h : Logs w g o m kg km fg fm z wr) (hB : Below wr.heap.size wr w') (z' : Nat) (h1 : wr.heap.size ≤ z') (h2 : z' < w'.heap.size) : Logs w g o m kg km fg fm z' w' := by
  obtain ⟨S, So, S2, cs, q1, q2, q3, q4, q5, q6, q7, q8, q9, q10, _, _, _⟩ := h.out
  exact ⟨⟨S, So, S2, cs, q1.below hB, q2.below hB, q3.below hB, q4, q5, q6, q7, q8, q9, q10, fun hz => by have := q1.low _ hz; omega, fun hz => by have := q2.low _ hz; omega, fun hz => by have := q3.low _ hz; omega⟩, h.blw.trans (hB.mono h.blw.size), h2⟩
theorem Logs.G {w wr : World} {g o m kg km z : Nat} {fg fm : ByteArray → List Ent} (h : Logs w g o m kg km fg fm z wr) : ∃ S, LogAt wr S g kg fg := by
  obtain ⟨S, So, S2, cs, q1, _⟩ := h.out
  exact ⟨S, q1⟩
theorem Logs.O {w wr : World} {g o m kg km z : Nat} {fg fm : ByteArray → List Ent} (h : Logs w g o m kg km fg fm z wr) : ∃ S, LogAt wr S o 0 (fun _ => []) := by
  obtain ⟨S, So, S2, cs, _, q1, _⟩ := h.out
  exact ⟨So, q1⟩
theorem Logs.M {w wr : World} {g o m kg km z : Nat} {fg fm : ByteArray → List Ent} (h : Logs w g o m kg km fg fm z wr) : ∃ S cs, RLogAt wr S m km cs ∧ ∀ u, rowsOf cs u = fm u := by
  obtain ⟨S, So, S2, cs, _, _, q1, q2, _⟩ := h.out
  exact ⟨S2, cs, q1, q2⟩
theorem logsAddG {w u : World} {g o m kg km z : Nat} {fg fm f' : ByteArray → List Ent} (s : ByteArray) (x r : Ent) (hf' : lput fg s (fg s ++ [r]) = f') (h : Logs w g o m kg km fg fm z u) (hT : Tabs u) (hs : s.size ≤ maxLen) (hc : kg ≤ 100000) (hx : x.Fit) (hr : rowOf (fg s) x = r) :
    Calls Tryd.prog 72 #[.pointer (some ⟨g, 0, none⟩), .string s, .agg x.cells.toArray] u fun e w' => e = .returned (.agg r.cells.toArray) ∧ Logs w g o m (kg + 1) km f' fm z w' ∧ w'.heap[z]? = u.heap[z]? := by
  subst hf'
  obtain ⟨S, So, S2, cs, q1, q2, q3, q4, q5, q6, q7, q8, q9, q10, q11, q12, q13⟩ := h.out
  refine (auditAdd S g kg fg s x r u q1 hT hs hc hx hr).mono ?_
  rintro _ w' ⟨rfl, hL, hF⟩
  have hb := h.blw.size
  refine ⟨rfl, ⟨⟨_, So, S2, cs, hL, q2.frm hF (fun j hj hs => q8 j hs hj), q3.frm hF (fun j hj hs => q9 j hs hj), q4, ?_, q6, q7, ?_, ?_, q10, ?_, q12, q13⟩, h.blw.trans (hF.belowOf hb q5), Nat.lt_of_lt_of_le h.lt hF.size⟩, hF.block z h.lt q11⟩
  · rintro j (hj | hj)
    · exact q5 j hj
    · omega
  · rintro j (hj | hj) hj2
    · exact q8 j hj hj2
    · have := q2.low j hj2; omega
  · rintro j (hj | hj) hj2
    · exact q9 j hj hj2
    · have := q3.low j hj2; omega
  · rintro (hj | hj)
    · exact q11 hj
    · have := h.lt; omega
theorem logsAddM {w u : World} {g o m kg km z : Nat} {fg fm f' : ByteArray → List Ent} (s : ByteArray) (x r : Ent) (hf' : lput fm s (fm s ++ [r]) = f') (h : Logs w g o m kg km fg fm z u) (hc : km ≤ 100000) (hx : x.Fit) (hr : rowOf (fm s) x = r) :
    Calls Tryd.prog 60 #[.pointer (some ⟨m, 0, none⟩), .string s, .agg x.cells.toArray] u fun e w' => e = .returned (.agg r.cells.toArray) ∧ Logs w g o m kg (km + 1) fg f' z w' ∧ w'.heap[z]? = u.heap[z]? := by
  subst hf'
  obtain ⟨S, So, S2, cs, q1, q2, q3, q4, q5, q6, q7, q8, q9, q10, q11, q12, q13⟩ := h.out
  refine (refAdd21 S2 m km cs s x r u q3 hc hx (by rw [q4]; exact hr)).mono ?_
  rintro _ w' ⟨rfl, ⟨cs', hL, hcs⟩, hF⟩
  have hb := h.blw.size
  refine ⟨rfl, ⟨⟨S, So, _, cs', q1.frm hF (fun j hj hs => q9 j hj hs), q2.frm hF (fun j hj hs => q10 j hj hs), hL, ?_, q5, q6, ?_, q8, ?_, ?_, q11, q12, ?_⟩, h.blw.trans (hF.belowOf hb q7), Nat.lt_of_lt_of_le h.lt hF.size⟩, hF.block z h.lt q13⟩
  · intro t
    rw [hcs t]
    unfold lput
    split
    · rw [q4]
    · exact q4 t
  · rintro j (hj | hj)
    · exact q7 j hj
    · omega
  · rintro j hj (hj2 | hj2)
    · exact q9 j hj hj2
    · have := q1.low j hj; omega
  · rintro j hj (hj2 | hj2)
    · exact q10 j hj hj2
    · have := q2.low j hj; omega
  · rintro (hj | hj)
    · exact q13 hj
    · have := h.lt; omega
theorem logsHeadG {w u : World} {g o m kg km z : Nat} {fg fm : ByteArray → List Ent} (s : ByteArray) (H : List UInt8) (h : Logs w g o m kg km fg fm z u) (hs : s.size ≤ maxLen) (hc : kg ≤ 100000) (hH : headOf (fg s) = H) :
    Calls Tryd.prog 73 #[.pointer (some ⟨g, 0, none⟩), .string s] u fun e w' => e = .returned (.agg (bvs H).toArray) ∧ Below u.heap.size u w' := by
  obtain ⟨S, h1⟩ := h.G
  exact auditHead S g kg fg s H u h1 hs hc hH
theorem logsHeadM {w u : World} {g o m kg km z : Nat} {fg fm : ByteArray → List Ent} (s : ByteArray) (H : List UInt8) (h : Logs w g o m kg km fg fm z u) (hc : km ≤ 100000) (hH : headOf (fm s) = H) :
    Calls Tryd.prog 66 #[.pointer (some ⟨m, 0, none⟩), .string s] u fun e w' => e = .returned (.agg (bvs H).toArray) ∧ Below u.heap.size u w' := by
  obtain ⟨S, cs, h1, h2⟩ := h.M
  exact refHead21 S m km cs s H u h1 hc (by rw [h2]; exact hH)
theorem logsCountG {w u : World} {g o m kg km z : Nat} {fg fm : ByteArray → List Ent} (s : ByteArray) (N : Nat) (h : Logs w g o m kg km fg fm z u) (hs : s.size ≤ maxLen) (hc : kg ≤ 100000) (hH : (fg s).length = N) :
    Calls Tryd.prog 74 #[.pointer (some ⟨g, 0, none⟩), .string s] u fun e w' => e = .returned (.int .i64 (N : Int)) ∧ u = w' := by
  obtain ⟨S, h1⟩ := h.G
  subst hH
  exact auditCount S g kg fg s u h1 hs hc
theorem logsCountM {w u : World} {g o m kg km z : Nat} {fg fm : ByteArray → List Ent} (s : ByteArray) (N : Nat) (h : Logs w g o m kg km fg fm z u) (hc : km ≤ 100000) (hH : (fm s).length = N) :
    Calls Tryd.prog 75 #[.pointer (some ⟨m, 0, none⟩), .string s] u fun e w' => e = .returned (.int .i64 (N : Int)) ∧ u = w' := by
  obtain ⟨S, cs, h1, h2⟩ := h.M
  subst hH
  rw [← h2]
  exact refCount21 S m km cs s u h1 hc
theorem logsRowsG {w u : World} {g o m kg km z : Nat} {fg fm : ByteArray → List Ent} (s : ByteArray) (fr many : Int) (l : List Ent) (h : Logs w g o m kg km fg fm z u) (hs : s.size ≤ maxLen) (hc : kg ≤ 100000) (hfr : I64 fr) (hmany : I64 many) (hl : told (fg s) fr many = l) :
    Calls Tryd.prog 76 #[.pointer (some ⟨g, 0, none⟩), .string s, .int .i64 fr, .int .i64 many] u (GotE u l) := by
  obtain ⟨S, h1⟩ := h.G
  subst hl
  exact auditRows S g kg fg s fr many u h1 hs hc hfr hmany
theorem logsRowsM {w u : World} {g o m kg km z : Nat} {fg fm : ByteArray → List Ent} (s : ByteArray) (fr many : Int) (l : List Ent) (h : Logs w g o m kg km fg fm z u) (hc : km ≤ 100000) (hfr : I64 fr) (hmany : I64 many) (hn : Numbered (fm s)) (hl : told (fm s) fr many = l) :
    Calls Tryd.prog 77 #[.pointer (some ⟨m, 0, none⟩), .string s, .int .i64 fr, .int .i64 many] u (GotE u l) := by
  obtain ⟨S, cs, h1, h2⟩ := h.M
  subst hl
  rw [← h2]
  exact refRows21 S m km cs s fr many u h1 hc hfr hmany (by rw [h2]; exact hn)

theorem Logs.zero {w wr : World} {g o m kg km z : Nat} {fg fm : ByteArray → List Ent} (h : Logs w g o m kg km fg fm z wr) (h2 : 2 ≤ w.heap.size) : Logs w g o m kg km fg fm 0 wr := by
  obtain ⟨S, So, S2, cs, q1, q2, q3, q4, q5, q6, q7, q8, q9, q10, _, _, _⟩ := h.out
  exact ⟨⟨S, So, S2, cs, q1, q2, q3, q4, q5, q6, q7, q8, q9, q10, fun hz => by have := q5 _ hz; omega, fun hz => by have := q6 _ hz; omega, fun hz => by have := q7 _ hz; omega⟩, h.blw, by have := h.blw.size; omega⟩
theorem owns_range {w : World} {base e size : Nat} {v : Value} {n : Nat} {xs : List Value} (h : w.ownsRow base e size v n xs) : ∀ k, v.ownBlock = some k → base ≤ k ∧ k < w.heap.size := by
  intro k hk
  rcases h.2 with ⟨rfl, _⟩ | ⟨g', cap, cur, rfl, hg', hh, _⟩
  · cases hk
  · cases hk
    exact ⟨hg', (Array.getElem?_eq_some_iff.1 hh).1⟩
theorem emptyCount {w : World} {S : Nat → Prop} {o : Nat} (s : ByteArray) (h : LogAt w S o 0 (fun _ => [])) (hs : s.size ≤ maxLen) :
    Calls Tryd.prog 74 #[.pointer (some ⟨o, 0, none⟩), .string s] w fun e w' => e = .returned (.int .i64 0) ∧ w = w' := auditCount S o 0 (fun _ => []) s w h hs (by omega)
theorem emptyHead {w : World} {S : Nat → Prop} {o : Nat} (s : ByteArray) (h : LogAt w S o 0 (fun _ => [])) (hs : s.size ≤ maxLen) :
    Calls Tryd.prog 73 #[.pointer (some ⟨o, 0, none⟩), .string s] w fun e w' => e = .returned (.agg (bvs zeros32).toArray) ∧ Below w.heap.size w w' := auditHead S o 0 (fun _ => []) s zeros32 w h hs (by omega) rfl
theorem emptyRows {w : World} {S : Nat → Prop} {o : Nat} (s : ByteArray) (h : LogAt w S o 0 (fun _ => [])) (hs : s.size ≤ maxLen) :
    Calls Tryd.prog 76 #[.pointer (some ⟨o, 0, none⟩), .string s, .int .i64 1, .int .i64 9] w fun e w' => (∃ a c, e = .returned (.slice a 0 c)) ∧ Below w.heap.size w w' := by
  refine (auditRows S o 0 (fun _ => []) s 1 9 w h hs (by omega) (by unfold I64; omega) (by unfold I64; omega)).mono ?_
  have ht : told [] 1 9 = [] := by unfold told; simp
  show ∀ e w', GotE w (told [] 1 9) e w' → _
  rw [ht]
  rintro _ w' ⟨a, c, rfl, _, _, _, hB, _⟩
  exact ⟨⟨a, c, rfl⟩, hB⟩

/-- A step, read into a variable. -/
def zRw : Rw := ⟨ByteArray.empty, zEnt, 0, 0⟩
theorem zeroRw : (Tryd.prog.info? 89).bind (fun i => i.zero.map (·.cells)) = some zRw.cells.toArray := by kernel_rfl
theorem rwSize : (Tryd.prog.info? 89).map (·.size) = some 42 := by kernel_rfl
theorem Rw.cells_oneCell (x : Rw) : ∀ u ∈ x.cells, u.oneCell' = true := by
  intro u hu
  unfold Rw.cells at hu
  rcases List.mem_cons.1 hu with rfl | h
  · rfl
  · rcases List.mem_append.1 h with h | h
    · exact x.e.cells_oneCell u h
    · simp at h
      rcases h with rfl | rfl <;> rfl
abbrev RowZ (z : Nat) (r : Rw) (w' : World) : Prop := ((w'.cell? ⟨z, 0, none⟩ = some (.string r.tenant) ∧ w'.rangeAt z 1 r.e.cells) ∧ w'.heap[z]? = some (.cells r.cells.toArray 89 (0, 0))) ∧ True
theorem rowZ {z : Nat} {r : Rw} {w' : World} (hs : r.e.sum.length = 32) (h : w'.heap[z]? = some (.cells r.cells.toArray 89 (0, 0))) : RowZ z r w' := by
  have h1 := rw_cell (rangeAt_whole h) hs
  rw [Nat.zero_add] at h1
  exact ⟨⟨⟨h1.1, h1.2.1⟩, h⟩, trivial⟩

end Go.Proofs.YtdpfemhfmofmlaaDoor
