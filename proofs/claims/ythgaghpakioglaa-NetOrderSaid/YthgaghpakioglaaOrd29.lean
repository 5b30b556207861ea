/- The plain law of NetOrder: what a connection holds, against what was sent, delivered, replied. -/
import Derived.Test.YthgaghpakioglaaNetK
namespace Go.Proofs.Ythgaghpakioglaa
set_option linter.unusedSimpArgs false
set_option linter.unusedVariables false

def InvO (ms : List Cn) (c : Int) (sent come rep : List UInt8) (opn : Bool) : Prop :=
  ∃ m rest, connM ms c = some m ∧ m.op = opn ∧ m.r = rep ∧ sent = come ++ rest ∧ (opn = true → rest = m.w)

theorem InvO.is {ms : List Cn} {c : Int} {sent come rep : List UInt8} {opn : Bool} (h : InvO ms c sent come rep opn) : isM ms c = opn := by
  obtain ⟨m, rest, h1, h2, _⟩ := h; unfold isM; rw [h1]; exact h2
theorem InvO.sent_ {ms : List Cn} {c : Int} {sent come rep : List UInt8} {opn : Bool} (h : InvO ms c sent come rep opn) : sentM ms c = rep := by
  obtain ⟨m, rest, h1, _, h3, _⟩ := h; unfold sentM; rw [h1]; exact h3
theorem InvO.waits_yes {ms : List Cn} {c : Int} {sent come rep : List UInt8} (h : InvO ms c sent come rep true) : waitsM ms c + come.length = sent.length := by
  obtain ⟨m, rest, h1, h2, h3, h4, h5⟩ := h; unfold waitsM; rw [h1]; simp only [h2, if_true]; rw [h4, List.length_append, h5 rfl]; omega
theorem InvO.waits_no {ms : List Cn} {c : Int} {sent come rep : List UInt8} (h : InvO ms c sent come rep false) : waitsM ms c = 0 := by
  obtain ⟨m, rest, h1, h2, h3, h4, h5⟩ := h; unfold waitsM; rw [h1]; simp [h2]
theorem InvO.le {ms : List Cn} {c : Int} {sent come rep : List UInt8} {opn : Bool} (h : InvO ms c sent come rep opn) : come.length ≤ sent.length := by
  obtain ⟨m, rest, _, _, _, h4, _⟩ := h; rw [h4, List.length_append]; omega
theorem InvO.pre {ms : List Cn} {c : Int} {sent come rep : List UInt8} {opn : Bool} (h : InvO ms c sent come rep opn) : come = sent.take come.length := by
  obtain ⟨m, rest, _, _, _, h4, _⟩ := h; rw [h4, List.take_left]
theorem InvO.start (c : Int) (h : 1 ≤ c ∧ c ≤ 8) : InvO (List.replicate 8 ⟨false, [], []⟩) c [] [] [] false := by
  refine ⟨⟨false, [], []⟩, [], ?_, rfl, rfl, rfl, fun h => by cases h⟩
  unfold connM
  rw [if_pos h, List.getElem?_replicate, if_pos (by omega)]

theorem connM_bounds {ms : List Cn} {c : Int} {m : Cn} (h : connM ms c = some m) : 1 ≤ c ∧ c ≤ 8 := by
  unfold connM at h
  split at h
  · assumption
  · cases h
theorem connM_setM {ms : List Cn} {c : Int} {m : Cn} (h : connM ms c = some m) (x : Cn) : connM (setM ms c x) c = some x := by
  have hb := connM_bounds h
  unfold connM at h ⊢
  rw [if_pos hb] at h ⊢
  unfold setM
  rw [List.getElem?_set_self (List.getElem?_eq_some_iff.1 h).1]
theorem connM_other {ms : List Cn} {c d : Int} {m : Cn} (h : connM ms d = some m) (hd : d ≠ c) (x : Cn) : connM (setM ms d x) c = connM ms c := by
  have hb := connM_bounds h
  unfold connM
  by_cases hc : 1 ≤ c ∧ c ≤ 8
  · rw [if_pos hc, if_pos hc]
    unfold setM
    rw [List.getElem?_set_ne (by omega)]
  · rw [if_neg hc, if_neg hc]

theorem doM_other {ms : List Cn} {c d : Int} (hd : d ≠ c) (f : Cn → Cn) : connM (doM ms d f).2 c = connM ms c := by
  unfold doM
  cases h : connM ms d with
  | none => rfl
  | some x =>
    dsimp only
    split
    · exact connM_other h hd _
    · rfl
theorem doesM_other {ms : List Cn} {c : Int} {o : Op29} (hd : o.c ≠ c) : connM (doesM ms o).2.2 c = connM ms c := by
  unfold doesM
  split
  · unfold openM
    cases h : connM ms o.c with
    | none => rfl
    | some x =>
      dsimp only
      split
      · rfl
      · exact connM_other h hd _
  · split
    · exact doM_other hd _
    · split
      · exact doM_other hd _
      · split
        · unfold deliverM
          cases h : connM ms o.c with
          | none => rfl
          | some x =>
            dsimp only
            split
            · exact connM_other h hd _
            · rfl
        · split
          · exact doM_other hd _
          · rfl
theorem InvO.other {ms : List Cn} {c : Int} {o : Op29} {sent come rep : List UInt8} {opn : Bool} (h : InvO ms c sent come rep opn) (hd : o.c ≠ c) : InvO (doesM ms o).2.2 c sent come rep opn := by
  obtain ⟨m, rest, h1, h2⟩ := h
  exact ⟨m, rest, by rw [doesM_other hd]; exact h1, h2⟩
theorem doesM_nokind {ms : List Cn} {o : Op29} (h : ¬ (0 ≤ o.kd ∧ o.kd ≤ 4)) : doesM ms o = ([], 0, ms) := by
  unfold doesM
  rw [if_neg (by omega), if_neg (by omega), if_neg (by omega), if_neg (by omega), if_neg (by omega)]

theorem Inv_open_yes {ms : List Cn} {c n : Int} {ba : Option Addr} {bn bc : Nat} {bl sent come rep : List UInt8} (h : InvO ms c sent come rep false) :
    ∃ ms', doesM ms ⟨0, c, n, ba, bn, bc, bl⟩ = ([], 0, ms') ∧ InvO ms' c [] [] [] true := by
  obtain ⟨m, rest, h1, h2, _⟩ := h
  refine ⟨setM ms c ⟨true, [], []⟩, ?_, ⟨true, [], []⟩, [], connM_setM h1 _, rfl, rfl, rfl, fun _ => rfl⟩
  show ([], openM ms c) = _
  unfold openM
  rw [h1]
  simp [h2]
theorem Inv_open_no {ms : List Cn} {c n : Int} {ba : Option Addr} {bn bc : Nat} {bl sent come rep : List UInt8} (h : InvO ms c sent come rep true) :
    doesM ms ⟨0, c, n, ba, bn, bc, bl⟩ = ([], 13, ms) := by
  obtain ⟨m, rest, h1, h2, _⟩ := h
  show ([], openM ms c) = _
  unfold openM
  rw [h1]
  simp [h2]
theorem doM_yes {ms : List Cn} {c : Int} {m : Cn} (h1 : connM ms c = some m) (h2 : m.op = true) (f : Cn → Cn) : doM ms c f = (0, setM ms c (f m)) := by
  unfold doM; rw [h1]; simp [h2]
theorem doM_not {ms : List Cn} {c : Int} {m : Cn} (h1 : connM ms c = some m) (h2 : m.op = false) (f : Cn → Cn) : doM ms c f = (12, ms) := by
  unfold doM; rw [h1]; simp [h2]
theorem Inv_close_yes {ms : List Cn} {c n : Int} {ba : Option Addr} {bn bc : Nat} {bl sent come rep : List UInt8} (h : InvO ms c sent come rep true) :
    ∃ ms', doesM ms ⟨1, c, n, ba, bn, bc, bl⟩ = ([], 0, ms') ∧ InvO ms' c sent come rep false := by
  obtain ⟨m, rest, h1, h2, h3, h4, h5⟩ := h
  exact ⟨_, congrArg (([] : List UInt8), ·) (doM_yes h1 h2 _), _, rest, connM_setM h1 _, rfl, h3, h4, fun h => by cases h⟩
theorem Inv_close_no {ms : List Cn} {c n : Int} {ba : Option Addr} {bn bc : Nat} {bl sent come rep : List UInt8} (h : InvO ms c sent come rep false) :
    doesM ms ⟨1, c, n, ba, bn, bc, bl⟩ = ([], 12, ms) := by
  obtain ⟨m, rest, h1, h2, _⟩ := h
  exact congrArg (([] : List UInt8), ·) (doM_not h1 h2 _)
theorem Inv_send_yes {ms : List Cn} {c n : Int} {ba : Option Addr} {bn bc : Nat} {bl sent come rep : List UInt8} (h : InvO ms c sent come rep true) :
    ∃ ms', doesM ms ⟨2, c, n, ba, bn, bc, bl⟩ = ([], 0, ms') ∧ InvO ms' c (sent ++ bl) come rep true := by
  obtain ⟨m, rest, h1, h2, h3, h4, h5⟩ := h
  exact ⟨_, congrArg (([] : List UInt8), ·) (doM_yes h1 h2 _), _, rest ++ bl, connM_setM h1 _, h2, h3, by rw [h4, List.append_assoc], fun h => by rw [h5 h]⟩
theorem Inv_send_no {ms : List Cn} {c n : Int} {ba : Option Addr} {bn bc : Nat} {bl sent come rep : List UInt8} (h : InvO ms c sent come rep false) :
    doesM ms ⟨2, c, n, ba, bn, bc, bl⟩ = ([], 12, ms) := by
  obtain ⟨m, rest, h1, h2, _⟩ := h
  exact congrArg (([] : List UInt8), ·) (doM_not h1 h2 _)
theorem Inv_reply_yes {ms : List Cn} {c n : Int} {ba : Option Addr} {bn bc : Nat} {bl sent come rep : List UInt8} (h : InvO ms c sent come rep true) :
    ∃ ms', doesM ms ⟨4, c, n, ba, bn, bc, bl⟩ = ([], 0, ms') ∧ InvO ms' c sent come (rep ++ bl) true := by
  obtain ⟨m, rest, h1, h2, h3, h4, h5⟩ := h
  exact ⟨_, congrArg (([] : List UInt8), ·) (doM_yes h1 h2 _), _, rest, connM_setM h1 _, h2, by rw [h3], h4, h5⟩
theorem Inv_reply_no {ms : List Cn} {c n : Int} {ba : Option Addr} {bn bc : Nat} {bl sent come rep : List UInt8} (h : InvO ms c sent come rep false) :
    doesM ms ⟨4, c, n, ba, bn, bc, bl⟩ = ([], 12, ms) := by
  obtain ⟨m, rest, h1, h2, _⟩ := h
  exact congrArg (([] : List UInt8), ·) (doM_not h1 h2 _)
theorem Inv_deliver {ms : List Cn} {c n : Int} {sent come rep : List UInt8} (h : InvO ms c sent come rep true) :
    ∃ got ms', deliverM ms c n = (got, ms') ∧ InvO ms' c sent (come ++ got) rep true ∧ (0 < got.length → (got.length : Int) ≤ n) ∧ got.length = cutN n (waitsM ms c) := by
  obtain ⟨m, rest, h1, h2, h3, h4, h5⟩ := h
  refine ⟨m.w.take (cutN n m.w.length), setM ms c ⟨m.op, m.w.drop (cutN n m.w.length), m.r⟩, ?_, ⟨_, m.w.drop (cutN n m.w.length), connM_setM h1 _, h2, h3, ?_, fun _ => rfl⟩, ?_, ?_⟩
  · unfold deliverM; rw [h1]; simp [h2]
  · rw [h4, h5 rfl, List.append_assoc, List.take_append_drop]
  · intro h0
    rw [List.length_take, Nat.min_eq_left (cutN_le _ _)] at h0 ⊢
    rw [cutN_cast]
    have := cutN_cast n m.w.length
    omega
  · rw [List.length_take, Nat.min_eq_left (cutN_le _ _)]; unfold waitsM; rw [h1]; simp [h2]
theorem Inv_deliver_yes {ms : List Cn} {c n : Int} {ba : Option Addr} {bn bc : Nat} {bl sent come rep : List UInt8} (h : InvO ms c sent come rep true) :
    ∃ got ms', doesM ms ⟨3, c, n, ba, bn, bc, bl⟩ = (got, 0, ms') ∧ InvO ms' c sent (come ++ got) rep true ∧ (0 < got.length → (got.length : Int) ≤ n) := by
  obtain ⟨got, ms', h1, h2, h3, _⟩ := Inv_deliver (n := n) h
  refine ⟨got, ms', ?_, h2, h3⟩
  show ((deliverM ms c n).1, (0 : Int), (deliverM ms c n).2) = _
  rw [h1]
theorem Inv_deliver_none {ms : List Cn} {c n : Int} {sent come rep : List UInt8} (h : InvO ms c sent come rep false) : deliverM ms c n = ([], ms) := by
  obtain ⟨m, rest, h1, h2, _⟩ := h
  unfold deliverM; rw [h1]; simp [h2]
theorem Inv_deliver_no {ms : List Cn} {c n : Int} {ba : Option Addr} {bn bc : Nat} {bl sent come rep : List UInt8} (h : InvO ms c sent come rep false) :
    doesM ms ⟨3, c, n, ba, bn, bc, bl⟩ = ([], 0, ms) := by
  show ((deliverM ms c n).1, (0 : Int), (deliverM ms c n).2) = _
  rw [Inv_deliver_none h]

def BndO (ms : List Cn) (T : Nat) : Prop := ∀ m ∈ ms, m.w.length ≤ T ∧ m.r.length ≤ T
theorem BndO.mono {ms : List Cn} {T T' : Nat} (h : BndO ms T) (hT : T ≤ T') : BndO ms T' := fun m hm => ⟨Nat.le_trans (h m hm).1 hT, Nat.le_trans (h m hm).2 hT⟩
theorem BndO.set {ms : List Cn} {T : Nat} (h : BndO ms T) (c : Int) (x : Cn) (hx : x.w.length ≤ T ∧ x.r.length ≤ T) : BndO (setM ms c x) T := fun m hm => by
  rcases List.mem_or_eq_of_mem_set hm with h1 | h1
  · exact h m h1
  · rw [h1]; exact hx
theorem connM_mem {ms : List Cn} {c : Int} {m : Cn} (h : connM ms c = some m) : m ∈ ms := by
  unfold connM at h
  split at h
  · exact List.mem_of_getElem? h
  · cases h
theorem BndO.doM {ms : List Cn} {T T' : Nat} (h : BndO ms T) (hT : T ≤ T') (c : Int) (f : Cn → Cn) (hf : ∀ x : Cn, x.w.length ≤ T ∧ x.r.length ≤ T → (f x).w.length ≤ T' ∧ (f x).r.length ≤ T') : BndO (doM ms c f).2 T' := by
  unfold Proofs.Ythgaghpakioglaa.doM
  cases hc : connM ms c with
  | none => exact h.mono hT
  | some x =>
    dsimp only
    split
    · exact (h.mono hT).set c _ (hf x (h x (connM_mem hc)))
    · exact h.mono hT
theorem BndO.does {ms : List Cn} {T : Nat} (h : BndO ms T) (o : Op29) (hl : o.bl.length = o.bn) : BndO (doesM ms o).2.2 (T + o.bn) := by
  have hT : T ≤ T + o.bn := by omega
  unfold doesM
  split
  · unfold openM
    cases hc : connM ms o.c with
    | none => exact h.mono hT
    | some x =>
      dsimp only
      split
      · exact h.mono hT
      · exact (h.mono hT).set _ _ ⟨Nat.zero_le _, Nat.zero_le _⟩
  · split
    · exact h.doM hT _ _ (fun x hx => ⟨Nat.zero_le _, by show x.r.length ≤ _; omega⟩)
    · split
      · exact h.doM hT _ _ (fun x hx => ⟨by show (x.w ++ o.bl).length ≤ _; rw [List.length_append]; omega, by show x.r.length ≤ _; omega⟩)
      · split
        · unfold deliverM
          cases hc : connM ms o.c with
          | none => exact h.mono hT
          | some x =>
            have hx := h x (connM_mem hc)
            dsimp only
            split
            · exact (h.mono hT).set _ _ ⟨by show (x.w.drop _).length ≤ _; rw [List.length_drop]; omega, by show x.r.length ≤ _; omega⟩
            · exact h.mono hT
        · split
          · exact h.doM hT _ _ (fun x hx => ⟨by show x.w.length ≤ _; omega, by show (x.r ++ o.bl).length ≤ _; rw [List.length_append]; omega⟩)
          · exact h.mono hT

/-- All that waits is delivered: it is all of it. -/
theorem Inv_rest {ms : List Cn} {c n : Int} {sent come rep : List UInt8} (h : InvO ms c sent come rep true) (hn : (sent.length : Int) ≤ n) :
    ∃ got ms', deliverM ms c n = (got, ms') ∧ come ++ got = sent := by
  obtain ⟨got, ms', h1, h2, _, h4⟩ := Inv_deliver (n := n) h
  refine ⟨got, ms', h1, ?_⟩
  have hw := h.waits_yes
  obtain ⟨m, rest, _, _, _, h5, _⟩ := h2
  have hl : sent.length = come.length + got.length + rest.length := by rw [h5]; simp only [List.length_append]
  have hc : cutN n (waitsM ms c) = waitsM ms c := by unfold cutN; omega
  have : rest = [] := List.eq_nil_of_length_eq_zero (by omega)
  rw [h5, this, List.append_nil]

end Go.Proofs.Ythgaghpakioglaa
