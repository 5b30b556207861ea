/- Connections by what they hold: the calls in plain words. -/
import Derived.Test.YthgaghpakioglaaNetH
namespace Go.Proofs.Ythgaghpakioglaa
set_option linter.unusedSimpArgs false
set_option linter.unusedVariables false
open Go.RowKit
set_option maxRecDepth 10000
--@PUT2

/-- What a connection holds. -/
structure Cn where
  op : Bool
  w : List UInt8
  r : List UInt8
def Conn.sem (c : Conn) : Cn := ⟨c.op, c.wl, c.rl⟩
/-- Nothing that a connection holds lies in S. -/
def Conn.Off (S : Nat → Prop) (c : Conn) : Prop := (0 < c.wl.length → ∀ b o, c.wa = some ⟨b, o, Option.none⟩ → ¬ S b) ∧ (0 < c.rl.length → ∀ b o, c.ra = some ⟨b, o, Option.none⟩ → ¬ S b)
def NetM (w : World) (g : Nat) (S : Nat → Prop) (ms : List Cn) : Prop := ∃ cs, NetAt w g cs ∧ cs.map Conn.sem = ms ∧ ∀ c ∈ cs, c.Off S

def connM (ms : List Cn) (c : Int) : Option Cn := if 1 ≤ c ∧ c ≤ 8 then ms[(c - 1).toNat]? else Option.none
def setM (ms : List Cn) (c : Int) (m : Cn) : List Cn := ms.set (c - 1).toNat m
def openM (ms : List Cn) (c : Int) : Int × List Cn := match connM ms c with
  | Option.none => (1, ms)
  | some x => if x.op then (13, ms) else (0, setM ms c ⟨true, [], []⟩)
def doM (ms : List Cn) (c : Int) (f : Cn → Cn) : Int × List Cn := match connM ms c with
  | Option.none => (12, ms)
  | some x => if x.op then (0, setM ms c (f x)) else (12, ms)
def closeM (ms : List Cn) (c : Int) : Int × List Cn := doM ms c fun x => ⟨false, [], x.r⟩
def sendM (ms : List Cn) (c : Int) (b : List UInt8) : Int × List Cn := doM ms c fun x => ⟨x.op, x.w ++ b, x.r⟩
def replyM (ms : List Cn) (c : Int) (b : List UInt8) : Int × List Cn := doM ms c fun x => ⟨x.op, x.w, x.r ++ b⟩
def isM (ms : List Cn) (c : Int) : Bool := ((connM ms c).map (·.op)).getD false
def sentM (ms : List Cn) (c : Int) : List UInt8 := ((connM ms c).map (·.r)).getD []
def waitsM (ms : List Cn) (c : Int) : Nat := match connM ms c with
  | Option.none => 0
  | some x => if x.op then x.w.length else 0
def deliverM (ms : List Cn) (c many : Int) : List UInt8 × List Cn := match connM ms c with
  | Option.none => ([], ms)
  | some x => if x.op then (x.w.take (cutN many x.w.length), setM ms c ⟨x.op, x.w.drop (cutN many x.w.length), x.r⟩) else ([], ms)

theorem connM_map (cs : List Conn) (c : Int) : connM (cs.map Conn.sem) c = (connAt cs c).map Conn.sem := by
  unfold connM connAt
  split
  · rw [List.getElem?_map]
  · rfl
theorem isM_map (cs : List Conn) (c : Int) : isM (cs.map Conn.sem) c = isOpen cs c := by
  unfold isM isOpen
  rw [connM_map]
  cases connAt cs c <;> rfl
theorem NetM.below {w w' : World} {g : Nat} {S : Nat → Prop} {ms : List Cn} (h : NetM w g S ms) (hb : Below w.heap.size w w') : NetM w' g S ms := by
  obtain ⟨cs, h1, h2, h3⟩ := h
  exact ⟨cs, h1.below hb, h2, h3⟩
theorem NetM.lt {w : World} {g : Nat} {S : Nat → Prop} {ms : List Cn} (h : NetM w g S ms) : g < w.heap.size := by
  obtain ⟨cs, h1, h2, h3⟩ := h
  exact (Array.getElem?_eq_some_iff.1 h1.row).1
theorem NetM.len {w : World} {g : Nat} {S : Nat → Prop} {ms : List Cn} (h : NetM w g S ms) : ms.length = 8 := by
  obtain ⟨cs, h1, h2, h3⟩ := h
  rw [← h2, List.length_map]; exact h1.len
theorem NetM.row {w : World} {g : Nat} {S : Nat → Prop} {ms : List Cn} (h : NetM w g S ms) : ∃ arr, w.heap[g]? = some (.cells arr 100 (0, 0)) := by
  obtain ⟨cs, h1, h2, h3⟩ := h
  exact ⟨_, h1.row⟩
/-- Behind a call that wrote a row of S, other than the connections' own. -/
theorem NetM.grown {w w' : World} {g : Nat} {S S' : Nat → Prop} {ms : List Cn} {o : Option Nat} (h : NetM w g S ms) (hg : w.grownBy w' o) (ho : ∀ k, o = some k → S k ∧ k ≠ g) (hS : ∀ k, S' k → S k ∨ w.heap.size ≤ k) : NetM w' g S' ms := by
  obtain ⟨cs, h1, h2, h3⟩ := h
  have hgl := (Array.getElem?_eq_some_iff.1 h1.row).1
  have key : ∀ (a : Option Addr) (l : List UInt8), RdB w a l → (0 < l.length → ∀ b o, a = some ⟨b, o, Option.none⟩ → ¬ S b) → RdB w' a l := by
    intro a l hr hoff
    rcases Nat.eq_zero_or_pos l.length with h0 | h0
    · rw [List.eq_nil_of_length_eq_zero h0]; exact RdC.nil _ _
    · exact RdC.congr hr (fun b o2 e hlt => hg.block b hlt (fun e2 => hoff h0 b o2 e (ho b e2.symm).1))
  have lt : ∀ (a : Option Addr) (l : List UInt8), RdB w a l → 0 < l.length → ∀ b o, a = some ⟨b, o, Option.none⟩ → b < w.heap.size := by
    intro a l hr h0 b o e
    obtain ⟨b2, o2, e2, h⟩ := hr.lt (by rw [bvs_length]; exact h0)
    rw [e] at e2; cases e2; exact h
  refine ⟨cs, ⟨(hg.block g hgl (fun e => (ho g e.symm).2 rfl)).trans h1.row, h1.len, fun c hc => ?_⟩, h2, fun c hc => ⟨fun h0 b o e hs => ?_, fun h0 b o e hs => ?_⟩⟩
  · have k := h1.ok c hc
    exact ⟨k.wlen, k.wcap, k.wmax, key _ _ k.wrd (h3 c hc).1, k.woff, k.rlen, k.rcap, k.rmax, key _ _ k.rrd (h3 c hc).2, k.roff⟩
  · rcases hS b hs with h4 | h4
    · exact (h3 c hc).1 h0 b o e h4
    · have := lt _ _ (h1.ok c hc).wrd h0 b o e; omega
  · rcases hS b hs with h4 | h4
    · exact (h3 c hc).2 h0 b o e h4
    · have := lt _ _ (h1.ok c hc).rrd h0 b o e; omega
theorem NetM.set {w' : World} {g k : Nat} {S : Nat → Prop} {cs : List Conn} {y : Conn} (h3 : ∀ c ∈ cs, c.Off S) (h : NetAt w' g (cs.set k y)) (hy : y.Off S) : NetM w' g S ((cs.map Conn.sem).set k y.sem) :=
  ⟨_, h, by rw [List.map_set], fun c hc => by
    rcases List.mem_or_eq_of_mem_set hc with h1 | h1
    · exact h3 c h1
    · rw [h1]; exact hy⟩

theorem isM_some {cs : List Conn} (hl : cs.length = 8) {c : Int} (ho : isOpen cs c = true) : ∃ (k : Nat) (hk : k < cs.length), (c - 1).toNat = k ∧ connM (cs.map Conn.sem) c = some cs[k].sem ∧ cs[k].op = true ∧ ∀ g, connP g c = some ⟨g, k * 3, Option.none⟩ := by
  have h1 : 1 ≤ c ∧ c ≤ 8 := by
    rcases Classical.em (1 ≤ c ∧ c ≤ 8) with h | h
    · exact h
    · unfold isOpen at ho; rw [(connAt_none cs c h).1] at ho; cases ho
  obtain ⟨k, hk, hkc, hca, hcp⟩ := connAt_some hl c h1
  refine ⟨k, hk, by omega, by rw [connM_map, hca]; rfl, ?_, hcp⟩
  unfold isOpen at ho
  rw [hca] at ho
  exact ho
theorem doM_no {cs : List Conn} {c : Int} (ho : isOpen cs c = false) (f : Cn → Cn) : doM (cs.map Conn.sem) c f = (12, cs.map Conn.sem) := by
  rw [← isM_map] at ho
  unfold isM at ho
  unfold doM
  cases hq : connM (cs.map Conn.sem) c with
  | none => rfl
  | some x => rw [hq] at ho; have ho2 : x.op = false := ho; simp [ho2]
theorem deliverM_no {cs : List Conn} {c many : Int} (ho : isOpen cs c = false) : deliverM (cs.map Conn.sem) c many = ([], cs.map Conn.sem) := by
  rw [← isM_map] at ho
  unfold isM at ho
  unfold deliverM
  cases hq : connM (cs.map Conn.sem) c with
  | none => rfl
  | some x => rw [hq] at ho; have ho2 : x.op = false := ho; simp [ho2]

set_option maxHeartbeats 1000000 in
theorem netSend (g : Nat) (S : Nat → Prop) (c : Int) (a : Option Addr) (n cc : Nat) (l : List UInt8) (ms : List Cn) (w : World) (h : NetM w g S ms) (hS : ∀ k, S k → k < w.heap.size) (hr : RdB w a l) (hl : l.length = n) (hm : ∀ m ∈ ms, m.w.length + n ≤ 100000) (hc : -9223372036854775808 ≤ c ∧ c ≤ 9223372036854775807) :
    Calls Try.prog 57 #[.pointer (some ⟨g, 0, Option.none⟩), .int .i64 c, .slice a n cc] w fun e w' => e = .returned (.int .i64 (sendM ms c l).1) ∧ NetM w' g S (sendM ms c l).2 ∧ w.grownBy w' (some g) := by
  obtain ⟨cs, hA, rfl, hoff⟩ := h
  obtain ⟨w0, hw0⟩ : ∃ w0, w.alloc (.cells #[.slice a n cc] 51) = w0 := ⟨_, rfl⟩
  have hB0 : Below w.heap.size w w0 := by rw [← hw0]; exact (Below.refl _ _).alloc (Nat.le_refl _) _
  have hg0 : w0.heap[w.heap.size]? = some (.cells #[.slice a n cc] 51 (0, 0)) := by rw [← hw0]; exact heap_alloc_new w _
  have HN := Lib.hid (hA.below hB0)
  have HW := Lib.hid hw0
  have HC := Lib.hid (show w0.cell? ⟨w.heap.size, 0, Option.none⟩ = some (.slice a n cc) from cell_of_row w0 w.heap.size 0 _ _ _ hg0)
  have HR := Lib.hid (hr.below hB0 (Nat.le_refl _))
  have HL := Lib.hid hl
  have HOFF := Lib.hid hoff
  have HM := Lib.hid hm
  have HS := Lib.hid hS
  have HB0 := Lib.hid hB0
  clear hw0 hg0 hr hl hoff hm hS hB0
  cases ho : isOpen cs c with
  | false =>
    have HRES := Lib.hid (show sendM (cs.map Conn.sem) c l = (12, cs.map Conn.sem) from doM_no ho _)
    have HO := Lib.hid ho
    clear hA ho
    go_enter Try.func57, Try.ntmps57
    (repeat' ((fail_if_success at_builtin); first | go_values | go_skip | go_guarded | go_step | go_upon))
    rw [HW.out]
    refine (netWithNo g c cs _ w0 HN.out hc HO.out).mono ?_
    rintro _ w1 ⟨rfl, rfl⟩
    dsimp only
    (repeat' ((fail_if_success at_builtin); first | go_values | go_skip | go_guarded | go_step | go_upon))
    go_ret
    rw [HRES.out]
    exact ⟨rfl, ⟨cs, HN.out, rfl, HOFF.out⟩, grown_below HB0.out _⟩
  | true =>
    obtain ⟨k, hk, hkt, hcm, hop, hcp⟩ := isM_some hA.len ho
    have HRES := Lib.hid (show sendM (cs.map Conn.sem) c l = (0, (cs.map Conn.sem).set k ⟨cs[k].op, cs[k].wl ++ l, cs[k].rl⟩) by
      unfold sendM doM setM
      rw [hcm, hkt]
      have ho2 : (cs[k].sem).op = true := hop
      simp only [ho2, if_true]
      rw [← ho2]
      rfl)
    have hmk : cs[k].wn + n ≤ 100000 := by
      have h1 := HM.out cs[k].sem (List.mem_map.2 ⟨_, List.getElem_mem hk, rfl⟩)
      have h2 := (hA.ok _ (List.getElem_mem hk)).wlen
      have h3 : cs[k].sem.w.length = cs[k].wl.length := rfl
      omega
    have HO := Lib.hid ho
    have HP := Lib.hid (hcp g)
    have HK := Lib.hid hk
    have HIN := Lib.hid (netSendIn g k w.heap.size a n cc l cs w0 HN.out hk HC.out HR.out HL.out hmk)
    clear ho hcp hkt hcm hop hmk
    go_enter Try.func57, Try.ntmps57
    (repeat' ((fail_if_success at_builtin); first | go_values | go_skip | go_guarded | go_step | go_upon))
    rw [HW.out]
    refine (netWithSend g k w.heap.size c cs w0 (fun _ w' => ∃ x1 x2, NetAt w' g (cs.set k { cs[k]'HK.out with wa := x1, wn := (cs[k]'HK.out).wn + n, wc := x2, wl := (cs[k]'HK.out).wl ++ l }) ∧ w0.grownBy w' (some g) ∧ ∀ b o, x1 = some ⟨b, o, Option.none⟩ → w0.heap.size ≤ b) HN.out hc HO.out HP.out HIN.out).mono ?_
    rintro _ w1 ⟨rfl, _, x1, x2, hQ1, hQ2, hQ3⟩
    dsimp only
    have HQ1 := Lib.hid hQ1
    have HQ3 := Lib.hid hQ3
    clear hQ1 hQ3
    (repeat' ((fail_if_success at_builtin); first | go_values | go_skip | go_guarded | go_step | go_upon))
    go_ret
    rw [HRES.out]
    refine ⟨rfl, NetM.set HOFF.out HQ1.out ⟨fun _ b o e hs => ?_, (HOFF.out _ (List.getElem_mem HK.out)).2⟩, (grown_below HB0.out _).trans hQ2⟩
    have h1 := HQ3.out b o e
    have h2 := HS.out b hs
    have h3 := HB0.out.size
    omega

set_option maxHeartbeats 1000000 in
theorem netReply (g : Nat) (S : Nat → Prop) (c : Int) (a : Option Addr) (n cc : Nat) (l : List UInt8) (ms : List Cn) (w : World) (h : NetM w g S ms) (hS : ∀ k, S k → k < w.heap.size) (hr : RdB w a l) (hl : l.length = n) (hm : ∀ m ∈ ms, m.r.length + n ≤ 100000) (hc : -9223372036854775808 ≤ c ∧ c ≤ 9223372036854775807) :
    Calls Try.prog 58 #[.pointer (some ⟨g, 0, Option.none⟩), .int .i64 c, .slice a n cc] w fun e w' => e = .returned (.int .i64 (replyM ms c l).1) ∧ NetM w' g S (replyM ms c l).2 ∧ w.grownBy w' (some g) := by
  obtain ⟨cs, hA, rfl, hoff⟩ := h
  obtain ⟨w0, hw0⟩ : ∃ w0, w.alloc (.cells #[.slice a n cc] 51) = w0 := ⟨_, rfl⟩
  have hB0 : Below w.heap.size w w0 := by rw [← hw0]; exact (Below.refl _ _).alloc (Nat.le_refl _) _
  have hg0 : w0.heap[w.heap.size]? = some (.cells #[.slice a n cc] 51 (0, 0)) := by rw [← hw0]; exact heap_alloc_new w _
  have HN := Lib.hid (hA.below hB0)
  have HW := Lib.hid hw0
  have HC := Lib.hid (show w0.cell? ⟨w.heap.size, 0, Option.none⟩ = some (.slice a n cc) from cell_of_row w0 w.heap.size 0 _ _ _ hg0)
  have HR := Lib.hid (hr.below hB0 (Nat.le_refl _))
  have HL := Lib.hid hl
  have HOFF := Lib.hid hoff
  have HM := Lib.hid hm
  have HS := Lib.hid hS
  have HB0 := Lib.hid hB0
  clear hw0 hg0 hr hl hoff hm hS hB0
  cases ho : isOpen cs c with
  | false =>
    have HRES := Lib.hid (show replyM (cs.map Conn.sem) c l = (12, cs.map Conn.sem) from doM_no ho _)
    have HO := Lib.hid ho
    clear hA ho
    go_enter Try.func58, Try.ntmps58
    (repeat' ((fail_if_success at_builtin); first | go_values | go_skip | go_guarded | go_step | go_upon))
    rw [HW.out]
    refine (netWithNo g c cs _ w0 HN.out hc HO.out).mono ?_
    rintro _ w1 ⟨rfl, rfl⟩
    dsimp only
    (repeat' ((fail_if_success at_builtin); first | go_values | go_skip | go_guarded | go_step | go_upon))
    go_ret
    rw [HRES.out]
    exact ⟨rfl, ⟨cs, HN.out, rfl, HOFF.out⟩, grown_below HB0.out _⟩
  | true =>
    obtain ⟨k, hk, hkt, hcm, hop, hcp⟩ := isM_some hA.len ho
    have HRES := Lib.hid (show replyM (cs.map Conn.sem) c l = (0, (cs.map Conn.sem).set k ⟨cs[k].op, cs[k].wl, cs[k].rl ++ l⟩) by
      unfold replyM doM setM
      rw [hcm, hkt]
      have ho2 : (cs[k].sem).op = true := hop
      simp only [ho2, if_true]
      rw [← ho2]
      rfl)
    have hmk : cs[k].rn + n ≤ 100000 := by
      have h1 := HM.out cs[k].sem (List.mem_map.2 ⟨_, List.getElem_mem hk, rfl⟩)
      have h2 := (hA.ok _ (List.getElem_mem hk)).rlen
      have h3 : cs[k].sem.r.length = cs[k].rl.length := rfl
      omega
    have HO := Lib.hid ho
    have HP := Lib.hid (hcp g)
    have HK := Lib.hid hk
    have HIN := Lib.hid (netReplyIn g k w.heap.size a n cc l cs w0 HN.out hk HC.out HR.out HL.out hmk)
    clear ho hcp hkt hcm hop hmk
    go_enter Try.func58, Try.ntmps58
    (repeat' ((fail_if_success at_builtin); first | go_values | go_skip | go_guarded | go_step | go_upon))
    rw [HW.out]
    refine (netWithReply g k w.heap.size c cs w0 (fun _ w' => ∃ x1 x2, NetAt w' g (cs.set k { cs[k]'HK.out with ra := x1, rn := (cs[k]'HK.out).rn + n, rc := x2, rl := (cs[k]'HK.out).rl ++ l }) ∧ w0.grownBy w' (some g) ∧ ∀ b o, x1 = some ⟨b, o, Option.none⟩ → w0.heap.size ≤ b) HN.out hc HO.out HP.out HIN.out).mono ?_
    rintro _ w1 ⟨rfl, _, x1, x2, hQ1, hQ2, hQ3⟩
    dsimp only
    have HQ1 := Lib.hid hQ1
    have HQ3 := Lib.hid hQ3
    clear hQ1 hQ3
    (repeat' ((fail_if_success at_builtin); first | go_values | go_skip | go_guarded | go_step | go_upon))
    go_ret
    rw [HRES.out]
    refine ⟨rfl, NetM.set HOFF.out HQ1.out ⟨(HOFF.out _ (List.getElem_mem HK.out)).1, fun _ b o e hs => ?_⟩, (grown_below HB0.out _).trans hQ2⟩
    have h1 := HQ3.out b o e
    have h2 := HS.out b hs
    have h3 := HB0.out.size
    omega

theorem run_loadVar_one {P : Program} {w : World} {ty : TypeId} {e : TypeId} {a : Addr} {v : Value} (hu : P.underlying ty = some (.slice e)) (h : w.cell? a = some v) : (loadVar ty a).run P w = .ok v w := by
  simp [loadVar, isAgg, run_underlying hu, h, TypeDesc.isRow, load, Sem.run, Sem.pure]

def GotD (w : World) (g : Nat) (S : Nat → Prop) (r : List UInt8 × List Cn) (e : Ending) (w' : World) : Prop :=
  ∃ (a : Option Addr) (k : Nat), e = .returned (.slice a r.1.length k) ∧ r.1.length ≤ k ∧ RdB w' a r.1 ∧ NetM w' g S r.2 ∧ w.grownBy w' (some g)

set_option maxHeartbeats 1000000 in
theorem netDeliver (g : Nat) (S : Nat → Prop) (c many : Int) (ms : List Cn) (w : World) (h : NetM w g S ms) (hc : -9223372036854775808 ≤ c ∧ c ≤ 9223372036854775807) (hmy : -9223372036854775808 ≤ many ∧ many ≤ 9223372036854775807) :
    Calls Try.prog 37 #[.pointer (some ⟨g, 0, Option.none⟩), .int .i64 c, .int .i64 many] w (GotD w g S (deliverM ms c many)) := by
  obtain ⟨cs, hA, rfl, hoff⟩ := h
  obtain ⟨w0, hw0⟩ : ∃ w0, (w.alloc (.cells #[.int .i64 many] 3)).alloc (.cells #[.slice Option.none 0 0] 51) = w0 := ⟨_, rfl⟩
  have hB0 : Below w.heap.size w w0 := by rw [← hw0]; exact ((Below.refl _ _).alloc (Nat.le_refl _) _).alloc (by simp) _
  have hs0 : w0.heap.size = w.heap.size + 2 := by rw [← hw0]; simp
  have hgz : w0.heap[w.heap.size]? = some (.cells #[.int .i64 many] 3 (0, 0)) := by rw [← hw0, Go.heap_alloc_old _ _ (by simp)]; exact heap_alloc_new w _
  have hgy : w0.heap[w.heap.size + 1]? = some (.cells #[.slice Option.none 0 0] 51 (0, 0)) := by
    have := heap_alloc_new (w.alloc (.cells #[.int .i64 many] 3)) (.cells #[.slice Option.none 0 0] 51)
    rw [hw0] at this
    simpa using this
  have HN := Lib.hid (hA.below hB0)
  have HW := Lib.hid hw0
  have HZ := Lib.hid hgz
  have HY := Lib.hid hgy
  have HOFF := Lib.hid hoff
  have HB0 := Lib.hid hB0
  have HS0 := Lib.hid hs0
  have HGL := Lib.hid (Array.getElem?_eq_some_iff.1 hA.row).1
  clear hw0 hgz hgy hoff hB0 hs0
  cases ho : isOpen cs c with
  | false =>
    have HRES := Lib.hid (deliverM_no (many := many) ho)
    have HO := Lib.hid ho
    have hcy : w0.cell? ⟨w.heap.size + 1, 0, Option.none⟩ = some (.slice Option.none 0 0) := cell_of_row _ _ _ _ _ _ HY.out
    have hfy : w0.frozen? ⟨w.heap.size + 1, 0, Option.none⟩ = false := frozen_of_row _ _ _ _ _ HY.out
    have HR := Lib.hid (run_loadVar_one (P := Try.prog) Try.underlying51 hcy)
    have hse := setCell_self hcy
    clear hA ho
    go_enter Try.func37, Try.ntmps37
    (repeat' ((fail_if_success at_builtin); first | go_values | go_skip | go_guarded | go_step | go_upon))
    rw [HW.out]
    refine (netWithNo g c cs _ w0 HN.out hc HO.out).mono ?_
    rintro _ w1 ⟨rfl, rfl⟩
    dsimp only
    (repeat' ((fail_if_success at_builtin); first | go_values | go_skip | go_guarded | go_step | go_upon))
    refine bodyPost_ret (results_cell rfl _ _ _ ⟨w.heap.size + 1, 0, Option.none⟩ (by rfl) _ HR.out) rfl ?_
    · rw [HRES.out]
      exact ⟨Option.none, 0, rfl, Nat.le_refl _, RdC.nil _ _, ⟨cs, HN.out, rfl, HOFF.out⟩, grown_below HB0.out _⟩
  | true =>
    obtain ⟨k, hk, hkt, hcm, hop, hcp⟩ := isM_some hA.len ho
    have hwl := (hA.ok _ (List.getElem_mem hk)).wlen
    have HRES := Lib.hid (show deliverM (cs.map Conn.sem) c many = (cs[k].wl.take (cutN many cs[k].wn), (cs.map Conn.sem).set k ⟨cs[k].op, cs[k].wl.drop (cutN many cs[k].wn), cs[k].rl⟩) by
      unfold deliverM setM
      rw [hcm, hkt]
      have ho2 : (cs[k].sem).op = true := hop
      simp only [ho2, if_true]
      rw [← ho2]
      show ((cs[k].wl).take (cutN many cs[k].wl.length), _) = _
      rw [hwl]
      show (_, (cs.map Conn.sem).set k ⟨cs[k].op, cs[k].wl.drop (cutN many cs[k].wl.length), cs[k].rl⟩) = _
      rw [hwl])
    have HLEN := Lib.hid (show (cs[k].wl.take (cutN many cs[k].wn)).length = cutN many cs[k].wn by rw [List.length_take, hwl]; exact Nat.min_eq_left (cutN_le _ _))
    have HO := Lib.hid ho
    have HP := Lib.hid (hcp g)
    have HK := Lib.hid hk
    have HIN := Lib.hid (netDeliverIn g k w.heap.size (w.heap.size + 1) many cs w0 HN.out hk HZ.out HY.out (by omega) hmy)
    clear ho hcp hkt hcm hop hwl
    go_enter Try.func37, Try.ntmps37
    (repeat' ((fail_if_success at_builtin); first | go_values | go_skip | go_guarded | go_step | go_upon))
    rw [HW.out]
    refine (netWithDeliver g k w.heap.size (w.heap.size + 1) c cs w0 (fun _ w' => ∃ a2 c2 x1 x2, cutN many (cs[k]'HK.out).wn ≤ c2 ∧ RdB w' a2 ((cs[k]'HK.out).wl.take (cutN many (cs[k]'HK.out).wn)) ∧ w'.cell? ⟨w.heap.size + 1, 0, Option.none⟩ = some (.slice a2 (cutN many (cs[k]'HK.out).wn) c2) ∧ NetAt w' g (cs.set k { (cs[k]'HK.out) with wa := x1, wn := (cs[k]'HK.out).wn - cutN many (cs[k]'HK.out).wn, wc := x2, wl := (cs[k]'HK.out).wl.drop (cutN many (cs[k]'HK.out).wn) }) ∧ Frm w0.heap.size (fun k => k = g ∨ k = w.heap.size ∨ k = w.heap.size + 1) w0 w' ∧ w'.frozen? ⟨w.heap.size + 1, 0, Option.none⟩ = false ∧ (0 < ((cs[k]'HK.out).wl.drop (cutN many (cs[k]'HK.out).wn)).length → ∀ b o, x1 = some ⟨b, o, Option.none⟩ → ∃ o', (cs[k]'HK.out).wa = some ⟨b, o', Option.none⟩)) HN.out hc HO.out HP.out HIN.out).mono ?_
    rintro _ w1 ⟨rfl, _, a2, c2, x1, x2, hQ1, hQ2, hcy, hQ4, hQ5, hfy, hQ6⟩
    dsimp only
    have HQ1 := Lib.hid hQ1
    have HQ2 := Lib.hid hQ2
    have HQ4 := Lib.hid hQ4
    have HQ5 := Lib.hid hQ5
    have HQ6 := Lib.hid hQ6
    have hk := HK.out
    obtain ⟨N, hN⟩ : ∃ N, cutN many cs[k].wn = N := ⟨_, rfl⟩
    rw [hN] at hcy
    have HNN := Lib.hid hN
    have HR := Lib.hid (run_loadVar_one (P := Try.prog) Try.underlying51 hcy)
    have hse := setCell_self hcy
    clear hQ1 hQ2 hQ4 hQ5 hQ6 hN
    (repeat' ((fail_if_success at_builtin); first | go_values | go_skip | go_guarded | go_step | go_upon))
    refine bodyPost_ret (results_cell rfl _ _ _ ⟨w.heap.size + 1, 0, Option.none⟩ (by rfl) _ HR.out) rfl ?_
    · rw [HRES.out]
      refine ⟨a2, c2, ?_, ?_, HQ2.out, ?_, ?_⟩
      · show _ = Ending.returned (.slice a2 (cs[k].wl.take (cutN many cs[k].wn)).length c2)
        rw [HLEN.out, HNN.out]
      · show (cs[k].wl.take (cutN many cs[k].wn)).length ≤ c2
        rw [HLEN.out]; exact HQ1.out
      · refine NetM.set HOFF.out HQ4.out ⟨fun h0 b o e hs => ?_, (HOFF.out _ (List.getElem_mem HK.out)).2⟩
        obtain ⟨o', e'⟩ := HQ6.out h0 b o e
        exact (HOFF.out _ (List.getElem_mem HK.out)).1 (by have h1 : 0 < (cs[k].wl.drop (cutN many cs[k].wn)).length := h0; rw [List.length_drop] at h1; omega) b o' e' hs
      · have h5 := HQ5.out
        have hb := HB0.out
        refine ⟨h5.os.trans hb.os, h5.tape.trans hb.tape, h5.output.trans hb.output, Nat.le_trans hb.size h5.size, fun k hk hne => ?_⟩
        have h1 := HS0.out
        exact (h5.block k (by omega) (by rintro (e | e | e); exact hne (by rw [e]); all_goals omega)).trans (hb.block k hk)

theorem connM_set {cs : List Conn} (hl : cs.length = 8) (c : Int) : (connAt cs c = Option.none ∧ connM (cs.map Conn.sem) c = Option.none) ∨ ∃ (k : Nat) (hk : k < cs.length), (c - 1).toNat = k ∧ connAt cs c = some cs[k] ∧ connM (cs.map Conn.sem) c = some cs[k].sem := by
  by_cases h1 : 1 ≤ c ∧ c ≤ 8
  · obtain ⟨k, hk, hkc, hca, hcp⟩ := connAt_some hl c h1
    exact .inr ⟨k, hk, by omega, hca, by rw [connM_map, hca]; rfl⟩
  · have := (connAt_none cs c h1).1
    exact .inl ⟨this, by rw [connM_map, this]; rfl⟩

theorem netOpenM (g : Nat) (S : Nat → Prop) (c : Int) (ms : List Cn) (w : World) (h : NetM w g S ms) (hc : -9223372036854775808 ≤ c ∧ c ≤ 9223372036854775807) :
    Calls Try.prog 56 #[.pointer (some ⟨g, 0, Option.none⟩), .int .i64 c] w fun e w' => e = .returned (.int .i64 (openM ms c).1) ∧ NetM w' g S (openM ms c).2 ∧ w.grownBy w' (some g) := by
  obtain ⟨cs, hA, rfl, hoff⟩ := h
  refine (netOpen g c cs w hA hc).mono ?_
  rintro _ w' ⟨rfl, h1, h2⟩
  rcases connM_set hA.len c with ⟨e1, e2⟩ | ⟨k, hk, hkt, e1, e2⟩
  · have r1 : openR cs c = (1, cs) := by unfold openR; rw [e1]
    have r2 : openM (cs.map Conn.sem) c = (1, cs.map Conn.sem) := by unfold openM; rw [e2]
    rw [r1] at h1 ⊢
    rw [r2]
    exact ⟨rfl, ⟨cs, h1, rfl, hoff⟩, h2⟩
  · cases ho : cs[k].op with
    | true =>
      have r1 : openR cs c = (13, cs) := by unfold openR; rw [e1]; simp [ho]
      have r2 : openM (cs.map Conn.sem) c = (13, cs.map Conn.sem) := by unfold openM; rw [e2]; simp [Conn.sem, ho]
      rw [r1] at h1 ⊢
      rw [r2]
      exact ⟨rfl, ⟨cs, h1, rfl, hoff⟩, h2⟩
    | false =>
      have r1 : openR cs c = (0, cs.set k Conn.fresh) := by unfold openR; rw [e1, hkt]; simp [ho]
      have r2 : openM (cs.map Conn.sem) c = (0, (cs.map Conn.sem).set k Conn.fresh.sem) := by unfold openM setM; rw [e2, hkt]; simp [Conn.sem, ho, Conn.fresh, Conn.none]
      rw [r1] at h1 ⊢
      rw [r2]
      exact ⟨rfl, NetM.set hoff h1 ⟨fun h0 => absurd h0 (Nat.lt_irrefl 0), fun h0 => absurd h0 (Nat.lt_irrefl 0)⟩, h2⟩

theorem netCloseM (g : Nat) (S : Nat → Prop) (c : Int) (ms : List Cn) (w : World) (h : NetM w g S ms) (hc : -9223372036854775808 ≤ c ∧ c ≤ 9223372036854775807) :
    Calls Try.prog 59 #[.pointer (some ⟨g, 0, Option.none⟩), .int .i64 c] w fun e w' => e = .returned (.int .i64 (closeM ms c).1) ∧ NetM w' g S (closeM ms c).2 ∧ w.grownBy w' (some g) := by
  obtain ⟨cs, hA, rfl, hoff⟩ := h
  refine (netClose g c cs w hA hc).mono ?_
  rintro _ w' ⟨rfl, h1, h2⟩
  rcases connM_set hA.len c with ⟨e1, e2⟩ | ⟨k, hk, hkt, e1, e2⟩
  · have r1 : closeR cs c = (12, cs) := by unfold closeR; rw [e1]
    have r2 : closeM (cs.map Conn.sem) c = (12, cs.map Conn.sem) := by unfold closeM doM; rw [e2]
    rw [r1] at h1 ⊢
    rw [r2]
    exact ⟨rfl, ⟨cs, h1, rfl, hoff⟩, h2⟩
  · cases ho : cs[k].op with
    | false =>
      have r1 : closeR cs c = (12, cs) := by unfold closeR; rw [e1]; simp [ho]
      have r2 : closeM (cs.map Conn.sem) c = (12, cs.map Conn.sem) := by unfold closeM doM; rw [e2]; simp [Conn.sem, ho]
      rw [r1] at h1 ⊢
      rw [r2]
      exact ⟨rfl, ⟨cs, h1, rfl, hoff⟩, h2⟩
    | true =>
      have r1 : closeR cs c = (0, cs.set k cs[k].shut) := by unfold closeR; rw [e1, hkt]; simp [ho]
      have r2 : closeM (cs.map Conn.sem) c = (0, (cs.map Conn.sem).set k cs[k].shut.sem) := by unfold closeM doM setM; rw [e2, hkt]; simp [Conn.sem, ho, Conn.shut, Conn.none]
      rw [r1] at h1 ⊢
      rw [r2]
      exact ⟨rfl, NetM.set hoff h1 ⟨fun h0 => absurd h0 (Nat.lt_irrefl 0), (hoff _ (List.getElem_mem hk)).2⟩, h2⟩

theorem netIsM (g : Nat) (S : Nat → Prop) (c : Int) (ms : List Cn) (w : World) (h : NetM w g S ms) (hc : -9223372036854775808 ≤ c ∧ c ≤ 9223372036854775807) :
    Calls Try.prog 34 #[.pointer (some ⟨g, 0, Option.none⟩), .int .i64 c] w fun e w' => e = .returned (.bool (isM ms c)) ∧ w = w' := by
  obtain ⟨cs, hA, rfl, hoff⟩ := h
  rw [isM_map]
  exact netIs g c cs w hA hc

theorem netSentM (g : Nat) (S : Nat → Prop) (c : Int) (ms : List Cn) (w : World) (h : NetM w g S ms) (hc : -9223372036854775808 ≤ c ∧ c ≤ 9223372036854775807) :
    Calls Try.prog 35 #[.pointer (some ⟨g, 0, Option.none⟩), .int .i64 c] w fun e w' => ∃ (a : Option Addr) (k : Nat), e = .returned (.slice a (sentM ms c).length k) ∧ (sentM ms c).length ≤ k ∧ RdB w' a (sentM ms c) ∧ Below w.heap.size w w' := by
  obtain ⟨cs, hA, rfl, hoff⟩ := h
  have e : sentM (cs.map Conn.sem) c = sentB cs c := by
    unfold sentM sentB
    rcases connM_set hA.len c with ⟨e1, e2⟩ | ⟨k, hk, hkt, e1, e2⟩
    · rw [e1, e2]; rfl
    · rw [e1, e2]; rfl
  rw [e]
  exact netSent g c cs w hA hc

theorem netWaitsM (g : Nat) (S : Nat → Prop) (c : Int) (ms : List Cn) (w : World) (h : NetM w g S ms) (hc : -9223372036854775808 ≤ c ∧ c ≤ 9223372036854775807) :
    Calls Try.prog 36 #[.pointer (some ⟨g, 0, Option.none⟩), .int .i64 c] w fun e w' => e = .returned (.int .i64 (waitsM ms c)) ∧ Below w.heap.size w w' := by
  obtain ⟨cs, hA, rfl, hoff⟩ := h
  have e : waitsM (cs.map Conn.sem) c = waitsN cs c := by
    unfold waitsM waitsN
    rcases connM_set hA.len c with ⟨e1, e2⟩ | ⟨k, hk, hkt, e1, e2⟩
    · rw [e1, e2]
    · rw [e1, e2]
      have := (hA.ok _ (List.getElem_mem hk)).wlen
      show (if cs[k].op then cs[k].wl.length else 0) = _
      rw [this]
  rw [e]
  exact netWaits g c cs w hA hc

theorem netNewM (w : World) (S : Nat → Prop) : Calls Try.prog 31 #[] w fun e w' => e = .returned (.pointer (some ⟨w.heap.size, 0, Option.none⟩)) ∧ NetM w' w.heap.size S (List.replicate 8 ⟨false, [], []⟩) ∧ Below w.heap.size w w' := by
  refine (netNew w).mono ?_
  rintro _ w' ⟨rfl, h1, h2⟩
  exact ⟨rfl, ⟨_, h1, rfl, fun c hc => by rw [List.eq_of_mem_replicate hc]; exact ⟨fun h0 => absurd h0 (Nat.lt_irrefl 0), fun h0 => absurd h0 (Nat.lt_irrefl 0)⟩⟩, h2⟩

end Go.Proofs.Ythgaghpakioglaa
