/- What the helpers of package sealerykit answer, one contract a function. -/
import Derived.Test.YthgaghpakioglaaProg
import Derived.Test.YthgaghpakioglaaLib
namespace Go.Proofs.Ythgaghpakioglaa
open Go.RowKit
set_option maxRecDepth 10000

theorem u8Info : (Try.prog.info? 5).map (fun i => (i.zero, i.size, i.bytes)) = some (some (.int .u8 0), 1, 1) := by kernel_rfl

/-- Bytes in new memory are returned. -/
def GotB (w : World) (n : Nat) (l : List UInt8) (e : Ending) (w' : World) : Prop :=
  ∃ a c, e = .returned (.slice a n c) ∧ n ≤ c ∧ RdB w' a l ∧ Below w.heap.size w w' ∧ w'.ownsRow w.heap.size 5 1 (.slice a n c) n (bvs l)

theorem gotB {w w' : World} {n : Nat} {l : List UInt8} {v : Value} (hB : Below w.heap.size w w') (hO : w'.ownsRow w.heap.size 5 1 v n (bvs l)) : GotB w n l (.returned v) w' := by
  obtain ⟨a, c, rfl, hc, _, _⟩ := owns_slice hO
  exact ⟨a, c, rfl, hc, rdc_of_owns hO, hB, hO⟩

theorem gotB_lift {w w1 w2 : World} {n m c : Nat} {l : List UInt8} {a : Option Addr} (h : m ≤ c ∧ RdB w2 a l ∧ Below w1.heap.size w1 w2 ∧ w2.ownsRow w1.heap.size 5 1 (.slice a m c) m (bvs l)) (hB : Below w.heap.size w w1) (e : m = n := by omega) : GotB w n l (.returned (.slice a m c)) w2 := by
  subst e
  exact ⟨a, c, rfl, h.1, h.2.1, hB.trans (h.2.2.1.mono hB.size), owns_mono h.2.2.2 hB.size⟩

/-- 'append(x, y...)' of bytes onto bytes of the call's own. -/
theorem app8 {w : World} {ops : Array Oper} {rest : List Oper} {o : Oper} {a : Act} {Q : Exit → Act → World → Prop} (hgd : o.guard = none) (s x : Operand)
    (ho : o.op = .call { callee := .builtin .append, args := #[s, x], argTypes := #[51, 51] })
    (base : Nat) (v : Value) (n : Nat) (l : List UInt8) (hsv : a.eval s = v) (hown : w.ownsRow base 5 1 v n (bvs l))
    (xa : Option Addr) (m c : Nat) (k : List UInt8) (hxv : a.eval x = .slice xa m c) (hr : RdB w xa k) (em : k.length = m)
    (hb : n + m ≤ 2147483648) (hbase : base ≤ w.heap.size)
    (h : ∀ a' c' w', n + m ≤ c' → RdB w' a' (l ++ k) → w'.ownsRow base 5 1 (.slice a' (n + m) c') (n + m) (bvs (l ++ k)) → w.grownBy w' v.ownBlock → wpList Try.prog ops Q rest (a.put o.dst (.slice a' (n + m) c')) w') :
    wpList Try.prog ops Q (o :: rest) a w := by
  obtain ⟨i0, hi, hz0, hz1, hz2⟩ := info_parts u8Info
  refine wpList_app w hgd s x 51 51 ho base 5 i0 _ 1 1 Try.underlying51 hi hz0 hz1 hz2 rfl v n (bvs l) hsv hown _ hxv m (bvs k) (src_of_rdc Try.underlying51 hr (by simp [bvs, em]) (bvs_oneCell k)) (by unfold maxLen; omega) (by omega) hbase ?_
  intro v' w' hO hg
  rw [← bvs_append] at hO
  obtain ⟨a', c', rfl, hc, _, _⟩ := owns_slice hO
  exact h a' c' w' hc (rdc_of_owns hO) hO hg

/-- 'append(x, c)' of one byte. -/
theorem app1 (w : World) (y : Int) (hy : 0 ≤ y ∧ y < 256) {ops : Array Oper} {rest : List Oper} {o : Oper} {a : Act} {Q : Exit → Act → World → Prop} (hgd : o.guard = none) (s x : Operand)
    (ho : o.op = .call { callee := .builtin .append, args := #[s, x], argTypes := #[51, 51] })
    (base : Nat) (v : Value) (n : Nat) (l : List UInt8) (hsv : a.eval s = v) (hown : w.ownsRow base 5 1 v n (bvs l))
    (hxv : a.eval x = .slice (some ⟨w.heap.size, 0, none⟩) 1 1) (hb : n ≤ 2147483647) (hbase : base ≤ w.heap.size)
    (h : ∀ a' c' w', n + 1 ≤ c' → RdB w' a' (l ++ [u8 y]) → w'.ownsRow base 5 1 (.slice a' (n + 1) c') (n + 1) (bvs (l ++ [u8 y])) → w.grownBy w' v.ownBlock → wpList Try.prog ops Q rest (a.put o.dst (.slice a' (n + 1) c')) w') :
    wpList Try.prog ops Q (o :: rest) a (w.alloc (.cells #[.int .u8 y] 5)) :=
  app8 hgd s x ho base v n l hsv (hown.alloc _) _ 1 _ [u8 y] hxv (rdb_one w y hy _) rfl (by omega) (by simp; omega)
    (fun a' c' w' h1 h2 h3 h4 => h a' c' w' h1 h2 h3 ((World.grownBy_alloc w _ _).trans h4))

def CopyRel (base : Nat) (w : World) (l : List UInt8) (k : Nat) (v : Value) (wr : World) : Prop :=
  Below base w wr ∧ wr.ownsRow base 5 1 v k (bvs (l.take k))

set_option maxHeartbeats 400000 in
theorem copyBytes (a : Option Addr) (n cap : Nat) (l : List UInt8) (w : World) (h : RdB w a l) (en : l.length = n) (hn : n ≤ 1073741824) :
    Calls Try.prog 42 #[.slice a n cap] w (GotB w n l) := by
  subst en
  obtain ⟨i0, hi, hz0, hz1, hz2⟩ := info_parts u8Info
  go_enter Try.func42, Try.ntmps42
  (repeat' ((fail_if_success at_builtin); first | go_values | go_skip | go_guarded | go_step | go_upon))
  go_loopw [3, 4] (fun v i wr => ∃ k : Nat, k ≤ l.length ∧ i = .int .i64 k ∧ CopyRel w.heap.size w l k v wr) (fun _ i _ => l.length - (intOf i).toNat)
  case atStart => exact ⟨0, Nat.zero_le _, rfl, Below.refl _ _, World.ownsRow_nil _ _ _ _⟩
  case round =>
    obtain ⟨k, hk, rfl, hB, hO⟩ := hrel
    by_cases hlt : k < l.length
    · obtain ⟨b, off, rfl, hc⟩ := (h.below hB (Nat.le_refl _)).byte k hlt
      (repeat' ((fail_if_success at_builtin); first | go_values | go_skip | go_guarded | go_step | go_upon))
      refine wpList_app _ rfl _ _ _ _ rfl w.heap.size 5 i0 _ 1 1 Try.underlying51 hi hz0 hz1 hz2 rfl _ _ _ rfl (hO.alloc _) _ rfl 1 [bv l[k]] (Src.ofSlice _ Try.underlying51 _ 1 1 _ rfl (cell_one_new _ _ _) (by simp [bv, Value.oneCell'])) (by unfold maxLen; omega) (by omega) (by have := hB.size; simp; omega) ?_
      intro v1 w1 hO1 hg1
      have hB1 : Below w.heap.size w w1 := (hB.alloc hB.size _).grown hg1 (by have := hB.size; simp; omega) (fun g e => (hO.lt g e).1)
      rw [bvs_snoc l k hlt] at hO1
      (repeat' ((fail_if_success at_builtin); first | go_values | go_skip | go_guarded | go_step | go_upon))
      go_roundw
      case rel => exact ⟨k + 1, by omega, by go_num, hB1, hO1⟩
      case measure => simp [intOf]; omega
    · (repeat' ((fail_if_success at_builtin); first | go_values | go_skip | go_guarded | go_step | go_upon))
      go_ret
      obtain rfl : k = l.length := by omega
      exact gotB hB (by simpa using hO)

theorem take_snoc_ne {l m : List UInt8} {k : Nat} (hl : k < l.length) (hm : k < m.length) (h : ¬ l[k] = m[k]) : l ≠ m := by
  intro e; subst e; exact h rfl

set_option maxHeartbeats 400000 in
theorem sameBytes (a b : Option Addr) (n1 n2 c d : Nat) (l m : List UInt8) (w : World) (hl : RdB w a l) (hm : RdB w b m) (e1 : l.length = n1) (e2 : m.length = n2) (hn : n1 ≤ 1073741824) :
    Calls Try.prog 33 #[.slice a n1 c, .slice b n2 d] w fun e w' => e = .returned (.bool (decide (l = m))) ∧ ∃ n, w' = w.drewN n := by
  subst e1 e2
  go_enter Try.func33, Try.ntmps33
  by_cases hlen : l.length = m.length
  · have h0 : ((l.length : Int) != (m.length : Int)) = false := by simp [hlen]
    (repeat' ((fail_if_success at_builtin); first | go_values | go_skip | go_guarded | go_step | go_upon))
    go_loopw [5] (fun i wr => ∃ k n : Nat, k ≤ l.length ∧ i = .int .i64 k ∧ wr = w.drewN n ∧ l.take k = m.take k) (fun i _ => l.length - (intOf i).toNat)
    case atStart => exact ⟨0, 0, Nat.zero_le _, rfl, rfl, by simp⟩
    case round =>
      obtain ⟨k, n, hk, rfl, rfl, he⟩ := hrel
      have HE := Lib.hid he; clear he
      have HL := Lib.hid hlen; clear hlen
      by_cases hlt : k < l.length
      · have hltm : k < m.length := by have := HL.out; omega
        obtain ⟨b1, o1, rfl, hc1⟩ := hl.byte k hlt
        obtain ⟨b2, o2, rfl, hc2⟩ := hm.byte k hltm
        by_cases hx : l[k] = m[k]
        · have hb : ((l[k].toNat : Int) == (m[k].toNat : Int)) = true := by simp [hx]
          have HX := Lib.hid hx; clear hx
          (repeat' ((fail_if_success at_builtin); first | go_values | go_skip | go_guarded | go_step | go_upon))
          go_quiet (fail)
          (repeat' ((fail_if_success at_builtin); first | go_values | go_skip | go_guarded | go_step | go_upon))
          go_roundw
          case rel =>
            refine ⟨k + 1, n + nq, by omega, by go_num, rfl, ?_⟩
            rw [List.take_succ_eq_append_getElem hlt, List.take_succ_eq_append_getElem hltm, HE.out, HX.out]
          case measure => simp [intOf]; omega
        · have hb : ((l[k].toNat : Int) == (m[k].toNat : Int)) = false := by
            simp
            intro e
            exact hx (UInt8.toNat_inj.1 (by omega))
          (repeat' ((fail_if_success at_builtin); first | go_values | go_skip | go_guarded | go_step | go_upon))
          go_quiet (fail)
          (repeat' ((fail_if_success at_builtin); first | go_values | go_skip | go_guarded | go_step | go_upon))
          go_ret
          exact ⟨by rw [decide_eq_false (take_snoc_ne hlt hltm hx)]; rfl, n + nq, by simp [World.drewN, Nat.add_assoc]⟩
      · (repeat' ((fail_if_success at_builtin); first | go_values | go_skip | go_guarded | go_step | go_upon))
        go_ret
        refine ⟨?_, _, rfl⟩
        have h1 := HE.out
        have h2 := HL.out
        obtain rfl : k = l.length := by omega
        have : l = m := by
          rw [List.take_of_length_le (Nat.le_refl _)] at h1
          rw [h1, h2, List.take_of_length_le (Nat.le_refl _)]
        simp [this]
  · have h0 : ((l.length : Int) != (m.length : Int)) = true := by simp; omega
    (repeat' ((fail_if_success at_builtin); first | go_values | go_skip | go_guarded | go_step | go_upon))
    go_ret
    exact ⟨by rw [decide_eq_false (by intro e; exact hlen (by rw [e]))]; rfl, 0, rfl⟩

theorem sameBytes_yes (a b : Option Addr) (n1 n2 c d : Nat) (l m : List UInt8) (w : World) (hl : RdB w a l) (hm : RdB w b m) (e1 : l.length = n1) (e2 : m.length = n2) (hn : n1 ≤ 1073741824) (h : l = m) :
    Calls Try.prog 33 #[.slice a n1 c, .slice b n2 d] w fun e w' => e = .returned (.bool true) ∧ ∃ n, w' = w.drewN n :=
  (sameBytes a b n1 n2 c d l m w hl hm e1 e2 hn).mono fun e w' hh => ⟨by rw [hh.1, decide_eq_true h], hh.2⟩

theorem sameBytes_no (a b : Option Addr) (n1 n2 c d : Nat) (l m : List UInt8) (w : World) (hl : RdB w a l) (hm : RdB w b m) (e1 : l.length = n1) (e2 : m.length = n2) (hn : n1 ≤ 1073741824) (h : l ≠ m) :
    Calls Try.prog 33 #[.slice a n1 c, .slice b n2 d] w fun e w' => e = .returned (.bool false) ∧ ∃ n, w' = w.drewN n :=
  (sameBytes a b n1 n2 c d l m w hl hm e1 e2 hn).mono fun e w' hh => ⟨by rw [hh.1, decide_eq_false h], hh.2⟩

theorem same_yes {a b : Option Addr} {n1 n2 c d : Nat} {l m : List UInt8} {w : World} (hl : RdB w a l) (hm : RdB w b m) (e1 : l.length = n1) (e2 : m.length = n2) (hn : n1 ≤ 1073741824) (h : l = m) :
    Calls Try.prog 33 #[.slice a n1 c, .slice b n2 d] w fun e w' => e = .returned (.bool true) ∧ Still w w' :=
  (sameBytes_yes a b n1 n2 c d l m w hl hm e1 e2 hn h).mono fun _ _ ⟨h1, n, h2⟩ => ⟨h1, by rw [h2]; exact still_drewN w n⟩

theorem same_no {a b : Option Addr} {n1 n2 c d : Nat} {l m : List UInt8} {w : World} (hl : RdB w a l) (hm : RdB w b m) (e1 : l.length = n1) (e2 : m.length = n2) (hn : n1 ≤ 1073741824) (h : l ≠ m) :
    Calls Try.prog 33 #[.slice a n1 c, .slice b n2 d] w fun e w' => e = .returned (.bool false) ∧ Still w w' :=
  (sameBytes_no a b n1 n2 c d l m w hl hm e1 e2 hn h).mono fun _ _ ⟨h1, n, h2⟩ => ⟨h1, by rw [h2]; exact still_drewN w n⟩

set_option maxHeartbeats 400000 in
theorem markBytes (i : Int) (w : World) (h0 : 0 ≤ i) (h : i ≤ 1073741900) :
    Calls Try.prog 47 #[.int .i64 i] w fun e w' => e = .returned (.int .u8 ((201 + 7 * i) % 256)) ∧ w = w' := by
  go_enter Try.func47, Try.ntmps47
  (repeat' ((fail_if_success at_builtin); first | go_values | go_skip | go_guarded | go_step | go_upon))
  go_ret
  exact ⟨rfl, rfl⟩

/-- Pick: a number from 0 to n - 1 of any number; 0, if n is below 1. -/
def pick (v n : Int) : Int := if n < 1 then 0 else v % n

theorem pick_lt (v n : Int) (h : 1 ≤ n) : 0 ≤ pick v n ∧ pick v n < n := by
  unfold pick; rw [if_neg (by omega)]; exact ⟨Int.emod_nonneg _ (by omega), Int.emod_lt_of_pos _ (by omega)⟩

theorem pick_le (v n : Int) : 0 ≤ pick v n ∧ (pick v n < n ∨ pick v n = 0) := by
  by_cases h : n < 1
  · unfold pick; rw [if_pos h]; omega
  · have := pick_lt v n (by omega); omega

theorem pick_of (v n : Int) (h : 1 ≤ n) : pick v n = if v.tmod n < 0 then v.tmod n + n else v.tmod n := by
  unfold pick; rw [if_neg (by omega)]
  have h1 := Int.tmod_eq_emod (a := v) (b := n)
  have h2 := Int.emod_nonneg v (b := n) (by omega)
  have h3 := Int.emod_lt_of_pos v (b := n) (by omega)
  split at h1 <;> split <;> omega

set_option maxHeartbeats 400000 in
theorem pickAny (v n : Int) (w : World) (_hv : -9223372036854775808 ≤ v ∧ v ≤ 9223372036854775807) (hn : -9223372036854775808 ≤ n ∧ n ≤ 9223372036854775807) :
    Calls Try.prog 10 #[.int .i64 v, .int .i64 n] w fun e w' => e = .returned (.int .i64 (pick v n)) ∧ w = w' := by
  by_cases h : n < 1
  · have hp : pick v n = 0 := by unfold pick; rw [if_pos h]
    rw [hp]
    go_enter Try.func10, Try.ntmps10
    (repeat' ((fail_if_success at_builtin); first | go_values | go_skip | go_guarded | go_step | go_upon))
    go_ret
    exact ⟨rfl, rfl⟩
  · have hp := Lib.hid (pick_of v n (by omega))
    have hb : -n < v.tmod n ∧ v.tmod n < n := by
      have h1 := Int.tmod_eq_emod (a := v) (b := n)
      have h2 := Int.emod_nonneg v (b := n) (by omega)
      have h3 := Int.emod_lt_of_pos v (b := n) (by omega)
      split at h1 <;> omega
    by_cases hs : v.tmod n < 0
    · go_enter Try.func10, Try.ntmps10
      (repeat' ((fail_if_success at_builtin); first | go_values | go_skip | go_guarded | go_step | go_upon))
      go_ret
      exact ⟨by rw [hp.out, if_pos hs, ← IntWalk.wrap64_in (v.tmod n + n) (by omega)]; rfl, rfl⟩
    · go_enter Try.func10, Try.ntmps10
      (repeat' ((fail_if_success at_builtin); first | go_values | go_skip | go_guarded | go_step | go_upon))
      go_ret
      exact ⟨by rw [hp.out, if_neg hs]; rfl, rfl⟩

/-- The marks that LentBytes lays behind a list. -/
def marks : List UInt8 := [201, 208, 215, 222, 229]

set_option maxHeartbeats 400000 in
theorem spoilBytes (base n c : Nat) (a : Option Addr) (xs : List Value) (w : World) (h : w.ownsRow base 5 1 (.slice a n c) n xs) (hn : n ≤ 1073741824) :
    Calls Try.prog 25 #[.slice a n c] w fun e w' => e = .returned (.tuple #[]) ∧ w.grownBy w' (Value.slice a n c).ownBlock := by
  go_enter Try.func25, Try.ntmps25
  (repeat' ((fail_if_success at_builtin); first | go_values | go_skip | go_guarded | go_step | go_upon))
  go_loopw [2] (fun i wr => ∃ (k : Nat) (ys : List Value), k ≤ n ∧ i = .int .i64 k ∧ w.grownBy wr (Value.slice a n c).ownBlock ∧ wr.ownsRow base 5 1 (.slice a n c) n ys) (fun i _ => n - (intOf i).toNat)
  case atStart => exact ⟨0, xs, Nat.zero_le _, rfl, World.grownBy.refl _ _, h⟩
  case round =>
    obtain ⟨k, ys, hk, rfl, hg, hO⟩ := hrel
    by_cases hlt : k < n
    · obtain ⟨b, off, rfl, hb⟩ := (rdc_of_owns hO).lt (by have := hO.1; omega)
      have hoff : off = 0 := by
        rcases hO.2 with ⟨e, _⟩ | ⟨_, _, _, e, _⟩
        · cases e
        · cases e; rfl
      subst hoff
      have hc1 := hO.cellAt k (by omega)
      have hf1 := hO.frozenAt k
      have hst := fun u => hO.stored k u
      rw [List.getElem?_eq_getElem (by have := hO.1; omega)] at hc1
      have HS := Lib.hid hst; clear hst
      (repeat' ((fail_if_success at_builtin); first | go_values | go_skip | go_guarded | go_step | go_upon))
      refine (markBytes ((k : Int) + 7) wr (by omega) (by omega)).mono ?_
      rintro _ w' ⟨rfl, rfl⟩
      dsimp only
      (repeat' ((fail_if_success at_builtin); first | go_values | go_skip | go_guarded | go_step | go_upon))
      go_roundw
      case rel =>
        have h1 := HS.out (Value.int IntKind.u8 ((201 + 7 * (k + 7)) % 256))
        exact ⟨k + 1, _, by omega, by go_num, hg.trans h1.2, h1.1⟩
      case measure => simp [intOf]; omega
    · (repeat' ((fail_if_success at_builtin); first | go_values | go_skip | go_guarded | go_step | go_upon))
      go_end0
      exact ⟨rfl, hg⟩

end Go.Proofs.Ythgaghpakioglaa
