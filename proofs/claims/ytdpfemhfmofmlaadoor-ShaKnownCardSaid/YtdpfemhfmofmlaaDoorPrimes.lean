/- The first primes, and the roots of them, as package sealeryref01 makes them. -/
import Derived.Test.YtdpfemhfmofmlaaDoorRoots
namespace Go.Proofs.YtdpfemhfmofmlaaDoor
set_option linter.unusedSimpArgs false
set_option linter.unusedVariables false
open Go.RowKit
set_option maxRecDepth 10000

def uvs (l : List Nat) : List Value := l.map fun (n : Nat) => Value.int .u64 (n : Int)
theorem uvs_snoc (l : List Nat) (x : Nat) : uvs (l ++ [x]) = uvs l ++ [.int .u64 (x : Int)] := by simp [uvs]
theorem uvs_length (l : List Nat) : (uvs l).length = l.length := by simp [uvs]
theorem u64Info : (Tryd.prog.info? 105).map (fun i => (i.zero, i.size, i.bytes)) = some (some (.int .u64 0), 1, 8) := by kernel_rfl

/-- 'append(x, c)' of one number that was just laid, in a plain statement. -/
theorem app64 (w : World) (x : Nat) {ops : Array Oper} {rest : List Oper} {o : Oper} {a : Act} {Q : Exit → Act → World → Prop} (hgd : o.guard = none) (s y : Operand)
    (ho : o.op = .call { callee := .builtin .append, args := #[s, y], argTypes := #[112, 112] })
    (base : Nat) (v : Value) (n : Nat) (l : List Nat) (hsv : a.eval s = v) (hown : w.ownsRow base 105 1 v n (uvs l))
    (hxv : a.eval y = .slice (some ⟨w.heap.size, 0, none⟩) 1 1) (hb : n ≤ 2147483647) (hbase : base ≤ w.heap.size)
    (h : ∀ v' w', w'.ownsRow base 105 1 v' (n + 1) (uvs (l ++ [x])) → w.grownBy w' v.ownBlock → wpList Tryd.prog ops Q rest (a.put o.dst v') w') :
    wpList Tryd.prog ops Q (o :: rest) a (w.alloc (.cells #[.int .u64 (x : Int)] 105)) := by
  obtain ⟨i0, hi, hz0, hz1, hz2⟩ := info_parts u64Info
  have hc := cell_one_new w (Value.int .u64 (x : Int)) 105 0 _ rfl
  refine wpList_app _ hgd s y 112 112 ho base 105 i0 _ 1 8 Tryd.underlying112 hi hz0 hz1 hz2 rfl v n (uvs l) hsv (hown.alloc _) _ hxv 1 [.int .u64 (x : Int)] (Src.ofSlice _ Tryd.underlying112 _ 1 1 _ rfl (by intro j u hj; cases j with | zero => simp at hj; subst hj; exact hc | succ j => simp at hj) (by simp [Value.oneCell'])) (by unfold maxLen; omega) (by omega) (by simp; omega) ?_
  intro v' w' h1 h2
  rw [uvs_snoc] at h
  exact h v' w' h1 ((World.grownBy_alloc w _ _).trans h2)

def partsF (x : Nat) : Nat → Bool
  | 0 => false
  | k + 1 => partsF x k || x % (2 + k) == 0
/-- How many numbers from 2 on have a square of at most x. -/
def kx (x : Nat) : Nat := (List.range 20).countP fun j => decide ((2 + j) * (2 + j) ≤ x)
theorem kx_all : ∀ x, x < 400 → (∀ j, j < kx x → (2 + j) * (2 + j) ≤ x) ∧ x < (2 + kx x) * (2 + kx x) := by decide +kernel
theorem kx_of (x k : Nat) (hx : x < 400) (h1 : ∀ j, j < k → (2 + j) * (2 + j) ≤ x) (h2 : ¬ (2 + k) * (2 + k) ≤ x) : k = kx x := by
  obtain ⟨a, b⟩ := kx_all x hx
  rcases Nat.lt_trichotomy k (kx x) with h | h | h
  · exact absurd (a k h) h2
  · exact h
  · have := h1 (kx x) h; omega
def primesU : Nat → List Nat
  | 0 => []
  | x + 1 => if 2 ≤ x ∧ partsF x (kx x) = false then primesU x ++ [x] else primesU x

/-- Numbers in new memory are returned. -/
def GotU (w : World) (n : Nat) (l : List Nat) (e : Ending) (w' : World) : Prop :=
  ∃ a c, e = .returned (.slice a n c) ∧ n ≤ c ∧ RdC w' a (uvs l) ∧ Below w.heap.size w w'
theorem gotU {w w' : World} {n : Nat} {l : List Nat} {v : Value} (hB : Below w.heap.size w w') (hO : w'.ownsRow w.heap.size 105 1 v n (uvs l)) : GotU w n l (.returned v) w' := by
  obtain ⟨a, c, rfl, hc, _, _⟩ := owns_slice hO
  exact ⟨a, c, rfl, hc, rdc_of_owns hO, hB⟩

set_option maxHeartbeats 2000000 in
theorem refPrimes (n X : Nat) (w : World) (hX : (primesU X).length = n) (hlt : ∀ x, x < X → (primesU x).length < n) (hX2 : 2 ≤ X) (hX4 : X ≤ 399) (hn : n ≤ 1000) :
    Calls Tryd.prog 87 #[.int .i64 n] w (GotU w n (primesU X)) := by
  have HL := Lib.hid hlt; clear hlt
  have HX := Lib.hid hX; clear hX
  go_enter Tryd.func87, Tryd.ntmps87
  (repeat' ((fail_if_success at_builtin); first | go_values | go_skip | go_guarded | go_step | go_upon))
  go_loopw [3, 4] (fun o x wr => ∃ y m : Nat, 2 ≤ y ∧ y ≤ X ∧ x = .int .u64 (y : Int) ∧ m = (primesU y).length ∧ m ≤ n ∧ Below w.heap.size w wr ∧ wr.ownsRow w.heap.size 105 1 o m (uvs (primesU y))) (fun _ x _ => X - (intOf x).toNat)
  case atStart => exact ⟨2, 0, by omega, hX2, rfl, rfl, by omega, Below.refl _ _, by exact World.ownsRow_nil _ _ _ _⟩
  case round =>
    obtain ⟨y, m, hy2, hyX, rfl, hm, hmn, hB, hO⟩ := hrel
    obtain ⟨a1, c1, rfl, hc1, _, _⟩ := owns_slice hO
    have HM := Lib.hid hm; clear hm
    have HO := Lib.hid hO; clear hO
    by_cases hyl : y < X
    · have hmlt : m < n := by rw [HM.out]; exact HL.out y hyl
      have HP := Lib.hid (show primesU (y + 1) = if 2 ≤ y ∧ partsF y (kx y) = false then primesU y ++ [y] else primesU y from rfl)
      (repeat' ((fail_if_success at_builtin); first | go_values | go_skip | go_guarded | go_step | go_upon))
      go_loop [5, 6] (fun p d => ∃ k e : Nat, e = 2 + k ∧ e ≤ 401 ∧ d = .int .u64 (e : Int) ∧ p = .bool (partsF y k) ∧ ∀ j, j < k → (2 + j) * (2 + j) ≤ y) (fun _ d => 401 - (intOf d).toNat)
      case atStart => exact ⟨0, 2, rfl, by omega, rfl, rfl, fun j hj => absurd hj (by omega)⟩
      case round =>
        obtain ⟨k, e, he, he4, rfl, rfl, hall⟩ := hrel
        have HA := Lib.hid hall; clear hall
        have HE := Lib.hid he; clear he
        have h2e : 2 ≤ e := by have := HE.out; omega
        have HPF := Lib.hid (show partsF y (k + 1) = (partsF y k || y % (2 + k) == 0) from rfl)
        have hq1 : e * e ≤ 401 * 401 := Nat.mul_le_mul he4 he4
        have hqe : e ≤ e * e := Nat.le_mul_self e
        have e5 : IntKind.u64.wrap ((e : Int) * (e : Int)) = ((e * e : Nat) : Int) := by rw [m_mul, m_wrap _ (by omega)]
        have HQ := Lib.hid (show e * e = (2 + k) * (2 + k) by rw [HE.out])
        generalize e * e = q at *
        by_cases hqy : q ≤ y
        · have t1 : decide ((q : Int) ≤ (y : Int)) = true := by simp; omega
          have e6 : (y : Int) % (e : Int) = ((y % e : Nat) : Int) := (Int.natCast_emod y e).symm
          have hne : ((e : Int) == 0) = false := by simp; omega
          have hne2 : ¬ (e : Int) = 0 := by omega
          have HR := Lib.hid (show partsF y (k + 1) = (partsF y k || y % e == 0) by rw [HPF.out, HE.out])
          have e7 : IntKind.u64.wrap ((e : Int) + 1) = (e : Int) + 1 := by rw [IntKind.wrap_u64]; omega
          generalize y % e = r at *
          have hnext : ∀ j, j < k + 1 → (2 + j) * (2 + j) ≤ y := by
            intro j hj
            rcases Nat.lt_or_ge j k with h | h
            · exact HA.out j h
            · obtain rfl : j = k := by omega
              rw [← HQ.out]; exact hqy
          have HN := Lib.hid hnext; clear hnext
          cases hpf : partsF y k with
          | true =>
            have hr := HR.out
            rw [hpf, Bool.true_or] at hr
            have HR2 := Lib.hid hr; clear hr
            clear hpf
            (repeat' ((fail_if_success at_builtin); first | go_values | go_skip | go_guarded | go_step | go_upon))
            go_round
            case rel => exact ⟨k + 1, e + 1, by have := HE.out; omega, by omega, by simp, by rw [HR2.out], HN.out⟩
            case measure => show 401 - ((e : Int) + 1).toNat < 401 - ((e : Nat) : Int).toNat; omega
          | false =>
            have hr := HR.out
            rw [hpf, Bool.false_or] at hr
            have HR2 := Lib.hid hr; clear hr
            clear hpf
            by_cases hr0 : r = 0
            · subst hr0
              (repeat' ((fail_if_success at_builtin); first | go_values | go_skip | go_guarded | go_step | go_upon))
              go_round
              case rel => exact ⟨k + 1, e + 1, by have := HE.out; omega, by omega, by simp, by rw [HR2.out]; rfl, HN.out⟩
              case measure => show 401 - ((e : Int) + 1).toNat < 401 - ((e : Nat) : Int).toNat; omega
            · have t2 : ((r : Int) == 0) = false := by simp; omega
              have t3 : (r == 0) = false := by simpa using hr0
              (repeat' ((fail_if_success at_builtin); first | go_values | go_skip | go_guarded | go_step | go_upon))
              go_round
              case rel => exact ⟨k + 1, e + 1, by have := HE.out; omega, by omega, by simp, by rw [HR2.out, t3], HN.out⟩
              case measure => show 401 - ((e : Int) + 1).toNat < 401 - ((e : Nat) : Int).toNat; omega
        · have t1 : decide ((q : Int) ≤ (y : Int)) = false := by simp; omega
          have hk : k = kx y := kx_of y k (by omega) HA.out (by rw [← HQ.out]; exact hqy)
          have e8 : IntKind.u64.wrap ((y : Int) + 1) = (y : Int) + 1 := by rw [IntKind.wrap_u64]; omega
          have HK := Lib.hid hk; clear hk
          cases hpf : partsF y k with
          | true =>
            have hp := HP.out
            rw [← HK.out, hpf, if_neg (by rintro ⟨_, h⟩; cases h)] at hp
            have HP2 := Lib.hid hp; clear hp
            clear hpf
            (repeat' ((fail_if_success at_builtin); first | go_values | go_skip | go_guarded | go_step | go_upon))
            go_roundw
            case rel => exact ⟨y + 1, m, by omega, by omega, by simp, by rw [HP2.out]; exact HM.out, hmn, hB, by rw [HP2.out]; exact HO.out⟩
            case measure => show X - ((y : Int) + 1).toNat < X - ((y : Nat) : Int).toNat; omega
          | false =>
            have hp := HP.out
            rw [← HK.out, hpf, if_pos ⟨hy2, rfl⟩] at hp
            have HP2 := Lib.hid hp; clear hp
            clear hpf
            (repeat' ((fail_if_success at_builtin); first | go_values | go_skip | go_guarded | go_step | go_upon))
            refine app64 wr y rfl _ _ rfl w.heap.size _ _ _ rfl HO.out rfl (by omega) hB.size ?_
            intro v2 w2 hO2 hg2
            have hB2 : Below w.heap.size w w2 := hB.grown hg2 hB.size (fun g e => (HO.out.lt g e).1)
            rw [← HP2.out] at hO2
            (repeat' ((fail_if_success at_builtin); first | go_values | go_skip | go_guarded | go_step | go_upon))
            go_roundw
            case rel => exact ⟨y + 1, m + 1, by omega, by omega, by simp, by rw [HP2.out, List.length_append, ← HM.out]; rfl, by omega, hB2, hO2⟩
            case measure => show X - ((y : Int) + 1).toNat < X - ((y : Nat) : Int).toNat; omega
    · obtain rfl : y = X := by omega
      have hmn2 : m = n := by rw [HM.out]; exact HX.out
      subst hmn2
      (repeat' ((fail_if_success at_builtin); first | go_values | go_skip | go_guarded | go_step | go_upon))
      go_ret
      exact gotU hB HO.out

theorem primesU_lt (X : Nat) : ∀ p ∈ primesU X, p < X := by
  induction X with
  | zero => intro p hp; cases hp
  | succ x ih =>
    intro p hp
    unfold primesU at hp
    split at hp
    · rcases List.mem_append.1 hp with h | h
      · have := ih p h; omega
      · rw [List.mem_singleton.1 h]; omega
    · have := ih p hp; omega

set_option maxHeartbeats 2000000 in
theorem refRoots (n X : Nat) (pw : Int) (w : World) (hX : (primesU X).length = n) (hlt : ∀ x, x < X → (primesU x).length < n) (hX2 : 2 ≤ X) (hX4 : X ≤ 399) (hn : n ≤ 1000) :
    Calls Tryd.prog 33 #[.int .i64 n, .int .i64 pw] w (GotW w n ((primesU X).map fun p => rootF p (decide (pw = 2)))) := by
  have HP := Lib.hid (refPrimes n X w hX hlt hX2 hX4 hn)
  have HPL := Lib.hid (primesU_lt X)
  clear hlt
  generalize primesU X = L at *
  subst hX
  go_enter Tryd.func33, Tryd.ntmps33
  (repeat' ((fail_if_success at_builtin); first | go_values | go_skip | go_guarded | go_step | go_upon))
  refine HP.out.mono ?_
  rintro _ w1 ⟨a1, c1, rfl, hc1, hr1, hB1⟩
  dsimp only
  have HR1 := Lib.hid hr1; clear hr1
  (repeat' ((fail_if_success at_builtin); first | go_values | go_skip | go_guarded | go_step | go_upon))
  go_loopw [6, 7] (fun o i wr => ∃ k : Nat, k ≤ L.length ∧ i = .int .i64 k ∧ Below w1.heap.size w1 wr ∧ wr.ownsRow w1.heap.size 41 1 o k (wvs ((L.map fun p => rootF p (decide (pw = 2))).take k))) (fun _ i _ => L.length - (intOf i).toNat)
  case atStart => exact ⟨0, by omega, rfl, Below.refl _ _, by exact World.ownsRow_nil _ _ _ _⟩
  case round =>
    obtain ⟨k, hk, rfl, hB, hO⟩ := hrel
    have HO := Lib.hid hO; clear hO
    by_cases hkl : k < L.length
    · obtain ⟨b, off, rfl, _⟩ := HR1.out.lt (by rw [uvs_length]; omega)
      have hc0 := (HR1.out.below hB (Nat.le_refl _)).cell k (by rw [uvs_length]; exact hkl)
      have hge : (uvs L)[k]'(by rw [uvs_length]; exact hkl) = .int .u64 (L[k] : Int) := by simp [uvs]
      rw [hge] at hc0
      clear hge
      have hpx := HPL.out L[k] (List.getElem_mem hkl)
      have hstep : (L.map fun p => rootF p (decide (pw = 2))).take k ++ [rootF L[k] (decide (pw = 2))] = (L.map fun p => rootF p (decide (pw = 2))).take (k + 1) := by
        have hkm : k < (L.map fun p => rootF p (decide (pw = 2))).length := by rw [List.length_map]; exact hkl
        rw [List.take_succ_eq_append_getElem hkm, List.getElem_map]
      have HST := Lib.hid hstep; clear hstep
      have bk : (0 : Int) ≤ (k : Int) ∧ (k : Int) < (L.length : Int) := by omega
      have HRT := Lib.hid (fun w => refRoot L[k] pw w (by omega))
      generalize L[k] = p at *
      generalize rootF p (decide (pw = 2)) = x at *
      generalize (L.map fun p => rootF p (decide (pw = 2))).take k = M at *
      (repeat' ((fail_if_success at_builtin); first | go_values | go_skip | go_guarded | go_step | go_upon))
      refine (HRT.out wr).mono ?_
      rintro _ _ ⟨rfl, rfl⟩
      dsimp only
      (repeat' ((fail_if_success at_builtin); first | go_values | go_skip | go_guarded | go_step | go_upon))
      refine app32 wr _ x rfl _ _ rfl w1.heap.size _ _ _ rfl HO.out ⟨rfl, fun B => Below.refl B _⟩ rfl (by omega) hB.size ?_
      intro v2 w2 hO2 hg2
      have hB2 : Below w1.heap.size w1 w2 := hB.grown hg2 hB.size (fun g e => (HO.out.lt g e).1)
      rw [HST.out] at hO2
      (repeat' ((fail_if_success at_builtin); first | go_values | go_skip | go_guarded | go_step | go_upon))
      go_roundw
      case rel => exact ⟨k + 1, by omega, by go_num, hB2, hO2⟩
      case measure => simp [intOf]; omega
    · obtain rfl : k = L.length := by omega
      (repeat' ((fail_if_success at_builtin); first | go_values | go_skip | go_guarded | go_step | go_upon))
      go_ret
      have hO := HO.out
      rw [List.take_of_length_le (by rw [List.length_map]; omega)] at hO
      have h := gotW hB hO
      obtain ⟨a, c, e1, h2, h3, h4, h5⟩ := h
      exact ⟨a, c, e1, h2, h3, hB1.trans (h4.mono hB1.size), owns_mono h5 hB1.size⟩

end Go.Proofs.YtdpfemhfmofmlaaDoor
