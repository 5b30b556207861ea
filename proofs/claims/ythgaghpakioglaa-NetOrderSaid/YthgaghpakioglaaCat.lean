/- What slices.Grow answers of nothing; slices.Concat of two. -/
import Derived.Test.YthgaghpakioglaaApp0P
namespace Go.Proofs.Ythgaghpakioglaa
set_option linter.unusedSimpArgs false
set_option linter.unusedVariables false
open Go.RowKit
set_option maxRecDepth 10000
--@PUT2

theorem run_slice_toS {P : Program} (t e : TypeId) (size : Nat) (hu : P.underlying t = some (.slice e)) (hsz : (P.info? e).map (·.size) = some size) (a : Option Addr) (n c q : Nat) (hq : q ≤ c) (w : World) :
    (Instr.slice t (.slice a n c) none (some (.int .i64 (q : Int))) none).run P w = .ok (.slice a q c) w := by
  cases hi : P.info? e with
  | none => simp [hi] at hsz
  | some z =>
    have hz : z.size = size := by simpa [hi] using hsz
    have h1 : (0 : Int) ≤ (q : Int) ∧ (q : Int) ≤ (c : Int) := by omega
    have h0 : ∀ x : Addr, x.add 0 = x := fun x => by cases x; rename_i b o s; cases s <;> simp [Addr.add]
    have h2 : a.map (fun x => x.add 0) = a := by cases a <;> simp [h0]
    simp [Instr.slice, Instr.sliceBounds, Instr.sliceBound, asIntOf, run_underlying hu, sizeOf, typeInfo, hi, hz, hq, h0, h2]

theorem owns_zero {w : World} {base e n c : Nat} {a : Option Addr} {xs : List Value} (h : w.ownsRow base e 1 (.slice a n c) n xs) : w.ownsRow base e 1 (.slice a 0 c) 0 [] := by
  refine ⟨rfl, ?_⟩
  rcases h.2 with ⟨h1, _⟩ | ⟨g, cap, cur, h1, h2, h3, h4, h5, h6, h7⟩
  · cases h1; exact .inl ⟨rfl, rfl⟩
  · cases h1; exact .inr ⟨g, c, cur, rfl, h2, h3, Nat.zero_le _, h5, h6, by simp⟩
theorem byteSize : (Try.prog.info? 5).map (·.size) = some 1 := by kernel_rfl

theorem wpList_app0O {w : World} {ops : Array Oper} {rest : List Oper} {o : Oper} {a : Act} {Q : Exit → Act → World → Prop} (hgd : o.guard = none) (s x : Operand)
    (ho : o.op = .call { callee := .builtin .append, args := #[s, x], argTypes := #[51, 3] })
    (base : Nat) (v : Value) (n : Nat) (l : List UInt8) (hsv : a.eval s = v) (hown : w.ownsRow base 5 1 v n (bvs l)) (m : Nat) (hxv : a.eval x = .int .i64 (m : Int)) (hb : n + m ≤ 100000) (hbase : base ≤ w.heap.size)
    (h : ∀ a' c' w', n + m ≤ c' → w'.ownsRow base 5 1 (.slice a' (n + m) c') (n + m) (bvs (l ++ List.replicate m 0)) → w.grownBy w' v.ownBlock → wpList Try.prog ops Q rest (a.put o.dst (.slice a' (n + m) c')) w') :
    wpList Try.prog ops Q (o :: rest) a w := by
  obtain ⟨v', w', hr, h2, h3⟩ := run_app0 (P := Try.prog) w base 51 3 o.type 5 Try.underlying51 Try.underlying3 u8Info v n l hown m hb hbase
  refine wpList_plain hgd fun K hK => ?_
  unfold Oper.wp execOp
  simp only [ho, resolve, invoke, builtin, Sem.run_bind, Sem.run_pure, Result.andThen_ok, List.map_toArray, List.map_cons, List.map_nil, hsv, hxv, hr]
  obtain ⟨a', c', rfl, hc, _, _⟩ := owns_slice h2
  exact hK _ _ (h a' c' w' hc h2 h3)

set_option maxHeartbeats 1000000 in
theorem growNil (n : Nat) (w : World) (hn : n ≤ 100000) :
    Calls Try.prog 75 #[.slice none 0 0, .int .i64 n] w fun e w' => ∃ a c, e = .returned (.slice a 0 c) ∧ w'.ownsRow w.heap.size 5 1 (.slice a 0 c) 0 [] ∧ Below w.heap.size w w' := by
  by_cases h0 : n = 0
  · subst h0
    go_enter Try.func75, Try.ntmps75
    (repeat' ((fail_if_success at_builtin); first | go_values | go_skip | go_guarded | go_step | go_upon))
    go_ret
    exact ⟨none, 0, rfl, World.ownsRow_nil _ _ _ _, Below.refl _ _⟩
  · have t0 : decide ((0 : Int) < (n : Int)) = true := by simp; omega
    have hpos : (0 : Int) < (n : Int) := by omega
    go_enter Try.func75, Try.ntmps75
    (repeat' ((fail_if_success at_builtin); first | go_values | go_skip | go_guarded | go_step | go_upon))
    refine wpList_app0O rfl _ _ rfl w.heap.size _ 0 [] rfl (World.ownsRow_nil _ _ _ _) n rfl (by omega) (Nat.le_refl _) ?_
    intro a2 c2 w2 hc2 hO2 hg2
    have hsl : ∀ w, (Instr.slice 51 (.slice a2 (0 + n) c2) none (some (.int .i64 0)) none).run Try.prog w = .ok (.slice a2 0 c2) w := fun w => run_slice_toS (P := Try.prog) 51 5 1 Try.underlying51 byteSize a2 (0 + n) c2 0 (Nat.zero_le _) w
    have HO := Lib.hid (owns_zero hO2)
    have hB : Below w.heap.size w w2 := (Below.refl _ _).grown hg2 (Nat.le_refl _) (fun k e => by cases e)
    clear hO2 hg2
    rw [Nat.zero_add] at hsl ⊢
    (repeat' ((fail_if_success at_builtin); first | go_values | go_skip | go_guarded | go_step | go_upon))
    go_ret
    exact ⟨a2, c2, rfl, HO.out, hB⟩

theorem cell_below {w w' : World} {B : Nat} {p : Addr} {v : Value} (hb : Below B w w') (h : w.cell? p = some v) (hB : w.heap.size ≤ B) : w'.cell? p = some v := by
  rw [hb.cell (Nat.lt_of_lt_of_le (World.block_lt_of_cell? w _ h) hB)]
  exact h
def szs (nx ny : Nat) : Nat → Nat
  | 0 => 0
  | 1 => nx
  | _ => nx + ny
def cats (X Y : List UInt8) : Nat → List UInt8
  | 0 => []
  | 1 => X
  | _ => X ++ Y

set_option maxHeartbeats 2000000 in
theorem concat2 (z : Nat) (ax ay : Option Addr) (nx cx ny cy : Nat) (X Y : List UInt8) (w : World) (hg : w.heap[z]? = some (.cells #[.slice ax nx cx, .slice ay ny cy] 51 (0, 0))) (hx : RdB w ax X) (hy : RdB w ay Y) (ex : X.length = nx) (ey : Y.length = ny) (hn : nx + ny ≤ 100000) :
    Calls Try.prog 71 #[.slice (some ⟨z, 0, none⟩) 2 2] w (GotB w (nx + ny) (X ++ Y)) := by
  have q0 : w.cell? ⟨z, 0, none⟩ = some (.slice ax nx cx) := cell_of_row w z 0 _ _ _ hg
  have q1 : w.cell? ⟨z, 1, none⟩ = some (.slice ay ny cy) := cell_of_row w z 1 _ _ _ hg
  have Q0 := Lib.hid q0
  have Q1 := Lib.hid q1
  have HX := Lib.hid hx
  have HY := Lib.hid hy
  clear hx hy hg
  go_enter Try.func71, Try.ntmps71
  (repeat' ((fail_if_success at_builtin); first | go_values | go_skip | go_guarded | go_step | go_upon))
  go_loopw [3, 11] (fun s i wr => ∃ k : Nat, k ≤ 2 ∧ i = .int .i64 k ∧ s = .int .i64 (szs nx ny k) ∧ wr = w) (fun _ i _ => 2 - (intOf i).toNat)
  case atStart => exact ⟨0, by omega, rfl, rfl, rfl⟩
  case round =>
    obtain ⟨k, hk, rfl, rfl, hw⟩ := hrel
    obtain ⟨w', hw'⟩ : ∃ w', w' = w := ⟨_, rfl⟩
    rw [← hw'] at hw Q0 Q1 HX HY ⊢
    subst hw'
    subst hw
    have hc : k = 0 ∨ k = 1 ∨ k = 2 := by omega
    rcases hc with rfl | rfl | rfl
    · have p0 := Q0.out
      have u1 : decide ((nx : Int) < 0) = false := by simp
      have b1 : (nx : Int) ≤ 100000 := by omega
      rw [show szs nx ny 0 = 0 from rfl, show ((0 : Nat) : Int) = 0 from rfl]
      (repeat' ((fail_if_success at_builtin); first | go_values | go_skip | go_guarded | go_step | go_upon))
      go_roundw
      case rel => exact ⟨1, by omega, rfl, by first | rfl | (show _ = Value.int .i64 (nx : Int); simp), by trivial⟩
      case measure => simp [intOf]
    · have p1 := Q1.out
      have b1 : (0 : Int) ≤ (nx : Int) + (ny : Int) ∧ (nx : Int) + (ny : Int) ≤ 100000 := by omega
      have u1 : decide ((nx : Int) + (ny : Int) < 0) = false := by simp; omega
      rw [show szs nx ny 1 = nx from rfl, show ((1 : Nat) : Int) = 1 from rfl]
      (repeat' ((fail_if_success at_builtin); first | go_values | go_skip | go_guarded | go_step | go_upon))
      go_roundw
      case rel => exact ⟨2, by omega, rfl, by first | rfl | (show _ = Value.int .i64 ((nx + ny : Nat) : Int); simp), by trivial⟩
      case measure => simp [intOf]
    · generalize wr = w at *
      rw [show szs nx ny 2 = nx + ny from rfl, show ((2 : Nat) : Int) = 2 from rfl]
      obtain ⟨N, hN⟩ : ∃ N, nx + ny = N := ⟨_, rfl⟩
      rw [hN]
      have HNN := Lib.hid hN
      have hn2 : N ≤ 100000 := by omega
      clear hN
      (repeat' ((fail_if_success at_builtin); first | go_values | go_skip | go_guarded | go_step | go_upon))
      refine (growNil N _ hn2).mono ?_
      rintro _ w2 ⟨a2, c2, rfl, hO2, hB2⟩
      dsimp only
      have HO2 := Lib.hid hO2
      clear hO2
      (repeat' ((fail_if_success at_builtin); first | go_values | go_skip | go_guarded | go_step | go_upon))
      go_loopw [6, 27] (fun o i wr => ∃ k : Nat, k ≤ 2 ∧ i = .int .i64 k ∧ wr.ownsRow w.heap.size 5 1 o (szs nx ny k) (bvs (cats X Y k)) ∧ Below w.heap.size w wr) (fun _ i _ => 2 - (intOf i).toNat)
      case atStart => exact ⟨0, by omega, rfl, HO2.out, hB2⟩
      case round =>
        obtain ⟨k, hk, rfl, hO, hB⟩ := hrel
        obtain ⟨oa, oc, rfl, hoc, _, _⟩ := owns_slice hO
        have hc : k = 0 ∨ k = 1 ∨ k = 2 := by omega
        rcases hc with rfl | rfl | rfl
        · have p0 := cell_below hB Q0.out (Nat.le_refl _)
          have HO := Lib.hid hO
          have HXW := Lib.hid (HX.out.below hB (Nat.le_refl _))
          clear hO
          rw [show ((0 : Nat) : Int) = 0 from rfl]
          (repeat' ((fail_if_success at_builtin); first | go_values | go_skip | go_guarded | go_step | go_upon))
          refine app8 rfl _ _ rfl w.heap.size _ 0 [] rfl HO.out _ nx _ X rfl HXW.out ex (by omega) hB.size ?_
          intro a5 c5 w5 h51 h52 h53 h54
          have hB5 : Below w.heap.size w w5 := hB.grown h54 hB.size (fun g e => (HO.out.lt g e).1)
          have H53 := Lib.hid h53
          clear h52 h53 h54
          (repeat' ((fail_if_success at_builtin); first | go_values | go_skip | go_guarded | go_step | go_upon))
          go_roundw
          case rel => exact ⟨1, by omega, rfl, by have := H53.out; rwa [Nat.zero_add, List.nil_append] at this, hB5⟩
          case measure => simp [intOf]
        · have p1 := cell_below hB Q1.out (Nat.le_refl _)
          have HO := Lib.hid hO
          have HYW := Lib.hid (HY.out.below hB (Nat.le_refl _))
          clear hO
          rw [show ((1 : Nat) : Int) = 1 from rfl]
          (repeat' ((fail_if_success at_builtin); first | go_values | go_skip | go_guarded | go_step | go_upon))
          refine app8 rfl _ _ rfl w.heap.size _ nx X rfl HO.out _ ny _ Y rfl HYW.out ey (by omega) hB.size ?_
          intro a5 c5 w5 h51 h52 h53 h54
          have hB5 : Below w.heap.size w w5 := hB.grown h54 hB.size (fun g e => (HO.out.lt g e).1)
          have H53 := Lib.hid h53
          clear h52 h53 h54
          (repeat' ((fail_if_success at_builtin); first | go_values | go_skip | go_guarded | go_step | go_upon))
          go_roundw
          case rel => exact ⟨2, by omega, rfl, H53.out, hB5⟩
          case measure => simp [intOf]
        · rw [show ((2 : Nat) : Int) = 2 from rfl]
          have HO := Lib.hid hO
          clear hO
          (repeat' ((fail_if_success at_builtin); first | go_values | go_skip | go_guarded | go_step | go_upon))
          go_ret
          rw [← HNN.out]
          exact gotB hB HO.out

end Go.Proofs.Ythgaghpakioglaa
