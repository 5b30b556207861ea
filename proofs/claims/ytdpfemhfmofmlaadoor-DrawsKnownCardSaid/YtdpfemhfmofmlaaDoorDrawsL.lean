/- What package sealerylaw15 asks of each (works), and the law DrawsKeys, walked. -/
import Derived.Test.YtdpfemhfmofmlaaDoorDraws
import Derived.Test.YtdpfemhfmofmlaaDoorShaSums
namespace Go.Proofs.YtdpfemhfmofmlaaDoor
set_option linter.unusedSimpArgs false
set_option linter.unusedVariables false
open Go.RowKit
set_option maxRecDepth 10000

def annB : ByteArray := ⟨#[97, 110, 110]⟩
def bobB : ByteArray := ⟨#[98, 111, 98]⟩

theorem run_max3 {P : Program} (w : World) (ts : Array TypeId) (t : TypeId) (k k' k'' : IntKind) (x y z : Int) :
    (Builtin.max_ ts t #[.int k x, .int k' y, .int k'' z]).run P w = .ok (.int k (max (max x y) z)) w := by
  have e : (if z > (if y > x then y else x) then z else (if y > x then y else x)) = max (max x y) z := by
    rw [Int.max_def x y]
    split <;> split <;> rw [Int.max_def] <;> split <;> omega
  simp [Builtin.max_, Builtin.max2, e]

theorem eqKey (a b : List UInt8) (ha : a.length = 32) (hb : b.length = 32) (w : World) : (binOp .eql 52 (.agg (bvs a).toArray) (.agg (bvs b).toArray)).run Tryd.prog w = .ok (.bool (a == b)) w :=
  run_eql_bytes w 52 5 32 Tryd.underlying52 Tryd.underlying5 (fun w => by kernel_rfl) a b ha hb
theorem eqKeySame (D : List UInt8) (hD : D.length = 32) (w : World) : (binOp .eql 52 (.agg (bvs D).toArray) (.agg (bvs D).toArray)).run Tryd.prog w = .ok (.bool true) w := by
  rw [eqKey D D hD hD w]; simp

def ann7 : List UInt8 := [0, 0, 0, 0, 0, 0, 0, 3, 97, 110, 110, 0, 0, 0, 0, 0, 0, 0, 3, 98, 111, 98, 0, 0, 0, 0, 0, 0, 0, 7]
theorem ann7_eq : drawn annB bobB 7 = ann7 := by kernel_rfl
theorem ann7_cells : (bvs ann7).toArray = #[.int .u8 0, .int .u8 0, .int .u8 0, .int .u8 0, .int .u8 0, .int .u8 0, .int .u8 0, .int .u8 3, .int .u8 97, .int .u8 110, .int .u8 110, .int .u8 0, .int .u8 0, .int .u8 0, .int .u8 0, .int .u8 0, .int .u8 0, .int .u8 0, .int .u8 3, .int .u8 98, .int .u8 111, .int .u8 98, .int .u8 0, .int .u8 0, .int .u8 0, .int .u8 0, .int .u8 0, .int .u8 0, .int .u8 0, .int .u8 7] := by kernel_rfl

set_option maxHeartbeats 1000000 in
theorem works15 (w : World) (hT : Tabs w) :
    Calls Tryd.prog 46 #[] w fun e w' => e = .returned (.bool true) ∧ Below w.heap.size w w' := by
  have hts := hT.size
  have HT := Lib.hid hT; clear hT
  go_enter Tryd.func46, Tryd.ntmps46
  obtain ⟨H, hH⟩ : ∃ H, hmac [] ann7 = H := ⟨_, rfl⟩
  have hHl : H.length = 32 := by rw [← hH]; exact hmac_length _ _
  have heq := fun w => eqKeySame H hHl w
  have HH := Lib.hid hH; clear hH
  (repeat' ((fail_if_success at_builtin); first | go_values | go_skip | go_guarded | go_step | go_upon))
  rw [← ann7_cells]
  obtain ⟨w1, hw1⟩ : ∃ w1, w.alloc (.cells (bvs ann7).toArray 5) = w1 := ⟨_, rfl⟩
  have hB1 : Below w.heap.size w w1 := by rw [← hw1]; exact (Below.refl _ _).alloc (Nat.le_refl _) _
  have hr1 : RdB w1 (some ⟨w.heap.size, 0, none⟩) ann7 := by rw [← hw1]; exact rdb_newF w ann7 _ _
  have HR1 := Lib.hid hr1; clear hr1
  rw [hw1]
  clear hw1
  refine (drawsKey none 0 0 [] annB bobB 7 H w1 (by rw [ann7_eq]; exact HH.out) (HT.out.below hB1 hts) (RdC.nil _ _) rfl (Nat.le_refl _) (by decide) (by decide) (by decide) (by decide)).mono ?_
  rintro _ w2 ⟨rfl, hB2⟩
  dsimp only
  have hB02 : Below w.heap.size w w2 := hB1.trans (hB2.mono hB1.size)
  (repeat' ((fail_if_success at_builtin); first | go_values | go_skip | go_guarded | go_step | go_upon))
  refine (macOf none _ 0 30 0 30 [] ann7 H w2 HH.out (HT.out.below hB02 hts) (RdC.nil _ _) (HR1.out.below hB2 (Nat.le_refl _)) rfl rfl (Nat.le_refl _) (Nat.le_refl _) (by decide) (by decide)).mono ?_
  rintro _ w3 ⟨rfl, hB3⟩
  dsimp only
  (repeat' ((fail_if_success at_builtin); first | go_values | go_skip | go_guarded | go_step | go_upon))
  go_ret
  exact ⟨rfl, hB02.trans (hB3.mono hB02.size)⟩

set_option maxHeartbeats 2000000 in
theorem drawsKeys_walk (a : Option Addr) (n c : Nat) (l : List UInt8) (t s : ByteArray) (v : Int) (w : World) (hT : Tabs w) (h1 : RdB w a l) (e1 : l.length = n) (hc : n ≤ c) (hc2 : c ≤ 9223372036854775807)
    (hv : -9223372036854775808 ≤ v ∧ v ≤ 9223372036854775807) :
    Calls Tryd.prog 12 #[.slice a n c, .string t, .string s, .int .i64 v] w fun e w' => e = .returned (.bool true) ∧ Below w.heap.size w w' := by
  have hts := hT.size
  have HT := Lib.hid hT; clear hT
  have HR1 := Lib.hid h1; clear h1
  subst e1
  obtain ⟨M, hM⟩ : ∃ M, max (max (l.length : Int) (t.size : Int)) (s.size : Int) = M := ⟨_, rfl⟩
  have hmx := fun w => run_max3 (P := Tryd.prog) w #[3, 3, 3] 3 .i64 .i64 .i64 (l.length : Int) (t.size : Int) (s.size : Int)
  rw [hM] at hmx
  have hlen : (l.length : Int) ≤ 9223372036854775807 := by omega
  by_cases hbig : 2048 < M
  · have t1 : decide ((2048 : Int) < M) = true := by simp; omega
    go_enter Tryd.func12, Tryd.ntmps12
    (repeat' ((fail_if_success at_builtin); first | go_values | go_skip | go_guarded | go_step | go_upon))
    refine (works15 w HT.out).mono ?_
    rintro _ w1 ⟨rfl, hB1⟩
    dsimp only
    (repeat' ((fail_if_success at_builtin); first | go_values | go_skip | go_guarded | go_step | go_upon))
    go_ret
    exact ⟨rfl, hB1⟩
  · have t1 : decide ((2048 : Int) < M) = false := by simp; omega
    have bl : l.length ≤ 2048 := by omega
    have bt : t.size ≤ 2048 := by omega
    have bs : s.size ≤ 2048 := by omega
    obtain ⟨H, hH⟩ : ∃ H, hmac l (drawn t s v) = H := ⟨_, rfl⟩
    have hHl : H.length = 32 := by rw [← hH]; exact hmac_length _ _
    have heq := fun w => eqKeySame H hHl w
    have HH := Lib.hid hH; clear hH
    have HM := Lib.hid hM; clear hM
    go_enter Tryd.func12, Tryd.ntmps12
    (repeat' ((fail_if_success at_builtin); first | go_values | go_skip | go_guarded | go_step | go_upon))
    refine (lentBytes a _ c l w HR1.out rfl (by omega)).mono ?_
    rintro _ w1 ⟨a1, c1, rfl, hc1, hr1, hB1, _⟩
    dsimp only
    have hc5 : (0 : Int) ≤ (l.length : Int) ∧ (l.length : Int) ≤ (c1 : Int) := by omega
    have HP1 := Lib.hid hr1; clear hr1
    (repeat' ((fail_if_success at_builtin); first | go_values | go_skip | go_guarded | go_step | go_upon))
    refine (drawsKey a1 l.length c1 l t s v H w1 HH.out (HT.out.below hB1 hts) HP1.out.left rfl (by omega) (by omega) (by omega) (by omega) hv).mono ?_
    rintro _ w2 ⟨rfl, hB2⟩
    dsimp only
    have hB02 : Below w.heap.size w w2 := hB1.trans (hB2.mono hB1.size)
    (repeat' ((fail_if_success at_builtin); first | go_values | go_skip | go_guarded | go_step | go_upon))
    refine (refKey15 a l.length c l t s v H w2 HH.out (HR1.out.below hB02 (Nat.le_refl _)) rfl (by omega) (by omega) (by omega) hv).mono ?_
    rintro _ w3 ⟨rfl, hB3⟩
    dsimp only
    have hB03 : Below w.heap.size w w3 := hB02.trans (hB3.mono hB02.size)
    (repeat' ((fail_if_success at_builtin); first | go_values | go_skip | go_guarded | go_step | go_upon))
    refine (keptBytes a1 a l.length c1 c l w3 ((HP1.out.below hB2 (Nat.le_refl _)).below hB3 (Nat.le_refl _)) (HR1.out.below hB03 (Nat.le_refl _)) rfl hc1 (by omega)).mono ?_
    rintro _ w4 ⟨rfl, hB4⟩
    dsimp only
    have hB04 : Below w.heap.size w w4 := hB03.trans (hB4.mono hB03.size)
    (repeat' ((fail_if_success at_builtin); first | go_values | go_skip | go_guarded | go_step | go_upon))
    refine (works15 w4 (HT.out.below hB04 hts)).mono ?_
    rintro _ w5 ⟨rfl, hB5⟩
    dsimp only
    (repeat' ((fail_if_success at_builtin); first | go_values | go_skip | go_guarded | go_step | go_upon))
    go_ret
    exact ⟨rfl, hB04.trans (hB5.mono hB04.size)⟩

end Go.Proofs.YtdpfemhfmofmlaaDoor
