/- Rows that are told (audit.Log.Rows). -/
import Derived.Test.YtdpfemhfmofmlaaDoorLogC
namespace Go.Proofs.YtdpfemhfmofmlaaDoor
set_option linter.unusedSimpArgs false
set_option linter.unusedVariables false
open Go.RowKit
set_option maxRecDepth 10000

/-- Rows in new memory. -/
def GotE (w : World) (xs : List Ent) (e : Ending) (w' : World) : Prop :=
  ∃ a c, e = .returned (.slice a xs.length c) ∧ xs.length ≤ c ∧ c ≤ 9223372036854775807 ∧ RdC w' a (xs.flatMap Ent.cells) ∧ Below w.heap.size w w' ∧ w'.ownsRow w.heap.size 73 39 (.slice a xs.length c) xs.length (xs.flatMap Ent.cells)
theorem gotE {w w' : World} {xs : List Ent} {v : Value} (hB : Below w.heap.size w w') (hO : w'.ownsRow w.heap.size 73 39 v xs.length (xs.flatMap Ent.cells)) : GotE w xs (.returned v) w' := by
  obtain ⟨a, c, rfl, hc, hm, _⟩ := owns_slice hO
  exact ⟨a, c, rfl, hc, by unfold maxLen at hm; omega, rdc_of_owns hO, hB, hO⟩
theorem ents_oneCell (xs : List Ent) : ∀ u ∈ xs.flatMap Ent.cells, u.oneCell' = true := by
  intro u hu
  obtain ⟨x, _, h⟩ := List.mem_flatMap.1 hu
  exact Ent.cells_oneCell x u h

theorem run_slice_fromS {P : Program} (t e : TypeId) (size : Nat) (hu : P.underlying t = some (.slice e)) (hsz : (P.info? e).map (·.size) = some size) (a : Option Addr) (n c q : Nat) (hq : q ≤ n) (w : World) :
    (Instr.slice t (.slice a n c) (some (.int .i64 (q : Int))) none none).run P w = .ok (.slice (if c = q then a else a.map (·.add (q * size))) (n - q) (c - q)) w := by
  cases hi : P.info? e with
  | none => simp [hi] at hsz
  | some z =>
    have hz : z.size = size := by simpa [hi] using hsz
    have h1 : (0 : Int) ≤ (q : Int) ∧ (q : Int) ≤ (n : Int) := by omega
    simp [Instr.slice, Instr.sliceBounds, Instr.sliceBound, asIntOf, run_underlying hu, sizeOf, typeInfo, hi, hz, hq]

/-- '[]T{}'. -/
theorem wpList_build0 {P : Program} {ops : Array Oper} {rest : List Oper} {o : Oper} {a : Act} {w : World} {Q : Exit → Act → World → Prop} (hgd : o.guard = none) (t e : TypeId) (ho : o.op = .buildSlice t 0 #[])
    (hb : ∀ w, (Instr.buildSlice t 0 #[]).run P w = .ok (.slice (some ⟨w.heap.size, 0, none⟩) 0 0) (w.alloc (.cells #[] e))) (h : wpList P ops Q rest (a.put o.dst (.slice (some ⟨w.heap.size, 0, none⟩) 0 0)) (w.alloc (.cells #[] e))) : wpList P ops Q (o :: rest) a w := by
  refine wpList_plain hgd fun K hK => ?_
  unfold Oper.wp execOp
  simp only [ho, List.map_toArray, List.map_nil, Sem.run_bind, hb, Result.andThen_ok, Sem.run_pure]
  rw [Oper.upon_value]
  exact hK _ _ h
set_option maxHeartbeats 400000 in
theorem chainClone (a : Option Addr) (n c : Nat) (xs : List Ent) (w : World) (ha : RdC w a (xs.flatMap Ent.cells)) (hok : ∀ x ∈ xs, x.Ok) (en : xs.length = n) (hn : n ≤ 1000000) :
    Calls Tryd.prog 103 #[.slice a n c] w (GotE w xs) := by
  obtain ⟨iE, zE, hiE, hzE, hsE, hbE, hcE⟩ := entInfo_parts
  have hxl := ents_length xs (fun x hx => (hok x hx).sum)
  subst en
  cases a with
  | none =>
    obtain rfl : xs = [] := by
      rcases Nat.eq_zero_or_pos xs.length with h | h
      · exact List.eq_nil_of_length_eq_zero h
      · obtain ⟨_, _, e, _⟩ := ha.lt (by rw [hxl]; omega); cases e
    have hq := fun w => Lib.run_eql_slice_nil (P := Tryd.prog) w 133 73 none 0 c 0 0 Tryd.underlying133
    clear hok hxl
    go_enter Tryd.func103, Tryd.ntmps103
    (repeat' ((fail_if_success at_builtin); first | go_values | go_skip | go_guarded | go_step | go_upon))
    go_ret
    exact gotE (Below.refl _ _) (World.ownsRow_nil _ _ _ _)
  | some ad =>
    have hq := fun w => Lib.run_eql_slice_nil (P := Tryd.prog) w 133 73 (some ad) xs.length c 0 0 Tryd.underlying133
    have HXL := Lib.hid hxl; clear hxl
    have HIE := Lib.hid hiE; clear hiE
    have HZE := Lib.hid hzE; clear hzE
    have HCE := Lib.hid hcE; clear hcE
    have HOK := Lib.hid hok; clear hok
    have HA := Lib.hid ha; clear ha
    go_enter Tryd.func103, Tryd.ntmps103
    have hb0 : ∀ w, (Instr.buildSlice 133 0 #[]).run Tryd.prog w = .ok (.slice (some ⟨w.heap.size, 0, none⟩) 0 0) (w.alloc (.cells #[] 73)) := fun w => by kernel_rfl
    (repeat' ((fail_if_success at_builtin); first | go_values | go_skip | go_guarded | go_step | go_upon))
    have hra : RdC (w.alloc (.cells #[] 73)) (some ad) (xs.flatMap Ent.cells) := HA.out.alloc _
    refine wpList_app _ rfl _ _ _ _ rfl w.heap.size 73 iE _ 39 104 Tryd.underlying133 HIE.out HZE.out hsE hbE (by rw [HCE.out]; rfl) _ _ _ rfl (World.ownsRow_lit (base := w.heap.size) (size := 39) w #[] 0 (Nat.le_refl _) (by decide) rfl) _ rfl xs.length (xs.flatMap Ent.cells) (src_of_rdc Tryd.underlying133 hra HXL.out (ents_oneCell xs)) (by unfold maxLen; omega) (by omega) (by simp) ?_
    intro v1 w1 hO1 hg1
    have hB1 : Below w.heap.size w w1 := ((Below.refl _ _).alloc (Nat.le_refl _) _).grown hg1 (by simp) (fun g e => by cases e; exact Nat.le_refl _)
    have hO2 : w1.ownsRow w.heap.size 73 39 v1 xs.length (xs.flatMap Ent.cells) := by simpa using hO1
    have HO2 := Lib.hid hO2
    clear hO1 hO2 hra
    (repeat' ((fail_if_success at_builtin); first | go_values | go_skip | go_guarded | go_step | go_upon))
    go_ret
    exact gotE hB1 HO2.out

/-- Which rows are told. -/
def toldLo (n : Nat) (from_ : Int) : Nat := (min (max from_ 1 - 1) (n : Int)).toNat
def toldN (n : Nat) (from_ many : Int) : Nat := (min (min (max many 0) 64) ((n - toldLo n from_ : Nat) : Int)).toNat
def told (xs : List Ent) (from_ many : Int) : List Ent := (xs.drop (toldLo xs.length from_)).take (toldN xs.length from_ many)
theorem told_mem {xs : List Ent} {f m : Int} {x : Ent} (h : x ∈ told xs f m) : x ∈ xs := List.mem_of_mem_drop (List.mem_of_mem_take h)
theorem told_length (xs : List Ent) (f m : Int) : (told xs f m).length = toldN xs.length f m := by
  unfold told
  rw [List.length_take, List.length_drop]
  unfold toldN
  omega
theorem ents_drop (xs : List Ent) (k : Nat) (h : ∀ x ∈ xs, x.sum.length = 32) : (xs.drop k).flatMap Ent.cells = (xs.flatMap Ent.cells).drop (k * 39) := by
  induction k generalizing xs with
  | zero => simp
  | succ k ih =>
    cases xs with
    | nil => simp
    | cons x xs =>
      rw [List.drop_succ_cons, ih xs (fun y hy => h y (List.mem_cons_of_mem _ hy)), List.flatMap_cons, List.drop_append, List.drop_of_length_le (l := x.cells) (by rw [Ent.cells_length (h x List.mem_cons_self)]; omega), Ent.cells_length (h x List.mem_cons_self), List.nil_append]
      congr 1
      omega
theorem ents_take (xs : List Ent) (k : Nat) (h : ∀ x ∈ xs, x.sum.length = 32) : (xs.take k).flatMap Ent.cells = (xs.flatMap Ent.cells).take (k * 39) := by
  induction k generalizing xs with
  | zero => simp
  | succ k ih =>
    cases xs with
    | nil => simp
    | cons x xs =>
      rw [List.take_succ_cons, List.flatMap_cons, List.flatMap_cons, ih xs (fun y hy => h y (List.mem_cons_of_mem _ hy)), List.take_append, List.take_of_length_le (l := x.cells) (by rw [Ent.cells_length (h x List.mem_cons_self)]; omega), Ent.cells_length (h x List.mem_cons_self)]
      congr 2
      omega

theorem run_min2 {P : Program} (w : World) (ts : Array TypeId) (t : TypeId) (k k' : IntKind) (x y : Int) :
    (Builtin.min_ ts t #[.int k x, .int k' y]).run P w = .ok (.int k (min x y)) w := by
  have e : (if y < x then y else x) = min x y := by
    rw [Int.min_def x y]; split <;> split <;> omega
  simp [Builtin.min_, Builtin.min2, e]
theorem run_max2 {P : Program} (w : World) (ts : Array TypeId) (t : TypeId) (k k' : IntKind) (x y : Int) :
    (Builtin.max_ ts t #[.int k x, .int k' y]).run P w = .ok (.int k (max x y)) w := by
  have e : (if y > x then y else x) = max x y := by
    rw [Int.max_def x y]; split <;> split <;> omega
  simp [Builtin.max_, Builtin.max2, e]
theorem run_min3 {P : Program} (w : World) (ts : Array TypeId) (t : TypeId) (k k' k'' : IntKind) (x y z : Int) :
    (Builtin.min_ ts t #[.int k x, .int k' y, .int k'' z]).run P w = .ok (.int k (min (min x y) z)) w := by
  have e : (if z < (if y < x then y else x) then z else (if y < x then y else x)) = min (min x y) z := by
    rw [Int.min_def x y]
    split <;> split <;> rw [Int.min_def] <;> split <;> omega
  simp [Builtin.min_, Builtin.min2, e]

set_option maxHeartbeats 1000000 in
theorem auditRows (S : Nat → Prop) (g cnt : Nat) (f : ByteArray → List Ent) (s : ByteArray) (fr many : Int) (w : World) (h : LogAt w S g cnt f) (hs : s.size ≤ maxLen) (hc : cnt ≤ 100000) (hfr : I64 fr) (hmany : I64 many) :
    Calls Tryd.prog 76 #[.pointer (some ⟨g, 0, none⟩), .string s, .int .i64 fr, .int .i64 many] w (GotE w (told (f s) fr many)) := by
  have hok : ∀ x ∈ f s, x.Ok := fun x hx => (h.rows s x hx).ok
  obtain ⟨b, a, c, hg, hl, hr, hc1, hc2⟩ := h.chain s hs
  have hlen := h.len s
  obtain ⟨xs, hxs⟩ : ∃ xs, f s = xs := ⟨_, rfl⟩
  rw [hxs] at hl hr hc1 hok hlen
  rw [hxs]
  clear hxs h
  have c0 : w.cell? ⟨g, 0, none⟩ = some (.map (some b)) := cell_of_row w g 0 _ _ _ hg
  have hlk := hl w (Below.refl _ _)
  have HOK := Lib.hid hok; clear hok
  obtain ⟨lo, hlo⟩ : ∃ lo, toldLo xs.length fr = lo := ⟨_, rfl⟩
  obtain ⟨k, hk⟩ : ∃ k, toldN xs.length fr many = k := ⟨_, rfl⟩
  have hlo1 : lo ≤ xs.length := by rw [← hlo]; unfold toldLo; omega
  have hlo2 : min (max fr 1 - 1) (xs.length : Int) = (lo : Int) := by rw [← hlo]; unfold toldLo; omega
  have hk1 : k ≤ xs.length - lo := by rw [← hk, ← hlo]; unfold toldN; omega
  have hk2 : min (min (max many 0) 64) ((xs.length - lo : Nat) : Int) = (k : Int) := by rw [← hk, ← hlo]; unfold toldN; omega
  have htl : told xs fr many = (xs.drop lo).take k := by unfold told; rw [hlo, hk]
  have hmax1 := fun w => run_max2 (P := Tryd.prog) w #[3, 3] 3 .i64 .i64 fr 1
  have hb1 := hfr.1
  have hb2 := hfr.2
  have hsub : IntKind.i64.wrap (max fr 1 - 1) = max fr 1 - 1 := IntWalk.i64_in _ (by omega)
  obtain ⟨mx, hmx⟩ : ∃ mx, max fr 1 - 1 = mx := ⟨_, rfl⟩
  rw [hmx] at hlo2
  have hmin2 := fun w => run_min2 (P := Tryd.prog) w #[3, 3] 3 .i64 .i64 mx (xs.length : Int)
  rw [hlo2] at hmin2
  have hmax2 := fun w => run_max2 (P := Tryd.prog) w #[3, 3] 3 .i64 .i64 many 0
  have hmin3 := fun w => run_min3 (P := Tryd.prog) w #[3, 3, 3] 3 .i64 .i64 .i64 (max many 0) 64 ((xs.length - lo : Nat) : Int)
  rw [hk2] at hmin3
  rw [htl]
  have HTL := Lib.hid htl
  clear htl hlo2 hk2 hlo hk hl hg
  obtain ⟨a2, ha2⟩ : ∃ a2, (if c = lo then a else a.map (·.add (lo * 39))) = a2 := ⟨_, rfl⟩
  have hsl := fun w => run_slice_fromS (P := Tryd.prog) 133 73 39 Tryd.underlying133 entSize a xs.length c lo hlo1 w
  rw [ha2] at hsl
  go_enter Tryd.func76, Tryd.ntmps76
  have hcl : lo ≤ c := by omega
  have bk : (0 : Int) ≤ (k : Int) ∧ (k : Int) ≤ ((c - lo : Nat) : Int) := by omega
  have HR := Lib.hid hr; clear hr
  have HA2 := Lib.hid ha2; clear ha2
  (repeat' ((fail_if_success at_builtin); first | go_values | go_skip | go_guarded | go_step | go_upon))
  have hsum : ∀ x ∈ xs, x.sum.length = 32 := fun x hx => (HOK.out x hx).sum
  have hrd : RdC w a2 (((xs.drop lo).take k).flatMap Ent.cells) := by
    rw [ents_take _ k (fun x hx => hsum x (List.mem_of_mem_drop hx)), ents_drop xs lo hsum]
    refine RdC.take (HR.out.drop (lo * 39) a2 (fun hlt => ?_)) _
    rw [ents_length xs hsum] at hlt
    rw [← HA2.out, if_neg (by omega)]
  refine (chainClone a2 k (c - lo) ((xs.drop lo).take k) w hrd (fun x hx => HOK.out x (List.mem_of_mem_drop (List.mem_of_mem_take hx))) (by rw [List.length_take, List.length_drop]; omega) (by omega)).mono ?_
  rintro _ w2 ⟨a3, c3, rfl, hc3, hm3, hr3, hB3, hO3⟩
  dsimp only
  have HR3 := Lib.hid hr3; clear hr3
  have HO3 := Lib.hid hO3; clear hO3
  clear hrd hsum
  (repeat' ((fail_if_success at_builtin); first | go_values | go_skip | go_guarded | go_step | go_upon))
  go_ret
  exact ⟨a3, c3, rfl, hc3, hm3, HR3.out, hB3, HO3.out⟩

end Go.Proofs.YtdpfemhfmofmlaaDoor
