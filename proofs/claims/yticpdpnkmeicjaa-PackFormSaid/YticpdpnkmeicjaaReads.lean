/- What 'read' of package sealerylaw07 answers. -/
import Derived.Test.YticpdpnkmeicjaaThings
import Derived.Stop.BytesEq
import Derived.IntWalk
namespace Go.Proofs.Yticpdpnkmeicjaa
open Go.RowKit

/-- What is read where a thing is asked of l: is it t, what is left, what has stuck. -/
def rsRead (t : Thg) (room : Int) (l : List UInt8) (why : Int) : Bool × List UInt8 × Int :=
  if t.kind = 1 ∨ t.kind = 2 then (decide ((rsBlob (t.bn + room) l why).1 = t.bs), (rsBlob (t.bn + room) l why).2)
  else if t.kind = 3 then (decide ((rsSum l why).1 = t.sum), (rsSum l why).2)
  else if t.kind = 4 ∧ 0 ≤ t.num then (decide ((rsCount (if t.num < IntKind.i64.wrap (t.num + room) then IntKind.i64.wrap (t.num + room) else t.num) l why).1 = t.num), (rsCount (if t.num < IntKind.i64.wrap (t.num + room) then IntKind.i64.wrap (t.num + room) else t.num) l why).2)
  else (decide ((rsInt l why).1 = t.num), (rsInt l why).2)

theorem pls_to {g g0 : Nat} {num : Int} {tb : Option Addr} {tn tc : Nat} {s k l m : List UInt8} {x y : Option Addr} {w w' : World} {why : Int} (hg : w.grownBy w' (some g)) (hr : Rd w g m why) (hne : g0 ≠ g) (h : PLS g0 num tb tn tc s k l x y w) (ek : k.length = tn) : PLS g0 num tb tn tc s k l x y w' := by
  obtain ⟨h1, h2, h3, h4, h5, h6, h7⟩ := h
  have hlt := World.block_lt_of_cell? w _ h1
  have hk := hg.block g0 hlt (by intro e; cases e; exact hne rfl)
  have h7' := hr.keeps hg h7
  exact ⟨by rw [World.cell?_of_block (w := w) hk]; exact h1, by rw [World.cell?_of_block (w := w) hk]; exact h2, fun j v hj => by rw [World.cell?_of_block (w := w) hk]; exact h3 j v hj,
    convStr Try.underlying22 Try.underlying5 Try.underlying9 h7' ek, hr.keeps hg h5, hr.keeps hg h6, h7'⟩

theorem pls_still {g : Nat} {num : Int} {tb : Option Addr} {tn tc : Nat} {s k l : List UInt8} {x y : Option Addr} {w w' : World} (hs : Still w w') (h : PLS g num tb tn tc s k l x y w) (ek : k.length = tn) : PLS g num tb tn tc s k l x y w' :=
  pls_below h ek (hs.below _)

/-- What is equal as arrays. -/
theorem eqSum (a b : List UInt8) (ha : a.length = 32) (hb : b.length = 32) (w : World) : (binOp .eql 36 (.agg (bvs a).toArray) (.agg (bvs b).toArray)).run Try.prog w = .ok (.bool (a == b)) w :=
  run_eql_bytes w 36 5 32 Try.underlying36 Try.underlying5 (fun w => by kernel_rfl) a b ha hb

theorem retBeq (a b : List UInt8) : Ending.returned (.bool (a == b)) = Ending.returned (.bool (decide (a = b))) := by
  rw [show (a == b) = decide (a = b) from by rw [Bool.eq_iff_iff]; simp]

theorem rsSum_length (l : List UInt8) (why : Int) : (rsSum l why).1.length = 32 := by
  unfold rsSum
  split
  · simp; omega
  · rfl

theorem same_any {a b : Option Addr} {n1 n2 c d : Nat} {l m : List UInt8} {w : World} (hl : RdB w a l) (hm : RdB w b m) (e1 : l.length = n1) (e2 : m.length = n2) (hn : n1 ≤ 1073741824) :
    Calls Try.prog 16 #[.slice a n1 c, .slice b n2 d] w fun e w' => e = .returned (.bool (decide (l = m))) ∧ Still w w' :=
  (sameBytes a b n1 n2 c d l m w hl hm e1 e2 hn).mono fun _ _ ⟨h1, n, h2⟩ => ⟨h1, by rw [h2]; exact still_drewN w n⟩

theorem pls_rd {g0 : Nat} {num : Int} {tb : Option Addr} {tn tc : Nat} {s k l : List UInt8} {x y : Option Addr} {w : World} (h : PLS g0 num tb tn tc s k l x y w) : RdC w tb (bvs k) := h.2.2.2.2.2.2

theorem still_drew (w : World) : Still w w.drew := ⟨rfl, fun _ => ⟨rfl, rfl, rfl, Nat.le_refl _, fun _ _ => rfl⟩⟩

theorem grown_still {a w w' : World} {r : Option Nat} (h : a.grownBy w r) (hs : Still w w') : a.grownBy w' r := by
  have hb := hs.below w.heap.size
  exact h.trans ⟨hb.os, hb.tape, hb.output, hb.size, fun k hk _ => hb.block k hk⟩

set_option maxHeartbeats 1000000 in
theorem readThing1 (g : Nat) (t : Thg) (room : Int) (l : List UInt8) (why : Int) (w : World) (h : Rd w g l why) (ht : t.Ok w) (hr0 : 0 ≤ room) (hr1 : room ≤ 1000) (hk : t.kind = 1) (hbn : t.bn ≤ 1073741824) (hsm : (rsBlob (t.bn + room) l why).1.length ≤ 1073741824) :
    Calls Try.prog 30 #[.pointer (some ⟨g, 0, none⟩), .agg t.cells.toArray, .int .i64 room] w fun e w' => e = .returned (.bool (decide ((rsBlob (t.bn + room) l why).1 = t.bs))) ∧ RdTo w g (rsBlob (t.bn + room) l why).2.1 (rsBlob (t.bn + room) l why).2.2 w' := by
  rw [ht.eq]
  have hnum := ht.num
  have hlen := ht.len
  have hsum := ht.sum
  obtain ⟨cs, hcs⟩ : ∃ cs, thing t.kind t.num t.ba t.bn t.bc t.sum = cs := ⟨_, rfl⟩
  rw [hcs]
  obtain ⟨w0, hw0⟩ : ∃ w0, w.alloc (.cells cs.toArray 38) = w0 := ⟨_, rfl⟩
  have hg0 : w0.heap[w.heap.size]? = some (.cells (thing t.kind t.num t.ba t.bn t.bc t.sum).toArray 38 (0, 0)) := by rw [← hw0, ← hcs]; exact heap_alloc_new w _
  have hB0 : Below w.heap.size w w0 := by rw [← hw0]; exact (Below.refl _ _).alloc (Nat.le_refl _) _
  have hG0 : w.grownBy w0 (some g) := by rw [← hw0]; exact World.grownBy_alloc w _ _
  have hrd : Rd w0 g l why := h.below hB0 (Nat.le_refl _)
  have hrb : RdB w0 t.ba t.bs := ht.rd.below hB0 (Nat.le_refl _)
  have hne : w.heap.size ≠ g := by have := h.lt; omega
  have c0 : w0.cell? ⟨w.heap.size, 0, none⟩ = some (.int .i64 t.kind) := by rw [cell_of_row w0 w.heap.size 0 _ _ _ hg0]; rfl
  have c1 : w0.cell? ⟨w.heap.size, 1, none⟩ = some (.int .i64 t.num) := by rw [cell_of_row w0 w.heap.size 1 _ _ _ hg0]; rfl
  have c2 : w0.cell? ⟨w.heap.size, 2, none⟩ = some (.slice t.ba t.bn t.bc) := by rw [cell_of_row w0 w.heap.size 2 _ _ _ hg0]; rfl
  have hra3 : w0.rangeAt w.heap.size 3 (bvs t.sum) := fun j v hj => by rw [cell_of_row w0 w.heap.size (3 + j) _ _ _ hg0, List.getElem?_toArray, Nat.add_comm]; simpa [thing] using hj
  have hP : PLS w.heap.size t.num t.ba t.bn t.bc t.sum t.bs t.bs t.ba t.ba w0 := ⟨c1, c2, hra3, convStr Try.underlying22 Try.underlying5 Try.underlying9 hrb hlen, hrb, hrb, hrb⟩
  have hPd := pls_drew hP hlen
  have hrdd : Rd w0.drew g l why := hrd.kept fun _ _ => rfl
  clear hP hg0 hra3 hcs
  have hsm1 : IntKind.i64.wrap ((t.bn : Int) + room) = t.bn + room := IntWalk.i64_in _ (by omega)
  generalize hq : rsBlob (t.bn + room) l why = q at *
  have HQ := Lib.hid hq; clear hq
  go_enter Try.func30, Try.ntmps30
  (repeat' ((fail_if_success at_builtin); first | go_values | go_skip | go_guarded | go_step | go_upon))
  go_region_held3 (PLS w.heap.size t.num t.ba t.bn t.bc t.sum t.bs t.bs t.ba t.ba) (first | assumption | (apply pls_to; assumption; assumption; exact hne; assumption; exact hlen) | (apply pls_still; assumption; assumption; exact hlen)) (first
    | (go_at_call 12; refine (rdBlob g _ l why _ (by assumption)).mono ?_; rw [HQ.out]; rintro _ wA ⟨⟨aA, cA, rfl, hcA, hrA⟩, hgA, hrdA⟩; dsimp only)
    | (go_at_call 16; refine (same_any hrA (pls_rd (by assumption)) rfl hlen hsm).mono ?_; rintro _ wB ⟨rfl, hsB⟩; dsimp only))
  (repeat' ((fail_if_success at_builtin); first | go_values | go_skip | go_guarded | go_step | go_upon))
  go_ret
  exact ⟨by first | rfl | exact retBeq _ _, grown_still ((grown_still hG0 (still_drew _)).trans hgA) hsB, hrdA.still hsB⟩

set_option maxHeartbeats 1000000 in
theorem readThing2 (g : Nat) (t : Thg) (room : Int) (l : List UInt8) (why : Int) (w : World) (h : Rd w g l why) (ht : t.Ok w) (hr0 : 0 ≤ room) (hr1 : room ≤ 1000) (hk : t.kind = 2) (hbn : t.bn ≤ 1073741824) :
    Calls Try.prog 30 #[.pointer (some ⟨g, 0, none⟩), .agg t.cells.toArray, .int .i64 room] w fun e w' => e = .returned (.bool (decide ((rsBlob (t.bn + room) l why).1 = t.bs))) ∧ RdTo w g (rsBlob (t.bn + room) l why).2.1 (rsBlob (t.bn + room) l why).2.2 w' := by
  rw [ht.eq]
  have hnum := ht.num
  have hlen := ht.len
  have hsum := ht.sum
  obtain ⟨cs, hcs⟩ : ∃ cs, thing t.kind t.num t.ba t.bn t.bc t.sum = cs := ⟨_, rfl⟩
  rw [hcs]
  obtain ⟨w0, hw0⟩ : ∃ w0, w.alloc (.cells cs.toArray 38) = w0 := ⟨_, rfl⟩
  have hg0 : w0.heap[w.heap.size]? = some (.cells (thing t.kind t.num t.ba t.bn t.bc t.sum).toArray 38 (0, 0)) := by rw [← hw0, ← hcs]; exact heap_alloc_new w _
  have hB0 : Below w.heap.size w w0 := by rw [← hw0]; exact (Below.refl _ _).alloc (Nat.le_refl _) _
  have hG0 : w.grownBy w0 (some g) := by rw [← hw0]; exact World.grownBy_alloc w _ _
  have hrd : Rd w0 g l why := h.below hB0 (Nat.le_refl _)
  have hrb : RdB w0 t.ba t.bs := ht.rd.below hB0 (Nat.le_refl _)
  have hne : w.heap.size ≠ g := by have := h.lt; omega
  have c0 : w0.cell? ⟨w.heap.size, 0, none⟩ = some (.int .i64 t.kind) := by rw [cell_of_row w0 w.heap.size 0 _ _ _ hg0]; rfl
  have c1 : w0.cell? ⟨w.heap.size, 1, none⟩ = some (.int .i64 t.num) := by rw [cell_of_row w0 w.heap.size 1 _ _ _ hg0]; rfl
  have c2 : w0.cell? ⟨w.heap.size, 2, none⟩ = some (.slice t.ba t.bn t.bc) := by rw [cell_of_row w0 w.heap.size 2 _ _ _ hg0]; rfl
  have hra3 : w0.rangeAt w.heap.size 3 (bvs t.sum) := fun j v hj => by rw [cell_of_row w0 w.heap.size (3 + j) _ _ _ hg0, List.getElem?_toArray, Nat.add_comm]; simpa [thing] using hj
  have hP : PLS w.heap.size t.num t.ba t.bn t.bc t.sum t.bs t.bs t.ba t.ba w0 := ⟨c1, c2, hra3, convStr Try.underlying22 Try.underlying5 Try.underlying9 hrb hlen, hrb, hrb, hrb⟩
  have hPd := pls_drew hP hlen
  have hrdd : Rd w0.drew g l why := hrd.kept fun _ _ => rfl
  clear hP hg0 hra3 hcs
  have hsm1 : IntKind.i64.wrap ((t.bn : Int) + room) = t.bn + room := IntWalk.i64_in _ (by omega)
  generalize hq : rsBlob (t.bn + room) l why = q at *
  have HQ := Lib.hid hq; clear hq
  go_enter Try.func30, Try.ntmps30
  (repeat' ((fail_if_success at_builtin); first | go_values | go_skip | go_guarded | go_step | go_upon))
  go_region_held3 (PLS w.heap.size t.num t.ba t.bn t.bc t.sum t.bs t.bs t.ba t.ba) (first | assumption | (apply pls_to; assumption; assumption; exact hne; assumption; exact hlen) | (apply pls_still; assumption; assumption; exact hlen)) (first
    | (go_at_call 13; refine (rdText g _ l why _ (by assumption)).mono ?_; rw [HQ.out]; rintro _ wA ⟨rfl, hgA, hrdA⟩; dsimp only))
  (repeat' ((fail_if_success at_builtin); first | go_values | go_skip | go_guarded | go_step | go_upon))
  go_ret
  exact ⟨by first | rfl | exact retBeq _ _, (grown_still hG0 (still_drew _)).trans hgA, hrdA⟩

set_option maxHeartbeats 1000000 in
theorem readThing3 (g : Nat) (t : Thg) (room : Int) (l : List UInt8) (why : Int) (w : World) (h : Rd w g l why) (ht : t.Ok w) (hr0 : 0 ≤ room) (hr1 : room ≤ 1000) (hk : t.kind = 3) :
    Calls Try.prog 30 #[.pointer (some ⟨g, 0, none⟩), .agg t.cells.toArray, .int .i64 room] w fun e w' => e = .returned (.bool (decide ((rsSum l why).1 = t.sum))) ∧ RdTo w g (rsSum l why).2.1 (rsSum l why).2.2 w' := by
  rw [ht.eq]
  have hnum := ht.num
  have hlen := ht.len
  have hsum := ht.sum
  obtain ⟨cs, hcs⟩ : ∃ cs, thing t.kind t.num t.ba t.bn t.bc t.sum = cs := ⟨_, rfl⟩
  rw [hcs]
  obtain ⟨w0, hw0⟩ : ∃ w0, w.alloc (.cells cs.toArray 38) = w0 := ⟨_, rfl⟩
  have hg0 : w0.heap[w.heap.size]? = some (.cells (thing t.kind t.num t.ba t.bn t.bc t.sum).toArray 38 (0, 0)) := by rw [← hw0, ← hcs]; exact heap_alloc_new w _
  have hB0 : Below w.heap.size w w0 := by rw [← hw0]; exact (Below.refl _ _).alloc (Nat.le_refl _) _
  have hG0 : w.grownBy w0 (some g) := by rw [← hw0]; exact World.grownBy_alloc w _ _
  have hrd : Rd w0 g l why := h.below hB0 (Nat.le_refl _)
  have hrb : RdB w0 t.ba t.bs := ht.rd.below hB0 (Nat.le_refl _)
  have hne : w.heap.size ≠ g := by have := h.lt; omega
  have c0 : w0.cell? ⟨w.heap.size, 0, none⟩ = some (.int .i64 t.kind) := by rw [cell_of_row w0 w.heap.size 0 _ _ _ hg0]; rfl
  have c1 : w0.cell? ⟨w.heap.size, 1, none⟩ = some (.int .i64 t.num) := by rw [cell_of_row w0 w.heap.size 1 _ _ _ hg0]; rfl
  have c2 : w0.cell? ⟨w.heap.size, 2, none⟩ = some (.slice t.ba t.bn t.bc) := by rw [cell_of_row w0 w.heap.size 2 _ _ _ hg0]; rfl
  have hra3 : w0.rangeAt w.heap.size 3 (bvs t.sum) := fun j v hj => by rw [cell_of_row w0 w.heap.size (3 + j) _ _ _ hg0, List.getElem?_toArray, Nat.add_comm]; simpa [thing] using hj
  have hP : PLS w.heap.size t.num t.ba t.bn t.bc t.sum t.bs t.bs t.ba t.ba w0 := ⟨c1, c2, hra3, convStr Try.underlying22 Try.underlying5 Try.underlying9 hrb hlen, hrb, hrb, hrb⟩
  have hPd := pls_drew hP hlen
  have hrdd : Rd w0.drew g l why := hrd.kept fun _ _ => rfl
  clear hP hg0 hra3 hcs
  have hu36 : Try.prog.underlying 36 = some _ := Try.underlying36
  have hi36 : (Try.prog.info? 36).map (·.size) = some (bvs t.sum).length := by rw [bvs_length, hsum]; kernel_rfl
  have heq := fun w => eqSum (rsSum l why).1 t.sum (rsSum_length l why) hsum w
  generalize hq : rsSum l why = q at *
  have HQ := Lib.hid hq; clear hq
  go_enter Try.func30, Try.ntmps30
  (repeat' ((fail_if_success at_builtin); first | go_values | go_skip | go_guarded | go_step | go_upon))
  go_region_held3 (PLS w.heap.size t.num t.ba t.bn t.bc t.sum t.bs t.bs t.ba t.ba) (first | assumption | (apply pls_to; assumption; assumption; exact hne; assumption; exact hlen) | (apply pls_still; assumption; assumption; exact hlen)) (first
    | (go_at_call 33; refine (rdSum g l why _ (by assumption)).mono ?_; rw [HQ.out]; rintro _ wA ⟨rfl, hgA, hrdA⟩; dsimp only))
  (repeat' ((fail_if_success at_builtin); first | go_values | go_skip | go_guarded | go_step | go_upon))
  go_ret
  exact ⟨by first | rfl | exact retBeq _ _, (grown_still hG0 (still_drew _)).trans hgA, hrdA⟩

set_option maxHeartbeats 1000000 in
theorem readThing4 (g : Nat) (t : Thg) (room : Int) (l : List UInt8) (why : Int) (w : World) (h : Rd w g l why) (ht : t.Ok w) (hr0 : 0 ≤ room) (hr1 : room ≤ 1000) (hk : t.kind = 4) (hn0 : 0 ≤ t.num) :
    Calls Try.prog 30 #[.pointer (some ⟨g, 0, none⟩), .agg t.cells.toArray, .int .i64 room] w fun e w' => e = .returned (.bool (decide ((rsCount (if t.num < IntKind.i64.wrap (t.num + room) then IntKind.i64.wrap (t.num + room) else t.num) l why).1 = t.num))) ∧ RdTo w g (rsCount (if t.num < IntKind.i64.wrap (t.num + room) then IntKind.i64.wrap (t.num + room) else t.num) l why).2.1 (rsCount (if t.num < IntKind.i64.wrap (t.num + room) then IntKind.i64.wrap (t.num + room) else t.num) l why).2.2 w' := by
  rw [ht.eq]
  have hnum := ht.num
  have hlen := ht.len
  have hsum := ht.sum
  obtain ⟨cs, hcs⟩ : ∃ cs, thing t.kind t.num t.ba t.bn t.bc t.sum = cs := ⟨_, rfl⟩
  rw [hcs]
  obtain ⟨w0, hw0⟩ : ∃ w0, w.alloc (.cells cs.toArray 38) = w0 := ⟨_, rfl⟩
  have hg0 : w0.heap[w.heap.size]? = some (.cells (thing t.kind t.num t.ba t.bn t.bc t.sum).toArray 38 (0, 0)) := by rw [← hw0, ← hcs]; exact heap_alloc_new w _
  have hB0 : Below w.heap.size w w0 := by rw [← hw0]; exact (Below.refl _ _).alloc (Nat.le_refl _) _
  have hG0 : w.grownBy w0 (some g) := by rw [← hw0]; exact World.grownBy_alloc w _ _
  have hrd : Rd w0 g l why := h.below hB0 (Nat.le_refl _)
  have hrb : RdB w0 t.ba t.bs := ht.rd.below hB0 (Nat.le_refl _)
  have hne : w.heap.size ≠ g := by have := h.lt; omega
  have c0 : w0.cell? ⟨w.heap.size, 0, none⟩ = some (.int .i64 t.kind) := by rw [cell_of_row w0 w.heap.size 0 _ _ _ hg0]; rfl
  have c1 : w0.cell? ⟨w.heap.size, 1, none⟩ = some (.int .i64 t.num) := by rw [cell_of_row w0 w.heap.size 1 _ _ _ hg0]; rfl
  have c2 : w0.cell? ⟨w.heap.size, 2, none⟩ = some (.slice t.ba t.bn t.bc) := by rw [cell_of_row w0 w.heap.size 2 _ _ _ hg0]; rfl
  have hra3 : w0.rangeAt w.heap.size 3 (bvs t.sum) := fun j v hj => by rw [cell_of_row w0 w.heap.size (3 + j) _ _ _ hg0, List.getElem?_toArray, Nat.add_comm]; simpa [thing] using hj
  have hP : PLS w.heap.size t.num t.ba t.bn t.bc t.sum t.bs t.bs t.ba t.ba w0 := ⟨c1, c2, hra3, convStr Try.underlying22 Try.underlying5 Try.underlying9 hrb hlen, hrb, hrb, hrb⟩
  have hPd := pls_drew hP hlen
  have hrdd : Rd w0.drew g l why := hrd.kept fun _ _ => rfl
  clear hP hg0 hra3 hcs
  generalize hq : rsCount (if t.num < IntKind.i64.wrap (t.num + room) then IntKind.i64.wrap (t.num + room) else t.num) l why = q at *
  have HQ := Lib.hid hq; clear hq
  go_enter Try.func30, Try.ntmps30
  (repeat' ((fail_if_success at_builtin); first | go_values | go_skip | go_guarded | go_step | go_upon))
  go_region_held3 (PLS w.heap.size t.num t.ba t.bn t.bc t.sum t.bs t.bs t.ba t.ba) (first | assumption | (apply pls_to; assumption; assumption; exact hne; assumption; exact hlen) | (apply pls_still; assumption; assumption; exact hlen)) (first
    | (go_at_call 11; refine (rdCount g _ l why _ (by assumption)).mono ?_; rw [HQ.out]; rintro _ wA ⟨rfl, hgA, hrdA⟩; dsimp only))
  (repeat' ((fail_if_success at_builtin); first | go_values | go_skip | go_guarded | go_step | go_upon))
  go_ret
  exact ⟨by first | rfl | exact retBeq _ _, (grown_still hG0 (still_drew _)).trans hgA, hrdA⟩

set_option maxHeartbeats 1000000 in
theorem readThing5 (g : Nat) (t : Thg) (room : Int) (l : List UInt8) (why : Int) (w : World) (h : Rd w g l why) (ht : t.Ok w) (hr0 : 0 ≤ room) (hr1 : room ≤ 1000) (k1 : ¬ t.kind = 1) (k2 : ¬ t.kind = 2) (k3 : ¬ t.kind = 3) (k4 : ¬ t.kind = 4) :
    Calls Try.prog 30 #[.pointer (some ⟨g, 0, none⟩), .agg t.cells.toArray, .int .i64 room] w fun e w' => e = .returned (.bool (decide ((rsInt l why).1 = t.num))) ∧ RdTo w g (rsInt l why).2.1 (rsInt l why).2.2 w' := by
  rw [ht.eq]
  have hnum := ht.num
  have hlen := ht.len
  have hsum := ht.sum
  obtain ⟨cs, hcs⟩ : ∃ cs, thing t.kind t.num t.ba t.bn t.bc t.sum = cs := ⟨_, rfl⟩
  rw [hcs]
  obtain ⟨w0, hw0⟩ : ∃ w0, w.alloc (.cells cs.toArray 38) = w0 := ⟨_, rfl⟩
  have hg0 : w0.heap[w.heap.size]? = some (.cells (thing t.kind t.num t.ba t.bn t.bc t.sum).toArray 38 (0, 0)) := by rw [← hw0, ← hcs]; exact heap_alloc_new w _
  have hB0 : Below w.heap.size w w0 := by rw [← hw0]; exact (Below.refl _ _).alloc (Nat.le_refl _) _
  have hG0 : w.grownBy w0 (some g) := by rw [← hw0]; exact World.grownBy_alloc w _ _
  have hrd : Rd w0 g l why := h.below hB0 (Nat.le_refl _)
  have hrb : RdB w0 t.ba t.bs := ht.rd.below hB0 (Nat.le_refl _)
  have hne : w.heap.size ≠ g := by have := h.lt; omega
  have c0 : w0.cell? ⟨w.heap.size, 0, none⟩ = some (.int .i64 t.kind) := by rw [cell_of_row w0 w.heap.size 0 _ _ _ hg0]; rfl
  have c1 : w0.cell? ⟨w.heap.size, 1, none⟩ = some (.int .i64 t.num) := by rw [cell_of_row w0 w.heap.size 1 _ _ _ hg0]; rfl
  have c2 : w0.cell? ⟨w.heap.size, 2, none⟩ = some (.slice t.ba t.bn t.bc) := by rw [cell_of_row w0 w.heap.size 2 _ _ _ hg0]; rfl
  have hra3 : w0.rangeAt w.heap.size 3 (bvs t.sum) := fun j v hj => by rw [cell_of_row w0 w.heap.size (3 + j) _ _ _ hg0, List.getElem?_toArray, Nat.add_comm]; simpa [thing] using hj
  have hP : PLS w.heap.size t.num t.ba t.bn t.bc t.sum t.bs t.bs t.ba t.ba w0 := ⟨c1, c2, hra3, convStr Try.underlying22 Try.underlying5 Try.underlying9 hrb hlen, hrb, hrb, hrb⟩
  have hPd := pls_drew hP hlen
  have hrdd : Rd w0.drew g l why := hrd.kept fun _ _ => rfl
  clear hP hg0 hra3 hcs
  generalize hq : rsInt l why = q at *
  have HQ := Lib.hid hq; clear hq
  go_enter Try.func30, Try.ntmps30
  (repeat' ((fail_if_success at_builtin); first | go_values | go_skip | go_guarded | go_step | go_upon))
  go_region_held3 (PLS w.heap.size t.num t.ba t.bn t.bc t.sum t.bs t.bs t.ba t.ba) (first | assumption | (apply pls_to; assumption; assumption; exact hne; assumption; exact hlen) | (apply pls_still; assumption; assumption; exact hlen)) (first
    | (go_at_call 32; refine (rdInt g l why _ (by assumption)).mono ?_; rw [HQ.out]; rintro _ wA ⟨rfl, hgA, hrdA⟩; dsimp only))
  (repeat' ((fail_if_success at_builtin); first | go_values | go_skip | go_guarded | go_step | go_upon))
  go_ret
  exact ⟨by first | rfl | exact retBeq _ _, (grown_still hG0 (still_drew _)).trans hgA, hrdA⟩

set_option maxHeartbeats 1000000 in
theorem readThing6 (g : Nat) (t : Thg) (room : Int) (l : List UInt8) (why : Int) (w : World) (h : Rd w g l why) (ht : t.Ok w) (hr0 : 0 ≤ room) (hr1 : room ≤ 1000) (hk : t.kind = 4) (hn0 : ¬ 0 ≤ t.num) :
    Calls Try.prog 30 #[.pointer (some ⟨g, 0, none⟩), .agg t.cells.toArray, .int .i64 room] w fun e w' => e = .returned (.bool (decide ((rsInt l why).1 = t.num))) ∧ RdTo w g (rsInt l why).2.1 (rsInt l why).2.2 w' := by
  rw [ht.eq]
  have hnum := ht.num
  have hlen := ht.len
  have hsum := ht.sum
  obtain ⟨cs, hcs⟩ : ∃ cs, thing t.kind t.num t.ba t.bn t.bc t.sum = cs := ⟨_, rfl⟩
  rw [hcs]
  obtain ⟨w0, hw0⟩ : ∃ w0, w.alloc (.cells cs.toArray 38) = w0 := ⟨_, rfl⟩
  have hg0 : w0.heap[w.heap.size]? = some (.cells (thing t.kind t.num t.ba t.bn t.bc t.sum).toArray 38 (0, 0)) := by rw [← hw0, ← hcs]; exact heap_alloc_new w _
  have hB0 : Below w.heap.size w w0 := by rw [← hw0]; exact (Below.refl _ _).alloc (Nat.le_refl _) _
  have hG0 : w.grownBy w0 (some g) := by rw [← hw0]; exact World.grownBy_alloc w _ _
  have hrd : Rd w0 g l why := h.below hB0 (Nat.le_refl _)
  have hrb : RdB w0 t.ba t.bs := ht.rd.below hB0 (Nat.le_refl _)
  have hne : w.heap.size ≠ g := by have := h.lt; omega
  have c0 : w0.cell? ⟨w.heap.size, 0, none⟩ = some (.int .i64 t.kind) := by rw [cell_of_row w0 w.heap.size 0 _ _ _ hg0]; rfl
  have c1 : w0.cell? ⟨w.heap.size, 1, none⟩ = some (.int .i64 t.num) := by rw [cell_of_row w0 w.heap.size 1 _ _ _ hg0]; rfl
  have c2 : w0.cell? ⟨w.heap.size, 2, none⟩ = some (.slice t.ba t.bn t.bc) := by rw [cell_of_row w0 w.heap.size 2 _ _ _ hg0]; rfl
  have hra3 : w0.rangeAt w.heap.size 3 (bvs t.sum) := fun j v hj => by rw [cell_of_row w0 w.heap.size (3 + j) _ _ _ hg0, List.getElem?_toArray, Nat.add_comm]; simpa [thing] using hj
  have hP : PLS w.heap.size t.num t.ba t.bn t.bc t.sum t.bs t.bs t.ba t.ba w0 := ⟨c1, c2, hra3, convStr Try.underlying22 Try.underlying5 Try.underlying9 hrb hlen, hrb, hrb, hrb⟩
  have hPd := pls_drew hP hlen
  have hrdd : Rd w0.drew g l why := hrd.kept fun _ _ => rfl
  clear hP hg0 hra3 hcs
  generalize hq : rsInt l why = q at *
  have HQ := Lib.hid hq; clear hq
  go_enter Try.func30, Try.ntmps30
  (repeat' ((fail_if_success at_builtin); first | go_values | go_skip | go_guarded | go_step | go_upon))
  go_region_held3 (PLS w.heap.size t.num t.ba t.bn t.bc t.sum t.bs t.bs t.ba t.ba) (first | assumption | (apply pls_to; assumption; assumption; exact hne; assumption; exact hlen) | (apply pls_still; assumption; assumption; exact hlen)) (first
    | (go_at_call 32; refine (rdInt g l why _ (by assumption)).mono ?_; rw [HQ.out]; rintro _ wA ⟨rfl, hgA, hrdA⟩; dsimp only))
  (repeat' ((fail_if_success at_builtin); first | go_values | go_skip | go_guarded | go_step | go_upon))
  go_ret
  exact ⟨by first | rfl | exact retBeq _ _, (grown_still hG0 (still_drew _)).trans hgA, hrdA⟩


end Go.Proofs.Yticpdpnkmeicjaa
