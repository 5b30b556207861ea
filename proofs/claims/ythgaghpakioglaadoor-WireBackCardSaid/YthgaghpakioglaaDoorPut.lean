/- A body's parcel (wire.Put), the document's (sealeryref27.Put); a new reader. -/
import Derived.Test.YthgaghpakioglaaDoorWire3
import Derived.Test.YthgaghpakioglaaDoorNum
namespace Go.Proofs.YthgaghpakioglaaDoor
set_option linter.unusedSimpArgs false
set_option linter.unusedVariables false
open Go.RowKit
set_option maxRecDepth 10000

/-- 'append(s, x...)' onto a full slice of whatever memory: a new row. -/
theorem wpList_appFull {P : Program} {w : World} {ops : Array Oper} {rest : List Oper} {o : Oper} {a : Act} {Q : Exit → Act → World → Prop} (hgd : o.guard = none) (s x : Operand) (t tx : TypeId)
    (ho : o.op = .call { callee := .builtin .append, args := #[s, x], argTypes := #[t, tx] })
    (e : TypeId) (i : TypeInfo) (z : Value) (bytes : Nat) (ht : P.underlying t = some (.slice e)) (hi : P.info? e = some i) (hz : i.zero = some z)
    (hsize : i.size = 1) (hby : i.bytes = bytes) (hzs : z.cells.size = 1)
    (g n : Nat) (xs : List Value) (hsv : a.eval s = .slice (some ⟨g, 0, none⟩) n n) (hxl : xs.length = n) (holds : ∀ j u, xs[j]? = some u → w.cell? ((⟨g, 0, none⟩ : Addr).add j) = some u)
    (xv : Value) (hxv : a.eval x = xv) (m : Nat) (news : List Value) (hs : Src P 1 tx xv m news w) (hm : 1 ≤ m)
    (h63 : n + m ≤ maxLen) (hbytes : (n + m) * bytes ≤ 140737488355328)
    (h : ∀ v' w', w'.ownsRow w.heap.size e 1 v' (n + m) (xs ++ news) → Below w.heap.size w w' → wpList P ops Q rest (a.put o.dst v') w') : wpList P ops Q (o :: rest) a w := by
  subst hby
  have hsmall : n + m ≤ 9223372036854775807 := by simp only [maxLen] at h63; omega
  have hl := hs.newsLen
  have hlen : (xs ++ news).length = (n + m) * 1 := by rw [List.length_append, hl, hxl]; omega
  have hr := run_append_grow_src (P := P) w t tx o.type e i z ht hi hz (some ⟨g, 0, none⟩) n n xs (by rw [hsize]; exact run_firstCells_some w.drew 1 n ⟨g, 0, none⟩ n n xs (by rw [hxl, Nat.mul_one]) (by simpa using holds)) xv m news (by rw [hsize]; exact hs) (by omega) (by omega) (growslice_fits (by omega) hbytes)
  refine wpList_plain hgd fun K hK => ?_
  unfold Oper.wp execOp
  simp only [ho, resolve, invoke, builtin, Sem.run_bind, Sem.run_pure, Result.andThen_ok, List.map_toArray, List.map_cons, List.map_nil, hsv, hxv, hr]
  refine hK _ _ (h _ _ ?_ ?_)
  · have hge := grownCap_ge w (n + m) n e
    have hcm : grownCap w (n + m) n e ≤ maxLen := grownCap_le_maxLen w (n + m) n e h63
    refine ⟨hlen, .inr ⟨w.heap.size, _, _, rfl, Nat.le_refl _, heap_alloc_new w.drew _, hge, hcm, ?_, ?_⟩⟩
    · simp only [Array.size_append, List.size_toArray, size_zeroCells, hzs, hlen, Nat.mul_one]
      omega
    · simp only [Array.toList_append]
      rw [← hlen]
      exact List.take_left
  · exact ((Below.refl w.heap.size w).drew).alloc (by exact Nat.le_refl _) _

theorem cell_below {B : Nat} {w w' : World} {a : Addr} {v : Value} (hb : Below B w w') (h : w.cell? a = some v) (hB : w.heap.size ≤ B) : w'.cell? a = some v := by
  rw [hb.cell (Nat.lt_of_lt_of_le (World.block_lt_of_cell? w _ h) hB)]; exact h

set_option maxHeartbeats 1000000 in
theorem inNew (w : World) :
    Calls Tryd.prog 17 #[] w fun e w' => e = .returned (.pointer (some ⟨w.heap.size, 0, none⟩)) ∧ In w' w.heap.size none [] false ∧ Below w.heap.size w w' ∧ w'.heap.size = w.heap.size + 1 := by
  go_enter Tryd.func17, Tryd.ntmps17
  (repeat' ((fail_if_success at_builtin); first | go_values | go_skip | go_guarded | go_step | go_upon))
  go_ret
  exact ⟨rfl, ⟨⟨0, 0, 0, 0, #[], heap_alloc_new w _, rfl, Nat.le_refl _, Nat.le_refl _, by decide, fun k e => (by cases e), fun _ => rfl⟩⟩, (Below.refl _ _).alloc (Nat.le_refl _) _, by simp⟩

def lenCells (v : Int) (k : Nat) : List Value := (List.range 4).map fun j => if 4 - k ≤ j then .int .u8 (nb v (3 - j)) else .int .u8 0
theorem lenCells_step (v : Int) (k : Nat) (h : k < 4) : (lenCells v k).set (3 - k) (.int .u8 (nb v k)) = lenCells v (k + 1) := by
  have : k = 0 ∨ k = 1 ∨ k = 2 ∨ k = 3 := by omega
  rcases this with rfl | rfl | rfl | rfl <;> simp [lenCells, List.range_succ]
theorem lenCells_all (v : Int) : lenCells v 4 = [.int .u8 (nb v 3), .int .u8 (nb v 2), .int .u8 (nb v 1), .int .u8 (nb v 0)] := by
  simp [lenCells, List.range_succ]
theorem lenCells_get (v : Int) (k : Nat) (h : k < 4) : (lenCells v k).toArray[3 - k]? = some (.int .u8 0) := by
  have : k = 0 ∨ k = 1 ∨ k = 2 ∨ k = 3 := by omega
  rcases this with rfl | rfl | rfl | rfl <;> simp [lenCells, List.range_succ]

set_option maxHeartbeats 2000000 in
theorem lengthOf (v : Int) (w : World) (hv : 0 ≤ v ∧ v ≤ 9223372036854775807) :
    Calls Tryd.prog 26 #[.int .i64 v] w fun e w' => e = .returned (.agg #[.int .u8 (nb v 3), .int .u8 (nb v 2), .int .u8 (nb v 1), .int .u8 (nb v 0)]) ∧ Below w.heap.size w w' := by
  go_enter Tryd.func26, Tryd.ntmps26
  (repeat' ((fail_if_success at_builtin); first | go_values | go_skip | go_guarded | go_step | go_upon))
  go_loopw [3, 4] (fun _ i wr => ∃ k : Nat, k ≤ 4 ∧ i = .int .i64 k ∧ Below w.heap.size w wr ∧ wr.heap[w.heap.size]? = some (.cells (lenCells v k).toArray 52 (0, 0))) (fun _ i _ => 4 - (intOf i).toNat)
  case atStart => exact ⟨0, Nat.zero_le _, rfl, (Below.refl _ _).alloc (Nat.le_refl _) _, heap_alloc_new w _⟩
  case round =>
    obtain ⟨k, hk, rfl, hB, hg⟩ := hrel
    by_cases hlt : k < 4
    · have hc1 : wr.cell? ⟨w.heap.size, 3 - k, none⟩ = some (.int .u8 0) := by rw [cell_of_row wr _ (3 - k) _ _ _ hg, lenCells_get v k hlt]
      have hf1 := frozen_of_row wr w.heap.size (3 - k) _ _ hg
      have HG := Lib.hid hg; clear hg
      have HS := Lib.hid (lenCells_step v k hlt)
      (repeat' ((fail_if_success at_builtin); first | go_values | go_skip | go_guarded | go_step | go_upon))
      go_roundw
      case rel =>
        refine ⟨k + 1, by omega, by go_num, hB.setCell (Nat.le_refl _) _, ?_⟩
        have h := row_set HG.out (3 - k) (.int .u8 (nb v k))
        rw [List.setIfInBounds_toArray, HS.out] at h
        exact h
      case measure => simp [intOf]; omega
    · obtain rfl : k = 4 := by omega
      rw [lenCells_all] at hg
      have k0 := cell_of_row wr w.heap.size 0 _ _ _ hg
      have k1 := cell_of_row wr w.heap.size 1 _ _ _ hg
      have k2 := cell_of_row wr w.heap.size 2 _ _ _ hg
      have k3 := cell_of_row wr w.heap.size 3 _ _ _ hg
      have f0 := frozen_of_row wr w.heap.size 0 _ _ hg
      have f1 := frozen_of_row wr w.heap.size 1 _ _ hg
      have f2 := frozen_of_row wr w.heap.size 2 _ _ hg
      have f3 := frozen_of_row wr w.heap.size 3 _ _ hg
      have HG := Lib.hid hg; clear hg
      (repeat' ((fail_if_success at_builtin); first | go_values | go_skip | go_guarded | go_step | go_upon))
      have hgW : ((((wr.setCell ⟨w.heap.size, 0, none⟩ (.int .u8 (nb v 3))).setCell ⟨w.heap.size, 1, none⟩ (.int .u8 (nb v 2))).setCell ⟨w.heap.size, 2, none⟩ (.int .u8 (nb v 1))).setCell ⟨w.heap.size, 3, none⟩ (.int .u8 (nb v 0))).heap[w.heap.size]? = some (.cells [Value.int .u8 (nb v 3), .int .u8 (nb v 2), .int .u8 (nb v 1), .int .u8 (nb v 0)].toArray 52 (0, 0)) :=
        set_at (set_at (set_at (set_at HG.out 0 _) 1 _) 2 _) 3 _
      have hR := run_loadVar_mid (P := Tryd.prog) _ w.heap.size 0 52 _ _ (rangeAt_whole hgW) Tryd.underlying52 rfl (by kernel_rfl)
      have hBW := (((hB.setCell (Nat.le_refl _) (.int .u8 (nb v 3)) (p := ⟨w.heap.size, 0, none⟩)).setCell (Nat.le_refl _) (.int .u8 (nb v 2)) (p := ⟨w.heap.size, 1, none⟩)).setCell (Nat.le_refl _) (.int .u8 (nb v 1)) (p := ⟨w.heap.size, 2, none⟩)).setCell (Nat.le_refl _) (.int .u8 (nb v 0)) (p := ⟨w.heap.size, 3, none⟩)
      exact bodyPost_ret (results_cell rfl _ _ _ ⟨w.heap.size, 0, none⟩ rfl _ hR) rfl ⟨rfl, hBW⟩

theorem nb_u8 (v : Int) (k : Nat) : ((u8 (nb v k)).toNat : Int) = nb v k := by
  have := bv_u8 (nb v k) (nb_lt v k)
  unfold bv at this
  exact (Value.int.inj this).2

/-- The four bytes of a length. -/
def len4 (n : Nat) : List UInt8 := [u8 (nb n 3), u8 (nb n 2), u8 (nb n 1), u8 (nb n 0)]
theorem len4_num (n : Nat) (h : n < 4294967296) : num4 (len4 n) = n := by
  have e3 := nb_u8 n 3
  have e2 := nb_u8 n 2
  have e1 := nb_u8 n 1
  have e0 := nb_u8 n 0
  simp only [num4, len4, List.foldl_cons, List.foldl_nil]
  generalize (u8 (nb n 3)).toNat = a at *
  generalize (u8 (nb n 2)).toNat = b at *
  generalize (u8 (nb n 1)).toNat = c at *
  generalize (u8 (nb n 0)).toNat = d at *
  simp only [nb, Nat.mul_zero, Nat.mul_one, Int.pow_zero, Int.ediv_one, Nat.reduceMul, Int.reducePow] at e0 e1 e2 e3
  omega

/-- A body's parcel. -/
def parcel (l : List UInt8) : List UInt8 := len4 l.length ++ l

set_option maxHeartbeats 2000000 in
theorem wirePutNo (a : Option Addr) (n c : Nat) (l : List UInt8) (w : World) (en : l.length = n) (hn : n ≤ 1000000) (hb : mayB n = false) :
    Calls Tryd.prog 10 #[.slice a n c] w fun e w' => e = .returned (.tuple #[.slice none 0 0, .int .i64 5]) ∧ Below w.heap.size w w' := by
  have hnum := len4_num n (by omega)
  unfold len4 at hnum
  have HB := Lib.hid hb; clear hb
  have HN := Lib.hid hnum; clear hnum
  have E3 := Lib.hid (nb_u8 n 3)
  have E2 := Lib.hid (nb_u8 n 2)
  have E1 := Lib.hid (nb_u8 n 1)
  have E0 := Lib.hid (nb_u8 n 0)
  go_enter Tryd.func10, Tryd.ntmps10
  (repeat' ((fail_if_success at_builtin); first | go_values | go_skip | go_guarded | go_step | go_upon))
  refine (lengthOf n w (by omega)).mono ?_
  rintro _ w1 ⟨rfl, hB1⟩
  dsimp only
  rw [← E3.out, ← E2.out, ← E1.out, ← E0.out]
  (repeat' ((fail_if_success at_builtin); first | go_values | go_skip | go_guarded | go_step | go_upon))
  refine (lenNumber _ _ _ _ _).mono ?_
  rintro _ w2 ⟨rfl, hB2⟩
  dsimp only
  rw [HN.out, HB.out]
  (repeat' ((fail_if_success at_builtin); first | go_values | go_skip | go_guarded | go_step | go_upon))
  go_ret2
  exact ⟨rfl, (hB1.alloc hB1.size _).trans (hB2.mono (by simp; have := hB1.size; omega))⟩

/-- A parcel in new memory. -/
def GotP (w : World) (n : Nat) (l : List UInt8) (e : Ending) (w' : World) : Prop :=
  ∃ a c, e = .returned (.tuple #[.slice a n c, .int .i64 0]) ∧ n ≤ c ∧ RdB w' a l ∧ Below w.heap.size w w' ∧ w'.ownsRow w.heap.size 5 1 (.slice a n c) n (bvs l)

set_option maxHeartbeats 2000000 in
theorem wirePutYes (a : Option Addr) (n c : Nat) (l : List UInt8) (w : World) (hr : RdB w a l) (en : l.length = n) (hn : n ≤ 1000000) (hb : mayB n = true) :
    Calls Tryd.prog 10 #[.slice a n c] w (GotP w (4 + n) (parcel l)) := by
  obtain ⟨i0, hi, hz0, hz1, hz2⟩ := info_parts u8Info
  have hn1 : 1 ≤ n := by unfold mayB at hb; have := of_decide_eq_true hb; omega
  have HR := Lib.hid hr; clear hr
  have hnum := len4_num n (by omega)
  unfold len4 at hnum
  have HB := Lib.hid hb; clear hb
  have HN := Lib.hid hnum; clear hnum
  have E3 := Lib.hid (nb_u8 n 3)
  have E2 := Lib.hid (nb_u8 n 2)
  have E1 := Lib.hid (nb_u8 n 1)
  have E0 := Lib.hid (nb_u8 n 0)
  go_enter Tryd.func10, Tryd.ntmps10
  (repeat' ((fail_if_success at_builtin); first | go_values | go_skip | go_guarded | go_step | go_upon))
  refine (lengthOf n w (by omega)).mono ?_
  rintro _ w1 ⟨rfl, hB1⟩
  dsimp only
  rw [← E3.out, ← E2.out, ← E1.out, ← E0.out]
  (repeat' ((fail_if_success at_builtin); first | go_values | go_skip | go_guarded | go_step | go_upon))
  have hlc : ∀ j u, ([.int .u8 ((u8 (nb n 3)).toNat : Int), .int .u8 ((u8 (nb n 2)).toNat : Int), .int .u8 ((u8 (nb n 1)).toNat : Int), .int .u8 ((u8 (nb n 0)).toNat : Int)] : List Value)[j]? = some u → (w1.alloc (.cells #[.int .u8 ((u8 (nb n 3)).toNat : Int), .int .u8 ((u8 (nb n 2)).toNat : Int), .int .u8 ((u8 (nb n 1)).toNat : Int), .int .u8 ((u8 (nb n 0)).toNat : Int)] 52)).cell? ((⟨w1.heap.size, 0, none⟩ : Addr).add j) = some u := by
    intro j u hj
    rw [Lib.addr_add, Nat.zero_add, cell_of_row _ w1.heap.size j _ _ _ (heap_alloc_new w1 _), List.getElem?_toArray]
    exact hj
  have hBa := hB1.alloc hB1.size (.cells #[.int .u8 ((u8 (nb n 3)).toNat : Int), .int .u8 ((u8 (nb n 2)).toNat : Int), .int .u8 ((u8 (nb n 1)).toNat : Int), .int .u8 ((u8 (nb n 0)).toNat : Int)] 52)
  obtain ⟨wa, hwa⟩ : ∃ wa, w1.alloc (.cells #[.int .u8 ((u8 (nb n 3)).toNat : Int), .int .u8 ((u8 (nb n 2)).toNat : Int), .int .u8 ((u8 (nb n 1)).toNat : Int), .int .u8 ((u8 (nb n 0)).toNat : Int)] 52) = wa := ⟨_, rfl⟩
  have hwl : w1.heap.size < wa.heap.size := by rw [← hwa]; simp
  rw [hwa] at hlc hBa ⊢
  have HLC := Lib.hid hlc; clear hlc hwa
  refine (lenNumber _ _ _ _ wa).mono ?_
  rintro _ w2 ⟨rfl, hB2⟩
  dsimp only
  rw [HN.out, HB.out]
  have hB02 : Below w.heap.size w w2 := hBa.trans (hB2.mono hBa.size)
  (repeat' ((fail_if_success at_builtin); first | go_values | go_skip | go_guarded | go_step | go_upon))
  refine wpList_appFull rfl _ _ 22 22 rfl 5 i0 _ 1 Tryd.underlying22 hi hz0 hz1 hz2 rfl w1.heap.size 4 [.int .u8 ((u8 (nb n 3)).toNat : Int), .int .u8 ((u8 (nb n 2)).toNat : Int), .int .u8 ((u8 (nb n 1)).toNat : Int), .int .u8 ((u8 (nb n 0)).toNat : Int)] rfl rfl (fun j u hj => cell_below hB2 (HLC.out j u hj) (Nat.le_refl _)) _ rfl n (bvs l) (src_of_rdc Tryd.underlying22 (HR.out.below hB02 (Nat.le_refl _)) (by rw [bvs_length, en, Nat.mul_one]) (bvs_oneCell l)) hn1 (by unfold maxLen; omega) (by omega) ?_
  intro v' w3 hO3 hB3
  obtain ⟨a3, c3, rfl, hc3, _, _⟩ := owns_slice hO3
  have HO3 := Lib.hid hO3; clear hO3
  (repeat' ((fail_if_success at_builtin); first | go_values | go_skip | go_guarded | go_step | go_upon))
  go_ret2
  have hp : bvs (parcel l) = [.int .u8 ((u8 (nb n 3)).toNat : Int), .int .u8 ((u8 (nb n 2)).toNat : Int), .int .u8 ((u8 (nb n 1)).toNat : Int), .int .u8 ((u8 (nb n 0)).toNat : Int)] ++ bvs l := by
    unfold parcel
    rw [bvs_append, en]
    rfl
  have hO := HO3.out
  rw [← hp] at hO
  exact ⟨a3, c3, rfl, hc3, rdc_of_owns hO, hB02.trans (hB3.mono hB02.size), owns_mono hO hB02.size⟩

end Go.Proofs.YthgaghpakioglaaDoor
