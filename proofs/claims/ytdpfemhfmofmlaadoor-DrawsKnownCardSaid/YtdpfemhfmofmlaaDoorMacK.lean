/- What package sealerylaw02 asks of each: a published code. -/
import Derived.Test.YtdpfemhfmofmlaaDoorMacJ
import Derived.Test.YtdpfemhfmofmlaaDoorWorks01
namespace Go.Proofs.YtdpfemhfmofmlaaDoor
set_option linter.unusedSimpArgs false
open Go.RowKit
set_option maxRecDepth 10000

theorem cell_box (w : World) (D : List UInt8) (t : TypeId) (j : Nat) (v : Value) (h : (bvs D)[j]? = some v) : (w.alloc (.cells (bvs D).toArray t)).cell? ⟨w.heap.size, j, none⟩ = some v := by
  rw [cell_of_row _ w.heap.size j (bvs D).toArray t _ (heap_alloc_new w _), List.getElem?_toArray]
  exact h

set_option maxHeartbeats 1000000 in
theorem begins_jefe (w : World) : Calls Tryd.prog 41 #[.agg (bvs jefeD).toArray, .int .u32 1541194054, .int .u32 1693202499] w fun e w' => e = .returned (.bool true) ∧ Below w.heap.size w w' := by
  have hc0 := cell_box w jefeD 26 0 (.int .u8 91) (by kernel_rfl)
  have hc1 := cell_box w jefeD 26 1 (.int .u8 220) (by kernel_rfl)
  have hc2 := cell_box w jefeD 26 2 (.int .u8 193) (by kernel_rfl)
  have hc3 := cell_box w jefeD 26 3 (.int .u8 70) (by kernel_rfl)
  have hc28 := cell_box w jefeD 26 28 (.int .u8 100) (by kernel_rfl)
  have hc29 := cell_box w jefeD 26 29 (.int .u8 236) (by kernel_rfl)
  have hc30 := cell_box w jefeD 26 30 (.int .u8 56) (by kernel_rfl)
  have hc31 := cell_box w jefeD 26 31 (.int .u8 67) (by kernel_rfl)
  have hB := (Below.refl w.heap.size w).alloc (Nat.le_refl _) (.cells (bvs jefeD).toArray 26)
  go_enter Tryd.func41, Tryd.ntmps41
  (repeat' ((fail_if_success at_builtin); first | go_values | go_skip | go_guarded | go_step | go_upon))
  go_ret
  exact ⟨rfl, hB⟩

/-- A load behind a guard that is met. -/
theorem wpList_load_midG {P : Program} {ops : Array Oper} {rest : List Oper} {op : Oper} {a : Act} {w : World} {Q : Exit → Act → World → Prop} (hw : Region.wanted op (yielded ops a.tmps) = true) (ty : TypeId) (x : Operand) (ho : op.op = .load ty x)
    (b o : Nat) (hx : a.eval x = .pointer (some ⟨b, o, none⟩)) (cs : List Value) (d : TypeDesc) (hc : w.rangeAt b o cs)
    (hu : P.underlying ty = some d) (hd : d.isRow = true) (hi : (P.info? ty).map (·.size) = some cs.length)
    (h : wpList P ops Q rest (a.put op.dst (.agg cs.toArray)) w) : wpList P ops Q (op :: rest) a w :=
  wpList_step fun K hK => by rw [if_pos hw]; exact wp_load_mid ty x ho b o hx cs d hc hu hd hi (hK _ _ h)

def none32 : List UInt8 := List.replicate 32 0

/-- A code of bytes that were just laid. -/
theorem macOfNew (w : World) (k t H : List UInt8) (cs ds : Array Value) (fr fr' : Nat × Nat) (n1 n2 : Nat) (hH : hmac k t = H) (hT : Tabs w) (hk : (bvs k).toArray = cs) (ht : (bvs t).toArray = ds) (e1 : k.length = n1) (e2 : t.length = n2) (b1 : n1 ≤ 200000000) (b2 : n2 ≤ 100000000) :
    Calls Tryd.prog 39 #[.slice (some ⟨w.heap.size, 0, none⟩) n1 n1, .slice (some ⟨w.heap.size + 1, 0, none⟩) n2 n2] ((w.alloc (.cells cs 5 fr)).alloc (.cells ds 5 fr')) fun e w' => e = .returned (.agg (bvs H).toArray) ∧ Below w.heap.size w w' := by
  subst hk ht
  have hB1 : Below w.heap.size w (w.alloc (.cells (bvs k).toArray 5 fr)) := (Below.refl w.heap.size w).alloc (Nat.le_refl _) _
  have hB2 : Below w.heap.size w ((w.alloc (.cells (bvs k).toArray 5 fr)).alloc (.cells (bvs t).toArray 5 fr')) := hB1.alloc hB1.size _
  have h2 := rdb_newF (w.alloc (.cells (bvs k).toArray 5 fr)) t 5 fr'
  rw [show (w.alloc (.cells (bvs k).toArray 5 fr)).heap.size = w.heap.size + 1 by simp] at h2
  refine (macOf _ _ n1 n2 n1 n2 k t H _ hH (hT.below hB2 hT.size) ((rdb_newF w k _ fr).alloc _) h2 e1 e2 (Nat.le_refl _) (Nat.le_refl _) b1 b2).mono fun e w' ⟨he, hb⟩ => ⟨he, hB2.trans (hb.mono hB2.size)⟩

theorem conv_two (w : World) (A : Obj) (C : Array Value) (n c : Nat) : (convert 22 22 (.slice (some ⟨w.heap.size + 1, 0, none⟩) n c)).run Tryd.prog ((w.alloc A).alloc (.cells C 5)) = .ok (.slice (some ⟨w.heap.size + 1, 0, none⟩) n c) ((w.alloc A).alloc (.cells C 5 (C.size, C.size + 1))) := by
  have h := Lib.run_convert_bytes_const (P := Tryd.prog) (w.alloc A) 22 5 C n c Tryd.underlying22 Tryd.underlying5
  rw [show (w.alloc A).heap.size = w.heap.size + 1 by simp] at h
  exact h

set_option maxHeartbeats 2000000 in
theorem macKnown (w : World) (hT : Tabs w) :
    Calls Tryd.prog 38 #[] w fun e w' => e = .returned (.bool true) ∧ Below w.heap.size w w' := by
  obtain ⟨iS, zS, hiS, hzS, hcS⟩ := fresh_parts zeroSum
  have HIS := Lib.hid hiS; clear hiS
  have HZS := Lib.hid hzS; clear hzS
  have HCS := Lib.hid hcS; clear hcS
  have hts := hT.size
  have HT := Lib.hid hT; clear hT
  have kc := fun (w : World) (C : Array Value) (n c : Nat) => Lib.run_convert_bytes_const (P := Tryd.prog) w 22 5 C n c Tryd.underlying22 Tryd.underlying5
  have kc2 := fun (w : World) (A : Obj) (C : Array Value) (n c : Nat) => conv_two w A C n c
  have HIG := Lib.hid (show (Tryd.prog.info? 26).map (·.size) = some (bvs jefeD).length by exact sizeSum)
  have HFG := Lib.hid (show 0 + (bvs jefeD).length ≤ (List.replicate 32 (Value.int .u8 0)).toArray.size by exact Nat.le_refl 32)
  have HGO := Lib.hid (bvs_oneCell jefeD)
  go_enter Tryd.func38, Tryd.ntmps38
  (repeat' ((fail_if_success at_builtin); first | go_values | go_skip | go_guarded | go_step | go_upon))
  refine (macOfNew w jefeK jefeT jefeD _ _ _ _ 4 28 hmac_jefe HT.out (by kernel_rfl) (by kernel_rfl) rfl rfl (by decide) (by decide)).mono ?_
  rintro _ w1 ⟨rfl, hB1⟩
  dsimp only
  (repeat' ((fail_if_success at_builtin); first | (first | ((with_reducible refine wpList_alloc_fresh (w := w1) rfl 26 rfl _ iS zS HIS.out HZS.out HCS.out ?_); intro w2 hg2 hB2 hs2; have HG2 := Lib.hid hg2; clear hg2; have HS2 := Lib.hid hs2; clear hs2) | ((with_reducible refine wpList_store_blk rfl 26 _ _ rfl w1.heap.size 0 (bvs jefeD) rfl rfl _ _ HG2.out HFG.out HIG.out HGO.out ?_); intro w3 hg3 hG3; rw [splice_whole _ _ (by rfl)] at hg3; have HA3 := Lib.hid (rangeAt_whole hg3); have HG3 := Lib.hid hg3; clear hg3) | (with_reducible refine wpList_load_mid rfl 26 _ rfl w1.heap.size 0 rfl (bvs jefeD) _ HA3.out Tryd.underlying26 rfl HIG.out ?_)) | go_values | go_skip | go_guarded | go_step | go_upon))
  have hB03 : Below w.heap.size w w3 := hB1.trans ((hB2.grown hG3 (by have := HS2.out; omega) (fun k e => by cases e; exact Nat.le_refl _)).mono hB1.size)
  refine (begins_jefe w3).mono ?_
  rintro _ w4 ⟨rfl, hB4⟩
  dsimp only
  have HA4 := Lib.hid (rangeAt_below HA3.out hB4 (Nat.le_refl _))
  have hB04 : Below w.heap.size w w4 := hB03.trans (hB4.mono hB03.size)
  (repeat' ((fail_if_success at_builtin); first | ((refine wpList_load_midG (by rfl) 26 _ rfl w1.heap.size 0 rfl (bvs jefeD) _ HA4.out Tryd.underlying26 rfl HIG.out ?_)) | go_values | go_skip | go_guarded | go_step | go_upon))
  refine (macSame jefeD jefeD w4 rfl rfl).mono ?_
  rintro _ w5 ⟨rfl, hB5⟩
  dsimp only
  have HA5 := Lib.hid (rangeAt_below HA4.out hB5 (Nat.le_refl _))
  have hB05 : Below w.heap.size w w5 := hB04.trans (hB5.mono hB04.size)
  rw [show (jefeD == jefeD) = true by simp]
  (repeat' ((fail_if_success at_builtin); first | ((refine wpList_load_midG (by rfl) 26 _ rfl w1.heap.size 0 rfl (bvs jefeD) _ HA5.out Tryd.underlying26 rfl HIG.out ?_)) | go_values | go_skip | go_guarded | go_step | go_upon))
  refine (macSame jefeD none32 w5 rfl rfl).mono ?_
  rintro _ w6 ⟨rfl, hB6⟩
  dsimp only
  have hB06 : Below w.heap.size w w6 := hB05.trans (hB6.mono hB05.size)
  rw [show (jefeD == none32) = false by decide]
  (repeat' ((fail_if_success at_builtin); first | go_values | go_skip | go_guarded | go_step | go_upon))
  go_ret
  exact ⟨rfl, hB06⟩

end Go.Proofs.YtdpfemhfmofmlaaDoor
