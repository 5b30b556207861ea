/- What package sha computes: a hash is made, and bytes are written to it. -/
import Derived.Test.YtdpfemhfmofmlaaDoorTake
import Derived.Test.YtdpfemhfmofmlaaDoorHashL
import Derived.Test.YtdpfemhfmofmlaaDoorKit
namespace Go.Proofs.YtdpfemhfmofmlaaDoor
set_option linter.unusedSimpArgs false
open Go.RowKit
set_option maxRecDepth 10000

/-- Block g is a hash that m was written to. -/
structure HashAt (w : World) (g : Nat) (m : List UInt8) (all : Nat) : Prop where
  out : ∃ rest, HRest m rest ∧ w.heap[g]? = some (.cells (hcells (wst m (m.length / 64)) rest ((m.length % 64 : Nat) : Int) (all : Int)).toArray 107 (0, 0))

theorem hsz8 : (Tryd.prog.info? 5).map (·.size) = some 1 := by kernel_rfl

theorem take8 (g o : Nat) (s0 s1 s2 s3 s4 s5 s6 s7 n0 n1 n2 n3 n4 n5 n6 n7 : UInt32) (H : List UInt32) (b : List UInt8) (w w2 : World) (hT : Tabs w2) (hb : w2.rangeAt g o (bvs b)) (hl : b.length = 64) (hH : H = [s0, s1, s2, s3, s4, s5, s6, s7]) (hN : wblock H b = [n0, n1, n2, n3, n4, n5, n6, n7]) (hw : w2.heap = w.heap) :
    Calls Tryd.prog 86 #[.agg #[.int .u32 (s0.toNat : Int), .int .u32 (s1.toNat : Int), .int .u32 (s2.toNat : Int), .int .u32 (s3.toNat : Int), .int .u32 (s4.toNat : Int), .int .u32 (s5.toNat : Int), .int .u32 (s6.toNat : Int), .int .u32 (s7.toNat : Int)], .pointer (some ⟨g, o, none⟩)] w fun e w' => e = .returned (.agg #[.int .u32 (n0.toNat : Int), .int .u32 (n1.toNat : Int), .int .u32 (n2.toNat : Int), .int .u32 (n3.toNat : Int), .int .u32 (n4.toNat : Int), .int .u32 (n5.toNat : Int), .int .u32 (n6.toNat : Int), .int .u32 (n7.toNat : Int)]) ∧ Below w.heap.size w w' := by
  have hc : ∀ a, w.cell? a = w2.cell? a := fun a => by unfold World.cell?; rw [hw]
  have hT' : Tabs w := ⟨fun j v hj => by rw [hc]; exact hT.begins j v hj, fun t ht => by rw [hc]; exact hT.k t ht, by rw [← hw]; exact hT.size⟩
  subst hH
  have := take g o [s0, s1, s2, s3, s4, s5, s6, s7] b w hT' rfl (fun j v hj => by rw [hc]; exact hb j v hj) hl
  rw [hN] at this
  exact this

/-- The cells of a hash's state, one by one. -/
theorem stateCells {w : World} {g : Nat} {s0 s1 s2 s3 s4 s5 s6 s7 : UInt32} {rest : List UInt8} {h a : Int} {t : TypeId} (hg : w.heap[g]? = some (.cells (hcells [s0, s1, s2, s3, s4, s5, s6, s7] rest h a).toArray t (0, 0))) :
    w.cell? ⟨g, 0, none⟩ = some (.int .u32 (s0.toNat : Int)) ∧ w.cell? ⟨g, 1, none⟩ = some (.int .u32 (s1.toNat : Int)) ∧ w.cell? ⟨g, 2, none⟩ = some (.int .u32 (s2.toNat : Int)) ∧ w.cell? ⟨g, 3, none⟩ = some (.int .u32 (s3.toNat : Int)) ∧ w.cell? ⟨g, 4, none⟩ = some (.int .u32 (s4.toNat : Int)) ∧ w.cell? ⟨g, 5, none⟩ = some (.int .u32 (s5.toNat : Int)) ∧ w.cell? ⟨g, 6, none⟩ = some (.int .u32 (s6.toNat : Int)) ∧ w.cell? ⟨g, 7, none⟩ = some (.int .u32 (s7.toNat : Int)) :=
  ⟨(cell_of_row w g 0 _ _ _ hg).trans rfl, (cell_of_row w g 1 _ _ _ hg).trans rfl, (cell_of_row w g 2 _ _ _ hg).trans rfl, (cell_of_row w g 3 _ _ _ hg).trans rfl, (cell_of_row w g 4 _ _ _ hg).trans rfl, (cell_of_row w g 5 _ _ _ hg).trans rfl, (cell_of_row w g 6 _ _ _ hg).trans rfl, (cell_of_row w g 7 _ _ _ hg).trans rfl⟩
theorem stateFree {w : World} {g : Nat} {arr : Array Value} {t : TypeId} (hg : w.heap[g]? = some (.cells arr t (0, 0))) :
    w.frozen? ⟨g, 0, none⟩ = false ∧ w.frozen? ⟨g, 1, none⟩ = false ∧ w.frozen? ⟨g, 2, none⟩ = false ∧ w.frozen? ⟨g, 3, none⟩ = false ∧ w.frozen? ⟨g, 4, none⟩ = false ∧ w.frozen? ⟨g, 5, none⟩ = false ∧ w.frozen? ⟨g, 6, none⟩ = false ∧ w.frozen? ⟨g, 7, none⟩ = false ∧ w.frozen? ⟨g, 72, none⟩ = false :=
  ⟨frozen_of_row w g 0 _ _ hg, frozen_of_row w g 1 _ _ hg, frozen_of_row w g 2 _ _ hg, frozen_of_row w g 3 _ _ hg, frozen_of_row w g 4 _ _ hg, frozen_of_row w g 5 _ _ hg, frozen_of_row w g 6 _ _ hg, frozen_of_row w g 7 _ _ hg, frozen_of_row w g 72 _ _ hg⟩

structure WriteRel (m l : List UInt8) (g : Nat) (w : World) (v : Value) (wr : World) : Prop where
  out : ∃ (done left : List UInt8) (a : Option Addr) (c : Nat), done ++ left = l ∧ v = .slice a left.length c ∧ left.length ≤ c ∧ RdB wr a left ∧ (0 < left.length → ∀ b off, a = some ⟨b, off, none⟩ → b ≠ g) ∧
    HashAt wr g (m ++ done) (m.length + l.length) ∧ Frm w.heap.size (fun k => k = g) w wr

def lenOf : Value → Nat
  | .slice _ n _ => n
  | _ => 0

theorem write_rel {m l done left rest2 : List UInt8} {st2 : List UInt32} {a' a2 : Option Addr} {c' q g r2 all : Nat} {w wr wf : World} (hF : Frm w.heap.size (fun k => k = g) w wr) (hfr : Frm wr.heap.size (fun k => k = g) wr wf)
    (hdl : done ++ left = l) (hq : q ≤ left.length) (hc' : left.length ≤ c') (h0 : 0 < left.length) (hr : RdB wr a' left) (hne : 0 < left.length → ∀ b off, a' = some ⟨b, off, none⟩ → b ≠ g) (ha2 : (if c' = q then a' else a'.map (·.add q)) = a2)
    (hR : HRest ((m ++ done) ++ left.take q) rest2) (hst : wst ((m ++ done) ++ left.take q) (((m ++ done) ++ left.take q).length / 64) = st2) (hr2 : ((m ++ done) ++ left.take q).length % 64 = r2)
    (hg : wf.heap[g]? = some (.cells (hcells st2 rest2 (r2 : Int) (all : Int)).toArray 107 (0, 0))) (hall : m.length + l.length = all) : WriteRel m l g w (.slice a2 (left.length - q) (c' - q)) wf := by
  obtain ⟨b, off, rfl, hb⟩ := hr.lt (by rw [bvs_length]; exact h0)
  have hb2 : a2 = some ⟨b, off + q, none⟩ ∨ a2 = some ⟨b, off, none⟩ ∧ c' = q := by
    by_cases e : c' = q
    · rw [if_pos e] at ha2; exact .inr ⟨ha2.symm, e⟩
    · rw [if_neg e] at ha2; exact .inl (by rw [← ha2]; simp [Addr.add_lit])
  have hr3 : RdB wr a2 (left.drop q) := hr.dropB q (fun hl => by rcases hb2 with h | ⟨_, h⟩ <;> first | (rw [h]; simp [Addr.add_lit]; done) | (exfalso; omega))
  have hne2 : ∀ b' off', a2 = some ⟨b', off', none⟩ → b' ≠ g := by
    intro b' off' e
    rcases hb2 with h | ⟨h, _⟩ <;> (rw [h] at e; cases e; exact hne h0 _ _ rfl)
  refine ⟨⟨done ++ left.take q, left.drop q, a2, c' - q, by rw [List.append_assoc, List.take_append_drop, hdl], by rw [List.length_drop], by rw [List.length_drop]; omega, hr3.frm hfr (Nat.le_refl _) (fun b' off' e => hne2 b' off' e), (fun _ => hne2), ?_, hF.trans (hfr.mono hF.size (fun _ _ h => h))⟩⟩
  rw [← List.append_assoc, hall]
  exact ⟨rest2, hR, by rw [hst, hr2]; exact hg⟩

theorem heap_state {g : Nat} {s0 s1 s2 s3 s4 s5 s6 s7 n0 n1 n2 n3 n4 n5 n6 n7 : UInt32} {rest : List UInt8} {h a : Int} {t : TypeId} {fr : Nat × Nat} (hl : rest.length = 64) (w : World) (hg : w.heap[g]? = some (.cells (hcells [s0, s1, s2, s3, s4, s5, s6, s7] rest h a).toArray t fr)) :
    ((((((((((w.setCell ⟨g, 0, none⟩ (.int .u32 (n0.toNat : Int))).setCell ⟨g, 1, none⟩ (.int .u32 (n1.toNat : Int))).setCell ⟨g, 2, none⟩ (.int .u32 (n2.toNat : Int))).setCell ⟨g, 3, none⟩ (.int .u32 (n3.toNat : Int))).setCell ⟨g, 4, none⟩ (.int .u32 (n4.toNat : Int))).setCell ⟨g, 5, none⟩ (.int .u32 (n5.toNat : Int))).setCell ⟨g, 6, none⟩ (.int .u32 (n6.toNat : Int))).setCell ⟨g, 7, none⟩ (.int .u32 (n7.toNat : Int))).setCell ⟨g, 72, none⟩ (.int .i64 0))).heap[g]? = some (.cells (hcells [n0, n1, n2, n3, n4, n5, n6, n7] rest 0 a).toArray t fr) := by
  have h0 := row_set hg 0 (.int .u32 (n0.toNat : Int))
  have h1 := row_set h0 1 (.int .u32 (n1.toNat : Int))
  have h2 := row_set h1 2 (.int .u32 (n2.toNat : Int))
  have h3 := row_set h2 3 (.int .u32 (n3.toNat : Int))
  have h4 := row_set h3 4 (.int .u32 (n4.toNat : Int))
  have h5 := row_set h4 5 (.int .u32 (n5.toNat : Int))
  have h6 := row_set h5 6 (.int .u32 (n6.toNat : Int))
  have h7 := row_set h6 7 (.int .u32 (n7.toNat : Int))
  have e : ((((((((hcells [s0, s1, s2, s3, s4, s5, s6, s7] rest h a).toArray.setIfInBounds 0 (.int .u32 (n0.toNat : Int))).setIfInBounds 1 (.int .u32 (n1.toNat : Int))).setIfInBounds 2 (.int .u32 (n2.toNat : Int))).setIfInBounds 3 (.int .u32 (n3.toNat : Int))).setIfInBounds 4 (.int .u32 (n4.toNat : Int))).setIfInBounds 5 (.int .u32 (n5.toNat : Int))).setIfInBounds 6 (.int .u32 (n6.toNat : Int))).setIfInBounds 7 (.int .u32 (n7.toNat : Int)) = (hcells [n0, n1, n2, n3, n4, n5, n6, n7] rest h a).toArray := by
    simp [hcells, wvs, wv]
  rw [e] at h7
  rw [row_set h7 72 (.int .i64 0), hcells_have rfl hl]

theorem frm_state {g : Nat} {n0 n1 n2 n3 n4 n5 n6 n7 : UInt32} {B : Nat} {w0 w : World} (h : Frm B (fun k => k = g) w0 w) : Frm B (fun k => k = g) w0 ((((((((((w.setCell ⟨g, 0, none⟩ (.int .u32 (n0.toNat : Int))).setCell ⟨g, 1, none⟩ (.int .u32 (n1.toNat : Int))).setCell ⟨g, 2, none⟩ (.int .u32 (n2.toNat : Int))).setCell ⟨g, 3, none⟩ (.int .u32 (n3.toNat : Int))).setCell ⟨g, 4, none⟩ (.int .u32 (n4.toNat : Int))).setCell ⟨g, 5, none⟩ (.int .u32 (n5.toNat : Int))).setCell ⟨g, 6, none⟩ (.int .u32 (n6.toNat : Int))).setCell ⟨g, 7, none⟩ (.int .u32 (n7.toNat : Int))).setCell ⟨g, 72, none⟩ (.int .i64 0))) :=
  ((((((((h.setCell (p := ⟨g, 0, none⟩) (fun _ => rfl) _).setCell (p := ⟨g, 1, none⟩) (fun _ => rfl) _).setCell (p := ⟨g, 2, none⟩) (fun _ => rfl) _).setCell (p := ⟨g, 3, none⟩) (fun _ => rfl) _).setCell (p := ⟨g, 4, none⟩) (fun _ => rfl) _).setCell (p := ⟨g, 5, none⟩) (fun _ => rfl) _).setCell (p := ⟨g, 6, none⟩) (fun _ => rfl) _).setCell (p := ⟨g, 7, none⟩) (fun _ => rfl) _).setCell (p := ⟨g, 72, none⟩) (fun _ => rfl) _

set_option maxHeartbeats 1000000 in
theorem hWrite (g : Nat) (a : Option Addr) (n c : Nat) (m l : List UInt8) (w : World) (hT : Tabs w) (hg2 : 2 ≤ g) (h : HashAt w g m m.length) (hr : RdB w a l) (en : l.length = n) (hc : n ≤ c) (hne : 0 < l.length → ∀ b off, a = some ⟨b, off, none⟩ → b ≠ g)
    (hb : m.length + n ≤ 1000000000) :
    Calls Tryd.prog 28 #[.pointer (some ⟨g, 0, none⟩), .slice a n c] w fun e w' => e = .returned (.tuple #[]) ∧ HashAt w' g (m ++ l) (m.length + n) ∧ Frm w.heap.size (fun k => k = g) w w' := by
  subst en
  obtain ⟨rest, hrest, hg⟩ := h.out
  have hwl := wst_length m (m.length / 64)
  have hz := (Array.getElem?_eq_some_iff.1 hg).1
  have ca : w.cell? ⟨g, 73, none⟩ = some (.int .u64 (m.length : Int)) := by rw [cell_of_row w g 73 _ _ _ hg, hcells_getAll hwl hrest.len]
  have fa := frozen_of_row w g 73 _ _ hg
  have HG := Lib.hid hg; clear hg
  have HWL := Lib.hid hwl; clear hwl
  have HRR := Lib.hid hrest; clear hrest h
  have HNE := Lib.hid hne; clear hne
  have HT := Lib.hid hT; clear hT
  have HRD := Lib.hid hr; clear hr
  go_enter Tryd.func28, Tryd.ntmps28
  (repeat' ((fail_if_success at_builtin); first | go_values | go_skip | go_guarded | go_step | go_upon))
  have hF0 : Frm w.heap.size (fun k => k = g) w (w.setCell ⟨g, 73, none⟩ (.int .u64 ((m.length : Int) + (l.length : Int)))) := (Frm.refl w.heap.size (fun k => k = g) w).setCell (p := ⟨g, 73, none⟩) (fun _ => rfl) _
  have hA0 : HashAt (w.setCell ⟨g, 73, none⟩ (.int .u64 ((m.length : Int) + (l.length : Int)))) g (m ++ []) (m.length + l.length) :=
    ⟨rest, by rw [List.append_nil]; exact HRR.out, by rw [List.append_nil, row_set HG.out, hcells_all HWL.out HRR.out.len]; rfl⟩
  have hR0 : RdB (w.setCell ⟨g, 73, none⟩ (.int .u64 ((m.length : Int) + (l.length : Int)))) a l := HRD.out.frm0 hF0 (Nat.le_refl _) (fun h0 b off e => HNE.out (by rwa [bvs_length] at h0) b off e)
  have HA0 := Lib.hid hA0; clear hA0
  have HR0 := Lib.hid hR0; clear hR0
  clear ca fa
  go_loopw [1] (fun v wr => WriteRel m l g w v wr) (fun v _ => lenOf v)
  case atStart => exact ⟨⟨[], l, a, c, rfl, rfl, hc, HR0.out, HNE.out, HA0.out, hF0⟩⟩
  case round =>
    clear HR0 HA0 hF0 HG HWL HRR HNE HRD hc
    obtain ⟨⟨done, left, a', c', hdl, rfl, hc', hr', hne', hh, hF⟩⟩ := hrel
    obtain ⟨rest', hrest', hg'⟩ := hh.out
    obtain ⟨all, hall⟩ : ∃ all, m.length + l.length = all := ⟨_, rfl⟩
    rw [hall] at hg'
    have hlen : done.length + left.length = l.length := by rw [← hdl, List.length_append]
    have hml : (m ++ done).length = m.length + done.length := List.length_append
    have hwl := wst_length (m ++ done) ((m ++ done).length / 64)
    obtain ⟨st, hst⟩ : ∃ st, wst (m ++ done) ((m ++ done).length / 64) = st := ⟨_, rfl⟩
    obtain ⟨r, hrr⟩ : ∃ r, (m ++ done).length % 64 = r := ⟨_, rfl⟩
    rw [hst, hrr] at hg'
    rw [hst] at hwl
    have hr64 : r < 64 := by omega
    have hz' := (Array.getElem?_eq_some_iff.1 hg').1
    have ch : wr.cell? ⟨g, 72, none⟩ = some (.int .i64 (r : Int)) := by rw [cell_of_row wr g 72 _ _ _ hg', hcells_getHave hwl hrest'.len]
    have fh := frozen_of_row wr g 72 _ _ hg'
    have HST := Lib.hid hst; clear hst
    have HRM := Lib.hid hrr; clear hrr
    have HALL := Lib.hid hall; clear hall
    have HWL := Lib.hid hwl; clear hwl
    have HRR := Lib.hid hrest'; clear hrest'
    have HNE := Lib.hid hne'; clear hne'
    have HDL := Lib.hid hdl; clear hdl
    have HLEN := Lib.hid hlen; clear hlen
    have HML := Lib.hid hml; clear hml
    by_cases h0 : 0 < left.length
    · obtain ⟨q, hq⟩ : ∃ q, Nat.min left.length (64 - r) = q := ⟨_, rfl⟩
      have hq1 : q ≤ left.length := by rw [← hq]; exact Nat.min_le_left _ _
      have hq2 : q ≤ 64 - r := by rw [← hq]; exact Nat.min_le_right _ _
      have hx : (bvs (left.take q)).length = q := by rw [bvs_length, List.length_take]; omega
      have hgd : wr.drew.heap[g]? = some (.cells (hcells st rest' (r : Int) (all : Int)).toArray 107 (0, 0)) := hg'
      have hrd : RdC wr.drew a' (bvs (left.take q)) := RdC.congr (hr'.takeB q) (fun _ _ _ _ => rfl)
      have HQ := Lib.hid hq; clear hq
      have HX := Lib.hid hx; clear hx
      have HGD := Lib.hid hgd; clear hgd
      have HRD := Lib.hid hrd; clear hrd
      have HG := Lib.hid hg'; clear hg' hh
      have HR := Lib.hid hr'; clear hr'
      have br : (0 : Int) ≤ (r : Int) ∧ (r : Int) ≤ 64 := by omega
      have br3 : r ≤ 64 := by omega
      have br2 : ¬ (64 = r) := by omega
      (repeat' ((fail_if_success at_builtin); first | go_values | go_skip | go_guarded | go_step | go_upon))
      have hcn : (bvs (left.take q)).length = Nat.min left.length (64 - r) := by rw [HX.out, HQ.out]
      have HCN := Lib.hid hcn; clear hcn
      have hcf : 8 + r + (bvs (left.take q)).length ≤ (hcells st rest' (r : Int) (all : Int)).toArray.size := by rw [HX.out, List.size_toArray, hcells_length HWL.out HRR.out.len]; omega
      have HCF := Lib.hid hcf; clear hcf
      have hco := bvs_oneCell (left.take q)
      have HCO := Lib.hid hco; clear hco
      go_still_tail 9, (by kernel_rfl)
      change wpList _ _ _ _ _ wr.drew
      (repeat' ((fail_if_success at_builtin); first | (((with_reducible refine wpList_cp rfl _ _ _ _ rfl 5 Tryd.underlying22 hsz8 (some ⟨g, 8 + r, none⟩) a' (64 - r) (64 - r) left.length c' rfl rfl g (8 + r) _ _ HGD.out (bvs (left.take q)) HCN.out (fun _ => rfl) HRD.out HCF.out HCO.out ?_); intro w1 hg1 hG1; rw [HX.out]; have HG1 := Lib.hid hg1; clear hg1)) | go_values | go_skip | go_guarded | go_step | go_upon))
      obtain ⟨a2, ha2⟩ : ∃ a2, (if c' = q then a' else a'.map (·.add q)) = a2 := ⟨_, rfl⟩
      have hsl : ∀ w, (Instr.slice 22 (.slice a' left.length c') (some (.int .i64 (q : Int))) none none).run Tryd.prog w = .ok (.slice a2 (left.length - q) (c' - q)) w := fun w => by
        rw [← ha2]; exact run_slice_from _ _ Tryd.underlying22 hsz8 a' left.length c' q hq1 w
      have HA2 := Lib.hid ha2; clear ha2
      have hg1 := HG1.out
      rw [hcells_copy HWL.out HRR.out.len _ _ _ _ (by rw [← bvs_length, HX.out]; omega)] at hg1
      obtain ⟨rest2, hrest2⟩ : ∃ rest2, splice rest' r (left.take q) = rest2 := ⟨_, rfl⟩
      rw [hrest2] at hg1
      have hl2 : rest2.length = 64 := by rw [← hrest2, length_splice' _ _ _ (by rw [HRR.out.len, ← bvs_length, HX.out]; omega), HRR.out.len]
      have HR2 := Lib.hid hrest2; clear hrest2
      have ch1 : w1.cell? ⟨g, 72, none⟩ = some (.int .i64 (r : Int)) := by rw [cell_of_row w1 g 72 _ _ _ hg1, hcells_getHave HWL.out hl2]
      have fh1 := frozen_of_row w1 g 72 _ _ hg1
      have hz1 := (Array.getElem?_eq_some_iff.1 hg1).1
      clear ch fh HG1
      have HG1 := Lib.hid hg1; clear hg1
      have HL2 := Lib.hid hl2; clear hl2
      have bq : (0 : Int) ≤ (r : Int) + (q : Int) ∧ (r : Int) + (q : Int) ≤ 64 := by omega
      have bw : IntKind.i64.wrap ((r : Int) + (q : Int)) = (r : Int) + (q : Int) := IntWalk.i64_in _ (by omega)
      have hset := hcells_have (st := st) (rest := rest2) HWL.out HL2.out (r : Int) ((r : Int) + (q : Int)) (all : Int)
      have HSET := Lib.hid hset; clear hset
      by_cases hfull : r + q = 64
      · have hb64 : (((r : Int) + (q : Int)) == 64) = true := by simp; omega
        have HF := Lib.hid hfull; clear hfull
        go_region
        obtain ⟨w2, hw2⟩ : ∃ w2, (w1.setCell ⟨g, 72, none⟩ (.int .i64 ((r : Int) + (q : Int)))).drew = w2 := ⟨_, rfl⟩
        have hg2' : w2.heap[g]? = some (.cells (hcells st rest2 ((r : Int) + (q : Int)) (all : Int)).toArray 107 (0, 0)) := by
          rw [← hw2]; show (w1.setCell _ _).heap[g]? = _; rw [row_set HG1.out, HSET.out]
        have hF2 : Frm w.heap.size (fun k => k = g) w w2 := by
          rw [← hw2]
          exact (((hF.drew).grown hG1 hF.size (fun k e _ => by cases e; rfl)).setCell (p := ⟨g, 72, none⟩) (fun _ => rfl) _).drew
        rw [hw2]
        have c2 : w2.cell? ⟨g, 72, none⟩ = some (.int .i64 ((r : Int) + (q : Int))) := by rw [cell_of_row w2 g 72 _ _ _ hg2', hcells_getHave HWL.out HL2.out]
        have hF2s := hF2.size
        have hFR : Frm wr.heap.size (fun k => k = g) wr w2 := by
          rw [← hw2]
          have h1 : Frm wr.heap.size (fun k => k = g) wr w1 := ((Frm.refl _ _ wr).drew).grown hG1 (Nat.le_refl _) (fun k e _ => by cases e; rfl)
          exact (h1.setCell (p := ⟨g, 72, none⟩) (fun _ => rfl) _).drew
        have HFR := Lib.hid hFR; clear hFR
        clear hw2
        have HG2 := Lib.hid hg2'; clear hg2'
        have HF2 := Lib.hid hF2; clear hF2
        clear ch1 fh1 hsl
        have hrs := range_state HG2.out
        have hrr := range_rest HWL.out HG2.out
        have his : (Tryd.prog.info? 103).map (·.size) = some (wvs st).length := by rw [wvs_length, HWL.out]; exact size8
        have HRS := Lib.hid hrs; clear hrs
        have HRST := Lib.hid hrr; clear hrr
        have HIS := Lib.hid his; clear his
        have hT2 : Tabs w2 := HT.out.below (HF2.out.belowOf (B' := 2) HT.out.size (fun k e => by omega)) (Nat.le_refl _)
        have HT2 := Lib.hid hT2; clear hT2
        obtain ⟨N, hN⟩ : ∃ N, wblock st rest2 = N := ⟨_, rfl⟩
        have hNl : N.length = 8 := by rw [← hN, wblock_length, HWL.out]
        obtain ⟨s0, s1, s2, s3, s4, s5, s6, s7, hs⟩ := eight st HWL.out
        obtain ⟨n0, n1, n2, n3, n4, n5, n6, n7, hn⟩ := eight N hNl
        have hgs := HG2.out
        rw [hs] at hgs
        obtain ⟨e0, e1, e2, e3, e4, e5, e6, e7⟩ := stateCells hgs
        have HGS := Lib.hid hgs; clear hgs
        have HS := Lib.hid hs; clear hs
        rw [hn] at hN
        have HN := Lib.hid hN; clear hN hn hNl
        have hz2 := (Array.getElem?_eq_some_iff.1 HG2.out).1
        (repeat' ((fail_if_success at_builtin); first | go_values | go_skip | go_guarded | go_step | go_upon))
        go_region_law ((go_simp; go_at_call 86; refine (take8 g 8 s0 s1 s2 s3 s4 s5 s6 s7 n0 n1 n2 n3 n4 n5 n6 n7 st rest2 w2.drew w2 HT2.out HRST.out HL2.out HS.out HN.out rfl).mono ?_; rintro _ w3 ⟨rfl, hB3⟩; dsimp only; have hg3 := (hB3.block g hz2).trans HGS.out; obtain ⟨d0, d1, d2, d3, d4, d5, d6, d7⟩ := stateCells hg3; obtain ⟨f0, f1, f2, f3, f4, f5, f6, f7, f72⟩ := stateFree hg3; have d72 := (hB3.cell (p := ⟨g, 72, none⟩) hz2).trans c2; have HG3 := Lib.hid hg3; clear hg3))
        (repeat' ((fail_if_success at_builtin); first | go_values | go_skip | go_guarded | go_step | go_upon))
        go_roundw
        case rel =>
          go_light
          have hlx : (left.take q).length = q := by rw [← bvs_length, HX.out]
          have he := hrest_eq HRR.out (left.take q) (by rw [HRM.out, hlx, HF.out])
          rw [HRM.out, HR2.out, HST.out] at he
          have hF3 : Frm wr.heap.size (fun k => k = g) wr w3 := (HFR.out.trans ((Frm.refl _ _ w2).drew)).trans (Frm.ofBelow (hB3.mono HFR.out.size))
          have hfin := heap_state (n0 := n0) (n1 := n1) (n2 := n2) (n3 := n3) (n4 := n4) (n5 := n5) (n6 := n6) (n7 := n7) HL2.out w3 HG3.out
          have hfr := frm_state (n0 := n0) (n1 := n1) (n2 := n2) (n3 := n3) (n4 := n4) (n5 := n5) (n6 := n6) (n7 := n7) hF3
          have hst := he.2.1.trans HN.out
          clear HN HS HGS HG3 HG2 HRS HRST HT2
          refine write_rel hF ?_ HDL.out hq1 hc' h0 HR.out HNE.out HA2.out he.1 hst he.2.2 ?_ HALL.out
          · exact hfr
          · exact hfin
        case measure =>
          go_light
          have h64 := HF.out
          show left.length - q < left.length
          have : 0 < q := by omega
          omega
      · have hb64 : (((r : Int) + (q : Int)) == 64) = false := by simp; omega
        have HF := Lib.hid hfull; clear hfull
        go_region
        (repeat' ((fail_if_success at_builtin); first | go_values | go_skip | go_guarded | go_step | go_upon))
        go_roundw
        case rel =>
          go_light
          have hlx : (left.take q).length = q := by rw [← bvs_length, HX.out]
          have hnf := HF.out
          have he := hrest_lt HRR.out (left.take q) (by rw [HRM.out, hlx]; omega)
          rw [HRM.out, HR2.out, HST.out, hlx] at he
          have hF3 : Frm wr.heap.size (fun k => k = g) wr w1 := ((Frm.refl _ _ wr).drew).grown hG1 (Nat.le_refl _) (fun k e _ => by cases e; rfl)
          refine write_rel hF ((hF3.setCell (p := ⟨g, 72, none⟩) (fun _ => rfl) _).drew) HDL.out hq1 hc' h0 HR.out HNE.out HA2.out he.1 he.2.1 he.2.2 ?_ HALL.out
          show (w1.setCell _ _).heap[g]? = _
          rw [row_set HG1.out, HSET.out]
          rfl
        case measure =>
          go_light
          show left.length - q < left.length
          have hqq := HQ.out
          have : 0 < q := by rw [← hqq]; show 0 < min _ _; omega
          omega
    · (repeat' ((fail_if_success at_builtin); first | go_values | go_skip | go_guarded | go_step | go_upon))
      go_end0
      obtain rfl : left = [] := List.eq_nil_of_length_eq_zero (by omega)
      have hd : done = l := by have := HDL.out; rwa [List.append_nil] at this
      rw [hd] at hh
      exact ⟨rfl, hh, hF⟩

end Go.Proofs.YtdpfemhfmofmlaaDoor
