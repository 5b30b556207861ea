/- What package sha computes: the sum of bytes. -/
import Derived.Test.YtdpfemhfmofmlaaDoorHashSum
namespace Go.Proofs.YtdpfemhfmofmlaaDoor
set_option linter.unusedSimpArgs false
open Go.RowKit
set_option maxRecDepth 10000

/-- A new hash, in a later world. -/
theorem hNew' (w0 w : World) (hT : Tabs w0) (hB : Below w0.heap.size w0 w) :
    Calls Tryd.prog 27 #[] w fun e w' => e = .returned (.pointer (some ⟨w.heap.size, 0, none⟩)) ∧ HashAt w' w.heap.size [] 0 ∧ Below w.heap.size w w' ∧ w'.heap.size = w.heap.size + 1 :=
  hNew w (hT.below hB hT.size)

set_option maxHeartbeats 1000000 in
theorem shaSum (a : Option Addr) (n c : Nat) (l : List UInt8) (w : World) (hT : Tabs w) (hr : RdB w a l) (en : l.length = n) (hc : n ≤ c) (hn : n ≤ 400000000) :
    Calls Tryd.prog 24 #[.slice a n c] w fun e w' => e = .returned (.agg (bvs (wdig l)).toArray) ∧ Below w.heap.size w w' := by
  subst en
  obtain ⟨iS, zS, hiS, hzS, hcS⟩ := fresh_parts zeroSum
  have HIS := Lib.hid hiS; clear hiS
  have HZS := Lib.hid hzS; clear hzS
  have HCS := Lib.hid hcS; clear hcS
  have HT := Lib.hid hT; clear hT
  have HR := Lib.hid hr; clear hr
  go_enter Tryd.func24, Tryd.ntmps24
  (repeat' ((fail_if_success at_builtin); first | (((with_reducible refine wpList_alloc_fresh (w := w) rfl 26 rfl _ iS zS HIS.out HZS.out HCS.out ?_); intro w1 hg1 hB1 hs1; have HG1 := Lib.hid hg1; clear hg1; have HS1 := Lib.hid hs1; clear hs1)) | go_values | go_skip | go_guarded | go_step | go_upon))
  have hts := HT.out.size
  refine (hNew w1 (HT.out.below hB1 hts)).mono ?_
  rintro _ w2 ⟨rfl, hh2, hB2, hs2⟩
  dsimp only
  have hB02 : Below w.heap.size w w2 := hB1.trans (hB2.mono hB1.size)
  have HS2 := Lib.hid hs2; clear hs2
  have HH2 := Lib.hid hh2; clear hh2
  (repeat' ((fail_if_success at_builtin); first | go_values | go_skip | go_guarded | go_step | go_upon))
  have hle := hB1.size
  have hne : 0 < l.length → ∀ b off, a = some ⟨b, off, none⟩ → b ≠ w1.heap.size := by
    intro h0 b off e
    obtain ⟨b', off', e', hb⟩ := HR.out.lt (by rw [bvs_length]; exact h0)
    rw [e] at e'
    cases e'
    have := HS1.out
    omega
  refine (hWrite w1.heap.size a _ c [] l w2 (HT.out.below hB02 hts) (by omega) HH2.out (HR.out.below hB02 (Nat.le_refl _)) rfl hc hne (by simp; omega)).mono ?_
  rintro _ w3 ⟨rfl, hh3, hF3⟩
  dsimp only
  rw [List.nil_append, List.length_nil, Nat.zero_add] at hh3
  have hB03 : Below w.heap.size w w3 := hB02.trans (hF3.belowOf (by have := hB02.size; omega) (fun k e => by omega))
  have hq3 := (hF3.block w.heap.size (by have := HS1.out; have := HS2.out; omega) (by have := HS1.out; omega)).trans ((hB2.block _ (by have := HS1.out; omega)).trans HG1.out)
  have HH3 := Lib.hid hh3; clear hh3
  have HQ3 := Lib.hid hq3; clear hq3
  (repeat' ((fail_if_success at_builtin); first | go_values | go_skip | go_guarded | go_step | go_upon))
  refine (hSum w1.heap.size l w3 (HT.out.below hB03 hts) HH3.out (by omega)).mono ?_
  rintro _ w4 ⟨rfl, hB4⟩
  dsimp only
  have hq4 := (hB4.block w.heap.size (Array.getElem?_eq_some_iff.1 HQ3.out).1).trans HQ3.out
  have HQ4 := Lib.hid hq4; clear hq4
  have hB04 : Below w.heap.size w w4 := hB03.trans (hB4.mono hB03.size)
  obtain ⟨D, hD⟩ : ∃ D, wdig l = D := ⟨_, rfl⟩
  rw [hD]
  have hDl : (bvs D).length = 32 := by rw [bvs_length, ← hD, wdig_length]
  have HD := Lib.hid hD; clear hD
  have hiD : (Tryd.prog.info? 26).map (·.size) = some (bvs D).length := by rw [hDl]; exact sizeSum
  have hfD : 0 + (bvs D).length ≤ (List.replicate 32 (Value.int .u8 0)).toArray.size := by rw [hDl]; simp
  have HID := Lib.hid hiD; clear hiD
  have HFD := Lib.hid hfD; clear hfD
  have HDO := Lib.hid (bvs_oneCell D)
  have HDL := Lib.hid hDl; clear hDl
  (repeat' ((fail_if_success at_builtin); first | (((with_reducible refine wpList_store_blk rfl 26 _ _ rfl w.heap.size 0 (bvs D) rfl rfl _ _ HQ4.out HFD.out HID.out HDO.out ?_); intro wz hgz hGz; have HGZ := Lib.hid hgz; clear hgz)) | go_values | go_skip | go_guarded | go_step | go_upon))
  have hgz := HGZ.out
  rw [splice_whole _ _ (by rw [HDL.out]; simp)] at hgz
  have hR := run_loadVar_mid (P := Tryd.prog) wz w.heap.size 0 26 (bvs D) _ (rangeAt_whole hgz) Tryd.underlying26 rfl HID.out
  have HR2 := Lib.hid hR; clear hR
  clear hgz
  exact bodyPost_ret (results_cell rfl _ _ _ ⟨w.heap.size, 0, none⟩ rfl _ HR2.out) rfl ⟨by rw [HD.out], hB04.grown hGz hB04.size (fun k e => by cases e; exact Nat.le_refl _)⟩

theorem rdb_newF (w : World) (s : List UInt8) (t : TypeId) (fr : Nat × Nat) : RdB (w.alloc (.cells (bvs s).toArray t fr)) (some ⟨w.heap.size, 0, none⟩) s := by
  refine ⟨fun i hi => ⟨_, _, rfl, ?_⟩⟩
  rw [cell_of_row _ w.heap.size (0 + i) (bvs s).toArray t fr (heap_alloc_new w _)]
  simp

/-- Bytes that were just laid are written. -/
theorem hWriteNew (g : Nat) (n : Nat) (m l : List UInt8) (cs : Array Value) (fr : Nat × Nat) (w : World) (hT : Tabs w) (hg2 : 2 ≤ g) (h : HashAt w g m m.length) (hcs : (bvs l).toArray = cs) (en : l.length = n) (hb : m.length + n ≤ 1000000000) :
    Calls Tryd.prog 28 #[.pointer (some ⟨g, 0, none⟩), .slice (some ⟨w.heap.size, 0, none⟩) n n] (w.alloc (.cells cs 5 fr)) fun e w' => e = .returned (.tuple #[]) ∧ HashAt w' g (m ++ l) (m ++ l).length ∧ Frm w.heap.size (fun k => k = g) w w' := by
  subst hcs
  have hBa : Below w.heap.size w (w.alloc (.cells (bvs l).toArray 5 fr)) := (Below.refl w.heap.size w).alloc (Nat.le_refl _) _
  have hgl := h.lt
  refine (hWrite g (some ⟨w.heap.size, 0, none⟩) n n m l _ (hT.below hBa hT.size) hg2 (h.below hBa hgl) (rdb_newF w l _ _) en (Nat.le_refl _) (fun _ b off e => by cases e; omega) hb).mono fun e w' ⟨h1, h2, h3⟩ => ⟨h1, by rw [List.length_append, en]; exact h2, (Frm.ofBelow hBa).trans (h3.mono (by simp) (fun _ _ hk => hk))⟩

end Go.Proofs.YtdpfemhfmofmlaaDoor
