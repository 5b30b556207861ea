/- The keys that are drawn: the bytes of which they are drawn, and the keys, as the program and as the document have them. -/
import Derived.Test.YtdpfemhfmofmlaaDoorRef07
import Derived.Test.YtdpfemhfmofmlaaDoorRefO
import Derived.Test.YtdpfemhfmofmlaaDoorMacK
namespace Go.Proofs.YtdpfemhfmofmlaaDoor
set_option linter.unusedSimpArgs false
set_option linter.unusedVariables false
open Go.RowKit
set_option maxRecDepth 10000

theorem sizeKey : (Tryd.prog.info? 52).map (·.size) = some 32 := by kernel_rfl
theorem zeroKey : (Tryd.prog.info? 52).bind (fun i => i.zero.map (·.cells)) = some (List.replicate 32 (Value.int .u8 0)).toArray := by kernel_rfl

/-- Texts, each with its length ahead. -/
def dr (l : List ByteArray) : List UInt8 := l.foldl (fun b x => b ++ be8 x.size ++ x.data.toList) []
theorem dr_snoc (l : List ByteArray) (x : ByteArray) : dr (l ++ [x]) = dr l ++ be8 x.size ++ x.data.toList := by simp [dr]
theorem dr_step (L : List ByteArray) (j : Nat) (h : j < L.length) : dr (L.take j) ++ be8 L[j].size ++ L[j].data.toList = dr (L.take (j + 1)) := by
  rw [List.take_succ_eq_append_getElem h, dr_snoc]
theorem dr_length (L : List ByteArray) (B : Nat) (h : ∀ x ∈ L, x.size ≤ B) : (dr L).length ≤ L.length * (B + 8) := by
  have key : ∀ k, k ≤ L.length → (dr (L.take k)).length ≤ k * (B + 8) := by
    intro k
    induction k with
    | zero => intro _; simp [dr]
    | succ k ih =>
      intro hk
      have h1 := ih (by omega)
      have h2 := h L[k] (List.getElem_mem _)
      have h3 : L[k].data.toList.length = L[k].size := Array.length_toList
      rw [← dr_step L k (by omega), List.length_append, List.length_append, be8_length, h3, Nat.succ_mul]
      omega
  have := key L.length (Nat.le_refl _)
  rwa [List.take_length] at this

theorem rdc_newF (w : World) (cs : List Value) (t : TypeId) (fr : Nat × Nat) : RdC (w.alloc (.cells cs.toArray t fr)) (some ⟨w.heap.size, 0, none⟩) cs :=
  ⟨fun i hi => ⟨_, _, rfl, by rw [Nat.zero_add, cell_of_row _ w.heap.size i _ _ _ (heap_alloc_new w _)]; simp⟩⟩

/-- The first k cells are those of a digest, the others nought. -/
def part32 (l : List UInt8) (k : Nat) : List UInt8 := l.take k ++ List.replicate (32 - k) 0
theorem part32_zero (l : List UInt8) : part32 l 0 = List.replicate 32 0 := by simp [part32]
theorem part32_all (l : List UInt8) (h : l.length = 32) : part32 l 32 = l := by unfold part32; rw [List.take_of_length_le (by omega)]; simp
theorem part32_get (l : List UInt8) (k : Nat) (hk : k < 32) (h : l.length = 32) : (bvs (part32 l k)).toArray[k]? = some (.int .u8 0) := by
  unfold part32
  rw [List.getElem?_toArray, bvs_append, List.getElem?_append_right (by rw [bvs_length, List.length_take]; omega), bvs_length, List.length_take, show k - min k l.length = 0 by omega]
  obtain ⟨m, hm⟩ : ∃ m, 32 - k = m + 1 := ⟨31 - k, by omega⟩
  rw [hm]
  rfl
theorem part32_step (l : List UInt8) (k : Nat) (hk : k < l.length) (h : l.length = 32) : (bvs (part32 l k)).toArray.setIfInBounds k (.int .u8 (l[k].toNat : Int)) = (bvs (part32 l (k + 1))).toArray := by
  unfold part32
  rw [List.setIfInBounds_toArray, bvs_append, List.set_append_right _ _ (by rw [bvs_length, List.length_take]; omega), bvs_length, List.length_take, show k - min k l.length = 0 by omega]
  obtain ⟨m, hm⟩ : ∃ m, 32 - k = m + 1 := ⟨31 - k, by omega⟩
  rw [hm, show 32 - (k + 1) = m by omega, List.replicate_succ, List.take_succ_eq_append_getElem hk]
  unfold bvs
  simp only [List.map_cons, List.set_cons_zero, List.map_append, List.map_nil, List.append_assoc, List.cons_append, List.nil_append]
  rfl
structure PartRel (l : List UInt8) (w : World) (zs zo : Nat) (i : Value) (wr : World) : Prop where
  out : ∃ k : Nat, k ≤ 32 ∧ i = .int .i64 k ∧ Below w.heap.size w wr ∧ wr.heap[zo]? = some (.cells (bvs (part32 l k)).toArray 52 (0, 0)) ∧ wr.heap[zs]? = some (.cells (bvs l).toArray 26 (0, 0)) ∧ wr.heap[w.heap.size]? = some (.cells (List.replicate 32 (Value.int .u8 0)).toArray 52 (0, 0))

/-- The bytes that a key is drawn of. -/
def drawn (t s : ByteArray) (n : Int) : List UInt8 := dr [t, s] ++ be8 n
theorem drawn_eq (t s : ByteArray) (n : Int) : drawn t s n = be8 t.size ++ t.data.toList ++ be8 s.size ++ s.data.toList ++ be8 n := by simp [drawn, dr]
theorem drawn_length (t s : ByteArray) (n : Int) : (drawn t s n).length = 24 + t.size + s.size := by
  have h1 : t.data.size = t.size := rfl
  have h2 : s.data.size = s.size := rfl
  rw [drawn_eq]
  simp only [List.length_append, be8_length, Array.length_toList, h1, h2]
  omega

set_option maxHeartbeats 1000000 in
theorem drawsOf (v : Int) (a : Option Addr) (n c : Nat) (L : List ByteArray) (w : World) (hv : -9223372036854775808 ≤ v ∧ v ≤ 9223372036854775807) (hr : RdC w a (L.map Value.string)) (en : L.length = n) (hn : n ≤ 100) (hB : ∀ x ∈ L, x.size ≤ 4096) :
    Calls Tryd.prog 92 #[.int .i64 v, .slice a n c] w fun e w' => ∃ m, m = (dr L ++ be8 v).length ∧ m ≤ 420000 ∧ GotB w m (dr L ++ be8 v) e w' := by
  subst en
  have HR := Lib.hid hr; clear hr
  have HBB := Lib.hid hB; clear hB
  go_enter Tryd.func92, Tryd.ntmps92
  (repeat' ((fail_if_success at_builtin); first | go_values | go_skip | go_guarded | go_step | go_upon))
  go_loopw [5, 7, 10] (fun o _ i wr => ∃ (j : Nat) (ad : Option Addr) (m cc : Nat) (l : List UInt8), j ≤ L.length ∧ i = .int .i64 j ∧ o = .slice ad m cc ∧ m ≤ cc ∧ l.length = m ∧ l = dr (L.take j) ∧ m ≤ j * 4104 ∧ RdB wr ad l ∧ Below w.heap.size w wr) (fun _ _ i _ => L.length - (intOf i).toNat)
  case atStart => exact ⟨0, none, 0, 0, [], by omega, rfl, rfl, Nat.le_refl _, rfl, rfl, by omega, RdC.nil _ _, Below.refl _ _⟩
  case round =>
    obtain ⟨j, ad, m, cc, l, hj, rfl, rfl, hm, hl, hld, hmj, hrd, hBw⟩ := hrel
    have HL := Lib.hid hl; clear hl
    have HD := Lib.hid hld; clear hld
    have HRD := Lib.hid hrd; clear hrd
    by_cases hlt : j < L.length
    · obtain ⟨b, off, rfl, _⟩ := HR.out.lt (by simp; omega)
      have hc0 := (HR.out.below hBw (Nat.le_refl _)).cell j (by simpa using hlt)
      rw [List.getElem_map] at hc0
      have hsz := HBB.out L[j] (List.getElem_mem _)
      have HS := Lib.hid (dr_step L j hlt)
      generalize L[j] = x at *
      (repeat' ((fail_if_success at_builtin); first | go_values | go_skip | go_guarded | go_step | go_upon))
      refine (packText ad m cc l x wr HRD.out HL.out (by omega) (by omega)).mono ?_
      rintro _ w2 ⟨a2, c2, rfl, hc2, hr2, hB2, _⟩
      dsimp only
      have HR2 := Lib.hid hr2; clear hr2
      (repeat' ((fail_if_success at_builtin); first | go_values | go_skip | go_guarded | go_step | go_upon))
      go_roundw
      case rel => exact ⟨j + 1, a2, m + 8 + x.size, c2, _, by omega, by go_num, rfl, hc2, by rw [List.length_append, List.length_append, be8_length, HL.out, Array.length_toList]; rfl, by rw [← HS.out, HD.out], by omega, HR2.out, hBw.trans (hB2.mono hBw.size)⟩
      case measure => simp [intOf]; omega
    · obtain rfl : j = L.length := by omega
      (repeat' ((fail_if_success at_builtin); first | go_values | go_skip | go_guarded | go_step | go_upon))
      refine (packInt ad m cc l v wr HRD.out HL.out (by omega) hv).mono ?_
      rintro _ w2 ⟨a2, c2, rfl, h2⟩
      dsimp only
      (repeat' ((fail_if_success at_builtin); first | go_values | go_skip | go_guarded | go_step | go_upon))
      go_ret
      have hd := HD.out
      rw [List.take_length] at hd
      rw [← hd]
      exact ⟨m + 8, by rw [List.length_append, HL.out, be8_length], by omega, gotB_lift h2 hBw⟩

set_option maxHeartbeats 2000000 in
theorem drawsKey (a : Option Addr) (n c : Nat) (l : List UInt8) (t s : ByteArray) (v : Int) (H : List UInt8) (w : World) (hH : hmac l (drawn t s v) = H) (hT : Tabs w) (h1 : RdB w a l) (e1 : l.length = n) (hc : n ≤ c) (hn : n ≤ 200000000) (ht : t.size ≤ 4096) (hs : s.size ≤ 4096)
    (hv : -9223372036854775808 ≤ v ∧ v ≤ 9223372036854775807) :
    Calls Tryd.prog 47 #[.slice a n c, .string t, .string s, .int .i64 v] w fun e w' => e = .returned (.agg (bvs H).toArray) ∧ Below w.heap.size w w' := by
  obtain ⟨iK, zK, hiK, hzK, hcK⟩ := fresh_parts zeroKey
  have HIK := Lib.hid hiK; clear hiK
  have HZK := Lib.hid hzK; clear hzK
  have HCK := Lib.hid hcK; clear hcK
  have hts := hT.size
  have HT := Lib.hid hT; clear hT
  have HR1 := Lib.hid h1; clear h1
  have hHl : (bvs H).length = 32 := by rw [bvs_length, ← hH]; exact hmac_length _ _
  have HIH := Lib.hid (show (Tryd.prog.info? 52).map (·.size) = some (bvs H).length by rw [hHl]; exact sizeKey)
  have HFH := Lib.hid (show 0 + (bvs H).length ≤ (List.replicate 32 (Value.int .u8 0)).toArray.size by rw [hHl]; simp)
  have HHO := Lib.hid (bvs_oneCell H)
  have HHL := Lib.hid hHl; clear hHl
  have HH := Lib.hid hH; clear hH
  have HE1 := Lib.hid e1; clear e1
  go_enter Tryd.func47, Tryd.ntmps47
  (repeat' ((fail_if_success at_builtin); first | (((with_reducible refine wpList_alloc_fresh (w := w) rfl 52 rfl _ iK zK HIK.out HZK.out HCK.out ?_); intro w1 hg1 hB1 hs1; have HG1 := Lib.hid hg1; clear hg1; have HS1 := Lib.hid hs1; clear hs1)) | go_values | go_skip | go_guarded | go_step | go_upon))
  have hB1' : Below w.heap.size w (w1.alloc (.cells #[.string t, .string s] 9)) := hB1.alloc hB1.size _
  refine (drawsOf v _ 2 2 [t, s] _ hv (rdc_newF w1 [.string t, .string s] 9 (0, 0)) rfl (by decide) (by intro x hx; simp at hx; rcases hx with rfl | rfl <;> assumption)).mono ?_
  rintro _ w2 ⟨m, hm, hmb, a2, c2, rfl, hc2, hr2, hB2, _⟩
  dsimp only
  have hq2 := (hB2.block w.heap.size (by have := HS1.out; simp; omega)).trans ((Below.heap_alloc w1 _ _ (by have := HS1.out; omega)).trans HG1.out)
  have hB02 : Below w.heap.size w w2 := hB1'.trans (hB2.mono hB1'.size)
  have HM := Lib.hid hm; clear hm
  have HR2 := Lib.hid hr2; clear hr2
  have HQ2 := Lib.hid hq2; clear hq2
  (repeat' ((fail_if_success at_builtin); first | go_values | go_skip | go_guarded | go_step | go_upon))
  refine (macOf a a2 n m c c2 l (drawn t s v) H w2 HH.out (HT.out.below hB02 hts) (HR1.out.below hB02 (Nat.le_refl _)) HR2.out HE1.out HM.out.symm hc hc2 hn (by omega)).mono ?_
  rintro _ w3 ⟨rfl, hB3⟩
  dsimp only
  have hB03 : Below w.heap.size w w3 := hB02.trans (hB3.mono hB02.size)
  have hq3 := (hB3.block w.heap.size (Array.getElem?_eq_some_iff.1 HQ2.out).1).trans HQ2.out
  have HQ3 := Lib.hid hq3; clear hq3
  (repeat' ((fail_if_success at_builtin); first | (((with_reducible refine wpList_store_blk rfl 52 _ _ rfl w.heap.size 0 (bvs H) rfl rfl _ _ HQ3.out HFH.out HIH.out HHO.out ?_); intro wz hgz hGz; have HGZ := Lib.hid hgz; clear hgz)) | go_values | go_skip | go_guarded | go_step | go_upon))
  have hgz := HGZ.out
  rw [splice_whole _ _ (by rw [HHL.out]; simp)] at hgz
  have hR := run_loadVar_mid (P := Tryd.prog) wz w.heap.size 0 52 (bvs H) _ (rangeAt_whole hgz) Tryd.underlying52 rfl HIH.out
  have HR3 := Lib.hid hR; clear hR
  clear hgz
  exact bodyPost_ret (results_cell rfl _ _ _ ⟨w.heap.size, 0, none⟩ rfl _ HR3.out) rfl ⟨rfl, hB03.grown hGz hB03.size (fun k e => by cases e; exact Nat.le_refl _)⟩

set_option maxHeartbeats 1000000 in
theorem refOf15 (t s : ByteArray) (v : Int) (w : World) (hv : -9223372036854775808 ≤ v ∧ v ≤ 9223372036854775807) (ht : t.size ≤ 4096) (hs : s.size ≤ 4096) :
    Calls Tryd.prog 93 #[.string t, .string s, .int .i64 v] w (GotB w (24 + t.size + s.size) (drawn t s v)) := by
  go_enter Tryd.func93, Tryd.ntmps93
  (repeat' ((fail_if_success at_builtin); first | go_values | go_skip | go_guarded | go_step | go_upon))
  refine (refText none 0 0 [] t w (RdC.nil _ _) rfl (by decide) (by omega)).mono ?_
  rintro _ w1 ⟨a1, c1, rfl, hc1, hr1, hB1, _⟩
  dsimp only
  (repeat' ((fail_if_success at_builtin); first | go_values | go_skip | go_guarded | go_step | go_upon))
  have hl1 : ([] ++ be8 t.size ++ t.data.toList).length = 0 + 8 + t.size := by rw [List.length_append, List.length_append, be8_length, Array.length_toList]; rfl
  have HL1 := Lib.hid hl1; clear hl1
  refine (refText a1 _ c1 _ s w1 hr1 HL1.out (by omega) (by omega)).mono ?_
  rintro _ w2 ⟨a2, c2, rfl, hc2, hr2, hB2, _⟩
  dsimp only
  (repeat' ((fail_if_success at_builtin); first | go_values | go_skip | go_guarded | go_step | go_upon))
  have hl2 : ([] ++ be8 t.size ++ t.data.toList ++ be8 s.size ++ s.data.toList).length = 0 + 8 + t.size + 8 + s.size := by rw [List.length_append, List.length_append, HL1.out, be8_length, Array.length_toList]; rfl
  have HL2 := Lib.hid hl2; clear hl2
  refine (refInt a2 _ c2 _ v w2 hr2 HL2.out (by omega) hv).mono ?_
  rintro _ w3 ⟨a3, c3, rfl, h3⟩
  dsimp only
  (repeat' ((fail_if_success at_builtin); first | go_values | go_skip | go_guarded | go_step | go_upon))
  go_ret
  exact gotB_lift h3 (hB1.trans (hB2.mono hB1.size))

set_option maxHeartbeats 2000000 in
theorem refKey15 (a : Option Addr) (n c : Nat) (l : List UInt8) (t s : ByteArray) (v : Int) (H : List UInt8) (w : World) (hH : hmac l (drawn t s v) = H) (h1 : RdB w a l) (e1 : l.length = n) (hn : n ≤ 200000000) (ht : t.size ≤ 4096) (hs : s.size ≤ 4096)
    (hv : -9223372036854775808 ≤ v ∧ v ≤ 9223372036854775807) :
    Calls Tryd.prog 48 #[.slice a n c, .string t, .string s, .int .i64 v] w fun e w' => e = .returned (.agg (bvs H).toArray) ∧ Below w.heap.size w w' := by
  obtain ⟨iK, zK, hiK, hzK, hcK⟩ := fresh_parts zeroKey
  have HIK := Lib.hid hiK; clear hiK
  have HZK := Lib.hid hzK; clear hzK
  have HCK := Lib.hid hcK; clear hcK
  obtain ⟨iS, zS, hiS, hzS, hcS⟩ := fresh_parts zeroSum
  have HIS := Lib.hid hiS; clear hiS
  have HZS := Lib.hid hzS; clear hzS
  have HCS := Lib.hid hcS; clear hcS
  have HR1 := Lib.hid h1; clear h1
  have hHl : (bvs H).length = 32 := by rw [bvs_length, ← hH]; exact hmac_length _ _
  have HIH := Lib.hid (show (Tryd.prog.info? 52).map (·.size) = some (bvs H).length by rw [hHl]; exact sizeKey)
  have HIS2 := Lib.hid (show (Tryd.prog.info? 26).map (·.size) = some (bvs H).length by rw [hHl]; exact sizeSum)
  have HFH := Lib.hid (show 0 + (bvs H).length ≤ (List.replicate 32 (Value.int .u8 0)).toArray.size by rw [hHl]; simp)
  have HHO := Lib.hid (bvs_oneCell H)
  have HHL := Lib.hid hHl; clear hHl
  have HH := Lib.hid hH; clear hH
  have HE1 := Lib.hid e1; clear e1
  go_enter Tryd.func48, Tryd.ntmps48
  (repeat' ((fail_if_success at_builtin); first | (((with_reducible refine wpList_alloc_fresh (w := w) rfl 52 rfl _ iK zK HIK.out HZK.out HCK.out ?_); intro w1 hg1 hB1 hs1; have HG1 := Lib.hid hg1; clear hg1; have HS1 := Lib.hid hs1; clear hs1)) | go_values | go_skip | go_guarded | go_step | go_upon))
  refine (refOf15 t s v w1 hv ht hs).mono ?_
  rintro _ w2 ⟨a2, c2, rfl, hc2, hr2, hB2, _⟩
  dsimp only
  have hB02 : Below w.heap.size w w2 := hB1.trans (hB2.mono hB1.size)
  have hq2 := (hB2.block w.heap.size (by have := HS1.out; omega)).trans HG1.out
  have HR2 := Lib.hid hr2; clear hr2
  have HQ2 := Lib.hid hq2; clear hq2
  (repeat' ((fail_if_success at_builtin); first | go_values | go_skip | go_guarded | go_step | go_upon))
  refine (refOf a a2 n (24 + t.size + s.size) c c2 l (drawn t s v) H w2 HH.out (HR1.out.below hB02 (Nat.le_refl _)) HR2.out HE1.out (drawn_length t s v) hn (by omega)).mono ?_
  rintro _ w3 ⟨rfl, hB3⟩
  dsimp only
  have hB03 : Below w.heap.size w w3 := hB02.trans (hB3.mono hB02.size)
  have hq3 := (hB3.block w.heap.size (Array.getElem?_eq_some_iff.1 HQ2.out).1).trans HQ2.out
  have hw3 : w.heap.size < w3.heap.size := (Array.getElem?_eq_some_iff.1 hq3).1
  have HQ3 := Lib.hid hq3; clear hq3
  (repeat' ((fail_if_success at_builtin); first | (first | ((with_reducible refine wpList_alloc_fresh (w := w3) rfl 26 rfl _ iS zS HIS.out HZS.out HCS.out ?_); intro w4 hg4 hB4 hs4; have HG4 := Lib.hid hg4; clear hg4; have HS4 := Lib.hid hs4; clear hs4) | ((with_reducible refine wpList_store_blk rfl 26 _ _ rfl w3.heap.size 0 (bvs H) rfl rfl _ _ HG4.out HFH.out HIS2.out HHO.out ?_); intro w5 hg5 hG5; rw [splice_whole _ _ (by rw [HHL.out];simp)] at hg5; have HG5 := Lib.hid hg5; clear hg5) | ((with_reducible refine wpList_alloc_fresh (w := w5) rfl 52 rfl _ iK zK HIK.out HZK.out HCK.out ?_); intro w6 hg6 hB6 hs6; have HG6 := Lib.hid hg6; clear hg6; have HS6 := Lib.hid hs6; clear hs6)) | go_values | go_skip | go_guarded | go_step | go_upon))
  have hB35 : Below w3.heap.size w3 w5 := hB4.grown hG5 (by have := HS4.out; omega) (fun g e => by cases e; exact Nat.le_refl _)
  have hB36 : Below w3.heap.size w3 w6 := hB35.trans (hB6.mono hB35.size)
  have hB06 : Below w.heap.size w w6 := hB03.trans (hB36.mono hB03.size)
  have hq6 := (hB36.block w.heap.size hw3).trans HQ3.out
  have hs6 := (hB6.block w3.heap.size (Array.getElem?_eq_some_iff.1 HG5.out).1).trans HG5.out
  have h56 : w3.heap.size < w5.heap.size := (Array.getElem?_eq_some_iff.1 HG5.out).1
  obtain ⟨zs, hzs⟩ : ∃ z, w3.heap.size = z := ⟨_, rfl⟩
  obtain ⟨zo, hzo⟩ : ∃ z, w5.heap.size = z := ⟨_, rfl⟩
  have hg6 := HG6.out
  rw [hzs] at hs6 h56 hw3 ⊢
  rw [hzo] at hg6 h56 ⊢
  have HS6' := Lib.hid hs6; clear hs6
  have HG6' := Lib.hid hg6; clear hg6
  have HQ6 := Lib.hid hq6; clear hq6
  clear hzs hzo HG6 HS6 hB4 hG5 hB6 HS4 HG4 HG5 hB35 hB36
  go_loopw [11] (fun i wr => PartRel H w zs zo i wr) (fun i _ => 32 - (intOf i).toNat)
  case atStart => exact ⟨⟨0, by omega, rfl, hB06, by rw [part32_zero]; exact HG6'.out, HS6'.out, HQ6.out⟩⟩
  case round =>
    obtain ⟨⟨k, hk, rfl, hB, hgo, hgs, hgw⟩⟩ := hrel
    have hH32 : H.length = 32 := by have := HHL.out; rwa [bvs_length] at this
    by_cases hlt : k < 32
    · have hkl : k < H.length := by rw [hH32]; exact hlt
      have bk : (0 : Int) ≤ (k : Int) ∧ (k : Int) < 32 := by omega
      have hc1 : wr.cell? ⟨zo, k, none⟩ = some (.int .u8 0) := by rw [cell_of_row wr _ k _ _ _ hgo, part32_get H k hlt hH32]
      have hc2 : wr.cell? ⟨zs, k, none⟩ = some (.int .u8 (H[k].toNat : Int)) := by rw [cell_of_row wr _ k _ _ _ hgs]; simp [bvs, bv, hkl]
      have hf1 := frozen_of_row wr zo k _ _ hgo
      have hst := part32_step H k hkl hH32
      have HGO := Lib.hid hgo; clear hgo
      have HGS := Lib.hid hgs; clear hgs
      have HGW := Lib.hid hgw; clear hgw
      generalize H[k] = x at hc2 hst
      have HST := Lib.hid hst; clear hst
      clear hH32 hkl
      (repeat' ((fail_if_success at_builtin); first | go_values | go_skip | go_guarded | go_step | go_upon))
      go_roundw
      case rel =>
        go_light
        refine ⟨⟨k + 1, by omega, by go_num, hB.setCell (by show _ ≤ zo; omega) _, ?_, ?_, ?_⟩⟩
        · rw [row_set HGO.out, HST.out]
        · exact (Below.heap_setCell _ _ _ _ (by show zs ≠ zo; omega)).trans HGS.out
        · exact (Below.heap_setCell _ _ _ _ (by show w.heap.size ≠ zo; omega)).trans HGW.out
      case measure => go_light; simp [intOf]; omega
    · have hkk : k = 32 := by omega
      rw [hkk, part32_all H hH32] at hgo
      have HRA := Lib.hid (rangeAt_whole hgo)
      have HGW := Lib.hid hgw; clear hgw
      subst hkk
      clear hH32 hgo hgs
      (repeat' ((fail_if_success at_builtin); first | (first | (with_reducible refine wpList_load_mid rfl 52 _ rfl zo 0 rfl (bvs H) _ HRA.out Tryd.underlying52 rfl HIH.out ?_) | ((with_reducible refine wpList_store_blk rfl 52 _ _ rfl w.heap.size 0 (bvs H) rfl rfl _ _ HGW.out HFH.out HIH.out HHO.out ?_); intro wz hgz hGz; have HGZ := Lib.hid hgz; clear hgz)) | go_values | go_skip | go_guarded | go_step | go_upon))
      have hgz := HGZ.out
      rw [splice_whole _ _ (by rw [HHL.out]; simp)] at hgz
      have hR := run_loadVar_mid (P := Tryd.prog) wz w.heap.size 0 52 (bvs H) _ (rangeAt_whole hgz) Tryd.underlying52 rfl HIH.out
      have HR3 := Lib.hid hR; clear hR
      clear hgz
      exact bodyPost_ret (results_cell rfl _ _ _ ⟨w.heap.size, 0, none⟩ rfl _ HR3.out) rfl ⟨rfl, hB.grown hGz hB.size (fun k e => by cases e; exact Nat.le_refl _)⟩

end Go.Proofs.YtdpfemhfmofmlaaDoor
