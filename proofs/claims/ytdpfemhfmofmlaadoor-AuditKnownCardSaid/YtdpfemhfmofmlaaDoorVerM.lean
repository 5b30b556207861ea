/- Two chains that hold against one head: they are the same, or a place is shown (no program in sight). -/
import Derived.Test.YtdpfemhfmofmlaaDoorChain21
import Derived.Test.YtdpfemhfmofmlaaDoorWorks21
import Derived.Deep.DeepCutAuto
import Derived.Deep.CutRange
import Derived.Test.YtdpfemhfmofmlaaDoorTurnM
namespace Go.Proofs.YtdpfemhfmofmlaaDoor
open Go.RowKit

theorem be8_inj {u v : Int} (hu : I64 u) (hv : I64 v) (h : be8 u = be8 v) : u = v := by
  have e : ∀ (v : Int) (k : Nat), ((u8 (nb v k)).toNat : Int) = nb v k := fun v k => by
    have := bv_u8 (nb v k) (nb_lt v k)
    unfold bv at this
    exact (Value.int.inj this).2
  unfold be8 at h
  simp only [List.cons.injEq, and_true] at h
  obtain ⟨h7, h6, h5, h4, h3, h2, h1, h0⟩ := h
  have f : ∀ k, u8 (nb u k) = u8 (nb v k) → nb u k = nb v k := fun k hk => by rw [← e u k, ← e v k, hk]
  replace h0 := f 0 h0
  replace h1 := f 1 h1
  replace h2 := f 2 h2
  replace h3 := f 3 h3
  replace h4 := f 4 h4
  replace h5 := f 5 h5
  replace h6 := f 6 h6
  replace h7 := f 7 h7
  clear e f
  unfold I64 at hu hv
  simp only [nb, Nat.mul_zero, Nat.mul_one, Int.pow_zero, Int.ediv_one, Nat.reduceMul, Int.reducePow] at h0 h1 h2 h3 h4 h5 h6 h7
  have st : ∀ a b : Int, a % 256 = b % 256 → a / 256 = b / 256 → a = b := fun a b h1 h2 => by omega
  have d : ∀ w : Int, w / 65536 = w / 256 / 256 ∧ w / 16777216 = w / 65536 / 256 ∧ w / 4294967296 = w / 16777216 / 256 ∧ w / 1099511627776 = w / 4294967296 / 256 ∧ w / 281474976710656 = w / 1099511627776 / 256 ∧ w / 72057594037927936 = w / 281474976710656 / 256 := fun w => by omega
  obtain ⟨u2, u3, u4, u5, u6, u7⟩ := d u
  obtain ⟨v2, v3, v4, v5, v6, v7⟩ := d v
  clear d
  have g7 : u / 72057594037927936 = v / 72057594037927936 := by clear h0 h1 h2 h3 h4 h5 h6 u2 u3 u4 u5 u6 u7 v2 v3 v4 v5 v6 v7; omega
  have g6 := st _ _ h6 (by rw [← u7, ← v7]; exact g7)
  have g5 := st _ _ h5 (by rw [← u6, ← v6]; exact g6)
  have g4 := st _ _ h4 (by rw [← u5, ← v5]; exact g5)
  have g3 := st _ _ h3 (by rw [← u4, ← v4]; exact g4)
  have g2 := st _ _ h2 (by rw [← u3, ← v3]; exact g3)
  have g1 := st _ _ h1 (by rw [← u2, ← v2]; exact g2)
  exact st _ _ h0 g1
theorem ba_inj {s t : ByteArray} (h : s.data.toList = t.data.toList) : s = t := by
  cases s; cases t; simp at h; simp [h]
theorem app_len {a b c d : List UInt8} (hl : a.length = c.length) (h : a ++ b = c ++ d) : a = c ∧ b = d := List.append_inj h hl
/-- A row's bytes tell the digest ahead and the row, but for its sum. -/
theorem bytes_inj {p q : List UInt8} {x y : Ent} (hp : p.length = 32) (hq : q.length = 32) (hx : x.Ok) (hy : y.Ok) (h : x.bytes p = y.bytes q) (hs : x.sum = y.sum) : p = q ∧ x = y := by
  unfold Ent.bytes at h
  simp only [List.append_assoc] at h
  obtain ⟨e0, h⟩ := app_len (by rw [hp, hq]) h
  obtain ⟨e1, h⟩ := app_len (by simp only [be8_length]) h
  obtain ⟨e2, h⟩ := app_len (by simp only [be8_length]) h
  obtain ⟨e3, h⟩ := app_len (by simp only [be8_length]) h
  obtain ⟨e4, h⟩ := app_len (by simp only [be8_length]) h
  obtain ⟨e5, h⟩ := app_len (by simp only [be8_length]) h
  obtain ⟨e6, h⟩ := app_len (by simp only [be8_length]) h
  have b1 := hx.stream
  have b2 := hy.stream
  have b3 := hx.subject
  have b4 := hy.subject
  unfold maxLen at b1 b2 b3 b4
  have i6 := be8_inj ⟨by omega, by omega⟩ ⟨by omega, by omega⟩ e6
  have l6 : x.stream.data.toList.length = y.stream.data.toList.length := by
    have g1 : x.stream.data.toList.length = x.stream.size := rfl
    have g2 : y.stream.data.toList.length = y.stream.size := rfl
    omega
  obtain ⟨e7, h⟩ := app_len l6 h
  obtain ⟨e8, h⟩ := app_len (by simp only [be8_length]) h
  exact ⟨e0, Ent.ext' (be8_inj hx.no hy.no e1) (be8_inj hx.clock hy.clock e2) (be8_inj hx.kind hy.kind e3) (be8_inj hx.code hy.code e4) (be8_inj hx.id hy.id e5) (ba_inj e7) (ba_inj h) hs⟩

/-- At a place of two lists there are two unlike texts with one digest. -/
def ShownAt (l m : List Ent) (i : Nat) : Prop := ∃ (h1 : i < l.length) (h2 : i < m.length), l[i].bytes (headOf (l.take i)) ≠ m[i].bytes (headOf (m.take i)) ∧ wdig (l[i].bytes (headOf (l.take i))) = wdig (m[i].bytes (headOf (m.take i)))

theorem row_self {pre : List Ent} {x : Ent} (h : rowOf pre x = x) : x.sum = wdig (x.bytes (headOf pre)) := by
  have e1 : (rowOf pre x).no = x.no := by rw [h]
  have e2 : (rowOf pre x).sum = x.sum := by rw [h]
  have e3 : x.no = (pre.length : Int) + 1 := e1.symm
  rw [← e2]
  show wdig (Ent.bytes (headOf pre) { x with no := (pre.length : Int) + 1 }) = _
  rw [← e3]

theorem holds_one (l m : List Ent) (hl : ∀ x ∈ l, x.Ok) (hm : ∀ x ∈ m, x.Ok) (hlen : l.length = m.length) (h1 : ∀ k (hk : k < l.length), rowOf (l.take k) l[k] = l[k]) (h2 : ∀ k (hk : k < m.length), rowOf (m.take k) m[k] = m[k]) (hh : headOf l = headOf m) (hn : ∀ i, ¬ ShownAt l m i) :
    ∀ d k, k + d = l.length → l.drop k = m.drop k ∧ headOf (l.take k) = headOf (m.take k) := by
  intro d
  induction d with
  | zero =>
    intro k hk
    obtain rfl : k = l.length := by omega
    refine ⟨?_, ?_⟩
    · rw [List.drop_of_length_le (Nat.le_refl _), List.drop_of_length_le (by omega)]
    · rw [List.take_of_length_le (Nat.le_refl _), List.take_of_length_le (by omega)]; exact hh
  | succ d ih =>
    intro k hk
    have k1 : k < l.length := by omega
    have k2 : k < m.length := by omega
    obtain ⟨hd, hH⟩ := ih (k + 1) (by omega)
    rw [List.take_succ_eq_append_getElem k1, List.take_succ_eq_append_getElem k2, headOf_snoc, headOf_snoc] at hH
    have r1 := row_self (h1 k k1)
    have r2 := row_self (h2 k k2)
    have hb : l[k].bytes (headOf (l.take k)) = m[k].bytes (headOf (m.take k)) := Classical.byContradiction fun hne => hn k ⟨k1, k2, hne, by rw [← r1, ← r2, hH]⟩
    obtain ⟨e1, e2⟩ := bytes_inj (headOf_length _ (fun x hx => hl x (List.mem_of_mem_take hx))) (headOf_length _ (fun x hx => hm x (List.mem_of_mem_take hx))) (hl _ (List.getElem_mem k1)) (hm _ (List.getElem_mem k2)) hb hH
    exact ⟨by rw [List.drop_eq_getElem_cons k1, List.drop_eq_getElem_cons k2, hd, e2], e1⟩

theorem verGo_ok (head : List UInt8) (l : List Ent) : ∀ (d k : Nat), k + d = l.length → (verGo (l.take k) (l.drop k) head).2 = 0 → (∀ j (hj : j < l.length), k ≤ j → rowOf (l.take j) l[j] = l[j]) ∧ headOf l = head := by
  intro d
  induction d with
  | zero =>
    intro k hk h
    obtain rfl : k = l.length := by omega
    refine ⟨fun j hj hkj => by omega, ?_⟩
    rw [verGo_end] at h
    split at h
    · assumption
    · exact absurd h (show ¬ ((24 : Int) = 0) by decide)
  | succ d ih =>
    intro k hk h
    have k1 : k < l.length := by omega
    by_cases hr : rowOf (l.take k) l[k] = l[k]
    · rw [verGo_step l head k k1 hr] at h
      obtain ⟨i1, i2⟩ := ih (k + 1) (by omega) h
      refine ⟨fun j hj hkj => ?_, i2⟩
      by_cases e : j = k
      · subst e; exact hr
      · exact i1 j hj (by omega)
    · rw [verGo_bad l head k k1 hr] at h
      exact absurd h (show ¬ ((24 : Int) = 0) by decide)
theorem verify_ok {l : List Ent} {head : List UInt8} (h : (verify l head).2 = 0) : (∀ j (hj : j < l.length), rowOf (l.take j) l[j] = l[j]) ∧ headOf l = head := by
  obtain ⟨h1, h2⟩ := verGo_ok head l l.length 0 (by omega) h
  exact ⟨fun j hj => h1 j hj (Nat.zero_le _), h2⟩

/-- Two lists of as many rows that hold against one head: the same, or a place is shown. -/
theorem bound_shown {l m : List Ent} {head : List UInt8} (hl : ∀ x ∈ l, x.Ok) (hm : ∀ x ∈ m, x.Ok) (hlen : m.length = l.length) (h1 : (verify l head).2 = 0) (h2 : (verify m head).2 = 0) (hne : l ≠ m) : ∃ i, ShownAt l m i := by
  obtain ⟨r1, e1⟩ := verify_ok h1
  obtain ⟨r2, e2⟩ := verify_ok h2
  refine Classical.byContradiction fun hn => hne ?_
  have h := (holds_one l m hl hm hlen.symm r1 r2 (e1.trans e2.symm) (fun i hi => hn ⟨i, hi⟩) l.length 0 (by omega)).1
  simpa using h

end Go.Proofs.YtdpfemhfmofmlaaDoor

namespace Go.Proofs.YtdpfemhfmofmlaaDoor
set_option linter.unusedSimpArgs false
set_option linter.unusedVariables false
open Go.RowKit
set_option maxRecDepth 10000
--@PUT2

theorem eqSumD (w : World) (a b : List UInt8) (ha : a.length = 32) (hb : b.length = 32) : (binOp .eql 26 (.agg (bvs a).toArray) (.agg (bvs b).toArray)).run Tryd.prog w = .ok (.bool (decide (a = b))) w := by
  rw [run_eql_struct, show bvs a = a.map Extern.Stop.cell from rfl, show bvs b = b.map Extern.Stop.cell from rfl, run_equalIn_bytes w 9998 26 5 32 Tryd.underlying26 Tryd.underlying5 (fun w => by kernel_rfl) a b ha hb]
  have e : (a == b) = decide (a = b) := by by_cases h : a = b <;> simp [h]
  rw [e]; rfl

abbrev ShwS (wb : World) (z b o : Nat) (P : List UInt8) (x : Ent) (w' : World) : Prop := (w'.rangeAt z 0 (bvs P) ∧ w'.rangeAt b o x.cells) ∧ Below wb.heap.size wb w'
theorem shws_below {wb w1 w2 : World} {z b o : Nat} {P : List UInt8} {x : Ent} (h : ShwS wb z b o P x w1) (hb : Below w1.heap.size w1 w2) : ShwS wb z b o P x w2 :=
  ⟨⟨rangeAt_below h.1.1 hb (Nat.le_refl _), rangeAt_below h.1.2 hb (Nat.le_refl _)⟩, h.2.trans (hb.mono h.2.size)⟩

/-- While the rows are gone through: the digests ahead. -/
structure ShwI (w : World) (z1 z2 : Nat) (l m : List Ent) (k : Nat) (wr : World) : Prop where
  c1 : wr.heap[z1]? = some (.cells (bvs (headOf (l.take k))).toArray 26 (0, 0))
  c2 : wr.heap[z2]? = some (.cells (bvs (headOf (m.take k))).toArray 26 (0, 0))
  blw : Below w.heap.size w wr
  ahead : ∃ j, k ≤ j ∧ ShownAt l m j

set_option maxHeartbeats 8000000 in
theorem shown21 (a b : Option Addr) (n n2 c d : Nat) (l m : List Ent) (w : World) (hT : Tabs w) (hl : RdC w a (l.flatMap Ent.cells)) (hm : RdC w b (m.flatMap Ent.cells)) (fl : ∀ x ∈ l, x.Fit) (fm : ∀ x ∈ m, x.Fit) (e1 : l.length = n) (e2 : m.length = n2) (hnn : n2 = n) (hn : n ≤ 1000000) (hsh : ∃ i, ShownAt l m i) :
    Calls Tryd.prog 82 #[.slice a n c, .slice b n2 d] w fun e w' => e = .returned (.bool true) ∧ Below w.heap.size w w' := by
  subst hnn
  have hts := hT.size
  have HT := Lib.hid hT; clear hT
  subst e1
  have HA := Lib.hid hl; clear hl
  have HB := Lib.hid hm; clear hm
  have HFL := Lib.hid fl; clear fl
  have HFM := Lib.hid fm; clear fm
  have HSH := Lib.hid hsh; clear hsh
  have HE2 := Lib.hid e2
  obtain ⟨iS, zS, hiS, hzS, hcS⟩ := fresh_parts zeroSum
  have HIS := Lib.hid hiS; clear hiS
  have HZS := Lib.hid hzS; clear hzS
  have HCS := Lib.hid hcS; clear hcS
  have hu73 : Tryd.prog.underlying 73 = some _ := Tryd.underlying73
  have hu26 : Tryd.prog.underlying 26 = some _ := Tryd.underlying26
  have hzl : (bvs zeros32).length = 32 := rfl
  have HEZ := Lib.hid (show (#[.int .u8 0, .int .u8 0, .int .u8 0, .int .u8 0, .int .u8 0, .int .u8 0, .int .u8 0, .int .u8 0, .int .u8 0, .int .u8 0, .int .u8 0, .int .u8 0, .int .u8 0, .int .u8 0, .int .u8 0, .int .u8 0, .int .u8 0, .int .u8 0, .int .u8 0, .int .u8 0, .int .u8 0, .int .u8 0, .int .u8 0, .int .u8 0, .int .u8 0, .int .u8 0, .int .u8 0, .int .u8 0, .int .u8 0, .int .u8 0, .int .u8 0, .int .u8 0] : Array Value) = (bvs zeros32).toArray from rfl)
  have HIZ := Lib.hid (show (Tryd.prog.info? 26).map (·.size) = some (bvs zeros32).length by rw [hzl]; exact sizeSum)
  have HFZ := Lib.hid (show 0 + (bvs zeros32).length ≤ (List.replicate 32 (Value.int .u8 0)).toArray.size by rw [hzl]; simp)
  have HOZ := Lib.hid (bvs_oneCell zeros32)
  have HLZ := Lib.hid (show (bvs zeros32).length = (List.replicate 32 (Value.int .u8 0)).toArray.toList.length by rw [hzl]; simp)
  clear hzl e2
  go_enter Tryd.func82, Tryd.ntmps82
  (repeat' ((fail_if_success at_builtin); first | (first | ((with_reducible refine wpList_alloc_fresh (w := w) rfl 26 rfl _ iS zS HIS.out HZS.out HCS.out ?_); rw [HEZ.out]; intro w1 hg1 hB1 hs1; have HG1 := Lib.hid hg1; clear hg1; have HS1 := Lib.hid hs1; clear hs1) | ((with_reducible refine wpList_alloc_fresh (w := w1) rfl 26 rfl _ iS zS HIS.out HZS.out HCS.out ?_); intro w2 hg2 hB2 hs2; have HG12 := Lib.hid ((hB2.block w.heap.size (by have := HS1.out;omega)).trans HG1.out); have HG2 := Lib.hid hg2; clear hg2; have HS2 := Lib.hid hs2; clear hs2) | ((with_reducible refine wpList_store_blk (w := w2) rfl 26 _ _ rfl w.heap.size 0 (bvs zeros32) rfl rfl _ _ HG12.out HFZ.out HIZ.out HOZ.out ?_); intro w3 hg3 hG3; rw [splice_whole _ _ HLZ.out] at hg3; have HG3 := Lib.hid hg3; clear hg3; have HG32 := Lib.hid ((hG3.block w1.heap.size (by have := HS2.out;omega) (by have := HS1.out;simp;omega)).trans HG2.out)) | ((with_reducible refine wpList_store_blk (w := w3) rfl 26 _ _ rfl w1.heap.size 0 (bvs zeros32) rfl rfl _ _ HG32.out HFZ.out HIZ.out HOZ.out ?_); intro w4 hg4 hG4; rw [splice_whole _ _ HLZ.out] at hg4; have HG4 := Lib.hid hg4; clear hg4)) | go_values | go_skip | go_guarded | go_step | go_upon))
  obtain ⟨z1, hz1⟩ : ∃ z, w.heap.size = z := ⟨_, rfl⟩
  obtain ⟨z2, hz2⟩ : ∃ z, w1.heap.size = z := ⟨_, rfl⟩
  have hB12 : Below w.heap.size w w2 := hB1.trans (hB2.mono hB1.size)
  have hB3 : Below w.heap.size w w3 := hB12.grown hG3 hB12.size (fun j e => by cases e; exact Nat.le_refl _)
  have hB4 : Below w.heap.size w w4 := hB3.grown hG4 hB3.size (fun j e => by cases e; exact hB1.size)
  have hc1 := (hG4.block w.heap.size (by have := hG3.size; have := HS1.out; have := HS2.out; omega) (by have := HS1.out; simp; omega)).trans HG3.out
  have hz12 : z1 < z2 := by have := HS1.out; omega
  have hz1w : w.heap.size ≤ z1 := by omega
  have hI : ShwI w z1 z2 l m 0 w4 := ⟨by rw [← hz1]; exact hc1, by rw [← hz2]; exact HG4.out, hB4, by obtain ⟨j, hj⟩ := HSH.out; exact ⟨j, Nat.zero_le _, hj⟩⟩
  have HI := Lib.hid hI
  rw [hz1, hz2]
  clear hI hc1 HSH HG1 HG12 HG2 HG3 HG32 HG4 HS1 HS2 hG3 hG4 hB1 hB2 hB12 hB3 hB4 hz1 hz2
  (repeat' ((fail_if_success at_builtin); first | go_values | go_skip | go_guarded | go_step | go_upon))
  go_loopw [7] (fun i wr => ∃ k : Nat, k ≤ l.length ∧ i = .int .i64 k ∧ ShwI w z1 z2 l m k wr) (fun i _ => l.length - (intOf i).toNat)
  case atStart => exact ⟨0, by omega, rfl, HI.out⟩
  case round =>
    obtain ⟨k, hk, rfl, hI⟩ := hrel
    have HC1 := Lib.hid hI.c1
    have HC2 := Lib.hid hI.c2
    have hBI := hI.blw
    obtain ⟨j, hkj, hj⟩ := hI.ahead
    have HJ := Lib.hid hj
    have hjl : j < l.length := by obtain ⟨h1, _⟩ := hj; exact h1
    clear HI hI hj
    have hlt : k < l.length := by omega
    have hlt2 : k < m.length := by have := HE2.out; omega
    obtain ⟨bx, ox, hba, hra⟩ := ents_at HA.out (fun x hx => (HFL.out x hx).ok.sum) k hlt
    obtain ⟨by_, oy, hbb, hrb⟩ := ents_at HB.out (fun x hx => (HFM.out x hx).ok.sum) k hlt2
    have HXF := Lib.hid (HFL.out _ (List.getElem_mem hlt))
    have HYF := Lib.hid (HFM.out _ (List.getElem_mem hlt2))
    have HS1 := Lib.hid (show headOf (l.take (k + 1)) = l[k].sum by rw [List.take_succ_eq_append_getElem hlt, headOf_snoc])
    have HS2 := Lib.hid (show headOf (m.take (k + 1)) = m[k].sum by rw [List.take_succ_eq_append_getElem hlt2, headOf_snoc])
    have HIF := Lib.hid (show ShownAt l m k ↔ (l[k].bytes (headOf (l.take k)) ≠ m[k].bytes (headOf (m.take k)) ∧ wdig (l[k].bytes (headOf (l.take k))) = wdig (m[k].bytes (headOf (m.take k)))) from ⟨fun ⟨_, _, h⟩ => h, fun h => ⟨hlt, hlt2, h⟩⟩)
    have hPl : (headOf (l.take k)).length = 32 := headOf_length _ (fun x hx => (HFL.out x (List.mem_of_mem_take hx)).ok)
    have hQl : (headOf (m.take k)).length = 32 := headOf_length _ (fun x hx => (HFM.out x (List.mem_of_mem_take hx)).ok)
    obtain ⟨P, hP⟩ : ∃ P, headOf (l.take k) = P := ⟨_, rfl⟩
    obtain ⟨Q, hQ⟩ : ∃ Q, headOf (m.take k) = Q := ⟨_, rfl⟩
    rw [hP] at hPl HIF HC1
    rw [hQ] at hQl HIF HC2
    clear hP hQ
    generalize l[k] = x at *
    generalize m[k] = y at *
    have HPL := Lib.hid hPl
    have HQL := Lib.hid hQl
    have HRW := Lib.hid hra
    have HRV := Lib.hid hrb
    have HRA := Lib.hid (rangeAt_below hra hBI (Nat.le_refl _)); clear hra
    have HRB := Lib.hid (rangeAt_below hrb hBI (Nat.le_refl _)); clear hrb
    have bk : (0 : Int) ≤ (k : Int) ∧ (k : Int) < (l.length : Int) := by omega
    have hiX : (Tryd.prog.info? 73).map (·.size) = some x.cells.length := by rw [Ent.cells_length HXF.out.ok.sum]; exact entSize
    have hiY : (Tryd.prog.info? 73).map (·.size) = some y.cells.length := by rw [Ent.cells_length HYF.out.ok.sum]; exact entSize
    have hiP : (Tryd.prog.info? 26).map (·.size) = some (bvs P).length := by rw [bvs_length, hPl]; exact sizeSum
    have hiQ : (Tryd.prog.info? 26).map (·.size) = some (bvs Q).length := by rw [bvs_length, hQl]; exact sizeSum
    have hS0 : ShwS wr z1 bx (ox + k * 39) P x wr.drew := shws_below (w1 := wr) ⟨⟨rangeAt_whole HC1.out, HRA.out⟩, Below.refl _ _⟩ (Below.refl _ _).drew
    clear hPl hQl
    subst hba hbb
    (repeat' ((fail_if_success at_builtin); first | go_values | go_skip | go_guarded | go_step | go_upon))
    refine wp_region_noPanic ?_
    refine wp_region_held_drew (S := ShwS wr z1 bx (ox + k * 39) P x) (by kernel_rfl) ?_ (fun hHeld => ?_)
    · (exact hS0)
    refine' wpAnyH_take (i := 0) (oi := _) (v := _) rfl (by kernel_rfl) (by kernel_rfl) (by kernel_rfl) (fun _ _ _ h => h) (yieldsIf_load_mid (by rfl) _ _ rfl _ _ rfl _ _ ?ls1 ?lu1 ?ld1 ?li1) (by assumption) ?lr1
    case ls1 => (intro w hSw; (try dsimp only at hSw); go_split_ands; assumption)
    case lu1 => assumption
    case ld1 => rfl
    case li1 => first | assumption | (simp only [*]; done)
    try simp only [Act.put, List.getElem_toArray, List.getElem_cons_zero, List.getElem_cons_succ, List.setIfInBounds_toArray, List.set_cons_zero, List.set_cons_succ]
    refine wpAnyH_take (i := 1) (oi := _) (v := ?_) rfl (by kernel_rfl) (by kernel_rfl) (by kernel_rfl) (fun _ _ _ h => h) (Or.inl ⟨by rfl, ?_⟩) (by assumption) ?_
    rotate_left 1
    · (intro w hSw; (try dsimp only at hSw); go_simp; all_goals (with_reducible rfl))
    try simp only [Act.put, List.getElem_toArray, List.getElem_cons_zero, List.getElem_cons_succ, List.setIfInBounds_toArray, List.set_cons_zero, List.set_cons_succ]
    refine wpAnyH_take (i := 2) (oi := _) (v := ?_) rfl (by kernel_rfl) (by kernel_rfl) (by kernel_rfl) (fun _ _ _ h => h) (Or.inl ⟨by rfl, ?_⟩) (by assumption) ?_
    rotate_left 1
    · (intro w hSw; (try dsimp only at hSw); go_simp; all_goals (with_reducible rfl))
    try simp only [Act.put, List.getElem_toArray, List.getElem_cons_zero, List.getElem_cons_succ, List.setIfInBounds_toArray, List.set_cons_zero, List.set_cons_succ]
    refine wpAnyH_take (i := 3) (oi := _) (v := ?_) rfl (by kernel_rfl) (by kernel_rfl) (by kernel_rfl) (fun _ _ _ h => h) (Or.inl ⟨by rfl, ?_⟩) (by assumption) ?_
    rotate_left 1
    · (intro w hSw; (try dsimp only at hSw); go_simp; all_goals (with_reducible rfl))
    try simp only [Act.put, List.getElem_toArray, List.getElem_cons_zero, List.getElem_cons_succ, List.setIfInBounds_toArray, List.set_cons_zero, List.set_cons_succ]
    refine' wpAnyH_take (i := 4) (oi := _) (v := _) rfl (by kernel_rfl) (by kernel_rfl) (by kernel_rfl) (fun _ _ _ h => h) (yieldsIf_load_mid (by rfl) _ _ rfl _ _ rfl _ _ ?ls2 ?lu2 ?ld2 ?li2) (by assumption) ?lr2
    case ls2 => (intro w hSw; (try dsimp only at hSw); go_split_ands; assumption)
    case lu2 => assumption
    case ld2 => rfl
    case li2 => first | assumption | (simp only [*]; done)
    try simp only [Act.put, List.getElem_toArray, List.getElem_cons_zero, List.getElem_cons_succ, List.setIfInBounds_toArray, List.set_cons_zero, List.set_cons_succ]
    refine wpAnyH_ready (rs := [5]) (by kernel_rfl) (by simp) ?_
    refine AllReadyH.cons (o := _) rfl (fun K hK => ?_) ?_
    rotate_left 1
    · exact AllReadyH.nil
    go_simp
    go_at_call 81
    refine (of21 P x _ HPL.out HXF.out.ok HXF.out.str HXF.out.sub).mono ?_
    rintro _ wA ⟨aA, cA, rfl, hcA, hrA, hBA, _⟩
    dsimp only
    refine hK.out _ _ ?_ (fun hHeld => ?_)
    · (apply shws_below; assumption; assumption)
    clear hK K
    try simp only [Act.put, List.getElem_toArray, List.getElem_cons_zero, List.getElem_cons_succ, List.setIfInBounds_toArray, List.set_cons_zero, List.set_cons_succ]
    refine wpAnyH_take (i := 6) (oi := _) (v := ?_) rfl (by kernel_rfl) (by kernel_rfl) (by kernel_rfl) (fun _ _ _ h => h) (Or.inl ⟨by rfl, ?_⟩) (by assumption) ?_
    rotate_left 1
    · (intro w hSw; (try dsimp only at hSw); go_simp; all_goals (with_reducible rfl))
    try simp only [Act.put, List.getElem_toArray, List.getElem_cons_zero, List.getElem_cons_succ, List.setIfInBounds_toArray, List.set_cons_zero, List.set_cons_succ]
    refine wpAnyH_done (by kernel_rfl) ?_ _
    refine NoPanic.normal ?_
    have hrA2 := hHeld.2
    have HRXA := Lib.hid hrA
    have hBrA : Below wr.heap.size wr wA := hHeld.2
    have hS1 : ShwS wA z2 by_ (oy + k * 39) Q y wA.drew := shws_below (w1 := wA) ⟨⟨rangeAt_below (rangeAt_whole HC2.out) hBrA (Nat.le_refl _), rangeAt_below HRB.out hBrA (Nat.le_refl _)⟩, Below.refl _ _⟩ (Below.refl _ _).drew
    clear hHeld hS0 hrA hrA2 hBA
    (repeat' ((fail_if_success at_builtin); first | go_values | go_skip | go_guarded | go_step | go_upon))
    refine wp_region_noPanic ?_
    refine wp_region_held_drew (S := ShwS wA z2 by_ (oy + k * 39) Q y) (by kernel_rfl) ?_ (fun hHeld => ?_)
    · (exact hS1)
    refine' wpAnyH_take (i := 0) (oi := _) (v := _) rfl (by kernel_rfl) (by kernel_rfl) (by kernel_rfl) (fun _ _ _ h => h) (yieldsIf_load_mid (by rfl) _ _ rfl _ _ rfl _ _ ?ls3 ?lu3 ?ld3 ?li3) (by assumption) ?lr3
    case ls3 => (intro w hSw; (try dsimp only at hSw); go_split_ands; assumption)
    case lu3 => assumption
    case ld3 => rfl
    case li3 => first | assumption | (simp only [*]; done)
    try simp only [Act.put, List.getElem_toArray, List.getElem_cons_zero, List.getElem_cons_succ, List.setIfInBounds_toArray, List.set_cons_zero, List.set_cons_succ]
    refine wpAnyH_take (i := 1) (oi := _) (v := ?_) rfl (by kernel_rfl) (by kernel_rfl) (by kernel_rfl) (fun _ _ _ h => h) (Or.inl ⟨by rfl, ?_⟩) (by assumption) ?_
    rotate_left 1
    · (intro w hSw; (try dsimp only at hSw); go_simp; all_goals (with_reducible rfl))
    try simp only [Act.put, List.getElem_toArray, List.getElem_cons_zero, List.getElem_cons_succ, List.setIfInBounds_toArray, List.set_cons_zero, List.set_cons_succ]
    refine wpAnyH_take (i := 2) (oi := _) (v := ?_) rfl (by kernel_rfl) (by kernel_rfl) (by kernel_rfl) (fun _ _ _ h => h) (Or.inl ⟨by rfl, ?_⟩) (by assumption) ?_
    rotate_left 1
    · (intro w hSw; (try dsimp only at hSw); go_simp; all_goals (with_reducible rfl))
    try simp only [Act.put, List.getElem_toArray, List.getElem_cons_zero, List.getElem_cons_succ, List.setIfInBounds_toArray, List.set_cons_zero, List.set_cons_succ]
    refine wpAnyH_take (i := 3) (oi := _) (v := ?_) rfl (by kernel_rfl) (by kernel_rfl) (by kernel_rfl) (fun _ _ _ h => h) (Or.inl ⟨by rfl, ?_⟩) (by assumption) ?_
    rotate_left 1
    · (intro w hSw; (try dsimp only at hSw); go_simp; all_goals (with_reducible rfl))
    try simp only [Act.put, List.getElem_toArray, List.getElem_cons_zero, List.getElem_cons_succ, List.setIfInBounds_toArray, List.set_cons_zero, List.set_cons_succ]
    refine' wpAnyH_take (i := 4) (oi := _) (v := _) rfl (by kernel_rfl) (by kernel_rfl) (by kernel_rfl) (fun _ _ _ h => h) (yieldsIf_load_mid (by rfl) _ _ rfl _ _ rfl _ _ ?ls4 ?lu4 ?ld4 ?li4) (by assumption) ?lr4
    case ls4 => (intro w hSw; (try dsimp only at hSw); go_split_ands; assumption)
    case lu4 => assumption
    case ld4 => rfl
    case li4 => first | assumption | (simp only [*]; done)
    try simp only [Act.put, List.getElem_toArray, List.getElem_cons_zero, List.getElem_cons_succ, List.setIfInBounds_toArray, List.set_cons_zero, List.set_cons_succ]
    refine wpAnyH_ready (rs := [5]) (by kernel_rfl) (by simp) ?_
    refine AllReadyH.cons (o := _) rfl (fun K hK => ?_) ?_
    rotate_left 1
    · exact AllReadyH.nil
    go_simp
    go_at_call 81
    refine (of21 Q y _ HQL.out HYF.out.ok HYF.out.str HYF.out.sub).mono ?_
    rintro _ wB ⟨aB, cB, rfl, hcB, hrB, hBB, _⟩
    dsimp only
    refine hK.out _ _ ?_ (fun hHeld => ?_)
    · (apply shws_below; assumption; assumption)
    clear hK K
    try simp only [Act.put, List.getElem_toArray, List.getElem_cons_zero, List.getElem_cons_succ, List.setIfInBounds_toArray, List.set_cons_zero, List.set_cons_succ]
    refine wpAnyH_take (i := 6) (oi := _) (v := ?_) rfl (by kernel_rfl) (by kernel_rfl) (by kernel_rfl) (fun _ _ _ h => h) (Or.inl ⟨by rfl, ?_⟩) (by assumption) ?_
    rotate_left 1
    · (intro w hSw; (try dsimp only at hSw); go_simp; all_goals (with_reducible rfl))
    try simp only [Act.put, List.getElem_toArray, List.getElem_cons_zero, List.getElem_cons_succ, List.setIfInBounds_toArray, List.set_cons_zero, List.set_cons_succ]
    refine wpAnyH_done (by kernel_rfl) ?_ _
    refine NoPanic.normal ?_
    have hBAB : Below wA.heap.size wA wB := hHeld.2
    have hBrB : Below wr.heap.size wr wB := hBrA.trans (hBAB.mono hBrA.size)
    have HRXB := Lib.hid (HRXA.out.below hBAB (Nat.le_refl _))
    have HRYB := Lib.hid hrB
    clear hHeld hS1 hrB hBB HRXA hiX hiY hiP hiQ
    have hXl : (x.bytes P).length = 88 + x.stream.size + x.subject.size := by rw [Ent.bytes_length, HPL.out]
    have hYl : (y.bytes Q).length = 88 + y.stream.size + y.subject.size := by rw [Ent.bytes_length, HQL.out]
    have hxs : x.stream.size ≤ 4096 ∧ x.subject.size ≤ 4096 := ⟨HXF.out.str, HXF.out.sub⟩
    have hys : y.stream.size ≤ 4096 ∧ y.subject.size ≤ 4096 := ⟨HYF.out.str, HYF.out.sub⟩
    have HIP := Lib.hid (show (Tryd.prog.info? 26).map (·.size) = some (bvs x.sum).length by rw [bvs_length, HXF.out.ok.sum]; exact sizeSum)
    have HIQ := Lib.hid (show (Tryd.prog.info? 26).map (·.size) = some (bvs y.sum).length by rw [bvs_length, HYF.out.ok.sum]; exact sizeSum)
    have HFP := Lib.hid (show 0 + (bvs x.sum).length ≤ (bvs P).toArray.size by rw [List.size_toArray, bvs_length, bvs_length, HXF.out.ok.sum, HPL.out]; omega)
    have HFQ := Lib.hid (show 0 + (bvs y.sum).length ≤ (bvs Q).toArray.size by rw [List.size_toArray, bvs_length, bvs_length, HYF.out.ok.sum, HQL.out]; omega)
    have HLP := Lib.hid (show (bvs x.sum).length = (bvs P).toArray.toList.length by rw [List.toList_toArray, bvs_length, bvs_length, HXF.out.ok.sum, HPL.out])
    have HLQ := Lib.hid (show (bvs y.sum).length = (bvs Q).toArray.toList.length by rw [List.toList_toArray, bvs_length, bvs_length, HYF.out.ok.sum, HQL.out])
    have HOX := Lib.hid (bvs_oneCell x.sum)
    have HOY := Lib.hid (bvs_oneCell y.sum)
    obtain ⟨X, hX⟩ : ∃ X, x.bytes P = X := ⟨_, rfl⟩
    obtain ⟨Y, hY⟩ : ∃ Y, y.bytes Q = Y := ⟨_, rfl⟩
    rw [hX] at HRXB hXl HIF
    rw [hY] at HRYB hYl HIF
    obtain ⟨nX, hnX⟩ : ∃ n, 88 + x.stream.size + x.subject.size = n := ⟨_, rfl⟩
    obtain ⟨nY, hnY⟩ : ∃ n, 88 + y.stream.size + y.subject.size = n := ⟨_, rfl⟩
    rw [hnX] at hXl hcA ⊢
    rw [hnY] at hYl hcB ⊢
    have hnX2 : nX ≤ 10000 := by omega
    have hnY2 : nY ≤ 10000 := by omega
    clear hnX hnY hX hY
    by_cases hXY : X = Y
    · have HXY := Lib.hid hXY; clear hXY
      have HNX := Lib.hid (show ∃ j, k + 1 ≤ j ∧ ShownAt l m j from ⟨j, by
        rcases Nat.lt_or_ge k j with h | h
        · exact h
        · obtain rfl : j = k := by omega
          exact absurd HXY.out (HIF.out.1 HJ.out).1, HJ.out⟩)
      (repeat' ((fail_if_success at_builtin); first | go_values | go_skip | go_guarded | go_step | go_upon))
      refine (sameBytes_yes aA aB nX nY cA cB X Y wB HRXB.out HRYB.out hXl hYl (by omega) HXY.out).mono ?_
      rintro _ wC ⟨rfl, nd, rfl⟩
      dsimp only
      obtain ⟨wC, hwC⟩ : ∃ wC, wB.drewN nd = wC := ⟨_, rfl⟩
      rw [hwC]
      have hBBC : Below wB.heap.size wB wC := by rw [← hwC]; exact (still_drewN wB nd).below _
      have hBrC : Below wr.heap.size wr wC := hBrB.trans (hBBC.mono hBrB.size)
      clear hwC
      have hBIC : Below w.heap.size w wC := hBI.trans (hBrC.mono hBI.size)
      have HSA := Lib.hid (ent_sum (rangeAt_below HRA.out hBrC (Nat.le_refl _)))
      have HCC1 := Lib.hid ((hBrC.block z1 (Array.getElem?_eq_some_iff.1 HC1.out).1).trans HC1.out)
      have HCC2 := Lib.hid ((hBrC.block z2 (Array.getElem?_eq_some_iff.1 HC2.out).1).trans HC2.out)
      (repeat' ((fail_if_success at_builtin); (fail_if_success (show wpList _ _ _ ({ dst := none, op := _, type := _, pos := _, after := _, guard := _ } :: _) _ _)); first | (with_reducible refine wpList_load_mid (w := wC) rfl 26 _ rfl bx (ox + k * 39 + 7) rfl (bvs x.sum) _ HSA.out hu26 rfl HIP.out ?_) | go_values | go_skip | go_guarded | go_step))
      (refine wpList_store_blk (w := wC) rfl 26 _ _ rfl z1 0 (bvs x.sum) rfl rfl _ _ HCC1.out HFP.out HIP.out HOX.out ?_)
      intro wE hgE hGE
      rw [splice_whole _ _ HLP.out] at hgE
      have HGE := Lib.hid hgE
      clear hgE
      have hzE : z2 ≠ z1 := by omega
      have HCE2 := Lib.hid ((hGE.block z2 (Array.getElem?_eq_some_iff.1 HCC2.out).1 (by simpa using hzE)).trans HCC2.out)
      have hBE := hBIC.grown hGE hBIC.size (fun j e => by cases e; exact hz1w)
      have HSB := Lib.hid (ent_sum (rangeAt_below HRV.out hBE (Nat.le_refl _)))
      (repeat' ((fail_if_success at_builtin); first | (first | (with_reducible refine wpList_load_mid (w := wE) rfl 26 _ rfl by_ (oy + k * 39 + 7) rfl (bvs y.sum) _ HSB.out hu26 rfl HIQ.out ?_) | ((with_reducible refine wpList_store_blk (w := wE) rfl 26 _ _ rfl z2 0 (bvs y.sum) rfl rfl _ _ HCE2.out HFQ.out HIQ.out HOY.out ?_); intro wF hgF hGF; rw [splice_whole _ _ HLQ.out] at hgF; have HGF := Lib.hid hgF; clear hgF)) | go_values | go_skip | go_guarded | go_step | go_upon))
      have hBF : Below w.heap.size w wF := hBE.grown hGF hBE.size (fun j e => by cases e; omega)
      have hcF1 := (hGF.block z1 (Array.getElem?_eq_some_iff.1 HGE.out).1 (by simp; omega)).trans HGE.out
      have hN : ShwI w z1 z2 l m (k + 1) wF := ⟨by rw [HS1.out]; exact hcF1, by rw [HS2.out]; exact HGF.out, hBF, HNX.out⟩
      have HN := Lib.hid hN
      clear hN hcF1 HGE HGF HCE2 HCC1 HCC2 HSA HSB hGE hGF
      (repeat' ((fail_if_success at_builtin); first | go_values | go_skip | go_guarded | go_step | go_upon))
      go_roundw
      case rel => exact ⟨k + 1, by omega, by go_num, HN.out⟩
      case measure => simp [intOf]; omega
    · have HXY := Lib.hid hXY; clear hXY
      obtain ⟨D1, hD1⟩ : ∃ D, wdig X = D := ⟨_, rfl⟩
      obtain ⟨D2, hD2⟩ : ∃ D, wdig Y = D := ⟨_, rfl⟩
      have l1 : D1.length = 32 := by rw [← hD1]; exact wdig_length _
      have l2 : D2.length = 32 := by rw [← hD2]; exact wdig_length _
      rw [hD1, hD2] at HIF
      have HD1 := Lib.hid hD1; clear hD1
      have HD2 := Lib.hid hD2; clear hD2
      obtain ⟨tb, htb⟩ : ∃ tb, decide (D1 = D2) = tb := ⟨_, rfl⟩
      have heq := fun w => eqSumD w D1 D2 l1 l2
      rw [htb] at heq
      have HTB := Lib.hid htb; clear htb l1 l2
      (repeat' ((fail_if_success at_builtin); first | go_values | go_skip | go_guarded | go_step | go_upon))
      refine (sameBytes_no aA aB nX nY cA cB X Y wB HRXB.out HRYB.out hXl hYl (by omega) HXY.out).mono ?_
      rintro _ wC' ⟨rfl, nd, rfl⟩
      dsimp only
      obtain ⟨wC', hwC⟩ : ∃ wC, wB.drewN nd = wC := ⟨_, rfl⟩
      rw [hwC]
      have hBBC' : Below wB.heap.size wB wC' := by rw [← hwC]; exact (still_drewN wB nd).below _
      have hBrC' : Below wr.heap.size wr wC' := hBrB.trans (hBBC'.mono hBrB.size)
      have hBwC' : Below w.heap.size w wC' := hBI.trans (hBrC'.mono hBI.size)
      clear hwC
      (repeat' ((fail_if_success at_builtin); first | go_values | go_skip | go_guarded | go_step | go_upon))
      refine (shaSumOf aA nX cA X D1 wC' HD1.out (HT.out.below hBwC' hts) (HRXB.out.below hBBC' (Nat.le_refl _)) hXl hcA (by omega)).mono ?_
      rintro _ wD ⟨rfl, hBD⟩
      dsimp only
      have hBrD : Below wr.heap.size wr wD := hBrC'.trans (hBD.mono hBrC'.size)
      have hBBD : Below wB.heap.size wB wD := hBBC'.trans (hBD.mono hBBC'.size)
      have hBwD : Below w.heap.size w wD := hBI.trans (hBrD.mono hBI.size)
      (repeat' ((fail_if_success at_builtin); first | go_values | go_skip | go_guarded | go_step | go_upon))
      refine (shaSumOf aB nY cB Y D2 wD HD2.out (HT.out.below hBwD hts) (HRYB.out.below hBBD (Nat.le_refl _)) hYl hcB (by omega)).mono ?_
      rintro _ wC ⟨rfl, hBE⟩
      dsimp only
      have hBrC : Below wr.heap.size wr wC := hBrD.trans (hBE.mono hBrD.size)
      cases tb with
      | true =>
        have hBwC : Below w.heap.size w wC := hBI.trans (hBrC.mono hBI.size)
        (repeat' ((fail_if_success at_builtin); first | go_values | go_skip | go_guarded | go_step | go_upon))
        go_ret
        exact ⟨rfl, hBwC⟩
      | false =>
        have hne : D1 ≠ D2 := of_decide_eq_false HTB.out
        have HNX := Lib.hid (show ∃ j, k + 1 ≤ j ∧ ShownAt l m j from ⟨j, by
          rcases Nat.lt_or_ge k j with h | h
          · exact h
          · obtain rfl : j = k := by omega
            exact absurd (HIF.out.1 HJ.out).2 hne, HJ.out⟩)
        have hBIC : Below w.heap.size w wC := hBI.trans (hBrC.mono hBI.size)
        have HSA := Lib.hid (ent_sum (rangeAt_below HRA.out hBrC (Nat.le_refl _)))
        have HCC1 := Lib.hid ((hBrC.block z1 (Array.getElem?_eq_some_iff.1 HC1.out).1).trans HC1.out)
        have HCC2 := Lib.hid ((hBrC.block z2 (Array.getElem?_eq_some_iff.1 HC2.out).1).trans HC2.out)
        (repeat' ((fail_if_success at_builtin); (fail_if_success (show wpList _ _ _ ({ dst := none, op := _, type := _, pos := _, after := _, guard := _ } :: _) _ _)); first | (with_reducible refine wpList_load_mid (w := wC) rfl 26 _ rfl bx (ox + k * 39 + 7) rfl (bvs x.sum) _ HSA.out hu26 rfl HIP.out ?_) | go_values | go_skip | go_guarded | go_step))
        (refine wpList_store_blk (w := wC) rfl 26 _ _ rfl z1 0 (bvs x.sum) rfl rfl _ _ HCC1.out HFP.out HIP.out HOX.out ?_)
        intro wE hgE hGE
        rw [splice_whole _ _ HLP.out] at hgE
        have HGE := Lib.hid hgE
        clear hgE
        have hzE : z2 ≠ z1 := by omega
        have HCE2 := Lib.hid ((hGE.block z2 (Array.getElem?_eq_some_iff.1 HCC2.out).1 (by simpa using hzE)).trans HCC2.out)
        have hBE := hBIC.grown hGE hBIC.size (fun j e => by cases e; exact hz1w)
        have HSB := Lib.hid (ent_sum (rangeAt_below HRV.out hBE (Nat.le_refl _)))
        (repeat' ((fail_if_success at_builtin); first | (first | (with_reducible refine wpList_load_mid (w := wE) rfl 26 _ rfl by_ (oy + k * 39 + 7) rfl (bvs y.sum) _ HSB.out hu26 rfl HIQ.out ?_) | ((with_reducible refine wpList_store_blk (w := wE) rfl 26 _ _ rfl z2 0 (bvs y.sum) rfl rfl _ _ HCE2.out HFQ.out HIQ.out HOY.out ?_); intro wF hgF hGF; rw [splice_whole _ _ HLQ.out] at hgF; have HGF := Lib.hid hgF; clear hgF)) | go_values | go_skip | go_guarded | go_step | go_upon))
        have hBF : Below w.heap.size w wF := hBE.grown hGF hBE.size (fun j e => by cases e; omega)
        have hcF1 := (hGF.block z1 (Array.getElem?_eq_some_iff.1 HGE.out).1 (by simp; omega)).trans HGE.out
        have hN : ShwI w z1 z2 l m (k + 1) wF := ⟨by rw [HS1.out]; exact hcF1, by rw [HS2.out]; exact HGF.out, hBF, HNX.out⟩
        have HN := Lib.hid hN
        clear hN hcF1 HGE HGF HCE2 HCC1 HCC2 HSA HSB hGE hGF
        (repeat' ((fail_if_success at_builtin); first | go_values | go_skip | go_guarded | go_step | go_upon))
        go_roundw
        case rel => exact ⟨k + 1, by omega, by go_num, HN.out⟩
        case measure => simp [intOf]; omega

end Go.Proofs.YtdpfemhfmofmlaaDoor

namespace Go.Proofs.YtdpfemhfmofmlaaDoor
set_option linter.unusedSimpArgs false
set_option linter.unusedVariables false
open Go.RowKit
set_option maxRecDepth 10000
--@PUT2

theorem addAll_small (xs : List Ent) (h : ∀ x ∈ xs, ¬ x.big) : ∀ r ∈ addAll xs, ¬ r.big := by
  intro r hr
  obtain ⟨k, hk, rfl⟩ := List.getElem_of_mem hr
  have hk2 : k < xs.length := by rw [addAll_length] at hk; exact hk
  rw [addAll_get xs k hk2 hk]
  exact h xs[k] (List.getElem_mem hk2)

abbrev TwoS (wb : World) (z k : Nat) (v : Value) (w' : World) : Prop := w'.cell? ⟨z, k, none⟩ = some v ∧ Below wb.heap.size wb w'
theorem twos_below {wb w1 w2 : World} {z k : Nat} {v : Value} (h : TwoS wb z k v w1) (hb : Below w1.heap.size w1 w2) : TwoS wb z k v w2 :=
  ⟨cell_below hb h.1 (Nat.le_refl _), h.2.trans (hb.mono h.2.size)⟩

/-- The two lists that are asked. -/
theorem two_lists {wZ wr : World} {zB : Nat} {a5 a2 : Option Addr} {n c5 n2 c2 : Nat} {l ys : List Ent} (hg : wZ.heap[zB]? = some (.cells #[.slice a5 n c5, .slice a2 n2 c2] 68 (0, 0))) (hB : Below wZ.heap.size wZ wr)
    (h1 : RdC wZ a5 (l.flatMap Ent.cells)) (f1 : ∀ x ∈ l, x.Fit) (e1 : l.length = n) (d1 : n ≤ c5) (m1 : n ≤ 100) (h2 : RdC wZ a2 (ys.flatMap Ent.cells)) (f2 : ∀ x ∈ ys, x.Fit) (e2 : ys.length = n2) (d2 : n2 ≤ c2) (m2 : n2 ≤ 100) (k : Nat) (hk : k < 2) :
    ∃ (az : Option Addr) (nz cz : Nat) (zs : List Ent), wr.cell? ⟨zB, k, none⟩ = some (.slice az nz cz) ∧ RdC wr az (zs.flatMap Ent.cells) ∧ (∀ x ∈ zs, x.Fit) ∧ zs.length = nz ∧ nz ≤ cz ∧ nz ≤ 100 := by
  have hz := (Array.getElem?_eq_some_iff.1 hg).1
  have hgr := (hB.block zB hz).trans hg
  have hc : k = 0 ∨ k = 1 := by omega
  rcases hc with rfl | rfl
  · exact ⟨a5, n, c5, l, cell_of_row wr zB 0 _ _ _ hgr, h1.below hB (Nat.le_refl _), f1, e1, d1, m1⟩
  · exact ⟨a2, n2, c2, ys, cell_of_row wr zB 1 _ _ _ hgr, h2.below hB (Nat.le_refl _), f2, e2, d2, m2⟩

set_option maxHeartbeats 16000000 in
theorem auditBound_walk (a : Option Addr) (n c : Nat) (xs : List Ent) (a2 : Option Addr) (n2 c2 : Nat) (ys : List Ent) (at_ how : Int) (w : World) (hT : Tabs w) (hr : RdC w a (xs.flatMap Ent.cells)) (hok : ∀ x ∈ xs, x.Ok) (en : xs.length = n) (hn : n ≤ maxLen)
    (hr2 : RdC w a2 (ys.flatMap Ent.cells)) (hok2 : ∀ x ∈ ys, x.Ok) (en2 : ys.length = n2) (hnc2 : n2 ≤ c2) (hn2 : n2 ≤ maxLen) (hat : I64 at_) (hhow : I64 how) :
    Calls Tryd.prog 19 #[.slice a n c, .slice a2 n2 c2, .int .i64 at_, .int .i64 how] w fun e w' => e = .returned (.bool true) ∧ Below w.heap.size w w' := by
  have hts := hT.size
  have HT := Lib.hid hT; clear hT
  have hn9 : (n : Int) ≤ 9223372036854775807 := by unfold maxLen at hn; omega
  have hn92 : (n2 : Int) ≤ 9223372036854775807 := by unfold maxLen at hn2; omega
  subst en
  subst en2
  have HSUM := Lib.hid (show ∀ x ∈ xs, x.sum.length = 32 from fun x hx => (hok x hx).sum)
  have HSUM2 := Lib.hid (show ∀ x ∈ ys, x.sum.length = 32 from fun x hx => (hok2 x hx).sum)
  have HR := Lib.hid hr; clear hr
  have HR2 := Lib.hid hr2; clear hr2
  have HOK := Lib.hid hok; clear hok
  have HOK2 := Lib.hid hok2; clear hok2
  have hu73 : Tryd.prog.underlying 73 = some _ := Tryd.underlying73
  have hu26 : Tryd.prog.underlying 26 = some _ := Tryd.underlying26
  go_enter Tryd.func19, Tryd.ntmps19
  (repeat' ((fail_if_success at_builtin); first | go_values | go_skip | go_guarded | go_step | go_upon))
  refine (big21 a xs.length c xs w HR.out HSUM.out rfl).mono ?_
  rintro _ w0a ⟨rfl, hB0a⟩
  dsimp only
  obtain ⟨tb, htb⟩ : ∃ tb, decide (100 < xs.length ∨ ∃ x ∈ xs, x.big) = tb := ⟨_, rfl⟩
  rw [htb]
  cases tb
  rotate_left 1
  · (repeat' ((fail_if_success at_builtin); first | go_values | go_skip | go_guarded | go_step | go_upon))
    refine (works21 w0a (HT.out.below hB0a hts)).mono ?_
    rintro _ w1 ⟨rfl, hB1⟩
    dsimp only
    (repeat' ((fail_if_success at_builtin); first | go_values | go_skip | go_guarded | go_step | go_upon))
    go_ret
    exact ⟨rfl, hB0a.trans (hB1.mono hB0a.size)⟩
  (repeat' ((fail_if_success at_builtin); first | go_values | go_skip | go_guarded | go_step | go_upon))
  refine (big21 a2 ys.length c2 ys w0a (HR2.out.below hB0a (Nat.le_refl _)) HSUM2.out rfl).mono ?_
  rintro _ w0 ⟨rfl, hB0b⟩
  dsimp only
  have hB0 : Below w.heap.size w w0 := hB0a.trans (hB0b.mono hB0a.size)
  obtain ⟨tc, htc⟩ : ∃ tc, decide (100 < ys.length ∨ ∃ x ∈ ys, x.big) = tc := ⟨_, rfl⟩
  rw [htc]
  cases tc
  rotate_left 1
  · (repeat' ((fail_if_success at_builtin); first | go_values | go_skip | go_guarded | go_step | go_upon))
    refine (works21 w0 (HT.out.below hB0 hts)).mono ?_
    rintro _ w1 ⟨rfl, hB1⟩
    dsimp only
    (repeat' ((fail_if_success at_builtin); first | go_values | go_skip | go_guarded | go_step | go_upon))
    go_ret
    exact ⟨rfl, hB0.trans (hB1.mono hB0.size)⟩
  have hb := of_decide_eq_false htb
  have hb2 := of_decide_eq_false htc
  clear htb htc
  have hlen : xs.length ≤ 100 := by
    rcases Nat.lt_or_ge 100 xs.length with h | h
    · exact absurd (Or.inl h) hb
    · exact h
  have hlen2 : ys.length ≤ 100 := by
    rcases Nat.lt_or_ge 100 ys.length with h | h
    · exact absurd (Or.inl h) hb2
    · exact h
  have hsml : ∀ x ∈ xs, ¬ x.big := fun x hx h => hb (Or.inr ⟨x, hx, h⟩)
  have HFIT := Lib.hid (show ∀ x ∈ xs, x.Fit from fun x hx => fit_of_small (HOK.out x hx) (hsml x hx))
  have HFIT2 := Lib.hid (show ∀ x ∈ ys, x.Fit from fun x hx => fit_of_small (HOK2.out x hx) (fun h => hb2 (Or.inr ⟨x, hx, h⟩)))
  have HSML := Lib.hid hsml; clear hsml
  have HT0 := Lib.hid (HT.out.below hB0 hts)
  have hts0 := HT0.out.size
  have HR0 := Lib.hid (HR.out.below hB0 (Nat.le_refl _))
  have HR20 := Lib.hid (HR2.out.below hB0 (Nat.le_refl _))
  clear hb hb2 HR HR2 hB0a hB0b
  (repeat' ((fail_if_success at_builtin); first | go_values | go_skip | go_guarded | go_step | go_upon))
  refine (oneNew w0).mono ?_
  rintro _ w1 ⟨g, rfl, hL⟩
  dsimp only
  have HL := Lib.hid (hL annBA); clear hL
  (repeat' ((fail_if_success at_builtin); first | go_values | go_skip | go_guarded | go_step | go_upon))
  go_loopw [10] (fun i wr => ∃ k : Nat, k ≤ xs.length ∧ i = .int .i64 k ∧ OneLog w0 g annBA (xs.take k) wr) (fun i _ => xs.length - (intOf i).toNat)
  case atStart => exact ⟨0, by omega, rfl, HL.out⟩
  case round =>
    obtain ⟨k, hk, rfl, hL⟩ := hrel
    have HL := Lib.hid hL; clear hL
    by_cases hlt : k < xs.length
    · have hBr : Below w0.heap.size w0 wr := by obtain ⟨S, f, h1, h2, h3, h4⟩ := HL.out.out; exact h4
      obtain ⟨b, off, hba, hra⟩ := ents_at (HR0.out.below hBr (Nat.le_refl _)) HSUM.out k hlt
      have HX := Lib.hid (List.getElem_mem hlt)
      have HSN := Lib.hid (show xs.take (k + 1) = xs.take k ++ [xs[k]] from List.take_succ_eq_append_getElem hlt)
      have HTK := Lib.hid (show (xs.take k).length ≤ 100000 by rw [List.length_take]; omega)
      generalize xs[k] = x at *
      have HRA := Lib.hid hra; clear hra
      have HIX := Lib.hid (show (Tryd.prog.info? 73).map (·.size) = some x.cells.length by rw [Ent.cells_length (HSUM.out x HX.out)]; exact entSize)
      have bk : (0 : Int) ≤ (k : Int) ∧ (k : Int) < (xs.length : Int) := by omega
      subst hba
      (repeat' ((fail_if_success at_builtin); first | ((with_reducible refine wpList_load_mid rfl 73 _ rfl b (off + k * 39) rfl x.cells _ HRA.out hu73 rfl HIX.out ?_)) | go_values | go_skip | go_guarded | go_step | go_upon))
      refine (oneAdd w0 g annBA (xs.take k) x wr HL.out HT0.out annBA_le HTK.out (HFIT.out x HX.out)).mono ?_
      rintro _ w2 ⟨⟨v, rfl⟩, hL2⟩
      dsimp only
      rw [← HSN.out] at hL2
      have HL2 := Lib.hid hL2; clear hL2
      (repeat' ((fail_if_success at_builtin); first | go_values | go_skip | go_guarded | go_step | go_upon))
      go_roundw
      case rel => exact ⟨k + 1, by omega, by go_num, HL2.out⟩
      case measure => simp [intOf]; omega
    obtain rfl : k = xs.length := by omega
    have hL := HL.out
    rw [List.take_length] at hL
    obtain ⟨S, f, h1, h2, h3, hBr⟩ := hL.out
    have hrsm := addAll_small xs HSML.out
    have hvy := verify_yes xs xs.length (Nat.le_refl _)
    rw [List.take_of_length_le (by rw [addAll_length]; exact Nat.le_refl _)] at hvy
    obtain ⟨rs, hrs⟩ : ∃ rs, addAll xs = rs := ⟨_, rfl⟩
    have hrl : rs.length = xs.length := by rw [← hrs, addAll_length]
    rw [hrs] at h2 hrsm hvy
    have hrfit : ∀ x ∈ rs, x.Fit := fun x hx => h1.rows annBA x (by rw [h2]; exact hx)
    obtain ⟨P, hP⟩ : ∃ P, headOf rs = P := ⟨_, rfl⟩
    have hPl : P.length = 32 := by rw [← hP]; exact headOf_length _ (fun x hx => (hrfit x hx).ok)
    have HHP := Lib.hid (show headOf (f annBA) = P by rw [h2, hP])
    rw [hP] at hvy
    have HVY := Lib.hid (show (verify rs P).2 = 0 by rw [hvy])
    have HLOG := Lib.hid h1
    have HF2 := Lib.hid h2
    have HRFIT := Lib.hid hrfit
    have HRSM := Lib.hid hrsm
    have HRSUM := Lib.hid (show ∀ x ∈ rs, x.sum.length = 32 from fun x hx => (hrfit x hx).ok.sum)
    have HRL := Lib.hid hrl
    have HPL := Lib.hid hPl
    clear h1 h2 h3 hrfit hvy hrsm hrs hL HL hPl hP
    (repeat' ((fail_if_success at_builtin); first | go_values | go_skip | go_guarded | go_step | go_upon))
    refine (all21 S g xs.length f annBA wr HLOG.out annBA_le (by omega)).mono ?_
    rw [HF2.out]
    rintro _ w3 ⟨a3, c3, rfl, hc3, hm3, hr3, hB3, _⟩
    dsimp only
    rw [hrl] at hc3 ⊢
    have HR3 := Lib.hid hr3; clear hr3
    have hB03 : Below w0.heap.size w0 w3 := hBr.trans (hB3.mono hBr.size)
    (repeat' ((fail_if_success at_builtin); first | go_values | go_skip | go_guarded | go_step | go_upon))
    refine (copyEntries a3 xs.length c3 rs w3 HR3.out HRSUM.out hrl (by omega)).mono ?_
    rintro _ w4 ⟨a5, c5, rfl, hc5, hm5, hr5, hB5, hO5⟩
    dsimp only
    rw [hrl] at hc5 hO5 ⊢
    have HR5 := Lib.hid hr5
    have HO5 := Lib.hid hO5
    clear hr5 hO5
    by_cases hl0 : 0 < xs.length
    · have b1 := pick_lt at_ (xs.length : Int) (by omega)
      obtain ⟨p1, hp1⟩ : ∃ p, pick at_ (xs.length : Int) = p := ⟨_, rfl⟩
      rw [hp1] at b1
      obtain ⟨j, hj⟩ : ∃ j : Nat, p1 = (j : Int) := ⟨p1.toNat, by omega⟩
      subst hj
      have HP1 := Lib.hid hp1
      have hjl : j < rs.length := by omega
      clear hp1
      obtain ⟨b, off, hba, hra⟩ := ents_at HR5.out HRSUM.out j hjl
      have hoff : off = 0 := by
        rw [hba] at HO5
        rcases HO5.out.2 with ⟨e, _⟩ | ⟨_, _, _, e, _⟩
        · cases e
        · cases e; rfl
      subst hoff
      subst hba
      have HX := Lib.hid (List.getElem_mem hjl)
      generalize hxx : rs[j] = x at *
      clear hxx
      have hxs : x.sum.length = 32 := HRSUM.out x HX.out
      have hix : (Tryd.prog.info? 73).map (·.size) = some x.cells.length := by rw [Ent.cells_length hxs]; exact entSize
      have HIX := Lib.hid hix
      have hxb : x.stream.size ≤ 512 ∧ x.subject.size ≤ 512 := by have := HRSM.out x HX.out; unfold Ent.big at this; omega
      have bj : (0 : Int) ≤ (j : Int) ∧ (j : Int) < (xs.length : Int) := by omega
      rw [Nat.zero_add] at hra
      clear hix hxs
      (repeat' ((fail_if_success at_builtin); first | go_values | go_skip | go_guarded | go_step | go_upon))
      refine (pickAny at_ (xs.length : Int) w4 hat (by omega)).mono ?_
      rintro _ w4' ⟨rfl, rfl⟩
      dsimp only
      rw [HP1.out]
      have HRA2 := Lib.hid hra
      clear hra
      (repeat' ((fail_if_success at_builtin); first | ((with_reducible refine wpList_load_mid rfl 73 _ rfl b (j * 39) rfl x.cells _ HRA2.out hu73 rfl HIX.out ?_)) | go_values | go_skip | go_guarded | go_step | go_upon))
      refine (turned21 x how w4 (HRFIT.out x HX.out).ok hxb.1 hxb.2 hhow).mono ?_
      rintro _ w6 ⟨y, rfl, hyf, hB6⟩
      dsimp only
      have hO6 := owns_below HO5.out hB6 (Nat.le_refl _)
      obtain ⟨cur, cap, hcur, hsz, hnc⟩ : ∃ cur cap, w6.heap[b]? = some (.cells cur 73 (0, 0)) ∧ cur.size = cap * 39 ∧ xs.length ≤ cap := by
        rcases hO6.2 with ⟨e, _⟩ | ⟨g', cap, cur, e, _, hh, h1, h2, h3, _⟩
        · cases e
        · cases e; exact ⟨cur, _, hh, h3, h1⟩
      have hyl : y.cells.length = 39 := Ent.cells_length hyf.ok.sum
      have HCUR := Lib.hid hcur
      have HIY := Lib.hid (show (Tryd.prog.info? 73).map (·.size) = some y.cells.length by rw [hyl]; exact entSize)
      have HFT := Lib.hid (show j * 39 + y.cells.length ≤ cur.size by rw [hyl, hsz]; have := Nat.mul_le_mul_right 39 (show j + 1 ≤ cap by omega); omega)
      have HOY := Lib.hid y.cells_oneCell
      have HO6 := Lib.hid hO6
      have HYF := Lib.hid hyf
      clear hcur hsz hnc hyl hO6 hyf
      (repeat' ((fail_if_success at_builtin); first | (((with_reducible refine wpList_store_blk rfl 73 _ _ rfl b (j * 39) y.cells rfl rfl _ _ HCUR.out HFT.out HIY.out HOY.out ?_); intro wX hg7 hG7; have HG7 := Lib.hid hg7; clear hg7)) | go_values | go_skip | go_guarded | go_step | go_upon))
      obtain ⟨l', hl'⟩ : ∃ l', rs.set j y = l' := ⟨_, rfl⟩
      have hln : l'.length = xs.length := by rw [← hl', List.length_set, hrl]
      have hbw : w3.heap.size ≤ b := (owns_span HO5.out b rfl).1
      have HRX := Lib.hid (show RdC wX (some ⟨b, 0, none⟩) (l'.flatMap Ent.cells) by rw [← hl']; exact owns_put HO6.out hrl HRSUM.out HYF.out.ok.sum (by omega) HCUR.out HG7.out)
      have HFX := Lib.hid (show ∀ x ∈ l', x.Fit by
        intro x hx
        rw [← hl'] at hx
        rcases List.mem_or_eq_of_mem_set hx with h2 | h2
        · exact HRFIT.out x h2
        · rw [h2]; exact HYF.out)
      have hBX : Below w3.heap.size w3 wX := (hB5.trans (hB6.mono hB5.size)).grown hG7 (Nat.le_trans hB5.size hB6.size) (fun k e => by cases e; exact hbw)
      obtain ⟨a5, ha5⟩ : ∃ a5, some (⟨b, 0, none⟩ : Addr) = a5 := ⟨_, rfl⟩
      rw [ha5] at HRX
      rw [ha5]
      clear hl' hbw ha5 hG7 HO6 HCUR HG7 HO5 HR5 bj b1
      have hB0X : Below w0.heap.size w0 wX := hB03.trans (hBX.mono hB03.size)
      (repeat' ((fail_if_success at_builtin); first | go_values | go_skip | go_guarded | go_step | go_upon))
      obtain ⟨zB, hzB⟩ : ∃ z, wX.heap.size = z := ⟨_, rfl⟩
      obtain ⟨wZ, hwZ⟩ : ∃ wZ, wX.alloc (.cells #[.slice a5 xs.length c5, .slice a2 ys.length c2] 68) = wZ := ⟨_, rfl⟩
      have hBXZ : Below wX.heap.size wX wZ := by rw [← hwZ]; exact (Below.refl _ _).alloc (Nat.le_refl _) _
      have hgZ : wZ.heap[zB]? = some (.cells #[.slice a5 xs.length c5, .slice a2 ys.length c2] 68 (0, 0)) := by rw [← hwZ, ← hzB]; exact heap_alloc_new wX _
      rw [hwZ, hzB]
      have hB3Z : Below w3.heap.size w3 wZ := hBX.trans (hBXZ.mono hBX.size)
      have hB0Z : Below w0.heap.size w0 wZ := hB03.trans (hB3Z.mono hB03.size)
      have HGZ := Lib.hid hgZ
      have HRZ1 := Lib.hid (HRX.out.below hBXZ (Nat.le_refl _))
      have HRZ2 := Lib.hid (HR20.out.below hB0Z (Nat.le_refl _))
      have HR3Z := Lib.hid (HR3.out.below hB3Z (Nat.le_refl _))
      have HLZ := Lib.hid (HLOG.out.below (hB3.trans (hB3Z.mono hB3.size)))
      have hzlt : zB < wZ.heap.size := (Array.getElem?_eq_some_iff.1 hgZ).1
      clear hgZ hwZ hzB HRX hBXZ
      (repeat' ((fail_if_success at_builtin); first | go_values | go_skip | go_guarded | go_step | go_upon))
      go_loopw [14] (fun i wr => ∃ k : Nat, k ≤ 2 ∧ i = .int .i64 k ∧ Below wZ.heap.size wZ wr) (fun i _ => 2 - (intOf i).toNat)
      case atStart => exact ⟨0, by omega, rfl, Below.refl _ _⟩
      case round =>
        rename_i wr0 wr
        obtain ⟨k, hk, rfl, hBk⟩ := hrel
        have hB0k : Below w0.heap.size w0 wr := hB0Z.trans (hBk.mono hB0Z.size)
        by_cases hlt : k < 2
        · obtain ⟨az, nz, cz, zs, hcell, hRz, hFz, hzl, hzc, hzm⟩ := two_lists HGZ.out hBk HRZ1.out HFX.out hln hc5 hlen HRZ2.out HFIT2.out rfl hnc2 hlen2 k hlt
          have HRz := Lib.hid hRz
          have HFz := Lib.hid hFz
          have HZL := Lib.hid hzl
          obtain ⟨vn, ve, hv⟩ : ∃ vn ve, verify zs P = (vn, ve) := ⟨_, _, rfl⟩
          have HV := Lib.hid hv
          have bk : (0 : Int) ≤ (k : Int) ∧ (k : Int) < 2 := by omega
          have hS0 : TwoS wr zB k (.slice az nz cz) wr.drew := twos_below (w1 := wr) ⟨hcell, Below.refl _ _⟩ (Below.refl _ _).drew
          have hTb : ∀ wx, Below wr.heap.size wr wx → Tabs wx := fun wx h => HT0.out.below (hB0k.trans (h.mono hB0k.size)) hts0
          have HTB := Lib.hid hTb
          clear hRz hFz hzl hv hTb
          (repeat' ((fail_if_success at_builtin); first | go_values | go_skip | go_guarded | go_step | go_upon))
          refine wp_region_noPanic ?_
          refine wp_region_held_drew (S := TwoS wr zB k (.slice az nz cz)) (by kernel_rfl) ?_ (fun hHeld => ?_)
          · (exact hS0)
          refine wpAnyH_take (i := 0) (oi := _) (v := ?_) rfl (by kernel_rfl) (by kernel_rfl) (by kernel_rfl) (fun _ _ _ h => h) (Or.inl ⟨by rfl, ?_⟩) (by assumption) ?_
          rotate_left 1
          · (intro w hSw; (try dsimp only at hSw); go_simp; all_goals (with_reducible rfl))
          try simp only [Act.put, List.getElem_toArray, List.getElem_cons_zero, List.getElem_cons_succ, List.setIfInBounds_toArray, List.set_cons_zero, List.set_cons_succ]
          refine wpAnyH_take (i := 1) (oi := _) (v := ?_) rfl (by kernel_rfl) (by kernel_rfl) (by kernel_rfl) (fun _ _ _ h => h) (Or.inl ⟨by rfl, ?_⟩) (by assumption) ?_
          rotate_left 1
          · (intro w hSw; (try dsimp only at hSw); go_simp; all_goals (with_reducible rfl))
          try simp only [Act.put, List.getElem_toArray, List.getElem_cons_zero, List.getElem_cons_succ, List.setIfInBounds_toArray, List.set_cons_zero, List.set_cons_succ]
          refine wpAnyH_take (i := 2) (oi := _) (v := ?_) rfl (by kernel_rfl) (by kernel_rfl) (by kernel_rfl) (fun _ _ _ h => h) (Or.inl ⟨by rfl, ?_⟩) (by assumption) ?_
          rotate_left 1
          · (intro w hSw; (try dsimp only at hSw); go_simp; all_goals (with_reducible rfl))
          try simp only [Act.put, List.getElem_toArray, List.getElem_cons_zero, List.getElem_cons_succ, List.setIfInBounds_toArray, List.set_cons_zero, List.set_cons_succ]
          refine wpAnyH_take (i := 3) (oi := _) (v := ?_) rfl (by kernel_rfl) (by kernel_rfl) (by kernel_rfl) (fun _ _ _ h => h) (Or.inl ⟨by rfl, ?_⟩) (by assumption) ?_
          rotate_left 1
          · (intro w hSw; (try dsimp only at hSw); go_simp; all_goals (with_reducible rfl))
          try simp only [Act.put, List.getElem_toArray, List.getElem_cons_zero, List.getElem_cons_succ, List.setIfInBounds_toArray, List.set_cons_zero, List.set_cons_succ]
          refine wpAnyH_take (i := 4) (oi := _) (v := ?_) rfl (by kernel_rfl) (by kernel_rfl) (by kernel_rfl) (fun _ _ _ h => h) (Or.inl ⟨by rfl, ?_⟩) (by assumption) ?_
          rotate_left 1
          · (intro w hSw; (try dsimp only at hSw); go_simp; all_goals (with_reducible rfl))
          try simp only [Act.put, List.getElem_toArray, List.getElem_cons_zero, List.getElem_cons_succ, List.setIfInBounds_toArray, List.set_cons_zero, List.set_cons_succ]
          refine wpAnyH_ready (rs := [5]) (by kernel_rfl) (by simp) ?_
          refine AllReadyH.cons (o := _) rfl (fun K hK => ?_) ?_
          rotate_left 1
          · exact AllReadyH.nil
          go_simp
          go_at_call 73
          refine (auditHead S g xs.length f annBA P _ (HLZ.out.below (hBk.trans (hHeld.2.mono hBk.size))) annBA_le (by omega) HHP.out).mono ?_
          rintro _ wA ⟨rfl, hBA⟩
          dsimp only
          refine hK.out _ _ ?_ (fun hHeld => ?_)
          · (apply twos_below; assumption; assumption)
          clear hK K
          try simp only [Act.put, List.getElem_toArray, List.getElem_cons_zero, List.getElem_cons_succ, List.setIfInBounds_toArray, List.set_cons_zero, List.set_cons_succ]
          refine wpAnyH_ready (rs := [6]) (by kernel_rfl) (by simp) ?_
          refine AllReadyH.cons (o := _) rfl (fun K hK => ?_) ?_
          rotate_left 1
          · exact AllReadyH.nil
          go_simp
          go_at_call 68
          refine (auditVerify az nz cz zs P vn ve _ HV.out (HTB.out _ hHeld.2) (HRz.out.below hHeld.2 (Nat.le_refl _)) (fun x hx => ⟨(HFz.out x hx).ok, (HFz.out x hx).str, (HFz.out x hx).sub⟩) HZL.out hzc (by omega) HPL.out).mono ?_
          rintro _ wB ⟨rfl, hBB⟩
          dsimp only
          refine hK.out _ _ ?_ (fun hHeld => ?_)
          · (apply twos_below; assumption; assumption)
          clear hK K
          try simp only [Act.put, List.getElem_toArray, List.getElem_cons_zero, List.getElem_cons_succ, List.setIfInBounds_toArray, List.set_cons_zero, List.set_cons_succ]
          refine wpAnyH_take (i := 7) (oi := _) (v := ?_) rfl (by kernel_rfl) (by kernel_rfl) (by kernel_rfl) (fun _ _ _ h => h) (Or.inl ⟨by rfl, ?_⟩) (by assumption) ?_
          rotate_left 1
          · (intro w hSw; (try dsimp only at hSw); go_simp; all_goals (with_reducible rfl))
          try simp only [Act.put, List.getElem_toArray, List.getElem_cons_zero, List.getElem_cons_succ, List.setIfInBounds_toArray, List.set_cons_zero, List.set_cons_succ]
          refine wpAnyH_take (i := 8) (oi := _) (v := ?_) rfl (by kernel_rfl) (by kernel_rfl) (by kernel_rfl) (fun _ _ _ h => h) (Or.inl ⟨by rfl, ?_⟩) (by assumption) ?_
          rotate_left 1
          · (intro w hSw; (try dsimp only at hSw); go_simp; all_goals (with_reducible rfl))
          try simp only [Act.put, List.getElem_toArray, List.getElem_cons_zero, List.getElem_cons_succ, List.setIfInBounds_toArray, List.set_cons_zero, List.set_cons_succ]
          refine wpAnyH_take (i := 9) (oi := _) (v := ?_) rfl (by kernel_rfl) (by kernel_rfl) (by kernel_rfl) (fun _ _ _ h => h) (Or.inl ⟨by rfl, ?_⟩) (by assumption) ?_
          rotate_left 1
          · (intro w hSw; (try dsimp only at hSw); go_simp; all_goals (with_reducible rfl))
          try simp only [Act.put, List.getElem_toArray, List.getElem_cons_zero, List.getElem_cons_succ, List.setIfInBounds_toArray, List.set_cons_zero, List.set_cons_succ]
          refine wpAnyH_take (i := 10) (oi := _) (v := ?_) rfl (by kernel_rfl) (by kernel_rfl) (by kernel_rfl) (fun _ _ _ h => h) (Or.inl ⟨by rfl, ?_⟩) (by assumption) ?_
          rotate_left 1
          · (intro w hSw; (try dsimp only at hSw); go_simp; all_goals (with_reducible rfl))
          try simp only [Act.put, List.getElem_toArray, List.getElem_cons_zero, List.getElem_cons_succ, List.setIfInBounds_toArray, List.set_cons_zero, List.set_cons_succ]
          refine wpAnyH_take (i := 11) (oi := _) (v := ?_) rfl (by kernel_rfl) (by kernel_rfl) (by kernel_rfl) (fun _ _ _ h => h) (Or.inl ⟨by rfl, ?_⟩) (by assumption) ?_
          rotate_left 1
          · (intro w hSw; (try dsimp only at hSw); go_simp; all_goals (with_reducible rfl))
          try simp only [Act.put, List.getElem_toArray, List.getElem_cons_zero, List.getElem_cons_succ, List.setIfInBounds_toArray, List.set_cons_zero, List.set_cons_succ]
          refine wpAnyH_done (by kernel_rfl) ?_ _
          refine NoPanic.normal ?_
          have hrB : Below wr.heap.size wr wB := hHeld.2
          have hcB := hHeld.1
          have hZB : Below wZ.heap.size wZ wB := hBk.trans (hrB.mono hBk.size)
          have hBOK : Below wB.heap.size wB wB := Below.refl _ _
          clear hHeld hS0 hBA hBB hcell
          by_cases hv0 : ve = 0
          · subst hv0
            by_cases hnl : nz = xs.length
            · have HNL := Lib.hid hnl; clear hnl
              have tl : ((nz : Int) == (xs.length : Int)) = true := by rw [HNL.out]; simp
              by_cases hsm : rs = zs
              · have HSM := Lib.hid (decide_eq_true hsm); clear hsm
                (repeat' ((fail_if_success at_builtin); first | go_values | go_skip | go_guarded | go_step | go_upon))
                refine (sameEntries a3 az xs.length nz c3 cz rs zs wB (HR3Z.out.below hZB (Nat.le_refl _)) (HRz.out.below hrB (Nat.le_refl _)) HRSUM.out (fun x hx => (HFz.out x hx).ok.sum) hrl HZL.out (by omega)).mono ?_
                rw [HSM.out]
                rintro _ wC ⟨rfl, hst⟩
                dsimp only
                have hZC : Below wZ.heap.size wZ wC := hZB.trans (hst.below _)
                (repeat' ((fail_if_success at_builtin); first | go_values | go_skip | go_guarded | go_step | go_upon))
                go_roundw
                case rel => exact ⟨k + 1, by omega, by go_num, hZC⟩
                case measure => simp [intOf]; omega
              · have HSM := Lib.hid (decide_eq_false hsm)
                have HSH := Lib.hid (bound_shown (fun x hx => (HRFIT.out x hx).ok) (fun x hx => (HFz.out x hx).ok) (by rw [HZL.out, HRL.out, HNL.out]) HVY.out (by rw [HV.out]) hsm)
                clear hsm
                (repeat' ((fail_if_success at_builtin); first | go_values | go_skip | go_guarded | go_step | go_upon))
                refine (sameEntries a3 az xs.length nz c3 cz rs zs wB (HR3Z.out.below hZB (Nat.le_refl _)) (HRz.out.below hrB (Nat.le_refl _)) HRSUM.out (fun x hx => (HFz.out x hx).ok.sum) hrl HZL.out (by omega)).mono ?_
                rw [HSM.out]
                rintro _ wC ⟨rfl, hst⟩
                dsimp only
                have hBC := hst.below wB.heap.size
                have hrC : Below wr.heap.size wr wC := hrB.trans (hst.below _)
                have hZC : Below wZ.heap.size wZ wC := hZB.trans (hst.below _)
                have hcC := cell_below hBC hcB (Nat.le_refl _)
                clear hcB
                (repeat' ((fail_if_success at_builtin); first | go_values | go_skip | go_guarded | go_step | go_upon))
                refine (shown21 a3 az xs.length nz c3 cz rs zs wC (HTB.out _ hrC) (HR3Z.out.below hZC (Nat.le_refl _)) (HRz.out.below hrC (Nat.le_refl _)) HRFIT.out HFz.out hrl HZL.out HNL.out (by omega) HSH.out).mono ?_
                rintro _ wD ⟨rfl, hBD⟩
                dsimp only
                have hZD : Below wZ.heap.size wZ wD := hZC.trans (hBD.mono hZC.size)
                (repeat' ((fail_if_success at_builtin); first | go_values | go_skip | go_guarded | go_step | go_upon))
                go_roundw
                case rel => exact ⟨k + 1, by omega, by go_num, hZD⟩
                case measure => simp [intOf]; omega
            · have tl : ((nz : Int) == (xs.length : Int)) = false := by rw [beq_eq_false_iff_ne]; omega
              (repeat' ((fail_if_success at_builtin); first | go_values | go_skip | go_guarded | go_step | go_upon))
              go_roundw
              case rel => exact ⟨k + 1, by omega, by go_num, hZB⟩
              case measure => simp [intOf]; omega
          · have tv : (ve == 0) = false := by rw [beq_eq_false_iff_ne]; exact hv0
            clear hv0
            (repeat' ((fail_if_success at_builtin); first | go_values | go_skip | go_guarded | go_step | go_upon))
            go_roundw
            case rel => exact ⟨k + 1, by omega, by go_num, hZB⟩
            case measure => simp [intOf]; omega
        · (repeat' ((fail_if_success at_builtin); first | go_values | go_skip | go_guarded | go_step | go_upon))
          refine (works21 wr (HT0.out.below hB0k hts0)).mono ?_
          rintro _ wA ⟨rfl, hBA⟩
          dsimp only
          (repeat' ((fail_if_success at_builtin); first | go_values | go_skip | go_guarded | go_step | go_upon))
          go_ret
          exact ⟨rfl, hB0.trans ((hB0k.trans (hBA.mono hB0k.size)).mono hB0.size)⟩
    · have HRX := Lib.hid HR5.out
      have HFX := Lib.hid HRFIT.out
      have hBX := hB5
      have hln := hrl
      obtain ⟨wX, hwX⟩ : ∃ wX, w4 = wX := ⟨_, rfl⟩
      obtain ⟨l', hl'⟩ : ∃ l', rs = l' := ⟨_, rfl⟩
      rw [hwX] at HRX hBX ⊢
      have HFX2 := Lib.hid (show ∀ x ∈ l', x.Fit by rw [← hl']; exact HFX.out)
      have HRX2 := Lib.hid (show RdC wX a5 (l'.flatMap Ent.cells) by rw [← hl']; exact HRX.out)
      have hln2 : l'.length = xs.length := by rw [← hl']; exact hrl
      clear HFX HRX hln HO5 HR5 hl' hwX
      have HFX := HFX2
      have HRX := HRX2
      have hln := hln2
      clear HFX2 HRX2 hln2
      have hB0X : Below w0.heap.size w0 wX := hB03.trans (hBX.mono hB03.size)
      (repeat' ((fail_if_success at_builtin); first | go_values | go_skip | go_guarded | go_step | go_upon))
      obtain ⟨zB, hzB⟩ : ∃ z, wX.heap.size = z := ⟨_, rfl⟩
      obtain ⟨wZ, hwZ⟩ : ∃ wZ, wX.alloc (.cells #[.slice a5 xs.length c5, .slice a2 ys.length c2] 68) = wZ := ⟨_, rfl⟩
      have hBXZ : Below wX.heap.size wX wZ := by rw [← hwZ]; exact (Below.refl _ _).alloc (Nat.le_refl _) _
      have hgZ : wZ.heap[zB]? = some (.cells #[.slice a5 xs.length c5, .slice a2 ys.length c2] 68 (0, 0)) := by rw [← hwZ, ← hzB]; exact heap_alloc_new wX _
      rw [hwZ, hzB]
      have hB3Z : Below w3.heap.size w3 wZ := hBX.trans (hBXZ.mono hBX.size)
      have hB0Z : Below w0.heap.size w0 wZ := hB03.trans (hB3Z.mono hB03.size)
      have HGZ := Lib.hid hgZ
      have HRZ1 := Lib.hid (HRX.out.below hBXZ (Nat.le_refl _))
      have HRZ2 := Lib.hid (HR20.out.below hB0Z (Nat.le_refl _))
      have HR3Z := Lib.hid (HR3.out.below hB3Z (Nat.le_refl _))
      have HLZ := Lib.hid (HLOG.out.below (hB3.trans (hB3Z.mono hB3.size)))
      have hzlt : zB < wZ.heap.size := (Array.getElem?_eq_some_iff.1 hgZ).1
      clear hgZ hwZ hzB HRX hBXZ
      (repeat' ((fail_if_success at_builtin); first | go_values | go_skip | go_guarded | go_step | go_upon))
      go_loopw [14] (fun i wr => ∃ k : Nat, k ≤ 2 ∧ i = .int .i64 k ∧ Below wZ.heap.size wZ wr) (fun i _ => 2 - (intOf i).toNat)
      case atStart => exact ⟨0, by omega, rfl, Below.refl _ _⟩
      case round =>
        rename_i wr0 wr
        obtain ⟨k, hk, rfl, hBk⟩ := hrel
        have hB0k : Below w0.heap.size w0 wr := hB0Z.trans (hBk.mono hB0Z.size)
        by_cases hlt : k < 2
        · obtain ⟨az, nz, cz, zs, hcell, hRz, hFz, hzl, hzc, hzm⟩ := two_lists HGZ.out hBk HRZ1.out HFX.out hln hc5 hlen HRZ2.out HFIT2.out rfl hnc2 hlen2 k hlt
          have HRz := Lib.hid hRz
          have HFz := Lib.hid hFz
          have HZL := Lib.hid hzl
          obtain ⟨vn, ve, hv⟩ : ∃ vn ve, verify zs P = (vn, ve) := ⟨_, _, rfl⟩
          have HV := Lib.hid hv
          have bk : (0 : Int) ≤ (k : Int) ∧ (k : Int) < 2 := by omega
          have hS0 : TwoS wr zB k (.slice az nz cz) wr.drew := twos_below (w1 := wr) ⟨hcell, Below.refl _ _⟩ (Below.refl _ _).drew
          have hTb : ∀ wx, Below wr.heap.size wr wx → Tabs wx := fun wx h => HT0.out.below (hB0k.trans (h.mono hB0k.size)) hts0
          have HTB := Lib.hid hTb
          clear hRz hFz hzl hv hTb
          (repeat' ((fail_if_success at_builtin); first | go_values | go_skip | go_guarded | go_step | go_upon))
          refine wp_region_noPanic ?_
          refine wp_region_held_drew (S := TwoS wr zB k (.slice az nz cz)) (by kernel_rfl) ?_ (fun hHeld => ?_)
          · (exact hS0)
          refine wpAnyH_take (i := 0) (oi := _) (v := ?_) rfl (by kernel_rfl) (by kernel_rfl) (by kernel_rfl) (fun _ _ _ h => h) (Or.inl ⟨by rfl, ?_⟩) (by assumption) ?_
          rotate_left 1
          · (intro w hSw; (try dsimp only at hSw); go_simp; all_goals (with_reducible rfl))
          try simp only [Act.put, List.getElem_toArray, List.getElem_cons_zero, List.getElem_cons_succ, List.setIfInBounds_toArray, List.set_cons_zero, List.set_cons_succ]
          refine wpAnyH_take (i := 1) (oi := _) (v := ?_) rfl (by kernel_rfl) (by kernel_rfl) (by kernel_rfl) (fun _ _ _ h => h) (Or.inl ⟨by rfl, ?_⟩) (by assumption) ?_
          rotate_left 1
          · (intro w hSw; (try dsimp only at hSw); go_simp; all_goals (with_reducible rfl))
          try simp only [Act.put, List.getElem_toArray, List.getElem_cons_zero, List.getElem_cons_succ, List.setIfInBounds_toArray, List.set_cons_zero, List.set_cons_succ]
          refine wpAnyH_take (i := 2) (oi := _) (v := ?_) rfl (by kernel_rfl) (by kernel_rfl) (by kernel_rfl) (fun _ _ _ h => h) (Or.inl ⟨by rfl, ?_⟩) (by assumption) ?_
          rotate_left 1
          · (intro w hSw; (try dsimp only at hSw); go_simp; all_goals (with_reducible rfl))
          try simp only [Act.put, List.getElem_toArray, List.getElem_cons_zero, List.getElem_cons_succ, List.setIfInBounds_toArray, List.set_cons_zero, List.set_cons_succ]
          refine wpAnyH_take (i := 3) (oi := _) (v := ?_) rfl (by kernel_rfl) (by kernel_rfl) (by kernel_rfl) (fun _ _ _ h => h) (Or.inl ⟨by rfl, ?_⟩) (by assumption) ?_
          rotate_left 1
          · (intro w hSw; (try dsimp only at hSw); go_simp; all_goals (with_reducible rfl))
          try simp only [Act.put, List.getElem_toArray, List.getElem_cons_zero, List.getElem_cons_succ, List.setIfInBounds_toArray, List.set_cons_zero, List.set_cons_succ]
          refine wpAnyH_take (i := 4) (oi := _) (v := ?_) rfl (by kernel_rfl) (by kernel_rfl) (by kernel_rfl) (fun _ _ _ h => h) (Or.inl ⟨by rfl, ?_⟩) (by assumption) ?_
          rotate_left 1
          · (intro w hSw; (try dsimp only at hSw); go_simp; all_goals (with_reducible rfl))
          try simp only [Act.put, List.getElem_toArray, List.getElem_cons_zero, List.getElem_cons_succ, List.setIfInBounds_toArray, List.set_cons_zero, List.set_cons_succ]
          refine wpAnyH_ready (rs := [5]) (by kernel_rfl) (by simp) ?_
          refine AllReadyH.cons (o := _) rfl (fun K hK => ?_) ?_
          rotate_left 1
          · exact AllReadyH.nil
          go_simp
          go_at_call 73
          refine (auditHead S g xs.length f annBA P _ (HLZ.out.below (hBk.trans (hHeld.2.mono hBk.size))) annBA_le (by omega) HHP.out).mono ?_
          rintro _ wA ⟨rfl, hBA⟩
          dsimp only
          refine hK.out _ _ ?_ (fun hHeld => ?_)
          · (apply twos_below; assumption; assumption)
          clear hK K
          try simp only [Act.put, List.getElem_toArray, List.getElem_cons_zero, List.getElem_cons_succ, List.setIfInBounds_toArray, List.set_cons_zero, List.set_cons_succ]
          refine wpAnyH_ready (rs := [6]) (by kernel_rfl) (by simp) ?_
          refine AllReadyH.cons (o := _) rfl (fun K hK => ?_) ?_
          rotate_left 1
          · exact AllReadyH.nil
          go_simp
          go_at_call 68
          refine (auditVerify az nz cz zs P vn ve _ HV.out (HTB.out _ hHeld.2) (HRz.out.below hHeld.2 (Nat.le_refl _)) (fun x hx => ⟨(HFz.out x hx).ok, (HFz.out x hx).str, (HFz.out x hx).sub⟩) HZL.out hzc (by omega) HPL.out).mono ?_
          rintro _ wB ⟨rfl, hBB⟩
          dsimp only
          refine hK.out _ _ ?_ (fun hHeld => ?_)
          · (apply twos_below; assumption; assumption)
          clear hK K
          try simp only [Act.put, List.getElem_toArray, List.getElem_cons_zero, List.getElem_cons_succ, List.setIfInBounds_toArray, List.set_cons_zero, List.set_cons_succ]
          refine wpAnyH_take (i := 7) (oi := _) (v := ?_) rfl (by kernel_rfl) (by kernel_rfl) (by kernel_rfl) (fun _ _ _ h => h) (Or.inl ⟨by rfl, ?_⟩) (by assumption) ?_
          rotate_left 1
          · (intro w hSw; (try dsimp only at hSw); go_simp; all_goals (with_reducible rfl))
          try simp only [Act.put, List.getElem_toArray, List.getElem_cons_zero, List.getElem_cons_succ, List.setIfInBounds_toArray, List.set_cons_zero, List.set_cons_succ]
          refine wpAnyH_take (i := 8) (oi := _) (v := ?_) rfl (by kernel_rfl) (by kernel_rfl) (by kernel_rfl) (fun _ _ _ h => h) (Or.inl ⟨by rfl, ?_⟩) (by assumption) ?_
          rotate_left 1
          · (intro w hSw; (try dsimp only at hSw); go_simp; all_goals (with_reducible rfl))
          try simp only [Act.put, List.getElem_toArray, List.getElem_cons_zero, List.getElem_cons_succ, List.setIfInBounds_toArray, List.set_cons_zero, List.set_cons_succ]
          refine wpAnyH_take (i := 9) (oi := _) (v := ?_) rfl (by kernel_rfl) (by kernel_rfl) (by kernel_rfl) (fun _ _ _ h => h) (Or.inl ⟨by rfl, ?_⟩) (by assumption) ?_
          rotate_left 1
          · (intro w hSw; (try dsimp only at hSw); go_simp; all_goals (with_reducible rfl))
          try simp only [Act.put, List.getElem_toArray, List.getElem_cons_zero, List.getElem_cons_succ, List.setIfInBounds_toArray, List.set_cons_zero, List.set_cons_succ]
          refine wpAnyH_take (i := 10) (oi := _) (v := ?_) rfl (by kernel_rfl) (by kernel_rfl) (by kernel_rfl) (fun _ _ _ h => h) (Or.inl ⟨by rfl, ?_⟩) (by assumption) ?_
          rotate_left 1
          · (intro w hSw; (try dsimp only at hSw); go_simp; all_goals (with_reducible rfl))
          try simp only [Act.put, List.getElem_toArray, List.getElem_cons_zero, List.getElem_cons_succ, List.setIfInBounds_toArray, List.set_cons_zero, List.set_cons_succ]
          refine wpAnyH_take (i := 11) (oi := _) (v := ?_) rfl (by kernel_rfl) (by kernel_rfl) (by kernel_rfl) (fun _ _ _ h => h) (Or.inl ⟨by rfl, ?_⟩) (by assumption) ?_
          rotate_left 1
          · (intro w hSw; (try dsimp only at hSw); go_simp; all_goals (with_reducible rfl))
          try simp only [Act.put, List.getElem_toArray, List.getElem_cons_zero, List.getElem_cons_succ, List.setIfInBounds_toArray, List.set_cons_zero, List.set_cons_succ]
          refine wpAnyH_done (by kernel_rfl) ?_ _
          refine NoPanic.normal ?_
          have hrB : Below wr.heap.size wr wB := hHeld.2
          have hcB := hHeld.1
          have hZB : Below wZ.heap.size wZ wB := hBk.trans (hrB.mono hBk.size)
          have hBOK : Below wB.heap.size wB wB := Below.refl _ _
          clear hHeld hS0 hBA hBB hcell
          by_cases hv0 : ve = 0
          · subst hv0
            by_cases hnl : nz = xs.length
            · have HNL := Lib.hid hnl; clear hnl
              have tl : ((nz : Int) == (xs.length : Int)) = true := by rw [HNL.out]; simp
              by_cases hsm : rs = zs
              · have HSM := Lib.hid (decide_eq_true hsm); clear hsm
                (repeat' ((fail_if_success at_builtin); first | go_values | go_skip | go_guarded | go_step | go_upon))
                refine (sameEntries a3 az xs.length nz c3 cz rs zs wB (HR3Z.out.below hZB (Nat.le_refl _)) (HRz.out.below hrB (Nat.le_refl _)) HRSUM.out (fun x hx => (HFz.out x hx).ok.sum) hrl HZL.out (by omega)).mono ?_
                rw [HSM.out]
                rintro _ wC ⟨rfl, hst⟩
                dsimp only
                have hZC : Below wZ.heap.size wZ wC := hZB.trans (hst.below _)
                (repeat' ((fail_if_success at_builtin); first | go_values | go_skip | go_guarded | go_step | go_upon))
                go_roundw
                case rel => exact ⟨k + 1, by omega, by go_num, hZC⟩
                case measure => simp [intOf]; omega
              · have HSM := Lib.hid (decide_eq_false hsm)
                have HSH := Lib.hid (bound_shown (fun x hx => (HRFIT.out x hx).ok) (fun x hx => (HFz.out x hx).ok) (by rw [HZL.out, HRL.out, HNL.out]) HVY.out (by rw [HV.out]) hsm)
                clear hsm
                (repeat' ((fail_if_success at_builtin); first | go_values | go_skip | go_guarded | go_step | go_upon))
                refine (sameEntries a3 az xs.length nz c3 cz rs zs wB (HR3Z.out.below hZB (Nat.le_refl _)) (HRz.out.below hrB (Nat.le_refl _)) HRSUM.out (fun x hx => (HFz.out x hx).ok.sum) hrl HZL.out (by omega)).mono ?_
                rw [HSM.out]
                rintro _ wC ⟨rfl, hst⟩
                dsimp only
                have hBC := hst.below wB.heap.size
                have hrC : Below wr.heap.size wr wC := hrB.trans (hst.below _)
                have hZC : Below wZ.heap.size wZ wC := hZB.trans (hst.below _)
                have hcC := cell_below hBC hcB (Nat.le_refl _)
                clear hcB
                (repeat' ((fail_if_success at_builtin); first | go_values | go_skip | go_guarded | go_step | go_upon))
                refine (shown21 a3 az xs.length nz c3 cz rs zs wC (HTB.out _ hrC) (HR3Z.out.below hZC (Nat.le_refl _)) (HRz.out.below hrC (Nat.le_refl _)) HRFIT.out HFz.out hrl HZL.out HNL.out (by omega) HSH.out).mono ?_
                rintro _ wD ⟨rfl, hBD⟩
                dsimp only
                have hZD : Below wZ.heap.size wZ wD := hZC.trans (hBD.mono hZC.size)
                (repeat' ((fail_if_success at_builtin); first | go_values | go_skip | go_guarded | go_step | go_upon))
                go_roundw
                case rel => exact ⟨k + 1, by omega, by go_num, hZD⟩
                case measure => simp [intOf]; omega
            · have tl : ((nz : Int) == (xs.length : Int)) = false := by rw [beq_eq_false_iff_ne]; omega
              (repeat' ((fail_if_success at_builtin); first | go_values | go_skip | go_guarded | go_step | go_upon))
              go_roundw
              case rel => exact ⟨k + 1, by omega, by go_num, hZB⟩
              case measure => simp [intOf]; omega
          · have tv : (ve == 0) = false := by rw [beq_eq_false_iff_ne]; exact hv0
            clear hv0
            (repeat' ((fail_if_success at_builtin); first | go_values | go_skip | go_guarded | go_step | go_upon))
            go_roundw
            case rel => exact ⟨k + 1, by omega, by go_num, hZB⟩
            case measure => simp [intOf]; omega
        · (repeat' ((fail_if_success at_builtin); first | go_values | go_skip | go_guarded | go_step | go_upon))
          refine (works21 wr (HT0.out.below hB0k hts0)).mono ?_
          rintro _ wA ⟨rfl, hBA⟩
          dsimp only
          (repeat' ((fail_if_success at_builtin); first | go_values | go_skip | go_guarded | go_step | go_upon))
          go_ret
          exact ⟨rfl, hB0.trans ((hB0k.trans (hBA.mono hB0k.size)).mono hB0.size)⟩

end Go.Proofs.YtdpfemhfmofmlaaDoor

namespace Go.Proofs.YtdpfemhfmofmlaaDoor
set_option linter.unusedSimpArgs false
set_option linter.unusedVariables false
open Go.RowKit
set_option maxRecDepth 10000
--@PUT2

abbrev NxtS (wb : World) (z5 b o : Nat) (H : List UInt8) (x : Ent) (w' : World) : Prop := (w'.rangeAt z5 0 (bvs H) ∧ w'.rangeAt b o x.cells) ∧ Below wb.heap.size wb w'
theorem nxtS_below {wb w1 w2 : World} {z5 b o : Nat} {H : List UInt8} {x : Ent} (h : NxtS wb z5 b o H x w1) (hb : Below w1.heap.size w1 w2) : NxtS wb z5 b o H x w2 :=
  ⟨⟨rangeAt_below h.1.1 hb (Nat.le_refl _), rangeAt_below h.1.2 hb (Nat.le_refl _)⟩, h.2.trans (hb.mono h.2.size)⟩

set_option maxHeartbeats 16000000 in
theorem auditVerifies_walk (a : Option Addr) (n c : Nat) (xs : List Ent) (H : List UInt8) (at_ how : Int) (w : World) (hT : Tabs w) (hr : RdC w a (xs.flatMap Ent.cells)) (hok : ∀ x ∈ xs, x.Ok) (en : xs.length = n) (hnc : n ≤ c) (hn : c ≤ maxLen) (hH : H.length = 32) (hat : I64 at_) (hhow : I64 how) :
    Calls Tryd.prog 15 #[.slice a n c, .agg (bvs H).toArray, .int .i64 at_, .int .i64 how] w fun e w' => e = .returned (.bool true) ∧ Below w.heap.size w w' := by
  have hts := hT.size
  have hn9 : (n : Int) ≤ 9223372036854775807 := by unfold maxLen at hn; omega
  subst en
  have hsum : ∀ x ∈ xs, x.sum.length = 32 := fun x hx => (hok x hx).sum
  have HOK := Lib.hid hok; clear hok
  have HSUM := Lib.hid hsum; clear hsum
  have HHL := Lib.hid hH; clear hH
  have hu73 : Tryd.prog.underlying 73 = some _ := Tryd.underlying73
  have hu26 : Tryd.prog.underlying 26 = some _ := Tryd.underlying26
  obtain ⟨wz, hwz⟩ : ∃ wz, w.alloc (.cells (bvs H).toArray 26) = wz := ⟨_, rfl⟩
  have hBz : Below w.heap.size w wz := by rw [← hwz]; exact (Below.refl _ _).alloc (Nat.le_refl _) _
  have hgz : wz.heap[w.heap.size]? = some (.cells (bvs H).toArray 26 (0, 0)) := by rw [← hwz]; exact heap_alloc_new w _
  have hTz := hT.below hBz hts
  have hRz := hr.below hBz (Nat.le_refl _)
  have hsz : w.heap.size < wz.heap.size := (Array.getElem?_eq_some_iff.1 hgz).1
  have HWZ := Lib.hid hwz; clear hwz
  have HT := Lib.hid hTz; clear hTz
  have HR := Lib.hid hRz; clear hRz
  have HGZ := Lib.hid hgz; clear hgz
  clear hr hT
  go_enter Tryd.func15, Tryd.ntmps15
  (repeat' ((fail_if_success at_builtin); first | go_values | go_skip | go_guarded | go_step | go_upon))
  rw [HWZ.out]
  obtain ⟨z5, hz5⟩ : ∃ z5, w.heap.size = z5 := ⟨_, rfl⟩
  have hz5l : z5 < wz.heap.size := by omega
  have hgz := HGZ.out
  rw [hz5] at hgz
  try rw [hz5]
  have HGZ5 := Lib.hid hgz
  have HZ5 := Lib.hid hz5
  clear hgz hz5 hsz HGZ
  refine (big21 a xs.length c xs wz HR.out HSUM.out rfl).mono ?_
  rintro _ w0 ⟨rfl, hB0⟩
  dsimp only
  obtain ⟨tb, htb⟩ : ∃ tb, decide (100 < xs.length ∨ ∃ x ∈ xs, x.big) = tb := ⟨_, rfl⟩
  rw [htb]
  have htz := HT.out.size
  have hBw0 : Below w.heap.size w w0 := hBz.trans (hB0.mono hBz.size)
  have HT0 := Lib.hid (HT.out.below hB0 htz)
  have hts0 := HT0.out.size
  cases tb
  rotate_left 1
  · (repeat' ((fail_if_success at_builtin); first | go_values | go_skip | go_guarded | go_step | go_upon))
    refine (works21 w0 HT0.out).mono ?_
    rintro _ w1 ⟨rfl, hB1⟩
    dsimp only
    (repeat' ((fail_if_success at_builtin); first | go_values | go_skip | go_guarded | go_step | go_upon))
    go_ret
    exact ⟨rfl, hBw0.trans (hB1.mono hBw0.size)⟩
  have hb := of_decide_eq_false htb
  clear htb
  have hlen : xs.length ≤ 100 := by
    rcases Nat.lt_or_ge 100 xs.length with h | h
    · exact absurd (Or.inl h) hb
    · exact h
  have hsml : ∀ x ∈ xs, ¬ x.big := fun x hx h => hb (Or.inr ⟨x, hx, h⟩)
  have HSML := Lib.hid hsml; clear hsml
  have hfit : ∀ x ∈ xs, x.Fit := fun x hx => fit_of_small (HOK.out x hx) (HSML.out x hx)
  have HFIT := Lib.hid hfit; clear hfit
  have HR0 := Lib.hid (HR.out.below hB0 (Nat.le_refl _))
  have HG50 := Lib.hid ((hB0.block z5 hz5l).trans HGZ5.out)
  have hz50 : z5 < w0.heap.size := Nat.lt_of_lt_of_le hz5l hB0.size
  clear hb HR HGZ5 hB0
  (repeat' ((fail_if_success at_builtin); first | go_values | go_skip | go_guarded | go_step | go_upon))
  refine (oneRNew w0).mono ?_
  rintro _ w1 ⟨m, rfl, hL⟩
  dsimp only
  have HL := Lib.hid hL; clear hL
  (repeat' ((fail_if_success at_builtin); first | go_values | go_skip | go_guarded | go_step | go_upon))
  go_loopw [10] (fun i wr => ∃ k : Nat, k ≤ xs.length ∧ i = .int .i64 k ∧ OneR w0 m k wr) (fun i _ => xs.length - (intOf i).toNat)
  case atStart => exact ⟨0, by omega, rfl, HL.out⟩
  case round =>
    obtain ⟨k, hk, rfl, hL⟩ := hrel
    have hBr : Below w0.heap.size w0 wr := by obtain ⟨S, cs, h1, h2, h3, _⟩ := hL.out; exact h3
    have HL := Lib.hid hL; clear hL
    by_cases hlt : k < xs.length
    · obtain ⟨b, off, hba, hra⟩ := ents_at HR0.out HSUM.out k hlt
      have HX := Lib.hid (List.getElem_mem hlt)
      generalize xs[k] = x at *
      have HRA := Lib.hid hra; clear hra
      have hxs : x.sum.length = 32 := HSUM.out x HX.out
      have hix : (Tryd.prog.info? 73).map (·.size) = some x.cells.length := by rw [Ent.cells_length hxs]; exact entSize
      have HIX := Lib.hid hix
      have HRW := Lib.hid (rangeAt_below HRA.out hBr (Nat.le_refl _))
      have bk : (0 : Int) ≤ (k : Int) ∧ (k : Int) < (xs.length : Int) := by omega
      subst hba
      clear hxs hix
      (repeat' ((fail_if_success at_builtin); first | ((with_reducible refine wpList_load_mid rfl 73 _ rfl b (off + k * 39) rfl x.cells _ HRW.out hu73 rfl HIX.out ?_)) | go_values | go_skip | go_guarded | go_step | go_upon))
      refine (oneRAdd w0 m k ⟨#[]⟩ x wr HL.out (by omega) (HFIT.out x HX.out) (HSML.out x HX.out)).mono ?_
      rintro _ w2 ⟨⟨v, rfl⟩, hL2⟩
      dsimp only
      have hB2 : Below w0.heap.size w0 w2 := by obtain ⟨S, cs, h1, h2, h3, _⟩ := hL2.out; exact h3
      have HL2 := Lib.hid hL2; clear hL2
      obtain ⟨D, hD⟩ : ∃ D, x.next H = D := ⟨_, rfl⟩
      have hDl : D.length = 32 := by rw [← hD]; exact Ent.next_length _ _
      have HD := Lib.hid hD; clear hD
      have hS0 : NxtS w2 z5 b (off + k * 39) H x w2.drew := nxtS_below (w1 := w2) ⟨⟨rangeAt_below (rangeAt_whole HG50.out) hB2 (Nat.le_refl _), rangeAt_below HRA.out hB2 (Nat.le_refl _)⟩, Below.refl _ _⟩ (Below.refl _ _).drew
      have hneqD := fun w => neqSum w D D hDl hDl
      rw [decide_eq_true (rfl : D = D)] at hneqD
      have hiX := HIX.out
      have hiH : (Tryd.prog.info? 26).map (·.size) = some (bvs H).length := by rw [bvs_length, HHL.out]; exact sizeSum
      have hTb : ∀ wx, Below w2.heap.size w2 wx → Tabs wx := fun wx h => HT0.out.below (hB2.trans (h.mono hB2.size)) hts0
      clear HRW hDl
      (repeat' ((fail_if_success at_builtin); first | go_values | go_skip | go_guarded | go_step | go_upon))
      refine wp_region_noPanic ?_
      refine wp_region_held_drew (S := NxtS w2 z5 b (off + k * 39) H x) (by kernel_rfl) ?_ (fun hHeld => ?_)
      · (exact hS0)
      refine' wpAnyH_take (i := 0) (oi := _) (v := _) rfl (by kernel_rfl) (by kernel_rfl) (by kernel_rfl) (fun _ _ _ h => h) (yieldsIf_load_mid (by rfl) _ _ rfl _ _ rfl _ _ ?ls1 ?lu1 ?ld1 ?li1) (by assumption) ?lr1
      case ls1 => (intro w hSw; (try dsimp only at hSw); go_split_ands; assumption)
      case lu1 => assumption
      case ld1 => rfl
      case li1 => first | assumption | (simp only [*]; done)
      try simp only [Act.put, List.getElem_toArray, List.getElem_cons_zero, List.getElem_cons_succ, List.setIfInBounds_toArray, List.set_cons_zero, List.set_cons_succ]
      refine wpAnyH_take (i := 1) (oi := _) (v := ?_) rfl (by kernel_rfl) (by kernel_rfl) (by kernel_rfl) (fun _ _ _ h => h) (Or.inl ⟨by rfl, ?_⟩) (by assumption) ?_
      rotate_left 1
      · (intro w hSw; (try dsimp only at hSw); go_simp; all_goals (with_reducible rfl))
      try simp only [Act.put, List.getElem_toArray, List.getElem_cons_zero, List.getElem_cons_succ, List.setIfInBounds_toArray, List.set_cons_zero, List.set_cons_succ]
      refine wpAnyH_take (i := 2) (oi := _) (v := ?_) rfl (by kernel_rfl) (by kernel_rfl) (by kernel_rfl) (fun _ _ _ h => h) (Or.inl ⟨by rfl, ?_⟩) (by assumption) ?_
      rotate_left 1
      · (intro w hSw; (try dsimp only at hSw); go_simp; all_goals (with_reducible rfl))
      try simp only [Act.put, List.getElem_toArray, List.getElem_cons_zero, List.getElem_cons_succ, List.setIfInBounds_toArray, List.set_cons_zero, List.set_cons_succ]
      refine wpAnyH_take (i := 3) (oi := _) (v := ?_) rfl (by kernel_rfl) (by kernel_rfl) (by kernel_rfl) (fun _ _ _ h => h) (Or.inl ⟨by rfl, ?_⟩) (by assumption) ?_
      rotate_left 1
      · (intro w hSw; (try dsimp only at hSw); go_simp; all_goals (with_reducible rfl))
      try simp only [Act.put, List.getElem_toArray, List.getElem_cons_zero, List.getElem_cons_succ, List.setIfInBounds_toArray, List.set_cons_zero, List.set_cons_succ]
      refine' wpAnyH_take (i := 4) (oi := _) (v := _) rfl (by kernel_rfl) (by kernel_rfl) (by kernel_rfl) (fun _ _ _ h => h) (yieldsIf_load_mid (by rfl) _ _ rfl _ _ rfl _ _ ?ls2 ?lu2 ?ld2 ?li2) (by assumption) ?lr2
      case ls2 => (intro w hSw; (try dsimp only at hSw); go_split_ands; assumption)
      case lu2 => assumption
      case ld2 => rfl
      case li2 => first | assumption | (simp only [*]; done)
      try simp only [Act.put, List.getElem_toArray, List.getElem_cons_zero, List.getElem_cons_succ, List.setIfInBounds_toArray, List.set_cons_zero, List.set_cons_succ]
      refine' wpAnyH_take (i := 6) (oi := _) (v := _) rfl (by kernel_rfl) (by kernel_rfl) (by kernel_rfl) (fun _ _ _ h => h) (yieldsIf_load_mid (by rfl) _ _ rfl _ _ rfl _ _ ?ls3 ?lu3 ?ld3 ?li3) (by assumption) ?lr3
      case ls3 => (intro w hSw; (try dsimp only at hSw); go_split_ands; assumption)
      case lu3 => assumption
      case ld3 => rfl
      case li3 => first | assumption | (simp only [*]; done)
      try simp only [Act.put, List.getElem_toArray, List.getElem_cons_zero, List.getElem_cons_succ, List.setIfInBounds_toArray, List.set_cons_zero, List.set_cons_succ]
      refine wpAnyH_take (i := 7) (oi := _) (v := ?_) rfl (by kernel_rfl) (by kernel_rfl) (by kernel_rfl) (fun _ _ _ h => h) (Or.inl ⟨by rfl, ?_⟩) (by assumption) ?_
      rotate_left 1
      · (intro w hSw; (try dsimp only at hSw); go_simp; all_goals (with_reducible rfl))
      try simp only [Act.put, List.getElem_toArray, List.getElem_cons_zero, List.getElem_cons_succ, List.setIfInBounds_toArray, List.set_cons_zero, List.set_cons_succ]
      refine wpAnyH_take (i := 8) (oi := _) (v := ?_) rfl (by kernel_rfl) (by kernel_rfl) (by kernel_rfl) (fun _ _ _ h => h) (Or.inl ⟨by rfl, ?_⟩) (by assumption) ?_
      rotate_left 1
      · (intro w hSw; (try dsimp only at hSw); go_simp; all_goals (with_reducible rfl))
      try simp only [Act.put, List.getElem_toArray, List.getElem_cons_zero, List.getElem_cons_succ, List.setIfInBounds_toArray, List.set_cons_zero, List.set_cons_succ]
      refine wpAnyH_take (i := 9) (oi := _) (v := ?_) rfl (by kernel_rfl) (by kernel_rfl) (by kernel_rfl) (fun _ _ _ h => h) (Or.inl ⟨by rfl, ?_⟩) (by assumption) ?_
      rotate_left 1
      · (intro w hSw; (try dsimp only at hSw); go_simp; all_goals (with_reducible rfl))
      try simp only [Act.put, List.getElem_toArray, List.getElem_cons_zero, List.getElem_cons_succ, List.setIfInBounds_toArray, List.set_cons_zero, List.set_cons_succ]
      refine' wpAnyH_take (i := 10) (oi := _) (v := _) rfl (by kernel_rfl) (by kernel_rfl) (by kernel_rfl) (fun _ _ _ h => h) (yieldsIf_load_mid (by rfl) _ _ rfl _ _ rfl _ _ ?ls4 ?lu4 ?ld4 ?li4) (by assumption) ?lr4
      case ls4 => (intro w hSw; (try dsimp only at hSw); go_split_ands; assumption)
      case lu4 => assumption
      case ld4 => rfl
      case li4 => first | assumption | (simp only [*]; done)
      try simp only [Act.put, List.getElem_toArray, List.getElem_cons_zero, List.getElem_cons_succ, List.setIfInBounds_toArray, List.set_cons_zero, List.set_cons_succ]
      refine wpAnyH_ready (rs := [5]) (by kernel_rfl) (by simp) ?_
      refine AllReadyH.cons (o := _) rfl (fun K hK => ?_) ?_
      rotate_left 1
      · exact AllReadyH.nil
      go_simp
      go_at_call 61
      refine (auditNext H D x _ HD.out (hTb _ hHeld.2) HHL.out (HFIT.out x HX.out).ok (HFIT.out x HX.out).str (HFIT.out x HX.out).sub).mono ?_
      rintro _ wA ⟨rfl, hBA⟩
      dsimp only
      refine hK.out _ _ ?_ (fun hHeld => ?_)
      · (apply nxtS_below; assumption; assumption)
      clear hK K
      try simp only [Act.put, List.getElem_toArray, List.getElem_cons_zero, List.getElem_cons_succ, List.setIfInBounds_toArray, List.set_cons_zero, List.set_cons_succ]
      refine wpAnyH_ready (rs := [11]) (by kernel_rfl) (by simp) ?_
      refine AllReadyH.cons (o := _) rfl (fun K hK => ?_) ?_
      rotate_left 1
      · exact AllReadyH.nil
      go_simp
      go_at_call 62
      refine (refNext21 H D x _ HD.out HHL.out (HFIT.out x HX.out)).mono ?_
      rintro _ wB ⟨rfl, hBB⟩
      dsimp only
      refine hK.out _ _ ?_ (fun hHeld => ?_)
      · (apply nxtS_below; assumption; assumption)
      clear hK K
      try simp only [Act.put, List.getElem_toArray, List.getElem_cons_zero, List.getElem_cons_succ, List.setIfInBounds_toArray, List.set_cons_zero, List.set_cons_succ]
      refine wpAnyH_take (i := 12) (oi := _) (v := ?_) rfl (by kernel_rfl) (by kernel_rfl) (by kernel_rfl) (fun _ _ _ h => h) (Or.inl ⟨by rfl, ?_⟩) (by assumption) ?_
      rotate_left 1
      · (intro w hSw; (try dsimp only at hSw); go_simp; all_goals (with_reducible rfl))
      try simp only [Act.put, List.getElem_toArray, List.getElem_cons_zero, List.getElem_cons_succ, List.setIfInBounds_toArray, List.set_cons_zero, List.set_cons_succ]
      refine wpAnyH_done (by kernel_rfl) ?_ _
      refine NoPanic.normal ?_
      have hN := HL2.out.below hHeld.2
      have HN := Lib.hid hN
      clear hN hHeld hS0 hneqD hiX hiH hTb hBA hBB
      (repeat' ((fail_if_success at_builtin); first | go_values | go_skip | go_guarded | go_step | go_upon))
      go_roundw
      case rel => exact ⟨k + 1, by omega, by go_num, HN.out⟩
      case measure => simp [intOf]; omega
    obtain rfl : k = xs.length := by omega
    (repeat' ((fail_if_success at_builtin); first | go_values | go_skip | go_guarded | go_step | go_upon))
    refine (oneRAll w0 m xs.length ⟨#[]⟩ wr HL.out (by omega)).mono ?_
    rintro _ wr' ⟨l, a4, c4, rfl, hll, hlf, hr4, rfl⟩
    dsimp only
    have HLF := Lib.hid hlf
    have HR4 := Lib.hid hr4
    have HLR := Lib.hid HL.out
    clear hlf hr4 HL
    (repeat' ((fail_if_success at_builtin); first | go_values | go_skip | go_guarded | go_step | go_upon))
    refine (copyEntries a4 l.length c4 l wr HR4.out (fun x hx => (HLF.out x hx).1.ok.sum) rfl (by omega)).mono ?_
    rintro _ w4 ⟨a5, c5, rfl, hc5, hm5, hr5, hB5, hO5⟩
    dsimp only
    have HR5 := Lib.hid hr5
    have HO5 := Lib.hid hO5
    obtain ⟨iS, zS, hiS, hzS, hsS⟩ := sumInfo_parts
    have HIS := Lib.hid hiS
    have HZS := Lib.hid hzS
    have HSS := Lib.hid hsS
    clear hr5 hO5 HR4 hiS hzS hsS
    by_cases hl0 : 0 < l.length
    · have b1 := pick_lt at_ (l.length : Int) (by omega)
      obtain ⟨p1, hp1⟩ : ∃ p, pick at_ (l.length : Int) = p := ⟨_, rfl⟩
      rw [hp1] at b1
      obtain ⟨j, hj⟩ : ∃ j : Nat, p1 = (j : Int) := ⟨p1.toNat, by omega⟩
      subst hj
      have HP1 := Lib.hid hp1
      have hjl : j < l.length := by omega
      clear hp1
      obtain ⟨b, off, hba, hra⟩ := ents_at HR5.out (fun x hx => (HLF.out x hx).1.ok.sum) j hjl
      have hoff : off = 0 := by
        rw [hba] at HO5
        rcases HO5.out.2 with ⟨e, _⟩ | ⟨_, _, _, e, _⟩
        · cases e
        · cases e; rfl
      subst hoff
      subst hba
      have HX := Lib.hid (List.getElem_mem hjl)
      generalize hxx : l[j] = x at *
      clear hxx
      have hxs : x.sum.length = 32 := (HLF.out x HX.out).1.ok.sum
      have hix : (Tryd.prog.info? 73).map (·.size) = some x.cells.length := by rw [Ent.cells_length hxs]; exact entSize
      have HIX := Lib.hid hix
      have HRA := Lib.hid hra
      have hxb : x.stream.size ≤ 512 ∧ x.subject.size ≤ 512 := by have := (HLF.out x HX.out).2; unfold Ent.big at this; omega
      have bj : (0 : Int) ≤ (j : Int) ∧ (j : Int) < (l.length : Int) := by omega
      rw [Nat.zero_add] at hra
      clear hix hxs
      (repeat' ((fail_if_success at_builtin); first | go_values | go_skip | go_guarded | go_step | go_upon))
      refine (pickAny at_ (l.length : Int) w4 hat (by omega)).mono ?_
      rintro _ w4' ⟨rfl, rfl⟩
      dsimp only
      rw [HP1.out]
      have HRA2 := Lib.hid hra
      clear hra HRA
      (repeat' ((fail_if_success at_builtin); first | ((with_reducible refine wpList_load_mid rfl 73 _ rfl b (j * 39) rfl x.cells _ HRA2.out hu73 rfl HIX.out ?_)) | go_values | go_skip | go_guarded | go_step | go_upon))
      refine (turned21 x how w4 (HLF.out x HX.out).1.ok hxb.1 hxb.2 hhow).mono ?_
      rintro _ w6 ⟨y, rfl, hyf, hB6⟩
      dsimp only
      have hO6 := owns_below HO5.out hB6 (Nat.le_refl _)
      obtain ⟨cur, cap, hcur, hsz, hnc⟩ : ∃ cur cap, w6.heap[b]? = some (.cells cur 73 (0, 0)) ∧ cur.size = cap * 39 ∧ l.length ≤ cap := by
        rcases hO6.2 with ⟨e, _⟩ | ⟨g', cap, cur, e, _, hh, h1, h2, h3, _⟩
        · cases e
        · cases e; exact ⟨cur, _, hh, h3, h1⟩
      have hyl : y.cells.length = 39 := Ent.cells_length hyf.ok.sum
      have HCUR := Lib.hid hcur
      have HIY := Lib.hid (show (Tryd.prog.info? 73).map (·.size) = some y.cells.length by rw [hyl]; exact entSize)
      have HFT := Lib.hid (show j * 39 + y.cells.length ≤ cur.size by rw [hyl, hsz]; have := Nat.mul_le_mul_right 39 (show j + 1 ≤ cap by omega); omega)
      have HOY := Lib.hid y.cells_oneCell
      have HO6 := Lib.hid hO6
      have HYF := Lib.hid hyf
      clear hcur hsz hnc hyl hO6 hyf
      (repeat' ((fail_if_success at_builtin); first | (((with_reducible refine wpList_store_blk rfl 73 _ _ rfl b (j * 39) y.cells rfl rfl _ _ HCUR.out HFT.out HIY.out HOY.out ?_); intro wX hg7 hG7; have HG7 := Lib.hid hg7; clear hg7)) | go_values | go_skip | go_guarded | go_step | go_upon))
      obtain ⟨l', hl'⟩ : ∃ l', l.set j y = l' := ⟨_, rfl⟩
      have hln : l'.length = l.length := by rw [← hl', List.length_set]
      have hbw : wr.heap.size ≤ b := (owns_span HO5.out b rfl).1
      have HRX := Lib.hid (show RdC wX (some ⟨b, 0, none⟩) (l'.flatMap Ent.cells) by rw [← hl']; exact owns_put HO6.out rfl (fun x hx => (HLF.out x hx).1.ok.sum) HYF.out.ok.sum hjl HCUR.out HG7.out)
      have HFX := Lib.hid (show ∀ x ∈ l', x.Fit by
        intro x hx
        rw [← hl'] at hx
        rcases List.mem_or_eq_of_mem_set hx with h2 | h2
        · exact (HLF.out x h2).1
        · rw [h2]; exact HYF.out)
      have hBX : Below wr.heap.size wr wX := (hB5.trans (hB6.mono hB5.size)).grown hG7 (Nat.le_trans hB5.size hB6.size) (fun k e => by cases e; exact hbw)
      obtain ⟨a5, ha5⟩ : ∃ a5, some (⟨b, 0, none⟩ : Addr) = a5 := ⟨_, rfl⟩
      rw [ha5] at HRX
      rw [ha5, ← hln]
      have hl'l : l'.length ≤ xs.length := by omega
      have hc5' : l'.length ≤ c5 := by omega
      clear hl' hln hbw ha5 hG7
      have hLX := HLR.out.below hBX
      have HLX := Lib.hid hLX
      have hB0X : Below w0.heap.size w0 wX := hBr.trans (hBX.mono hBr.size)
      have hS0 : Hol2 wX z5 H wX.drew := hol2_below (w1 := wX) ⟨rangeAt_below (rangeAt_whole HG50.out) hB0X (Nat.le_refl _), Below.refl _ _⟩ (Below.refl _ _).drew
      have hiH : (Tryd.prog.info? 26).map (·.size) = some (bvs H).length := by rw [bvs_length, HHL.out]; exact sizeSum
      clear hLX
      (repeat' ((fail_if_success at_builtin); first | go_values | go_skip | go_guarded | go_step | go_upon))
      refine wp_region_noPanic ?_
      refine wp_region_held_drew (S := Hol2 wX z5 H) (by kernel_rfl) ?_ (fun hHeld => ?_)
      · (exact hS0)
      refine' wpAnyH_take (i := 0) (oi := _) (v := _) rfl (by kernel_rfl) (by kernel_rfl) (by kernel_rfl) (fun _ _ _ h => h) (yieldsIf_load_mid (by rfl) _ _ rfl _ _ rfl _ _ ?ls5 ?lu5 ?ld5 ?li5) (by assumption) ?lr5
      case ls5 => (intro w hSw; (try dsimp only at hSw); go_split_ands; assumption)
      case lu5 => assumption
      case ld5 => rfl
      case li5 => first | assumption | (simp only [*]; done)
      try simp only [Act.put, List.getElem_toArray, List.getElem_cons_zero, List.getElem_cons_succ, List.setIfInBounds_toArray, List.set_cons_zero, List.set_cons_succ]
      refine wpAnyH_take (i := 1) (oi := _) (v := ?_) rfl (by kernel_rfl) (by kernel_rfl) (by kernel_rfl) (fun _ _ _ h => h) (Or.inl ⟨by rfl, ?_⟩) (by assumption) ?_
      rotate_left 1
      · (intro w hSw; (try dsimp only at hSw); go_simp; all_goals (with_reducible rfl))
      try simp only [Act.put, List.getElem_toArray, List.getElem_cons_zero, List.getElem_cons_succ, List.setIfInBounds_toArray, List.set_cons_zero, List.set_cons_succ]
      refine wpAnyH_take (i := 3) (oi := _) (v := ?_) rfl (by kernel_rfl) (by kernel_rfl) (by kernel_rfl) (fun _ _ _ h => h) (Or.inl ⟨by rfl, ?_⟩) (by assumption) ?_
      rotate_left 1
      · (intro w hSw; (try dsimp only at hSw); go_simp; all_goals (with_reducible rfl))
      try simp only [Act.put, List.getElem_toArray, List.getElem_cons_zero, List.getElem_cons_succ, List.setIfInBounds_toArray, List.set_cons_zero, List.set_cons_succ]
      refine wpAnyH_ready (rs := [2]) (by kernel_rfl) (by simp) ?_
      refine AllReadyH.cons (o := _) rfl (fun K hK => ?_) ?_
      rotate_left 1
      · exact AllReadyH.nil
      go_simp
      go_at_call 66
      refine (oneRHead w0 m xs.length ⟨#[]⟩ _ (HLX.out.below hHeld.2) (by omega)).mono ?_
      rintro _ wY ⟨P, rfl, hPl, hBY⟩
      dsimp only
      refine hK.out _ _ ?_ (fun hHeld => ?_)
      · (apply hol2_below; assumption; assumption)
      clear hK K
      try simp only [Act.put, List.getElem_toArray, List.getElem_cons_zero, List.getElem_cons_succ, List.setIfInBounds_toArray, List.set_cons_zero, List.set_cons_succ]
      have HPL := Lib.hid hPl
      refine wpAnyH_ready (rs := [4]) (by kernel_rfl) (by simp) ?_
      refine AllReadyH.cons (o := _) rfl (fun K hK => ?_) ?_
      rotate_left 1
      · exact AllReadyH.nil
      refine step_build_three (by kernel_rfl) 80 26 _ _ _ rfl Tryd.underlying80 32 (bvs H) (bvs P) (bvs zeros32) (by rw [bvs_length, HHL.out]) (by rw [bvs_length, HPL.out]) rfl rfl rfl rfl iS zS HIS.out HZS.out HSS.out (by decide) (by decide) ?_
      intro wZ hgZ hBZ hsZ
      refine hK.out _ _ ?_ (fun hHeld => ?_)
      · (apply hol2_below; assumption; assumption)
      clear hK K
      try simp only [Act.put, List.getElem_toArray, List.getElem_cons_zero, List.getElem_cons_succ, List.setIfInBounds_toArray, List.set_cons_zero, List.set_cons_succ]
      refine wpAnyH_take (i := 5) (oi := _) (v := ?_) rfl (by kernel_rfl) (by kernel_rfl) (by kernel_rfl) (fun _ _ _ h => h) (Or.inl ⟨by rfl, ?_⟩) (by assumption) ?_
      rotate_left 1
      · (intro w hSw; (try dsimp only at hSw); go_simp; all_goals (with_reducible rfl))
      try simp only [Act.put, List.getElem_toArray, List.getElem_cons_zero, List.getElem_cons_succ, List.setIfInBounds_toArray, List.set_cons_zero, List.set_cons_succ]
      refine wpAnyH_done (by kernel_rfl) ?_ _
      refine NoPanic.normal ?_
      have hBXZ := hHeld.2
      have HGZ := Lib.hid hgZ
      obtain ⟨z12, hz12⟩ : ∃ z, wY.heap.size = z := ⟨_, rfl⟩
      rw [hz12] at hgZ
      try rw [hz12]
      have HGZ2 := Lib.hid hgZ
      have hz12l : z12 < wZ.heap.size := by omega
      have hXl : wX.heap.size ≤ wZ.heap.size := hBXZ.size
      have HRZ := Lib.hid (HRX.out.below hBXZ (Nat.le_refl _))
      have hB0Z : Below w0.heap.size w0 wZ := hB0X.trans (hBXZ.mono hB0X.size)
      have HR0Z := Lib.hid (HR0.out.below hB0Z (Nat.le_refl _))
      clear hHeld hS0 hiH hgZ HGZ hBY hBZ hsZ hz12 HRX
      (repeat' ((fail_if_success at_builtin); first | go_values | go_skip | go_guarded | go_step | go_upon))
      go_loopw [13] (fun i wr => ∃ k : Nat, k ≤ 3 ∧ i = .int .i64 k ∧ Below wZ.heap.size wZ wr) (fun i _ => 3 - (intOf i).toNat)
      case atStart => exact ⟨0, by omega, rfl, Below.refl _ _⟩
      case round =>
        obtain ⟨i, hi, rfl, hBi⟩ := hrel
        have hB0i : Below w0.heap.size w0 wr := hB0Z.trans (hBi.mono hB0Z.size)
        by_cases hlt : i < 3
        · obtain ⟨Q, hQl, hQr⟩ := heads_at HGZ2.out HHL.out HPL.out rfl i hlt
          have HQL := Lib.hid hQl
          have HQR := Lib.hid hQr
          have hiQ : (Tryd.prog.info? 26).map (·.size) = some (bvs Q).length := by rw [bvs_length, hQl]; exact sizeSum
          have HIQ := Lib.hid hiQ
          obtain ⟨vn, ve, hv1⟩ : ∃ vn ve, verify l' Q = (vn, ve) := ⟨_, _, rfl⟩
          obtain ⟨un, ue, hv2⟩ : ∃ un ue, verify xs Q = (un, ue) := ⟨_, _, rfl⟩
          have HV1 := Lib.hid hv1
          have HV2 := Lib.hid hv2
          have bi : (0 : Int) ≤ (i : Int) ∧ (i : Int) < 3 := by omega
          have tv1 : ((vn : Int) != (vn : Int)) = false := by simp
          have tv2 : (ve != ve) = false := by simp
          have tu1 : ((un : Int) != (un : Int)) = false := by simp
          have tu2 : (ue != ue) = false := by simp
          clear hQl hQr hv1 hv2
          (repeat' ((fail_if_success at_builtin); first | go_values | go_skip | go_guarded | go_step | go_upon))
          refine (lentEntries a5 l'.length c5 l' wr (HRZ.out.below hBi (Nat.le_refl _)) (fun x hx => (HFX.out x hx).ok.sum) rfl (by omega)).mono ?_
          rintro _ wA ⟨a6, c6, rfl, hc6, hm6, hr6, hBA, _⟩
          dsimp only
          have hlm : (l' ++ marksE).length = l'.length + 5 := by simp [marksE]
          rw [hlm] at hc6 ⊢
          have HR6 := Lib.hid hr6
          have hsl := fun w => run_slice_toS (P := Tryd.prog) 68 73 39 Tryd.underlying68 entSize a6 (l'.length + 5) c6 l'.length (by omega) w
          have hZA : Below wZ.heap.size wZ wA := hBi.trans (hBA.mono hBi.size)
          have hTb : ∀ wx, Below wA.heap.size wA wx → Tabs wx := fun wx h => HT0.out.below (hB0i.trans ((hBA.mono hB0i.size).trans (h.mono (Nat.le_trans hB0i.size hBA.size)))) hts0
          have HTB := Lib.hid hTb
          have hS1 : HedS wA z12 (i * 32) Q wA.drew := hedS_below (w1 := wA) ⟨rangeAt_below HQR.out hZA (Nat.le_refl _), Below.refl _ _⟩ (Below.refl _ _).drew
          clear hr6 hlm hTb
          (repeat' ((fail_if_success at_builtin); first | go_values | go_skip | go_guarded | go_step | go_upon))
          refine wp_region_noPanic ?_
          refine wp_region_held_drew (S := HedS wA z12 (i * 32) Q) (by kernel_rfl) ?_ (fun hHeld => ?_)
          · (exact hS1)
          refine wpAnyH_take (i := 0) (oi := _) (v := ?_) rfl (by kernel_rfl) (by kernel_rfl) (by kernel_rfl) (fun _ _ _ h => h) (Or.inl ⟨by rfl, ?_⟩) (by assumption) ?_
          rotate_left 1
          · (intro w hSw; (try dsimp only at hSw); go_simp; all_goals (with_reducible rfl))
          try simp only [Act.put, List.getElem_toArray, List.getElem_cons_zero, List.getElem_cons_succ, List.setIfInBounds_toArray, List.set_cons_zero, List.set_cons_succ]
          refine wpAnyH_take (i := 1) (oi := _) (v := ?_) rfl (by kernel_rfl) (by kernel_rfl) (by kernel_rfl) (fun _ _ _ h => h) (Or.inl ⟨by rfl, ?_⟩) (by assumption) ?_
          rotate_left 1
          · (intro w hSw; (try dsimp only at hSw); go_simp; all_goals (with_reducible rfl))
          try simp only [Act.put, List.getElem_toArray, List.getElem_cons_zero, List.getElem_cons_succ, List.setIfInBounds_toArray, List.set_cons_zero, List.set_cons_succ]
          refine wpAnyH_take (i := 2) (oi := _) (v := ?_) rfl (by kernel_rfl) (by kernel_rfl) (by kernel_rfl) (fun _ _ _ h => h) (Or.inl ⟨by rfl, ?_⟩) (by assumption) ?_
          rotate_left 1
          · (intro w hSw; (try dsimp only at hSw); go_simp; all_goals (with_reducible rfl))
          try simp only [Act.put, List.getElem_toArray, List.getElem_cons_zero, List.getElem_cons_succ, List.setIfInBounds_toArray, List.set_cons_zero, List.set_cons_succ]
          refine wpAnyH_take (i := 3) (oi := _) (v := ?_) rfl (by kernel_rfl) (by kernel_rfl) (by kernel_rfl) (fun _ _ _ h => h) (Or.inl ⟨by rfl, ?_⟩) (by assumption) ?_
          rotate_left 1
          · (intro w hSw; (try dsimp only at hSw); go_simp; all_goals (with_reducible rfl))
          try simp only [Act.put, List.getElem_toArray, List.getElem_cons_zero, List.getElem_cons_succ, List.setIfInBounds_toArray, List.set_cons_zero, List.set_cons_succ]
          refine wpAnyH_take (i := 4) (oi := _) (v := ?_) rfl (by kernel_rfl) (by kernel_rfl) (by kernel_rfl) (fun _ _ _ h => h) (Or.inl ⟨by rfl, ?_⟩) (by assumption) ?_
          rotate_left 1
          · (intro w hSw; (try dsimp only at hSw); go_simp; all_goals (with_reducible rfl))
          try simp only [Act.put, List.getElem_toArray, List.getElem_cons_zero, List.getElem_cons_succ, List.setIfInBounds_toArray, List.set_cons_zero, List.set_cons_succ]
          refine wpAnyH_take (i := 5) (oi := _) (v := ?_) rfl (by kernel_rfl) (by kernel_rfl) (by kernel_rfl) (fun _ _ _ h => h) (Or.inl ⟨by rfl, ?_⟩) (by assumption) ?_
          rotate_left 1
          · (intro w hSw; (try dsimp only at hSw); go_simp; all_goals (with_reducible rfl))
          try simp only [Act.put, List.getElem_toArray, List.getElem_cons_zero, List.getElem_cons_succ, List.setIfInBounds_toArray, List.set_cons_zero, List.set_cons_succ]
          refine wpAnyH_take (i := 6) (oi := _) (v := ?_) rfl (by kernel_rfl) (by kernel_rfl) (by kernel_rfl) (fun _ _ _ h => h) (Or.inl ⟨by rfl, ?_⟩) (by assumption) ?_
          rotate_left 1
          · (intro w hSw; (try dsimp only at hSw); go_simp; all_goals (with_reducible rfl))
          try simp only [Act.put, List.getElem_toArray, List.getElem_cons_zero, List.getElem_cons_succ, List.setIfInBounds_toArray, List.set_cons_zero, List.set_cons_succ]
          refine' wpAnyH_take (i := 7) (oi := _) (v := _) rfl (by kernel_rfl) (by kernel_rfl) (by kernel_rfl) (fun _ _ _ h => h) (yieldsIf_load_mid (by rfl) _ _ rfl _ _ rfl _ _ ?ls6 ?lu6 ?ld6 ?li6) (by assumption) ?lr6
          case ls6 => (intro w hSw; (try dsimp only at hSw); go_split_ands; assumption)
          case lu6 => assumption
          case ld6 => rfl
          case li6 => first | assumption | (simp only [*]; done)
          try simp only [Act.put, List.getElem_toArray, List.getElem_cons_zero, List.getElem_cons_succ, List.setIfInBounds_toArray, List.set_cons_zero, List.set_cons_succ]
          refine wpAnyH_ready (rs := [8]) (by kernel_rfl) (by simp) ?_
          refine AllReadyH.cons (o := _) rfl (fun K hK => ?_) ?_
          rotate_left 1
          · exact AllReadyH.nil
          go_simp
          go_at_call 68
          refine (auditVerify a6 l'.length c6 l' Q vn ve _ HV1.out (HTB.out _ hHeld.2) (by have := rdc_take (HR6.out.below hHeld.2 (Nat.le_refl _)) (l'.length * 39);rwa [List.flatMap_append, List.take_left' (ents_length l' (fun x hx => (HFX.out x hx).ok.sum))] at this) (fun x hx => ⟨(HFX.out x hx).ok, (HFX.out x hx).str, (HFX.out x hx).sub⟩) rfl (by omega) (by omega) HQL.out).mono ?_
          rintro _ wB ⟨rfl, hBB⟩
          dsimp only
          refine hK.out _ _ ?_ (fun hHeld => ?_)
          · (apply hedS_below; assumption; assumption)
          clear hK K
          try simp only [Act.put, List.getElem_toArray, List.getElem_cons_zero, List.getElem_cons_succ, List.setIfInBounds_toArray, List.set_cons_zero, List.set_cons_succ]
          refine wpAnyH_take (i := 9) (oi := _) (v := ?_) rfl (by kernel_rfl) (by kernel_rfl) (by kernel_rfl) (fun _ _ _ h => h) (Or.inl ⟨by rfl, ?_⟩) (by assumption) ?_
          rotate_left 1
          · (intro w hSw; (try dsimp only at hSw); go_simp; all_goals (with_reducible rfl))
          try simp only [Act.put, List.getElem_toArray, List.getElem_cons_zero, List.getElem_cons_succ, List.setIfInBounds_toArray, List.set_cons_zero, List.set_cons_succ]
          refine wpAnyH_take (i := 10) (oi := _) (v := ?_) rfl (by kernel_rfl) (by kernel_rfl) (by kernel_rfl) (fun _ _ _ h => h) (Or.inl ⟨by rfl, ?_⟩) (by assumption) ?_
          rotate_left 1
          · (intro w hSw; (try dsimp only at hSw); go_simp; all_goals (with_reducible rfl))
          try simp only [Act.put, List.getElem_toArray, List.getElem_cons_zero, List.getElem_cons_succ, List.setIfInBounds_toArray, List.set_cons_zero, List.set_cons_succ]
          refine wpAnyH_take (i := 11) (oi := _) (v := ?_) rfl (by kernel_rfl) (by kernel_rfl) (by kernel_rfl) (fun _ _ _ h => h) (Or.inl ⟨by rfl, ?_⟩) (by assumption) ?_
          rotate_left 1
          · (intro w hSw; (try dsimp only at hSw); go_simp; all_goals (with_reducible rfl))
          try simp only [Act.put, List.getElem_toArray, List.getElem_cons_zero, List.getElem_cons_succ, List.setIfInBounds_toArray, List.set_cons_zero, List.set_cons_succ]
          refine wpAnyH_take (i := 12) (oi := _) (v := ?_) rfl (by kernel_rfl) (by kernel_rfl) (by kernel_rfl) (fun _ _ _ h => h) (Or.inl ⟨by rfl, ?_⟩) (by assumption) ?_
          rotate_left 1
          · (intro w hSw; (try dsimp only at hSw); go_simp; all_goals (with_reducible rfl))
          try simp only [Act.put, List.getElem_toArray, List.getElem_cons_zero, List.getElem_cons_succ, List.setIfInBounds_toArray, List.set_cons_zero, List.set_cons_succ]
          refine wpAnyH_take (i := 13) (oi := _) (v := ?_) rfl (by kernel_rfl) (by kernel_rfl) (by kernel_rfl) (fun _ _ _ h => h) (Or.inl ⟨by rfl, ?_⟩) (by assumption) ?_
          rotate_left 1
          · (intro w hSw; (try dsimp only at hSw); go_simp; all_goals (with_reducible rfl))
          try simp only [Act.put, List.getElem_toArray, List.getElem_cons_zero, List.getElem_cons_succ, List.setIfInBounds_toArray, List.set_cons_zero, List.set_cons_succ]
          refine wpAnyH_done (by kernel_rfl) ?_ _
          refine NoPanic.normal ?_
          have hAB := hHeld.2
          have hqB := hHeld.1
          have HQB := Lib.hid hqB
          have hZB : Below wZ.heap.size wZ wB := hZA.trans (hAB.mono hZA.size)
          clear hHeld hS1 hBB hqB hsl hiQ
          (repeat' ((fail_if_success at_builtin); first | ((with_reducible refine wpList_load_mid rfl 26 _ rfl z12 (i * 32) rfl (bvs Q) _ HQB.out hu26 rfl HIQ.out ?_)) | go_values | go_skip | go_guarded | go_step | go_upon))
          refine (refVerify21 a5 l'.length c5 l' Q vn ve wB HV1.out (HRZ.out.below hZB (Nat.le_refl _)) HFX.out rfl hc5' (by omega) HQL.out).mono ?_
          rintro _ wC ⟨rfl, hBC⟩
          dsimp only
          have hAC := hAB.trans (hBC.mono hAB.size)
          have hZC : Below wZ.heap.size wZ wC := hZA.trans (hAC.mono hZA.size)
          have HQC := Lib.hid (rangeAt_below HQR.out hZC (Nat.le_refl _))
          (repeat' ((fail_if_success at_builtin); first | ((with_reducible refine wpList_load_mid rfl 26 _ rfl z12 (i * 32) rfl (bvs Q) _ HQC.out hu26 rfl HIQ.out ?_)) | go_values | go_skip | go_guarded | go_step | go_upon))
          refine (auditVerify a xs.length c xs Q un ue wC HV2.out (HTB.out _ hAC) (HR0Z.out.below hZC (Nat.le_refl _)) (fun x hx => ⟨(HFIT.out x hx).ok, (HFIT.out x hx).str, (HFIT.out x hx).sub⟩) rfl hnc (by omega) HQL.out).mono ?_
          rintro _ wD ⟨rfl, hBD⟩
          dsimp only
          have hAD := hAC.trans (hBD.mono hAC.size)
          have hZD : Below wZ.heap.size wZ wD := hZA.trans (hAD.mono hZA.size)
          have HQD := Lib.hid (rangeAt_below HQR.out hZD (Nat.le_refl _))
          (repeat' ((fail_if_success at_builtin); first | ((with_reducible refine wpList_load_mid rfl 26 _ rfl z12 (i * 32) rfl (bvs Q) _ HQD.out hu26 rfl HIQ.out ?_)) | go_values | go_skip | go_guarded | go_step | go_upon))
          refine (refVerify21 a xs.length c xs Q un ue wD HV2.out (HR0Z.out.below hZD (Nat.le_refl _)) HFIT.out rfl hnc (by omega) HQL.out).mono ?_
          rintro _ wE ⟨rfl, hBE⟩
          dsimp only
          have hAE := hAD.trans (hBE.mono hAD.size)
          have hZE : Below wZ.heap.size wZ wE := hZA.trans (hAE.mono hZA.size)
          (repeat' ((fail_if_success at_builtin); first | go_values | go_skip | go_guarded | go_step | go_upon))
          refine (keptEntries a6 a5 l'.length c6 c5 l' wE (HR6.out.below hAE (Nat.le_refl _)) (HRZ.out.below hZE (Nat.le_refl _)) (fun x hx => (HFX.out x hx).ok.sum) rfl hc6 (by omega)).mono ?_
          rintro _ wF ⟨rfl, hBF⟩
          dsimp only
          have hZF : Below wZ.heap.size wZ wF := hZE.trans (hBF.mono hZE.size)
          (repeat' ((fail_if_success at_builtin); first | go_values | go_skip | go_guarded | go_step | go_upon))
          go_roundw
          case rel => exact ⟨i + 1, by omega, by go_num, hZF⟩
          case measure => simp [intOf]; omega
        · (repeat' ((fail_if_success at_builtin); first | go_values | go_skip | go_guarded | go_step | go_upon))
          refine (works21 wr (HT0.out.below hB0i hts0)).mono ?_
          rintro _ wA ⟨rfl, hBA⟩
          dsimp only
          (repeat' ((fail_if_success at_builtin); first | go_values | go_skip | go_guarded | go_step | go_upon))
          go_ret
          exact ⟨rfl, hBw0.trans ((hB0i.trans (hBA.mono hB0i.size)).mono hBw0.size)⟩
    · have HRX := Lib.hid HR5.out
      have HFX := Lib.hid (show ∀ x ∈ l, x.Fit from fun x hx => (HLF.out x hx).1)
      have hBX := hB5
      have hl'l := hll
      have hc5' := hc5
      have hLX := HLR.out.below hBX
      have HLX := Lib.hid hLX
      have hB0X : Below w0.heap.size w0 w4 := hBr.trans (hBX.mono hBr.size)
      have hS0 : Hol2 w4 z5 H w4.drew := hol2_below (w1 := w4) ⟨rangeAt_below (rangeAt_whole HG50.out) hB0X (Nat.le_refl _), Below.refl _ _⟩ (Below.refl _ _).drew
      have hiH : (Tryd.prog.info? 26).map (·.size) = some (bvs H).length := by rw [bvs_length, HHL.out]; exact sizeSum
      clear hLX
      (repeat' ((fail_if_success at_builtin); first | go_values | go_skip | go_guarded | go_step | go_upon))
      clear hl0
      refine wp_region_noPanic ?_
      refine wp_region_held_drew (S := Hol2 w4 z5 H) (by kernel_rfl) ?_ (fun hHeld => ?_)
      · (exact hS0)
      refine' wpAnyH_take (i := 0) (oi := _) (v := _) rfl (by kernel_rfl) (by kernel_rfl) (by kernel_rfl) (fun _ _ _ h => h) (yieldsIf_load_mid (by rfl) _ _ rfl _ _ rfl _ _ ?ls7 ?lu7 ?ld7 ?li7) (by assumption) ?lr7
      case ls7 => (intro w hSw; (try dsimp only at hSw); go_split_ands; assumption)
      case lu7 => assumption
      case ld7 => rfl
      case li7 => first | assumption | (simp only [*]; done)
      try simp only [Act.put, List.getElem_toArray, List.getElem_cons_zero, List.getElem_cons_succ, List.setIfInBounds_toArray, List.set_cons_zero, List.set_cons_succ]
      refine wpAnyH_take (i := 1) (oi := _) (v := ?_) rfl (by kernel_rfl) (by kernel_rfl) (by kernel_rfl) (fun _ _ _ h => h) (Or.inl ⟨by rfl, ?_⟩) (by assumption) ?_
      rotate_left 1
      · (intro w hSw; (try dsimp only at hSw); go_simp; all_goals (with_reducible rfl))
      try simp only [Act.put, List.getElem_toArray, List.getElem_cons_zero, List.getElem_cons_succ, List.setIfInBounds_toArray, List.set_cons_zero, List.set_cons_succ]
      refine wpAnyH_take (i := 3) (oi := _) (v := ?_) rfl (by kernel_rfl) (by kernel_rfl) (by kernel_rfl) (fun _ _ _ h => h) (Or.inl ⟨by rfl, ?_⟩) (by assumption) ?_
      rotate_left 1
      · (intro w hSw; (try dsimp only at hSw); go_simp; all_goals (with_reducible rfl))
      try simp only [Act.put, List.getElem_toArray, List.getElem_cons_zero, List.getElem_cons_succ, List.setIfInBounds_toArray, List.set_cons_zero, List.set_cons_succ]
      refine wpAnyH_ready (rs := [2]) (by kernel_rfl) (by simp) ?_
      refine AllReadyH.cons (o := _) rfl (fun K hK => ?_) ?_
      rotate_left 1
      · exact AllReadyH.nil
      go_simp
      go_at_call 66
      refine (oneRHead w0 m xs.length ⟨#[]⟩ _ (HLX.out.below hHeld.2) (by omega)).mono ?_
      rintro _ wY ⟨P, rfl, hPl, hBY⟩
      dsimp only
      refine hK.out _ _ ?_ (fun hHeld => ?_)
      · (apply hol2_below; assumption; assumption)
      clear hK K
      try simp only [Act.put, List.getElem_toArray, List.getElem_cons_zero, List.getElem_cons_succ, List.setIfInBounds_toArray, List.set_cons_zero, List.set_cons_succ]
      have HPL := Lib.hid hPl
      refine wpAnyH_ready (rs := [4]) (by kernel_rfl) (by simp) ?_
      refine AllReadyH.cons (o := _) rfl (fun K hK => ?_) ?_
      rotate_left 1
      · exact AllReadyH.nil
      refine step_build_three (by kernel_rfl) 80 26 _ _ _ rfl Tryd.underlying80 32 (bvs H) (bvs P) (bvs zeros32) (by rw [bvs_length, HHL.out]) (by rw [bvs_length, HPL.out]) rfl rfl rfl rfl iS zS HIS.out HZS.out HSS.out (by decide) (by decide) ?_
      intro wZ hgZ hBZ hsZ
      refine hK.out _ _ ?_ (fun hHeld => ?_)
      · (apply hol2_below; assumption; assumption)
      clear hK K
      try simp only [Act.put, List.getElem_toArray, List.getElem_cons_zero, List.getElem_cons_succ, List.setIfInBounds_toArray, List.set_cons_zero, List.set_cons_succ]
      refine wpAnyH_take (i := 5) (oi := _) (v := ?_) rfl (by kernel_rfl) (by kernel_rfl) (by kernel_rfl) (fun _ _ _ h => h) (Or.inl ⟨by rfl, ?_⟩) (by assumption) ?_
      rotate_left 1
      · (intro w hSw; (try dsimp only at hSw); go_simp; all_goals (with_reducible rfl))
      try simp only [Act.put, List.getElem_toArray, List.getElem_cons_zero, List.getElem_cons_succ, List.setIfInBounds_toArray, List.set_cons_zero, List.set_cons_succ]
      refine wpAnyH_done (by kernel_rfl) ?_ _
      refine NoPanic.normal ?_
      have hBXZ := hHeld.2
      have HGZ := Lib.hid hgZ
      obtain ⟨z12, hz12⟩ : ∃ z, wY.heap.size = z := ⟨_, rfl⟩
      rw [hz12] at hgZ
      try rw [hz12]
      have HGZ2 := Lib.hid hgZ
      have hz12l : z12 < wZ.heap.size := by omega
      have hXl : w4.heap.size ≤ wZ.heap.size := hBXZ.size
      have HRZ := Lib.hid (HRX.out.below hBXZ (Nat.le_refl _))
      have hB0Z : Below w0.heap.size w0 wZ := hB0X.trans (hBXZ.mono hB0X.size)
      have HR0Z := Lib.hid (HR0.out.below hB0Z (Nat.le_refl _))
      clear hHeld hS0 hiH hgZ HGZ hBY hBZ hsZ hz12 HRX
      (repeat' ((fail_if_success at_builtin); first | go_values | go_skip | go_guarded | go_step | go_upon))
      go_loopw [13] (fun i wr => ∃ k : Nat, k ≤ 3 ∧ i = .int .i64 k ∧ Below wZ.heap.size wZ wr) (fun i _ => 3 - (intOf i).toNat)
      case atStart => exact ⟨0, by omega, rfl, Below.refl _ _⟩
      case round =>
        obtain ⟨i, hi, rfl, hBi⟩ := hrel
        have hB0i : Below w0.heap.size w0 wr := hB0Z.trans (hBi.mono hB0Z.size)
        by_cases hlt : i < 3
        · obtain ⟨Q, hQl, hQr⟩ := heads_at HGZ2.out HHL.out HPL.out rfl i hlt
          have HQL := Lib.hid hQl
          have HQR := Lib.hid hQr
          have hiQ : (Tryd.prog.info? 26).map (·.size) = some (bvs Q).length := by rw [bvs_length, hQl]; exact sizeSum
          have HIQ := Lib.hid hiQ
          obtain ⟨vn, ve, hv1⟩ : ∃ vn ve, verify l Q = (vn, ve) := ⟨_, _, rfl⟩
          obtain ⟨un, ue, hv2⟩ : ∃ un ue, verify xs Q = (un, ue) := ⟨_, _, rfl⟩
          have HV1 := Lib.hid hv1
          have HV2 := Lib.hid hv2
          have bi : (0 : Int) ≤ (i : Int) ∧ (i : Int) < 3 := by omega
          have tv1 : ((vn : Int) != (vn : Int)) = false := by simp
          have tv2 : (ve != ve) = false := by simp
          have tu1 : ((un : Int) != (un : Int)) = false := by simp
          have tu2 : (ue != ue) = false := by simp
          clear hQl hQr hv1 hv2
          (repeat' ((fail_if_success at_builtin); first | go_values | go_skip | go_guarded | go_step | go_upon))
          refine (lentEntries a5 l.length c5 l wr (HRZ.out.below hBi (Nat.le_refl _)) (fun x hx => (HFX.out x hx).ok.sum) rfl (by omega)).mono ?_
          rintro _ wA ⟨a6, c6, rfl, hc6, hm6, hr6, hBA, _⟩
          dsimp only
          have hlm : (l ++ marksE).length = l.length + 5 := by simp [marksE]
          rw [hlm] at hc6 ⊢
          have HR6 := Lib.hid hr6
          have hsl := fun w => run_slice_toS (P := Tryd.prog) 68 73 39 Tryd.underlying68 entSize a6 (l.length + 5) c6 l.length (by omega) w
          have hZA : Below wZ.heap.size wZ wA := hBi.trans (hBA.mono hBi.size)
          have hTb : ∀ wx, Below wA.heap.size wA wx → Tabs wx := fun wx h => HT0.out.below (hB0i.trans ((hBA.mono hB0i.size).trans (h.mono (Nat.le_trans hB0i.size hBA.size)))) hts0
          have HTB := Lib.hid hTb
          have hS1 : HedS wA z12 (i * 32) Q wA.drew := hedS_below (w1 := wA) ⟨rangeAt_below HQR.out hZA (Nat.le_refl _), Below.refl _ _⟩ (Below.refl _ _).drew
          clear hr6 hlm hTb
          (repeat' ((fail_if_success at_builtin); first | go_values | go_skip | go_guarded | go_step | go_upon))
          refine wp_region_noPanic ?_
          refine wp_region_held_drew (S := HedS wA z12 (i * 32) Q) (by kernel_rfl) ?_ (fun hHeld => ?_)
          · (exact hS1)
          refine wpAnyH_take (i := 0) (oi := _) (v := ?_) rfl (by kernel_rfl) (by kernel_rfl) (by kernel_rfl) (fun _ _ _ h => h) (Or.inl ⟨by rfl, ?_⟩) (by assumption) ?_
          rotate_left 1
          · (intro w hSw; (try dsimp only at hSw); go_simp; all_goals (with_reducible rfl))
          try simp only [Act.put, List.getElem_toArray, List.getElem_cons_zero, List.getElem_cons_succ, List.setIfInBounds_toArray, List.set_cons_zero, List.set_cons_succ]
          refine wpAnyH_take (i := 1) (oi := _) (v := ?_) rfl (by kernel_rfl) (by kernel_rfl) (by kernel_rfl) (fun _ _ _ h => h) (Or.inl ⟨by rfl, ?_⟩) (by assumption) ?_
          rotate_left 1
          · (intro w hSw; (try dsimp only at hSw); go_simp; all_goals (with_reducible rfl))
          try simp only [Act.put, List.getElem_toArray, List.getElem_cons_zero, List.getElem_cons_succ, List.setIfInBounds_toArray, List.set_cons_zero, List.set_cons_succ]
          refine wpAnyH_take (i := 2) (oi := _) (v := ?_) rfl (by kernel_rfl) (by kernel_rfl) (by kernel_rfl) (fun _ _ _ h => h) (Or.inl ⟨by rfl, ?_⟩) (by assumption) ?_
          rotate_left 1
          · (intro w hSw; (try dsimp only at hSw); go_simp; all_goals (with_reducible rfl))
          try simp only [Act.put, List.getElem_toArray, List.getElem_cons_zero, List.getElem_cons_succ, List.setIfInBounds_toArray, List.set_cons_zero, List.set_cons_succ]
          refine wpAnyH_take (i := 3) (oi := _) (v := ?_) rfl (by kernel_rfl) (by kernel_rfl) (by kernel_rfl) (fun _ _ _ h => h) (Or.inl ⟨by rfl, ?_⟩) (by assumption) ?_
          rotate_left 1
          · (intro w hSw; (try dsimp only at hSw); go_simp; all_goals (with_reducible rfl))
          try simp only [Act.put, List.getElem_toArray, List.getElem_cons_zero, List.getElem_cons_succ, List.setIfInBounds_toArray, List.set_cons_zero, List.set_cons_succ]
          refine wpAnyH_take (i := 4) (oi := _) (v := ?_) rfl (by kernel_rfl) (by kernel_rfl) (by kernel_rfl) (fun _ _ _ h => h) (Or.inl ⟨by rfl, ?_⟩) (by assumption) ?_
          rotate_left 1
          · (intro w hSw; (try dsimp only at hSw); go_simp; all_goals (with_reducible rfl))
          try simp only [Act.put, List.getElem_toArray, List.getElem_cons_zero, List.getElem_cons_succ, List.setIfInBounds_toArray, List.set_cons_zero, List.set_cons_succ]
          refine wpAnyH_take (i := 5) (oi := _) (v := ?_) rfl (by kernel_rfl) (by kernel_rfl) (by kernel_rfl) (fun _ _ _ h => h) (Or.inl ⟨by rfl, ?_⟩) (by assumption) ?_
          rotate_left 1
          · (intro w hSw; (try dsimp only at hSw); go_simp; all_goals (with_reducible rfl))
          try simp only [Act.put, List.getElem_toArray, List.getElem_cons_zero, List.getElem_cons_succ, List.setIfInBounds_toArray, List.set_cons_zero, List.set_cons_succ]
          refine wpAnyH_take (i := 6) (oi := _) (v := ?_) rfl (by kernel_rfl) (by kernel_rfl) (by kernel_rfl) (fun _ _ _ h => h) (Or.inl ⟨by rfl, ?_⟩) (by assumption) ?_
          rotate_left 1
          · (intro w hSw; (try dsimp only at hSw); go_simp; all_goals (with_reducible rfl))
          try simp only [Act.put, List.getElem_toArray, List.getElem_cons_zero, List.getElem_cons_succ, List.setIfInBounds_toArray, List.set_cons_zero, List.set_cons_succ]
          refine' wpAnyH_take (i := 7) (oi := _) (v := _) rfl (by kernel_rfl) (by kernel_rfl) (by kernel_rfl) (fun _ _ _ h => h) (yieldsIf_load_mid (by rfl) _ _ rfl _ _ rfl _ _ ?ls8 ?lu8 ?ld8 ?li8) (by assumption) ?lr8
          case ls8 => (intro w hSw; (try dsimp only at hSw); go_split_ands; assumption)
          case lu8 => assumption
          case ld8 => rfl
          case li8 => first | assumption | (simp only [*]; done)
          try simp only [Act.put, List.getElem_toArray, List.getElem_cons_zero, List.getElem_cons_succ, List.setIfInBounds_toArray, List.set_cons_zero, List.set_cons_succ]
          refine wpAnyH_ready (rs := [8]) (by kernel_rfl) (by simp) ?_
          refine AllReadyH.cons (o := _) rfl (fun K hK => ?_) ?_
          rotate_left 1
          · exact AllReadyH.nil
          go_simp
          go_at_call 68
          refine (auditVerify a6 l.length c6 l Q vn ve _ HV1.out (HTB.out _ hHeld.2) (by have := rdc_take (HR6.out.below hHeld.2 (Nat.le_refl _)) (l.length * 39);rwa [List.flatMap_append, List.take_left' (ents_length l (fun x hx => (HFX.out x hx).ok.sum))] at this) (fun x hx => ⟨(HFX.out x hx).ok, (HFX.out x hx).str, (HFX.out x hx).sub⟩) rfl (by omega) (by omega) HQL.out).mono ?_
          rintro _ wB ⟨rfl, hBB⟩
          dsimp only
          refine hK.out _ _ ?_ (fun hHeld => ?_)
          · (apply hedS_below; assumption; assumption)
          clear hK K
          try simp only [Act.put, List.getElem_toArray, List.getElem_cons_zero, List.getElem_cons_succ, List.setIfInBounds_toArray, List.set_cons_zero, List.set_cons_succ]
          refine wpAnyH_take (i := 9) (oi := _) (v := ?_) rfl (by kernel_rfl) (by kernel_rfl) (by kernel_rfl) (fun _ _ _ h => h) (Or.inl ⟨by rfl, ?_⟩) (by assumption) ?_
          rotate_left 1
          · (intro w hSw; (try dsimp only at hSw); go_simp; all_goals (with_reducible rfl))
          try simp only [Act.put, List.getElem_toArray, List.getElem_cons_zero, List.getElem_cons_succ, List.setIfInBounds_toArray, List.set_cons_zero, List.set_cons_succ]
          refine wpAnyH_take (i := 10) (oi := _) (v := ?_) rfl (by kernel_rfl) (by kernel_rfl) (by kernel_rfl) (fun _ _ _ h => h) (Or.inl ⟨by rfl, ?_⟩) (by assumption) ?_
          rotate_left 1
          · (intro w hSw; (try dsimp only at hSw); go_simp; all_goals (with_reducible rfl))
          try simp only [Act.put, List.getElem_toArray, List.getElem_cons_zero, List.getElem_cons_succ, List.setIfInBounds_toArray, List.set_cons_zero, List.set_cons_succ]
          refine wpAnyH_take (i := 11) (oi := _) (v := ?_) rfl (by kernel_rfl) (by kernel_rfl) (by kernel_rfl) (fun _ _ _ h => h) (Or.inl ⟨by rfl, ?_⟩) (by assumption) ?_
          rotate_left 1
          · (intro w hSw; (try dsimp only at hSw); go_simp; all_goals (with_reducible rfl))
          try simp only [Act.put, List.getElem_toArray, List.getElem_cons_zero, List.getElem_cons_succ, List.setIfInBounds_toArray, List.set_cons_zero, List.set_cons_succ]
          refine wpAnyH_take (i := 12) (oi := _) (v := ?_) rfl (by kernel_rfl) (by kernel_rfl) (by kernel_rfl) (fun _ _ _ h => h) (Or.inl ⟨by rfl, ?_⟩) (by assumption) ?_
          rotate_left 1
          · (intro w hSw; (try dsimp only at hSw); go_simp; all_goals (with_reducible rfl))
          try simp only [Act.put, List.getElem_toArray, List.getElem_cons_zero, List.getElem_cons_succ, List.setIfInBounds_toArray, List.set_cons_zero, List.set_cons_succ]
          refine wpAnyH_take (i := 13) (oi := _) (v := ?_) rfl (by kernel_rfl) (by kernel_rfl) (by kernel_rfl) (fun _ _ _ h => h) (Or.inl ⟨by rfl, ?_⟩) (by assumption) ?_
          rotate_left 1
          · (intro w hSw; (try dsimp only at hSw); go_simp; all_goals (with_reducible rfl))
          try simp only [Act.put, List.getElem_toArray, List.getElem_cons_zero, List.getElem_cons_succ, List.setIfInBounds_toArray, List.set_cons_zero, List.set_cons_succ]
          refine wpAnyH_done (by kernel_rfl) ?_ _
          refine NoPanic.normal ?_
          have hAB := hHeld.2
          have hqB := hHeld.1
          have HQB := Lib.hid hqB
          have hZB : Below wZ.heap.size wZ wB := hZA.trans (hAB.mono hZA.size)
          clear hHeld hS1 hBB hqB hsl hiQ
          (repeat' ((fail_if_success at_builtin); first | ((with_reducible refine wpList_load_mid rfl 26 _ rfl z12 (i * 32) rfl (bvs Q) _ HQB.out hu26 rfl HIQ.out ?_)) | go_values | go_skip | go_guarded | go_step | go_upon))
          refine (refVerify21 a5 l.length c5 l Q vn ve wB HV1.out (HRZ.out.below hZB (Nat.le_refl _)) HFX.out rfl hc5' (by omega) HQL.out).mono ?_
          rintro _ wC ⟨rfl, hBC⟩
          dsimp only
          have hAC := hAB.trans (hBC.mono hAB.size)
          have hZC : Below wZ.heap.size wZ wC := hZA.trans (hAC.mono hZA.size)
          have HQC := Lib.hid (rangeAt_below HQR.out hZC (Nat.le_refl _))
          (repeat' ((fail_if_success at_builtin); first | ((with_reducible refine wpList_load_mid rfl 26 _ rfl z12 (i * 32) rfl (bvs Q) _ HQC.out hu26 rfl HIQ.out ?_)) | go_values | go_skip | go_guarded | go_step | go_upon))
          refine (auditVerify a xs.length c xs Q un ue wC HV2.out (HTB.out _ hAC) (HR0Z.out.below hZC (Nat.le_refl _)) (fun x hx => ⟨(HFIT.out x hx).ok, (HFIT.out x hx).str, (HFIT.out x hx).sub⟩) rfl hnc (by omega) HQL.out).mono ?_
          rintro _ wD ⟨rfl, hBD⟩
          dsimp only
          have hAD := hAC.trans (hBD.mono hAC.size)
          have hZD : Below wZ.heap.size wZ wD := hZA.trans (hAD.mono hZA.size)
          have HQD := Lib.hid (rangeAt_below HQR.out hZD (Nat.le_refl _))
          (repeat' ((fail_if_success at_builtin); first | ((with_reducible refine wpList_load_mid rfl 26 _ rfl z12 (i * 32) rfl (bvs Q) _ HQD.out hu26 rfl HIQ.out ?_)) | go_values | go_skip | go_guarded | go_step | go_upon))
          refine (refVerify21 a xs.length c xs Q un ue wD HV2.out (HR0Z.out.below hZD (Nat.le_refl _)) HFIT.out rfl hnc (by omega) HQL.out).mono ?_
          rintro _ wE ⟨rfl, hBE⟩
          dsimp only
          have hAE := hAD.trans (hBE.mono hAD.size)
          have hZE : Below wZ.heap.size wZ wE := hZA.trans (hAE.mono hZA.size)
          (repeat' ((fail_if_success at_builtin); first | go_values | go_skip | go_guarded | go_step | go_upon))
          refine (keptEntries a6 a5 l.length c6 c5 l wE (HR6.out.below hAE (Nat.le_refl _)) (HRZ.out.below hZE (Nat.le_refl _)) (fun x hx => (HFX.out x hx).ok.sum) rfl hc6 (by omega)).mono ?_
          rintro _ wF ⟨rfl, hBF⟩
          dsimp only
          have hZF : Below wZ.heap.size wZ wF := hZE.trans (hBF.mono hZE.size)
          (repeat' ((fail_if_success at_builtin); first | go_values | go_skip | go_guarded | go_step | go_upon))
          go_roundw
          case rel => exact ⟨i + 1, by omega, by go_num, hZF⟩
          case measure => simp [intOf]; omega
        · (repeat' ((fail_if_success at_builtin); first | go_values | go_skip | go_guarded | go_step | go_upon))
          refine (works21 wr (HT0.out.below hB0i hts0)).mono ?_
          rintro _ wA ⟨rfl, hBA⟩
          dsimp only
          (repeat' ((fail_if_success at_builtin); first | go_values | go_skip | go_guarded | go_step | go_upon))
          go_ret
          exact ⟨rfl, hBw0.trans ((hB0i.trans (hBA.mono hB0i.size)).mono hBw0.size)⟩

end Go.Proofs.YtdpfemhfmofmlaaDoor
