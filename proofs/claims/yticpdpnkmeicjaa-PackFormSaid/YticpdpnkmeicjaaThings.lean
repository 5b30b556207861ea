/- Things, one behind the other: what 'big' and 'laid' of package sealerylaw07 answer. -/
import Derived.Test.YticpdpnkmeicjaaOpen07
namespace Go.Proofs.Yticpdpnkmeicjaa
open Go.RowKit

/-- The bytes of a thing. -/
def Thg.enc (t : Thg) : List UInt8 := if t.kind = 1 ∨ t.kind = 2 then be8 t.bn ++ t.bs else if t.kind = 3 then t.sum else be8 t.num

/-- Things that came in. -/
structure Things (w : World) (a : Option Addr) (ts : List Thg) : Prop where
  rd : RdC w a (ts.flatMap Thg.cells)
  ok : ∀ t ∈ ts, t.Ok w

theorem Thg.Ok.below {w w' : World} {t : Thg} (h : t.Ok w) {B : Nat} (hb : Below B w w') (hB : w.heap.size ≤ B) : t.Ok w' := ⟨h.num, h.kind, h.len, h.fits, h.rd.below hb hB, h.sum⟩
theorem Things.below {w w' : World} {a : Option Addr} {ts : List Thg} (h : Things w a ts) {B : Nat} (hb : Below B w w') (hB : w.heap.size ≤ B) : Things w' a ts :=
  ⟨h.rd.below hb hB, fun t ht => (h.ok t ht).below hb hB⟩

/-- The cells of thing number k. -/
theorem Things.at_ {w : World} {a : Option Addr} {ts : List Thg} (h : Things w a ts) (k : Nat) (hk : k < ts.length) : ∃ b off, a = some ⟨b, off, none⟩ ∧ w.rangeAt b (off + k * 35) (ts[k].cells) := by
  have hl := flat_length Thg.cells 35 Thg.cells_length ts
  obtain ⟨b, off, rfl, _⟩ := h.rd.lt (by rw [hl]; omega)
  refine ⟨b, off, rfl, fun j v hj => ?_⟩
  have hj' : j < 35 := by rw [← Thg.cells_length ts[k]]; exact (List.getElem?_eq_some_iff.1 hj).1
  have := h.rd.cell (k * 35 + j) (by rw [hl]; omega)
  rw [Nat.add_assoc, this, ← hj]
  have h2 := flat_get Thg.cells 35 (by omega) Thg.cells_length ts (k * 35 + j)
  rw [List.getElem?_eq_getElem (by rw [hl]; omega), show (k * 35 + j) / 35 = k by omega, show (k * 35 + j) % 35 = j by omega, List.getElem?_eq_getElem hk] at h2
  exact h2

set_option maxHeartbeats 400000 in
theorem decYes {P : Prop} [Decidable P] (h : P) : Value.bool true = .bool (decide P) := by rw [decide_eq_true h]
theorem decNo {P : Prop} [Decidable P] (h : ¬ P) : Value.bool false = .bool (decide P) := by rw [decide_eq_false h]

set_option maxHeartbeats 400000 in
theorem bigThings (a : Option Addr) (n c : Nat) (ts : List Thg) (w : World) (h : Things w a ts) (en : ts.length = n) :
    Calls Try.prog 27 #[.slice a n c] w fun e w' => e = .returned (.bool (decide (40 < n ∨ ∃ t ∈ ts, 512 < t.bn))) ∧ w = w' := by
  by_cases h40 : 40 < n
  · go_enter Try.func27, Try.ntmps27
    (repeat' ((fail_if_success at_builtin); first | go_values | go_skip | go_guarded | go_step | go_upon))
    go_ret
    exact ⟨congrArg Ending.returned (decYes (Or.inl h40)), rfl⟩
  · subst en
    go_enter Try.func27, Try.ntmps27
    (repeat' ((fail_if_success at_builtin); first | go_values | go_skip | go_guarded | go_step | go_upon))
    go_loop [3] (fun i => ∃ k : Nat, k ≤ ts.length ∧ i = .int .i64 k ∧ ∀ t ∈ ts.take k, t.bn ≤ 512) (fun i => ts.length - (intOf i).toNat)
    case atStart => exact ⟨0, by omega, rfl, by simp⟩
    case round =>
      obtain ⟨k, hk, rfl, hs⟩ := hrel
      have HS := Lib.hid hs; clear hs
      by_cases hlt : k < ts.length
      · obtain ⟨b, off, rfl, hra⟩ := h.at_ k hlt
        have ht := h.ok ts[k] (List.getElem_mem hlt)
        rw [ht.eq] at hra
        have hc : w.cell? ⟨b, off + k * 35 + 2, none⟩ = some (.slice ts[k].ba ts[k].bn ts[k].bc) := hra 2 _ rfl
        clear hra
        by_cases hb : 512 < ts[k].bn
        · (repeat' ((fail_if_success at_builtin); first | go_values | go_skip | go_guarded | go_step | go_upon))
          go_ret
          exact ⟨congrArg Ending.returned (decYes (Or.inr ⟨ts[k], List.getElem_mem hlt, hb⟩)), rfl⟩
        · (repeat' ((fail_if_success at_builtin); first | go_values | go_skip | go_guarded | go_step | go_upon))
          go_round
          case rel =>
            refine ⟨k + 1, by omega, rfl, ?_⟩
            intro t hm
            rw [List.take_succ_eq_append_getElem hlt] at hm
            rcases List.mem_append.1 hm with h1 | h1
            · exact HS.out t h1
            · rw [List.mem_singleton.1 h1]; omega
          case measure => show ts.length - (k + 1) < ts.length - k; omega
      · (repeat' ((fail_if_success at_builtin); first | go_values | go_skip | go_guarded | go_step | go_upon))
        go_ret
        obtain rfl : k = ts.length := by omega
        have hs := HS.out
        rw [List.take_length] at hs
        refine ⟨congrArg Ending.returned (decNo ?_), rfl⟩
        rintro (h1 | ⟨t, ht, h2⟩)
        · exact h40 h1
        · have := hs t ht; omega

theorem thing_oneCell (kind num : Int) (tb : Option Addr) (tn tc : Nat) (s : List UInt8) : (thing kind num tb tn tc s).toArray.all (·.oneCell') = true := by
  rw [List.all_toArray]
  unfold thing
  rw [List.all_cons, List.all_cons, List.all_cons]
  have := bvs_oneCell s
  rw [List.all_eq_true.2 this]
  rfl

/-- What 'laid' answers: bytes of its own. -/
def LaidTo (base : Nat) (w : World) (l : List UInt8) (n : Nat) (e : Ending) (w' : World) : Prop :=
  ∃ a c, e = .returned (.slice a n c) ∧ l.length = n ∧ n ≤ c ∧ c ≤ maxLen ∧ Below w.heap.size w w' ∧ w'.ownsRow base 5 1 (.slice a n c) n (bvs l)

theorem enc_take_le (ts : List Thg) (k : Nat) : ((ts.take k).flatMap Thg.enc).length ≤ (ts.flatMap Thg.enc).length := by
  conv => rhs; rw [← List.take_append_drop k ts, List.flatMap_append, List.length_append]
  omega

theorem enc_snoc (ts : List Thg) (k : Nat) (h : k < ts.length) : (ts.take (k + 1)).flatMap Thg.enc = (ts.take k).flatMap Thg.enc ++ ts[k].enc := by
  rw [List.take_succ_eq_append_getElem h, List.flatMap_append]
  simp

set_option maxHeartbeats 1000000 in
theorem laidThings (base : Nat) (v : Value) (n0 : Nat) (l : List UInt8) (a : Option Addr) (n c : Nat) (ts : List Thg) (w : World) (hO : w.ownsRow base 5 1 v n0 (bvs l)) (hbase : base ≤ w.heap.size) (e0 : l.length = n0) (h : Things w a ts) (en : ts.length = n)
    (hm : n0 + (ts.flatMap Thg.enc).length ≤ 1000000000) (hn : n ≤ 1000000000) :
    Calls Try.prog 29 #[v, .slice a n c] w (LaidTo base w (l ++ ts.flatMap Thg.enc) (n0 + (ts.flatMap Thg.enc).length)) := by
  subst en
  go_enter Try.func29, Try.ntmps29
  (repeat' ((fail_if_success at_builtin); first | go_values | go_skip | go_guarded | go_step | go_upon))
  go_loopw [0, 5] (fun v i wr => ∃ k m : Nat, k ≤ ts.length ∧ i = .int .i64 k ∧ m = n0 + ((ts.take k).flatMap Thg.enc).length ∧ Below w.heap.size w wr ∧ wr.ownsRow base 5 1 v m (bvs (l ++ (ts.take k).flatMap Thg.enc))) (fun _ i _ => ts.length - (intOf i).toNat)
  case atStart => exact ⟨0, n0, by omega, rfl, by simp, Below.refl _ _, by simpa using hO⟩
  case round =>
    obtain ⟨k, m, hk, rfl, em, hB, hO1⟩ := hrel
    have EM := Lib.hid em; clear em
    by_cases hlt : k < ts.length
    · have hs := h.below hB (Nat.le_refl _)
      obtain ⟨b, off, rfl, hra⟩ := hs.at_ k hlt
      have ht := hs.ok ts[k] (List.getElem_mem hlt)
      rw [ht.eq] at hra
      have HR := Lib.hid hra; clear hra
      obtain ⟨cs, hcs⟩ : ∃ cs, thing ts[k].kind ts[k].num ts[k].ba ts[k].bn ts[k].bc ts[k].sum = cs := ⟨_, rfl⟩
      have hl : cs.length = 35 := by rw [← hcs]; simp [thing, bvs_length, ht.sum]
      have hall : cs.toArray.all (·.oneCell') = true := by
        rw [← hcs]; exact thing_oneCell _ _ _ _ _ _
      have hi1 : (Try.prog.info? 38).map (·.size) = some cs.length := by rw [hl]; kernel_rfl
      rw [hcs] at HR
      have HI := Lib.hid hi1; clear hi1
      have HC := Lib.hid hcs; clear hcs
      have hi2 : (Try.prog.info? 38).map (·.size) = some cs.toArray.size := by rw [List.size_toArray]; exact HI.out
      have HI2 := Lib.hid hi2; clear hi2
      have hl2 : 35 = cs.toArray.size := by rw [List.size_toArray, hl]
      have HL := Lib.hid hl2; clear hl hl2
      obtain ⟨a1, c1, rfl, hc1, hm1, _⟩ := owns_slice hO1
      have hle := enc_take_le ts k
      have hle1 := enc_take_le ts (k + 1)
      rw [enc_snoc ts k hlt, List.length_append] at hle1
      have hem : (l ++ (ts.take k).flatMap Thg.enc).length = m := by have := EM.out; rw [List.length_append]; omega
      have HEM := Lib.hid hem; clear hem
      have hml : m ≤ 1000000000 := by have := EM.out; omega
      have hsp : ts[k].kind = 1 ∨ ts[k].kind = 2 ∨ ts[k].kind = 3 ∨ (¬ ts[k].kind = 1 ∧ ¬ ts[k].kind = 2 ∧ ¬ ts[k].kind = 3) := by omega
      rcases hsp with hk0 | hk0 | hk0 | hk0
      · (repeat' ((fail_if_success at_builtin); first | (first | (with_reducible refine wpList_load_mid rfl 38 _ rfl b (off + k * 35) rfl cs _ HR.out Try.underlying38 rfl HI.out ?_) | (refine wpList_store_fresh (w := wr) rfl 38 _ _ rfl _ 38 rfl cs.toArray rfl ?_ ?_ ?_ ?_; exact HI2.out; exact HL.out; exact hall; intro w1 hg1 hB1; have k0 : w1.cell? ⟨wr.heap.size, 0, none⟩ = some (.int .i64 ts[k].kind) := (by rw [cell_of_row w1 wr.heap.size 0 _ _ _ hg1, ← HC.out]; rfl); have k1 : w1.cell? ⟨wr.heap.size, 1, none⟩ = some (.int .i64 ts[k].num) := (by rw [cell_of_row w1 wr.heap.size 1 _ _ _ hg1, ← HC.out]; rfl); have k2 : w1.cell? ⟨wr.heap.size, 2, none⟩ = some (.slice ts[k].ba ts[k].bn ts[k].bc) := (by rw [cell_of_row w1 wr.heap.size 2 _ _ _ hg1, ← HC.out]; rfl); have hRa : RdB w1 a1 (l ++ (ts.take k).flatMap Thg.enc) := ((rdc_of_owns hO1).below hB1 (Nat.le_refl _)); have hRb : RdB w1 ts[k].ba ts[k].bs := (ht.rd.below hB1 (Nat.le_refl _)); have HG := Lib.hid hg1; clear hg1)) | go_values | go_skip | go_guarded | go_step | go_upon))
        have hbl : ts[k].bn ≤ 1000000000 := by
          have : ts[k].enc = be8 ts[k].bn ++ ts[k].bs := by unfold Thg.enc; simp [hk0]
          rw [this, List.length_append] at hle1
          have := ht.len
          omega
        refine (packBlob a1 ts[k].ba m ts[k].bn c1 ts[k].bc _ _ w1 hRa hRb HEM.out ht.len (by omega) (by omega)).mono ?_
        rintro _ w2 ⟨a2, c2, rfl, hc2, hr2, hB2, hO2⟩
        dsimp only
        have hsn := enc_snoc ts k hlt
        have he : ts[k].enc = be8 ts[k].bn ++ ts[k].bs := by unfold Thg.enc; simp [hk0]
        have hB3 : Below w.heap.size w w2 := hB.trans ((hB1.trans (hB2.mono hB1.size)).mono hB.size)
        have HO := Lib.hid hO2; clear hO2
        have HSN := Lib.hid hsn; clear hsn
        have HE := Lib.hid he; clear he
        have HB2 := Lib.hid hB2; clear hB2
        (repeat' ((fail_if_success at_builtin); first | go_values | go_skip | go_guarded | go_step | go_upon))
        go_roundw
        case rel =>
          refine ⟨k + 1, m + 8 + ts[k].bn, by omega, by go_num, ?_, hB3, ?_⟩
          rotate_left
          · rw [HSN.out, HE.out, ← List.append_assoc]
            try rw [← List.append_assoc]
            exact owns_mono HO.out (by have := hB.size; have := hB1.size; omega)
          · have := EM.out
            have := ht.len
            have := ht.sum
            rw [HSN.out, HE.out]
            simp only [List.length_append, be8_length]
            omega
        case measure => show ts.length - (k + 1) < ts.length - k; omega
      · (repeat' ((fail_if_success at_builtin); first | (first | (with_reducible refine wpList_load_mid rfl 38 _ rfl b (off + k * 35) rfl cs _ HR.out Try.underlying38 rfl HI.out ?_) | (refine wpList_store_fresh (w := wr) rfl 38 _ _ rfl _ 38 rfl cs.toArray rfl ?_ ?_ ?_ ?_; exact HI2.out; exact HL.out; exact hall; intro w1 hg1 hB1; have k0 : w1.cell? ⟨wr.heap.size, 0, none⟩ = some (.int .i64 ts[k].kind) := (by rw [cell_of_row w1 wr.heap.size 0 _ _ _ hg1, ← HC.out]; rfl); have k1 : w1.cell? ⟨wr.heap.size, 1, none⟩ = some (.int .i64 ts[k].num) := (by rw [cell_of_row w1 wr.heap.size 1 _ _ _ hg1, ← HC.out]; rfl); have k2 : w1.cell? ⟨wr.heap.size, 2, none⟩ = some (.slice ts[k].ba ts[k].bn ts[k].bc) := (by rw [cell_of_row w1 wr.heap.size 2 _ _ _ hg1, ← HC.out]; rfl); have hRa : RdB w1 a1 (l ++ (ts.take k).flatMap Thg.enc) := ((rdc_of_owns hO1).below hB1 (Nat.le_refl _)); have hRb : RdB w1 ts[k].ba ts[k].bs := (ht.rd.below hB1 (Nat.le_refl _)); have hcv := convStr Try.underlying22 Try.underlying5 Try.underlying9 (c := ts[k].bc) hRb ht.len; have HG := Lib.hid hg1; clear hg1)) | go_values | go_skip | go_guarded | go_step | go_upon))
        have hbl : ts[k].bn ≤ 1000000000 := by
          have : ts[k].enc = be8 ts[k].bn ++ ts[k].bs := by unfold Thg.enc; simp [hk0]
          rw [this, List.length_append] at hle1
          have := ht.len
          omega
        refine (packText' a1 m ts[k].bn c1 _ _ w1 hRa HEM.out ht.len (by omega) (by omega)).mono ?_
        rintro _ w2 ⟨a2, c2, rfl, hc2, hr2, hB2, hO2⟩
        dsimp only
        have hsn := enc_snoc ts k hlt
        have he : ts[k].enc = be8 ts[k].bn ++ ts[k].bs := by unfold Thg.enc; simp [hk0]
        have hB3 : Below w.heap.size w w2 := hB.trans ((hB1.trans (hB2.mono hB1.size)).mono hB.size)
        have HO := Lib.hid hO2; clear hO2
        have HSN := Lib.hid hsn; clear hsn
        have HE := Lib.hid he; clear he
        have HB2 := Lib.hid hB2; clear hB2
        (repeat' ((fail_if_success at_builtin); first | go_values | go_skip | go_guarded | go_step | go_upon))
        go_roundw
        case rel =>
          refine ⟨k + 1, m + 8 + ts[k].bn, by omega, by go_num, ?_, hB3, ?_⟩
          rotate_left
          · rw [HSN.out, HE.out, ← List.append_assoc]
            try rw [← List.append_assoc]
            exact owns_mono HO.out (by have := hB.size; have := hB1.size; omega)
          · have := EM.out
            have := ht.len
            have := ht.sum
            rw [HSN.out, HE.out]
            simp only [List.length_append, be8_length]
            omega
        case measure => show ts.length - (k + 1) < ts.length - k; omega
      · (repeat' ((fail_if_success at_builtin); first | (first | (with_reducible refine wpList_load_mid rfl 38 _ rfl b (off + k * 35) rfl cs _ HR.out Try.underlying38 rfl HI.out ?_) | (refine wpList_store_fresh (w := wr) rfl 38 _ _ rfl _ 38 rfl cs.toArray rfl ?_ ?_ ?_ ?_; exact HI2.out; exact HL.out; exact hall; intro w1 hg1 hB1; have k0 : w1.cell? ⟨wr.heap.size, 0, none⟩ = some (.int .i64 ts[k].kind) := (by rw [cell_of_row w1 wr.heap.size 0 _ _ _ hg1, ← HC.out]; rfl); have k1 : w1.cell? ⟨wr.heap.size, 1, none⟩ = some (.int .i64 ts[k].num) := (by rw [cell_of_row w1 wr.heap.size 1 _ _ _ hg1, ← HC.out]; rfl); have k2 : w1.cell? ⟨wr.heap.size, 2, none⟩ = some (.slice ts[k].ba ts[k].bn ts[k].bc) := (by rw [cell_of_row w1 wr.heap.size 2 _ _ _ hg1, ← HC.out]; rfl); have hRa : RdB w1 a1 (l ++ (ts.take k).flatMap Thg.enc) := ((rdc_of_owns hO1).below hB1 (Nat.le_refl _)); have hRb : RdB w1 ts[k].ba ts[k].bs := (ht.rd.below hB1 (Nat.le_refl _)); have hra3 : w1.rangeAt wr.heap.size 3 (bvs ts[k].sum) := (fun j v hj => by rw [cell_of_row w1 wr.heap.size (3 + j) _ _ _ hg1, ← HC.out, List.getElem?_toArray, Nat.add_comm]; simpa [thing] using hj); have hi36 : (Try.prog.info? 36).map (·.size) = some (bvs ts[k].sum).length := (by rw [bvs_length, ht.sum]; kernel_rfl); have HR3 := Lib.hid hra3; clear hra3; have HI3 := Lib.hid hi36; clear hi36; have HG := Lib.hid hg1; clear hg1) | (with_reducible refine wpList_load_mid rfl 36 _ rfl wr.heap.size 3 rfl (bvs ts[k].sum) _ HR3.out Try.underlying36 rfl HI3.out ?_)) | go_values | go_skip | go_guarded | go_step | go_upon))
        refine (packSum a1 m c1 _ ts[k].sum w1 hRa HEM.out (by omega) ht.sum).mono ?_
        rintro _ w2 ⟨a2, c2, rfl, hc2, hr2, hB2, hO2⟩
        dsimp only
        have hsn := enc_snoc ts k hlt
        have he : ts[k].enc = ts[k].sum := by unfold Thg.enc; simp [hk0]
        have hB3 : Below w.heap.size w w2 := hB.trans ((hB1.trans (hB2.mono hB1.size)).mono hB.size)
        have HO := Lib.hid hO2; clear hO2
        have HSN := Lib.hid hsn; clear hsn
        have HE := Lib.hid he; clear he
        have HB2 := Lib.hid hB2; clear hB2
        (repeat' ((fail_if_success at_builtin); first | go_values | go_skip | go_guarded | go_step | go_upon))
        go_roundw
        case rel =>
          refine ⟨k + 1, m + 32, by omega, by go_num, ?_, hB3, ?_⟩
          rotate_left
          · rw [HSN.out, HE.out, ← List.append_assoc]
            try rw [← List.append_assoc]
            exact owns_mono HO.out (by have := hB.size; have := hB1.size; omega)
          · have := EM.out
            have := ht.len
            have := ht.sum
            rw [HSN.out, HE.out]
            simp only [List.length_append, be8_length]
            omega
        case measure => show ts.length - (k + 1) < ts.length - k; omega
      · (repeat' ((fail_if_success at_builtin); first | (first | (with_reducible refine wpList_load_mid rfl 38 _ rfl b (off + k * 35) rfl cs _ HR.out Try.underlying38 rfl HI.out ?_) | (refine wpList_store_fresh (w := wr) rfl 38 _ _ rfl _ 38 rfl cs.toArray rfl ?_ ?_ ?_ ?_; exact HI2.out; exact HL.out; exact hall; intro w1 hg1 hB1; have k0 : w1.cell? ⟨wr.heap.size, 0, none⟩ = some (.int .i64 ts[k].kind) := (by rw [cell_of_row w1 wr.heap.size 0 _ _ _ hg1, ← HC.out]; rfl); have k1 : w1.cell? ⟨wr.heap.size, 1, none⟩ = some (.int .i64 ts[k].num) := (by rw [cell_of_row w1 wr.heap.size 1 _ _ _ hg1, ← HC.out]; rfl); have k2 : w1.cell? ⟨wr.heap.size, 2, none⟩ = some (.slice ts[k].ba ts[k].bn ts[k].bc) := (by rw [cell_of_row w1 wr.heap.size 2 _ _ _ hg1, ← HC.out]; rfl); have hRa : RdB w1 a1 (l ++ (ts.take k).flatMap Thg.enc) := ((rdc_of_owns hO1).below hB1 (Nat.le_refl _)); have hRb : RdB w1 ts[k].ba ts[k].bs := (ht.rd.below hB1 (Nat.le_refl _)); have HG := Lib.hid hg1; clear hg1)) | go_values | go_skip | go_guarded | go_step | go_upon))
        refine (packInt a1 m c1 _ ts[k].num w1 hRa HEM.out (by omega) ht.num).mono ?_
        rintro _ w2 ⟨a2, c2, rfl, hc2, hr2, hB2, hO2⟩
        dsimp only
        have hsn := enc_snoc ts k hlt
        have he : ts[k].enc = be8 ts[k].num := by unfold Thg.enc; simp [hk0]
        have hB3 : Below w.heap.size w w2 := hB.trans ((hB1.trans (hB2.mono hB1.size)).mono hB.size)
        have HO := Lib.hid hO2; clear hO2
        have HSN := Lib.hid hsn; clear hsn
        have HE := Lib.hid he; clear he
        have HB2 := Lib.hid hB2; clear hB2
        (repeat' ((fail_if_success at_builtin); first | go_values | go_skip | go_guarded | go_step | go_upon))
        go_roundw
        case rel =>
          refine ⟨k + 1, m + 8, by omega, by go_num, ?_, hB3, ?_⟩
          rotate_left
          · rw [HSN.out, HE.out, ← List.append_assoc]
            try rw [← List.append_assoc]
            exact owns_mono HO.out (by have := hB.size; have := hB1.size; omega)
          · have := EM.out
            have := ht.len
            have := ht.sum
            rw [HSN.out, HE.out]
            simp only [List.length_append, be8_length]
            omega
        case measure => show ts.length - (k + 1) < ts.length - k; omega
    · (repeat' ((fail_if_success at_builtin); first | go_values | go_skip | go_guarded | go_step | go_upon))
      go_ret
      obtain rfl : k = ts.length := by omega
      rw [List.take_length] at hO1
      have em := EM.out
      rw [List.take_length] at em
      subst em
      obtain ⟨a', c', rfl, hc, hm', _⟩ := owns_slice hO1
      exact ⟨a', c', rfl, by rw [List.length_append, e0], hc, hm', hB, hO1⟩

theorem ox_things {H : Type} {enc : TypeId × Value → H} {w : World} {fuel : Nat} {cs : List Value} {y : DataW H × List MemPlace} (h : Reads enc Try.prog w fuel 46 cs y) :
    ∃ (a : Option Addr) (n c : Nat) (ts : List Thg), cs = [.slice a n c] ∧ ts.length = n ∧ n ≤ c ∧ c ≤ maxLen ∧ RdC w a (ts.flatMap Thg.cells) ∧ ∀ t ∈ ts, t.Ok w :=
  ox_slice (size := 35) (by omega) Try.underlying46 (by kernel_rfl) Thg.cells (·.Ok w) Thg.cells_length (fun _ _ _ hh => ox_thing hh) h

theorem le63 {n c : Nat} (h : n ≤ c) (h' : c ≤ maxLen) : n ≤ 9223372036854775807 := by unfold maxLen at h'; omega

end Go.Proofs.Yticpdpnkmeicjaa
