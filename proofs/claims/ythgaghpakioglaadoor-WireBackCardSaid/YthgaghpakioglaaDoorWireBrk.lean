/- The law WireBroken, walked. -/
import Derived.Test.YthgaghpakioglaaDoorForm27
import Derived.Test.YthgaghpakioglaaDoorAllKit
namespace Go.Proofs.YthgaghpakioglaaDoor
set_option linter.unusedSimpArgs false
set_option linter.unusedVariables false
open Go.RowKit
set_option maxRecDepth 10000

theorem In.uniq {w : World} {g : Nat} {r r' : Option Nat} {l l' : List UInt8} {br br' : Bool} (h : In w g r l br) (h' : In w g r' l' br') : r = r' := by
  obtain ⟨_, _, _, _, _, h1, _⟩ := h.out
  obtain ⟨_, _, _, _, _, h2, _⟩ := h'.out
  have h4 := h1.symm.trans h2
  simp only [Option.some.injEq, Obj.cells.injEq, and_true] at h4
  have h5 := congrArg (fun a => a[0]?) h4
  cases r <;> cases r' <;> simp at h5 <;> simp [h5]

/-- Bytes in newer memory are fed. -/
theorem feedOwn (B g : Nat) (l : List UInt8) (b : Option Addr) (n1 c1 : Nat) (ps : List UInt8) (w0 w : World) (h : InB B w0 g l false) (hB : Below w0.heap.size w0 w) (hb : RdB w b ps) (e1 : ps.length = n1) (hnew : 0 < ps.length → ∀ blk o, b = some ⟨blk, o, none⟩ → w0.heap.size ≤ blk) (hbig : l.length + n1 ≤ 1000000) :
    Calls Tryd.prog 18 #[.pointer (some ⟨g, 0, none⟩), .slice b n1 c1] w fun e w' => e = .returned (.tuple #[]) ∧ InB B w' g (l ++ ps) false ∧ Below B w w' := by
  refine feedB B g l b n1 c1 ps w (h.below hB) hb e1 (fun r hi h0 blk o e => ?_) hbig
  obtain ⟨r0, hi0, _, _, _⟩ := h.out
  have hlt := hnew h0 blk o e
  obtain rfl := hi.uniq (hi0.below hB)
  refine ⟨by have := hi0.lt; omega, fun e2 => ?_⟩
  subst e2
  have := hi0.rlt
  omega
/-- Bytes in older memory are fed. -/
theorem feedOld (B g : Nat) (l : List UInt8) (b : Option Addr) (n1 c1 : Nat) (ps : List UInt8) (w : World) (h : InB B w g l false) (hb : RdB w b ps) (e1 : ps.length = n1) (hold : 0 < ps.length → ∀ blk o, b = some ⟨blk, o, none⟩ → blk < B) (hbig : l.length + n1 ≤ 1000000) :
    Calls Tryd.prog 18 #[.pointer (some ⟨g, 0, none⟩), .slice b n1 c1] w fun e w' => e = .returned (.tuple #[]) ∧ InB B w' g (l ++ ps) false ∧ Below B w w' := by
  refine feedB B g l b n1 c1 ps w h hb e1 (fun r hi h0 blk o e => ?_) hbig
  obtain ⟨r0, hi0, hg, hr, _⟩ := h.out
  have hlt := hold h0 blk o e
  obtain rfl := hi.uniq hi0
  refine ⟨by omega, fun e2 => ?_⟩
  have := hr _ e2
  omega
theorem feedBrokenB (B g : Nat) (l : List UInt8) (b : Option Addr) (n1 c1 : Nat) (w : World) (h : InB B w g l true) :
    Calls Tryd.prog 18 #[.pointer (some ⟨g, 0, none⟩), .slice b n1 c1] w fun e w' => e = .returned (.tuple #[]) ∧ w = w' := by
  obtain ⟨r0, hi0, hg, hr, _⟩ := h.out
  exact inFeedBroken g r0 l b n1 c1 w hi0

/-- The bodies that may be. -/
def mays (ps : List Piece) : List (List UInt8) := (ps.map (·.l)).filter fun l => mayB l.length
theorem mays_yes {ps : List Piece} {k : Nat} {p : Piece} (h : ps.take (k + 1) = ps.take k ++ [p]) (hm : mayB p.l.length = true) : mays (ps.take (k + 1)) = mays (ps.take k) ++ [p.l] := by
  unfold mays
  rw [h, List.map_append, List.filter_append]
  simp [hm]
theorem mays_no {ps : List Piece} {k : Nat} {p : Piece} (h : ps.take (k + 1) = ps.take k ++ [p]) (hm : mayB p.l.length = false) : mays (ps.take (k + 1)) = mays (ps.take k) := by
  unfold mays
  rw [h, List.map_append, List.filter_append]
  simp [hm]
theorem mays_may (ps : List Piece) : ∀ b ∈ mays ps, mayB b.length = true := fun b hb => (List.mem_filter.1 hb).2
theorem mays_len (ps : List Piece) : (mays ps).length ≤ ps.length := by
  unfold mays
  have := List.length_filter_le (fun l : List UInt8 => mayB l.length) (ps.map (·.l))
  rw [List.length_map] at this
  exact this
theorem mays_le (ps : List Piece) (hl : ∀ p ∈ ps, p.l.length = p.n) : ((mays ps).flatMap parcel).length ≤ 4 * total ps := by
  induction ps with
  | nil => simp [mays]
  | cons p ps ih =>
    have h1 := ih (fun q hq => hl q (List.mem_cons_of_mem _ hq))
    have h2 := hl p List.mem_cons_self
    have e : total (p :: ps) = p.n + 1 + total ps := by unfold total; simp
    unfold mays at *
    rw [List.map_cons, List.filter_cons]
    split
    · rw [List.flatMap_cons, List.length_append, parcel_length, e]; omega
    · rw [e]; omega

theorem total_le (ps : List Piece) (k : Nat) : total (ps.take k) ≤ total ps := by
  have h : total (ps.take k ++ ps.drop k) = total (ps.take k) + total (ps.drop k) := by unfold total; rw [List.map_append, List.sum_append]
  rw [List.take_append_drop] at h
  omega
theorem piece_le {ps : List Piece} {p : Piece} (h : p ∈ ps) : p.n < total ps := by
  induction ps with
  | nil => cases h
  | cons q ps ih =>
    have e : total (q :: ps) = q.n + 1 + total ps := by unfold total; simp
    rcases List.mem_cons.1 h with rfl | h
    · omega
    · have := ih h; omega

/-- A length that may not be breaks what stands in front of it. -/
theorem tell_bad (d0 d1 d2 d3 : UInt8) (h : mayB (num4 [d0, d1, d2, d3]) = false) : tell [d0, d1, d2, d3] = ([], [], true) := by
  have hn : next1 [d0, d1, d2, d3] = none := by
    unfold next1
    rw [if_neg]
    rintro ⟨_, h2, _⟩
    rw [show [d0, d1, d2, d3].take 4 = [d0, d1, d2, d3] from rfl, h] at h2
    cases h2
  have hs : stuck [d0, d1, d2, d3] = true := by
    unfold stuck
    rw [show [d0, d1, d2, d3].take 4 = [d0, d1, d2, d3] from rfl, h]
    rfl
  rw [tell_none hn, hs]
  rfl

theorem pieces_old {w : World} {p : Piece} (h : p.Ok w) : 0 < p.l.length → ∀ blk o, p.a = some ⟨blk, o, none⟩ → blk < w.heap.size := fun h0 blk o e => by
  obtain ⟨b', o', e', hlt⟩ := h.rd.lt (by rw [bvs_length]; exact h0)
  rw [e] at e'
  cases e'
  exact hlt

theorem u8_int (v : Int) (h : 0 ≤ v ∧ v < 256) : ((u8 v).toNat : Int) = v := by
  have := bv_u8 v h
  unfold bv at this
  exact (Value.int.inj this).2

/-- How the loop stands: k bodies were put and fed. -/
structure BrkAt (w1 : World) (g n : Nat) (ps : List Piece) (v i : Value) (wr : World) : Prop where
  out : ∃ (k m : Nat), k ≤ n ∧ i = .int .i64 k ∧ v = .int .i64 m ∧ Below g w1 wr ∧ (mays (ps.take k)).length = m ∧ InB g wr g ((mays (ps.take k)).flatMap parcel) false

set_option maxHeartbeats 4000000 in
theorem wireBroken_walk (a a2 : Option Addr) (n c n2 c2 : Nat) (ps : List Piece) (v : Int) (l : List UInt8) (w : World) (h : Pieces w a ps) (en : ps.length = n) (hc : n ≤ 9223372036854775807) (hv : 0 ≤ v ∧ v < 4294967296)
    (h2 : RdB w a2 l) (en2 : l.length = n2) (hn2 : n2 ≤ c2) (hc2 : c2 ≤ 9223372036854775807) :
    Calls Tryd.prog 7 #[.slice a n c, .int .u32 v, .slice a2 n2 c2] w fun e w' => e = .returned (.bool true) ∧ Below w.heap.size w w' := by
  have HP := Lib.hid h; clear h
  have HR := Lib.hid h2; clear h2
  by_cases hA : 40 < n
  · have t1 : decide ((40 : Int) < (n : Int)) = true := by simp; omega
    go_enter Tryd.func7, Tryd.ntmps7
    (repeat' ((fail_if_success at_builtin); first | go_values | go_skip | go_guarded | go_step | go_upon))
    refine (works27 w).mono ?_
    rintro _ w1 ⟨rfl, hB1⟩
    dsimp only
    (repeat' ((fail_if_success at_builtin); first | go_values | go_skip | go_guarded | go_step | go_upon))
    go_ret
    exact ⟨rfl, hB1⟩
  have t1 : decide ((40 : Int) < (n : Int)) = false := by simp; omega
  obtain ⟨T, hT⟩ : ∃ T, totalM ps = T := ⟨_, rfl⟩
  by_cases hB : 4096 < T
  · have t2 : decide ((4096 : Int) < (T : Int)) = true := by simp; omega
    go_enter Tryd.func7, Tryd.ntmps7
    (repeat' ((fail_if_success at_builtin); first | go_values | go_skip | go_guarded | go_step | go_upon))
    refine (kitAll a n c ps w HP.out en hc).mono ?_
    rintro _ w1 ⟨rfl, hs1⟩
    dsimp only
    rw [hT]
    (repeat' ((fail_if_success at_builtin); first | go_values | go_skip | go_guarded | go_step | go_upon))
    refine (works27 w1).mono ?_
    rintro _ w2 ⟨rfl, hB2⟩
    dsimp only
    (repeat' ((fail_if_success at_builtin); first | go_values | go_skip | go_guarded | go_step | go_upon))
    go_ret
    exact ⟨rfl, (hs1.below _).trans (hB2.mono (by rw [hs1.heap]; exact Nat.le_refl _))⟩
  have t2 : decide ((4096 : Int) < (T : Int)) = false := by simp; omega
  by_cases hC : 4096 < n2
  · have t3 : decide ((4096 : Int) < (n2 : Int)) = true := by simp; omega
    go_enter Tryd.func7, Tryd.ntmps7
    (repeat' ((fail_if_success at_builtin); first | go_values | go_skip | go_guarded | go_step | go_upon))
    refine (kitAll a n c ps w HP.out en hc).mono ?_
    rintro _ w1 ⟨rfl, hs1⟩
    dsimp only
    rw [hT]
    (repeat' ((fail_if_success at_builtin); first | go_values | go_skip | go_guarded | go_step | go_upon))
    refine (works27 w1).mono ?_
    rintro _ w2 ⟨rfl, hB2⟩
    dsimp only
    (repeat' ((fail_if_success at_builtin); first | go_values | go_skip | go_guarded | go_step | go_upon))
    go_ret
    exact ⟨rfl, (hs1.below _).trans (hB2.mono (by rw [hs1.heap]; exact Nat.le_refl _))⟩
  have t3 : decide ((4096 : Int) < (n2 : Int)) = false := by simp; omega
  by_cases hD : 1 ≤ v ∧ v ≤ 32768
  · have t4 : decide ((1 : Int) ≤ v) = true := by simp; omega
    have t5 : decide (v ≤ 32768) = true := by simp; omega
    go_enter Tryd.func7, Tryd.ntmps7
    (repeat' ((fail_if_success at_builtin); first | go_values | go_skip | go_guarded | go_step | go_upon))
    refine (kitAll a n c ps w HP.out en hc).mono ?_
    rintro _ w1 ⟨rfl, hs1⟩
    dsimp only
    rw [hT]
    (repeat' ((fail_if_success at_builtin); first | go_values | go_skip | go_guarded | go_step | go_upon))
    refine (works27 w1).mono ?_
    rintro _ w2 ⟨rfl, hB2⟩
    dsimp only
    (repeat' ((fail_if_success at_builtin); first | go_values | go_skip | go_guarded | go_step | go_upon))
    go_ret
    exact ⟨rfl, (hs1.below _).trans (hB2.mono (by rw [hs1.heap]; exact Nat.le_refl _))⟩
  have hT4 : total ps ≤ 4096 := by unfold totalM at hT; omega
  have hlen : ∀ p ∈ ps, p.l.length = p.n := fun p hp => (HP.out.ok p hp).len
  have HLEN := Lib.hid hlen; clear hlen
  have HT4 := Lib.hid hT4; clear hT4
  have hbad : v = 0 ∨ 32768 < v := by omega
  have HBAD := Lib.hid hbad; clear hbad
  go_enter Tryd.func7, Tryd.ntmps7
  (repeat' ((fail_if_success at_builtin); first | go_values | go_skip | go_guarded | go_step | go_upon))
  refine (kitAll a n c ps w HP.out en hc).mono ?_
  rintro _ w0 ⟨rfl, hs0⟩
  dsimp only
  rw [hT]
  have HP0 := Lib.hid (HP.out.below (hs0.below _))
  have HR0 := Lib.hid (HR.out.still hs0)
  have hz0 : w0.heap.size = w.heap.size := by rw [hs0.heap]
  have hB00 := hs0.below w.heap.size
  clear hs0 hT HP HR
  have hq : decide ((1 : Int) ≤ v) = false ∨ (decide ((1 : Int) ≤ v) = true ∧ decide (v ≤ 32768) = false) := by
    rcases HBAD.out with h | h
    · left; simp; omega
    · right; constructor <;> simp <;> omega
  rcases hq with t4 | ⟨t4, t5⟩
  all_goals
    (repeat' ((fail_if_success at_builtin); first | go_values | go_skip | go_guarded | go_step | go_upon))
    refine (inNew w0).mono ?_
    rintro _ w1 ⟨rfl, hi1, hB1, hs1⟩
    dsimp only
    obtain ⟨g, hg⟩ : ∃ g, w0.heap.size = g := ⟨_, rfl⟩
    have hin1 : InB g w1 g [] false := ⟨none, by rw [← hg]; exact hi1, Nat.le_refl _, (fun k e => by cases e), by omega⟩
    have HP1 := Lib.hid (HP0.out.below hB1)
    have HR1 := Lib.hid (HR0.out.below hB1 (Nat.le_refl _))
    rw [hg] at hi1 hB1 ⊢
    have HI1 := Lib.hid hin1; clear hin1 hi1
    have hs1' : w1.heap.size = g + 1 := by omega
    clear hs1
    (repeat' ((fail_if_success at_builtin); first | go_values | go_skip | go_guarded | go_step | go_upon))
    go_loopw [8, 9] (fun v i wr => BrkAt w1 g n ps v i wr) (fun _ i _ => n - (intOf i).toNat)
    case atStart => exact ⟨⟨0, 0, Nat.zero_le _, rfl, rfl, Below.refl _ _, rfl, HI1.out⟩⟩
    case round =>
      obtain ⟨⟨k, m, hk, rfl, rfl, hB, hm, hin⟩⟩ := hrel
      have hz1 : w1.heap.size ≤ wr.heap.size := hB.size
      have HIN := Lib.hid hin; clear hin
      by_cases hlt : k < n
      · have hPr : Pieces wr a ps := HP0.out.below (by rw [hg]; exact hB1.trans hB)
        obtain ⟨p, b, off, rfl, hcell, hp, hmem, htt, htk⟩ := hPr.get k (by omega)
        have hpn := hp.len
        have hpr := Lib.hid hp.rd
        have hpb := piece_le hmem
        have hfit : ((mays (ps.take k)).flatMap parcel).length + 4 * (p.n + 1) ≤ 16384 := by
          have h1 := mays_le (ps.take k) (fun q hq => HLEN.out q (List.mem_of_mem_take hq))
          have h2 := total_le ps (k + 1)
          have h3 := HT4.out
          omega
        have hpb2 : p.n ≤ 4096 := by have := HT4.out; omega
        have hmk : m ≤ 40 := by have h1 := mays_len (ps.take k); rw [List.length_take, hm] at h1; omega
        have HTK := Lib.hid htk
        clear htt htk hmem hPr hp hpb
        cases hmy : mayB p.n with
        | true =>
          have HMY := Lib.hid hmy; clear hmy
          (repeat' ((fail_if_success at_builtin); first | go_values | go_skip | go_guarded | go_step | go_upon))
          refine (wirePutYes p.a p.n p.c p.l wr hpr.out hpn (by omega) HMY.out).mono ?_
          rintro _ w4 ⟨a4, c4, rfl, hc4, hr4, hB4, hO4⟩
          dsimp only
          have HR4 := Lib.hid hr4; clear hr4
          have HO4 := Lib.hid hO4; clear hO4
          have hB14 : Below g w1 w4 := hB.trans (hB4.mono (by omega))
          (repeat' ((fail_if_success at_builtin); first | go_values | go_skip | go_guarded | go_step | go_upon))
          refine (feedOwn g g _ a4 (4 + p.n) c4 (parcel p.l) wr w4 HIN.out hB4 HR4.out (by rw [parcel_length, hpn]) (fun _ blk o e => by subst e; exact (HO4.out.lt blk rfl).1) (by omega)).mono ?_
          rintro _ w5 ⟨rfl, hin5, hB5⟩
          dsimp only
          have HIN5 := Lib.hid hin5; clear hin5
          (repeat' ((fail_if_success at_builtin); first | go_values | go_skip | go_guarded | go_step | go_upon))
          go_roundw
          case rel =>
            have hmm := mays_yes HTK.out (by rw [hpn]; exact HMY.out)
            refine ⟨⟨k + 1, m + 1, by omega, by go_num, by go_num, hB14.trans hB5, ?_, ?_⟩⟩
            · rw [hmm, List.length_append, hm]; rfl
            · rw [hmm, List.flatMap_append, List.flatMap_cons, List.flatMap_nil, List.append_nil]; exact HIN5.out
          case measure => simp [intOf]; omega
        | false =>
          have HMY := Lib.hid hmy; clear hmy
          (repeat' ((fail_if_success at_builtin); first | go_values | go_skip | go_guarded | go_step | go_upon))
          refine (wirePutNo p.a p.n p.c p.l wr hpn (by omega) HMY.out).mono ?_
          rintro _ w4 ⟨rfl, hB4⟩
          dsimp only
          have hB14 : Below g w1 w4 := hB.trans (hB4.mono (by omega))
          (repeat' ((fail_if_success at_builtin); first | go_values | go_skip | go_guarded | go_step | go_upon))
          refine (feedOwn g g _ none 0 0 [] wr w4 HIN.out hB4 (RdC.nil _ _) rfl (fun h0 => absurd h0 (by decide)) (by omega)).mono ?_
          rintro _ w5 ⟨rfl, hin5, hB5⟩
          dsimp only
          rw [List.append_nil] at hin5
          have HIN5 := Lib.hid hin5; clear hin5
          (repeat' ((fail_if_success at_builtin); first | go_values | go_skip | go_guarded | go_step | go_upon))
          go_roundw
          case rel =>
            have hmm := mays_no HTK.out (by rw [hpn]; exact HMY.out)
            refine ⟨⟨k + 1, m, by omega, by go_num, rfl, hB14.trans hB5, ?_, ?_⟩⟩
            · rw [hmm]; exact hm
            · rw [hmm]; exact HIN5.out
          case measure => simp [intOf]; omega
      · obtain rfl : k = n := by omega
        rw [← en, List.take_length] at HIN hm
        have hfl := mays_le ps HLEN.out
        have hfl2 : ((mays ps).flatMap parcel).length ≤ 16384 := by have := HT4.out; omega
        have hnum : num4 [u8 (v / 16777216), u8 (v / 65536 % 256), u8 (v / 256 % 256), u8 (v % 256)] = v.toNat := by
          have e3 := u8_int (v / 16777216) (by omega)
          have e2 := u8_int (v / 65536 % 256) (by omega)
          have e1 := u8_int (v / 256 % 256) (by omega)
          have e0 := u8_int (v % 256) (by omega)
          simp only [num4, List.foldl_cons, List.foldl_nil]
          omega
        have hmb : mayB (num4 [u8 (v / 16777216), u8 (v / 65536 % 256), u8 (v / 256 % 256), u8 (v % 256)]) = false := by
          rw [hnum]
          unfold mayB
          have := HBAD.out
          apply decide_eq_false
          omega
        have hcs : (bvs [u8 (v / 16777216), u8 (v / 65536 % 256), u8 (v / 256 % 256), u8 (v % 256)]).toArray = #[.int .u8 (v / 16777216), .int .u8 (v / 65536 % 256), .int .u8 (v / 256 % 256), .int .u8 (v % 256)] := by
          show #[bv _, bv _, bv _, bv _] = _
          rw [bv_u8 _ (by omega), bv_u8 _ (by omega), bv_u8 _ (by omega), bv_u8 _ (by omega)]
        have htell := tell_parcels (mays ps) [u8 (v / 16777216), u8 (v / 65536 % 256), u8 (v / 256 % 256), u8 (v % 256)] (mays_may ps)
        rw [tell_bad _ _ _ _ hmb] at htell
        have HTL := Lib.hid htell
        have HCS := Lib.hid hcs
        clear hnum hmb htell hcs hfl
        (repeat' ((fail_if_success at_builtin); first | go_values | go_skip | go_guarded | go_step | go_upon))
        refine (feedLit g g 4 _ _ _ _ wr HIN.out HCS.out rfl (by omega)).mono ?_
        rintro _ w5 ⟨rfl, hin5, hB5⟩
        dsimp only
        have HIN5 := Lib.hid hin5; clear hin5
        have hB15 : Below g w1 w5 := hB.trans hB5
        (repeat' ((fail_if_success at_builtin); first | go_values | go_skip | go_guarded | go_step | go_upon))
        refine (toldB g g _ w5 HIN5.out (by rw [List.length_append]; show _ + 4 ≤ _; omega)).mono ?_
        rintro _ w6 ⟨a6, c6, qs, rfl, hT6, hqs, hin6, hB6⟩
        dsimp only
        rw [HTL.out] at hqs hin6 ⊢
        have hqm : qs.length = m := by rw [← hm, ← List.length_map (f := (·.l)), hqs]; simp
        subst hqm
        have HIN6 := Lib.hid hin6; clear hin6
        have hB16 : Below g w1 w6 := hB15.trans hB6
        have hc6 := hT6.cap
        clear hT6 hqs
        (repeat' ((fail_if_success at_builtin); first | go_values | go_skip | go_guarded | go_step | go_upon))
        refine (feedBrokenB g g _ a2 n2 c2 w6 HIN6.out).mono ?_
        rintro _ _ ⟨rfl, rfl⟩
        dsimp only
        (repeat' ((fail_if_success at_builtin); first | go_values | go_skip | go_guarded | go_step | go_upon))
        refine (wirePutYes _ 1 1 [1] _ (rdb_lit w6 [1] _ _ rfl) rfl (by decide) (by decide)).mono ?_
        rintro _ w7 ⟨a7, c7, rfl, hc7, hr7, hB7, _⟩
        dsimp only
        have hB67 : Below w6.heap.size w6 w7 := ((Below.refl _ _).alloc (Nat.le_refl _) _).trans (hB7.mono (by simp))
        have HIN7 := Lib.hid (HIN6.out.below hB67)
        have hB17 : Below g w1 w7 := hB16.trans (hB67.mono (by have := hB16.size; omega))
        (repeat' ((fail_if_success at_builtin); first | go_values | go_skip | go_guarded | go_step | go_upon))
        refine (feedBrokenB g g _ a7 5 c7 w7 HIN7.out).mono ?_
        rintro _ _ ⟨rfl, rfl⟩
        dsimp only
        (repeat' ((fail_if_success at_builtin); first | go_values | go_skip | go_guarded | go_step | go_upon))
        refine (nextBrokenB g g _ w7 HIN7.out).mono ?_
        rintro _ w8 ⟨rfl, hin8, hB8⟩
        dsimp only
        have HIN8 := Lib.hid hin8; clear hin8
        have hB18 : Below g w1 w8 := hB17.trans hB8
        (repeat' ((fail_if_success at_builtin); first | go_values | go_skip | go_guarded | go_step | go_upon))
        refine (waitsB g g [] true w8 HIN8.out).mono ?_
        rintro _ w9 ⟨rfl, _, hB9⟩
        dsimp only
        have hB19 : Below g w1 w9 := hB18.trans (hB9.mono (by have := hB18.size; omega))
        (repeat' ((fail_if_success at_builtin); first | go_values | go_skip | go_guarded | go_step | go_upon))
        refine (works27 w9).mono ?_
        rintro _ w10 ⟨rfl, hB10⟩
        dsimp only
        (repeat' ((fail_if_success at_builtin); first | go_values | go_skip | go_guarded | go_step | go_upon))
        go_ret
        refine ⟨rfl, hB00.trans ?_⟩
        rw [← hz0, hg]
        exact hB1.trans (hB19.trans (hB10.mono (by have := hB19.size; omega)))

end Go.Proofs.YthgaghpakioglaaDoor
