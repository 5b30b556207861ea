/- StreamsPlaces, walked. -/
import Derived.Test.YthgaghpakioglaaApa18
import Derived.Test.YthgaghpakioglaaNum18
namespace Go.Proofs.Ythgaghpakioglaa
open Go.RowKit
set_option linter.unusedSimpArgs false
set_option linter.unusedVariables false
set_option maxRecDepth 10000
--@PUT2

/-- Rows of an own slice whose bytes may lie elsewhere. -/
def Mine (w : World) (base : Nat) (a : Option Addr) (c : Nat) (L : List EvS) : Prop :=
  ∃ outs : List Ev, outs.map Ev.sem = L ∧ w.ownsRow base 54 6 (.slice a L.length c) L.length (outs.flatMap Ev.cells) ∧ ∀ x ∈ outs, x.Rd 0 w
theorem Mine.below {w w' : World} {base : Nat} {a : Option Addr} {c : Nat} {L : List EvS} (h : Mine w base a c L) (hb : Below w.heap.size w w') : Mine w' base a c L := by
  obtain ⟨outs, h1, h2, h3⟩ := h
  exact ⟨outs, h1, owns_below h2 hb (Nat.le_refl _), fun x hx => (h3 x hx).below hb⟩
theorem Mine.evs {w : World} {base : Nat} {a : Option Addr} {c : Nat} {L : List EvS} (h : Mine w base a c L) : Evs w 0 a c L := by
  obtain ⟨outs, h1, h2, h3⟩ := h
  exact ⟨outs, h1, owns_low h2 (Nat.zero_le _), h3⟩

set_option maxHeartbeats 8000000 in
theorem streamsPlaces_walk (a : Option Addr) (n c : Nat) (os : List Op18) (wh st : Int) (w : World) (h : Ops18 w a os) (hl : os.length = n) (hn : n ≤ 9223372036854775807) (hwh : -9223372036854775808 ≤ wh ∧ wh ≤ 9223372036854775807) (hst : -9223372036854775808 ≤ st ∧ st ≤ 9223372036854775807) :
    Calls Try.prog 6 #[.slice a n c, .int .i64 wh, .int .i64 st] w fun e w' => e = .returned (.bool true) ∧ Below w.heap.size w w' := by
  have HO := Lib.hid h
  clear h
  go_enter Try.func6, Try.ntmps6
  (repeat' ((fail_if_success at_builtin); first | go_values | go_skip | go_guarded | go_step | go_upon))
  refine (laidOps a n c os w HO.out hl hn).mono ?_
  rintro _ w1 ⟨g, k1, rfl, hk1, htk1, F1, hS1, hF1, hB1⟩
  rw [htk1] at hS1
  have HS1 := Lib.hid hS1
  clear hS1 hF1 htk1
  dsimp only
  (repeat' ((fail_if_success at_builtin); first | go_values | go_skip | go_guarded | go_step | go_upon))
  refine (bigOps a n c os w1 (HO.out.below hB1 (Nat.le_refl _)) hl hn).mono ?_
  rintro _ w2 ⟨⟨b, rfl⟩, d, rfl⟩
  have hB2 : Below w1.heap.size w1 (w1.drewN d) := below_drewN' (Below.refl _ _) d
  have HS2 := Lib.hid (HS1.out.below hB2)
  have hB02 : Below w.heap.size w (w1.drewN d) := hB1.trans (hB2.mono hB1.size)
  clear HS1
  generalize w1.drewN d = w2 at *
  dsimp only
  rcases (show b = true ∨ (b = false ∧ n = 0) ∨ (b = false ∧ 0 < n) by cases b <;> simp <;> omega) with rfl | ⟨rfl, rfl⟩ | ⟨rfl, hn0⟩
  · (repeat' ((fail_if_success at_builtin); first | go_values | go_skip | go_guarded | go_step | go_upon))
    refine (known18 w2).mono ?_
    rintro _ w3 ⟨rfl, hB3⟩
    dsimp only
    (repeat' ((fail_if_success at_builtin); first | go_values | go_skip | go_guarded | go_step | go_upon))
    go_ret
    exact ⟨rfl, hB02.trans (hB3.mono hB02.size)⟩
  · (repeat' ((fail_if_success at_builtin); first | go_values | go_skip | go_guarded | go_step | go_upon))
    refine (known18 w2).mono ?_
    rintro _ w3 ⟨rfl, hB3⟩
    dsimp only
    (repeat' ((fail_if_success at_builtin); first | go_values | go_skip | go_guarded | go_step | go_upon))
    go_ret
    exact ⟨rfl, hB02.trans (hB3.mono hB02.size)⟩
  · have t1 : ((n : Int) == 0) = false := by simp; omega
    obtain ⟨M, hM⟩ : ∃ M : Nat, min (n : Int) 100 = (M : Int) := ⟨min n 100, by omega⟩
    have hM1 : 1 ≤ M ∧ M ≤ n ∧ M ≤ 100 := by omega
    rcases (show (n : Int) ≤ 100 ∧ M = n ∨ (100 : Int) < n ∧ M = 100 by omega) with ⟨hmm, hMe⟩ | ⟨hmm, hMe⟩
    all_goals
      (repeat' ((fail_if_success at_builtin); first | go_values | go_skip | go_guarded | go_step | go_upon))
      have hpl := pick_lt wh (M : Int) (by omega)
      obtain ⟨p, hp⟩ : ∃ p : Nat, pick wh (M : Int) = p := ⟨(pick wh (M : Int)).toNat, by omega⟩
      rw [hp] at hpl
      have hpc := pickAny wh (M : Int) w2 hwh (by omega)
      rw [hp, hMe] at hpc
      refine hpc.mono ?_
      rintro _ _ ⟨rfl, rfl⟩
      have bp : (0 : Int) ≤ (p : Int) ∧ (p : Int) < (n : Int) := by omega
      have hpo : p < os.length := by omega
      obtain ⟨ob, oo, rfl, hc⟩ := (HO.out.below hB02 (Nat.le_refl _)).at_ p hpo
      have hok := HO.out.ok _ (List.getElem_mem hpo)
      obtain ⟨x, hx⟩ : ∃ x, os[p] = x := ⟨_, rfl⟩
      rw [hx] at hc hok
      have q0 : w2.cell? ⟨ob, oo + p * 7, none⟩ = some (.string x.t) := hc 0 _ rfl
      have q1 : w2.cell? ⟨ob, oo + p * 7 + 1, none⟩ = some (.string x.st) := hc 1 _ rfl
      have q2 : w2.cell? ⟨ob, oo + p * 7 + 2, none⟩ = some (.string x.su) := hc 2 _ rfl
      have q3 : w2.cell? ⟨ob, oo + p * 7 + 3, none⟩ = some (.int .i64 x.us) := hc 3 _ rfl
      have q4 : w2.cell? ⟨ob, oo + p * 7 + 4, none⟩ = some (.slice x.sa x.sn x.sc) := hc 4 _ rfl
      have q5 : w2.cell? ⟨ob, oo + p * 7 + 5, none⟩ = some (.int .i64 x.fr) := hc 5 _ rfl
      have q6 : w2.cell? ⟨ob, oo + p * 7 + 6, none⟩ = some (.int .i64 x.n) := hc 6 _ rfl
      have hxt := hok.t
      have hxst := hok.st
      clear hc hok hx hp hpc
      dsimp only
      (repeat' ((fail_if_success at_builtin); first | go_values | go_skip | go_guarded | go_step | go_upon))
      have hB3 : Below w2.heap.size w2 (w2.alloc (.cells #[.string x.t, .string x.st, .string x.su, .int .i64 x.us, .slice x.sa x.sn x.sc, .int .i64 x.fr, .int .i64 x.n] 39)) := (Below.refl _ _).alloc (Nat.le_refl _) _
      have hro := heap_alloc_new w2 (.cells #[.string x.t, .string x.st, .string x.su, .int .i64 x.us, .slice x.sa x.sn x.sc, .int .i64 x.fr, .int .i64 x.n] 39)
      generalize w2.alloc (.cells #[.string x.t, .string x.st, .string x.su, .int .i64 x.us, .slice x.sa x.sn x.sc, .int .i64 x.fr, .int .i64 x.n] 39) = w3 at *
      obtain ⟨z, hz⟩ : ∃ z, w2.heap.size = z := ⟨_, rfl⟩
      rw [hz] at hro ⊢
      have hB03 : Below w.heap.size w w3 := hB02.trans (hB3.mono hB02.size)
      have c0 : w3.cell? ⟨z, 0, none⟩ = some (.string x.t) := cell_of_row w3 z 0 _ _ _ hro
      have c1 : w3.cell? ⟨z, 1, none⟩ = some (.string x.st) := cell_of_row w3 z 1 _ _ _ hro
      have hzl := lt_of_get hro
      have HS3 := Lib.hid (HS2.out.below hB3)
      clear hz hro q0 q1 q2 q3 q4 q5 q6
      have hpt := pick_lt st 64 (by decide)
      obtain ⟨T, hT⟩ : ∃ T : Nat, pick st 64 = (T : Int) - 1 := ⟨(pick st 64).toNat + 1, by omega⟩
      rw [hT] at hpt
      have hT1 : 1 ≤ T ∧ T ≤ 64 := by omega
      have hpd := pickAny st 64 w3 hst (by decide)
      rw [hT] at hpd
      refine hpd.mono ?_
      rintro _ _ ⟨rfl, rfl⟩
      clear hpd hT hpt
      dsimp only
      (repeat' ((fail_if_success at_builtin); first | go_values | go_skip | go_guarded | go_step | go_upon))
      rw [show (1 : Int) + ((T : Int) - 1) = (T : Int) by omega]
      have hlen := HS3.out.len x.t
      have hslb := HS3.out.slb x.t
      have hnum := HS3.out.num x.t
      obtain ⟨L, hL⟩ : ∃ L, layS (os.take 100) x.t = L := ⟨_, rfl⟩
      rw [hL] at hlen hslb hnum
      have HL := Lib.hid hL
      have HSLB := Lib.hid hslb
      have HNUM := Lib.hid hnum
      clear hL hslb hnum
      refine (wholeAll HS3.out x.t ⟨#[]⟩ 64 hxt (by omega) (by omega)).mono ?_
      rw [HL.out]
      rintro _ w4 ⟨a4, c4, rfl, hc4, hE4, hB4⟩
      have HE4 := Lib.hid hE4
      have HS4 := Lib.hid (HS3.out.below hB4)
      have hB04 : Below w.heap.size w w4 := hB03.trans (hB4.mono hB03.size)
      have d0 := (hB4.cell (p := ⟨z, 0, none⟩) hzl).trans c0
      have d1 := (hB4.cell (p := ⟨z, 1, none⟩) hzl).trans c1
      have hzl4 := Nat.lt_of_lt_of_le hzl hB4.size
      obtain ⟨N, hN⟩ : ∃ N, L.length = N := ⟨_, rfl⟩
      rw [hN] at hc4 hlen ⊢
      have HN := Lib.hid hN
      clear hE4 HS3 c0 c1 hN
      dsimp only
      (repeat' ((fail_if_success at_builtin); first | go_values | go_skip | go_guarded | go_step | go_upon))
      refine (countS HS4.out x.t hxt).mono ?_
      rintro _ w5 ⟨rfl, hB5⟩
      rw [HL.out, HN.out]
      have HE45 := Lib.hid (HE4.out.below hB5)
      have HS5 := Lib.hid (HS4.out.below hB5)
      have hB05 : Below w.heap.size w w5 := hB04.trans (hB5.mono hB04.size)
      have f0 := (hB5.cell (p := ⟨z, 0, none⟩) hzl4).trans d0
      have f1 := (hB5.cell (p := ⟨z, 1, none⟩) hzl4).trans d1
      have hzl5 := Nat.lt_of_lt_of_le hzl4 hB5.size
      clear HE4 HS4 d0 d1
      dsimp only
      (repeat' ((fail_if_success at_builtin); first | go_values | go_skip | go_guarded | go_step | go_upon))
      refine (wholeAll HS5.out x.t ⟨#[]⟩ T hxt hT1.1 hT1.2).mono ?_
      rw [HL.out, HN.out]
      rintro _ w6 ⟨a6, c6, rfl, hc6, hE6, hB6⟩
      have HE46 := Lib.hid (HE45.out.below hB6)
      have HE6 := Lib.hid hE6
      have HS6 := Lib.hid (HS5.out.below hB6)
      have hB06 : Below w.heap.size w w6 := hB05.trans (hB6.mono hB05.size)
      have g0 := (hB6.cell (p := ⟨z, 0, none⟩) hzl5).trans f0
      have g1 := (hB6.cell (p := ⟨z, 1, none⟩) hzl5).trans f1
      have hzl6 := Nat.lt_of_lt_of_le hzl5 hB6.size
      clear hE6 HE45 HS5 f0 f1
      dsimp only
      (repeat' ((fail_if_success at_builtin); first | go_values | go_skip | go_guarded | go_step | go_upon))
      have hsm := same_evs HE46.out HE6.out HSLB.out (by rw [HN.out]; exact hlen)
      rw [HN.out] at hsm
      refine hsm.mono ?_
      rintro _ w7 ⟨rfl, hB7⟩
      have HE47 := Lib.hid (HE46.out.below hB7)
      have HS7 := Lib.hid (HS6.out.below hB7)
      have hB07 : Below w.heap.size w w7 := hB06.trans (hB7.mono hB06.size)
      have k0 := (hB7.cell (p := ⟨z, 0, none⟩) hzl6).trans g0
      have k1 := (hB7.cell (p := ⟨z, 1, none⟩) hzl6).trans g1
      have hzl7 := Nat.lt_of_lt_of_le hzl6 hB7.size
      clear hsm HE46 HE6 HS6 g0 g1
      dsimp only
      (repeat' ((fail_if_success at_builtin); first | go_values | go_skip | go_guarded | go_step | go_upon))
      obtain ⟨iE, zE, hiE, hzE, hsE, hbE, hcE⟩ := evInfo_parts
      have HIE := Lib.hid hiE
      have HZE := Lib.hid hzE
      have HSE := Lib.hid hsE
      have HBE := Lib.hid hbE
      have HCE := Lib.hid hcE
      clear hiE hzE hsE hbE hcE
      go_loopw [10, 11, 12] (fun mi sz i wr => ∃ (k : Nat) (am : Option Addr) (cm : Nat), mi = .slice am (readS (L.take k) x.st 1).length cm ∧ sz = .int .i64 (szS (L.take k) : Int) ∧ i = .int .i64 (k : Int) ∧ k ≤ N ∧ szS (L.take k) ≤ k * 140737488351232 ∧ Mine wr w7.heap.size am cm (readS (L.take k) x.st 1) ∧ Below w7.heap.size w7 wr) (fun _ _ i _ => N - (intOf i).toNat)
      case atStart => exact ⟨0, none, 0, rfl, rfl, rfl, Nat.zero_le _, Nat.zero_le _, ⟨[], rfl, World.ownsRow_nil _ _ _ _, fun y hy => (by cases hy)⟩, Below.refl _ _⟩
      case round =>
        obtain ⟨k, am, cm, rfl, rfl, rfl, hk, hzb, hEm, hBr⟩ := hrel
        have HEM := Lib.hid hEm
        have hB0r : Below w.heap.size w wr := hB07.trans (hBr.mono hB07.size)
        have r0 := (hBr.cell (p := ⟨z, 0, none⟩) hzl7).trans k0
        have r1 := (hBr.cell (p := ⟨z, 1, none⟩) hzl7).trans k1
        have hzlr := Nat.lt_of_lt_of_le hzl7 hBr.size
        have hRl : (readS (L.take k) x.st 1).length ≤ k := Nat.le_trans (List.length_filter_le _ _) (by rw [List.length_take]; omega)
        obtain ⟨R, hR⟩ : ∃ R, (readS (L.take k) x.st 1).length = R := ⟨_, rfl⟩
        obtain ⟨Zs, hZs⟩ : ∃ Zs, szS (L.take k) = Zs := ⟨_, rfl⟩
        rw [hR] at hRl ⊢
        rw [hZs] at hzb ⊢
        have HR := Lib.hid hR
        have HZS := Lib.hid hZs
        clear hR hZs hEm k0 k1
        have hszr := hBr.size
        by_cases hlt : k < N
        · have bk : (0 : Int) ≤ (k : Int) ∧ (k : Int) < (N : Int) := by omega
          have hkL : k < L.length := by rw [HN.out]; exact hlt
          obtain ⟨outs, e1, e2, e3⟩ := HE47.out
          have hko : k < outs.length := by have := congrArg List.length e1; rw [List.length_map] at this; omega
          obtain ⟨ab, ao, rfl, hcs7⟩ := ev_cells (rdc_of_owns e2) k hko
          have hsem : outs[k].sem = L[k] := by simp [← e1]
          have hrdk := (e3 _ (List.getElem_mem hko)).below hBr
          have hpos := HNUM.out.pos k hkL
          have hver := HNUM.out.ver k hkL
          have hslb := HSLB.out _ (List.getElem_mem hkL)
          have hnt := (num_take L HNUM.out x.st k (by omega)).2
          have htk : L.take (k + 1) = L.take k ++ [L[k]] := List.take_succ_eq_append_getElem hkL
          obtain ⟨y, hy⟩ : ∃ y, outs[k] = y := ⟨_, rfl⟩
          rw [hy] at hcs7 hsem hrdk
          have hcs : ∀ j u, (y.cells)[j]? = some u → wr.cell? ⟨ab, ao + k * 6 + j, none⟩ = some u := fun j u hu => (hBr.cell (p := ⟨ab, ao + k * 6 + j, none⟩) (World.block_lt_of_cell? w7 _ (hcs7 j u hu))).trans (hcs7 j u hu)
          have HQ2 : Hid (w7.cell? ⟨ab, ao + k * 6 + 2, none⟩ = some (.int .i64 y.v)) := Lib.hid (hcs7 2 _ rfl)
          rw [← hsem] at hpos hver hslb htk
          have hpos' : y.p = (k : Int) + 1 := hpos
          have hver' : y.v = (cntS (L.take k) y.st : Int) + 1 := hver
          have hsn : y.sn ≤ 140737488351232 := by have h1 : y.sl.length ≤ 140737488351232 := hslb; have := hrdk.len; omega
          have hsz1 : szS (L.take (k + 1)) = Zs + y.sn := by rw [htk, szS_append, HZS.out, ← hrdk.len]; rfl
          have q0 : wr.cell? ⟨ab, ao + k * 6, none⟩ = some (.string y.st) := hcs 0 _ rfl
          have q1 : wr.cell? ⟨ab, ao + k * 6 + 1, none⟩ = some (.string y.su) := hcs 1 _ rfl
          have q2 : wr.cell? ⟨ab, ao + k * 6 + 2, none⟩ = some (.int .i64 y.v) := hcs 2 _ rfl
          have q3 : wr.cell? ⟨ab, ao + k * 6 + 3, none⟩ = some (.int .i64 y.p) := hcs 3 _ rfl
          have q4 : wr.cell? ⟨ab, ao + k * 6 + 4, none⟩ = some (.int .i64 y.u) := hcs 4 _ rfl
          have q5 : wr.cell? ⟨ab, ao + k * 6 + 5, none⟩ = some (.slice y.sa y.sn y.sc) := hcs 5 _ rfl
          have t5 : (y.p != (k : Int) + 1) = false := by simp [hpos']
          have HRDK := Lib.hid hrdk
          have HSZ1 := Lib.hid hsz1
          have HTK := Lib.hid htk
          have HVER := Lib.hid hver'
          have HNT := Lib.hid hnt
          clear e1 e2 e3 hcs hcs7 hsem hrdk hpos hver hslb hnt htk hy hpos' hver' hsz1 hkL hko
          have hNk : k + 1 ≤ 1000 := by omega
          by_cases he : y.st = x.st
          · have t6 : (y.st.toList == x.st.toList) = true := by rw [he]; simp
            have t7 : (y.v != (R : Int) + 1) = false := by
              have h1 := HVER.out
              have h2 := HNT.out
              rw [he] at h1
              rw [HR.out] at h2
              simp
              omega
            have HE := Lib.hid he
            clear he
            (repeat' ((fail_if_success at_builtin); first | go_values | go_skip | go_guarded | go_step | go_upon))
            go_quiet (fail)
            have hBq : Below w7.heap.size w7 (wr.drewN nq) := below_drewN' hBr nq
            have hBq0 : Below wr.heap.size wr (wr.drewN nq) := below_drewN' (Below.refl _ _) nq
            (repeat' ((fail_if_success at_builtin); first | (((with_reducible refine wpList_build_one rfl 26 54 _ rfl Try.underlying26 y.cells rfl iE zE HIE.out HZE.out (by rw [HSE.out, y.cells_length]) (by rw [y.cells_length];omega) (by rw [y.cells_length];omega) ?_); intro w8 hg8 hB8 hs8; have HG8 := Lib.hid hg8; clear hg8)) | go_values | go_skip | go_guarded | go_step | go_upon))
            have hE8 := HEM.out.below (hBq0.trans (hB8.mono hBq0.size))
            obtain ⟨ms, e1, e2, e3⟩ := hE8
            rw [HR.out] at e2
            refine wpList_app3 rfl _ _ _ _ rfl w7.heap.size 54 iE zE 6 80 Try.underlying26 HIE.out HZE.out HSE.out HBE.out (by rw [HCE.out];rfl) (.slice am R cm) R _ rfl e2 _ rfl 1 y.cells (src_of_rdc Try.underlying26 (rd_rowN HG8.out) rfl y.cells_oneCell) (by unfold maxLen;omega) (by omega) (Nat.le_trans hBq.size hB8.size) ?_
            intro v9 w9 hO9 hG9 hv9
            obtain ⟨a9, c9, rfl, hc9, _, _⟩ := owns_slice hO9
            have hB9 : Below w7.heap.size w7 w9 := (hBq.trans (hB8.mono hBq.size)).grown hG9 (Nat.le_trans hBq.size hB8.size) (fun k e => (e2.lt k e).1)
            have hrs : readS (L.take (k + 1)) x.st 1 = readS (L.take k) x.st 1 ++ [y.sem] := by rw [HTK.out, readS_one, if_pos ⟨HE.out, (by have := HVER.out; show (1 : Int) ≤ y.v; omega)⟩]
            have hrl : (readS (L.take (k + 1)) x.st 1).length = R + 1 := by rw [hrs, List.length_append, HR.out]; rfl
            have hy8 : y.Rd 0 w8 := (HRDK.out.of (Nat.zero_le _) (fun _ _ _ hb => hb)).below (hBq0.trans (hB8.mono hBq0.size))
            have hM9 : Mine w9 w7.heap.size a9 c9 (readS (L.take (k + 1)) x.st 1) := ⟨ms ++ [y], by rw [hrs, List.map_append, e1]; rfl, by rw [hrl, List.flatMap_append, List.flatMap_singleton]; exact hO9, fun u hu => by
              rcases List.mem_append.1 hu with hu | hu
              · exact (e3 u hu).ownNe e2 (by decide) hG9
              · rw [List.mem_singleton.1 hu]; exact hy8.ownNe e2 (by decide) hG9⟩
            have HM9 := Lib.hid hM9
            have q9 := (hB9.cell (p := ⟨ab, ao + k * 6 + 2, none⟩) (World.block_lt_of_cell? w7 _ HQ2.out)).trans HQ2.out
            have HRL := Lib.hid hrl
            clear hM9 hO9 hG9 hv9 hrs hrl hy8 e1 e2 e3
            (repeat' ((fail_if_success at_builtin); first | go_values | go_skip | go_guarded | go_step | go_upon))
            go_roundw
            case rel => exact ⟨k + 1, a9, c9, by rw [HRL.out], by rw [HSZ1.out]; simp, by simp, by omega, by rw [HSZ1.out]; omega, HM9.out, hB9⟩
            case measure => simp [intOf]; omega
          · have t6 : (y.st.toList == x.st.toList) = false := by rw [beq_eq_false_iff_ne]; exact fun e => he (tl_inj _ _ e)
            have HE := Lib.hid he
            clear he
            (repeat' ((fail_if_success at_builtin); first | go_values | go_skip | go_guarded | go_step | go_upon))
            go_quiet (fail)
            (repeat' ((fail_if_success at_builtin); first | go_values | go_skip | go_guarded | go_step | go_upon))
            go_roundw
            case rel =>
              have h1 : readS (L.take (k + 1)) x.st 1 = readS (L.take k) x.st 1 := by rw [HTK.out, readS_one, if_neg (fun hh => HE.out hh.1), List.append_nil]
              exact ⟨k + 1, am, cm, by rw [h1, HR.out], by rw [HSZ1.out]; simp, by simp, by omega, by rw [HSZ1.out]; omega, by rw [h1]; exact HEM.out.below (below_drewN' (Below.refl _ _) nq), below_drewN' hBr nq⟩
            case measure => simp [intOf]; omega
        · obtain rfl : k = N := by omega
          have hLk : L.take k = L := by rw [← HN.out, List.take_length]
          have h1 := HR.out
          have h2 := HZS.out
          have h3 := HEM.out
          rw [hLk] at h1 h2 h3
          have hcn := num_len HNUM.out x.st
          rw [h1] at hcn
          have hML : ∀ e ∈ readS L x.st 1, e.sl.length ≤ 140737488351232 := fun e he => HSLB.out e (List.mem_filter.1 he).1
          have H1 := Lib.hid h1
          have H2 := Lib.hid h2
          have H3 := Lib.hid h3
          have HCN := Lib.hid hcn
          have HML := Lib.hid hML
          have HSr := Lib.hid (HS7.out.below hBr)
          clear h1 h2 h3 hcn hML hLk HS7
          (repeat' ((fail_if_success at_builtin); first | go_values | go_skip | go_guarded | go_step | go_upon))
          refine (sizeS HSr.out x.t hxt).mono ?_
          rintro _ wa ⟨rfl, hBa⟩
          rw [HL.out, H2.out]
          have HSa := Lib.hid (HSr.out.below hBa)
          have hB0a : Below w.heap.size w wa := hB0r.trans (hBa.mono hB0r.size)
          have s0 := (hBa.cell (p := ⟨z, 0, none⟩) hzlr).trans r0
          have s1 := (hBa.cell (p := ⟨z, 1, none⟩) hzlr).trans r1
          have hzla := Nat.lt_of_lt_of_le hzlr hBa.size
          have H3a := Lib.hid (H3.out.below hBa)
          clear HSr r0 r1
          dsimp only
          (repeat' ((fail_if_success at_builtin); first | go_values | go_skip | go_guarded | go_step | go_upon))
          refine (versionS HSa.out x.t x.st hxt hxst).mono ?_
          rintro _ wb ⟨rfl, hBb⟩
          rw [HL.out, ← HCN.out]
          have HSb := Lib.hid (HSa.out.below hBb)
          have hB0b : Below w.heap.size w wb := hB0a.trans (hBb.mono hB0a.size)
          have u0 := (hBb.cell (p := ⟨z, 0, none⟩) hzla).trans s0
          have u1 := (hBb.cell (p := ⟨z, 1, none⟩) hzla).trans s1
          have H3b := Lib.hid (H3a.out.below hBb)
          clear HSa s0 s1
          dsimp only
          (repeat' ((fail_if_success at_builtin); first | go_values | go_skip | go_guarded | go_step | go_upon))
          refine (wholeRead HSb.out x.t x.st T hxt hxst hT1.1 hT1.2).mono ?_
          rw [HL.out, H1.out]
          rintro _ wc ⟨ac, cc, rfl, hcc, hEc, hBc⟩
          have hB0c : Below w.heap.size w wc := hB0b.trans (hBc.mono hB0b.size)
          have hsm := same_evs (H3b.out.below hBc).evs hEc HML.out (by rw [H1.out]; omega)
          rw [H1.out] at hsm
          have HSM := Lib.hid hsm
          clear hsm hEc
          dsimp only
          (repeat' ((fail_if_success at_builtin); first | go_values | go_skip | go_guarded | go_step | go_upon))
          refine HSM.out.mono ?_
          rintro _ wd ⟨rfl, hBd⟩
          have hB0d : Below w.heap.size w wd := hB0c.trans (hBd.mono hB0c.size)
          dsimp only
          (repeat' ((fail_if_success at_builtin); first | go_values | go_skip | go_guarded | go_step | go_upon))
          refine (known18 wd).mono ?_
          rintro _ we ⟨rfl, hBe⟩
          dsimp only
          (repeat' ((fail_if_success at_builtin); first | go_values | go_skip | go_guarded | go_step | go_upon))
          go_ret
          exact ⟨rfl, hB0d.trans (hBe.mono hB0d.size)⟩

end Go.Proofs.Ythgaghpakioglaa
