/- StreamsApart, walked. -/
import Derived.Test.YthgaghpakioglaaBig18
import Derived.Test.YthgaghpakioglaaWho18
import Derived.Test.YthgaghpakioglaaKn18
namespace Go.Proofs.Ythgaghpakioglaa
open Go.RowKit
set_option linter.unusedSimpArgs false
set_option linter.unusedVariables false
set_option maxRecDepth 10000
--@PUT2

theorem step_same (s : ByteArray) (o : Op18) (φ ψ : ByteArray → List EvS) (h : φ s = ψ s) (e : o.t = s) : stepS φ o s = stepS ψ o s := by
  unfold stepS
  rw [e, h]
  by_cases hb : (ψ s).length + o.sn ≤ 1000
  · rw [if_pos hb, if_pos hb]; unfold putS; rw [if_pos rfl, if_pos rfl, h]
  · rw [if_neg hb, if_neg hb]; exact h
theorem step_other (s : ByteArray) (o : Op18) (ψ : ByteArray → List EvS) (e : o.t ≠ s) : stepS ψ o s = ψ s := by
  unfold stepS
  split
  · unfold putS; rw [if_neg (fun h => e h.symm)]
  · rfl
theorem fold_apart (s : ByteArray) : ∀ (os : List Op18) (φ ψ : ByteArray → List EvS), φ s = ψ s → (os.filter fun o => decide (o.t = s)).foldl stepS φ s = os.foldl stepS ψ s
  | [], φ, ψ, h => h
  | o :: r, φ, ψ, h => by
    by_cases e : o.t = s
    · rw [List.filter_cons_of_pos (by simpa using e), List.foldl_cons, List.foldl_cons]
      exact fold_apart s r _ _ (step_same s o φ ψ h e)
    · rw [List.filter_cons_of_neg (by simpa using e), List.foldl_cons]
      exact fold_apart s r _ _ (h.trans (step_other s o ψ e).symm)
theorem lay_apart (s : ByteArray) (os : List Op18) : layS (os.filter fun o => decide (o.t = s)) s = layS os s := fold_apart s os _ _ rfl
theorem StrS.slb {w : World} {F : Nat → Prop} {g cnt : Nat} {φ : ByteArray → List EvS} (h : StrS w F g cnt φ) (s : ByteArray) : ∀ e ∈ φ s, e.sl.length ≤ 140737488351232 := by
  obtain ⟨S, f, h1, h2⟩ := h.out
  rw [← h2]
  intro e he
  obtain ⟨x, hx, rfl⟩ := List.mem_map.1 he
  obtain ⟨b, n, fm, hX⟩ := h1.x
  cases hf : fm s with
  | none => rw [hX.2.none_ s hf] at hx; cases hx
  | some v =>
    obtain ⟨tb, _, ht⟩ := hX.2.some_ s v hf
    have h3 := (ht.ok.num x hx).2
    have h4 := (ht.rd x hx).1.len
    show x.sl.length ≤ _
    omega
def zOp : Op18 := ⟨ByteArray.empty, ByteArray.empty, ByteArray.empty, 0, none, 0, 0, [], 0, 0⟩
theorem opInfo : (Try.prog.info? 39).map (fun i => (i.zero.map (·.cells), i.size, i.bytes)) = some (some zOp.cells.toArray, 7, 96) := by kernel_rfl
theorem opInfo_parts : ∃ i z, Try.prog.info? 39 = some i ∧ i.zero = some z ∧ i.size = 7 ∧ i.bytes = 96 ∧ z.cells = zOp.cells.toArray := by
  have h := opInfo
  cases hi : Try.prog.info? 39 with
  | none => rw [hi] at h; cases h
  | some i =>
    rw [hi] at h
    simp only [Option.map_some, Option.some.injEq, Prod.mk.injEq] at h
    obtain ⟨h1, h2, h3⟩ := h
    cases hz : i.zero with
    | none => rw [hz] at h1; cases h1
    | some z => rw [hz] at h1; simp only [Option.map_some, Option.some.injEq] at h1; exact ⟨i, z, rfl, hz, h2, h3, h1⟩
theorem Op18.cells_oneCell (o : Op18) : ∀ v ∈ o.cells, v.oneCell' = true := by
  intro v hv
  simp [Op18.cells] at hv
  rcases hv with rfl | rfl | rfl | rfl | rfl | rfl | rfl <;> rfl

/-- SameEvents of rows that say the same. -/
theorem same_evs {w : World} {b1 b2 : Nat} {a1 a2 : Option Addr} {c1 c2 : Nat} {L : List EvS} (h1 : Evs w b1 a1 c1 L) (h2 : Evs w b2 a2 c2 L) (hb : ∀ e ∈ L, e.sl.length ≤ 140737488351232) (hl : L.length ≤ 1000) :
    Calls Try.prog 18 #[.slice a1 L.length c1, .slice a2 L.length c2] w fun e w' => e = .returned (.bool true) ∧ Below w.heap.size w w' := by
  obtain ⟨xs, e1, e2, e3⟩ := h1
  obtain ⟨ys, f1, f2, f3⟩ := h2
  refine (sameEvents18 xs ys a1 a2 L.length L.length c1 c2 w (rdc_of_owns e2) (by rw [← e1, List.length_map]) (fun x hx => ⟨(e3 x hx).of (Nat.zero_le _) (fun _ _ _ hb => hb), ?_⟩) (rdc_of_owns f2) (by rw [← f1, List.length_map]) (fun y hy => (f3 y hy).of (Nat.zero_le _) (fun _ _ _ hb => hb)) (by omega) (by omega)).mono ?_
  · have h := hb x.sem (by rw [← e1]; exact List.mem_map.2 ⟨x, hx, rfl⟩)
    have h4 := (e3 x hx).len
    have h5 : x.sem.sl.length = x.sl.length := rfl
    omega
  · rintro e w' ⟨bb, rfl, hbb, hB⟩
    exact ⟨by rw [hbb.2 (by rw [e1, f1])], hB⟩

set_option maxHeartbeats 8000000 in
theorem streamsApart_walk (a : Option Addr) (n c : Nat) (os : List Op18) (s : ByteArray) (w : World) (h : Ops18 w a os) (hl : os.length = n) (hn : n ≤ 9223372036854775807) (hs : s.size ≤ maxLen) :
    Calls Try.prog 4 #[.slice a n c, .string s] w fun e w' => e = .returned (.bool true) ∧ Below w.heap.size w w' := by
  have HO := Lib.hid h
  clear h
  go_enter Try.func4, Try.ntmps4
  (repeat' ((fail_if_success at_builtin); first | go_values | go_skip | go_guarded | go_step | go_upon))
  refine (bigOps a n c os w HO.out hl hn).mono ?_
  rintro _ w1 ⟨⟨b, rfl⟩, d, rfl⟩
  have hB1 : Below w.heap.size w (w.drewN d) := below_drewN' (Below.refl _ _) d
  generalize w.drewN d = w1 at *
  dsimp only
  cases b with
  | true =>
    (repeat' ((fail_if_success at_builtin); first | go_values | go_skip | go_guarded | go_step | go_upon))
    refine (known18 w1).mono ?_
    rintro _ w2 ⟨rfl, hB2⟩
    dsimp only
    (repeat' ((fail_if_success at_builtin); first | go_values | go_skip | go_guarded | go_step | go_upon))
    go_ret
    exact ⟨rfl, hB1.trans (hB2.mono hB1.size)⟩
  | false =>
    (repeat' ((fail_if_success at_builtin); first | go_values | go_skip | go_guarded | go_step | go_upon))
    refine (laidOps a n c os w1 (HO.out.below hB1 (Nat.le_refl _)) hl hn).mono ?_
    rintro _ w2 ⟨g, k1, rfl, hk1, htk1, F1, hS1, hF1, hB2⟩
    rw [htk1] at hS1
    have HS1 := Lib.hid hS1
    have hB02 : Below w.heap.size w w2 := hB1.trans (hB2.mono hB1.size)
    clear hS1 hF1 htk1
    obtain ⟨iO, zO, hiO, hzO, hsO, hbO, hcO⟩ := opInfo_parts
    have HIO := Lib.hid hiO
    have HZO := Lib.hid hzO
    have HSO := Lib.hid hsO
    have HBO := Lib.hid hbO
    have HCO := Lib.hid hcO
    clear hiO hzO hsO hbO hcO
    dsimp only
    (repeat' ((fail_if_success at_builtin); first | go_values | go_skip | go_guarded | go_step | go_upon))
    go_loopw [6, 7] (fun o i wr => ∃ (k : Nat) (ax : Option Addr) (cx : Nat), o = .slice ax ((os.take k).filter fun o => decide (o.t = s)).length cx ∧ i = .int .i64 (k : Int) ∧ k ≤ n ∧ k ≤ 100 ∧ wr.ownsRow w2.heap.size 39 7 (.slice ax ((os.take k).filter fun o => decide (o.t = s)).length cx) ((os.take k).filter fun o => decide (o.t = s)).length (((os.take k).filter fun o => decide (o.t = s)).flatMap Op18.cells) ∧ Below w2.heap.size w2 wr) (fun _ i _ => 100 - (intOf i).toNat)
    case atStart => exact ⟨0, none, 0, rfl, rfl, Nat.zero_le _, Nat.zero_le _, World.ownsRow_nil _ _ _ _, Below.refl _ _⟩
    case round =>
      obtain ⟨k, ax, cx, rfl, rfl, hkn, hk, hown, hBr⟩ := hrel
      obtain ⟨X, hX⟩ : ∃ X, ((os.take k).filter fun o => decide (o.t = s)) = X := ⟨_, rfl⟩
      rw [hX] at hown ⊢
      have hXl : X.length ≤ k := by rw [← hX]; refine Nat.le_trans (List.length_filter_le _ _) ?_; rw [List.length_take]; omega
      have HXE := Lib.hid hX
      have HOWN := Lib.hid hown
      clear hX hown
      have hB0r : Below w.heap.size w wr := hB02.trans (hBr.mono hB02.size)
      obtain ⟨Z, hZ⟩ : ∃ Z, X.length = Z := ⟨_, rfl⟩
      rw [hZ] at hXl ⊢
      have HZ := Lib.hid hZ
      clear hZ
      by_cases h1 : k < n
      · have t1 : decide ((k : Int) < (n : Int)) = true := by rw [decide_eq_true_eq]; omega
        by_cases h2 : k < 100
        · have t2 : decide ((k : Int) < 100) = true := by rw [decide_eq_true_eq]; omega
          have bk : (0 : Int) ≤ (k : Int) ∧ (k : Int) < (n : Int) := by omega
          have hkl : k < os.length := by omega
          obtain ⟨ob, oo, rfl, hc⟩ := (HO.out.below hB0r (Nat.le_refl _)).at_ k hkl
          have htk : (os.take (k + 1)).filter (fun o => decide (o.t = s)) = X ++ (if os[k].t = s then [os[k]] else []) := by
            rw [List.take_succ_eq_append_getElem hkl, List.filter_append, HXE.out]
            congr 1
            by_cases e : os[k].t = s <;> simp [e]
          obtain ⟨x, hx⟩ : ∃ x, os[k] = x := ⟨_, rfl⟩
          rw [hx] at hc htk
          have q0 : wr.cell? ⟨ob, oo + k * 7, none⟩ = some (.string x.t) := hc 0 _ rfl
          have q1 : wr.cell? ⟨ob, oo + k * 7 + 1, none⟩ = some (.string x.st) := hc 1 _ rfl
          have q2 : wr.cell? ⟨ob, oo + k * 7 + 2, none⟩ = some (.string x.su) := hc 2 _ rfl
          have q3 : wr.cell? ⟨ob, oo + k * 7 + 3, none⟩ = some (.int .i64 x.us) := hc 3 _ rfl
          have q4 : wr.cell? ⟨ob, oo + k * 7 + 4, none⟩ = some (.slice x.sa x.sn x.sc) := hc 4 _ rfl
          have q5 : wr.cell? ⟨ob, oo + k * 7 + 5, none⟩ = some (.int .i64 x.fr) := hc 5 _ rfl
          have q6 : wr.cell? ⟨ob, oo + k * 7 + 6, none⟩ = some (.int .i64 x.n) := hc 6 _ rfl
          have HTK := Lib.hid htk
          clear hc htk hx
          by_cases he : x.t = s
          · have t3 : (x.t.toList == s.toList) = true := by rw [he]; simp
            have HE := Lib.hid he
            clear he
            (repeat' ((fail_if_success at_builtin); first | (((with_reducible refine wpList_build_one rfl 35 39 _ rfl Try.underlying35 x.cells rfl iO zO HIO.out HZO.out (by rw [HSO.out, x.cells_length]) (by rw [x.cells_length];omega) (by rw [x.cells_length];omega) ?_); intro w6 hg6 hB6 hs6; have HG6 := Lib.hid hg6; clear hg6)) | go_values | go_skip | go_guarded | go_step | go_upon))
            have hown2 := HOWN.out
            rw [HZ.out] at hown2
            refine wpList_app3 rfl _ _ _ _ rfl w2.heap.size 39 iO zO 7 96 Try.underlying35 HIO.out HZO.out HSO.out HBO.out (by rw [HCO.out];rfl) (.slice ax Z cx) Z _ rfl (owns_below hown2 hB6 (Nat.le_refl _)) _ rfl 1 x.cells (src_of_rdc Try.underlying35 (rd_rowN HG6.out) rfl x.cells_oneCell) (by unfold maxLen;omega) (by omega) (Nat.le_trans hBr.size hB6.size) ?_
            intro v7 w7 hO7 hG7 hv7
            obtain ⟨a7, c7, rfl, hc7, _, _⟩ := owns_slice hO7
            have hB7 : Below w2.heap.size w2 w7 := (hBr.trans (hB6.mono hBr.size)).grown hG7 (Nat.le_trans hBr.size hB6.size) (fun k e => (hown2.lt k e).1)
            have HO7 := Lib.hid hO7
            clear hO7 hG7 hv7 hown2
            (repeat' ((fail_if_success at_builtin); first | go_values | go_skip | go_guarded | go_step | go_upon))
            go_roundw
            case rel =>
              have h9 := HTK.out
              rw [if_pos HE.out] at h9
              exact ⟨k + 1, a7, c7, by rw [h9, List.length_append, HZ.out]; rfl, by simp, by omega, by omega, by rw [h9, List.flatMap_append, List.flatMap_singleton, List.length_append, HZ.out]; exact HO7.out, hB7⟩
            case measure => simp [intOf]; omega
          · have t3 : (x.t.toList == s.toList) = false := by rw [beq_eq_false_iff_ne]; exact fun e => he (tl_inj _ _ e)
            have HE := Lib.hid he
            clear he
            (repeat' ((fail_if_success at_builtin); first | go_values | go_skip | go_guarded | go_step | go_upon))
            go_roundw
            case rel =>
              have h9 := HTK.out
              rw [if_neg HE.out, List.append_nil] at h9
              exact ⟨k + 1, ax, cx, by rw [h9, HZ.out], by simp, by omega, by omega, by rw [h9]; exact HOWN.out, hBr⟩
            case measure => simp [intOf]; omega
        · have t2 : decide ((k : Int) < 100) = false := by rw [decide_eq_false_iff_not]; omega
          have hfin : os.take k = os.take 100 := by rw [show k = 100 by omega]
          have hx100 : X.length ≤ 100 := by rw [HZ.out]; omega
          have hXE := HXE.out
          rw [hfin] at hXE
          have hown2 := HOWN.out
          have hOX : Ops18 wr ax X := ⟨rdc_of_owns hown2, fun o ho => (HO.out.ok o (by rw [← hXE] at ho; exact List.mem_of_mem_take (List.mem_filter.1 ho).1)).below hB0r (Nat.le_refl _)⟩
          have HOX := Lib.hid hOX
          have HXE2 := Lib.hid hXE
          clear hown2 hOX hXE HXE hfin
          (repeat' ((fail_if_success at_builtin); first | go_values | go_skip | go_guarded | go_step | go_upon))
          refine (laidOps ax Z cx X wr HOX.out HZ.out (by omega)).mono ?_
          rintro _ w4 ⟨g2, k2, rfl, hk2, htk2, F2, hS2, hF2, hB4⟩
          rw [htk2, List.take_of_length_le hx100] at hS2
          have hap : layS X s = layS (os.take 100) s := by rw [← HXE2.out]; exact lay_apart s _
          have hS1 := HS1.out.below (hBr.trans (hB4.mono hBr.size))
          have hB04 : Below w.heap.size w w4 := hB0r.trans (hB4.mono hB0r.size)
          have hlen := hS1.len s
          have hslb := hS1.slb s
          obtain ⟨L, hL⟩ : ∃ L, layS (os.take 100) s = L := ⟨_, rfl⟩
          rw [hL] at hap hlen hslb
          have HL := Lib.hid hL
          have HAP := Lib.hid hap
          have HS14 := Lib.hid hS1
          have HS24 := Lib.hid hS2
          have HSLB := Lib.hid hslb
          clear hL hap hS1 hS2 hF2 htk2 hslb HOX HXE2
          dsimp only
          (repeat' ((fail_if_success at_builtin); first | go_values | go_skip | go_guarded | go_step | go_upon))
          refine (wholeAll HS14.out s ⟨#[]⟩ 64 hs (by omega) (by omega)).mono ?_
          rw [HL.out]
          rintro _ w5 ⟨a5, c5, rfl, hc5, hE5, hB5⟩
          have HE5 := Lib.hid hE5
          have HS15 := Lib.hid (HS14.out.below hB5)
          have HS25 := Lib.hid (HS24.out.below hB5)
          have hB05 : Below w.heap.size w w5 := hB04.trans (hB5.mono hB04.size)
          clear hE5 HS14 HS24
          obtain ⟨N, hN⟩ : ∃ N, L.length = N := ⟨_, rfl⟩
          rw [hN] at hc5 ⊢
          have HN := Lib.hid hN
          clear hN
          dsimp only
          (repeat' ((fail_if_success at_builtin); first | go_values | go_skip | go_guarded | go_step | go_upon))
          refine (wholeAll HS25.out s ⟨#[]⟩ 64 hs (by omega) (by omega)).mono ?_
          rw [HAP.out, HN.out]
          rintro _ w6 ⟨a6, c6, rfl, hc6, hE6, hB6⟩
          have HE56 := Lib.hid (HE5.out.below hB6)
          have HE6 := Lib.hid hE6
          have HS16 := Lib.hid (HS15.out.below hB6)
          have HS26 := Lib.hid (HS25.out.below hB6)
          have hB06 : Below w.heap.size w w6 := hB05.trans (hB6.mono hB05.size)
          clear hE6 HS15 HS25
          dsimp only
          (repeat' ((fail_if_success at_builtin); first | go_values | go_skip | go_guarded | go_step | go_upon))
          have hsm := same_evs HE56.out HE6.out HSLB.out hlen
          rw [HN.out] at hsm
          refine hsm.mono ?_
          rintro _ w7 ⟨rfl, hB7⟩
          have HS17 := Lib.hid (HS16.out.below hB7)
          have HS27 := Lib.hid (HS26.out.below hB7)
          have hB07 : Below w.heap.size w w7 := hB06.trans (hB7.mono hB06.size)
          clear hsm HS16 HS26
          dsimp only
          (repeat' ((fail_if_success at_builtin); first | go_values | go_skip | go_guarded | go_step | go_upon))
          refine (namesSS HS17.out s hs).mono ?_
          rintro _ w8 ⟨rfl, hB8⟩
          rw [HL.out]
          have HS18 := Lib.hid (HS17.out.below hB8)
          have HS28 := Lib.hid (HS27.out.below hB8)
          have hB08 : Below w.heap.size w w8 := hB07.trans (hB8.mono hB07.size)
          clear HS17 HS27
          dsimp only
          (repeat' ((fail_if_success at_builtin); first | go_values | go_skip | go_guarded | go_step | go_upon))
          refine (namesSS HS28.out s hs).mono ?_
          rintro _ w9 ⟨rfl, hB9⟩
          rw [HAP.out]
          have HS19 := Lib.hid (HS18.out.below hB9)
          have HS29 := Lib.hid (HS28.out.below hB9)
          have hB09 : Below w.heap.size w w9 := hB08.trans (hB9.mono hB08.size)
          clear HS18 HS28
          dsimp only
          (repeat' ((fail_if_success at_builtin); first | go_values | go_skip | go_guarded | go_step | go_upon))
          refine (sizeS HS19.out s hs).mono ?_
          rintro _ wa ⟨rfl, hBa⟩
          rw [HL.out]
          have HS2a := Lib.hid (HS29.out.below hBa)
          have hB0a : Below w.heap.size w wa := hB09.trans (hBa.mono hB09.size)
          clear HS19 HS29
          dsimp only
          (repeat' ((fail_if_success at_builtin); first | go_values | go_skip | go_guarded | go_step | go_upon))
          refine (sizeS HS2a.out s hs).mono ?_
          rintro _ wb ⟨rfl, hBb⟩
          rw [HAP.out]
          have hB0b : Below w.heap.size w wb := hB0a.trans (hBb.mono hB0a.size)
          dsimp only
          (repeat' ((fail_if_success at_builtin); first | go_values | go_skip | go_guarded | go_step | go_upon))
          refine (known18 wb).mono ?_
          rintro _ wc ⟨rfl, hBc⟩
          dsimp only
          (repeat' ((fail_if_success at_builtin); first | go_values | go_skip | go_guarded | go_step | go_upon))
          go_ret
          exact ⟨rfl, hB0b.trans (hBc.mono hB0b.size)⟩
      · have t1 : decide ((k : Int) < (n : Int)) = false := by rw [decide_eq_false_iff_not]; omega
        have hfin : os.take k = os.take 100 := by rw [List.take_of_length_le (by omega), List.take_of_length_le (by omega)]
        have hx100 : X.length ≤ 100 := by rw [HZ.out]; omega
        have hXE := HXE.out
        rw [hfin] at hXE
        have hown2 := HOWN.out
        have hOX : Ops18 wr ax X := ⟨rdc_of_owns hown2, fun o ho => (HO.out.ok o (by rw [← hXE] at ho; exact List.mem_of_mem_take (List.mem_filter.1 ho).1)).below hB0r (Nat.le_refl _)⟩
        have HOX := Lib.hid hOX
        have HXE2 := Lib.hid hXE
        clear hown2 hOX hXE HXE hfin
        (repeat' ((fail_if_success at_builtin); first | go_values | go_skip | go_guarded | go_step | go_upon))
        refine (laidOps ax Z cx X wr HOX.out HZ.out (by omega)).mono ?_
        rintro _ w4 ⟨g2, k2, rfl, hk2, htk2, F2, hS2, hF2, hB4⟩
        rw [htk2, List.take_of_length_le hx100] at hS2
        have hap : layS X s = layS (os.take 100) s := by rw [← HXE2.out]; exact lay_apart s _
        have hS1 := HS1.out.below (hBr.trans (hB4.mono hBr.size))
        have hB04 : Below w.heap.size w w4 := hB0r.trans (hB4.mono hB0r.size)
        have hlen := hS1.len s
        have hslb := hS1.slb s
        obtain ⟨L, hL⟩ : ∃ L, layS (os.take 100) s = L := ⟨_, rfl⟩
        rw [hL] at hap hlen hslb
        have HL := Lib.hid hL
        have HAP := Lib.hid hap
        have HS14 := Lib.hid hS1
        have HS24 := Lib.hid hS2
        have HSLB := Lib.hid hslb
        clear hL hap hS1 hS2 hF2 htk2 hslb HOX HXE2
        dsimp only
        (repeat' ((fail_if_success at_builtin); first | go_values | go_skip | go_guarded | go_step | go_upon))
        refine (wholeAll HS14.out s ⟨#[]⟩ 64 hs (by omega) (by omega)).mono ?_
        rw [HL.out]
        rintro _ w5 ⟨a5, c5, rfl, hc5, hE5, hB5⟩
        have HE5 := Lib.hid hE5
        have HS15 := Lib.hid (HS14.out.below hB5)
        have HS25 := Lib.hid (HS24.out.below hB5)
        have hB05 : Below w.heap.size w w5 := hB04.trans (hB5.mono hB04.size)
        clear hE5 HS14 HS24
        obtain ⟨N, hN⟩ : ∃ N, L.length = N := ⟨_, rfl⟩
        rw [hN] at hc5 ⊢
        have HN := Lib.hid hN
        clear hN
        dsimp only
        (repeat' ((fail_if_success at_builtin); first | go_values | go_skip | go_guarded | go_step | go_upon))
        refine (wholeAll HS25.out s ⟨#[]⟩ 64 hs (by omega) (by omega)).mono ?_
        rw [HAP.out, HN.out]
        rintro _ w6 ⟨a6, c6, rfl, hc6, hE6, hB6⟩
        have HE56 := Lib.hid (HE5.out.below hB6)
        have HE6 := Lib.hid hE6
        have HS16 := Lib.hid (HS15.out.below hB6)
        have HS26 := Lib.hid (HS25.out.below hB6)
        have hB06 : Below w.heap.size w w6 := hB05.trans (hB6.mono hB05.size)
        clear hE6 HS15 HS25
        dsimp only
        (repeat' ((fail_if_success at_builtin); first | go_values | go_skip | go_guarded | go_step | go_upon))
        have hsm := same_evs HE56.out HE6.out HSLB.out hlen
        rw [HN.out] at hsm
        refine hsm.mono ?_
        rintro _ w7 ⟨rfl, hB7⟩
        have HS17 := Lib.hid (HS16.out.below hB7)
        have HS27 := Lib.hid (HS26.out.below hB7)
        have hB07 : Below w.heap.size w w7 := hB06.trans (hB7.mono hB06.size)
        clear hsm HS16 HS26
        dsimp only
        (repeat' ((fail_if_success at_builtin); first | go_values | go_skip | go_guarded | go_step | go_upon))
        refine (namesSS HS17.out s hs).mono ?_
        rintro _ w8 ⟨rfl, hB8⟩
        rw [HL.out]
        have HS18 := Lib.hid (HS17.out.below hB8)
        have HS28 := Lib.hid (HS27.out.below hB8)
        have hB08 : Below w.heap.size w w8 := hB07.trans (hB8.mono hB07.size)
        clear HS17 HS27
        dsimp only
        (repeat' ((fail_if_success at_builtin); first | go_values | go_skip | go_guarded | go_step | go_upon))
        refine (namesSS HS28.out s hs).mono ?_
        rintro _ w9 ⟨rfl, hB9⟩
        rw [HAP.out]
        have HS19 := Lib.hid (HS18.out.below hB9)
        have HS29 := Lib.hid (HS28.out.below hB9)
        have hB09 : Below w.heap.size w w9 := hB08.trans (hB9.mono hB08.size)
        clear HS18 HS28
        dsimp only
        (repeat' ((fail_if_success at_builtin); first | go_values | go_skip | go_guarded | go_step | go_upon))
        refine (sizeS HS19.out s hs).mono ?_
        rintro _ wa ⟨rfl, hBa⟩
        rw [HL.out]
        have HS2a := Lib.hid (HS29.out.below hBa)
        have hB0a : Below w.heap.size w wa := hB09.trans (hBa.mono hB09.size)
        clear HS19 HS29
        dsimp only
        (repeat' ((fail_if_success at_builtin); first | go_values | go_skip | go_guarded | go_step | go_upon))
        refine (sizeS HS2a.out s hs).mono ?_
        rintro _ wb ⟨rfl, hBb⟩
        rw [HAP.out]
        have hB0b : Below w.heap.size w wb := hB0a.trans (hBb.mono hB0a.size)
        dsimp only
        (repeat' ((fail_if_success at_builtin); first | go_values | go_skip | go_guarded | go_step | go_upon))
        refine (known18 wb).mono ?_
        rintro _ wc ⟨rfl, hBc⟩
        dsimp only
        (repeat' ((fail_if_success at_builtin); first | go_values | go_skip | go_guarded | go_step | go_upon))
        go_ret
        exact ⟨rfl, hB0b.trans (hBc.mono hB0b.size)⟩

end Go.Proofs.Ythgaghpakioglaa
