/- The law DrawsSeam, walked. -/
import Derived.Test.YtdpfemhfmofmlaaDoorDrawsS
import Derived.Test.YtdpfemhfmofmlaaDoorBack
namespace Go.Proofs.YtdpfemhfmofmlaaDoor
set_option linter.unusedSimpArgs false
set_option linter.unusedVariables false
open Go.RowKit
set_option maxRecDepth 10000

theorem drawn_cut (t s : ByteArray) (v : Int) : drawn t s v = be8 t.size ++ t.data.toList ++ (be8 s.size ++ s.data.toList ++ be8 v) := by
  rw [drawn_eq]; simp only [List.append_assoc]
theorem barr_inj {t t' : ByteArray} (h : t.data.toList = t'.data.toList) : t = t' := by
  cases t; cases t'
  simp at h
  simp [h]
theorem str_ne {a b : ByteArray} (h : ¬ a = b) : (a.toList == b.toList) = false := by
  rw [ByteArray.toList_eq, ByteArray.toList_eq]
  simp only [beq_eq_false_iff_ne, ne_eq]
  exact fun h2 => h (barr_inj h2)
theorem drawn_inj {t s t' s' : ByteArray} {v v' : Int} (ht : t.size ≤ 512) (hs : s.size ≤ 512) (ht' : t'.size ≤ 512) (hs' : s'.size ≤ 512) (hv : -9223372036854775808 ≤ v ∧ v ≤ 9223372036854775807) (hv' : -9223372036854775808 ≤ v' ∧ v' ≤ 9223372036854775807)
    (h : drawn t s v = drawn t' s' v') : t = t' ∧ s = s' ∧ v = v' := by
  rw [drawn_cut, drawn_cut] at h
  have h1 := congrArg (fun l => rsBlob 512 l 0) h
  try dsimp only at h1
  rw [text_back 512 t _ (by omega) (by decide), text_back 512 t' _ (by omega) (by decide)] at h1
  have h2 := congrArg (fun r => rsBlob 512 r.2.1 0) h1
  try dsimp only at h2
  rw [text_back 512 s _ (by omega) (by decide), text_back 512 s' _ (by omega) (by decide)] at h2
  have h3 := congrArg (fun r => rsInt (r.2.1 ++ []) 0) h2
  try dsimp only at h3
  rw [rsInt_be8 v [] hv, rsInt_be8 v' [] hv'] at h3
  exact ⟨barr_inj (congrArg (fun r => r.1) h1), barr_inj (congrArg (fun r => r.1) h2), congrArg (fun r => r.1) h3⟩

/-- What stays while the last row of DrawsSeam is worked out. -/
abbrev SeamS (w : World) (z1 z2 : Nat) (xa ya : Option Addr) (xn xc yn yc : Nat) (xt xs yt ys : ByteArray) (xv yv : Int) (w' : World) : Prop :=
  ((w'.rangeAt z1 0 [.slice xa xn xc, .string xt, .string xs, .int .i64 xv] ∧ w'.rangeAt z2 0 [.slice ya yn yc, .string yt, .string ys, .int .i64 yv]) ∧
   (w'.cell? ⟨z1, 0, none⟩ = some (.slice xa xn xc) ∧ w'.cell? ⟨z1, 1, none⟩ = some (.string xt) ∧ w'.cell? ⟨z1, 2, none⟩ = some (.string xs) ∧ w'.cell? ⟨z1, 3, none⟩ = some (.int .i64 xv)) ∧
   (w'.cell? ⟨z2, 1, none⟩ = some (.string yt) ∧ w'.cell? ⟨z2, 2, none⟩ = some (.string ys) ∧ w'.cell? ⟨z2, 3, none⟩ = some (.int .i64 yv))) ∧ (Tabs w' ∧ Below w.heap.size w w')
theorem seam_below {w w1 w2 : World} {z1 z2 : Nat} {xa ya : Option Addr} {xn xc yn yc : Nat} {xt xs yt ys : ByteArray} {xv yv : Int} (hb : Below w1.heap.size w1 w2) (h : SeamS w z1 z2 xa ya xn xc yn yc xt xs yt ys xv yv w1) : SeamS w z1 z2 xa ya xn xc yn yc xt xs yt ys xv yv w2 :=
  ⟨⟨⟨rangeAt_below h.1.1.1 hb (Nat.le_refl _), rangeAt_below h.1.1.2 hb (Nat.le_refl _)⟩, ⟨cell_below hb h.1.2.1.1 (Nat.le_refl _), cell_below hb h.1.2.1.2.1 (Nat.le_refl _), cell_below hb h.1.2.1.2.2.1 (Nat.le_refl _), cell_below hb h.1.2.1.2.2.2 (Nat.le_refl _)⟩,
    ⟨cell_below hb h.1.2.2.1 (Nat.le_refl _), cell_below hb h.1.2.2.2.1 (Nat.le_refl _), cell_below hb h.1.2.2.2.2 (Nat.le_refl _)⟩⟩, h.2.1.below hb h.2.1.size, h.2.2.trans (hb.mono h.2.2.size)⟩
theorem seam_of {w w' : World} {z1 z2 : Nat} {xa ya : Option Addr} {xn xc yn yc : Nat} {xt xs yt ys : ByteArray} {xv yv : Int} (h1 : w'.heap[z1]? = some (.cells #[.slice xa xn xc, .string xt, .string xs, .int .i64 xv] 56 (0, 0)))
    (h2 : w'.heap[z2]? = some (.cells #[.slice ya yn yc, .string yt, .string ys, .int .i64 yv] 56 (0, 0))) (hT : Tabs w') (hb : Below w.heap.size w w') : SeamS w z1 z2 xa ya xn xc yn yc xt xs yt ys xv yv w'.drew :=
  seam_below ((Below.refl w'.heap.size w').drew) ⟨⟨⟨rangeAt_whole h1, rangeAt_whole h2⟩, ⟨cell_of_row w' z1 0 _ _ _ h1, cell_of_row w' z1 1 _ _ _ h1, cell_of_row w' z1 2 _ _ _ h1, cell_of_row w' z1 3 _ _ _ h1⟩, ⟨cell_of_row w' z2 1 _ _ _ h2, cell_of_row w' z2 2 _ _ _ h2, cell_of_row w' z2 3 _ _ _ h2⟩⟩, hT, hb⟩

end Go.Proofs.YtdpfemhfmofmlaaDoor
