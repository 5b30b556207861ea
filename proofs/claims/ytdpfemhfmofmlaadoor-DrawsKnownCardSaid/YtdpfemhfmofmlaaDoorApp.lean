/- append of words, in a plain statement and in one that draws its order. -/
import Derived.Test.YtdpfemhfmofmlaaDoorWord
import Derived.Test.YtdpfemhfmofmlaaDoorKit
import Derived.Deep.RegionHeld3
import Derived.Deep.Light
namespace Go.Proofs.YtdpfemhfmofmlaaDoor
open Go.RowKit

theorem below_of_none {w w' : World} (h : w.grownBy w' none) : Below w.heap.size w w' := ⟨h.os, h.tape, h.output, h.size, fun k hk => h.block k hk (by simp)⟩

theorem run_app2 {P : Program} (w : World) (base : Nat) (t tx ty e : TypeId) (i : TypeInfo) (z : Value) (size bytes : Nat) (ht : P.underlying t = some (.slice e)) (hi : P.info? e = some i) (hz : i.zero = some z)
    (hsize : i.size = size) (hby : i.bytes = bytes) (hzs : z.cells.size = size)
    (v : Value) (n : Nat) (xs : List Value) (hown : w.ownsRow base e size v n xs)
    (x : Value) (m : Nat) (news : List Value) (hs : Src P size tx x m news w)
    (h63 : n + m ≤ maxLen) (hbytes : (n + m) * bytes ≤ 140737488355328) (hbase : base ≤ w.heap.size) :
    ∃ v' w', (Builtin.append_ #[t, tx] ty #[v, x]).run P w = .ok v' w' ∧ w'.ownsRow base e size v' (n + m) (xs ++ news) ∧ w.grownBy w' v.ownBlock ∧ (v'.ownBlock = v.ownBlock ∨ Below w.heap.size w w') := by
  subst hsize
  subst hby
  have hsmall : n + m ≤ 9223372036854775807 := by simp only [maxLen] at h63; omega
  have hl := hs.newsLen
  have hlen : (xs ++ news).length = (n + m) * i.size := by rw [List.length_append, hown.1, hl, Nat.add_mul]
  have grown : ∀ (old : Nat), old < n + m → ∀ (row : Option Nat),
      (w.drew.alloc (.cells ((xs ++ news).toArray ++ Builtin.zeroCells z.cells (grownCap w (n + m) old e - (n + m))) e)).ownsRow base e i.size
        (.slice (some ⟨w.heap.size, 0, none⟩) (n + m) (grownCap w (n + m) old e)) (n + m) (xs ++ news) ∧
      w.grownBy (w.drew.alloc (.cells ((xs ++ news).toArray ++ Builtin.zeroCells z.cells (grownCap w (n + m) old e - (n + m))) e)) row := by
    intro old ho row
    have hge := grownCap_ge w (n + m) old e
    have hcm : grownCap w (n + m) old e ≤ maxLen := grownCap_le_maxLen w (n + m) old e h63
    refine ⟨⟨hlen, .inr ⟨w.heap.size, _, _, rfl, hbase, heap_alloc_new w.drew _, hge, hcm, ?_, ?_⟩⟩, ⟨rfl, rfl, rfl, by simp, fun k hk _ => Go.heap_alloc_old w.drew _ hk⟩⟩
    · simp only [Array.size_append, List.size_toArray, size_zeroCells, hzs, hlen, ← Nat.add_mul]
      congr 1
      omega
    · simp only [Array.toList_append]
      rw [← hlen]
      exact List.take_left
  rcases hown.2 with ⟨rfl, rfl⟩ | ⟨g, cap, cur, rfl, hbg, hg, hnc, hcm, hcs, htake⟩
  · have hx : xs = [] := List.eq_nil_of_length_eq_zero (by simpa using hown.1)
    subst hx
    by_cases hm : m = 0
    · subst hm
      have hn : news = [] := List.eq_nil_of_length_eq_zero (by simpa using hl)
      subst hn
      refine ⟨.slice none 0 0, w, ?_, World.ownsRow_nil w base e i.size, ⟨rfl, rfl, rfl, Nat.le_refl _, fun _ _ _ => rfl⟩, .inl rfl⟩
      have hc := hs.cells
      rcases hs.kind with ⟨e', hk⟩ | hk <;> simp [Builtin.append_, run_underlying ht, run_underlying hk, sizeOf, typeInfo, hi, hs.len, hc]
    · have hr := run_append_grow_src (P := P) w t tx ty e i z ht hi hz none 0 0 [] (run_firstCells_none w.drew i.size 0 0 0) x m news hs (by omega) (by omega)
        (growslice_fits (by omega) hbytes)
      have hgr := grown 0 (by omega) (Value.ownBlock (.slice none 0 0))
      have hgn := below_of_none (grown 0 (by omega) none).2
      simp only [Nat.zero_add, List.nil_append] at hgr hr hgn ⊢
      exact ⟨_, _, hr, hgr.1, hgr.2, .inr hgn⟩
  · by_cases hroom : n + m ≤ cap
    · have hfit : n * i.size + news.length ≤ cur.size := by rw [hl, hcs, ← Nat.add_mul]; exact Nat.mul_le_mul_right _ hroom
      have hst := run_storeCells_at P g (n * i.size) e news 0 cur w hg (by simpa using hfit) hs.one
      simp only [Nat.add_zero] at hst
      have hr : (Builtin.append_ #[t, tx] ty #[.slice (some ⟨g, 0, none⟩) n cap, x]).run P w =
          .ok (.slice (some ⟨g, 0, none⟩) (n + m) cap) (w.setRow g (cur.toList.take (n * i.size) ++ news ++ cur.toList.drop (n * i.size + news.length)).toArray) := by
        have hc := hs.cells
        rcases hs.kind with ⟨e', hk⟩ | hk <;> simp [Builtin.append_, run_underlying ht, run_underlying hk, sizeOf, typeInfo, hi, hs.len, hc, hroom, Addr.add_lit, hst]
      refine ⟨_, _, hr, ⟨hlen, .inr ⟨g, cap, _, rfl, hbg, setRow_heap w g cur _ e _ hg, hroom, hcm, ?_, ?_⟩⟩, ⟨rfl, rfl, rfl, by simp, fun k _ hk => setRow_other w g k _ (fun e => hk (by simp [Value.ownBlock, e]))⟩, .inl rfl⟩
      · simp only [List.size_toArray, List.length_append, List.length_take, List.length_drop, Array.length_toList]
        omega
      · rw [htake, ← hlen]
        exact List.take_left
    · have holds : ∀ j u, xs[j]? = some u → w.cell? ((⟨g, 0, none⟩ : Addr).add j) = some u := hown.cells (g := g) rfl
      have hr := run_append_grow_src (P := P) w t tx ty e i z ht hi hz (some ⟨g, 0, none⟩) n cap xs (run_firstCells_some w.drew i.size n ⟨g, 0, none⟩ n cap xs hown.1 (by simpa using holds)) x m news hs (by omega) (by omega) (growslice_fits (by omega) hbytes)
      have hgr := grown cap (by omega) (Value.ownBlock (.slice (some ⟨g, 0, none⟩) n cap))
      exact ⟨_, _, hr, hgr.1, hgr.2, .inr (below_of_none (grown cap (by omega) none).2)⟩


/-- What was read of the slice reads so behind the append. -/
theorem rd_app {w w' : World} {base e size n n' : Nat} {a : Option Addr} {c : Nat} {v' : Value} {xs news : List Value} (hO : w.ownsRow base e size (.slice a n c) n xs) (hO' : w'.ownsRow base e size v' n' (xs ++ news))
    (hk : v'.ownBlock = (Value.slice a n c).ownBlock ∨ Below w.heap.size w w') : RdC w' a xs := by
  have hr := rdc_of_owns hO
  rcases hk with hk | hk
  · by_cases h0 : 0 < xs.length
    · obtain ⟨b, off, rfl, _⟩ := hr.lt h0
      obtain ⟨a', c', rfl, _, _, _⟩ := owns_slice hO'
      have hr' := rdc_of_owns hO'
      obtain ⟨b', off', rfl, _⟩ := hr'.lt (by rw [List.length_append]; omega)
      have h1 : off = 0 := by
        rcases hO.2 with ⟨e, _⟩ | ⟨_, _, _, e, _⟩
        · cases e
        · cases e; rfl
      have h2 : off' = 0 := by
        rcases hO'.2 with ⟨e, _⟩ | ⟨_, _, _, e, _⟩
        · cases e
        · cases e; rfl
      subst h1 h2
      have hb : b' = b := by simpa [Value.ownBlock] using hk
      subst hb
      have := hr'.take xs.length
      rwa [List.take_left] at this
    · obtain rfl : xs = [] := List.eq_nil_of_length_eq_zero (by omega)
      exact RdC.nil _ _
  · exact hr.below hk (Nat.le_refl _)

theorem step_app {P : Program} {w : World} {ops : Array Oper} {o : Oper} {a : Act} {K : Act → World → Prop} {Q : Exit → Act → World → Prop} {E : Prop} (hgd : o.guard = none) (s x : Operand) (t tx : TypeId)
    (ho : o.op = .call { callee := .builtin .append, args := #[s, x], argTypes := #[t, tx] })
    (base : Nat) (e : TypeId) (i : TypeInfo) (z : Value) (size bytes : Nat) (ht : P.underlying t = some (.slice e)) (hi : P.info? e = some i) (hz : i.zero = some z)
    (hsize : i.size = size) (hby : i.bytes = bytes) (hzs : z.cells.size = size)
    (v : Value) (n : Nat) (xs : List Value) (hsv : a.eval s = v) (hown : w.ownsRow base e size v n xs)
    (xv : Value) (hxv : a.eval x = xv) (m : Nat) (news : List Value) (hs : Src P size tx xv m news w)
    (h63 : n + m ≤ maxLen) (hbytes : (n + m) * bytes ≤ 140737488355328) (hbase : base ≤ w.heap.size)
    (h : ∀ v' w', w'.ownsRow base e size v' (n + m) (xs ++ news) → w.grownBy w' v.ownBlock → (v'.ownBlock = v.ownBlock ∨ Below w.heap.size w w') → K (a.put o.dst v') w') :
    if Region.wanted o (yielded ops a.tmps) = true then Oper.wp P o a w K Q else E := by
  have hw : Region.wanted o (yielded ops a.tmps) = true := by simp [Region.wanted, hgd]
  rw [if_pos hw]
  obtain ⟨v', w', hr, h2, h3, h4⟩ := run_app2 (P := P) w base t tx o.type e i z size bytes ht hi hz hsize hby hzs v n xs hown xv m news hs h63 hbytes hbase
  unfold Oper.wp execOp
  simp only [ho, resolve, invoke, builtin, Sem.run_bind, Sem.run_pure, Result.andThen_ok, List.map_toArray, List.map_cons, List.map_nil, hsv, hxv, hr]
  exact h v' w' h2 h3 h4

theorem still_refl (w : World) : Still w w := ⟨rfl, fun B => Below.refl B w⟩
theorem still_drew1 (w : World) : Still w w.drew := ⟨rfl, fun _ => ⟨rfl, rfl, rfl, Nat.le_refl _, fun _ _ => rfl⟩⟩
theorem still_grown {w w' : World} (h : Still w w') (r : Option Nat) : w.grownBy w' r := ⟨(h.below 0).os, (h.below 0).tape, (h.below 0).output, (h.below 0).size, fun k _ _ => by rw [h.heap]⟩

theorem u32Info : (Tryd.prog.info? 41).map (fun i => (i.zero, i.size, i.bytes)) = some (some (.int .u32 0), 1, 4) := by kernel_rfl

/-- Words in new memory are returned. -/
def GotW (w : World) (n : Nat) (l : List UInt32) (e : Ending) (w' : World) : Prop :=
  ∃ a c, e = .returned (.slice a n c) ∧ n ≤ c ∧ RdC w' a (wvs l) ∧ Below w.heap.size w w' ∧ w'.ownsRow w.heap.size 41 1 (.slice a n c) n (wvs l)

theorem gotW {w w' : World} {n : Nat} {l : List UInt32} {v : Value} (hB : Below w.heap.size w w') (hO : w'.ownsRow w.heap.size 41 1 v n (wvs l)) : GotW w n l (.returned v) w' := by
  obtain ⟨a, c, rfl, hc, _, _⟩ := owns_slice hO
  exact ⟨a, c, rfl, hc, rdc_of_owns hO, hB, hO⟩

theorem wvs_snoc (l : List UInt32) (x : UInt32) : wvs (l ++ [x]) = wvs l ++ [.int .u32 (x.toNat : Int)] := by simp [wvs, wv]

/-- 'append(x, c)' of one word that was just laid, in a plain statement. -/
theorem app32 (w wa : World) (x : UInt32) {ops : Array Oper} {rest : List Oper} {o : Oper} {a : Act} {Q : Exit → Act → World → Prop} (hgd : o.guard = none) (s y : Operand)
    (ho : o.op = .call { callee := .builtin .append, args := #[s, y], argTypes := #[38, 38] })
    (base : Nat) (v : Value) (n : Nat) (l : List UInt32) (hsv : a.eval s = v) (hown : w.ownsRow base 41 1 v n (wvs l))
    (hwa : Still (w.alloc (.cells #[.int .u32 (x.toNat : Int)] 41)) wa)
    (hxv : a.eval y = .slice (some ⟨w.heap.size, 0, none⟩) 1 1) (hb : n ≤ 2147483647) (hbase : base ≤ w.heap.size)
    (h : ∀ v' w', w'.ownsRow base 41 1 v' (n + 1) (wvs (l ++ [x])) → w.grownBy w' v.ownBlock → wpList Tryd.prog ops Q rest (a.put o.dst v') w') :
    wpList Tryd.prog ops Q (o :: rest) a wa := by
  obtain ⟨i0, hi, hz0, hz1, hz2⟩ := info_parts u32Info
  have hsa : (w.alloc (.cells #[.int .u32 (x.toNat : Int)] 41)).heap = wa.heap := hwa.heap.symm
  have hO : wa.ownsRow base 41 1 v n (wvs l) := owns_still (hown.alloc _) hwa
  have hc : wa.cell? ⟨w.heap.size, 0, none⟩ = some (.int .u32 (x.toNat : Int)) := by
    have := cell_one_new w (Value.int .u32 (x.toNat : Int)) 41 0 _ rfl
    rw [World.cell?_of_block (w := w.alloc (.cells #[.int .u32 (x.toNat : Int)] 41)) (by rw [hwa.heap])]
    exact this
  refine wpList_app wa hgd s y 38 38 ho base 41 i0 _ 1 4 Tryd.underlying38 hi hz0 hz1 hz2 rfl v n (wvs l) hsv hO _ hxv 1 [.int .u32 (x.toNat : Int)] (Src.ofSlice _ Tryd.underlying38 _ 1 1 _ rfl (by intro j u hj; cases j with | zero => simp at hj; subst hj; exact hc | succ j => simp at hj) (by simp [Value.oneCell'])) (by unfold maxLen; omega) (by omega) (by rw [← hsa]; simp; omega) ?_
  intro v' w' h1 h2
  rw [wvs_snoc] at h
  exact h v' w' h1 ((World.grownBy_alloc w _ _).trans ((still_grown hwa _).trans h2))

/-- The same at a step of a statement that draws its order. -/
theorem app32s (w wa : World) (x : UInt32) {ops : Array Oper} {o : Oper} {a : Act} {K : Act → World → Prop} {Q : Exit → Act → World → Prop} {E : Prop} (hgd : o.guard = none) (s y : Operand)
    (ho : o.op = .call { callee := .builtin .append, args := #[s, y], argTypes := #[38, 38] })
    (base : Nat) (v : Value) (n : Nat) (l : List UInt32) (hsv : a.eval s = v) (hown : w.ownsRow base 41 1 v n (wvs l))
    (hwa : Still (w.alloc (.cells #[.int .u32 (x.toNat : Int)] 41)) wa)
    (hxv : a.eval y = .slice (some ⟨w.heap.size, 0, none⟩) 1 1) (hb : n ≤ 2147483647) (hbase : base ≤ w.heap.size)
    (h : ∀ v' w', w'.ownsRow base 41 1 v' (n + 1) (wvs (l ++ [x])) → w.grownBy w' v.ownBlock → (∀ a n c, v = .slice a n c → RdC w' a (wvs l)) → K (a.put o.dst v') w') :
    if Region.wanted o (yielded ops a.tmps) = true then Oper.wp Tryd.prog o a wa K Q else E := by
  obtain ⟨i0, hi, hz0, hz1, hz2⟩ := info_parts u32Info
  have hsa : (w.alloc (.cells #[.int .u32 (x.toNat : Int)] 41)).heap = wa.heap := hwa.heap.symm
  have hO : wa.ownsRow base 41 1 v n (wvs l) := owns_still (hown.alloc _) hwa
  have hc : wa.cell? ⟨w.heap.size, 0, none⟩ = some (.int .u32 (x.toNat : Int)) := by
    have := cell_one_new w (Value.int .u32 (x.toNat : Int)) 41 0 _ rfl
    rw [World.cell?_of_block (w := w.alloc (.cells #[.int .u32 (x.toNat : Int)] 41)) (by rw [hwa.heap])]
    exact this
  refine step_app (w := wa) hgd s y 38 38 ho base 41 i0 _ 1 4 Tryd.underlying38 hi hz0 hz1 hz2 rfl v n (wvs l) hsv hO _ hxv 1 [.int .u32 (x.toNat : Int)] (Src.ofSlice _ Tryd.underlying38 _ 1 1 _ rfl (by intro j u hj; cases j with | zero => simp at hj; subst hj; exact hc | succ j => simp at hj) (by simp [Value.oneCell'])) (by unfold maxLen; omega) (by omega) (by rw [← hsa]; simp; omega) ?_
  intro v' w' h1 h2 h4
  rw [wvs_snoc] at h
  exact h v' w' h1 ((World.grownBy_alloc w _ _).trans ((still_grown hwa _).trans h2)) (fun a' n' c' e => by subst e; obtain ⟨_, _, e2, _⟩ := owns_slice hown; cases e2; exact rd_app hO h1 h4)

theorem cell_allocO {w : World} {o : Obj} {a : Addr} {v : Value} (h : w.cell? a = some v) : (w.alloc o).cell? a = some v := by
  have hlt := World.block_lt_of_cell? w _ h
  rw [((Below.refl w.heap.size w).alloc (Nat.le_refl _) o).cell hlt]; exact h
theorem cell_allocD {w : World} {o : Obj} {a : Addr} {v : Value} (h : w.drew.cell? a = some v) : (w.alloc o).drew.cell? a = some v := cell_allocO (w := w) h
theorem cell_below {B : Nat} {w w' : World} {a : Addr} {v : Value} (hb : Below B w w') (h : w.cell? a = some v) (hB : w.heap.size ≤ B) : w'.cell? a = some v := by
  rw [hb.cell (Nat.lt_of_lt_of_le (World.block_lt_of_cell? w _ h) hB)]; exact h
theorem cell_grown {w w' : World} {r : Option Nat} {b o : Nat} {v : Value} (hg : w.grownBy w' r) (h : w.cell? ⟨b, o, none⟩ = some v) (hn : r ≠ some b) : w'.cell? ⟨b, o, none⟩ = some v := by
  rw [World.cell?_of_block (w := w) (a := ⟨b, o, none⟩) (hg.block b (World.block_lt_of_cell? w _ h) (fun e => hn e.symm))]; exact h

end Go.Proofs.YtdpfemhfmofmlaaDoor
