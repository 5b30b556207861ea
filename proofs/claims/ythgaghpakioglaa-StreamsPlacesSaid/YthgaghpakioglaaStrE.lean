/- Tenants' events by what they say: what Append makes of them. -/
import Derived.Test.YthgaghpakioglaaStrD
import Derived.Test.YthgaghpakioglaaPieces
namespace Go.Proofs.Ythgaghpakioglaa
set_option linter.unusedSimpArgs false
set_option linter.unusedVariables false
open Go.RowKit
set_option maxRecDepth 10000

/-- What an event says. -/
structure EvS where
  st : ByteArray
  su : ByteArray
  v : Int
  p : Int
  u : Int
  sl : List UInt8
def Ev.sem (e : Ev) : EvS := ⟨e.st, e.su, e.v, e.p, e.u, e.sl⟩
/-- How many events a stream has. -/
def cntS : List EvS → ByteArray → Nat
  | [], _ => 0
  | e :: r, s => (if e.st = s then 1 else 0) + cntS r s
theorem cntS_append (s : ByteArray) : ∀ a b : List EvS, cntS (a ++ b) s = cntS a s + cntS b s
  | [], b => by simp [cntS]
  | e :: r, b => by simp only [List.cons_append, cntS, cntS_append s r b]; omega
theorem idx_length (s : ByteArray) : ∀ (es : List Ev) (k : Nat), (idx s es k).length = cntS (es.map Ev.sem) s
  | [], _ => rfl
  | e :: r, k => by
    simp only [idx, List.map_cons, cntS]
    have h := idx_length s r (k + 1)
    have h2 : e.sem.st = e.st := rfl
    rw [h2]
    by_cases e1 : e.st = s
    · rw [if_pos e1, if_pos e1, List.length_cons, h]; omega
    · rw [if_neg e1, if_neg e1, h]; omega
theorem idxOf_length (es : List Ev) (s : ByteArray) : (idxOf es s).length = cntS (es.map Ev.sem) s := idx_length s es 0
theorem cntS_le (s : ByteArray) : ∀ es : List EvS, cntS es s ≤ es.length
  | [] => Nat.le_refl _
  | e :: r => by simp only [cntS, List.length_cons]; have := cntS_le s r; split <;> omega
def szS : List EvS → Nat
  | [] => 0
  | e :: r => e.sl.length + szS r
theorem szS_append : ∀ a b : List EvS, szS (a ++ b) = szS a + szS b
  | [], b => by simp [szS]
  | e :: r, b => by simp only [List.cons_append, szS, szS_append r b]; omega
theorem szOf_sem : ∀ es : List Ev, (∀ e ∈ es, e.sl.length = e.sn) → szOf es = szS (es.map Ev.sem)
  | [], _ => rfl
  | e :: r, h => by
    simp only [szOf, List.map_cons, szS]
    rw [szOf_sem r (fun x hx => h x (List.mem_cons_of_mem _ hx)), ← h e List.mem_cons_self]
    rfl
def namesS (es : List EvS) : Nat := ((List.range es.length).filter fun i => (es[i]?.map fun e => decide (cntS (es.take i) e.st = 0)).getD false).length
theorem namesOf_sem (es : List Ev) : namesOf es = namesS (es.map Ev.sem) := by
  unfold namesOf namesS
  rw [List.length_map]
  congr 1
  apply List.filter_congr
  intro i hi
  have hi' : i < es.length := List.mem_range.1 hi
  rw [List.getElem?_map, List.getElem?_eq_getElem hi', ← List.map_take]
  simp only [Option.getD_some, Option.map_some]
  have h := idxOf_length (es.take i) es[i].st
  have h2 : es[i].sem.st = es[i].st := rfl
  rw [h2, ← h]
  cases idxOf (es.take i) es[i].st with
  | nil => rfl
  | cons a b => simp
theorem namesS_snoc (es : List EvS) (e : EvS) : namesS (es ++ [e]) = if cntS es e.st = 0 then namesS es + 1 else namesS es := by
  unfold namesS
  rw [List.length_append, show es.length + [e].length = es.length + 1 from rfl, List.range_succ, List.filter_append, List.length_append]
  have h1 : ((List.range es.length).filter fun i => ((es ++ [e])[i]?.map fun x => decide (cntS ((es ++ [e]).take i) x.st = 0)).getD false) = (List.range es.length).filter fun i => (es[i]?.map fun x => decide (cntS (es.take i) x.st = 0)).getD false := by
    apply List.filter_congr
    intro i hi
    have hi' : i < es.length := List.mem_range.1 hi
    rw [List.take_append_of_le_length (by omega), List.getElem?_append_left hi']
  rw [h1]
  simp only [List.filter_cons, List.filter_nil, List.take_left, List.getElem?_append_right (Nat.le_refl _), Nat.sub_self, List.getElem?_cons_zero, Option.map_some, Option.getD_some]
  by_cases h : cntS es e.st = 0 <;> simp [h]

def useI (us : Int) (i : Nat) : Int := IntKind.i64.wrap (IntKind.i64.wrap (us + (i : Int)) + 1)
theorem i64_rng (x : Int) : -9223372036854775808 ≤ IntKind.i64.wrap x ∧ IntKind.i64.wrap x ≤ 9223372036854775807 := by rw [IntKind.wrap_i64]; omega
/-- The events that Append makes. -/
def appS (st su : ByteArray) (us : Int) : List EvS → Nat → List (List UInt8) → List EvS
  | _, _, [] => []
  | es, i, b :: r => ⟨st, su, (cntS es st : Int) + 1, (es.length : Int) + 1, useI us i, b⟩ :: appS st su us (es ++ [⟨st, su, (cntS es st : Int) + 1, (es.length : Int) + 1, useI us i, b⟩]) (i + 1) r
theorem appS_length (st su : ByteArray) (us : Int) : ∀ (bs : List (List UInt8)) (es : List EvS) (i : Nat), (appS st su us es i bs).length = bs.length
  | [], _, _ => rfl
  | b :: r, es, i => by simp only [appS, List.length_cons, appS_length st su us r]
theorem appS_get (st su : ByteArray) (us : Int) : ∀ (bs : List (List UInt8)) (es : List EvS) (i k : Nat) (hk : k < bs.length),
    (appS st su us es i bs)[k]? = some ⟨st, su, (cntS (es ++ (appS st su us es i bs).take k) st : Int) + 1, ((es ++ (appS st su us es i bs).take k).length : Int) + 1, useI us (i + k), bs[k]⟩
  | [], _, _, k, hk => by simp at hk
  | b :: r, es, i, 0, hk => by simp [appS]
  | b :: r, es, i, k + 1, hk => by
    have hk' : k < r.length := by simpa using hk
    have h := appS_get st su us r (es ++ [⟨st, su, (cntS es st : Int) + 1, (es.length : Int) + 1, useI us i, b⟩]) (i + 1) k hk'
    simp only [appS, List.getElem?_cons_succ, List.take_succ_cons, List.getElem_cons_succ]
    rw [h, List.append_assoc, List.singleton_append, show i + 1 + k = i + (k + 1) by omega]
theorem appS_take (st su : ByteArray) (us : Int) (bs : List (List UInt8)) (es : List EvS) (k : Nat) (hk : k < bs.length) :
    (appS st su us es 0 bs).take (k + 1) = (appS st su us es 0 bs).take k ++ [⟨st, su, (cntS (es ++ (appS st su us es 0 bs).take k) st : Int) + 1, ((es ++ (appS st su us es 0 bs).take k).length : Int) + 1, useI us k, bs[k]⟩] := by
  have h := appS_get st su us bs es 0 k hk
  rw [Nat.zero_add] at h
  obtain ⟨hl, he⟩ := List.getElem?_eq_some_iff.1 h
  rw [List.take_succ_eq_append_getElem hl, he]

end Go.Proofs.Ythgaghpakioglaa
