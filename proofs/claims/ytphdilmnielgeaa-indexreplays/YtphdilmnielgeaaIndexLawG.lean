/-
  index: the laws of leases and of reading.
-/
import Derived.Test.YtphdilmnielgeaaIndexLawF
namespace Go.Proofs.Ytphdilmnielgeaa
open Go.Sx Go Classical
set_option maxRecDepth 10000
theorem items_self (l : List ItemD) (h : l.length ≤ 1000000) : F33 (l, l, ()) = some (true, ()) := by
  unfold F33
  simp only [decide_true, Bool.not_true, cond_false]
  refine loop_true (fun t => ∃ (k : Nat), k ≤ l.length ∧ t = ((k : Int), ())) (fun t => l.length - t.1.toNat) (fun t ht => ?_) ⟨0, Nat.zero_le _, rfl⟩ (by show l.length - 0 < _; omega)
  obtain ⟨k, hk, rfl⟩ := ht
  by_cases h : k < l.length
  · right
    simp only [lt_len, h, decide_true, cond_true, idx_nat, List.getElem?_eq_getElem h, Option.bind_some, BEq.rfl, Bool.and_self, Bool.not_true, cond_false, wrap64_nat (show k < 9223372036854775807 by omega)]
    exact ⟨_, rfl, ⟨k + 1, h, rfl⟩, by show l.length - (((k + 1 : Nat) : Int)).toNat < l.length - (k : Int).toNat; omega⟩
  · left
    have : k = l.length := by omega
    subst this
    simp only [lt_len, Nat.lt_irrefl, decide_false, cond_false]
/-- one more item, if it has room -/
def atStep (r most : Int) (p : KX → Bool) (s : List ItemD × Int) (e : KX) : List ItemD × Int :=
  bif (atH e.2.1 r).2.1 && p e then (bif decide (Int.ofNat s.1.length < most) then s.1 ++ [(e.1, (atH e.2.1 r).1, ())] else s.1, s.2 + 1) else s
theorem atStep_ok {r most : Int} {p : KX → Bool} {i : Nat} {s : List ItemD × Int} {e : KX} (h : s.1.length ≤ i ∧ 0 ≤ s.2 ∧ s.2 ≤ i) : (atStep r most p s e).1.length ≤ i + 1 ∧ 0 ≤ (atStep r most p s e).2 ∧ (atStep r most p s e).2 ≤ (i + 1 : Nat) := by
  unfold atStep
  cases ((atH e.2.1 r).2.1 && p e) with
  | false => simp only [cond_false]; omega
  | true =>
    simp only [cond_true]
    cases decide (Int.ofNat s.1.length < most) with
    | false => simp only [cond_false]; omega
    | true => simp only [cond_true, List.length_append, List.length_cons, List.length_nil]; omega
theorem at_both2 (m : TX) (n : Nat) (hI : Idx m n) (hn : n ≤ 1000) {a b : List UInt8} (ha : a.length ≤ 140737488351232) (hb : b.length ≤ 140737488351232) (r most : Int) :
    ∃ (o : List ItemD) (c : Int), o.length ≤ 1000 ∧ F34 (((m, ()), ()), a, b, r, most, ()) = some (o, c, ()) ∧ F35 (toL m, a, b, r, most, ()) = some (o, c, ()) ∧ (o, c) = (toL m).foldl (atStep r most (fun e : KX => decide (IsRange a b) && inB a b e.1)) ([], 0) := by
  have hll := hI.2.2.1
  generalize hp : (fun e : KX => decide (IsRange a b) && inB a b e.1) = p
  generalize hw : (if IsRange a b then (toL m).filter (fun e => inB a b e.1) else []) = w
  have hw2 : w = (toL m).filter p := by
    rw [← hw, ← hp]
    by_cases h1 : IsRange a b
    · simp only [h1, if_true, decide_true, Bool.true_and]
    · simp only [h1, if_false, decide_false, Bool.false_and]
      exact (fil_none fun _ _ => rfl).symm
  have hwl : w.length ≤ (toL m).length := by rw [hw2]; exact List.length_filter_le _ _
  have e1 : F34 (((m, ()), ()), a, b, r, most, ()) = some ((w.foldl (atStep r most fun _ => true) ([], 0)).1, (w.foldl (atStep r most fun _ => true) ([], 0)).2, ()) := by
    unfold F34
    have e0 := within_eq m n hI.map (by omega) a b
    rw [hw] at e0
    simp only [e0, Option.bind_some]
    refine iter_fold (mk := fun i (s : List ItemD × Int) => (s.1, s.2, ((i : Nat) : Int), ())) (l := w) (g := atStep r most fun _ => true) (K := fun s => (s.1, s.2, ())) (fun i s => s.1.length ≤ i ∧ 0 ≤ s.2 ∧ s.2 ≤ i) (by omega) (fun i s v hi hs => ⟨?_, atStep_ok hs⟩) (fun s _ => ?_) (a := ([], 0)) ⟨Nat.le_refl _, Int.le_refl _, Int.le_refl _⟩
    · have hlt := (List.getElem?_eq_some_iff.1 hi).1
      have hvm : v ∈ toL m := by
        have := List.mem_of_getElem? hi
        rw [hw2] at this
        exact (List.mem_filter.1 this).1
      obtain ⟨i1, i2, -, i4⟩ := hI.2.2.2 v hvm
      have hA : F60 (v.2.1, r, ()) = some (atH v.2.1 r) := by
        have := hAt_eq v.2.1 r (by unfold Smal; omega)
        rw [if_pos i2] at this
        exact this
      obtain ⟨s1, s2, s3⟩ := hs
      have w1 : wrap64 (s.2 + 1) = s.2 + 1 := wrap64_eq (by omega) (by omega)
      simp only [lt_len, hlt, decide_true, cond_true, idxN_nat _ _ hlt, hi, Option.bind_some, hA, wrap64_nat (show i < 9223372036854775807 by omega), w1, appO_eq (l := s.1) (x := [(v.1, (atH v.2.1 r).1, ())]) (by simp only [List.length_cons, List.length_nil]; simp only [capB]; omega), atStep, Bool.and_true]
      cases (atH v.2.1 r).2.1 <;> cases decide (Int.ofNat s.1.length < most) <;> rfl
    · simp only [lt_len, Nat.lt_irrefl, decide_false, cond_false]
  have e2 : F35 (toL m, a, b, r, most, ()) = some (((toL m).foldl (atStep r most p) ([], 0)).1, ((toL m).foldl (atStep r most p) ([], 0)).2, ()) := by
    unfold F35
    refine iter_fold (mk := fun i (s : List ItemD × Int) => (s.1, s.2, ((i : Nat) : Int), ())) (l := toL m) (g := atStep r most p) (K := fun s => (s.1, s.2, ())) (fun i s => s.1.length ≤ i ∧ 0 ≤ s.2 ∧ s.2 ≤ i) (by omega) (fun i s v hi hs => ⟨?_, atStep_ok hs⟩) (fun s _ => ?_) (a := ([], 0)) ⟨Nat.le_refl _, Int.le_refl _, Int.le_refl _⟩
    · have hlt := (List.getElem?_eq_some_iff.1 hi).1
      obtain ⟨i1, i2, -, i4⟩ := hI.2.2.2 v (List.mem_of_getElem? hi)
      have hA : F54 (v.2.1, r, ()) = some (atH v.2.1 r) := by
        have := rAt_eq v.2.1 r (by unfold Smal; omega)
        rw [if_pos i2] at this
        exact this
      have hP : F19 (a, b, v.1, ()) = some (p v, ()) := by rw [← hp]; exact refIn_eq ha hb i1
      obtain ⟨s1, s2, s3⟩ := hs
      have w1 : wrap64 (s.2 + 1) = s.2 + 1 := wrap64_eq (by omega) (by omega)
      simp only [lt_len, hlt, decide_true, cond_true, idx_nat, hi, Option.bind_some, hA, hP, wrap64_nat (show i < 9223372036854775807 by omega), w1, appO_eq (l := s.1) (x := [(v.1, (atH v.2.1 r).1, ())]) (by simp only [List.length_cons, List.length_nil]; simp only [capB]; omega), atStep]
      cases (atH v.2.1 r).2.1 <;> cases p v <;> cases decide (Int.ofNat s.1.length < most) <;> rfl
    · simp only [lt_len, Nat.lt_irrefl, decide_false, cond_false]
  have e3 : ∀ (l : List KX) (s : List ItemD × Int), (l.filter p).foldl (atStep r most fun _ => true) s = l.foldl (atStep r most p) s := by
    intro l
    induction l with
    | nil => intro s; rfl
    | cons v l ih =>
      intro s
      rw [List.foldl_cons, List.filter_cons]
      cases hv : p v with
      | true =>
        simp only [if_true, List.foldl_cons]
        rw [ih]
        unfold atStep
        rw [hv]
      | false =>
        simp only [Bool.false_eq_true, if_false]
        rw [ih]
        congr 1
        unfold atStep
        rw [hv, Bool.and_false]; rfl
  have e4 : ∀ (l : List KX) (s : List ItemD × Int), (l.foldl (atStep r most p) s).1.length ≤ s.1.length + l.length := by
    intro l
    induction l with
    | nil => intro s; exact Nat.le_refl _
    | cons v l ih =>
      intro s
      rw [List.foldl_cons, List.length_cons]
      refine Nat.le_trans (ih _) ?_
      have : (atStep r most p s v).1.length ≤ s.1.length + 1 := by
        unfold atStep
        cases ((atH v.2.1 r).2.1 && p v) with
        | false => simp
        | true => cases decide (Int.ofNat s.1.length < most) <;> simp
      omega
  refine ⟨_, _, ?_, by rw [e1, hw2, e3], e2, rfl⟩
  have := e4 (toL m) ([], 0)
  simp only [List.length_nil, Nat.zero_add] at this
  omega
end Go.Proofs.Ytphdilmnielgeaa
