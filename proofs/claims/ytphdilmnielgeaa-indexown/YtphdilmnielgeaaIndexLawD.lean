/-
  index: ranges; a range dropped, all trimmed.
-/
import Derived.Test.YtphdilmnielgeaaIndexLawC
namespace Go.Proofs.Ytphdilmnielgeaa
open Go.Sx Go Classical
set_option maxRecDepth 10000
def inB (a b k : List UInt8) : Bool := bif decide (b = []) then decide (k = a) else !strlt k a && strlt k b
theorem refIn_eq {a b k : List UInt8} (ha : a.length ≤ 140737488351232) (hb : b.length ≤ 140737488351232) (hk : IsKey k) : F19 (a, b, k, ()) = some (decide (IsRange a b) && inB a b k, ()) := by
  unfold F19 inB
  have hkl : k.length ≤ 140737488351232 := by have := hk.len; omega
  simp only [refRange_eq a b ha hb, refKey_eq k hkl, Option.bind_some, hk, decide_true, Bool.not_true, cond_false]
  by_cases h1 : IsRange a b
  · simp only [h1, decide_true, Bool.not_true, cond_false, Bool.true_and]
    have hbl : decide (Int.ofNat b.length = 0) = decide (b = []) := by
      rw [decide_eq_decide]
      cases b with
      | nil => simp
      | cons x r => simp; omega
    rw [hbl]
    by_cases hb : b = []
    · simp only [hb, decide_true, cond_true]
    · simp only [hb, decide_false, cond_false]
      cases strlt k a <;> simp
  · simp only [h1, decide_false, Bool.not_false, cond_true, Bool.false_and]
theorem filter_key {l : List KX} (hs : Sorted strlt l) (a : List UInt8) : l.filter (fun e => decide (e.1 = a)) = (getL strlt a l).elim [] fun v => [(a, v, ())] := by
  refine Sorted.ext LO.str (hs.filter _) ?_ fun e => ?_
  · cases getL strlt a l with
    | none => exact List.Pairwise.nil
    | some v => exact List.pairwise_singleton _ _
  · obtain ⟨k, h, ⟨⟩⟩ := e
    rw [List.mem_filter]
    simp only [decide_eq_true_eq]
    constructor
    · rintro ⟨h1, rfl⟩
      rw [(getL_eq LO.str hs).2 h1]
      simp
    · intro h1
      cases hg : getL strlt a l with
      | none => rw [hg] at h1; simp at h1
      | some v =>
        rw [hg] at h1
        simp at h1
        obtain ⟨rfl, rfl⟩ := h1
        exact ⟨(getL_eq LO.str hs).1 hg, rfl⟩
theorem within_eq (m : TX) (n : Nat) (h : MapI strlt m n) (hn : n ≤ 1000000) (a b : List UInt8) : F62 (((m, ()), ()), a, b, ()) = some (if IsRange a b then (toL m).filter (fun e => inB a b e.1) else [], ()) := by
  have hl := h.2.2
  unfold F62
  rw [show F16 ((((m, ()), ()), a, b, ()) : ((TX × Unit) × Unit) × List UInt8 × List UInt8 × Unit).snd = _ from range_eq a b, Option.bind_some]
  by_cases h1 : IsRange a b
  · rw [if_pos h1]
    simp only [h1, decide_true, Bool.not_true, cond_false]
    by_cases hb : b = []
    · subst hb
      simp only [decide_true, Bool.not_true, cond_false, mget_eq m n h hn a, Option.bind_some]
      have e : (toL m).filter (fun e => inB a [] e.1) = (toL m).filter (fun e => decide (e.1 = a)) := by unfold inB; simp
      rw [e, filter_key h.2.1]
      unfold histOf
      cases getL strlt a (toL m) <;> rfl
    · simp only [hb, decide_false, Bool.not_false, cond_true]
      refine bind_of (tx_mbetween m a b (by omega)) ?_
      rw [walkT_eq LO.str h.2.1]
      unfold inB
      simp only [hb, decide_false, cond_false]
  · rw [if_neg h1]
    simp only [h1, decide_false, Bool.not_false, cond_true]
theorem flatMap_len1 {V W : Type} {g : V → List W} (hg : ∀ v, (g v).length ≤ 1) : ∀ l : List V, (l.flatMap g).length ≤ l.length
  | [] => Nat.le_refl _
  | v :: l => by
    rw [List.flatMap_cons, List.length_append, List.length_cons]
    have := hg v
    have := flatMap_len1 hg l
    omega
/-- keys are given histories, one after the other -/
theorem loop_set {step : Int × (TX × Unit) × Unit → Option ((Int × (TX × Unit) × Unit) ⊕ (((TX × Unit) × Unit) × Unit))} (w : List KX) (f : KX → List VerD) (m : TX) (n : Nat) (hm : MapI strlt m n) (hn : n + w.length ≤ 900000)
    (h : ∀ (i : Nat) (e : KX) (t t' : TX), w[i]? = some e → F69 (((t, ()), ()), e.1, f e, ()) = some (((t', ()), ()), ()) → step ((i : Int), (t, ()), ()) = some (.inl (((i + 1 : Nat) : Int), (t', ()), ())))
    (hK : ∀ t, step ((w.length : Int), (t, ()), ()) = some (.inr (((t, ()), ()), ()))) :
    ∃ m', iter step big (0, (m, ()), ()) = some (((m', ()), ()), ()) ∧ Avl m' ∧ toL m' = w.foldl (fun o e => setL e.1 (f e) o) (toL m) := by
  obtain ⟨r, h1, h2⟩ := iter_inv (step := step) (I := fun t => ∃ (i : Nat) (x : TX), i ≤ w.length ∧ MapI strlt x (n + i) ∧ toL x = (w.take i).foldl (fun o e => setL e.1 (f e) o) (toL m) ∧ t = ((i : Int), (x, ()), ())) (μ := fun t => w.length - t.1.toNat)
    (Q := fun _ r => ∃ m', r = (((m', ()), ()), ()) ∧ Avl m' ∧ toL m' = w.foldl (fun o e => setL e.1 (f e) o) (toL m)) (fun t ht => by
      obtain ⟨i, x, hi, hx, e, rfl⟩ := ht
      by_cases hlt : i < w.length
      · right
        obtain ⟨x', g1, g2, g3⟩ := mset_ex x (n + i) hx (by omega) w[i].1 (f w[i])
        refine ⟨_, h i w[i] x x' (List.getElem?_eq_getElem hlt) g1, ⟨i + 1, x', hlt, g2, ?_, rfl⟩, by simp only [Int.toNat_natCast]; omega, fun r hr => hr⟩
        rw [g3, e, List.take_add_one, List.getElem?_eq_getElem hlt, Option.toList_some, List.foldl_append]; rfl
      · left
        have : i = w.length := by omega
        subst this
        refine ⟨_, hK x, x, rfl, hx.1, ?_⟩
        rw [e, List.take_length]) (n := big) (t := (0, (m, ()), ())) ⟨0, m, Nat.zero_le _, hm, rfl, rfl⟩ (by rw [big_eq]; show w.length - 0 < _; omega)
  obtain ⟨m', rfl, h3, h4⟩ := h2
  exact ⟨m', h1, h3, h4⟩
theorem drop_ex (m : TX) (n : Nat) (hI : Idx m n) (hn : n ≤ 1000) {a b : List UInt8} (ha : a.length ≤ 140737488351232) (hb : b.length ≤ 140737488351232) :
    ∃ m', Idx m' n ∧ F41 (((m, ()), ()), a, b, ()) = some (((m', ()), ()), ()) ∧ F42 (toL m, a, b, ()) = some (toL m', ()) := by
  have hll := hI.2.2.1
  have hdoc : F42 (toL m, a, b, ()) = some ((toL m).filter (fun e => !(decide (IsRange a b) && inB a b e.1)), ()) := by
    unfold F42
    refine Eq.trans (loop_filter (l := toL m) (d := []) (p := fun e => !(decide (IsRange a b) && inB a b e.1)) (by omega) (fun i c v hi hc => ?_) (fun c => ?_)) (by rw [List.nil_append])
    · have hlt := (List.getElem?_eq_some_iff.1 hi).1
      have hk := (hI.2.2.2 v (List.mem_of_getElem? hi)).1
      simp only [List.length_nil, Nat.zero_add] at hc
      simp only [lt_len, hlt, decide_true, cond_true, idx_nat, hi, Option.bind_some, wrap64_nat (show i < 9223372036854775807 by omega), refIn_eq ha hb hk, appO_eq (l := c) (x := [v]) (by simp only [List.length_cons, List.length_nil]; simp only [capB]; omega)]
      cases (decide (IsRange a b) && inB a b v.1) <;> rfl
    · simp only [lt_len, Nat.lt_irrefl, decide_false, cond_false]
  generalize hw : (if IsRange a b then (toL m).filter (fun e => inB a b e.1) else []) = w at *
  have hw2 : w = (toL m).filter (fun e => decide (IsRange a b) && inB a b e.1) := by
    rw [← hw]
    by_cases h1 : IsRange a b
    · simp only [h1, if_true, decide_true, Bool.true_and]
    · simp only [h1, if_false, decide_false, Bool.false_and]
      exact (fil_none fun _ _ => rfl).symm
  have hwl : w.length ≤ (toL m).length := by rw [hw2]; exact List.length_filter_le _ _
  have hpr : ∃ m', F41 (((m, ()), ()), a, b, ()) = some (((m', ()), ()), ()) ∧ Avl m' ∧ toL m' = w.foldl (fun o e => setL e.1 ((fun _ => []) e) o) (toL m) := by
    unfold F41
    have e0 := within_eq m n hI.map (by omega) a b
    rw [hw] at e0
    rw [e0, Option.bind_some]
    refine loop_set w (fun _ => []) m n hI.map (by omega) (fun i e t t' hi h => ?_) (fun t => ?_)
    · have hlt := (List.getElem?_eq_some_iff.1 hi).1
      simp only [lt_len, hlt, decide_true, cond_true, idxN_nat _ _ hlt, hi, Option.bind_some, h, wrap64_nat (show i < 9223372036854775807 by omega)]
    · simp only [lt_len, Nat.lt_irrefl, decide_false, cond_false]
  obtain ⟨m', e1, e2, e3⟩ := hpr
  have e4 : toL m' = (toL m).filter (fun e => !(decide (IsRange a b) && inB a b e.1)) := by
    have := foldSet (fun e => decide (IsRange a b) && inB a b e.1) (fun _ => []) (toL m) [] hI.2.1
    rw [List.nil_append, List.nil_append, ← hw2] at this
    rw [e3, this, ← flatMap_filter]
    congr 1
    funext e
    unfold oneX
    cases (decide (IsRange a b) && inB a b e.1) <;> rfl
  refine ⟨m', ⟨e2, ?_⟩, e1, by rw [hdoc, e4]⟩
  rw [e4]
  exact ⟨hI.2.1.filter _, Nat.le_trans (List.length_filter_le _ _) hll, fun e he => hI.2.2.2 e (List.mem_filter.1 he).1⟩
theorem setL_len (k : List UInt8) (h : List VerD) (l : List KX) : (setL k h l).length ≤ l.length + 1 := by
  unfold setL
  split
  · exact Nat.le_succ_of_le delL_len
  · exact putL_len LO.str
theorem trim_ex2 (m : TX) (n : Nat) (hI : Idx m n) (hn : n ≤ 1000) (f : Int) :
    ∃ m', Idx m' (n + 1) ∧ F39 (((m, ()), ()), f, ()) = some (((m', ()), ()), ()) ∧ F40 (toL m, f, ()) = some (toL m', ()) ∧ toL m' = (toL m).flatMap (fun e => oneX e.1 (trimH e.2.1 f)) := by
  have hll := hI.2.2.1
  have sm : ∀ e ∈ toL m, IsHist e.2.1 ∧ Smal e.2.1 := fun e he => by
    obtain ⟨-, h2, -, h4⟩ := hI.2.2.2 e he
    exact ⟨h2, by unfold Smal; omega⟩
  have hdoc : F40 (toL m, f, ()) = some ((toL m).foldl (fun o e => setL e.1 (trimH e.2.1 f) o) (toL m), ()) := by
    unfold F40
    refine iter_fold (mk := fun i (o : List KX) => (o, ((i : Nat) : Int), ())) (l := toL m) (g := fun o (e : KX) => setL e.1 (trimH e.2.1 f) o) (K := fun o => (o, ())) (fun i o => Sorted strlt o ∧ o.length ≤ (toL m).length + i) (by omega) (fun i o v hi ho => ⟨?_, setL_sorted ho.1 _ _, ?_⟩) (fun o _ => ?_) ⟨hI.2.1, Nat.le_refl _⟩
    · have hlt := (List.getElem?_eq_some_iff.1 hi).1
      obtain ⟨s1, s2⟩ := sm v (List.mem_of_getElem? hi)
      have ho2 := ho.2
      simp only [lt_len, hlt, decide_true, cond_true, idx_nat, hi, Option.bind_some, wrap64_nat (show i < 9223372036854775807 by omega), rTrim_eq v.2.1 f s2, s1, if_true, refSet_eq o v.1 _ (show o.length ≤ 1000000 by omega) ho.1]
    · have := setL_len v.1 (trimH v.2.1 f) o
      have := ho.2
      omega
    · simp only [lt_len, Nat.lt_irrefl, decide_false, cond_false]
  have hpr : ∃ m', F39 (((m, ()), ()), f, ()) = some (((m', ()), ()), ()) ∧ Avl m' ∧ toL m' = (toL m).foldl (fun o e => setL e.1 ((fun (e : KX) => trimH e.2.1 f) e) o) (toL m) := by
    unfold F39
    rw [show F56 ((((m, ()), ()), f, ()) : ((TX × Unit) × Unit) × Int × Unit).fst = some (toL m, ()) from tx_mall m (by omega), Option.bind_some]
    refine loop_set (toL m) (fun e => trimH e.2.1 f) m n hI.map (by omega) (fun i e t t' hi h => ?_) (fun t => ?_)
    · have hlt := (List.getElem?_eq_some_iff.1 hi).1
      obtain ⟨s1, s2⟩ := sm e (List.mem_of_getElem? hi)
      simp only [lt_len, hlt, decide_true, cond_true, idxN_nat _ _ hlt, hi, Option.bind_some, hTrim_eq e.2.1 f s2, s1, if_true, h, wrap64_nat (show i < 9223372036854775807 by omega)]
    · simp only [lt_len, Nat.lt_irrefl, decide_false, cond_false]
  obtain ⟨m', e1, e2, e3⟩ := hpr
  have e4 : toL m' = (toL m).flatMap (fun e => oneX e.1 (trimH e.2.1 f)) := by
    have := foldSet (fun _ => true) (fun e => trimH e.2.1 f) (toL m) [] hI.2.1
    rw [List.nil_append, List.nil_append, fil_all (fun _ _ => rfl)] at this
    rw [e3, this]
    rfl
  refine ⟨m', ⟨e2, ?_, ?_, fun e he => ?_⟩, e1, by rw [hdoc, e3], e4⟩
  · rw [e3]; exact foldl_sorted _ _ _ hI.2.1
  · rw [e4]
    exact Nat.le_trans (flatMap_len1 (fun e : KX => oneX_len e.1 (trimH e.2.1 f)) (toL m)) (by omega)
  · rw [e4] at he
    obtain ⟨e0, h0, h1⟩ := List.mem_flatMap.1 he
    obtain ⟨i1, i2, i3, i4⟩ := hI.2.2.2 e0 h0
    unfold oneX at h1
    split at h1
    · simp at h1
    · rename_i hne
      obtain rfl := List.mem_singleton.1 h1
      have := trimH_len (l := e0.2.1) (f := f)
      exact ⟨i1, trimH_hist i2 f, hne, by show (trimH e0.2.1 f).length ≤ n + 1; omega⟩
theorem trim_ex (m : TX) (n : Nat) (hI : Idx m n) (hn : n ≤ 1000) (f : Int) :
    ∃ m', Idx m' (n + 1) ∧ F39 (((m, ()), ()), f, ()) = some (((m', ()), ()), ()) ∧ F40 (toL m, f, ()) = some (toL m', ()) :=
  let ⟨m', h1, h2, h3, _⟩ := trim_ex2 m n hI hn f
  ⟨m', h1, h2, h3⟩
end Go.Proofs.Ytphdilmnielgeaa
