/-
  index: the laws of leases and of reading.
-/
import Derived.Test.YtphdilmnielgeaaIndexLawF
namespace Go.Proofs.Ytphdilmnielgeaa
open Go.Sx Go Classical
set_option maxRecDepth 10000
theorem flatMap_len1' {V W : Type} {g : V → List W} (hg : ∀ v, (g v).length ≤ 1) (l : List V) (i : Nat) : ((l.take i).flatMap g).length ≤ i :=
  Nat.le_trans (flatMap_len1 hg _) (by rw [List.length_take]; omega)
def leasedG (lease : Int) (e : KX) : List (List UInt8) := bif live e.2.1 && (!decide (lease = 0) && decide ((atH e.2.1 1099511627776).1.2.2.2.2.2.1 = lease)) then [e.1] else []
theorem leased_both (m : TX) (n : Nat) (hI : Idx m n) (hn : n ≤ 1000) (lease : Int) : F29 (((m, ()), ()), lease, ()) = some ((toL m).flatMap (leasedG lease), ()) ∧ F30 (toL m, lease, ()) = some ((toL m).flatMap (leasedG lease), ()) := by
  have hll := hI.2.2.1
  have hg1 : ∀ v, (leasedG lease v).length ≤ 1 := fun v => by unfold leasedG; cases (live v.2.1 && (!decide (lease = 0) && decide ((atH v.2.1 1099511627776).1.2.2.2.2.2.1 = lease))) <;> simp
  constructor
  · unfold F29
    simp only [tx_mall m (show (toL m).length ≤ 1000000000 by omega), Option.bind_some]
    refine Eq.trans (loop_gather (l := toL m) (d := []) (g := leasedG lease) (K := fun a => some (a, ())) (by omega) hg1 (fun i c v hi hc => ?_) (fun c _ => ?_)) (by rw [List.nil_append])
    · have hlt := (List.getElem?_eq_some_iff.1 hi).1
      obtain ⟨i1, i2, -, i4⟩ := hI.2.2.2 v (List.mem_of_getElem? hi)
      have hL : F53 v.2 = some (atH v.2.1 1099511627776) := by
        have := hLive_eq v.2.1 (by unfold Smal; omega)
        rw [if_pos i2] at this
        exact this
      simp only [List.length_nil, Nat.zero_add] at hc
      simp only [lt_len, hlt, decide_true, cond_true, idxN_nat _ _ hlt, hi, Option.bind_some, hL, live_eq i2, wrap64_nat (show i < 9223372036854775807 by omega), appO_eq (l := c) (x := [v.1]) (by simp only [List.length_cons, List.length_nil]; simp only [capB]; omega), leasedG]
      cases live v.2.1 <;> cases decide (lease = 0) <;> cases decide ((atH v.2.1 1099511627776).1.2.2.2.2.2.1 = lease) <;> simp
    · simp only [lt_len, Nat.lt_irrefl, decide_false, cond_false]; rfl
  · unfold F30
    refine Eq.trans (loop_gather (l := toL m) (d := []) (g := leasedG lease) (K := fun a => some (a, ())) (by omega) hg1 (fun i c v hi hc => ?_) (fun c _ => ?_)) (by rw [List.nil_append])
    · have hlt := (List.getElem?_eq_some_iff.1 hi).1
      have hm := List.mem_of_getElem? hi
      obtain ⟨i1, i2, -, i4⟩ := hI.2.2.2 v hm
      have hL : F25 (toL m, v.1, ()) = some (atH v.2.1 1099511627776) := by
        rw [(live_both m n hI hn v.1).2]
        have hg : histOf (toL m) v.1 = v.2.1 := by unfold histOf; rw [(getL_eq LO.str hI.2.1).2 hm]; rfl
        rw [hg]
      simp only [List.length_nil, Nat.zero_add] at hc
      simp only [lt_len, hlt, decide_true, cond_true, idx_nat, hi, Option.bind_some, hL, live_eq i2, wrap64_nat (show i < 9223372036854775807 by omega), appO_eq (l := c) (x := [v.1]) (by simp only [List.length_cons, List.length_nil]; simp only [capB]; omega), leasedG]
      cases live v.2.1 <;> cases decide (lease = 0) <;> cases decide ((atH v.2.1 1099511627776).1.2.2.2.2.2.1 = lease) <;> simp
    · simp only [lt_len, Nat.lt_irrefl, decide_false, cond_false]; rfl
theorem law6 (x : (argTy P6).den) (hx : Fit47 (argTy P6) x) : F6 x = some (true, ()) := by
  obtain ⟨l, lease, ⟨⟩⟩ : List ActX × Int × Unit := x
  obtain ⟨⟨hl, -⟩, -⟩ := hx
  have hl' : l.length ≤ 140737488351232 := hl
  obtain ⟨fb, hf, hfl⟩ := few_ex l 60 (by omega) (by omega)
  have hf : F20 (l, 60, ()) = some (fb, ()) := hf
  unfold F6
  simp only [awake_eq, Option.bind_some, Bool.not_true, cond_false, hf]
  cases fb with
  | false => rfl
  | true =>
    obtain ⟨h60, hs⟩ := hfl rfl
    obtain ⟨m, hI, e⟩ := made_ex l (by omega) hs
    obtain ⟨e1, e2⟩ := leased_both m l.length hI (by omega) lease
    simp only [Bool.not_true, cond_false, e, Option.bind_some, e1, e2, decide_true]
    generalize hw : (toL m).flatMap (leasedG lease) = w
    have hwl : w.length ≤ 1000 := by
      rw [← hw]
      have := hI.2.2.1
      exact Nat.le_trans (flatMap_len1 (fun v => by unfold leasedG; cases (live v.2.1 && (!decide (lease = 0) && decide ((atH v.2.1 1099511627776).1.2.2.2.2.2.1 = lease))) <;> simp) _) (by omega)
    refine loop_true (fun t => ∃ (i : Nat), i ≤ w.length ∧ t = ((i : Int), ())) (fun t => w.length - t.1.toNat) (fun t ht => ?_) ⟨0, Nat.zero_le _, rfl⟩ (by show w.length - 0 < _; omega)
    obtain ⟨i, hi, rfl⟩ := ht
    by_cases hlt : i < w.length
    · right
      simp only [lt_len, hlt, decide_true, cond_true, idxN_nat _ _ hlt, List.getElem?_eq_getElem hlt, Option.bind_some, Bool.not_true, cond_false, wrap64_nat (show i < 9223372036854775807 by omega)]
      exact ⟨_, rfl, ⟨i + 1, hlt, rfl⟩, by show w.length - (((i + 1 : Nat) : Int)).toNat < w.length - (i : Int).toNat; omega⟩
    · left
      have : i = w.length := by omega
      subst this
      simp only [lt_len, Nat.lt_irrefl, decide_false, cond_false]
theorem items_self (l : List ItemD) (h : l.length ≤ 1000000) : F33 (l, l, ()) = some (true, ()) := by
  unfold F33
  simp only [decide_true, Bool.not_true, cond_false]
  refine loop_true (fun t => ∃ (k : Nat), k ≤ l.length ∧ t = ((k : Int), ())) (fun t => l.length - t.1.toNat) (fun t ht => ?_) ⟨0, Nat.zero_le _, rfl⟩ (by show l.length - 0 < _; omega)
  obtain ⟨k, hk, rfl⟩ := ht
  by_cases h : k < l.length
  · right
    simp only [lt_len, h, decide_true, cond_true, idx_nat, List.getElem?_eq_getElem h, Option.bind_some, BEq.rfl, Bool.and_self, Bool.not_true, cond_false, wrap64_nat (show k < 9223372036854775807 by omega)]
    exact ⟨_, rfl, ⟨k + 1, h, rfl⟩, by show l.length - (((k + 1 : Nat) : Int)).toNat < l.length - (k : Int).toNat; omega⟩
  · left
    have : k = l.length := by omega
    subst this
    simp only [lt_len, Nat.lt_irrefl, decide_false, cond_false]
/-- one more item, if it has room -/
def atStep (r most : Int) (p : KX → Bool) (s : List ItemD × Int) (e : KX) : List ItemD × Int :=
  bif (atH e.2.1 r).2.1 && p e then (bif decide (Int.ofNat s.1.length < most) then s.1 ++ [(e.1, (atH e.2.1 r).1, ())] else s.1, s.2 + 1) else s
theorem atStep_ok {r most : Int} {p : KX → Bool} {i : Nat} {s : List ItemD × Int} {e : KX} (h : s.1.length ≤ i ∧ 0 ≤ s.2 ∧ s.2 ≤ i) : (atStep r most p s e).1.length ≤ i + 1 ∧ 0 ≤ (atStep r most p s e).2 ∧ (atStep r most p s e).2 ≤ (i + 1 : Nat) := by
  unfold atStep
  cases ((atH e.2.1 r).2.1 && p e) with
  | false => simp only [cond_false]; omega
  | true =>
    simp only [cond_true]
    cases decide (Int.ofNat s.1.length < most) with
    | false => simp only [cond_false]; omega
    | true => simp only [cond_true, List.length_append, List.length_cons, List.length_nil]; omega
theorem at_both (m : TX) (n : Nat) (hI : Idx m n) (hn : n ≤ 1000) {a b : List UInt8} (ha : a.length ≤ 140737488351232) (hb : b.length ≤ 140737488351232) (r most : Int) :
    ∃ (o : List ItemD) (c : Int), o.length ≤ 1000 ∧ F34 (((m, ()), ()), a, b, r, most, ()) = some (o, c, ()) ∧ F35 (toL m, a, b, r, most, ()) = some (o, c, ()) := by
  have hll := hI.2.2.1
  generalize hp : (fun e : KX => decide (IsRange a b) && inB a b e.1) = p
  generalize hw : (if IsRange a b then (toL m).filter (fun e => inB a b e.1) else []) = w
  have hw2 : w = (toL m).filter p := by
    rw [← hw, ← hp]
    by_cases h1 : IsRange a b
    · simp only [h1, if_true, decide_true, Bool.true_and]
    · simp only [h1, if_false, decide_false, Bool.false_and]
      exact (fil_none fun _ _ => rfl).symm
  have hwl : w.length ≤ (toL m).length := by rw [hw2]; exact List.length_filter_le _ _
  have e1 : F34 (((m, ()), ()), a, b, r, most, ()) = some ((w.foldl (atStep r most fun _ => true) ([], 0)).1, (w.foldl (atStep r most fun _ => true) ([], 0)).2, ()) := by
    unfold F34
    have e0 := within_eq m n hI.map (by omega) a b
    rw [hw] at e0
    simp only [e0, Option.bind_some]
    refine iter_fold (mk := fun i (s : List ItemD × Int) => (s.1, s.2, ((i : Nat) : Int), ())) (l := w) (g := atStep r most fun _ => true) (K := fun s => (s.1, s.2, ())) (fun i s => s.1.length ≤ i ∧ 0 ≤ s.2 ∧ s.2 ≤ i) (by omega) (fun i s v hi hs => ⟨?_, atStep_ok hs⟩) (fun s _ => ?_) (a := ([], 0)) ⟨Nat.le_refl _, Int.le_refl _, Int.le_refl _⟩
    · have hlt := (List.getElem?_eq_some_iff.1 hi).1
      have hvm : v ∈ toL m := by
        have := List.mem_of_getElem? hi
        rw [hw2] at this
        exact (List.mem_filter.1 this).1
      obtain ⟨i1, i2, -, i4⟩ := hI.2.2.2 v hvm
      have hA : F60 (v.2.1, r, ()) = some (atH v.2.1 r) := by
        have := hAt_eq v.2.1 r (by unfold Smal; omega)
        rw [if_pos i2] at this
        exact this
      obtain ⟨s1, s2, s3⟩ := hs
      have w1 : wrap64 (s.2 + 1) = s.2 + 1 := wrap64_eq (by omega) (by omega)
      simp only [lt_len, hlt, decide_true, cond_true, idxN_nat _ _ hlt, hi, Option.bind_some, hA, wrap64_nat (show i < 9223372036854775807 by omega), w1, appO_eq (l := s.1) (x := [(v.1, (atH v.2.1 r).1, ())]) (by simp only [List.length_cons, List.length_nil]; simp only [capB]; omega), atStep, Bool.and_true]
      cases (atH v.2.1 r).2.1 <;> cases decide (Int.ofNat s.1.length < most) <;> rfl
    · simp only [lt_len, Nat.lt_irrefl, decide_false, cond_false]
  have e2 : F35 (toL m, a, b, r, most, ()) = some (((toL m).foldl (atStep r most p) ([], 0)).1, ((toL m).foldl (atStep r most p) ([], 0)).2, ()) := by
    unfold F35
    refine iter_fold (mk := fun i (s : List ItemD × Int) => (s.1, s.2, ((i : Nat) : Int), ())) (l := toL m) (g := atStep r most p) (K := fun s => (s.1, s.2, ())) (fun i s => s.1.length ≤ i ∧ 0 ≤ s.2 ∧ s.2 ≤ i) (by omega) (fun i s v hi hs => ⟨?_, atStep_ok hs⟩) (fun s _ => ?_) (a := ([], 0)) ⟨Nat.le_refl _, Int.le_refl _, Int.le_refl _⟩
    · have hlt := (List.getElem?_eq_some_iff.1 hi).1
      obtain ⟨i1, i2, -, i4⟩ := hI.2.2.2 v (List.mem_of_getElem? hi)
      have hA : F54 (v.2.1, r, ()) = some (atH v.2.1 r) := by
        have := rAt_eq v.2.1 r (by unfold Smal; omega)
        rw [if_pos i2] at this
        exact this
      have hP : F19 (a, b, v.1, ()) = some (p v, ()) := by rw [← hp]; exact refIn_eq ha hb i1
      obtain ⟨s1, s2, s3⟩ := hs
      have w1 : wrap64 (s.2 + 1) = s.2 + 1 := wrap64_eq (by omega) (by omega)
      simp only [lt_len, hlt, decide_true, cond_true, idx_nat, hi, Option.bind_some, hA, hP, wrap64_nat (show i < 9223372036854775807 by omega), w1, appO_eq (l := s.1) (x := [(v.1, (atH v.2.1 r).1, ())]) (by simp only [List.length_cons, List.length_nil]; simp only [capB]; omega), atStep]
      cases (atH v.2.1 r).2.1 <;> cases p v <;> cases decide (Int.ofNat s.1.length < most) <;> rfl
    · simp only [lt_len, Nat.lt_irrefl, decide_false, cond_false]
  have e3 : ∀ (l : List KX) (s : List ItemD × Int), (l.filter p).foldl (atStep r most fun _ => true) s = l.foldl (atStep r most p) s := by
    intro l
    induction l with
    | nil => intro s; rfl
    | cons v l ih =>
      intro s
      rw [List.foldl_cons, List.filter_cons]
      cases hv : p v with
      | true =>
        simp only [if_true, List.foldl_cons]
        rw [ih]
        unfold atStep
        rw [hv]
      | false =>
        simp only [Bool.false_eq_true, if_false]
        rw [ih]
        congr 1
        unfold atStep
        rw [hv, Bool.and_false]; rfl
  have e4 : ∀ (l : List KX) (s : List ItemD × Int), (l.foldl (atStep r most p) s).1.length ≤ s.1.length + l.length := by
    intro l
    induction l with
    | nil => intro s; exact Nat.le_refl _
    | cons v l ih =>
      intro s
      rw [List.foldl_cons, List.length_cons]
      refine Nat.le_trans (ih _) ?_
      have : (atStep r most p s v).1.length ≤ s.1.length + 1 := by
        unfold atStep
        cases ((atH v.2.1 r).2.1 && p v) with
        | false => simp
        | true => cases decide (Int.ofNat s.1.length < most) <;> simp
      omega
  refine ⟨_, _, ?_, by rw [e1, hw2, e3], e2⟩
  have := e4 (toL m) ([], 0)
  simp only [List.length_nil, Nat.zero_add] at this
  omega
/-- the items behind a key, of a prefix -/
def begB (s p : List UInt8) : Bool := decide (p.length ≤ s.length) && decide (s.take p.length = p)
theorem begins_eq (s p : List UInt8) : F61 (s, p, ()) = some (begB s p, ()) ∧ F59 (s, p, ()) = some (begB s p, ()) := by
  unfold F61 F85 F59 begB
  have e : decide (Int.ofNat p.length ≤ Int.ofNat s.length) = decide (p.length ≤ s.length) := by
    rw [decide_eq_decide]; exact Int.ofNat_le
  by_cases h : p.length ≤ s.length
  · simp only [e, h, decide_true, cond_true, sliceO_take h, Option.bind_some, Bool.true_and, and_self]
  · simp only [e, h, decide_false, cond_false, Option.bind_some, Bool.false_and, and_self]
def behQ (pre after : List UInt8) (k : List UInt8) : Bool := begB k pre && !(strlt k after || decide (k = after))
def behG (pre after : List UInt8) (r : Int) (e : KX) : List ItemD := bif (atH e.2.1 r).2.1 && behQ pre after e.1 then [(e.1, (atH e.2.1 r).1, ())] else []
theorem behG_len (pre after : List UInt8) (r : Int) (e : KX) : (behG pre after r e).length ≤ 1 := by
  unfold behG
  cases ((atH e.2.1 r).2.1 && behQ pre after e.1) <;> simp
theorem behind_prog (m : TX) (n : Nat) (hI : Idx m n) (hn : n ≤ 1000) (pre after : List UInt8) (r most : Int) :
    F32 (((m, ()), ()), pre, after, r, most, ()) = some (((toL m).flatMap (behG pre after r)).take most.toNat, decide (((toL m).flatMap (behG pre after r)).length ≤ most.toNat), ()) := by
  have hll := hI.2.2.1
  unfold F32
  simp only [tx_mall m (show (toL m).length ≤ 1000000000 by omega), Option.bind_some]
  generalize hl : toL m = l at *
  generalize hg : behG pre after r = g at *
  obtain ⟨rr, h1, h2⟩ := iter_inv (T := List ItemD × Int × Unit) (R := List ItemD × Bool × Unit) (step := fun (x_1 : List ItemD × Int × Unit) =>
      bif decide (x_1.snd.fst < Int.ofNat (List.length l)) then
        Option.bind (idxN l x_1.snd.fst) fun (b_1 : Nat) =>
        Option.bind l[b_1]? fun (b : KX) =>
        Option.bind (F60 (b.snd.fst, r, ())) fun (b_2 : VerD × Bool × Unit) =>
        bif !b_2.snd.fst then some (Sum.inl (x_1.fst, wrap64 (x_1.snd.fst + 1), ()))
        else
        Option.bind (F61 (b.fst, pre, ())) fun (b_3 : Bool × Unit) =>
        bif !b_3.fst then some (Sum.inl (x_1.fst, wrap64 (x_1.snd.fst + 1), ()))
        else
        bif strlt b.fst after || decide (b.fst = after) then some (Sum.inl (x_1.fst, wrap64 (x_1.snd.fst + 1), ()))
        else
        bif decide (most ≤ Int.ofNat (List.length x_1.fst)) then some (Sum.inr (x_1.fst, false, ()))
        else
        Option.bind (appO x_1.fst [(b.fst, b_2.fst, ())]) fun (b : List ItemD) => some (Sum.inl (b, wrap64 (x_1.snd.fst + 1), ()))
      else some (Sum.inr (x_1.fst, true, ())))
    (I := fun t => ∃ (i : Nat), i ≤ l.length ∧ ((l.take i).flatMap g).length ≤ most.toNat ∧ t = ((l.take i).flatMap g, (i : Int), ())) (μ := fun t => l.length - t.2.1.toNat)
    (Q := fun _ rr => rr = ((l.flatMap g).take most.toNat, decide ((l.flatMap g).length ≤ most.toNat), ())) (fun t ht => by
      obtain ⟨i, hi, ho, rfl⟩ := ht
      have hoi : ((l.take i).flatMap g).length ≤ i := flatMap_len1' (fun v => by rw [← hg]; exact behG_len pre after r v) l i
      by_cases hlt : i < l.length
      · obtain ⟨v, hi'⟩ : ∃ v, l[i]? = some v := ⟨_, List.getElem?_eq_getElem hlt⟩
        obtain ⟨i1, i2, -, i4⟩ := hI.2.2.2 v (by rw [hl]; exact List.mem_of_getElem? hi')
        have hA : F60 (v.2.1, r, ()) = some (atH v.2.1 r) := by
          have := hAt_eq v.2.1 r (by unfold Smal; omega)
          rw [if_pos i2] at this
          exact this
        have htk : l.take (i + 1) = l.take i ++ [v] := by rw [List.take_add_one, hi', Option.toList_some]
        have hfm : (l.take (i + 1)).flatMap g = (l.take i).flatMap g ++ g v := by rw [htk, List.flatMap_append, List.flatMap_cons, List.flatMap_nil, List.append_nil]
        simp only [lt_len, hlt, decide_true, cond_true, idxN_nat _ _ hlt, hi', Option.bind_some, hA, (begins_eq v.1 pre).1, wrap64_nat (show i < 9223372036854775807 by omega)]
        have skip : g v = [] → ∃ t', (some (Sum.inl ((l.take i).flatMap g, ((i + 1 : Nat) : Int), ())) : Option ((List ItemD × Int × Unit) ⊕ (List ItemD × Bool × Unit))) = some (Sum.inl t') ∧ (∃ (i : Nat), i ≤ l.length ∧ ((l.take i).flatMap g).length ≤ most.toNat ∧ t' = ((l.take i).flatMap g, (i : Int), ())) ∧ l.length - t'.2.1.toNat < l.length - (i : Int).toNat ∧ ∀ rr : List ItemD × Bool × Unit, rr = ((l.flatMap g).take most.toNat, decide ((l.flatMap g).length ≤ most.toNat), ()) → rr = ((l.flatMap g).take most.toNat, decide ((l.flatMap g).length ≤ most.toNat), ()) := fun hgv => by
          rw [hgv, List.append_nil] at hfm
          exact ⟨_, rfl, ⟨i + 1, hlt, by rw [hfm]; exact ho, by rw [hfm]⟩, by simp only [Int.toNat_natCast]; omega, fun rr hr => hr⟩
        cases c1 : (atH v.2.1 r).2.1 with
        | false =>
          right
          exact skip (by rw [← hg]; unfold behG; rw [c1]; rfl)
        | true =>
        cases c2 : begB v.1 pre with
        | false =>
          right
          exact skip (by rw [← hg]; unfold behG behQ; rw [c2, Bool.false_and, Bool.and_false]; rfl)
        | true =>
        cases c3 : (strlt v.1 after || decide (v.1 = after)) with
        | true =>
          right
          exact skip (by rw [← hg]; unfold behG behQ; rw [c3, Bool.not_true, Bool.and_false, Bool.and_false]; rfl)
        | false =>
          have hgv : g v = [(v.1, (atH v.2.1 r).1, ())] := by rw [← hg]; unfold behG behQ; rw [c1, c2, c3]; rfl
          simp only [Bool.not_true, cond_false]
          by_cases hm : most ≤ Int.ofNat ((l.take i).flatMap g).length
          · left
            simp only [hm, decide_true, cond_true]
            refine ⟨_, rfl, ?_⟩
            rw [ofNat_len] at hm
            have hmn : ((l.take i).flatMap g).length = most.toNat := by omega
            have hsp : l.flatMap g = (l.take i).flatMap g ++ (g v ++ (l.drop (i + 1)).flatMap g) := by
              have hd : l = l.take i ++ (v :: l.drop (i + 1)) := by
                have h0 := List.drop_eq_getElem_cons hlt
                rw [(List.getElem?_eq_some_iff.1 hi').2] at h0
                rw [← h0, List.take_append_drop]
              conv => lhs; rw [hd]
              rw [List.flatMap_append, List.flatMap_cons]
            have hle : decide ((l.flatMap g).length ≤ most.toNat) = false := decide_eq_false (by rw [hsp, hgv]; simp only [List.length_append, List.length_cons, List.length_nil]; omega)
            rw [hle, hsp, ← hmn, List.take_left]
          · right
            simp only [hm, decide_false, cond_false, appO_eq (l := (l.take i).flatMap g) (x := [(v.1, (atH v.2.1 r).1, ())]) (by simp only [List.length_cons, List.length_nil]; simp only [capB]; omega), Option.bind_some]
            rw [ofNat_len] at hm
            rw [hgv] at hfm
            exact ⟨_, rfl, ⟨i + 1, hlt, by rw [hfm]; simp only [List.length_append, List.length_cons, List.length_nil]; omega, by rw [hfm]⟩, by simp only [Int.toNat_natCast]; omega, fun rr hr => hr⟩
      · left
        have : i = l.length := by omega
        subst this
        rw [List.take_length] at ho ⊢
        simp only [lt_len, Nat.lt_irrefl, decide_false, cond_false]
        refine ⟨_, rfl, ?_⟩
        rw [List.take_of_length_le ho, decide_eq_true ho]) (n := big) (t := ([], 0, ())) ⟨0, Nat.zero_le _, Nat.zero_le _, rfl⟩ (by rw [big_eq]; show l.length - 0 < _; omega)
  rw [← h2]
  exact h1
theorem behind_doc (l : List KX) (n : Nat) (hI : IdxL l n) (hn : n ≤ 1000) (pre after : List UInt8) (r most : Int) :
    F31 (l, pre, after, r, most, ()) = some ((l.flatMap (behG pre after r)).take most.toNat, decide ((l.flatMap (behG pre after r)).length ≤ most.toNat), ()) := by
  have hll := hI.2.1
  unfold F31
  generalize hg : behG pre after r = g
  refine Eq.trans (iter_fold (mk := fun i (s : List ItemD × Bool) => (s.1, s.2, ((i : Nat) : Int), ())) (l := l) (g := fun (s : List ItemD × Bool) e => bif (atH e.2.1 r).2.1 && behQ pre after e.1 then (bif decide (Int.ofNat s.1.length < most) then (s.1 ++ [(e.1, (atH e.2.1 r).1, ())], s.2) else (s.1, false)) else s) (K := fun s => (s.1, s.2, ())) (fun i s => s.1.length ≤ i ∧ s = (((l.take i).flatMap g).take most.toNat, decide (((l.take i).flatMap g).length ≤ most.toNat))) (by omega) (fun i s v hi hs => ?_) (fun s _ => ?_) (a := ([], true)) ⟨Nat.le_refl _, by simp⟩) ?_
  · obtain ⟨hs1, hs2⟩ := hs
    have hlt := (List.getElem?_eq_some_iff.1 hi).1
    obtain ⟨i1, i2, -, i4⟩ := hI.2.2 v (List.mem_of_getElem? hi)
    have hA : F54 (v.2.1, r, ()) = some (atH v.2.1 r) := by
      have := rAt_eq v.2.1 r (by unfold Smal; omega)
      rw [if_pos i2] at this
      exact this
    have htk : l.take (i + 1) = l.take i ++ [v] := by rw [List.take_add_one, hi, Option.toList_some]
    have hfm : (l.take (i + 1)).flatMap g = (l.take i).flatMap g ++ g v := by rw [htk, List.flatMap_append, List.flatMap_cons, List.flatMap_nil, List.append_nil]
    refine ⟨?_, ?_, ?_⟩
    · simp only [lt_len, hlt, decide_true, cond_true, idx_nat, hi, Option.bind_some, hA, (begins_eq v.1 pre).2, wrap64_nat (show i < 9223372036854775807 by omega), appO_eq (l := s.1) (x := [(v.1, (atH v.2.1 r).1, ())]) (by simp only [List.length_cons, List.length_nil]; simp only [capB]; omega), behQ]
      cases (atH v.2.1 r).2.1 <;> cases begB v.1 pre <;> cases (strlt v.1 after || decide (v.1 = after)) <;> cases decide (Int.ofNat s.1.length < most) <;> rfl
    · cases ((atH v.2.1 r).2.1 && behQ pre after v.1) with
      | false => simp only [cond_false]; omega
      | true => cases decide (Int.ofNat s.1.length < most) <;> simp <;> omega
    · rw [hfm]
      cases hq : ((atH v.2.1 r).2.1 && behQ pre after v.1) with
      | false =>
        have hgv : g v = [] := by rw [← hg]; unfold behG; rw [hq]; rfl
        rw [hgv, List.append_nil, cond_false]
        exact hs2
      | true =>
        have hgv : g v = [(v.1, (atH v.2.1 r).1, ())] := by rw [← hg]; unfold behG; rw [hq]; rfl
        rw [hgv, cond_true]
        have hs3 : s.1 = ((l.take i).flatMap g).take most.toNat := by rw [hs2]
        have hs4 : s.2 = decide (((l.take i).flatMap g).length ≤ most.toNat) := by rw [hs2]
        generalize (l.take i).flatMap g = q at hs3 hs4
        have hl3 : s.1.length = min most.toNat q.length := by rw [hs3, List.length_take]
        by_cases hm : Int.ofNat s.1.length < most
        · simp only [hm, decide_true, cond_true]
          rw [ofNat_len] at hm
          have hql : q.length < most.toNat := by omega
          rw [hs4, hs3, List.take_of_length_le (show q.length ≤ most.toNat by omega), List.take_of_length_le (show (q ++ [(v.1, (atH v.2.1 r).1, ())]).length ≤ most.toNat by simp; omega), decide_eq_true (show q.length ≤ most.toNat by omega), decide_eq_true (show (q ++ [(v.1, (atH v.2.1 r).1, ())]).length ≤ most.toNat by simp; omega)]
        · simp only [hm, decide_false, cond_false]
          rw [ofNat_len] at hm
          have hql : most.toNat ≤ q.length := by omega
          rw [hs3, List.take_append_of_le_length hql, decide_eq_false (show ¬ (q ++ [(v.1, (atH v.2.1 r).1, ())]).length ≤ most.toNat by simp; omega)]
  · simp only [lt_len, Nat.lt_irrefl, decide_false, cond_false]
  · have main : ∀ (w : List KX) (s : List ItemD × Bool) (q : List ItemD), s = (q.take most.toNat, decide (q.length ≤ most.toNat)) → w.foldl (fun (s : List ItemD × Bool) e => bif (atH e.2.1 r).2.1 && behQ pre after e.1 then (bif decide (Int.ofNat s.1.length < most) then (s.1 ++ [(e.1, (atH e.2.1 r).1, ())], s.2) else (s.1, false)) else s) s = ((q ++ w.flatMap g).take most.toNat, decide ((q ++ w.flatMap g).length ≤ most.toNat)) := by
      intro w
      induction w with
      | nil => intro s q hs; rw [List.flatMap_nil, List.append_nil]; exact hs
      | cons v w ih =>
        intro s q hs
        rw [List.foldl_cons, List.flatMap_cons, ← List.append_assoc]
        refine ih _ _ ?_
        have hs3 : s.1 = q.take most.toNat := by rw [hs]
        have hs4 : s.2 = decide (q.length ≤ most.toNat) := by rw [hs]
        cases hq : ((atH v.2.1 r).2.1 && behQ pre after v.1) with
        | false =>
          have hgv : g v = [] := by rw [← hg]; unfold behG; rw [hq]; rfl
          rw [hgv, List.append_nil, cond_false]
          exact hs
        | true =>
          have hgv : g v = [(v.1, (atH v.2.1 r).1, ())] := by rw [← hg]; unfold behG; rw [hq]; rfl
          rw [hgv, cond_true]
          have hl3 : s.1.length = min most.toNat q.length := by rw [hs3, List.length_take]
          by_cases hm : Int.ofNat s.1.length < most
          · simp only [hm, decide_true, cond_true]
            rw [ofNat_len] at hm
            have hql : q.length < most.toNat := by omega
            rw [hs4, hs3, List.take_of_length_le (show q.length ≤ most.toNat by omega), List.take_of_length_le (show (q ++ [(v.1, (atH v.2.1 r).1, ())]).length ≤ most.toNat by simp; omega), decide_eq_true (show q.length ≤ most.toNat by omega), decide_eq_true (show (q ++ [(v.1, (atH v.2.1 r).1, ())]).length ≤ most.toNat by simp; omega)]
          · simp only [hm, decide_false, cond_false]
            rw [ofNat_len] at hm
            have hql : most.toNat ≤ q.length := by omega
            rw [hs3, List.take_append_of_le_length hql, decide_eq_false (show ¬ (q ++ [(v.1, (atH v.2.1 r).1, ())]).length ≤ most.toNat by simp; omega)]
    rw [main l ([], true) [] (by simp), List.nil_append]
theorem law8 (x : (argTy P8).den) (hx : Fit47 (argTy P8) x) : F8 x = some (true, ()) := by
  obtain ⟨l, ⟨fr, en, pre, rev, since, to, most, lease, ⟨⟩⟩, ⟨⟩⟩ : List ActX × (List UInt8 × List UInt8 × List UInt8 × Int × Int × Int × Int × Int × Unit) × Unit := x
  obtain ⟨⟨hl, -⟩, ⟨h1, h2, h3, -⟩, -⟩ := hx
  have hl' : l.length ≤ 140737488351232 := hl
  have h1' : fr.length ≤ 140737488351232 := h1
  have h2' : en.length ≤ 140737488351232 := h2
  obtain ⟨fb, hf, hfl⟩ := few_ex l 60 (by omega) (by omega)
  have hf : F20 (l, 60, ()) = some (fb, ()) := hf
  unfold F8
  simp only [awake_eq, Option.bind_some, Bool.not_true, cond_false, hf]
  cases fb with
  | false => rfl
  | true =>
    obtain ⟨h60, hs⟩ := hfl rfl
    obtain ⟨m, hI, e⟩ := made_ex l (by omega) hs
    obtain ⟨o, c, ho, e1, e2⟩ := at_both m l.length hI (by omega) h1' h2' rev most
    have e3 := behind_prog m l.length hI (by omega) pre fr rev most
    have e4 := behind_doc (toL m) l.length hI.2 (by omega) pre fr rev most
    have hbl : (((toL m).flatMap (behG pre fr rev)).take most.toNat).length ≤ 1000000 := by
      rw [List.length_take]
      have := flatMap_len1 (behG_len pre fr rev) (toL m)
      have := hI.2.2.1
      omega
    simp only [Bool.not_true, cond_false, e, Option.bind_some, e1, e2, e3, e4, decide_true, cond_true, BEq.rfl, items_self o (show o.length ≤ 1000000 by omega), items_self _ hbl]
    exact cond_same _ _
end Go.Proofs.Ytphdilmnielgeaa
