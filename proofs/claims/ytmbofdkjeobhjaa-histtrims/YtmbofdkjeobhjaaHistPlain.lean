/-
  hist: the plain laws: what the printed functions compute.
-/
import Derived.Test.YtmbofdkjeobhjaaHistOk
import Derived.Test.YtmbofdkjeobhjaaSxR
namespace Go.Proofs.Ytmbofdkjeobhjaa
open Go.Sx Go Classical
set_option maxRecDepth 10000
def VerOk (v : VerD) : Prop :=
  1 ≤ v.1 ∧ v.1 ≤ 1099511627776 ∧ 1 ≤ v.2.2.1 ∧ v.2.2.1 ≤ 1099511627776 ∧
  (if v.2.2.2.2.2.2.1 = true then v.2.1 = 0 ∧ v.2.2.2.1 = 0 ∧ v.2.2.2.2.2.1 = 0 ∧ v.2.2.2.2.1 = []
   else 1 ≤ v.2.1 ∧ v.2.1 ≤ v.2.2.1 ∧ 1 ≤ v.2.2.2.1 ∧ v.2.2.2.1 ≤ 1099511627776 ∧ v.2.2.2.2.1.length ≤ 40 ∧ -1099511627776 ≤ v.2.2.2.2.2.1 ∧ v.2.2.2.2.2.1 ≤ 1099511627776)
def Lt (u v : VerD) : Prop := u.1 < v.1 ∧ u.2.2.1 < v.2.2.1
def IsHist (l : List VerD) : Prop := (∀ v ∈ l, VerOk v) ∧ l.Pairwise Lt
theorem F32_eq (n : Int) : F32 (n, ()) = some (decide (1 ≤ n ∧ n ≤ 1099511627776), ()) := by
  unfold F32
  by_cases h : 1 ≤ n <;> simp [h]
theorem F29_eq (v : VerD) : F29 (v, ()) = some (decide (VerOk v), ()) := by
  obtain ⟨a, b, c, d, e, f, g, u⟩ := v
  unfold F29 VerOk
  simp only [F32_eq, Option.bind_some]
  by_cases h1 : 1 ≤ a ∧ a ≤ 1099511627776
  · by_cases h2 : 1 ≤ c ∧ c ≤ 1099511627776
    · cases g with
      | true =>
        by_cases h3 : b = 0 <;> by_cases h4 : d = 0 <;> by_cases h5 : f = 0 <;> simp [h1, h2, h3, h4, h5]
      | false =>
        by_cases h3 : 1 ≤ b <;> by_cases h4 : b ≤ c <;> by_cases h5 : 1 ≤ d ∧ d ≤ 1099511627776 <;> by_cases h6 : (e.length : Int) ≤ 40 <;> by_cases h7 : -1099511627776 ≤ f <;> simp [h1, h2, h3, h4, h5, h6, h7] <;> omega
    · have : ¬ (1 ≤ c ∧ c ≤ 1099511627776) := h2
      simp [h1, h2]
      omega
  · simp [h1]
    omega
theorem F30_eq (v : VerD) : F30 (v, ()) = some (decide (VerOk v), ()) := by
  obtain ⟨a, b, c, d, e, f, g, u⟩ := v
  unfold F30 VerOk
  by_cases h1 : a < 1
  · simp [h1]; omega
  · by_cases h2 : 1099511627776 < a
    · simp [h1, h2]; omega
    · by_cases h3 : c < 1
      · simp [h1, h2, h3]; omega
      · by_cases h4 : 1099511627776 < c
        · simp [h1, h2, h3, h4]; omega
        · have a1 : 1 ≤ a := by omega
          have a2 : a ≤ 1099511627776 := by omega
          have a3 : 1 ≤ c := by omega
          have a4 : c ≤ 1099511627776 := by omega
          cases g with
          | true => by_cases h5 : b = 0 <;> by_cases h6 : d = 0 <;> by_cases h7 : f = 0 <;> simp [h1, h2, h3, h4, h5, h6, h7, a1, a2, a3, a4]
          | false =>
            by_cases h5 : 1 ≤ b <;> by_cases h6 : b ≤ c <;> by_cases h7 : 1 ≤ d <;> by_cases h8 : d ≤ 1099511627776 <;> by_cases h9 : (e.length : Int) ≤ 40 <;> by_cases h10 : -1099511627776 ≤ f <;> simp [h1, h2, h3, h4, h5, h6, h7, h8, h9, h10, a1, a2, a3, a4] <;> omega
/-- what is asked at a place -/
noncomputable def okAt (l : List VerD) (i : Nat) : Bool := decide (∀ v, l[i]? = some v → VerOk v ∧ (0 < i → ∀ u, l[i - 1]? = some u → Lt u v))
theorem okAt_all (l : List VerD) : (List.range l.length).all (okAt l) = decide (IsHist l) := by
  rw [Bool.eq_iff_iff, List.all_eq_true, decide_eq_true_eq]
  simp only [okAt, decide_eq_true_eq, List.mem_range]
  constructor
  · intro h
    refine ⟨fun v hv => ?_, ?_⟩
    · obtain ⟨i, hi, rfl⟩ := List.getElem_of_mem hv
      exact (h i hi _ (List.getElem?_eq_getElem hi)).1
    · have adj : ∀ i, i + 1 < l.length → ∀ u v, l[i]? = some u → l[i + 1]? = some v → Lt u v := fun i hi u v hu hv => (h (i + 1) hi v hv).2 (by omega) u (by simpa using hu)
      have tr : ∀ d i u v, l[i]? = some u → l[i + 1 + d]? = some v → Lt u v := by
        intro d
        induction d with
        | zero => intro i u v hu hv; exact adj i (List.getElem?_eq_some_iff.1 hv).1 u v hu hv
        | succ d ih =>
          intro i u v hu hv
          have hlt := (List.getElem?_eq_some_iff.1 hv).1
          have hm := List.getElem?_eq_getElem (l := l) (i := i + 1 + d) (by omega)
          have h1 := ih i u _ hu hm
          have h2 := adj (i + 1 + d) (by omega) _ v hm (by rwa [show i + 1 + (d + 1) = i + 1 + d + 1 from by omega] at hv)
          exact ⟨Int.lt_trans h1.1 h2.1, Int.lt_trans h1.2 h2.2⟩
      rw [List.pairwise_iff_getElem]
      intro i j hi hj hij
      exact tr (j - i - 1) i _ _ (List.getElem?_eq_getElem hi) (by rw [show i + 1 + (j - i - 1) = j from by omega]; exact List.getElem?_eq_getElem hj)
  · rintro ⟨h1, h2⟩ i hi v hv
    refine ⟨h1 v (List.mem_of_getElem? hv), fun h0 u hu => ?_⟩
    rw [List.pairwise_iff_getElem] at h2
    have hu' := List.getElem?_eq_some_iff.1 hu
    have hv' := List.getElem?_eq_some_iff.1 hv
    have := h2 (i - 1) i hu'.1 hv'.1 (by omega)
    rwa [hu'.2, hv'.2] at this
theorem F12_eq (l : List VerD) (hl : l.length ≤ 9223372036854775807) : F12 (l, ()) = some (decide (IsHist l), ()) := by
  unfold F12
  refine (iter_all (mk := fun i => ((i : Int), ())) (okAt l) (rt := (true, ())) (rf := (false, ())) hl (fun i hi => ?_) ?_).trans ?_
  rotate_left 2
  · rw [okAt_all]; cases decide (IsHist l) <;> rfl
  · simp only [lt_len, hi, decide_true, cond_true, idx_nat, List.getElem?_eq_getElem hi, Option.bind_some, F29_eq]
    by_cases h1 : VerOk l[i]
    · simp only [h1, decide_true, Bool.not_true, cond_false]
      cases i with
      | zero =>
        have : okAt l 0 = true := by simp [okAt, List.getElem?_eq_getElem hi, h1]
        simp [this, wrap64_nat]
        rfl
      | succ i =>
        have e1 : wrap64 (((i + 1 : Nat) : Int) - 1) = (i : Int) := by rw [wrap64_eq (by omega) (by omega)]; omega
        have e2 : (0 : Int) < ((i + 1 : Nat) : Int) := by omega
        have hi' : i < l.length := by omega
        simp only [e1, e2, decide_true, cond_true, idx_nat, List.getElem?_eq_getElem hi', Option.bind_some, wrap64_nat (show i + 1 < 9223372036854775807 by omega)]
        by_cases h2 : Lt l[i] l[i + 1]
        · have : okAt l (i + 1) = true := by simp [okAt, List.getElem?_eq_getElem hi, List.getElem?_eq_getElem hi', h1, h2]
          have h2a : ¬ l[i + 1].1 ≤ l[i].1 := by have := h2.1; omega
          have h2b : ¬ l[i + 1].2.2.1 ≤ l[i].2.2.1 := by have := h2.2; omega
          simp [this, h2a, h2b]
        · have : okAt l (i + 1) = false := by simp [okAt, List.getElem?_eq_getElem hi, List.getElem?_eq_getElem hi', h1, h2]
          by_cases h3 : l[i + 1].1 ≤ l[i].1
          · simp [this, h3]
          · by_cases h4 : l[i + 1].2.2.1 ≤ l[i].2.2.1
            · simp [this, h3, h4]
            · exact absurd ⟨by omega, by omega⟩ h2
    · have : okAt l i = false := by simp [okAt, List.getElem?_eq_getElem hi, h1]
      simp [h1, this]
  · simp [lt_len]
theorem F23_eq (l : List VerD) (hl : l.length ≤ 9223372036854775807) : F23 (l, ()) = some (decide (IsHist l), ()) := by
  unfold F23
  refine (iter_all (mk := fun i => ((i : Int), ())) (okAt l) (rt := (true, ())) (rf := (false, ())) hl (fun i hi => ?_) ?_).trans ?_
  rotate_left 2
  · rw [okAt_all]; cases decide (IsHist l) <;> rfl
  · simp only [lt_len, hi, decide_true, cond_true, idx_nat, List.getElem?_eq_getElem hi, Option.bind_some, F30_eq]
    by_cases h1 : VerOk l[i]
    · simp only [h1, decide_true, Bool.not_true, cond_false]
      cases i with
      | zero =>
        have : okAt l 0 = true := by simp [okAt, List.getElem?_eq_getElem hi, h1]
        simp [this, wrap64_nat]
        rfl
      | succ i =>
        have e1 : wrap64 (((i + 1 : Nat) : Int) - 1) = (i : Int) := by rw [wrap64_eq (by omega) (by omega)]; omega
        have e2 : (0 : Int) < ((i + 1 : Nat) : Int) := by omega
        have hi' : i < l.length := by omega
        simp only [e1, e2, decide_true, cond_true, idx_nat, List.getElem?_eq_getElem hi', Option.bind_some, wrap64_nat (show i + 1 < 9223372036854775807 by omega)]
        by_cases h2 : Lt l[i] l[i + 1]
        · have : okAt l (i + 1) = true := by simp [okAt, List.getElem?_eq_getElem hi, List.getElem?_eq_getElem hi', h1, h2]
          have h2a : ¬ l[i + 1].1 ≤ l[i].1 := by have := h2.1; omega
          have h2b : ¬ l[i + 1].2.2.1 ≤ l[i].2.2.1 := by have := h2.2; omega
          simp [this, h2a, h2b]
        · have : okAt l (i + 1) = false := by simp [okAt, List.getElem?_eq_getElem hi, List.getElem?_eq_getElem hi', h1, h2]
          by_cases h3 : l[i + 1].1 ≤ l[i].1
          · simp [this, h3]
          · by_cases h4 : l[i + 1].2.2.1 ≤ l[i].2.2.1
            · simp [this, h3, h4]
            · exact absurd ⟨by omega, by omega⟩ h2
    · have : okAt l i = false := by simp [okAt, List.getElem?_eq_getElem hi, h1]
      simp [h1, this]
  · simp [lt_len]
/-- few enough for all that is made of them -/
def Sm {α : Type} (l : List α) : Prop := l.length ≤ 1000000
theorem Sm.lt {α : Type} {l : List α} (h : Sm l) : l.length ≤ 9223372036854775807 := by unfold Sm at h; omega
theorem F31_eq (l : List VerD) (hl : Sm l) : F31 (l, ()) = some (l, ()) := by
  unfold Sm at hl
  unfold F31
  cases l with
  | nil => simp [appO_eq (l := ([] : List VerD)) (x := []) (by simp [capB]), bothE, both_same]
  | cons a l =>
    simp only [List.isEmpty_cons, cond_false]
    rw [appO_eq (by simp [capB] at hl ⊢; omega)]
    rfl
theorem F27_eq (l : List VerD) (v : VerD) (hl : Sm l) : F27 (l, v, ()) = some (if IsHist (l ++ [v]) then (l ++ [v], 0, ()) else ([], 1, ())) := by
  have hl' := hl
  unfold Sm at hl'
  unfold F27
  simp only [F31_eq l hl, Option.bind_some]
  rw [appO_eq (by simp [capB]; omega)]
  simp only [Option.bind_some]
  rw [F12_eq _ (by simp; omega)]
  by_cases h : IsHist (l ++ [v]) <;> simp [h]
theorem F28_eq (l : List VerD) (v : VerD) (hl : Sm l) : F28 (l, v, ()) = some (if IsHist (l ++ [v]) then (l ++ [v], true, ()) else ([], false, ())) := by
  have hl' := hl
  unfold Sm at hl'
  unfold F28
  simp only
  rw [appO_eq (by simp [capB]; omega)]
  simp only [Option.bind_some, List.nil_append]
  rw [appO_eq (by simp [capB]; omega)]
  simp only [Option.bind_some]
  rw [F23_eq _ (by simp; omega)]
  by_cases h : IsHist (l ++ [v]) <;> simp [h]
abbrev noV : VerD := (0, 0, 0, 0, [], 0, false, ())
/-- what a key is at a revision -/
def atH (l : List VerD) (r : Int) : VerD × Bool × Unit :=
  match (l.filter fun v => decide (v.1 ≤ r)).getLast? with
  | some v => if v.2.2.2.2.2.2.1 = true then (noV, false, ()) else (v, true, ())
  | none => (noV, false, ())
theorem foldl_last {α : Type} (p : α → Bool) : ∀ (l : List α) (d : α), l.foldl (fun a v => cond (p v) v a) d = (l.filter p).getLast?.getD d
  | [], d => rfl
  | v :: l, d => by
    rw [List.foldl_cons, foldl_last p l, List.filter_cons]
    cases h : p v with
    | false => simp
    | true =>
      simp only [cond_true, if_true, List.getLast?_cons]
      rfl
theorem F15_eq (l : List VerD) (r : Int) (hl : Sm l) : F15 (l, r, ()) = some (if IsHist l then atH l r else (noV, false, ())) := by
  unfold F15
  simp only [F12_eq l hl.lt, Option.bind_some]
  by_cases h : IsHist l
  · simp only [h, decide_true, cond_true, if_true]
    refine bind_of (iter_fold (l := l) (mk := fun i (a : VerD) => ((i : Int), a)) (g := fun a v => cond (decide (v.1 ≤ r)) v a) (K := fun a => Sum.inl a) (fun _ _ => True) hl.lt (fun i a v hv _ => ?_) (fun a _ => by simp [lt_len]) trivial) ?_
    · have hi := (List.getElem?_eq_some_iff.1 hv).1
      simp only [lt_len, hi, decide_true, cond_true, idx_nat, hv, Option.bind_some, wrap64_nat (show i < 9223372036854775807 by have := hl.lt; omega), and_true]
      cases decide (v.1 ≤ r) <;> rfl
    simp only [foldl_last, Sum.elim_inl]
    unfold atH
    cases hf : (l.filter fun v => decide (v.1 ≤ r)).getLast? with
    | none => simp
    | some v =>
      have hv : v ∈ l := by
        have := List.mem_of_getLast? hf
        exact (List.mem_filter.1 this).1
      have h1 : v.1 ≠ 0 := by have := (h.1 v hv).1; omega
      simp only [Option.getD_some, h1, decide_false, cond_false]
      cases v.2.2.2.2.2.2.1 <;> rfl
  · simp [h]
theorem F17_eq (l : List VerD) (hl : Sm l) : F17 (l, ()) = some (if IsHist l then atH l 1099511627776 else (noV, false, ())) := by
  unfold F17
  simp [F15_eq l _ hl]
theorem F16_eq (l : List VerD) (r : Int) (hl : Sm l) : F16 (l, r, ()) = some (if IsHist l then atH l r else (noV, false, ())) := by
  have hl' : l.length ≤ 1000000 := hl
  unfold F16
  simp only [F23_eq l hl.lt, Option.bind_some]
  by_cases h : IsHist l
  · simp only [h, decide_true, Bool.not_true, cond_false, if_true]
    have e0 : wrap64 (Int.ofNat l.length - 1) = (l.length : Int) - 1 - ((0 : Nat) : Int) := by rw [ofNat_len, wrap64_eq (by omega) (by omega)]; omega
    rw [e0]
    refine (iter_find (mk := fun (j : Nat) => ((l.length : Int) - 1 - (j : Int), noV)) (n := l.length) (t := fun j => (l.reverse[j]?).bind fun v => if decide (v.1 ≤ r) = true then some (if v.2.2.2.2.2.2.1 = true then (noV, false, ()) else (v, true, ())) else none) (r0 := (noV, false, ())) (fun i hi => ?_) ?_ (d := l.length) (i := 0) (m := big) (by omega) (by rw [big_eq]; omega)).trans ?_
    · have e1 : (0 : Int) ≤ (l.length : Int) - 1 - (i : Int) := by omega
      have e2 : (l.length : Int) - 1 - (i : Int) = ((l.length - 1 - i : Nat) : Int) := by omega
      have hi2 : l.length - 1 - i < l.length := by omega
      have e3 : l.reverse[i]? = some l[l.length - 1 - i] := by rw [List.getElem?_reverse hi, List.getElem?_eq_getElem hi2]
      have e4 : wrap64 (((l.length - 1 - i : Nat) : Int) - 1) = (l.length : Int) - 1 - ((i + 1 : Nat) : Int) := by rw [wrap64_eq (by omega) (by omega)]; omega
      simp only [e1, decide_true, cond_true, e2, idx_nat, List.getElem?_eq_getElem hi2, Option.bind_some, e3, e4]
      have e5 : decide ((0 : Int) ≤ ((l.length - 1 - i : Nat) : Int)) = true := by simp
      simp only [e5, cond_true]
      by_cases h1 : l[l.length - 1 - i].1 ≤ r
      · cases hg : l[l.length - 1 - i].2.2.2.2.2.2.1 <;> simp [h1, hg]
      · simp [h1]
    · have e1 : decide ((0 : Int) ≤ (l.length : Int) - 1 - (l.length : Int)) = false := decide_eq_false (by omega)
      simp only [e1, cond_false]
    · rw [show l.length = l.reverse.length from by simp, findSome_index (fun v => if decide (v.1 ≤ r) = true then some (if v.2.2.2.2.2.2.1 = true then (noV, false, ()) else (v, true, ())) else none) l.reverse 0 _ (fun j v hv => by rw [Nat.zero_add, hv]; rfl), findSome_filter, List.filter_reverse, List.head?_reverse]
      unfold atH
      cases (l.filter fun v => decide (v.1 ≤ r)).getLast? <;> simp
  · simp [h]
def inR (a b : Int) (v : VerD) : Bool := decide (a ≤ v.1 ∧ v.1 ≤ b)
theorem F18_eq (l : List VerD) (a b : Int) (hl : Sm l) : F18 (l, a, b, ()) = some (if IsHist l then l.filter (inR a b) else [], ()) := by
  have hl' : l.length ≤ 1000000 := hl
  unfold F18
  simp only [F12_eq l hl.lt, Option.bind_some]
  by_cases h : IsHist l
  · simp only [h, decide_true, cond_true, if_true]
    refine (iter_fold (l := l) (mk := fun i (o : List VerD) => (o, (i : Int), ())) (g := fun o v => cond (inR a b v) (o ++ [v]) o) (K := fun o => (o, ())) (a := []) (fun i o => o.length ≤ i) hl.lt (fun i o v hv ho => ?_) (fun o _ => by simp [lt_len]) (by simp)).trans ?_
    · have hi := (List.getElem?_eq_some_iff.1 hv).1
      have ha : appO o [v] = some (o ++ [v]) := appO_eq (by simp [capB]; omega)
      simp only [lt_len, hi, decide_true, cond_true, idx_nat, hv, Option.bind_some, wrap64_nat (show i < 9223372036854775807 by omega), ha, inR]
      by_cases h1 : a ≤ v.1 <;> by_cases h2 : v.1 ≤ b <;> simp [h1, h2] <;> omega
    · rw [foldl_filter]; simp
  · simp [h]
theorem F19_eq (l : List VerD) (a b : Int) (hl : Sm l) : F19 (l, a, b, ()) = some (if IsHist l then l.filter (inR a b) else [], ()) := by
  have hl' : l.length ≤ 1000000 := hl
  unfold F19
  refine (iter_fold (l := l) (mk := fun i (o : List VerD) => (o, (i : Int), ())) (g := fun o v => cond (decide (IsHist l) && inR a b v) (o ++ [v]) o) (K := fun o => (o, ())) (a := []) (fun i o => o.length ≤ i) hl.lt (fun i o v hv ho => ?_) (fun o _ => by simp [lt_len]) (by simp)).trans ?_
  · have hi := (List.getElem?_eq_some_iff.1 hv).1
    have ha : appO o [v] = some (o ++ [v]) := appO_eq (by simp [capB]; omega)
    simp only [lt_len, hi, decide_true, cond_true, idx_nat, hv, Option.bind_some, wrap64_nat (show i < 9223372036854775807 by omega), ha, inR, F23_eq l hl.lt]
    by_cases h : IsHist l
    · by_cases h1 : a ≤ v.1 <;> by_cases h2 : v.1 ≤ b <;> simp [h, h1, h2] <;> omega
    · simp [h]; omega
  · rw [foldl_filter]
    by_cases h : IsHist l <;> simp [h]
theorem F14_eq (a b : List VerD) (hl : Sm a) : F14 (a, b, ()) = some (decide (a = b), ()) := by
  have hl' : a.length ≤ 1000000 := hl
  unfold F14
  by_cases hn : a.length = b.length
  · have e : decide (Int.ofNat a.length = Int.ofNat b.length) = true := by simp [hn]
    simp only [e, Bool.not_true, cond_false]
    refine (iter_all (mk := fun i => ((i : Int), ())) (fun i => decide (a[i]? = b[i]?)) (rt := (true, ())) (rf := (false, ())) hl.lt (fun i hi => ?_) ?_).trans ?_
    · have hi' : i < b.length := by omega
      simp only [lt_len, hi, decide_true, cond_true, idx_nat, List.getElem?_eq_getElem hi, List.getElem?_eq_getElem hi', Option.bind_some, wrap64_nat (show i < 9223372036854775807 by omega)]
      generalize a[i] = u
      generalize b[i] = v
      obtain ⟨u1, u2, u3, u4, u5, u6, u7, _⟩ := u
      obtain ⟨v1, v2, v3, v4, v5, v6, v7, _⟩ := v
      by_cases h1 : u1 = v1
      · by_cases h2 : u2 = v2
        · by_cases h3 : u3 = v3
          · by_cases h4 : u4 = v4
            · by_cases h5 : u5 = v5
              · by_cases h6 : u6 = v6
                · by_cases h7 : u7 = v7
                  · simp [h1, h2, h3, h4, h5, h6, h7]
                  · have h8 : (u7 == v7) = false := by simpa using h7
                    simp [h1, h2, h3, h4, h5, h6, h7, h8]
                · simp [h1, h2, h3, h4, h5, h6]
              · simp [h1, h2, h3, h4, h5]
            · simp [h1, h2, h3, h4]
          · simp [h1, h2, h3]
        · simp [h1, h2]
      · simp [h1]
    · simp [lt_len]
    · have : (List.range a.length).all (fun i => decide (a[i]? = b[i]?)) = decide (a = b) := by
        rw [Bool.eq_iff_iff, List.all_eq_true, decide_eq_true_eq]
        constructor
        · intro h
          apply List.ext_getElem?
          intro i
          by_cases hi : i < a.length
          · exact of_decide_eq_true (h i (List.mem_range.2 hi))
          · rw [List.getElem?_eq_none (by omega), List.getElem?_eq_none (by omega)]
        · rintro rfl i _; simp
      rw [this]
      cases decide (a = b) <;> rfl
  · have e : decide (Int.ofNat a.length = Int.ofNat b.length) = false := by
      simp only [decide_eq_false_iff_not]; exact fun h => hn (Int.ofNat.inj h)
    have : a ≠ b := fun h => hn (by rw [h])
    simp only [e, Bool.not_false, cond_true, this, decide_false]
end Go.Proofs.Ytmbofdkjeobhjaa
