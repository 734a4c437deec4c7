/-
  Histories: the program's and the document's, as plain words (for seats that reach the hist package).
-/
import Derived.Test.YtphdilmnielgeaaIndexOk
import Derived.Test.YtphdilmnielgeaaSxS
namespace Go.Proofs.Ytphdilmnielgeaa
open Go.Sx Go Classical
set_option maxRecDepth 10000
abbrev VerD : Type := Int × Int × Int × Int × List UInt8 × Int × Bool × Unit
def VerOk (v : VerD) : Prop :=
  1 ≤ v.1 ∧ v.1 ≤ 1099511627776 ∧ 1 ≤ v.2.2.1 ∧ v.2.2.1 ≤ 1099511627776 ∧
  (if v.2.2.2.2.2.2.1 = true then v.2.1 = 0 ∧ v.2.2.2.1 = 0 ∧ v.2.2.2.2.2.1 = 0 ∧ v.2.2.2.2.1 = []
   else 1 ≤ v.2.1 ∧ v.2.1 ≤ v.2.2.1 ∧ 1 ≤ v.2.2.2.1 ∧ v.2.2.2.1 ≤ 1099511627776 ∧ v.2.2.2.2.1.length ≤ 40 ∧ -1099511627776 ≤ v.2.2.2.2.2.1 ∧ v.2.2.2.2.2.1 ≤ 1099511627776)
def Lt (u v : VerD) : Prop := u.1 < v.1 ∧ u.2.2.1 < v.2.2.1
def IsHist (l : List VerD) : Prop := (∀ v ∈ l, VerOk v) ∧ l.Pairwise Lt
theorem hNumber_eq (n : Int) : F99 (n, ()) = some (decide (1 ≤ n ∧ n ≤ 1099511627776), ()) := by
  unfold F99
  by_cases h : 1 ≤ n <;> simp [h]
theorem hVer_eq (v : VerD) : F92 (v, ()) = some (decide (VerOk v), ()) := by
  obtain ⟨a, b, c, d, e, f, g, u⟩ := v
  unfold F92 VerOk
  simp only [hNumber_eq, Option.bind_some]
  by_cases h1 : 1 ≤ a ∧ a ≤ 1099511627776
  · by_cases h2 : 1 ≤ c ∧ c ≤ 1099511627776
    · cases g with
      | true =>
        by_cases h3 : b = 0 <;> by_cases h4 : d = 0 <;> by_cases h5 : f = 0 <;> simp [h1, h2, h3, h4, h5]
      | false =>
        by_cases h3 : 1 ≤ b <;> by_cases h4 : b ≤ c <;> by_cases h5 : 1 ≤ d ∧ d ≤ 1099511627776 <;> by_cases h6 : (e.length : Int) ≤ 40 <;> by_cases h7 : -1099511627776 ≤ f <;> simp [h1, h2, h3, h4, h5, h6, h7] <;> omega
    · have : ¬ (1 ≤ c ∧ c ≤ 1099511627776) := h2
      simp [h1, h2]
      omega
  · simp [h1]
    omega
theorem rVer_eq (v : VerD) : F58 (v, ()) = some (decide (VerOk v), ()) := by
  obtain ⟨a, b, c, d, e, f, g, u⟩ := v
  unfold F58 VerOk
  by_cases h1 : a < 1
  · simp [h1]; omega
  · by_cases h2 : 1099511627776 < a
    · simp [h1, h2]; omega
    · by_cases h3 : c < 1
      · simp [h1, h2, h3]; omega
      · by_cases h4 : 1099511627776 < c
        · simp [h1, h2, h3, h4]; omega
        · have a1 : 1 ≤ a := by omega
          have a2 : a ≤ 1099511627776 := by omega
          have a3 : 1 ≤ c := by omega
          have a4 : c ≤ 1099511627776 := by omega
          cases g with
          | true => by_cases h5 : b = 0 <;> by_cases h6 : d = 0 <;> by_cases h7 : f = 0 <;> simp [h1, h2, h3, h4, h5, h6, h7, a1, a2, a3, a4]
          | false =>
            by_cases h5 : 1 ≤ b <;> by_cases h6 : b ≤ c <;> by_cases h7 : 1 ≤ d <;> by_cases h8 : d ≤ 1099511627776 <;> by_cases h9 : (e.length : Int) ≤ 40 <;> by_cases h10 : -1099511627776 ≤ f <;> simp [h1, h2, h3, h4, h5, h6, h7, h8, h9, h10, a1, a2, a3, a4] <;> omega
/-- what is asked at a place -/
noncomputable def okAt (l : List VerD) (i : Nat) : Bool := decide (∀ v, l[i]? = some v → VerOk v ∧ (0 < i → ∀ u, l[i - 1]? = some u → Lt u v))
theorem okAt_all (l : List VerD) : (List.range l.length).all (okAt l) = decide (IsHist l) := by
  rw [Bool.eq_iff_iff, List.all_eq_true, decide_eq_true_eq]
  simp only [okAt, decide_eq_true_eq, List.mem_range]
  constructor
  · intro h
    refine ⟨fun v hv => ?_, ?_⟩
    · obtain ⟨i, hi, rfl⟩ := List.getElem_of_mem hv
      exact (h i hi _ (List.getElem?_eq_getElem hi)).1
    · have adj : ∀ i, i + 1 < l.length → ∀ u v, l[i]? = some u → l[i + 1]? = some v → Lt u v := fun i hi u v hu hv => (h (i + 1) hi v hv).2 (by omega) u (by simpa using hu)
      have tr : ∀ d i u v, l[i]? = some u → l[i + 1 + d]? = some v → Lt u v := by
        intro d
        induction d with
        | zero => intro i u v hu hv; exact adj i (List.getElem?_eq_some_iff.1 hv).1 u v hu hv
        | succ d ih =>
          intro i u v hu hv
          have hlt := (List.getElem?_eq_some_iff.1 hv).1
          have hm := List.getElem?_eq_getElem (l := l) (i := i + 1 + d) (by omega)
          have h1 := ih i u _ hu hm
          have h2 := adj (i + 1 + d) (by omega) _ v hm (by rwa [show i + 1 + (d + 1) = i + 1 + d + 1 from by omega] at hv)
          exact ⟨Int.lt_trans h1.1 h2.1, Int.lt_trans h1.2 h2.2⟩
      rw [List.pairwise_iff_getElem]
      intro i j hi hj hij
      exact tr (j - i - 1) i _ _ (List.getElem?_eq_getElem hi) (by rw [show i + 1 + (j - i - 1) = j from by omega]; exact List.getElem?_eq_getElem hj)
  · rintro ⟨h1, h2⟩ i hi v hv
    refine ⟨h1 v (List.mem_of_getElem? hv), fun h0 u hu => ?_⟩
    rw [List.pairwise_iff_getElem] at h2
    have hu' := List.getElem?_eq_some_iff.1 hu
    have hv' := List.getElem?_eq_some_iff.1 hv
    have := h2 (i - 1) i hu'.1 hv'.1 (by omega)
    rwa [hu'.2, hv'.2] at this
theorem hRight_eq (l : List VerD) (hl : l.length ≤ 9223372036854775807) : F84 (l, ()) = some (decide (IsHist l), ()) := by
  unfold F84
  refine (iter_all (mk := fun i => ((i : Int), ())) (okAt l) (rt := (true, ())) (rf := (false, ())) hl (fun i hi => ?_) ?_).trans ?_
  rotate_left 2
  · rw [okAt_all]; cases decide (IsHist l) <;> rfl
  · simp only [lt_len, hi, decide_true, cond_true, idx_nat, List.getElem?_eq_getElem hi, Option.bind_some, hVer_eq]
    by_cases h1 : VerOk l[i]
    · simp only [h1, decide_true, Bool.not_true, cond_false]
      cases i with
      | zero =>
        have : okAt l 0 = true := by simp [okAt, List.getElem?_eq_getElem hi, h1]
        simp [this, wrap64_nat]
        rfl
      | succ i =>
        have e1 : wrap64 (((i + 1 : Nat) : Int) - 1) = (i : Int) := by rw [wrap64_eq (by omega) (by omega)]; omega
        have e2 : (0 : Int) < ((i + 1 : Nat) : Int) := by omega
        have hi' : i < l.length := by omega
        simp only [e1, e2, decide_true, cond_true, idx_nat, List.getElem?_eq_getElem hi', Option.bind_some, wrap64_nat (show i + 1 < 9223372036854775807 by omega)]
        by_cases h2 : Lt l[i] l[i + 1]
        · have : okAt l (i + 1) = true := by simp [okAt, List.getElem?_eq_getElem hi, List.getElem?_eq_getElem hi', h1, h2]
          have h2a : ¬ l[i + 1].1 ≤ l[i].1 := by have := h2.1; omega
          have h2b : ¬ l[i + 1].2.2.1 ≤ l[i].2.2.1 := by have := h2.2; omega
          simp [this, h2a, h2b]
        · have : okAt l (i + 1) = false := by simp [okAt, List.getElem?_eq_getElem hi, List.getElem?_eq_getElem hi', h1, h2]
          by_cases h3 : l[i + 1].1 ≤ l[i].1
          · simp [this, h3]
          · by_cases h4 : l[i + 1].2.2.1 ≤ l[i].2.2.1
            · simp [this, h3, h4]
            · exact absurd ⟨by omega, by omega⟩ h2
    · have : okAt l i = false := by simp [okAt, List.getElem?_eq_getElem hi, h1]
      simp [h1, this]
  · simp [lt_len]
theorem rRight_eq (l : List VerD) (hl : l.length ≤ 9223372036854775807) : F28 (l, ()) = some (decide (IsHist l), ()) := by
  unfold F28
  refine (iter_all (mk := fun i => ((i : Int), ())) (okAt l) (rt := (true, ())) (rf := (false, ())) hl (fun i hi => ?_) ?_).trans ?_
  rotate_left 2
  · rw [okAt_all]; cases decide (IsHist l) <;> rfl
  · simp only [lt_len, hi, decide_true, cond_true, idx_nat, List.getElem?_eq_getElem hi, Option.bind_some, rVer_eq]
    by_cases h1 : VerOk l[i]
    · simp only [h1, decide_true, Bool.not_true, cond_false]
      cases i with
      | zero =>
        have : okAt l 0 = true := by simp [okAt, List.getElem?_eq_getElem hi, h1]
        simp [this, wrap64_nat]
        rfl
      | succ i =>
        have e1 : wrap64 (((i + 1 : Nat) : Int) - 1) = (i : Int) := by rw [wrap64_eq (by omega) (by omega)]; omega
        have e2 : (0 : Int) < ((i + 1 : Nat) : Int) := by omega
        have hi' : i < l.length := by omega
        simp only [e1, e2, decide_true, cond_true, idx_nat, List.getElem?_eq_getElem hi', Option.bind_some, wrap64_nat (show i + 1 < 9223372036854775807 by omega)]
        by_cases h2 : Lt l[i] l[i + 1]
        · have : okAt l (i + 1) = true := by simp [okAt, List.getElem?_eq_getElem hi, List.getElem?_eq_getElem hi', h1, h2]
          have h2a : ¬ l[i + 1].1 ≤ l[i].1 := by have := h2.1; omega
          have h2b : ¬ l[i + 1].2.2.1 ≤ l[i].2.2.1 := by have := h2.2; omega
          simp [this, h2a, h2b]
        · have : okAt l (i + 1) = false := by simp [okAt, List.getElem?_eq_getElem hi, List.getElem?_eq_getElem hi', h1, h2]
          by_cases h3 : l[i + 1].1 ≤ l[i].1
          · simp [this, h3]
          · by_cases h4 : l[i + 1].2.2.1 ≤ l[i].2.2.1
            · simp [this, h3, h4]
            · exact absurd ⟨by omega, by omega⟩ h2
    · have : okAt l i = false := by simp [okAt, List.getElem?_eq_getElem hi, h1]
      simp [h1, this]
  · simp [lt_len]
/-- few enough for all that is made of them -/
def Smal {α : Type} (l : List α) : Prop := l.length ≤ 1000000
theorem Smal.lt {α : Type} {l : List α} (h : Smal l) : l.length ≤ 9223372036854775807 := by unfold Smal at h; omega
theorem hClone_eq (l : List VerD) (hl : Smal l) : F57 (l, ()) = some (l, ()) := by
  unfold Smal at hl
  unfold F57
  cases l with
  | nil => simp [appO_eq (l := ([] : List VerD)) (x := []) (by simp [capB]), bothE, both_same]
  | cons a l =>
    simp only [List.isEmpty_cons, cond_false]
    rw [appO_eq (by simp [capB] at hl ⊢; omega)]
    rfl
theorem hAdd_eq (l : List VerD) (v : VerD) (hl : Smal l) : F79 (l, v, ()) = some (if IsHist (l ++ [v]) then (l ++ [v], 0, ()) else ([], 1, ())) := by
  have hl' := hl
  unfold Smal at hl'
  unfold F79
  simp only [hClone_eq l hl, Option.bind_some]
  rw [appO_eq (by simp [capB]; omega)]
  simp only [Option.bind_some]
  rw [hRight_eq _ (by simp; omega)]
  by_cases h : IsHist (l ++ [v]) <;> simp [h]
theorem rAdd_eq (l : List VerD) (v : VerD) (hl : Smal l) : F80 (l, v, ()) = some (if IsHist (l ++ [v]) then (l ++ [v], true, ()) else ([], false, ())) := by
  have hl' := hl
  unfold Smal at hl'
  unfold F80
  simp only
  rw [appO_eq (by simp [capB]; omega)]
  simp only [Option.bind_some, List.nil_append]
  rw [appO_eq (by simp [capB]; omega)]
  simp only [Option.bind_some]
  rw [rRight_eq _ (by simp; omega)]
  by_cases h : IsHist (l ++ [v]) <;> simp [h]
abbrev noV : VerD := (0, 0, 0, 0, [], 0, false, ())
/-- what a key is at a revision -/
def atH (l : List VerD) (r : Int) : VerD × Bool × Unit :=
  match (l.filter fun v => decide (v.1 ≤ r)).getLast? with
  | some v => if v.2.2.2.2.2.2.1 = true then (noV, false, ()) else (v, true, ())
  | none => (noV, false, ())
theorem foldl_last {α : Type} (p : α → Bool) : ∀ (l : List α) (d : α), l.foldl (fun a v => cond (p v) v a) d = (l.filter p).getLast?.getD d
  | [], d => rfl
  | v :: l, d => by
    rw [List.foldl_cons, foldl_last p l, List.filter_cons]
    cases h : p v with
    | false => simp
    | true =>
      simp only [cond_true, if_true, List.getLast?_cons]
      rfl
theorem hAt_eq (l : List VerD) (r : Int) (hl : Smal l) : F60 (l, r, ()) = some (if IsHist l then atH l r else (noV, false, ())) := by
  unfold F60
  simp only [hRight_eq l hl.lt, Option.bind_some]
  by_cases h : IsHist l
  · simp only [h, decide_true, cond_true, if_true]
    refine bind_of (iter_fold (l := l) (mk := fun i (a : VerD) => ((i : Int), a)) (g := fun a v => cond (decide (v.1 ≤ r)) v a) (K := fun a => Sum.inl a) (fun _ _ => True) hl.lt (fun i a v hv _ => ?_) (fun a _ => by simp [lt_len]) trivial) ?_
    · have hi := (List.getElem?_eq_some_iff.1 hv).1
      simp only [lt_len, hi, decide_true, cond_true, idx_nat, hv, Option.bind_some, wrap64_nat (show i < 9223372036854775807 by have := hl.lt; omega), and_true]
      cases decide (v.1 ≤ r) <;> rfl
    simp only [foldl_last, Sum.elim_inl]
    unfold atH
    cases hf : (l.filter fun v => decide (v.1 ≤ r)).getLast? with
    | none => simp
    | some v =>
      have hv : v ∈ l := by
        have := List.mem_of_getLast? hf
        exact (List.mem_filter.1 this).1
      have h1 : v.1 ≠ 0 := by have := (h.1 v hv).1; omega
      simp only [Option.getD_some, h1, decide_false, cond_false]
      cases v.2.2.2.2.2.2.1 <;> rfl
  · simp [h]
theorem hLive_eq (l : List VerD) (hl : Smal l) : F53 (l, ()) = some (if IsHist l then atH l 1099511627776 else (noV, false, ())) := by
  unfold F53
  simp [hAt_eq l _ hl]
theorem rAt_eq (l : List VerD) (r : Int) (hl : Smal l) : F54 (l, r, ()) = some (if IsHist l then atH l r else (noV, false, ())) := by
  have hl' : l.length ≤ 1000000 := hl
  unfold F54
  simp only [rRight_eq l hl.lt, Option.bind_some]
  by_cases h : IsHist l
  · simp only [h, decide_true, Bool.not_true, cond_false, if_true]
    have e0 : wrap64 (Int.ofNat l.length - 1) = (l.length : Int) - 1 - ((0 : Nat) : Int) := by rw [ofNat_len, wrap64_eq (by omega) (by omega)]; omega
    rw [e0]
    refine (iter_find (mk := fun (j : Nat) => ((l.length : Int) - 1 - (j : Int), noV)) (n := l.length) (t := fun j => (l.reverse[j]?).bind fun v => if decide (v.1 ≤ r) = true then some (if v.2.2.2.2.2.2.1 = true then (noV, false, ()) else (v, true, ())) else none) (r0 := (noV, false, ())) (fun i hi => ?_) ?_ (d := l.length) (i := 0) (m := big) (by omega) (by rw [big_eq]; omega)).trans ?_
    · have e1 : (0 : Int) ≤ (l.length : Int) - 1 - (i : Int) := by omega
      have e2 : (l.length : Int) - 1 - (i : Int) = ((l.length - 1 - i : Nat) : Int) := by omega
      have hi2 : l.length - 1 - i < l.length := by omega
      have e3 : l.reverse[i]? = some l[l.length - 1 - i] := by rw [List.getElem?_reverse hi, List.getElem?_eq_getElem hi2]
      have e4 : wrap64 (((l.length - 1 - i : Nat) : Int) - 1) = (l.length : Int) - 1 - ((i + 1 : Nat) : Int) := by rw [wrap64_eq (by omega) (by omega)]; omega
      simp only [e1, decide_true, cond_true, e2, idx_nat, List.getElem?_eq_getElem hi2, Option.bind_some, e3, e4]
      have e5 : decide ((0 : Int) ≤ ((l.length - 1 - i : Nat) : Int)) = true := by simp
      simp only [e5, cond_true]
      by_cases h1 : l[l.length - 1 - i].1 ≤ r
      · cases hg : l[l.length - 1 - i].2.2.2.2.2.2.1 <;> simp [h1, hg]
      · simp [h1]
    · have e1 : decide ((0 : Int) ≤ (l.length : Int) - 1 - (l.length : Int)) = false := decide_eq_false (by omega)
      simp only [e1, cond_false]
    · rw [show l.length = l.reverse.length from by simp, findSome_index (fun v => if decide (v.1 ≤ r) = true then some (if v.2.2.2.2.2.2.1 = true then (noV, false, ()) else (v, true, ())) else none) l.reverse 0 _ (fun j v hv => by rw [Nat.zero_add, hv]; rfl), findSome_filter, List.filter_reverse, List.head?_reverse]
      unfold atH
      cases (l.filter fun v => decide (v.1 ≤ r)).getLast? <;> simp
  · simp [h]
def inR (a b : Int) (v : VerD) : Bool := decide (a ≤ v.1 ∧ v.1 ≤ b)
theorem hist_filter {l : List VerD} (h : IsHist l) : l.filter (fun v => decide (v.1 ≤ 1099511627776)) = l :=
  List.filter_eq_self.2 fun v hv => decide_eq_true (h.1 v hv).2.1
theorem atH_live {l : List VerD} (h : IsHist l) : atH l 1099511627776 = match l.getLast? with
  | some v => if v.2.2.2.2.2.2.1 = true then (noV, false, ()) else (v, true, ())
  | none => (noV, false, ()) := by
  unfold atH
  rw [hist_filter h]
  all_goals (cases l.getLast? <;> rfl)
theorem opt_cases {α : Type} (o : Option α) : o = none ∨ ∃ w, o = some w := by cases o <;> simp
/-- the version that a value makes -/
def putV (h : List VerD) (rev mod : Int) (value : List UInt8) (lease : Int) : VerD :=
  match h.getLast? with
  | some w => if w.2.2.2.2.2.2.1 = true then (rev, mod, mod, 1, value, lease, false, ()) else (rev, w.2.1, mod, wrap64 (w.2.2.2.1 + 1), value, lease, false, ())
  | none => (rev, mod, mod, 1, value, lease, false, ())
theorem hPut_eq {h : List VerD} (hh : IsHist h) (hl : Smal h) (rev mod : Int) (value : List UInt8) (lease : Int) :
    F73 (h, rev, mod, value, lease, ()) = some (if IsHist (h ++ [putV h rev mod value lease]) then (h ++ [putV h rev mod value lease], 0, ()) else ([], 1, ())) := by
  unfold F73
  simp only [hLive_eq h hl, hh, if_true, Option.bind_some, atH_live hh, putV]
  rcases opt_cases h.getLast? with hg | ⟨w, hg⟩
  · simp [hg, hAdd_eq h _ hl]
  · rcases Bool.eq_false_or_eq_true w.2.2.2.2.2.2.1 with hw | hw <;> simp [hg, hw, hAdd_eq h _ hl]
theorem last_idx {α : Type} (l : List α) (h0 : 0 < l.length) (hl : l.length ≤ 1000000) : idx l (wrap64 (Int.ofNat l.length - 1)) = l.getLast? := by
  have e : wrap64 (Int.ofNat l.length - 1) = ((l.length - 1 : Nat) : Int) := by rw [ofNat_len, wrap64_eq (by omega) (by omega)]; omega
  rw [e, idx_nat, List.getLast?_eq_getElem?]
theorem rPut_eq {h : List VerD} (hh : IsHist h) (hl : Smal h) (rev mod : Int) (value : List UInt8) (lease : Int) :
    F75 (h, rev, mod, value, lease, ()) = some (if IsHist (h ++ [putV h rev mod value lease]) then (h ++ [putV h rev mod value lease], true, ()) else ([], false, ())) := by
  unfold F75
  simp only
  by_cases h0 : 0 < h.length
  · have e0 : decide ((0 : Int) < Int.ofNat h.length) = true := decide_eq_true (by simp; omega)
    obtain ⟨w, hw⟩ : ∃ w, h.getLast? = some w := by
      cases hx : h.getLast? with
      | none => rw [List.getLast?_eq_none_iff] at hx; subst hx; simp at h0
      | some w => exact ⟨w, rfl⟩
    simp only [e0, cond_true, last_idx h h0 hl, hw, Option.bind_some, putV]
    rcases Bool.eq_false_or_eq_true w.2.2.2.2.2.2.1 with hg | hg
    · simp [hg, rAdd_eq h _ hl]
    · simp only [hg, Bool.not_false, cond_true, Bool.false_eq_true, if_false]
      by_cases hv : 1099511627776 ≤ w.2.2.2.1
      · have hmem : w ∈ h := List.mem_of_getLast? hw
        have hok := hh.1 w hmem
        have hno : ¬ IsHist (h ++ [(rev, w.2.1, mod, wrap64 (w.2.2.2.1 + 1), value, lease, false, ())]) := by
          intro hx
          have h1 := hx.1 (rev, w.2.1, mod, wrap64 (w.2.2.2.1 + 1), value, lease, false, ()) (by simp)
          have h2 := hok.2.2.2.2
          rw [hg] at h2
          simp only [if_false, Bool.false_eq_true] at h2
          have h3 := h1.2.2.2.2
          simp only [if_false, Bool.false_eq_true] at h3
          have := h3.2.2.2.1
          rw [wrap64_eq (by omega) (by omega)] at this
          omega
        simp [hv, hno]
      · simp [hv, rAdd_eq h _ hl]
  · have e0 : decide ((0 : Int) < Int.ofNat h.length) = false := decide_eq_false fun hc => h0 (Int.ofNat_lt.1 hc)
    have : h = [] := List.eq_nil_of_length_eq_zero (by omega)
    subst this
    simp only [e0, cond_false, Option.bind_some, Sum.elim_inl, putV, List.getLast?_nil]
    exact bind_of (rAdd_eq [] (rev, mod, mod, 1, value, lease, false, ()) hl) rfl
def delV (rev mod : Int) : VerD := (rev, 0, mod, 0, [], 0, true, ())
/-- is it there at last -/
def live (h : List VerD) : Bool :=
  match h.getLast? with
  | some w => !w.2.2.2.2.2.2.1
  | none => false
theorem hDel_eq {h : List VerD} (hh : IsHist h) (hl : Smal h) (rev mod : Int) :
    F76 (h, rev, mod, ()) = some (if IsHist (h ++ [delV rev mod]) then (if live h = true then (h ++ [delV rev mod], 0, ()) else ([], 6, ())) else ([], 1, ())) := by
  unfold F76
  simp only [show ((rev, 0, mod, 0, [], 0, true, ()) : VerD) = delV rev mod from rfl, hAdd_eq h _ hl, Option.bind_some]
  by_cases hx : IsHist (h ++ [delV rev mod])
  · simp only [hx, if_true, hLive_eq h hl, hh, Option.bind_some, atH_live hh, live]
    rcases opt_cases h.getLast? with hg | ⟨w, hg⟩
    · simp [hg]
    · rcases Bool.eq_false_or_eq_true w.2.2.2.2.2.2.1 with hw | hw <;> simp [hg, hw]
  · simp [hx]
theorem rDel_eq {h : List VerD} (hh : IsHist h) (hl : Smal h) (rev mod : Int) :
    F78 (h, rev, mod, ()) = some (if IsHist (h ++ [delV rev mod]) then (if live h = true then (h ++ [delV rev mod], 0, ()) else ([], 6, ())) else ([], 1, ())) := by
  unfold F78
  simp only [show ((rev, 0, mod, 0, [], 0, true, ()) : VerD) = delV rev mod from rfl, rAdd_eq h _ hl, Option.bind_some]
  by_cases hx : IsHist (h ++ [delV rev mod])
  · simp only [hx, if_true, Bool.not_true, cond_false, live]
    by_cases h0 : 0 < h.length
    · have e0 : decide (Int.ofNat h.length = 0) = false := decide_eq_false (by simp; intro e; subst e; simp at h0)
      obtain ⟨w, hw⟩ : ∃ w, h.getLast? = some w := by
        cases hx : h.getLast? with
        | none => rw [List.getLast?_eq_none_iff] at hx; subst hx; simp at h0
        | some w => exact ⟨w, rfl⟩
      simp only [e0, cond_false, last_idx h h0 hl, hw, Option.bind_some]
      cases hg : w.2.2.2.2.2.2.1 <;> simp
    · have : h = [] := List.eq_nil_of_length_eq_zero (by omega)
      subst this
      simp
  · simp [hx]
theorem Smal.snoc {α : Type} {l : List α} {n : Nat} (h : l.length ≤ n) (hn : n ≤ 999999) (v : α) : Smal (l ++ [v]) := by
  show (l ++ [v]).length ≤ 1000000
  simp
  omega
theorem isHist_nil : IsHist [] := ⟨fun v h => by simp at h, List.Pairwise.nil⟩
/-- each version with the one behind it -/
def prs : List VerD → List (VerD × Option VerD)
  | [] => []
  | v :: r => (v, r.head?) :: prs r
theorem prs_len : ∀ l : List VerD, (prs l).length = l.length
  | [] => rfl
  | v :: r => by simp [prs, prs_len r]
theorem prs_get : ∀ (l : List VerD) (i : Nat), (prs l)[i]? = (l[i]?).map fun v => (v, l[i + 1]?)
  | [], i => by simp [prs]
  | v :: r, 0 => by cases r <;> simp [prs]
  | v :: r, i + 1 => by simp [prs, prs_get r i]
def keepT (f : Int) (p : VerD × Option VerD) : Bool :=
  decide (f < p.1.1) || (!(match p.2 with | some u => decide (u.1 ≤ f) | none => false) && !p.1.2.2.2.2.2.2.1)
def trimP (l : List VerD) (f : Int) : List VerD := ((prs l).filter (keepT f)).map (·.1)
/-- what is left above a floor -/
def trimH (l : List VerD) (f : Int) : List VerD := (if (atH l f).2.1 = true then [(atH l f).1] else []) ++ l.filter fun v => decide (f < v.1)
theorem atH_cons_gt {v : VerD} {r : List VerD} {f : Int} (hv : f < v.1) (hr : ∀ u ∈ r, Lt v u) : atH (v :: r) f = (noV, false, ()) := by
  unfold atH
  have : (v :: r).filter (fun v => decide (v.1 ≤ f)) = [] := by
    rw [List.filter_eq_nil_iff]
    intro u hu
    rcases List.mem_cons.1 hu with rfl | hu
    · simp; omega
    · have := (hr u hu).1
      simp; omega
  rw [this]
  rfl
theorem atH_cons_le {v : VerD} {r : List VerD} {f : Int} (hv : v.1 ≤ f) : atH (v :: r) f = match (r.filter fun v => decide (v.1 ≤ f)).getLast? with
  | some w => if w.2.2.2.2.2.2.1 = true then (noV, false, ()) else (w, true, ())
  | none => if v.2.2.2.2.2.2.1 = true then (noV, false, ()) else (v, true, ()) := by
  unfold atH
  rw [List.filter_cons, if_pos (by simpa using hv), List.getLast?_cons]
  cases (r.filter fun v => decide (v.1 ≤ f)).getLast? <;> rfl
theorem trim_eq : ∀ {l : List VerD}, l.Pairwise Lt → ∀ f, trimP l f = trimH l f
  | [], _, f => by simp [trimP, trimH, prs, atH]
  | v :: r, hl, f => by
    obtain ⟨h1, h2⟩ := List.pairwise_cons.1 hl
    have ih := trim_eq h2 f
    have e1 : trimP (v :: r) f = (if keepT f (v, r.head?) = true then [v] else []) ++ trimP r f := by
      unfold trimP
      rw [prs, List.filter_cons]
      split <;> simp
    rw [e1, ih]
    by_cases hv : f < v.1
    · have hk : keepT f (v, r.head?) = true := by simp [keepT, hv]
      have hr : atH r f = (noV, false, ()) := by
        unfold atH
        have : r.filter (fun v => decide (v.1 ≤ f)) = [] := by
          rw [List.filter_eq_nil_iff]
          intro u hu
          have := (h1 u hu).1
          simp; omega
        rw [this]
        rfl
      unfold trimH
      rw [hr, atH_cons_gt hv h1, List.filter_cons]
      simp [hk, hv]
    · have hv' : v.1 ≤ f := by omega
      have hf : (v :: r).filter (fun v => decide (f < v.1)) = r.filter fun v => decide (f < v.1) := by
        rw [List.filter_cons]; simp [hv]
      unfold trimH
      rw [hf, atH_cons_le hv']
      cases r with
      | nil =>
        cases hg : v.2.2.2.2.2.2.1 <;> simp [keepT, hv, hg, atH]
      | cons u r' =>
        by_cases hu : u.1 ≤ f
        · have hk : keepT f (v, (u :: r').head?) = false := by simp [keepT, hv, hu]
          have hne : ((u :: r').filter fun v => decide (v.1 ≤ f)).getLast? ≠ none := by
            rw [List.filter_cons, if_pos (by simpa using hu)]; simp
          rw [hk]
          unfold atH
          cases hx : ((u :: r').filter fun v => decide (v.1 ≤ f)).getLast? with
          | none => exact absurd hx hne
          | some w => simp
        · have hnil : (u :: r').filter (fun v => decide (v.1 ≤ f)) = [] := by
            rw [List.filter_eq_nil_iff]
            intro z hz
            rcases List.mem_cons.1 hz with rfl | hz
            · simpa using hu
            · have := ((List.pairwise_cons.1 h2).1 z hz).1
              simp; omega
          unfold atH
          rw [hnil]
          cases hg : v.2.2.2.2.2.2.1 <;> simp [keepT, hv, hu, hg]
theorem hTrim_eq (l : List VerD) (f : Int) (hl : Smal l) : F70 (l, f, ()) = some (if IsHist l then trimH l f else [], ()) := by
  have hl' : l.length ≤ 1000000 := hl
  unfold F70
  simp only [hRight_eq l hl.lt, Option.bind_some]
  by_cases h : IsHist l
  · simp only [h, decide_true, Bool.not_true, cond_false, if_true]
    refine (iter_fold (l := prs l) (mk := fun i (o : List VerD) => (o, (i : Int), ())) (g := fun o p => cond (keepT f p) (o ++ [p.1]) o) (K := fun o => (o, ())) (a := []) (fun i o => o.length ≤ i) (by rw [prs_len]; exact hl.lt) (fun i o p hp ho => ?_) (fun o _ => by simp [lt_len, prs_len]) (by simp)).trans ?_
    · rw [prs_get] at hp
      obtain ⟨v, hv, rfl⟩ := Option.map_eq_some_iff.1 hp
      have hi := (List.getElem?_eq_some_iff.1 hv).1
      have ha : appO o [v] = some (o ++ [v]) := appO_eq (by simp [capB]; omega)
      have hw := wrap64_nat (show i < 9223372036854775807 by omega)
      simp only [lt_len, hi, decide_true, cond_true, idx_nat, hv, Option.bind_some, hw]
      by_cases hn : i + 1 < l.length
      · obtain ⟨u, hu⟩ : ∃ u, l[i + 1]? = some u := ⟨_, List.getElem?_eq_getElem hn⟩
        simp only [hn, decide_true, cond_true, hu, Option.bind_some, Sum.elim_inl, ha, keepT]
        by_cases h1 : f < v.1
        · simp [h1]; omega
        · by_cases h2 : u.1 ≤ f
          · simp [h1, h2]; omega
          · cases hg : v.2.2.2.2.2.2.1 <;> simp [h1, h2, hg] <;> omega
      · have hu : l[i + 1]? = none := List.getElem?_eq_none (by omega)
        simp only [hn, decide_false, cond_false, hu, Option.bind_some, Sum.elim_inl, ha, keepT]
        by_cases h1 : f < v.1
        · simp [h1]; omega
        · cases hg : v.2.2.2.2.2.2.1 <;> simp [h1, hg] <;> omega
    · have e : ∀ (q : List (VerD × Option VerD)) (d : List VerD), q.foldl (fun o p => cond (keepT f p) (o ++ [p.1]) o) d = d ++ (q.filter (keepT f)).map (·.1) := by
        intro q
        induction q with
        | nil => intro d; simp
        | cons p q ih => intro d; rw [List.foldl_cons, ih, List.filter_cons]; cases keepT f p <;> simp
      rw [e, ← trim_eq h.2 f]
      simp [trimP]
  · simp [h]
theorem rTrim_eq (l : List VerD) (f : Int) (hl : Smal l) : F72 (l, f, ()) = some (if IsHist l then trimH l f else [], ()) := by
  have hl' : l.length ≤ 1000000 := hl
  unfold F72
  simp only [rRight_eq l hl.lt, Option.bind_some]
  by_cases h : IsHist l
  · simp only [h, decide_true, Bool.not_true, cond_false, if_true, rAt_eq l f hl, Option.bind_some]
    have loop : ∀ d : List VerD, d.length ≤ 1 → ∀ {R : Option (List VerD × Unit)}, R = some (d ++ l.filter (fun v => decide (f < v.1)), ()) → iterE (List VerD × Int × Unit)
              (List VerD × Unit)
              (fun (x_2 : List VerD × Int × Unit) =>
                bif decide (x_2.snd.fst < Int.ofNat (List.length l)) then
                  Option.bind (idx l x_2.snd.fst)
                    fun (b : VerD) =>
                    bif decide (f < b.fst) then
                      Option.bind (idx l x_2.snd.fst)
                        fun (b : VerD) =>
                        Option.bind (appO x_2.fst [b])
                          fun (b : List VerD) =>
                          some (Sum.inl (b, wrap64 (x_2.snd.fst + 1), ()))
                    else some (Sum.inl (x_2.fst, wrap64 (x_2.snd.fst + 1), ()))
                else some (Sum.inr (x_2.fst, ())))
              big (d, 0, ()) = R := by
      intro d hd R hR
      refine (iter_fold (l := l) (mk := fun i (o : List VerD) => (o, (i : Int), ())) (g := fun o v => cond (decide (f < v.1)) (o ++ [v]) o) (K := fun o => (o, ())) (a := d) (fun i o => o.length ≤ i + 1) hl.lt (fun i o v hv ho => ?_) (fun o _ => by simp [lt_len]) (by omega)).trans ?_
      · have hi := (List.getElem?_eq_some_iff.1 hv).1
        have ha : appO o [v] = some (o ++ [v]) := appO_eq (by simp [capB]; omega)
        simp only [lt_len, hi, decide_true, cond_true, idx_nat, hv, Option.bind_some, wrap64_nat (show i < 9223372036854775807 by omega), ha]
        by_cases h1 : f < v.1 <;> simp [h1] <;> omega
      · rw [foldl_filter, hR]
    unfold trimH
    cases hb : (atH l f).2.1 with
    | true =>
      simp only [cond_true, appO_eq (l := ([] : List VerD)) (x := [(atH l f).1]) (by simp [capB]), Option.bind_some, Sum.elim_inl, if_true]
      exact loop _ (by simp) rfl
    | false =>
      simp only [cond_false, Option.bind_some, Sum.elim_inl, if_false, Bool.false_eq_true]
      exact loop _ (by simp) rfl
  · simp [h]
theorem atH_mem {l : List VerD} {f : Int} (h : (atH l f).2.1 = true) : (atH l f).1 ∈ l ∧ (atH l f).1.1 ≤ f ∧ (atH l f).1.2.2.2.2.2.2.1 = false ∧ (l.filter fun v => decide (v.1 ≤ f)).getLast? = some (atH l f).1 := by
  unfold atH at h ⊢
  cases hx : (l.filter fun v => decide (v.1 ≤ f)).getLast? with
  | none => rw [hx] at h; simp at h
  | some w =>
    rw [hx] at h
    have hm := List.mem_filter.1 (List.mem_of_getLast? hx)
    cases hg : w.2.2.2.2.2.2.1 with
    | true => simp [hg] at h
    | false => simp only [hg, if_false, Bool.false_eq_true]; exact ⟨hm.1, by simpa using hm.2, by simp⟩
theorem trimH_len {l : List VerD} {f : Int} : (trimH l f).length ≤ l.length + 1 := by
  unfold trimH
  rw [List.length_append]
  have := List.length_filter_le (fun v => decide (f < v.1)) l
  split <;> simp <;> omega
theorem trimH_hist {l : List VerD} (h : IsHist l) (f : Int) : IsHist (trimH l f) := by
  unfold trimH
  have hf : IsHist (l.filter fun v => decide (f < v.1)) := ⟨fun v hv => h.1 v (List.mem_filter.1 hv).1, h.2.filter _⟩
  by_cases hb : (atH l f).2.1 = true
  · obtain ⟨m1, m2, _, _⟩ := atH_mem hb
    rw [if_pos hb]
    refine ⟨fun v hv => ?_, ?_⟩
    · rcases List.mem_append.1 hv with hv | hv
      · rw [List.mem_singleton.1 hv]; exact h.1 _ m1
      · exact hf.1 v hv
    · rw [List.pairwise_append]
      refine ⟨List.pairwise_singleton _ _, hf.2, fun u hu v hv => ?_⟩
      rw [List.mem_singleton.1 hu]
      obtain ⟨v1, v2⟩ := List.mem_filter.1 hv
      have hlt : (atH l f).1.1 < v.1 := by have := of_decide_eq_true v2; omega
      have hp := h.2
      rw [List.pairwise_iff_getElem] at hp
      obtain ⟨i, hi, ei⟩ := List.getElem_of_mem m1
      obtain ⟨j, hj, ej⟩ := List.getElem_of_mem v1
      rcases Nat.lt_trichotomy i j with hij | hij | hij
      · have := hp i j hi hj hij; rw [ei, ej] at this; exact this
      · subst hij; rw [ei] at ej; rw [ej] at hlt; omega
      · have := hp j i hj hi hij; rw [ei, ej] at this; have := this.1; omega
  · rw [if_neg hb]; exact hf
end Go.Proofs.Ytphdilmnielgeaa
