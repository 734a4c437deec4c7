/-
  hist: the plain laws, third part: the laws themselves.
-/
import Derived.Test.YtmbofdkjeobhjaaHistPlainA
namespace Go.Proofs.Ytmbofdkjeobhjaa
open Go.Sx Go Classical
set_option maxRecDepth 10000
/-- a loop of acts, what comes of the histories that it leaves -/
theorem acts {R : Type} {l : List ActD} {step : List VerD × Int × Unit → Option ((List VerD × Int × Unit) ⊕ R)} {r : R} (hl : l.length ≤ 40)
    (hs : ∀ (h : List VerD) (i : Nat) (a : ActD) (h' : List VerD), l[i]? = some a → F11 (h, a, ()) = some (h', true, ()) → step (h, (i : Int), ()) = some (.inl (h', wrap64 ((i : Int) + 1), ())))
    (hK : ∀ h : List VerD, IsHist h → h.length ≤ l.length → step (h, (l.length : Int), ()) = some (.inr r)) : iter step big ([], 0, ()) = some r := by
  have main : ∀ {d i m : Nat} {h : List VerD}, i + d = l.length → d < m → IsHist h → h.length ≤ i → iter step m (h, (i : Int), ()) = some r := by
    intro d
    induction d with
    | zero =>
      intro i m h hi hm hh hle
      cases m with
      | zero => omega
      | succ m =>
        have : i = l.length := by omega
        subst this
        simp [iter, hK h hh hle]
    | succ d ih =>
      intro i m h hi hm hh hle
      cases m with
      | zero => omega
      | succ m =>
        have hlt : i < l.length := by omega
        obtain ⟨h', e1, e2, e3⟩ := F11_eq hh hle (by omega) l[i]
        rw [iter, hs h i l[i] h' (List.getElem?_eq_getElem hlt) e1]
        simp only [Option.bind_some, Sum.elim_inl, wrap64_nat (show i < 9223372036854775807 by omega)]
        exact ih (by omega) (by omega) e2 e3
  exact main (d := l.length) (i := 0) (m := big) (by omega) (by rw [big_eq]; omega) isHist_nil (by simp)
theorem fit_len {l : List ActD} {P : Prop} (h : l.length ≤ Go.maxLen ∧ P) : l.length ≤ 9223372036854775807 := by
  have := h.1
  unfold Go.maxLen at this
  omega
theorem law3 (x : List ActD × Unit) (hx : Fit (argTy P3) x) : F3 x = some (true, ()) := by
  obtain ⟨l, u⟩ := x
  have hl := fit_len hx.1
  unfold F3
  simp only [F9_eq, Option.bind_some, Bool.not_true, cond_false]
  refine bind_of (F10_eq l hl) ?_
  cases hf : (List.range l.length).all (fewAt l) with
  | false => rfl
  | true =>
    have h40 := few_len hf
    simp only [Bool.not_true, cond_false]
    refine acts h40 (fun h i a h' ha hF => ?_) fun h hh hle => ?_
    · have hi := (List.getElem?_eq_some_iff.1 ha).1
      simp only [lt_len, hi, decide_true, cond_true, idx_nat, ha, Option.bind_some, hF, Bool.not_true, cond_false]
    · simp only [lt_len, Nat.lt_irrefl, decide_false, cond_false]
      rw [F12_eq h (by omega)]
      simp [hh]
theorem law5 (x : List ActD × Int × Int × Int × Unit) (hx : Fit (argTy P5) x) : F5 x = some (true, ()) := by
  obtain ⟨l, rev, a, b, u⟩ := x
  have hl := fit_len hx.1
  unfold F5
  simp only [F9_eq, Option.bind_some, Bool.not_true, cond_false]
  refine bind_of (F10_eq l hl) ?_
  cases hf : (List.range l.length).all (fewAt l) with
  | false => rfl
  | true =>
    have h40 := few_len hf
    simp only [Bool.not_true, cond_false]
    refine acts h40 (fun h i a h' ha hF => ?_) fun h hh hle => ?_
    · have hi := (List.getElem?_eq_some_iff.1 ha).1
      simp only [lt_len, hi, decide_true, cond_true, idx_nat, ha, Option.bind_some, hF, Bool.not_true, cond_false]
    · have hsm : Sm h := by show h.length ≤ 1000000; omega
      have hsf : Sm (h.filter (inR a b)) := Nat.le_trans (List.length_filter_le _ _) hsm
      simp only [lt_len, Nat.lt_irrefl, decide_false, cond_false, F15_eq h _ hsm, F16_eq h _ hsm, F17_eq h hsm, F18_eq h _ _ hsm, F19_eq h _ _ hsm, hh, if_true, Option.bind_some, F14_eq _ _ hsf]
      simp
theorem sorted_part {h : List VerD} (hh : h.Pairwise Lt) (p : VerD → Bool) (m : Int) : h.filter p = h.filter (fun v => p v && decide (v.1 ≤ m)) ++ h.filter (fun v => p v && decide (m < v.1)) := by
  induction h with
  | nil => rfl
  | cons v r ih =>
    obtain ⟨h1, h2⟩ := List.pairwise_cons.1 hh
    have ih := ih h2
    by_cases hv : v.1 ≤ m
    · have hv' : ¬ m < v.1 := by omega
      rw [List.filter_cons, List.filter_cons, List.filter_cons, ih]
      cases p v <;> simp [hv, hv']
    · have hr : r.filter (fun v => p v && decide (v.1 ≤ m)) = [] := by
        rw [List.filter_eq_nil_iff]
        intro u hu
        have := (h1 u hu).1
        have : ¬ u.1 ≤ m := by omega
        simp [this]
      have hv' : m < v.1 := by omega
      rw [List.filter_cons, List.filter_cons, List.filter_cons, ih, hr]
      cases p v <;> simp [hv, hv']
theorem law6 (x : List ActD × Int × Int × Int × Unit) (hx : Fit (argTy P6) x) : F6 x = some (true, ()) := by
  obtain ⟨l, a, m, b, u⟩ := x
  have hl := fit_len hx.1
  unfold F6
  simp only [F9_eq, Option.bind_some, Bool.not_true, cond_false]
  refine bind_of (F10_eq l hl) ?_
  cases hf : (List.range l.length).all (fewAt l) with
  | false => rfl
  | true =>
    have h40 := few_len hf
    simp only [Bool.not_true, cond_false]
    by_cases h1 : m < 0
    · simp [h1]
    · by_cases h2 : 1099511627776 < m
      · simp [h1, h2]
      · have hw : wrap64 (m + 1) = m + 1 := wrap64_eq (by omega) (by omega)
        simp only [h1, h2, decide_false, cond_false, hw]
        by_cases h3 : m + 1 < a
        · simp [h3]
        · by_cases h4 : b < m
          · simp [h3, h4]
          · simp only [h3, h4, decide_false, cond_false]
            refine acts h40 (fun h i a h' ha hF => ?_) fun h hh hle => ?_
            · have hi := (List.getElem?_eq_some_iff.1 ha).1
              simp only [lt_len, hi, decide_true, cond_true, idx_nat, ha, Option.bind_some, hF, Bool.not_true, cond_false]
            · have hsm : Sm h := by show h.length ≤ 1000000; omega
              have hsf : ∀ p, Sm (h.filter p) := fun p => Nat.le_trans (List.length_filter_le _ _) hsm
              have hle2 : ∀ p, (h.filter p).length ≤ 40 := fun p => Nat.le_trans (List.length_filter_le _ _) (by omega)
              simp only [lt_len, Nat.lt_irrefl, decide_false, cond_false, F18_eq h _ _ hsm, hh, if_true, Option.bind_some]
              rw [appO_eq (by have := hle2 (inR a m); have := hle2 (inR (m + 1) b); simp only [capB]; omega)]
              simp only [Option.bind_some, F14_eq _ _ (hsf _)]
              have e : h.filter (inR a b) = h.filter (inR a m) ++ h.filter (inR (m + 1) b) := by
                rw [sorted_part hh.2 (inR a b) m]
                congr 1
                · apply List.filter_congr
                  intro v _
                  simp only [inR, Bool.and_eq_decide, decide_eq_decide, decide_eq_true_eq]
                  omega
                · apply List.filter_congr
                  intro v _
                  simp only [inR, Bool.and_eq_decide, decide_eq_decide, decide_eq_true_eq]
                  omega
              simp [e]
theorem law4 (x : List ActD × ActD × ActD × Unit) (hx : Fit (argTy P4) x) : F4 x = some (true, ()) := by
  obtain ⟨l, a, b, u⟩ := x
  have hl := fit_len hx.1
  unfold F4
  simp only [F9_eq, Option.bind_some, Bool.not_true, cond_false]
  refine bind_of (F10_eq l hl) ?_
  cases hf : (List.range l.length).all (fewAt l) with
  | false => rfl
  | true =>
    have h40 := few_len hf
    simp only [Bool.not_true, cond_false]
    refine bind_of (F10_eq [a, b] (by simp)) ?_
    cases (List.range [a, b].length).all (fewAt [a, b]) with
    | false => rfl
    | true =>
      simp only [Bool.not_true, cond_false]
      refine acts h40 (fun h i a h' ha hF => ?_) fun h hh hle => ?_
      · have hi := (List.getElem?_eq_some_iff.1 ha).1
        simp only [lt_len, hi, decide_true, cond_true, idx_nat, ha, Option.bind_some, hF, Bool.not_true, cond_false]
      · have hsm : Sm h := by show h.length ≤ 1000000; omega
        have hmk : mkO ((0, 0, 0, 0, [], 0, false, ()) : VerD) 0 (wrap64 (Int.ofNat h.length + 9)) = some [] := by
          unfold mkO
          rw [ofNat_len, wrap64_eq (by omega) (by omega)]
          have : (0 : Int) ≤ 0 ∧ (0 : Int) ≤ (h.length : Int) + 9 ∧ (h.length : Int) + 9 ≤ (capB : Int) := ⟨by omega, by omega, by simp only [capB]; omega⟩
          simp only [this, decide_true, cond_true]
          rfl
        have hw : wrap64 ((h.length : Int) + 1) = (h.length : Int) + 1 := wrap64_eq (by omega) (by omega)
        simp only [lt_len, Nat.lt_irrefl, decide_false, cond_false, hmk, Option.bind_some]
        rw [appO_eq (by simp only [capB]; simp; omega)]
        simp only [Option.bind_some, List.nil_append, F13_eq hh hsm]
        generalize hv : putV h a.2.1 a.2.2.1 a.2.2.2.1 a.2.2.2.2.1 = v
        generalize hu : putV h b.2.1 b.2.2.1 b.2.2.2.1 b.2.2.2.2.1 = w
        have hsv : ∀ v : VerD, Sm (h ++ [v]) := fun v => by show (h ++ [v]).length ≤ 1000000; simp; omega
        by_cases hx : IsHist (h ++ [v])
        · simp only [hx, if_true]
          rw [appO_eq (by simp only [capB]; simp; omega)]
          by_cases hy : IsHist (h ++ [w]) <;> simp [hy, hw, F14_eq _ _ (hsv v), F14_eq _ _ hsm]
        · simp only [hx, if_false]
          rw [appO_eq (by simp [capB])]
          by_cases hy : IsHist (h ++ [w]) <;> simp [hy, F14_eq [] [] (by simp [Sm]), F14_eq _ _ hsm]
end Go.Proofs.Ytmbofdkjeobhjaa
