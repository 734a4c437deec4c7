/-
  hist: the plain laws, second part: what becomes of a key.
-/
import Derived.Test.YtmbofdkjeobhjaaHistPlain
namespace Go.Proofs.Ytmbofdkjeobhjaa
open Go.Sx Go Classical
set_option maxRecDepth 10000
theorem hist_filter {l : List VerD} (h : IsHist l) : l.filter (fun v => decide (v.1 ≤ 1099511627776)) = l :=
  List.filter_eq_self.2 fun v hv => decide_eq_true (h.1 v hv).2.1
theorem atH_live {l : List VerD} (h : IsHist l) : atH l 1099511627776 = match l.getLast? with
  | some v => if v.2.2.2.2.2.2.1 = true then (noV, false, ()) else (v, true, ())
  | none => (noV, false, ()) := by
  unfold atH
  rw [hist_filter h]
  cases l.getLast? <;> rfl
theorem opt_cases {α : Type} (o : Option α) : o = none ∨ ∃ w, o = some w := by cases o <;> simp
/-- the version that a value makes -/
def putV (h : List VerD) (rev mod : Int) (value : List UInt8) (lease : Int) : VerD :=
  match h.getLast? with
  | some w => if w.2.2.2.2.2.2.1 = true then (rev, mod, mod, 1, value, lease, false, ()) else (rev, w.2.1, mod, wrap64 (w.2.2.2.1 + 1), value, lease, false, ())
  | none => (rev, mod, mod, 1, value, lease, false, ())
theorem F13_eq {h : List VerD} (hh : IsHist h) (hl : Sm h) (rev mod : Int) (value : List UInt8) (lease : Int) :
    F13 (h, rev, mod, value, lease, ()) = some (if IsHist (h ++ [putV h rev mod value lease]) then (h ++ [putV h rev mod value lease], 0, ()) else ([], 1, ())) := by
  unfold F13
  simp only [F17_eq h hl, hh, if_true, Option.bind_some, atH_live hh, putV]
  rcases opt_cases h.getLast? with hg | ⟨w, hg⟩
  · simp [hg, F27_eq h _ hl]
  · rcases Bool.eq_false_or_eq_true w.2.2.2.2.2.2.1 with hw | hw <;> simp [hg, hw, F27_eq h _ hl]
theorem last_idx {α : Type} (l : List α) (h0 : 0 < l.length) (hl : l.length ≤ 1000000) : idx l (wrap64 (Int.ofNat l.length - 1)) = l.getLast? := by
  have e : wrap64 (Int.ofNat l.length - 1) = ((l.length - 1 : Nat) : Int) := by rw [ofNat_len, wrap64_eq (by omega) (by omega)]; omega
  rw [e, idx_nat, List.getLast?_eq_getElem?]
theorem F24_eq {h : List VerD} (hh : IsHist h) (hl : Sm h) (rev mod : Int) (value : List UInt8) (lease : Int) :
    F24 (h, rev, mod, value, lease, ()) = some (if IsHist (h ++ [putV h rev mod value lease]) then (h ++ [putV h rev mod value lease], true, ()) else ([], false, ())) := by
  unfold F24
  simp only
  by_cases h0 : 0 < h.length
  · have e0 : decide ((0 : Int) < Int.ofNat h.length) = true := decide_eq_true (by simp; omega)
    obtain ⟨w, hw⟩ : ∃ w, h.getLast? = some w := by
      cases hx : h.getLast? with
      | none => rw [List.getLast?_eq_none_iff] at hx; subst hx; simp at h0
      | some w => exact ⟨w, rfl⟩
    simp only [e0, cond_true, last_idx h h0 hl, hw, Option.bind_some, putV]
    rcases Bool.eq_false_or_eq_true w.2.2.2.2.2.2.1 with hg | hg
    · simp [hg, F28_eq h _ hl]
    · simp only [hg, Bool.not_false, cond_true, Bool.false_eq_true, if_false]
      by_cases hv : 1099511627776 ≤ w.2.2.2.1
      · have hmem : w ∈ h := List.mem_of_getLast? hw
        have hok := hh.1 w hmem
        have hno : ¬ IsHist (h ++ [(rev, w.2.1, mod, wrap64 (w.2.2.2.1 + 1), value, lease, false, ())]) := by
          intro hx
          have h1 := hx.1 (rev, w.2.1, mod, wrap64 (w.2.2.2.1 + 1), value, lease, false, ()) (by simp)
          have h2 := hok.2.2.2.2
          rw [hg] at h2
          simp only [if_false, Bool.false_eq_true] at h2
          have h3 := h1.2.2.2.2
          simp only [if_false, Bool.false_eq_true] at h3
          have := h3.2.2.2.1
          rw [wrap64_eq (by omega) (by omega)] at this
          omega
        simp [hv, hno]
      · simp [hv, F28_eq h _ hl]
  · have e0 : decide ((0 : Int) < Int.ofNat h.length) = false := decide_eq_false fun hc => h0 (Int.ofNat_lt.1 hc)
    have : h = [] := List.eq_nil_of_length_eq_zero (by omega)
    subst this
    simp only [e0, cond_false, Option.bind_some, Sum.elim_inl, putV, List.getLast?_nil]
    exact bind_of (F28_eq [] (rev, mod, mod, 1, value, lease, false, ()) hl) rfl
def delV (rev mod : Int) : VerD := (rev, 0, mod, 0, [], 0, true, ())
/-- is it there at last -/
def live (h : List VerD) : Bool :=
  match h.getLast? with
  | some w => !w.2.2.2.2.2.2.1
  | none => false
theorem F25_eq {h : List VerD} (hh : IsHist h) (hl : Sm h) (rev mod : Int) :
    F25 (h, rev, mod, ()) = some (if IsHist (h ++ [delV rev mod]) then (if live h = true then (h ++ [delV rev mod], 0, ()) else ([], 6, ())) else ([], 1, ())) := by
  unfold F25
  simp only [show ((rev, 0, mod, 0, [], 0, true, ()) : VerD) = delV rev mod from rfl, F27_eq h _ hl, Option.bind_some]
  by_cases hx : IsHist (h ++ [delV rev mod])
  · simp only [hx, if_true, F17_eq h hl, hh, Option.bind_some, atH_live hh, live]
    rcases opt_cases h.getLast? with hg | ⟨w, hg⟩
    · simp [hg]
    · rcases Bool.eq_false_or_eq_true w.2.2.2.2.2.2.1 with hw | hw <;> simp [hg, hw]
  · simp [hx]
theorem F26_eq {h : List VerD} (hh : IsHist h) (hl : Sm h) (rev mod : Int) :
    F26 (h, rev, mod, ()) = some (if IsHist (h ++ [delV rev mod]) then (if live h = true then (h ++ [delV rev mod], 0, ()) else ([], 6, ())) else ([], 1, ())) := by
  unfold F26
  simp only [show ((rev, 0, mod, 0, [], 0, true, ()) : VerD) = delV rev mod from rfl, F28_eq h _ hl, Option.bind_some]
  by_cases hx : IsHist (h ++ [delV rev mod])
  · simp only [hx, if_true, Bool.not_true, cond_false, live]
    by_cases h0 : 0 < h.length
    · have e0 : decide (Int.ofNat h.length = 0) = false := decide_eq_false (by simp; intro e; subst e; simp at h0)
      obtain ⟨w, hw⟩ : ∃ w, h.getLast? = some w := by
        cases hx : h.getLast? with
        | none => rw [List.getLast?_eq_none_iff] at hx; subst hx; simp at h0
        | some w => exact ⟨w, rfl⟩
      simp only [e0, cond_false, last_idx h h0 hl, hw, Option.bind_some]
      cases hg : w.2.2.2.2.2.2.1 <;> simp
    · have : h = [] := List.eq_nil_of_length_eq_zero (by omega)
      subst this
      simp
  · simp [hx]
theorem Sm.snoc {α : Type} {l : List α} {n : Nat} (h : l.length ≤ n) (hn : n ≤ 999999) (v : α) : Sm (l ++ [v]) := by
  show (l ++ [v]).length ≤ 1000000
  simp
  omega
/-- an act, by both: they answer alike, and what it leaves is a history -/
theorem F11_eq {h : List VerD} (hh : IsHist h) {n : Nat} (hn : h.length ≤ n) (hn' : n ≤ 999999) (a : ActD) : ∃ h', F11 (h, a, ()) = some (h', true, ()) ∧ IsHist h' ∧ h'.length ≤ n + 1 := by
  have hl : Sm h := by show h.length ≤ 1000000; omega
  unfold F11
  simp only
  by_cases k0 : intOf8 a.1 = intOf8 (UInt8.ofNat 0)
  · simp only [k0, decide_true, cond_true, F13_eq hh hl, F24_eq hh hl, Option.bind_some, Sum.elim_inl]
    generalize hv : putV h a.2.1 a.2.2.1 a.2.2.2.1 a.2.2.2.2.1 = v
    by_cases hx : IsHist (h ++ [v])
    · refine ⟨h ++ [v], ?_, hx, by simp; omega⟩
      simp [hx, F14_eq _ _ (Sm.snoc hn hn' v)]
    · refine ⟨h, ?_, hh, by omega⟩
      simp [hx, F14_eq [] [] (by simp [Sm])]
  · simp only [k0, decide_false, cond_false]
    by_cases k1 : intOf8 a.1 = intOf8 (UInt8.ofNat 1)
    · simp only [k1, decide_true, cond_true, F25_eq hh hl, F26_eq hh hl, Option.bind_some, Sum.elim_inl]
      by_cases hx : IsHist (h ++ [delV a.2.1 a.2.2.1])
      · by_cases hv : live h = true
        · refine ⟨h ++ [delV a.2.1 a.2.2.1], ?_, hx, by simp; omega⟩
          simp [hx, hv, F14_eq _ _ (Sm.snoc hn hn' (delV a.2.1 a.2.2.1))]
        · refine ⟨h, ?_, hh, by omega⟩
          simp [hx, hv, F14_eq [] [] (by simp [Sm])]
      · refine ⟨h, ?_, hh, by omega⟩
        simp [hx, F14_eq [] [] (by simp [Sm])]
    · simp only [k1, decide_false, cond_false, F27_eq h _ hl, F28_eq h _ hl, Option.bind_some, Sum.elim_inl]
      by_cases hx : IsHist (h ++ [a.2.2.2.2.2.1])
      · refine ⟨h ++ [a.2.2.2.2.2.1], ?_, hx, by simp; omega⟩
        simp [hx, F14_eq _ _ (Sm.snoc hn hn' a.2.2.2.2.2.1)]
      · refine ⟨h, ?_, hh, by omega⟩
        simp [hx, F14_eq [] [] (by simp [Sm])]
theorem isHist_nil : IsHist [] := ⟨fun v h => by simp at h, List.Pairwise.nil⟩
theorem F9_eq : F9 () = some (true, ()) := by
  have hsm : Sm ([] : List VerD) := by simp [Sm]
  have hx : IsHist [((5, 5, 5, 1, [97], 0, false, ()) : VerD)] := ⟨fun v hv => by simp at hv; subst hv; simp [VerOk], List.pairwise_singleton _ _⟩
  have hsm1 : Sm [((5, 5, 5, 1, [97], 0, false, ()) : VerD)] := by simp [Sm]
  unfold F9
  simp only [F13_eq isHist_nil hsm, Option.bind_some, putV, List.getLast?_nil, List.nil_append, hx, if_true]
  simp only [F17_eq _ hsm1, hx, if_true, Option.bind_some, atH_live hx]
  simp
/-- few acts -/
def fewAt (l : List ActD) (i : Nat) : Bool :=
  match l[i]? with
  | some a => decide (i < 40 ∧ a.2.2.2.1.length ≤ 100 ∧ a.2.2.2.2.2.1.2.2.2.2.1.length ≤ 100)
  | none => true
theorem F10_eq (l : List ActD) (hl : l.length ≤ 9223372036854775807) : F10 (l, ()) = some ((List.range l.length).all (fewAt l), ()) := by
  unfold F10
  refine (iter_all (mk := fun i => ((i : Int), ())) (fewAt l) (rt := (true, ())) (rf := (false, ())) hl (fun i hi => ?_) ?_).trans ?_
  · simp only [lt_len, hi, decide_true, cond_true, idx_nat, List.getElem?_eq_getElem hi, Option.bind_some, wrap64_nat (show i < 9223372036854775807 by omega), fewAt]
    by_cases h1 : (40 : Int) ≤ (i : Int)
    · have h1' : ¬ i < 40 := by omega
      simp [h1, h1']
    · have h1' : i < 40 := by omega
      simp only [h1, decide_false, cond_false, h1', true_and]
      by_cases h2 : (100 : Int) < Int.ofNat l[i].2.2.2.1.length
      · have h2' : ¬ l[i].2.2.2.1.length ≤ 100 := by simp at h2; omega
        simp only [h2, decide_true, cond_true, h2', false_and, decide_false, cond_false]
      · have h2' : l[i].2.2.2.1.length ≤ 100 := by simp at h2; omega
        simp only [h2, decide_false, cond_false, h2', true_and]
        by_cases h3 : (100 : Int) < Int.ofNat l[i].2.2.2.2.2.1.2.2.2.2.1.length
        · have h3' : ¬ l[i].2.2.2.2.2.1.2.2.2.2.1.length ≤ 100 := by simp at h3; omega
          simp only [h3, decide_true, cond_true, h3', decide_false, cond_false]
        · have h3' : l[i].2.2.2.2.2.1.2.2.2.2.1.length ≤ 100 := by simp at h3; omega
          simp only [h3, decide_false, cond_false, h3', decide_true, cond_true]
  · simp [lt_len]
  · cases (List.range l.length).all (fewAt l) <;> rfl
theorem few_len {l : List ActD} (h : (List.range l.length).all (fewAt l) = true) : l.length ≤ 40 := by
  refine Classical.byContradiction fun hc => ?_
  have := List.all_eq_true.1 h 40 (List.mem_range.2 (by omega))
  unfold fewAt at this
  rw [List.getElem?_eq_getElem (by omega)] at this
  simp at this
end Go.Proofs.Ytmbofdkjeobhjaa
