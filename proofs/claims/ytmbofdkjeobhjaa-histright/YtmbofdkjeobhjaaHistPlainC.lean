/-
  hist: the plain laws, fourth part: trimming, and what is no history.
-/
import Derived.Test.YtmbofdkjeobhjaaHistPlainB
namespace Go.Proofs.Ytmbofdkjeobhjaa
open Go.Sx Go Classical
set_option maxRecDepth 10000
/-- each version with the one behind it -/
def prs : List VerD → List (VerD × Option VerD)
  | [] => []
  | v :: r => (v, r.head?) :: prs r
theorem prs_len : ∀ l : List VerD, (prs l).length = l.length
  | [] => rfl
  | v :: r => by simp [prs, prs_len r]
theorem prs_get : ∀ (l : List VerD) (i : Nat), (prs l)[i]? = (l[i]?).map fun v => (v, l[i + 1]?)
  | [], i => by simp [prs]
  | v :: r, 0 => by cases r <;> simp [prs]
  | v :: r, i + 1 => by simp [prs, prs_get r i]
def keepT (f : Int) (p : VerD × Option VerD) : Bool :=
  decide (f < p.1.1) || (!(match p.2 with | some u => decide (u.1 ≤ f) | none => false) && !p.1.2.2.2.2.2.2.1)
def trimP (l : List VerD) (f : Int) : List VerD := ((prs l).filter (keepT f)).map (·.1)
/-- what is left above a floor -/
def trimH (l : List VerD) (f : Int) : List VerD := (if (atH l f).2.1 = true then [(atH l f).1] else []) ++ l.filter fun v => decide (f < v.1)
theorem atH_cons_gt {v : VerD} {r : List VerD} {f : Int} (hv : f < v.1) (hr : ∀ u ∈ r, Lt v u) : atH (v :: r) f = (noV, false, ()) := by
  unfold atH
  have : (v :: r).filter (fun v => decide (v.1 ≤ f)) = [] := by
    rw [List.filter_eq_nil_iff]
    intro u hu
    rcases List.mem_cons.1 hu with rfl | hu
    · simp; omega
    · have := (hr u hu).1
      simp; omega
  rw [this]
  rfl
theorem atH_cons_le {v : VerD} {r : List VerD} {f : Int} (hv : v.1 ≤ f) : atH (v :: r) f = match (r.filter fun v => decide (v.1 ≤ f)).getLast? with
  | some w => if w.2.2.2.2.2.2.1 = true then (noV, false, ()) else (w, true, ())
  | none => if v.2.2.2.2.2.2.1 = true then (noV, false, ()) else (v, true, ()) := by
  unfold atH
  rw [List.filter_cons, if_pos (by simpa using hv), List.getLast?_cons]
  cases (r.filter fun v => decide (v.1 ≤ f)).getLast? <;> rfl
theorem trim_eq : ∀ {l : List VerD}, l.Pairwise Lt → ∀ f, trimP l f = trimH l f
  | [], _, f => by simp [trimP, trimH, prs, atH]
  | v :: r, hl, f => by
    obtain ⟨h1, h2⟩ := List.pairwise_cons.1 hl
    have ih := trim_eq h2 f
    have e1 : trimP (v :: r) f = (if keepT f (v, r.head?) = true then [v] else []) ++ trimP r f := by
      unfold trimP
      rw [prs, List.filter_cons]
      split <;> simp
    rw [e1, ih]
    by_cases hv : f < v.1
    · have hk : keepT f (v, r.head?) = true := by simp [keepT, hv]
      have hr : atH r f = (noV, false, ()) := by
        unfold atH
        have : r.filter (fun v => decide (v.1 ≤ f)) = [] := by
          rw [List.filter_eq_nil_iff]
          intro u hu
          have := (h1 u hu).1
          simp; omega
        rw [this]
        rfl
      unfold trimH
      rw [hr, atH_cons_gt hv h1, List.filter_cons]
      simp [hk, hv]
    · have hv' : v.1 ≤ f := by omega
      have hf : (v :: r).filter (fun v => decide (f < v.1)) = r.filter fun v => decide (f < v.1) := by
        rw [List.filter_cons]; simp [hv]
      unfold trimH
      rw [hf, atH_cons_le hv']
      cases r with
      | nil =>
        cases hg : v.2.2.2.2.2.2.1 <;> simp [keepT, hv, hg, atH]
      | cons u r' =>
        by_cases hu : u.1 ≤ f
        · have hk : keepT f (v, (u :: r').head?) = false := by simp [keepT, hv, hu]
          have hne : ((u :: r').filter fun v => decide (v.1 ≤ f)).getLast? ≠ none := by
            rw [List.filter_cons, if_pos (by simpa using hu)]; simp
          rw [hk]
          unfold atH
          cases hx : ((u :: r').filter fun v => decide (v.1 ≤ f)).getLast? with
          | none => exact absurd hx hne
          | some w => simp
        · have hnil : (u :: r').filter (fun v => decide (v.1 ≤ f)) = [] := by
            rw [List.filter_eq_nil_iff]
            intro z hz
            rcases List.mem_cons.1 hz with rfl | hz
            · simpa using hu
            · have := ((List.pairwise_cons.1 h2).1 z hz).1
              simp; omega
          unfold atH
          rw [hnil]
          cases hg : v.2.2.2.2.2.2.1 <;> simp [keepT, hv, hu, hg]
theorem F20_eq (l : List VerD) (f : Int) (hl : Sm l) : F20 (l, f, ()) = some (if IsHist l then trimH l f else [], ()) := by
  have hl' : l.length ≤ 1000000 := hl
  unfold F20
  simp only [F12_eq l hl.lt, Option.bind_some]
  by_cases h : IsHist l
  · simp only [h, decide_true, Bool.not_true, cond_false, if_true]
    refine (iter_fold (l := prs l) (mk := fun i (o : List VerD) => (o, (i : Int), ())) (g := fun o p => cond (keepT f p) (o ++ [p.1]) o) (K := fun o => (o, ())) (a := []) (fun i o => o.length ≤ i) (by rw [prs_len]; exact hl.lt) (fun i o p hp ho => ?_) (fun o _ => by simp [lt_len, prs_len]) (by simp)).trans ?_
    · rw [prs_get] at hp
      obtain ⟨v, hv, rfl⟩ := Option.map_eq_some_iff.1 hp
      have hi := (List.getElem?_eq_some_iff.1 hv).1
      have ha : appO o [v] = some (o ++ [v]) := appO_eq (by simp [capB]; omega)
      have hw := wrap64_nat (show i < 9223372036854775807 by omega)
      simp only [lt_len, hi, decide_true, cond_true, idx_nat, hv, Option.bind_some, hw]
      by_cases hn : i + 1 < l.length
      · obtain ⟨u, hu⟩ : ∃ u, l[i + 1]? = some u := ⟨_, List.getElem?_eq_getElem hn⟩
        simp only [hn, decide_true, cond_true, hu, Option.bind_some, Sum.elim_inl, ha, keepT]
        by_cases h1 : f < v.1
        · simp [h1]; omega
        · by_cases h2 : u.1 ≤ f
          · simp [h1, h2]; omega
          · cases hg : v.2.2.2.2.2.2.1 <;> simp [h1, h2, hg] <;> omega
      · have hu : l[i + 1]? = none := List.getElem?_eq_none (by omega)
        simp only [hn, decide_false, cond_false, hu, Option.bind_some, Sum.elim_inl, ha, keepT]
        by_cases h1 : f < v.1
        · simp [h1]; omega
        · cases hg : v.2.2.2.2.2.2.1 <;> simp [h1, hg] <;> omega
    · have e : ∀ (q : List (VerD × Option VerD)) (d : List VerD), q.foldl (fun o p => cond (keepT f p) (o ++ [p.1]) o) d = d ++ (q.filter (keepT f)).map (·.1) := by
        intro q
        induction q with
        | nil => intro d; simp
        | cons p q ih => intro d; rw [List.foldl_cons, ih, List.filter_cons]; cases keepT f p <;> simp
      rw [e, ← trim_eq h.2 f]
      simp [trimP]
  · simp [h]
theorem F21_eq (l : List VerD) (f : Int) (hl : Sm l) : F21 (l, f, ()) = some (if IsHist l then trimH l f else [], ()) := by
  have hl' : l.length ≤ 1000000 := hl
  unfold F21
  simp only [F23_eq l hl.lt, Option.bind_some]
  by_cases h : IsHist l
  · simp only [h, decide_true, Bool.not_true, cond_false, if_true, F16_eq l f hl, Option.bind_some]
    have loop : ∀ d : List VerD, d.length ≤ 1 → ∀ {R : Option (List VerD × Unit)}, R = some (d ++ l.filter (fun v => decide (f < v.1)), ()) → iterE (List VerD × Int × Unit)
              (List VerD × Unit)
              (fun (x_2 : List VerD × Int × Unit) =>
                bif decide (x_2.snd.fst < Int.ofNat (List.length l)) then
                  Option.bind (idx l x_2.snd.fst)
                    fun (b : VerD) =>
                    bif decide (f < b.fst) then
                      Option.bind (idx l x_2.snd.fst)
                        fun (b : VerD) =>
                        Option.bind (appO x_2.fst [b])
                          fun (b : List VerD) =>
                          some (Sum.inl (b, wrap64 (x_2.snd.fst + 1), ()))
                    else some (Sum.inl (x_2.fst, wrap64 (x_2.snd.fst + 1), ()))
                else some (Sum.inr (x_2.fst, ())))
              big (d, 0, ()) = R := by
      intro d hd R hR
      refine (iter_fold (l := l) (mk := fun i (o : List VerD) => (o, (i : Int), ())) (g := fun o v => cond (decide (f < v.1)) (o ++ [v]) o) (K := fun o => (o, ())) (a := d) (fun i o => o.length ≤ i + 1) hl.lt (fun i o v hv ho => ?_) (fun o _ => by simp [lt_len]) (by omega)).trans ?_
      · have hi := (List.getElem?_eq_some_iff.1 hv).1
        have ha : appO o [v] = some (o ++ [v]) := appO_eq (by simp [capB]; omega)
        simp only [lt_len, hi, decide_true, cond_true, idx_nat, hv, Option.bind_some, wrap64_nat (show i < 9223372036854775807 by omega), ha]
        by_cases h1 : f < v.1 <;> simp [h1] <;> omega
      · rw [foldl_filter, hR]
    unfold trimH
    cases hb : (atH l f).2.1 with
    | true =>
      simp only [cond_true, appO_eq (l := ([] : List VerD)) (x := [(atH l f).1]) (by simp [capB]), Option.bind_some, Sum.elim_inl, if_true]
      exact loop _ (by simp) rfl
    | false =>
      simp only [cond_false, Option.bind_some, Sum.elim_inl, if_false, Bool.false_eq_true]
      exact loop _ (by simp) rfl
  · simp [h]
theorem atH_mem {l : List VerD} {f : Int} (h : (atH l f).2.1 = true) : (atH l f).1 ∈ l ∧ (atH l f).1.1 ≤ f ∧ (atH l f).1.2.2.2.2.2.2.1 = false ∧ (l.filter fun v => decide (v.1 ≤ f)).getLast? = some (atH l f).1 := by
  unfold atH at h ⊢
  cases hx : (l.filter fun v => decide (v.1 ≤ f)).getLast? with
  | none => rw [hx] at h; simp at h
  | some w =>
    rw [hx] at h
    have hm := List.mem_filter.1 (List.mem_of_getLast? hx)
    cases hg : w.2.2.2.2.2.2.1 with
    | true => simp [hg] at h
    | false => simp only [hg, if_false, Bool.false_eq_true]; exact ⟨hm.1, by simpa using hm.2, by simp⟩
theorem trimH_len {l : List VerD} {f : Int} : (trimH l f).length ≤ l.length + 1 := by
  unfold trimH
  rw [List.length_append]
  have := List.length_filter_le (fun v => decide (f < v.1)) l
  split <;> simp <;> omega
theorem trimH_hist {l : List VerD} (h : IsHist l) (f : Int) : IsHist (trimH l f) := by
  unfold trimH
  have hf : IsHist (l.filter fun v => decide (f < v.1)) := ⟨fun v hv => h.1 v (List.mem_filter.1 hv).1, h.2.filter _⟩
  by_cases hb : (atH l f).2.1 = true
  · obtain ⟨m1, m2, _, _⟩ := atH_mem hb
    rw [if_pos hb]
    refine ⟨fun v hv => ?_, ?_⟩
    · rcases List.mem_append.1 hv with hv | hv
      · rw [List.mem_singleton.1 hv]; exact h.1 _ m1
      · exact hf.1 v hv
    · rw [List.pairwise_append]
      refine ⟨List.pairwise_singleton _ _, hf.2, fun u hu v hv => ?_⟩
      rw [List.mem_singleton.1 hu]
      obtain ⟨v1, v2⟩ := List.mem_filter.1 hv
      have hlt : (atH l f).1.1 < v.1 := by have := of_decide_eq_true v2; omega
      have hp := h.2
      rw [List.pairwise_iff_getElem] at hp
      obtain ⟨i, hi, ei⟩ := List.getElem_of_mem m1
      obtain ⟨j, hj, ej⟩ := List.getElem_of_mem v1
      rcases Nat.lt_trichotomy i j with hij | hij | hij
      · have := hp i j hi hj hij; rw [ei, ej] at this; exact this
      · subst hij; rw [ei] at ej; rw [ej] at hlt; omega
      · have := hp j i hj hi hij; rw [ei, ej] at this; have := this.1; omega
  · rw [if_neg hb]; exact hf
/-- at or above the floor a trimmed history is what it was -/
theorem atH_trim {l : List VerD} (h : IsHist l) {f r : Int} (hr : f ≤ r) : atH (trimH l f) r = atH l r := by
  have hsp : l.filter (fun v => decide (v.1 ≤ r)) = l.filter (fun v => decide (v.1 ≤ f)) ++ (l.filter (fun v => decide (f < v.1))).filter fun v => decide (v.1 ≤ r) := by
    rw [sorted_part h.2 (fun v => decide (v.1 ≤ r)) f, List.filter_filter]
    congr 1
    apply List.filter_congr
    intro v _
    simp only [Bool.and_eq_decide, decide_eq_decide, decide_eq_true_eq]
    omega
  have ht : (trimH l f).filter (fun v => decide (v.1 ≤ r)) = (if (atH l f).2.1 = true then [(atH l f).1] else []) ++ (l.filter (fun v => decide (f < v.1))).filter fun v => decide (v.1 ≤ r) := by
    unfold trimH
    rw [List.filter_append]
    congr 1
    by_cases hb : (atH l f).2.1 = true
    · have := (atH_mem hb).2.1
      rw [if_pos hb]
      simp; omega
    · rw [if_neg hb]; rfl
  have e1 : atH (trimH l f) r = match ((trimH l f).filter fun v => decide (v.1 ≤ r)).getLast? with
    | some v => if v.2.2.2.2.2.2.1 = true then (noV, false, ()) else (v, true, ())
    | none => (noV, false, ()) := rfl
  have e2 : atH l r = match (l.filter fun v => decide (v.1 ≤ r)).getLast? with
    | some v => if v.2.2.2.2.2.2.1 = true then (noV, false, ()) else (v, true, ())
    | none => (noV, false, ()) := rfl
  rw [e1, e2, hsp, ht, List.getLast?_append, List.getLast?_append]
  cases hx : ((l.filter (fun v => decide (f < v.1))).filter fun v => decide (v.1 ≤ r)).getLast? with
  | some w => rfl
  | none =>
    simp only [Option.none_or]
    by_cases hb : (atH l f).2.1 = true
    · obtain ⟨_, _, m3, m4⟩ := atH_mem hb
      rw [if_pos hb, m4]
      rfl
    · rw [if_neg hb]
      have hb' : (atH l f).2.1 = false := by simpa using hb
      unfold atH at hb'
      cases hy : (l.filter fun v => decide (v.1 ≤ f)).getLast? with
      | none => rfl
      | some w =>
        rw [hy] at hb'
        cases hg : w.2.2.2.2.2.2.1 with
        | true => simp [hg]
        | false => simp [hg] at hb'
theorem trim_trim {l : List VerD} (h : IsHist l) {f g : Int} (hg : f ≤ g) : trimH (trimH l f) g = trimH l g := by
  have e : trimH (trimH l f) g = (if (atH (trimH l f) g).2.1 = true then [(atH (trimH l f) g).1] else []) ++ (trimH l f).filter fun v => decide (g < v.1) := rfl
  rw [e, atH_trim h hg]
  have : (trimH l f).filter (fun v => decide (g < v.1)) = l.filter fun v => decide (g < v.1) := by
    unfold trimH
    rw [List.filter_append, List.filter_filter]
    have e1 : (if (atH l f).2.1 = true then [(atH l f).1] else []).filter (fun v => decide (g < v.1)) = [] := by
      by_cases hb : (atH l f).2.1 = true
      · have := (atH_mem hb).2.1
        rw [if_pos hb]
        simp; omega
      · rw [if_neg hb]; rfl
    rw [e1, List.nil_append]
    apply List.filter_congr
    intro v _
    simp only [Bool.and_eq_decide, decide_eq_decide, decide_eq_true_eq]
    omega
  rw [this]
  rfl
theorem same_dec (u v : VerD) : (decide (u.1 = v.1) && (decide (u.2.1 = v.2.1) && (decide (u.2.2.1 = v.2.2.1) && (decide (u.2.2.2.1 = v.2.2.2.1) && (decide (u.2.2.2.2.1 = v.2.2.2.2.1) && (decide (u.2.2.2.2.2.1 = v.2.2.2.2.2.1) && (u.2.2.2.2.2.2.1 == v.2.2.2.2.2.2.1 && true))))))) = true ↔ u = v := by
  obtain ⟨u1, u2, u3, u4, u5, u6, u7, _⟩ := u
  obtain ⟨v1, v2, v3, v4, v5, v6, v7, _⟩ := v
  simp
theorem same_self (u : VerD) : (decide (u.1 = u.1) && (decide (u.2.1 = u.2.1) && (decide (u.2.2.1 = u.2.2.1) && (decide (u.2.2.2.1 = u.2.2.2.1) && (decide (u.2.2.2.2.1 = u.2.2.2.2.1) && (decide (u.2.2.2.2.2.1 = u.2.2.2.2.2.1) && (u.2.2.2.2.2.2.1 == u.2.2.2.2.2.2.1 && true))))))) = true := (same_dec u u).2 rfl
theorem law7 (x : List ActD × Int × Int × Int × Unit) (hx : Fit (argTy P7) x) : F7 x = some (true, ()) := by
  obtain ⟨l, f, g, r, u⟩ := x
  have hl := fit_len hx.1
  unfold F7
  simp only [F9_eq, Option.bind_some, Bool.not_true, cond_false]
  refine bind_of (F10_eq l hl) ?_
  cases hf : (List.range l.length).all (fewAt l) with
  | false => rfl
  | true =>
    have h40 := few_len hf
    simp only [Bool.not_true, cond_false]
    refine acts h40 (fun h i a h' ha hF => ?_) fun h hh hle => ?_
    · have hi := (List.getElem?_eq_some_iff.1 ha).1
      simp only [lt_len, hi, decide_true, cond_true, idx_nat, ha, Option.bind_some, hF, Bool.not_true, cond_false]
    · have hsm : Sm h := by show h.length ≤ 1000000; omega
      have hst : ∀ f, Sm (trimH h f) := fun f => by have := @trimH_len h f; show (trimH h f).length ≤ 1000000; omega
      have hht := trimH_hist hh
      simp only [lt_len, Nat.lt_irrefl, decide_false, cond_false, F20_eq h _ hsm, F21_eq h _ hsm, hh, if_true, Option.bind_some, F14_eq _ _ (hst _), decide_true, Bool.not_true, cond_false, F20_eq _ _ (hst _), hht, F15_eq h _ hsm, F15_eq _ _ (hst _)]
      by_cases h1 : f ≤ g
      · simp only [h1, decide_true, cond_true, trim_trim hh h1, F14_eq _ _ (hst g), Bool.not_true, cond_false, Option.bind_some, Sum.elim_inl]
        by_cases h2 : r < f
        · simp [h2]
        · simp only [h2, decide_false, cond_false, atH_trim hh (show f ≤ r by omega), same_self, cond_true]
          simp
      · simp only [h1, decide_false, cond_false, Option.bind_some, Sum.elim_inl]
        by_cases h2 : r < f
        · simp [h2]
        · simp only [h2, decide_false, cond_false, atH_trim hh (show f ≤ r by omega), same_self, cond_true]
          simp
/-- few versions -/
def fewVAt (l : List VerD) (i : Nat) : Bool :=
  match l[i]? with
  | some a => decide (i < 40 ∧ a.2.2.2.2.1.length ≤ 100)
  | none => true
theorem F22_eq (l : List VerD) (hl : l.length ≤ 9223372036854775807) : F22 (l, ()) = some ((List.range l.length).all (fewVAt l), ()) := by
  unfold F22
  refine (iter_all (mk := fun i => ((i : Int), ())) (fewVAt l) (rt := (true, ())) (rf := (false, ())) hl (fun i hi => ?_) ?_).trans ?_
  · simp only [lt_len, hi, decide_true, cond_true, idx_nat, List.getElem?_eq_getElem hi, Option.bind_some, wrap64_nat (show i < 9223372036854775807 by omega), fewVAt]
    by_cases h1 : (40 : Int) ≤ (i : Int)
    · have h1' : ¬ i < 40 := by omega
      simp [h1, h1']
    · have h1' : i < 40 := by omega
      simp only [h1, decide_false, cond_false, h1', true_and]
      by_cases h2 : (100 : Int) < Int.ofNat l[i].2.2.2.2.1.length
      · have h2' : ¬ l[i].2.2.2.2.1.length ≤ 100 := by simp at h2; omega
        simp only [h2, decide_true, cond_true, h2', decide_false, cond_false]
      · have h2' : l[i].2.2.2.2.1.length ≤ 100 := by simp at h2; omega
        simp only [h2, decide_false, cond_false, h2', decide_true, cond_true]
  · simp [lt_len]
  · cases (List.range l.length).all (fewVAt l) <;> rfl
theorem fewV_len {l : List VerD} (h : (List.range l.length).all (fewVAt l) = true) : l.length ≤ 40 := by
  refine Classical.byContradiction fun hc => ?_
  have := List.all_eq_true.1 h 40 (List.mem_range.2 (by omega))
  unfold fewVAt at this
  rw [List.getElem?_eq_getElem (by omega)] at this
  simp at this
theorem law8 (x : List VerD × Int × Unit) (hx : Fit (argTy P8) x) : F8 x = some (true, ()) := by
  obtain ⟨h, r, u⟩ := x
  have hl : h.length ≤ 9223372036854775807 := by have := hx.1.1; unfold Go.maxLen at this; exact Nat.le_trans this (by decide)
  unfold F8
  simp only [F9_eq, Option.bind_some, Bool.not_true, cond_false]
  refine bind_of (F22_eq h hl) ?_
  cases hf : (List.range h.length).all (fewVAt h) with
  | false => rfl
  | true =>
    have h40 := fewV_len hf
    have hsm : Sm h := by show h.length ≤ 1000000; omega
    simp only [Bool.not_true, cond_false, F23_eq h hl, F12_eq h hl, Option.bind_some, F15_eq h _ hsm, F16_eq h _ hsm, F18_eq h _ _ hsm, F20_eq h _ hsm, same_self, cond_true]
    by_cases hh : IsHist h <;> simp [hh]
end Go.Proofs.Ytmbofdkjeobhjaa
