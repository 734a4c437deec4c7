/-
  Index: the law of what was trimmed (once the batches are known).
-/
import Derived.Test.YtphdilmnielgeaaIndexLawJ
namespace Go.Proofs.Ytphdilmnielgeaa
open Go.Sx Go Classical
set_option maxRecDepth 10000
theorem atH_nil (r : Int) : (atH [] r).2.1 = false := rfl
theorem at_trim {l : List KX} (hl : ∀ e ∈ l, IsHist e.2.1) {f r most : Int} (hr : f ≤ r) (q : List UInt8 → Bool) : ∀ s : List ItemD × Int, (l.flatMap (fun e => oneX e.1 (trimH e.2.1 f))).foldl (atStep r most (fun e => q e.1)) s = l.foldl (atStep r most (fun e => q e.1)) s := by
  induction l with
  | nil => intro s; rfl
  | cons e l ih =>
    intro s
    have he := hl e (by simp)
    have ht := atH_trim he hr
    rw [List.flatMap_cons, List.foldl_append, List.foldl_cons, ih (fun e he => hl e (by simp [he]))]
    congr 1
    unfold oneX
    by_cases h0 : trimH e.2.1 f = []
    · rw [if_pos h0, List.foldl_nil]
      rw [h0] at ht
      unfold atStep
      rw [← ht, atH_nil]
      rfl
    · rw [if_neg h0, List.foldl_cons, List.foldl_nil]
      unfold atStep
      simp only [ht]
theorem since_trim {l : List VerD} {f since to : Int} (hs : f < since) (hl : ∀ v, (atH l f).2.1 = true → (atH l f).1 = v → v.1 ≤ f) : (trimH l f).filter (inR since to) = l.filter (inR since to) := by
  unfold trimH
  rw [List.filter_append, List.filter_filter]
  have e1 : (if (atH l f).2.1 = true then [(atH l f).1] else []).filter (inR since to) = [] := by
    by_cases h : (atH l f).2.1 = true
    · rw [if_pos h]
      have := hl _ h rfl
      have hn : inR since to (atH l f).1 = false := by unfold inR; exact decide_eq_false (by omega)
      simp [hn]
    · rw [if_neg h]; rfl
  rw [e1, List.nil_append]
  apply List.filter_congr
  intro v _
  unfold inR
  by_cases h : since ≤ v.1
  · have : f < v.1 := by omega
    simp [this]
  · simp [h]
theorem rng_trim {l : List KX} (hl : ∀ e ∈ l, IsHist e.2.1) {f since to : Int} (hs : f < since) (hat : ∀ e ∈ l, ∀ v, (atH e.2.1 f).2.1 = true → (atH e.2.1 f).1 = v → v.1 ≤ f) (a b : List UInt8) :
    inItems since to (rngL a b (l.flatMap (fun e => oneX e.1 (trimH e.2.1 f)))) = inItems since to (rngL a b l) := by
  induction l with
  | nil => rfl
  | cons e l ih =>
    have ih := ih (fun e he => hl e (by simp [he])) (fun e he => hat e (by simp [he]))
    have hs' := since_trim (to := to) hs (hat e (by simp))
    have app : ∀ x y : List KX, inItems since to (rngL a b (x ++ y)) = inItems since to (rngL a b x) ++ inItems since to (rngL a b y) := fun x y => by
      unfold rngL inItems
      rw [List.filter_append, List.flatMap_append]
    rw [List.flatMap_cons, app, ih, show e :: l = [e] ++ l from rfl, app]
    congr 1
    unfold oneX
    by_cases h0 : trimH e.2.1 f = []
    · rw [if_pos h0]
      rw [h0] at hs'
      unfold rngL inItems
      cases hp : inP a b e.1 with
      | true =>
        rw [List.filter_cons, if_pos hp]
        simp only [List.filter_nil, List.flatMap_cons, List.flatMap_nil, List.append_nil]
        unfold inVers
        rw [← hs']
        rfl
      | false => rw [List.filter_cons, if_neg (by rw [hp]; exact Bool.false_ne_true)]
    · rw [if_neg h0]
      unfold rngL inItems
      cases hp : inP a b e.1 with
      | true =>
        rw [List.filter_cons, if_pos hp, List.filter_cons, if_pos hp]
        simp only [List.filter_nil, List.flatMap_cons, List.flatMap_nil, List.append_nil]
        unfold inVers
        rw [hs']
      | false => rw [List.filter_cons, if_neg (by rw [hp]; exact Bool.false_ne_true), List.filter_cons, if_neg (by rw [hp]; exact Bool.false_ne_true)]
theorem atH_le {l : List VerD} {f : Int} (h : (atH l f).2.1 = true) : (atH l f).1.1 ≤ f := by
  unfold atH at h ⊢
  cases hl : (l.filter fun v => decide (v.1 ≤ f)).getLast? with
  | none => rw [hl] at h; exact Bool.noConfusion h
  | some v =>
    rw [hl] at h
    simp only at h ⊢
    by_cases hg : v.2.2.2.2.2.2.1 = true
    · rw [if_pos hg] at h; exact Bool.noConfusion h
    · rw [if_neg hg]
      have := (List.mem_filter.1 (List.mem_of_getLast? hl)).2
      simpa using this
theorem maxI_ge (x y : Int) : y ≤ maxI x y := by
  unfold maxI
  by_cases h : x < y
  · rw [decide_eq_true h]; exact Int.le_refl _
  · rw [decide_eq_false h]; show y ≤ x; omega
theorem takeB_sub {most : Int} {B : List Bt} : ∃ j, takeB most [] 0 B = B.take j := by
  obtain ⟨j, h, _⟩ := takeB_pre (most := most) (B := B) (out := []) (c := 0)
  exact ⟨j, by rw [h, List.nil_append]⟩
theorem lawTrims (hB : BatchesOk) (x : (argTy P11).den) (hx : Fit47 (argTy P11) x) : F11 x = some (true, ()) := by
  obtain ⟨l, floor, ⟨fr, en, pre, rev, since, to, most, lease, ⟨⟩⟩, ⟨⟩⟩ : List ActX × Int × (List UInt8 × List UInt8 × List UInt8 × Int × Int × Int × Int × Int × Unit) × Unit := x
  obtain ⟨⟨hl, -⟩, -, ⟨h1, h2, h3, -⟩, -⟩ := hx
  have hl' : l.length ≤ 140737488351232 := hl
  have h1' : fr.length ≤ 140737488351232 := h1
  have h2' : en.length ≤ 140737488351232 := h2
  obtain ⟨fb, hf, hfl⟩ := few_ex l 60 (by omega) (by omega)
  have hf : F20 (l, 60, ()) = some (fb, ()) := hf
  unfold F11
  simp only [awake_eq, Option.bind_some, Bool.not_true, cond_false, hf]
  cases fb with
  | false => rfl
  | true =>
    obtain ⟨h60, hs⟩ := hfl rfl
    obtain ⟨m, hI, e⟩ := made_ex l (by omega) hs
    obtain ⟨m', hI', t1, t2, t3⟩ := trim_ex2 m l.length hI (by omega) floor
    have hist : ∀ e ∈ toL m, IsHist e.2.1 := fun e he => (hI.2.2.2 e he).2.1
    have o1 := of_eq m' (l.length + 1) hI' (by omega)
    have o2 := of_eq m l.length hI (by omega)
    have s1 := same_self (toL m') (l.length + 1) hI'.2 (by omega)
    have s2 := same_self (toL m) l.length hI.2 (by omega)
    obtain ⟨o, c, ho, a1, _, a3⟩ := at_both2 m l.length hI (by omega) h1' h2' (maxI rev floor) most
    obtain ⟨o', c', _, b1, _, b3⟩ := at_both2 m' (l.length + 1) hI' (by omega) h1' h2' (maxI rev floor) most
    have hsame : (o', c') = (o, c) := by
      rw [a3, b3, t3]
      exact at_trim hist (maxI_ge rev floor) (fun k => decide (IsRange fr en) && inB fr en k) ([], 0)
    obtain ⟨rfl, rfl⟩ := Prod.mk.inj hsame
    have i1 := items_self o' (show o'.length ≤ 1000000 by omega)
    refine Eq.trans (congrArg (fun z => cond _ (some (true, ())) z) ?_) (cond_same _ _)
    simp only [e, Option.bind_some, Bool.not_true, cond_false, t1, o1, t2, s1, o2, s2, a1, b1, i1, decide_true]
    by_cases hsf : since ≤ floor
    · simp only [decide_eq_true hsf, cond_true]
      exact cond_same _ _
    · simp only [decide_eq_false hsf, cond_false]
      obtain ⟨R, r1, r2, r3⟩ := changes_both hB m l.length hI (by omega) h1' h2' since to
      obtain ⟨R', u1, u2, u3⟩ := changes_both hB m' (l.length + 1) hI' (by omega) h1' h2' since to
      have hit : inItems since to (rngL fr en (toL m')) = inItems since to (rngL fr en (toL m)) := by
        rw [t3]
        exact rng_trim hist (by omega) (fun e _ v h1 h2 => by rw [← h2]; exact atH_le h1) fr en
      rw [hit] at u2 u3
      have hR : R' = R := Inc.eq u1 r1 fun r => (u2 r).trans (r2 r).symm
      subst hR
      have q1 := (r3 most).1
      have q2 := (u3 most).1
      have hlen : (inItems since to (rngL fr en (toL m))).length ≤ 60000 := by
        have h5 := inItems_len (since := since) (to := to) (n := l.length) (by omega) (w := rngL fr en (toL m)) fun e he => (hI.2.2.2 e (List.mem_filter.1 he).1).2.2.2
        have h6 : (rngL fr en (toL m)).length ≤ (toL m).length := List.length_filter_le _ _
        have := hI.2.2.1
        omega
      generalize inItems since to (rngL fr en (toL m)) = items at *
      have hRl : R'.length ≤ 60000 := by
        have : ∀ (R : List Int) (L : List It), Inc R → (∀ r ∈ R, ∃ x ∈ L, K x = r) → R.length ≤ totB (R.map (keyB L)) := by
          intro R L
          induction R with
          | nil => intro _ _; exact Nat.zero_le _
          | cons r R ih =>
            intro hi h
            have := ih (List.pairwise_cons.1 hi).2 fun q hq => h q (by simp [hq])
            obtain ⟨x, hx, hr⟩ := h r (by simp)
            have hp : 0 < (L.filter (fun x => decide (K x = r))).length := List.length_pos_of_mem (List.mem_filter.2 ⟨hx, decide_eq_true hr⟩)
            have e2 : totB ((r :: R).map (keyB L)) = (L.filter (fun x => decide (K x = r))).length + totB (R.map (keyB L)) := by simp [totB, keyB]
            rw [e2, List.length_cons]
            omega
        exact Nat.le_trans (this R' items r1 fun r hr => (r2 r).1 hr) (Nat.le_trans (tot_le r1) hlen)
      obtain ⟨j, hj⟩ := takeB_sub (most := most) (B := R'.map (keyB items))
      have sb := batches_self ((R'.map (keyB items)).take j) (by rw [List.length_take, List.length_map]; omega) fun x hx => by
        obtain ⟨r, _, rfl⟩ := List.mem_map.1 (List.mem_of_mem_take hx)
        have := List.length_filter_le (fun x => decide (K x = r)) items
        show (List.filter _ _).length ≤ _
        omega
      rw [hj] at q1 q2
      simp only [q1, q2, Option.bind_some, sb]
      exact cond_same _ _
end Go.Proofs.Ytphdilmnielgeaa
