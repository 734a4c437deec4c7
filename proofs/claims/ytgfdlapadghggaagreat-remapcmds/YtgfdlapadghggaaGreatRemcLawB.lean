/-
  remap: the law of commands.
-/
import Derived.Test.YtgfdlapadghggaaGreatRemcLawA
namespace Go.Proofs.YtgfdlapadghggaaGreat
open Go.Sx Go Classical
set_option maxRecDepth 10000
abbrev NoCmd : T28D := (0, [], [], [], 0, 0, 0, [], [], [], 0, 0, 0, false, [], [], [], ())
theorem right_kind {c : T28D} (h : RightC c) : 1 ≤ c.1 ∧ c.1 ≤ 16 := by
  have hk := h.2
  unfold KindOk at hk
  omega
/-- a command under another prefix -/
noncomputable def cmdTo (p q : List UInt8) (c : T28D) : T28D × Bool × Unit :=
  bif dec' (RightC c ∧ c.1 ≤ 7) then
    bif decide (c.1 ≤ 2) then bif (rangeTo p q c.2.1 c.2.2.1).2.2.1 then ((c.1, (rangeTo p q c.2.1 c.2.2.1).1, (rangeTo p q c.2.1 c.2.2.1).2.1, c.2.2.2), true, ()) else (NoCmd, false, ())
    else bif decide (c.1 = 3) then
      bif c.2.2.2.2.2.2.2.1.all (cOk p q) then bif c.2.2.2.2.2.2.2.2.1.all (oOk p q) then bif c.2.2.2.2.2.2.2.2.2.1.all (oOk p q) then
        ((c.1, c.2.1, c.2.2.1, c.2.2.2.1, c.2.2.2.2.1, c.2.2.2.2.2.1, c.2.2.2.2.2.2.1, c.2.2.2.2.2.2.2.1.map (cTo p q), c.2.2.2.2.2.2.2.2.1.map (oTo p q), c.2.2.2.2.2.2.2.2.2.1.map (oTo p q), c.2.2.2.2.2.2.2.2.2.2), true, ())
      else (NoCmd, false, ()) else (NoCmd, false, ()) else (NoCmd, false, ())
    else (c, true, ())
  else (NoCmd, false, ())
theorem right_txn3 {k : Int} {c : T28D} (h : RightC c) (e : c.1 = 3) : CmpsOk c.2.2.2.2.2.2.2.1 ∧ OpsOk c.2.2.2.2.2.2.2.2.1 ∧ OpsOk c.2.2.2.2.2.2.2.2.2.1 := by
  have hK := h.2
  unfold KindOk at hK
  rw [e] at hK
  simp only [Int.reduceEq, false_and, true_and, false_or, or_false, and_false, or_self] at hK
  exact hK
/-- a right one moved is right -/
theorem moved_range {p q : List UInt8} {c : T28D} (h : RightC c) (hk : c.1 = 1 ∨ c.1 = 2) {k' e' : List UInt8} (hM : Moves p q c.2.1 c.2.2.1 k' e') : RightC (c.1, k', e', c.2.2.2) := by
  obtain ⟨hB, hK⟩ := h
  have hR := hM.2.2.2.1
  have hE := fun he => ends_nil hM.1 hM.2.2.2.2.2 he
  obtain ⟨k, a2, a3, r⟩ := c
  dsimp only at *
  rcases hk with e | e <;> subst e
  · refine ⟨?_, ?_⟩
    · unfold BareOk at *
      simp only [Int.reduceEq, false_or, or_false, true_or, true_and] at hB ⊢
      exact ⟨hE hB.1, hB.2⟩
    · unfold KindOk at *
      simp only [Int.reduceEq, false_and, true_and, false_or, or_false, and_false, or_self] at hK ⊢
      exact ⟨hR.1, hK.2⟩
  · refine ⟨?_, ?_⟩
    · unfold BareOk at *
      simp only [Int.reduceEq, false_or, or_false, true_or, true_and] at hB ⊢
      exact hB
    · unfold KindOk at *
      simp only [Int.reduceEq, false_and, true_and, false_or, or_false, and_false, or_self] at hK ⊢
      exact hR
theorem moved_txn {p q : List UInt8} {c : T28D} (h : RightC c) (hk : c.1 = 3) (h1 : c.2.2.2.2.2.2.2.1.all (cOk p q) = true) (h2 : c.2.2.2.2.2.2.2.2.1.all (oOk p q) = true) (h3 : c.2.2.2.2.2.2.2.2.2.1.all (oOk p q) = true) :
    RightC (c.1, c.2.1, c.2.2.1, c.2.2.2.1, c.2.2.2.2.1, c.2.2.2.2.2.1, c.2.2.2.2.2.2.1, c.2.2.2.2.2.2.2.1.map (cTo p q), c.2.2.2.2.2.2.2.2.1.map (oTo p q), c.2.2.2.2.2.2.2.2.2.1.map (oTo p q), c.2.2.2.2.2.2.2.2.2.2) := by
  obtain ⟨t1, t2, t3⟩ := right_txn3 (k := 0) h hk
  obtain ⟨hB, hK⟩ := h
  have u1 := cmps_right h1 t1
  have u2 := ops_right h2 t2
  have u3 := ops_right h3 t3
  obtain ⟨k, a2, a3, a4, a5, a6, a7, a8, a9, a10, r⟩ := c
  dsimp only at *
  subst hk
  refine ⟨?_, ?_⟩
  · unfold BareOk at *
    simp only [Int.reduceEq, false_or, or_false, true_or, true_and] at hB ⊢
    exact hB
  · unfold KindOk
    simp only [Int.reduceEq, false_and, true_and, false_or, or_false, and_false, or_self]
    exact ⟨u1, u2, u3⟩
theorem txn_len {c : T28D} (h : RightC c) (hk : c.1 = 3) : c.2.2.2.2.2.2.2.1.length ≤ 4 ∧ c.2.2.2.2.2.2.2.2.1.length ≤ 4 ∧ c.2.2.2.2.2.2.2.2.2.1.length ≤ 4 := by
  obtain ⟨t1, t2, t3⟩ := right_txn3 (k := 0) h hk
  exact ⟨t1.2, t2.2, t3.2⟩
theorem map_sh {α : Type} (f : α → α) {l : List α} (h : Sh l) : Sh (l.map f) := by unfold Sh; rw [List.length_map]; exact h
theorem mapTo_not {α : Type} {ok : α → Bool} {to : α → α} {l : List α} (h : l.all ok = false) : mapTo ok to l = ([], false, ()) := by unfold mapTo; rw [h]; rfl
theorem mapTo_yes {α : Type} {ok : α → Bool} {to : α → α} {l : List α} (h : l.all ok = true) : mapTo ok to l = (l.map to, true, ()) := by unfold mapTo; rw [h]; rfl
theorem cmd_to (p q : List UInt8) (c : T28D) (hc : ShC c) : F6 (p, q, c, ()) = some (cmdTo p q c) := by
  have hr := right_eq c hc
  unfold F6 cmdTo
  by_cases hR : RightC c
  case neg =>
    rw [dec_false hR] at hr
    rw [dec_false fun h => hR h.1]
    refine bind_of hr ?_
    rfl
  rw [dec_true hR] at hr
  refine bind_of hr ?_
  simp only [Bool.not_true, cond_false]
  by_cases h8 : 8 ≤ c.1
  · rw [dec_false fun h => by have := h.2; omega, decide_eq_true h8]
    rfl
  rw [dec_true ⟨hR, by omega⟩, decide_eq_false h8]
  simp only [cond_true, cond_false]
  have hmv : c.1 = 1 ∨ c.1 = 2 → ∀ k' e', Moves p q c.2.1 c.2.2.1 k' e' → F16 ((c.1, k', e', c.2.2.2), ()) = some (true, ()) := fun hk k' e' hM => by
    have := right_eq (c.1, k', e', c.2.2.2) hc
    rw [dec_true (moved_range hR hk hM)] at this
    exact this
  have hkk := right_kind hR
  by_cases h12 : c.1 ≤ 2
  · have hk : c.1 = 1 ∨ c.1 = 2 := by omega
    have d3 : decide (c.1 = 3) = false := decide_eq_false (by omega)
    rw [decide_eq_true h12]
    simp only [cond_true, d3, cond_false]
    have key : ∀ {X : Option ((Bool × List UInt8 × List UInt8 × List T96D × List T48D × List T48D × Unit) ⊕ (T28D × Bool × Unit))}, X = (Option.bind (F17 (p, q, c.2.1, c.2.2.1, ())) fun b => some (Sum.inl (b.2.2.1, b.1, b.2.1, c.2.2.2.2.2.2.2.1, c.2.2.2.2.2.2.2.2.1, c.2.2.2.2.2.2.2.2.2.1, ()))) →
        X = some (Sum.inl ((rangeTo p q c.2.1 c.2.2.1).2.2.1, (rangeTo p q c.2.1 c.2.2.1).1, (rangeTo p q c.2.1 c.2.2.1).2.1, c.2.2.2.2.2.2.2.1, c.2.2.2.2.2.2.2.2.1, c.2.2.2.2.2.2.2.2.2.1, ())) := fun e => by
      rw [e, f_remap_Range]; rfl
    refine bind_of (key (by
      rcases hk with e | e
      · rw [decide_eq_true e]; rfl
      · rw [decide_eq_false (by omega : ¬ c.1 = 1), decide_eq_true e]; rfl)) ?_
    simp only [Sum.elim_inl]
    rcases rangeTo_cases p q c.2.1 c.2.2.1 with e | ⟨k', e', hM, e⟩
    · rw [e]; rfl
    · rw [e]
      simp only [Bool.not_true, cond_false, cond_true]
      refine bind_of (hmv hk k' e' hM) ?_
      rfl
  · rw [decide_eq_false h12]
    have d1 : decide (c.1 = 1) = false := decide_eq_false (by omega)
    have d2 : decide (c.1 = 2) = false := decide_eq_false (by omega)
    simp only [cond_false, d1, d2]
    by_cases h3 : c.1 = 3
    · obtain ⟨l1, l2, l3⟩ := txn_len hR h3
      rw [decide_eq_true h3]
      simp only [cond_true, cmps_to p q _ l1, ops_to p q _ l2, ops_to p q _ l3, Option.bind_some]
      cases a1 : c.2.2.2.2.2.2.2.1.all (cOk p q) with
      | false =>
        simp only [mapTo_not a1, cond_false, Option.bind_some, Sum.elim_inl, Bool.not_false, cond_true]
      | true =>
        cases a2 : c.2.2.2.2.2.2.2.2.1.all (oOk p q) with
        | false => simp only [mapTo_yes a1, mapTo_not a2, cond_true, cond_false, Option.bind_some, Sum.elim_inl, Bool.not_false]
        | true =>
          cases a3 : c.2.2.2.2.2.2.2.2.2.1.all (oOk p q) with
          | false => simp only [mapTo_yes a1, mapTo_yes a2, mapTo_not a3, cond_true, cond_false, Option.bind_some, Sum.elim_inl, Bool.not_false]
          | true =>
            simp only [mapTo_yes a1, mapTo_yes a2, mapTo_yes a3, cond_true, cond_false, Option.bind_some, Sum.elim_inl, Bool.not_true]
            have hm := right_eq _ (show ShC (c.1, c.2.1, c.2.2.1, c.2.2.2.1, c.2.2.2.2.1, c.2.2.2.2.2.1, c.2.2.2.2.2.2.1, c.2.2.2.2.2.2.2.1.map (cTo p q), c.2.2.2.2.2.2.2.2.1.map (oTo p q), c.2.2.2.2.2.2.2.2.2.1.map (oTo p q), c.2.2.2.2.2.2.2.2.2.2) from ⟨map_sh _ hc.1, map_sh _ hc.2.1, map_sh _ hc.2.2.1, hc.2.2.2⟩)
            rw [dec_true (moved_txn hR h3 a1 a2 a3)] at hm
            refine bind_of hm ?_
            rfl
    · rw [decide_eq_false h3]
      simp only [cond_false, Option.bind_some, Sum.elim_inl, Bool.not_true]
      refine bind_of (show F16 (c, ()) = some (true, ()) from hr) ?_
      rfl
theorem rCmd_to (p q : List UInt8) (hp : St p) (hq : St q) (c : T28D) (hz : SzCmd c) : F7 (p, q, c, ()) = some (cmdTo p q c) := by
  have hr := rRight_eq c hz
  unfold F7 cmdTo
  by_cases hR : RightC c
  case neg =>
    rw [dec_false hR] at hr
    rw [dec_false fun h => hR h.1]
    refine bind_of hr ?_
    rfl
  rw [dec_true hR] at hr
  refine bind_of hr ?_
  simp only [Bool.not_true, cond_false]
  by_cases h8 : 7 < c.1
  · rw [dec_false fun h => by have := h.2; omega, decide_eq_true h8]
    rfl
  rw [dec_true ⟨hR, by omega⟩, decide_eq_false h8]
  simp only [cond_true, cond_false]
  have hkk := right_kind hR
  obtain ⟨-, -, z2, z3, zc, z9, z10, -⟩ := hz
  by_cases h4 : 4 ≤ c.1
  · rw [decide_eq_true h4, decide_eq_false (by omega : ¬ c.1 ≤ 2), decide_eq_false (by omega : ¬ c.1 = 3)]
    rfl
  rw [decide_eq_false h4]
  by_cases h3 : c.1 = 3
  · obtain ⟨l1, l2, l3⟩ := txn_len hR h3
    rw [decide_eq_true h3, decide_eq_false (by omega : ¬ c.1 ≤ 2)]
    simp only [Bool.not_true, cond_false, cond_true]
    refine (map_loop (T := List T96D × Int × T28D) (R := T28D × Bool × Unit) c.2.2.2.2.2.2.2.1 (by omega) (cOk p q) (cTo p q) (fun d i => (d, (i : Int), NoCmd))
      (fun d => bif c.2.2.2.2.2.2.2.2.1.all (oOk p q) then bif c.2.2.2.2.2.2.2.2.2.1.all (oOk p q) then ((c.1, c.2.1, c.2.2.1, c.2.2.2.1, c.2.2.2.2.1, c.2.2.2.2.2.1, c.2.2.2.2.2.2.1, d, c.2.2.2.2.2.2.2.2.1.map (oTo p q), c.2.2.2.2.2.2.2.2.2.1.map (oTo p q), c.2.2.2.2.2.2.2.2.2.2), true, ()) else (NoCmd, false, ()) else (NoCmd, false, ())) (NoCmd, false, ()) (fun i v d hd hv => ?_) (fun d hd => ?_)).trans ?_
    · have hi := (List.getElem?_eq_some_iff.1 hv).1
      have zv := zc v (List.mem_of_getElem? hv)
      simp only [lt_len, hi, decide_true, cond_true, idx_nat, hv, Option.bind_some, f_decampref18_Key p q v.1 hp hq zv, app_few hd (by omega), wrap64_nat (show i < 9223372036854775807 by omega), cOk, cTo]
      cases (keyTo p q v.1).2.1 <;> rfl
    · simp only [lt_len, Nat.lt_irrefl, decide_false, cond_false, rOps_to p q hp hq _ l2 z9, rOps_to p q hp hq _ l3 z10, Option.bind_some]
      refine congrArg (Option.map Sum.inr) (?_ : _ = some (bif c.2.2.2.2.2.2.2.2.1.all (oOk p q) then bif c.2.2.2.2.2.2.2.2.2.1.all (oOk p q) then ((c.1, c.2.1, c.2.2.1, c.2.2.2.1, c.2.2.2.2.1, c.2.2.2.2.2.1, c.2.2.2.2.2.2.1, d, c.2.2.2.2.2.2.2.2.1.map (oTo p q), c.2.2.2.2.2.2.2.2.2.1.map (oTo p q), c.2.2.2.2.2.2.2.2.2.2), true, ()) else (NoCmd, false, ()) else (NoCmd, false, ())))
      cases a2 : c.2.2.2.2.2.2.2.2.1.all (oOk p q) with
      | false => simp only [mapTo_not a2, cond_false, Bool.not_false, cond_true]
      | true =>
        cases a3 : c.2.2.2.2.2.2.2.2.2.1.all (oOk p q) with
        | false => simp only [mapTo_yes a2, mapTo_not a3, cond_true, cond_false, Bool.not_false, Bool.not_true]
        | true => simp only [mapTo_yes a2, mapTo_yes a3, cond_true, cond_false, Bool.not_true]
    · rfl
  · rw [decide_eq_false h3, decide_eq_true (by omega : c.1 ≤ 2)]
    simp only [Bool.not_false, cond_true, cond_false]
    refine bind_of (f_decampref18_Range p q c.2.1 c.2.2.1 hp hq z2 z3) ?_
    cases (rangeTo p q c.2.1 c.2.2.1).2.2.1 <;> rfl
/-- there and back -/
theorem cmd_back (p q : List UInt8) (c : T28D) (h : (cmdTo p q c).2.1 = true) : RightC (cmdTo p q c).1 ∧ cmdTo q p (cmdTo p q c).1 = (c, true, ()) := by
  have hR : RightC c ∧ c.1 ≤ 7 := by
    by_cases x : RightC c ∧ c.1 ≤ 7
    · exact x
    · unfold cmdTo at h; rw [dec_false x] at h; cases h
  have hkk := right_kind hR.1
  by_cases h2 : c.1 ≤ 2
  · have e : cmdTo p q c = bif (rangeTo p q c.2.1 c.2.2.1).2.2.1 then ((c.1, (rangeTo p q c.2.1 c.2.2.1).1, (rangeTo p q c.2.1 c.2.2.1).2.1, c.2.2.2), true, ()) else (NoCmd, false, ()) := by
      unfold cmdTo; rw [dec_true hR, decide_eq_true h2]; rfl
    rw [e] at h ⊢
    rcases rangeTo_cases p q c.2.1 c.2.2.1 with e1 | ⟨k', e', hM, e1⟩
    · rw [e1] at h; cases h
    · rw [e1]
      simp only [cond_true]
      have hm := moved_range hR.1 (by omega) hM
      refine ⟨hm, ?_⟩
      unfold cmdTo
      rw [dec_true ⟨hm, hR.2⟩, decide_eq_true (show ((c.1, k', e', c.2.2.2) : T28D).1 ≤ 2 from h2)]
      simp only [cond_true, rangeTo_of hM.symm]
  · by_cases h3 : c.1 = 3
    · cases a1 : c.2.2.2.2.2.2.2.1.all (cOk p q) with
      | false => exfalso; unfold cmdTo at h; rw [dec_true hR, decide_eq_false h2, decide_eq_true h3, a1] at h; cases h
      | true =>
        cases a2 : c.2.2.2.2.2.2.2.2.1.all (oOk p q) with
        | false => exfalso; unfold cmdTo at h; rw [dec_true hR, decide_eq_false h2, decide_eq_true h3, a1, a2] at h; cases h
        | true =>
          cases a3 : c.2.2.2.2.2.2.2.2.2.1.all (oOk p q) with
          | false => exfalso; unfold cmdTo at h; rw [dec_true hR, decide_eq_false h2, decide_eq_true h3, a1, a2, a3] at h; cases h
          | true =>
            have e : cmdTo p q c = ((c.1, c.2.1, c.2.2.1, c.2.2.2.1, c.2.2.2.2.1, c.2.2.2.2.2.1, c.2.2.2.2.2.2.1, c.2.2.2.2.2.2.2.1.map (cTo p q), c.2.2.2.2.2.2.2.2.1.map (oTo p q), c.2.2.2.2.2.2.2.2.2.1.map (oTo p q), c.2.2.2.2.2.2.2.2.2.2), true, ()) := by
              unfold cmdTo; rw [dec_true hR, decide_eq_false h2, decide_eq_true h3, a1, a2, a3]; rfl
            have hm := moved_txn hR.1 h3 a1 a2 a3
            obtain ⟨b1, c1⟩ := map_back a1 fun v hv => cmp_back (p := p) (q := q) hv
            obtain ⟨b2, c2⟩ := map_back a2 fun v hv => op_back (p := p) (q := q) hv
            obtain ⟨b3, c3⟩ := map_back a3 fun v hv => op_back (p := p) (q := q) hv
            rw [e]
            refine ⟨hm, ?_⟩
            unfold cmdTo
            rw [dec_true ⟨hm, hR.2⟩]
            simp only [cond_true, decide_eq_false h2, cond_false, decide_eq_true h3, b1, b2, b3, c1, c2, c3]
    · have e : cmdTo p q c = (c, true, ()) := by unfold cmdTo; rw [dec_true hR, decide_eq_false h2, decide_eq_false h3]; rfl
      have e' : cmdTo q p c = (c, true, ()) := by unfold cmdTo; rw [dec_true hR, decide_eq_false h2, decide_eq_false h3]; rfl
      rw [e]
      exact ⟨hR.1, e'⟩
end Go.Proofs.YtgfdlapadghggaaGreat
