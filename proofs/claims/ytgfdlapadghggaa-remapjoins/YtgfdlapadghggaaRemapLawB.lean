/-
  remap: there and back, and two roads joined.
-/
import Derived.Test.YtgfdlapadghggaaRemapLawA
namespace Go.Proofs.Ytgfdlapadghggaa
open Go.Sx Go Classical
set_option maxRecDepth 10000
theorem wrap_u8 {x : Int} (h1 : 0 ≤ x) (h2 : x ≤ 255) : IntKind.wrap .u8 x = x := by
  simp only [IntKind.wrap, IntKind.bits, IntKind.signed]
  simp
  omega
theorem next_lt (c : UInt8) (h : c.toNat ≤ 126) : c < Sx.byteOf (IntKind.wrap IntKind.u8 (intOf8 c + intOf8 (UInt8.ofNat 1))) := by
  have e : intOf8 c + intOf8 (UInt8.ofNat 1) = ((c.toNat + 1 : Nat) : Int) := rfl
  have e2 : IntKind.wrap IntKind.u8 ((c.toNat + 1 : Nat) : Int) = ((c.toNat + 1 : Nat) : Int) := wrap_u8 (by omega) (by omega)
  rw [e, e2, UInt8.lt_iff_toNat_lt]
  simp [Sx.byteOf]
  omega
theorem endOf_form {p : List UInt8} (h : IsPrefix p) : ∃ p0 c c', p = p0 ++ [c] ∧ endOf p = p0 ++ [c'] ∧ c < c' := by
  have hne : p ≠ [] := by
    intro e
    have := h.2.1
    rw [e] at this
    exact absurd this (by simp)
  have hp := List.dropLast_concat_getLast hne
  refine ⟨p.dropLast, p.getLast hne, _, hp.symm, ?_, next_lt (p.getLast hne) (h.2.2.2 _ (List.getLast_mem hne)).2⟩
  unfold endOf
  rw [if_pos h]
  generalize hq : p.dropLast = q at hp
  generalize hc : p.getLast hne = c at hp
  subst hp
  simp [List.getD_eq_getElem?_getD]
theorem endOf_ne {p : List UInt8} (h : IsPrefix p) : endOf p ≠ [] := by
  obtain ⟨p0, c, c', _, e, _⟩ := endOf_form h
  rw [e]; simp
theorem endOf_app {p : List UInt8} (h : IsPrefix p) (r : List UInt8) : endOf p ≠ p ++ r := by
  obtain ⟨p0, c, c', e1, e2, h3⟩ := endOf_form h
  rw [e2, e1]
  intro h
  have h := List.append_cancel_left (h.trans (List.append_assoc _ _ _))
  obtain rfl := (List.cons.inj h).1
  exact absurd h3 (by simp)
theorem lt_endOf {p : List UInt8} (h : IsPrefix p) (s : List UInt8) : strlt (p ++ s) (endOf p) = true := by
  obtain ⟨p0, c, c', e1, e2, h3⟩ := endOf_form h
  rw [e2, e1, List.append_assoc, strlt_append, List.singleton_append, strlt_cons]
  simp [h3]
theorem prefix_ne {p : List UInt8} (h : IsPrefix p) (r : List UInt8) : p ++ r ≠ [] := by
  intro e
  have := h.2.1
  rw [(List.append_eq_nil_iff.1 e).1] at this
  exact absurd this (by simp)
def Ends (p q e e' : List UInt8) : Prop := (e = [] ∧ e' = []) ∨ (e = endOf p ∧ e' = endOf q) ∨ ∃ r, e = p ++ r ∧ e' = q ++ r
def Moves (p q k e k' e' : List UInt8) : Prop := IsPrefix p ∧ IsPrefix q ∧ IsRange k e ∧ IsRange k' e' ∧ (∃ r, k = p ++ r ∧ k' = q ++ r) ∧ Ends p q e e'
theorem Moves.symm {p q k e k' e' : List UInt8} (h : Moves p q k e k' e') : Moves q p k' e' k e := by
  obtain ⟨h1, h2, h3, h4, ⟨r, h5, h6⟩, h7⟩ := h
  refine ⟨h2, h1, h4, h3, ⟨r, h6, h5⟩, ?_⟩
  rcases h7 with ⟨a, b⟩ | ⟨a, b⟩ | ⟨r, a, b⟩
  · exact .inl ⟨b, a⟩
  · exact .inr (.inl ⟨b, a⟩)
  · exact .inr (.inr ⟨r, b, a⟩)
theorem Moves.trans {p q s k e k' e' k'' e'' : List UInt8} (h : Moves p q k e k' e') (g : Moves q s k' e' k'' e'') : Moves p s k e k'' e'' := by
  obtain ⟨h1, h2, h3, h4, ⟨r, h5, h6⟩, h7⟩ := h
  obtain ⟨g1, g2, g3, g4, ⟨r2, g5, g6⟩, g7⟩ := g
  obtain rfl := List.append_cancel_left (h6.symm.trans g5)
  refine ⟨h1, g2, h3, g4, ⟨r, h5, g6⟩, ?_⟩
  rcases h7 with ⟨a, b⟩ | ⟨a, b⟩ | ⟨t, a, b⟩
  · rcases g7 with ⟨c, d⟩ | ⟨c, d⟩ | ⟨u, c, d⟩
    · exact .inl ⟨a, d⟩
    · exact absurd (c.symm.trans b) (endOf_ne h2)
    · exact absurd (c.symm.trans b) (prefix_ne h2 u)
  · rcases g7 with ⟨c, d⟩ | ⟨c, d⟩ | ⟨u, c, d⟩
    · exact absurd (b.symm.trans c) (endOf_ne h2)
    · exact .inr (.inl ⟨a, d⟩)
    · exact absurd (b.symm.trans c) (endOf_app h2 u)
  · rcases g7 with ⟨c, d⟩ | ⟨c, d⟩ | ⟨u, c, d⟩
    · exact absurd (b.symm.trans c) (prefix_ne h2 t)
    · exact absurd (c.symm.trans b) (endOf_app h2 t)
    · obtain rfl := List.append_cancel_left (b.symm.trans c)
      exact .inr (.inr ⟨t, a, d⟩)
theorem begins_app (p r : List UInt8) : begins (p ++ r) p = true := begins_iff.2 ⟨r, rfl⟩
theorem rangeTo_of {p q k e k' e' : List UInt8} (h : Moves p q k e k' e') : rangeTo p q k e = (k', e', true, ()) := by
  obtain ⟨h1, h2, h3, h4, ⟨r, rfl, rfl⟩, h7⟩ := h
  have hk : keyTo p q (p ++ r) = (q ++ r, true, ()) := by
    unfold keyTo
    have : (p ++ r).drop p.length = r := by simp
    rw [this]
    exact if_pos ⟨⟨h1, h3.1, begins_app p r⟩, h2, h4.1⟩
  unfold rangeTo
  rw [hk, if_pos ⟨rfl, h3⟩]
  rcases h7 with ⟨rfl, rfl⟩ | ⟨rfl, rfl⟩ | ⟨t, rfl, rfl⟩
  · rw [if_pos rfl]
  · rw [if_neg (endOf_ne h1), if_pos rfl, if_pos h4]
  · rw [if_neg (prefix_ne h1 t), if_neg (fun h => endOf_app h1 t h.symm), if_pos (begins_app p t)]
    have : (p ++ t).drop p.length = t := by simp
    rw [this, if_pos h4]
theorem rangeTo_cases (p q k e : List UInt8) : rangeTo p q k e = ([], [], false, ()) ∨ ∃ k' e', Moves p q k e k' e' ∧ rangeTo p q k e = (k', e', true, ()) := by
  by_cases h1 : (keyTo p q k).2.1 = true ∧ IsRange k e
  · obtain ⟨⟨k1, k2, k3⟩, k4, k5, k6⟩ := keyTo_ok h1.1
    obtain ⟨r, rfl⟩ := begins_iff.1 k3
    have hd : (p ++ r).drop p.length = r := by simp
    rw [hd] at k5 k6
    by_cases h2 : e = []
    · subst h2
      exact .inr ⟨_, _, ⟨k1, k4, h1.2, ⟨k5, .inl rfl⟩, ⟨r, rfl, rfl⟩, .inl ⟨rfl, rfl⟩⟩, rangeTo_of ⟨k1, k4, h1.2, ⟨k5, .inl rfl⟩, ⟨r, rfl, rfl⟩, .inl ⟨rfl, rfl⟩⟩⟩
    · by_cases h3 : e = endOf p
      · by_cases h4 : IsRange (q ++ r) (endOf q)
        · have hM : Moves p q (p ++ r) e (q ++ r) (endOf q) := ⟨k1, k4, h1.2, h4, ⟨r, rfl, rfl⟩, .inr (.inl ⟨h3, rfl⟩)⟩
          exact .inr ⟨_, _, hM, rangeTo_of hM⟩
        · left
          unfold rangeTo
          rw [if_pos h1, if_neg h2, if_pos h3, k6, if_neg h4]
      · cases h4 : begins e p with
        | true =>
          obtain ⟨t, rfl⟩ := begins_iff.1 h4
          by_cases h5 : IsRange (q ++ r) (q ++ t)
          · have hM : Moves p q (p ++ r) (p ++ t) (q ++ r) (q ++ t) := ⟨k1, k4, h1.2, h5, ⟨r, rfl, rfl⟩, .inr (.inr ⟨t, rfl, rfl⟩)⟩
            exact .inr ⟨_, _, hM, rangeTo_of hM⟩
          · left
            unfold rangeTo
            have hd2 : (p ++ t).drop p.length = t := by simp
            rw [if_pos h1, if_neg h2, if_neg h3, if_pos h4, hd2, k6, if_neg h5]
        | false =>
          left
          unfold rangeTo
          rw [if_pos h1, if_neg h2, if_neg h3, if_neg (by rw [h4]; exact Bool.noConfusion)]
  · left
    unfold rangeTo
    rw [if_neg h1]
theorem law6 (x : (argTy P6).den) : F6 x = some (true, ()) := by
  obtain ⟨p, q, s, k, e, ⟨⟩⟩ : List UInt8 × List UInt8 × List UInt8 × List UInt8 × List UInt8 × Unit := x
  unfold F6
  simp only [F7_eq, Option.bind_some, Bool.not_true, cond_false, F14_eq]
  have key : (bif !(rangeTo p q k e).2.2.1 then bif decide ((rangeTo p q k e).1 = []) then some (decide ((rangeTo p q k e).2.1 = []), ()) else some (false, ()) else bif (rangeTo q s (rangeTo p q k e).1 (rangeTo p q k e).2.1).2.2.1 == (rangeTo p s k e).2.2.1 then bif decide ((rangeTo q s (rangeTo p q k e).1 (rangeTo p q k e).2.1).1 = (rangeTo p s k e).1) then some (decide ((rangeTo q s (rangeTo p q k e).1 (rangeTo p q k e).2.1).2.1 = (rangeTo p s k e).2.1), ()) else some (false, ()) else some (false, ())) = some (true, ()) := by
    rcases rangeTo_cases p q k e with h | ⟨k', e', hM, h⟩
    · rw [h]; simp
    · rw [h]
      simp only [Bool.not_true, cond_false]
      have he : rangeTo q s k' e' = rangeTo p s k e := by
        rcases rangeTo_cases q s k' e' with h2 | ⟨k2, e2, hM2, h2⟩
        · rcases rangeTo_cases p s k e with h3 | ⟨k3, e3, hM3, h3⟩
          · rw [h2, h3]
          · have := rangeTo_of (hM.symm.trans hM3)
            rw [this] at h2
            exact absurd h2 (by simp)
        · rw [h2, rangeTo_of (hM.trans hM2)]
      rw [he]
      simp
  rw [key]
  exact same_cond _ _
def InR (a b k : List UInt8) : Prop := IsRange a b ∧ IsKey k ∧ ((b = [] ∧ k = a) ∨ (b ≠ [] ∧ strlt k a = false ∧ strlt k b = true))
theorem F20_eq (a b k : List UInt8) (ha : a.length ≤ 140737488351232) (hb : b.length ≤ 140737488351232) (hk : k.length ≤ 140737488351232) : F20 (a, b, k, ()) = some (decide (InR a b k), ()) := by
  unfold F20 InR
  simp only [refRange_eq a b ha hb, refKey_eq k hk, Option.bind_some]
  by_cases h1 : IsRange a b
  · by_cases h2 : IsKey k
    · by_cases h3 : b = []
      · subst h3; simp [h1, h2]
      · have e : decide (Int.ofNat b.length = 0) = false := decide_eq_false (by simp [h3])
        simp only [h1, h2, h3, e, decide_true, Bool.not_true, cond_false]
        cases h4 : strlt k a <;> cases h5 : strlt k b <;> simp [h3]
    · simp [h1, h2]
  · simp [h1]
theorem InR_moves {p q k e k' e' s : List UInt8} (h : Moves p q k e k' e') (h1 : IsKey (p ++ s)) (h2 : IsKey (q ++ s)) : InR k e (p ++ s) ↔ InR k' e' (q ++ s) := by
  obtain ⟨g1, g2, g3, g4, ⟨r, rfl, rfl⟩, g7⟩ := h
  unfold InR
  simp only [g3, g4, h1, h2, true_and, strlt_append]
  rcases g7 with ⟨rfl, rfl⟩ | ⟨rfl, rfl⟩ | ⟨t, rfl, rfl⟩
  · simp
  · simp [endOf_ne g1, endOf_ne g2, lt_endOf g1 s, lt_endOf g2 s]
  · have e1 : ∀ {c : Prop}, (p ++ t = [] ∧ c) = False := fun {c} => eq_false (fun h => prefix_ne g1 t h.1)
    have e2 : ∀ {c : Prop}, (q ++ t = [] ∧ c) = False := fun {c} => eq_false (fun h => prefix_ne g2 t h.1)
    have e3 : (p ++ t ≠ []) = True := eq_true (prefix_ne g1 t)
    have e4 : (q ++ t ≠ []) = True := eq_true (prefix_ne g2 t)
    simp only [e1, e2, e3, e4, strlt_append]
theorem law5 (x : (argTy P5).den) (hx : Fit47 (argTy P5) x) : F5 x = some (true, ()) := by
  obtain ⟨p, q, k, e, j, ⟨⟩⟩ : List UInt8 × List UInt8 × List UInt8 × List UInt8 × List UInt8 × Unit := x
  obtain ⟨hp, hq, hk, he, hj, -⟩ := hx
  unfold F5
  simp only [F7_eq, Option.bind_some, Bool.not_true, cond_false, F14_eq, F12_eq]
  refine Eq.trans (congrArg (fun z => cond _ (some (true, ())) z) ?_) (same_cond _ _)
  rcases rangeTo_cases p q k e with h | ⟨k', e', hM, h⟩
  · rw [h]; simp
  · rw [h]
    simp only [Bool.not_true, cond_false]
    rw [rangeTo_of hM.symm]
    simp only [Bool.not_true, cond_false, decide_true]
    cases hj2 : (keyTo p q j).2.1 with
    | false => rfl
    | true =>
      obtain ⟨⟨k1, k2, k3⟩, k4, k5, k6⟩ := keyTo_ok hj2
      obtain ⟨s, rfl⟩ := begins_iff.1 k3
      have hd : (p ++ s).drop p.length = s := by simp
      rw [hd] at k5 k6
      simp only [Bool.not_true, cond_false, k6]
      rw [F20_eq k e (p ++ s) hk he hj, Option.bind_some]
      have l1 := hM.2.2.2.1.1.len
      have l2 := hM.2.2.2.1.len
      have l3 := k5.len
      rw [F20_eq k' e' (q ++ s) (by omega) (by omega) (by omega), Option.bind_some]
      have hd : decide (InR k e (p ++ s)) = decide (InR k' e' (q ++ s)) := by
        rw [Bool.eq_iff_iff]; simp only [decide_eq_true_eq]; exact InR_moves hM k2 k5
      obtain ⟨r, rfl, rfl⟩ := hM.2.2.2.2.1
      rw [hd, strlt_append, strlt_append]
      simp
end Go.Proofs.Ytgfdlapadghggaa
