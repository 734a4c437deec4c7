/-
  remap: the plain laws.
-/
import Derived.Test.YtgfdlapadghggaaKeyPlain
namespace Go.Proofs.Ytgfdlapadghggaa
open Go.Sx Go Classical
set_option maxRecDepth 10000
theorem F21_eq (n : Int) : F21 (n, ()) = some (decide (1 ≤ n ∧ n ≤ 1099511627776), ()) := by
  unfold F21
  by_cases h : 1 ≤ n <;> simp [h]
theorem F22_eq (n : Int) : F22 (n, ()) = some (decide (1 ≤ n ∧ n ≤ 1099511627776), ()) := by
  unfold F22
  by_cases h : 1 ≤ n <;> simp [h]
def Num (n : Int) : Prop := 1 ≤ n ∧ n ≤ 1099511627776
theorem F11_eq (a b : Int) : F11 ((a, b, ()), ()) = some (decide (Num a ∧ Num b), ()) := by
  unfold F11 Num
  simp only [F21_eq, Option.bind_some]
  by_cases h : 1 ≤ a ∧ a ≤ 1099511627776 <;> simp [h]
/-- a revision of one count in another one -/
noncomputable def goes (a b n : Int) : Int × Bool × Unit := if (Num a ∧ Num b) ∧ b ≤ n ∧ n ≤ 1099511627776 ∧ n - b + a ≤ 1099511627776 then (n - b + a, true, ()) else (0, false, ())
theorem F8_eq (a b n : Int) : F8 ((a, b, ()), n, ()) = some (goes a b n) := by
  unfold F8 goes
  simp only [F11_eq, Option.bind_some]
  by_cases h : Num a ∧ Num b
  · simp only [h, decide_true, Bool.not_true, cond_false]
    obtain ⟨⟨a1, a2⟩, b1, b2⟩ := h
    by_cases h1 : n < b
    · have : ¬ b ≤ n := by omega
      simp [h1, this]
    · by_cases h2 : 1099511627776 < n
      · have : ¬ n ≤ 1099511627776 := by omega
        simp [h1, h2, this]
      · have h3 : b ≤ n := by omega
        have h4 : n ≤ 1099511627776 := by omega
        have e1 : wrap64 (n - b) = n - b := wrap64_eq (by omega) (by omega)
        have e2 : wrap64 (n - b + a) = n - b + a := wrap64_eq (by omega) (by omega)
        have h5 : 1 ≤ n - b + a := by omega
        simp only [h1, h2, decide_false, cond_false, e1, e2, F21_eq, Option.bind_some, h3, h4, h5, true_and]
        by_cases h6 : n - b + a ≤ 1099511627776 <;> simp [h6]
  · simp [h]
theorem F9_eq (a b n : Int) : F9 (n, b, a, ()) = some (goes a b n) := by
  unfold F9 goes
  simp only [F22_eq, Option.bind_some]
  by_cases ha : 1 ≤ a ∧ a ≤ 1099511627776
  · by_cases hb : 1 ≤ b ∧ b ≤ 1099511627776
    · have hN : Num a ∧ Num b := ⟨ha, hb⟩
      simp only [ha, hb, hN, and_self, decide_true, Bool.not_true, cond_false, true_and]
      by_cases h1 : n < b
      · have : ¬ b ≤ n := by omega
        simp [h1, this]
      · by_cases h2 : 1099511627776 < n
        · have : ¬ n ≤ 1099511627776 := by omega
          simp [h1, h2, this]
        · have h3 : b ≤ n := by omega
          have h4 : n ≤ 1099511627776 := by omega
          have e1 : wrap64 (n - b) = n - b := wrap64_eq (by omega) (by omega)
          have e2 : wrap64 (1099511627776 - a) = 1099511627776 - a := wrap64_eq (by omega) (by omega)
          have e3 : wrap64 (a + (n - b)) = n - b + a := by rw [wrap64_eq (by omega) (by omega)]; omega
          simp only [h1, h2, decide_false, cond_false, e1, e2, e3, h3, h4, true_and]
          by_cases h6 : 1099511627776 - a < n - b
          · have : ¬ n - b + a ≤ 1099511627776 := by omega
            simp [h6, this]
          · have : n - b + a ≤ 1099511627776 := by omega
            simp [h6, this]
    · have : ¬ (Num a ∧ Num b) := fun h => hb h.2
      simp [ha, hb, this]
  · have : ¬ (Num a ∧ Num b) := fun h => ha h.1
    by_cases hb : 1 ≤ b ∧ b ≤ 1099511627776 <;> simp [ha, hb, this]
theorem F10_eq (a b n : Int) : F10 ((a, b, ()), n, ()) = some (goes b a n) := by
  unfold F10
  simp [F8_eq]
theorem isKey_of {s : List UInt8} (h1 : 1 ≤ s.length) (h2 : s.length ≤ 32) (h3 : s.all (fun c => decide (33 ≤ c.toNat) && decide (c.toNat ≤ 126)) = true) : IsKey s :=
  ⟨h1, h2, fun c hc => by simpa using List.all_eq_true.1 h3 c hc⟩
def IsPrefix (s : List UInt8) : Prop := s.length ≤ 8 ∧ IsKey s
theorem prefix_eq (s : List UInt8) : F23 (s, ()) = some (decide (IsPrefix s), ()) := by
  unfold F23 IsPrefix
  by_cases h : s.length ≤ 8
  · have e : decide (Int.ofNat s.length ≤ 8) = true := decide_eq_true (by simp; omega)
    simp only [e, cond_true, key_eq, Option.bind_some, h, true_and]
  · have e : decide (Int.ofNat s.length ≤ 8) = false := decide_eq_false (by simp; omega)
    simp only [e, cond_false, h, false_and, decide_false]
theorem refPrefix_eq (s : List UInt8) (hs : s.length ≤ 140737488351232) : F25 (s, ()) = some (decide (IsPrefix s), ()) := by
  unfold F25 IsPrefix
  by_cases h : s.length ≤ 8
  · have e : decide (Int.ofNat s.length ≤ 8) = true := decide_eq_true (by simp; omega)
    simp only [e, cond_true, refKey_eq s hs, Option.bind_some, h, true_and]
  · have e : decide (Int.ofNat s.length ≤ 8) = false := decide_eq_false (by simp; omega)
    simp only [e, cond_false, h, false_and, decide_false]
theorem F33_eq (s p : List UInt8) : F33 (s, p, ()) = some (begins s p, ()) := by
  unfold F33
  by_cases h : p.length ≤ s.length
  · have e : decide (Int.ofNat p.length ≤ Int.ofNat s.length) = true := decide_eq_true (by simpa using h)
    simp only [e, cond_true, sliceO_take h, Option.bind_some, begins]
  · have e : decide (Int.ofNat p.length ≤ Int.ofNat s.length) = false := decide_eq_false (by simpa using h)
    simp only [e, cond_false, begins_len h]
theorem F30_eq (s p : List UInt8) : F30 (s, p, ()) = some (begins s p, ()) := by
  unfold F30
  by_cases h : p.length ≤ s.length
  · have e : decide (Int.ofNat p.length ≤ Int.ofNat s.length) = true := decide_eq_true (by simpa using h)
    simp only [e, cond_true, sliceO_take h, Option.bind_some, begins]
  · have e : decide (Int.ofNat p.length ≤ Int.ofNat s.length) = false := decide_eq_false (by simpa using h)
    simp only [e, cond_false, begins_len h]
theorem F28_eq (s p : List UInt8) : F28 (s, p, ()) = some (begins s p, ()) := by
  unfold F28
  simp [F33_eq]
def Under (p k : List UInt8) : Prop := IsPrefix p ∧ IsKey k ∧ begins k p = true
theorem F18_eq (p k : List UInt8) : F18 (p, k, ()) = some (decide (Under p k), ()) := by
  unfold F18 Under
  simp only [prefix_eq, key_eq, F28_eq, Option.bind_some]
  by_cases h1 : IsPrefix p <;> by_cases h2 : IsKey k <;> simp [h1, h2]
theorem F19_eq (p k : List UInt8) (hp : p.length ≤ 140737488351232) (hk : k.length ≤ 140737488351232) : F19 (p, k, ()) = some (decide (Under p k), ()) := by
  unfold F19 Under
  simp only [refPrefix_eq p hp, refKey_eq k hk, F30_eq, Option.bind_some]
  by_cases h1 : IsPrefix p <;> by_cases h2 : IsKey k <;> simp [h1, h2]
/-- a key under another prefix -/
noncomputable def keyTo (p q k : List UInt8) : List UInt8 × Bool × Unit :=
  if Under p k ∧ IsPrefix q ∧ IsKey (q ++ k.drop p.length) then (q ++ k.drop p.length, true, ()) else ([], false, ())
theorem Under.le {p k : List UInt8} (h : Under p k) : p.length ≤ k.length := by
  obtain ⟨r, rfl⟩ := begins_iff.1 h.2.2
  simp
theorem F12_eq (p q k : List UInt8) : F12 (p, q, k, ()) = some (keyTo p q k) := by
  unfold F12 keyTo
  simp only [F18_eq, prefix_eq, Option.bind_some]
  by_cases h1 : Under p k
  · by_cases h2 : IsPrefix q
    · have hle := h1.le
      have hk := h1.2.1.len
      have hq := h2.2.len
      simp only [h1, h2, decide_true, Bool.not_true, cond_false, sliceO_drop hle, Option.bind_some, true_and]
      rw [appO_eq (by simp [capB]; omega)]
      simp only [Option.bind_some, key_eq]
      by_cases h3 : IsKey (q ++ k.drop p.length) <;> simp [h3]
    · simp [h1, h2]
  · simp [h1]
theorem F13_eq (p q k : List UInt8) (hp : p.length ≤ 140737488351232) (hq : q.length ≤ 140737488351232) (hk : k.length ≤ 140737488351232) : F13 (p, q, k, ()) = some (keyTo p q k) := by
  unfold F13 keyTo
  simp only [F19_eq p k hp hk, refPrefix_eq q hq, Option.bind_some]
  by_cases h1 : Under p k
  · by_cases h2 : IsPrefix q
    · have hle := h1.le
      have hk' := h1.2.1.len
      have hq' := h2.2.len
      simp only [h1, h2, decide_true, Bool.not_true, cond_false, sliceO_drop hle, Option.bind_some, true_and]
      rw [appO_eq (by simp [capB]; omega)]
      simp only [Option.bind_some]
      rw [refKey_eq _ (by simp; omega)]
      by_cases h3 : IsKey (q ++ k.drop p.length) <;> simp [h3]
    · simp [h1, h2]
  · simp [h1]
/-- a prefix's end -/
noncomputable def endOf (s : List UInt8) : List UInt8 :=
  if IsPrefix s then s.set (s.length - 1) (Sx.byteOf (IntKind.wrap IntKind.u8 (intOf8 (s.getD (s.length - 1) 0) + intOf8 (UInt8.ofNat 1)))) else []
theorem idxN_nat {α : Type} (l : List α) (i : Nat) (h : i < l.length) : idxN l (i : Int) = some i := by
  unfold idxN
  have : (0 : Int) ≤ (i : Int) ∧ (i : Int) < (l.length : Int) := ⟨by omega, by omega⟩
  simp [this]
theorem F16_eq (s : List UInt8) : F16 (s, ()) = some (endOf s, ()) := by
  unfold F16 endOf
  simp only [prefix_eq, Option.bind_some]
  by_cases h : IsPrefix s
  · have h1 := h.2.1
    have h2 := h.2.len
    have e : wrap64 (Int.ofNat s.length - 1) = ((s.length - 1 : Nat) : Int) := by rw [ofNat_len, wrap64_eq (by omega) (by omega)]; omega
    have hlt : s.length - 1 < s.length := by omega
    simp only [h, decide_true, Bool.not_true, cond_false, if_true, e, idxN_nat s _ hlt, Option.bind_some, List.getElem?_eq_getElem hlt, List.getD_eq_getElem?_getD, Option.getD_some]
  · simp [h]
theorem F17_eq (s : List UInt8) (hs : s.length ≤ 140737488351232) : F17 (s, ()) = some (endOf s, ()) := by
  unfold F17 endOf
  simp only [refPrefix_eq s hs, Option.bind_some]
  by_cases h : IsPrefix s
  · have h1 := h.2.1
    have h2 := h.2.len
    have e : wrap64 (Int.ofNat s.length - 1) = ((s.length - 1 : Nat) : Int) := by rw [ofNat_len, wrap64_eq (by omega) (by omega)]; omega
    have hlt : s.length - 1 < s.length := by omega
    have hsl : sliceO s 0 ((s.length - 1 : Nat) : Int) = some (s.take (s.length - 1)) := sliceO_take (by omega)
    simp only [h, decide_true, Bool.not_true, cond_false, if_true, e, hsl, idx_nat, Option.bind_some, List.getElem?_eq_getElem hlt, List.getD_eq_getElem?_getD, Option.getD_some]
    rw [appO_eq (by simp [capB]; omega)]
    simp only [Option.bind_some]
    congr 2
    rw [List.set_eq_take_append_cons_drop, if_pos hlt, show s.length - 1 + 1 = s.length from by omega, List.drop_length]
  · simp [h]
/-- a range under another prefix -/
noncomputable def rangeTo (p q k e : List UInt8) : List UInt8 × List UInt8 × Bool × Unit :=
  if (keyTo p q k).2.1 = true ∧ IsRange k e then
    if e = [] then ((keyTo p q k).1, [], true, ())
    else if e = endOf p then (if IsRange (keyTo p q k).1 (endOf q) then ((keyTo p q k).1, endOf q, true, ()) else ([], [], false, ()))
    else if begins e p = true then (if IsRange (keyTo p q k).1 (q ++ e.drop p.length) then ((keyTo p q k).1, q ++ e.drop p.length, true, ()) else ([], [], false, ()))
    else ([], [], false, ())
  else ([], [], false, ())
theorem keyTo_ok {p q k : List UInt8} (h : (keyTo p q k).2.1 = true) : Under p k ∧ IsPrefix q ∧ IsKey (q ++ k.drop p.length) ∧ (keyTo p q k).1 = q ++ k.drop p.length := by
  unfold keyTo at h ⊢
  by_cases hc : Under p k ∧ IsPrefix q ∧ IsKey (q ++ k.drop p.length)
  · rw [if_pos hc]; exact ⟨hc.1, hc.2.1, hc.2.2, rfl⟩
  · rw [if_neg hc] at h; exact Bool.noConfusion h
theorem IsRange.len {a b : List UInt8} (h : IsRange a b) : b.length ≤ 32 := by
  rcases h.2 with rfl | h
  · simp
  · exact h.1.2.1
theorem F14_eq (p q k e : List UInt8) : F14 (p, q, k, e, ()) = some (rangeTo p q k e) := by
  unfold F14 rangeTo
  simp only [F12_eq, Option.bind_some, range_eq]
  cases h1 : (keyTo p q k).2.1 with
  | false => simp
  | true =>
    obtain ⟨k1, k2, k3, k4⟩ := keyTo_ok h1
    have hq := k2.2.len
    by_cases h2 : IsRange k e
    · have he := h2.len
      simp only [h2, decide_true, Bool.not_true, cond_false, and_self, if_true]
      by_cases h3 : e = []
      · simp [h3]
      · simp only [h3, decide_false, cond_false, F16_eq, Option.bind_some, if_false]
        by_cases h4 : e = endOf p
        · simp only [h4, decide_true, Bool.not_true, cond_false, Option.bind_some, Sum.elim_inl, if_true, range_eq]
          by_cases h5 : IsRange (keyTo p q k).1 (endOf q) <;> simp [h5]
        · simp only [h4, decide_false, Bool.not_false, cond_true, F28_eq, Option.bind_some, if_false]
          cases h5 : begins e p with
          | false => simp
          | true =>
            have hle : p.length ≤ e.length := by obtain ⟨r, rfl⟩ := begins_iff.1 h5; simp
            simp only [Bool.not_true, cond_false, sliceO_drop hle, Option.bind_some, if_true]
            rw [appO_eq (by simp [capB]; omega)]
            simp only [Option.bind_some, Sum.elim_inl, range_eq]
            by_cases h6 : IsRange (keyTo p q k).1 (q ++ e.drop p.length) <;> simp [h6]
    · simp [h2]
theorem endOf_len {s : List UInt8} : (endOf s).length ≤ s.length := by
  unfold endOf
  split <;> simp
theorem F15_eq (p q k e : List UInt8) (hp : p.length ≤ 140737488351232) (hq0 : q.length ≤ 140737488351232) (hk : k.length ≤ 140737488351232) (he0 : e.length ≤ 140737488351232) : F15 (p, q, k, e, ()) = some (rangeTo p q k e) := by
  unfold F15 rangeTo
  simp only [F13_eq p q k hp hq0 hk, Option.bind_some, refRange_eq k e hk he0]
  cases h1 : (keyTo p q k).2.1 with
  | false => simp
  | true =>
    obtain ⟨k1, k2, k3, k4⟩ := keyTo_ok h1
    have hq := k2.2.len
    have hk1 : (keyTo p q k).1.length ≤ 140737488351232 := by rw [k4]; have := k3.len; omega
    by_cases h2 : IsRange k e
    · have he := h2.len
      simp only [h2, decide_true, Bool.not_true, cond_false, and_self, if_true]
      by_cases h3 : e = []
      · simp [h3]
      · simp only [h3, decide_false, cond_false, F17_eq p hp, F17_eq q hq0, Option.bind_some, if_false]
        by_cases h4 : e = endOf p
        · simp only [h4, decide_true, cond_true, Option.bind_some, Sum.elim_inl, if_true]
          rw [refRange_eq _ _ hk1 (by have := @endOf_len q; omega)]
          by_cases h5 : IsRange (keyTo p q k).1 (endOf q) <;> simp [h5]
        · simp only [h4, decide_false, cond_false, F30_eq, Option.bind_some, if_false]
          cases h5 : begins e p with
          | false => simp
          | true =>
            have hle : p.length ≤ e.length := by obtain ⟨r, rfl⟩ := begins_iff.1 h5; simp
            simp only [cond_true, sliceO_drop hle, Option.bind_some, if_true]
            rw [appO_eq (by simp [capB]; omega)]
            simp only [Option.bind_some, Sum.elim_inl]
            rw [refRange_eq _ _ hk1 (by simp; omega)]
            by_cases h6 : IsRange (keyTo p q k).1 (q ++ e.drop p.length) <;> simp [h6]
    · simp [h2]
end Go.Proofs.Ytgfdlapadghggaa
