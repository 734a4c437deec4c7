/-
  remap: the counts' law and the keys' law.
-/
import Derived.Test.YtgfdlapadghggaaRemapPlain
namespace Go.Proofs.Ytgfdlapadghggaa
open Go.Sx Go Classical
set_option maxRecDepth 10000
theorem same_cond {α : Type} (c : Bool) (x : α) : (bif c then x else x) = x := by cases c <;> rfl
theorem F7_eq : F7 () = some (true, ()) := by
  have p1 : IsPrefix [97, 47] := ⟨by decide, isKey_of (by decide) (by decide) rfl⟩
  have p2 : IsPrefix [98, 98, 47] := ⟨by decide, isKey_of (by decide) (by decide) rfl⟩
  have k1 : IsKey [97, 47, 120] := isKey_of (by decide) (by decide) rfl
  have k2 : IsKey [98, 98, 47, 120] := isKey_of (by decide) (by decide) rfl
  have u1 : Under [97, 47] [97, 47, 120] := ⟨p1, k1, by simp [begins]⟩
  have e1 : keyTo [97, 47] [98, 98, 47] [97, 47, 120] = ([98, 98, 47, 120], true, ()) := by
    unfold keyTo
    exact if_pos ⟨u1, p2, k2⟩
  have e2 : goes 7 20 21 = (8, true, ()) := by
    unfold goes Num
    exact if_pos ⟨⟨⟨by omega, by omega⟩, by omega, by omega⟩, by omega, by omega, by omega⟩
  have e3 : endOf [97, 47] = [97, 48] := by
    unfold endOf
    rw [if_pos p1]
    rfl
  unfold F7
  simp only [F12_eq, F8_eq, F16_eq, e1, e2, e3, Option.bind_some, decide_true, cond_true]
theorem goes_ok {a b n : Int} (h : (goes a b n).2.1 = true) : (Num a ∧ Num b) ∧ b ≤ n ∧ n ≤ 1099511627776 ∧ n - b + a ≤ 1099511627776 ∧ (goes a b n).1 = n - b + a := by
  unfold goes at h ⊢
  by_cases hc : (Num a ∧ Num b) ∧ b ≤ n ∧ n ≤ 1099511627776 ∧ n - b + a ≤ 1099511627776
  · rw [if_pos hc]; exact ⟨hc.1, hc.2.1, hc.2.2.1, hc.2.2.2, rfl⟩
  · rw [if_neg hc] at h; exact Bool.noConfusion h
theorem goes_back {a b n : Int} (h : (goes a b n).2.1 = true) : goes b a (goes a b n).1 = (n, true, ()) := by
  obtain ⟨h1, h2, h3, h4, h5⟩ := goes_ok h
  obtain ⟨⟨a1, a2⟩, b1, b2⟩ := h1
  rw [h5]
  unfold goes Num
  rw [if_pos ⟨⟨⟨b1, b2⟩, a1, a2⟩, by omega, by omega, by omega⟩]
  rw [show n - b + a - a + b = n by omega]
theorem law3 (x : (argTy P3).den) : F3 x = some (true, ()) := by
  obtain ⟨a, b, n, m, ⟨⟩⟩ : Int × Int × Int × Int × Unit := x
  unfold F3
  simp only [F7_eq, Option.bind_some, Bool.not_true, cond_false, F8_eq, F9_eq, F10_eq, F11_eq, decide_true, BEq.rfl]
  have ht : (goes a b n).2.1 = true → (bif (goes b a (goes a b n).1).2.1 then bif decide ((goes b a (goes a b n).1).1 = n) then bif !(goes a b m).2.1 then some (true, ()) else some (decide (n < m) == decide ((goes a b n).1 < (goes a b m).1), ()) else some (false, ()) else some (false, ())) = some (true, ()) := by
    intro h
    rw [goes_back h]
    simp only [decide_true, cond_true]
    cases hm : (goes a b m).2.1 with
    | false => rfl
    | true =>
      have e1 := (goes_ok h).2.2.2.2
      have e2 := (goes_ok hm).2.2.2.2
      simp only [Bool.not_true, cond_false, e1, e2]
      have : decide (n < m) = decide (n - b + a < m - b + a) := by rw [decide_eq_decide]; omega
      rw [this]
      simp
  have hj : (bif decide (1 ≤ a) then bif decide (a ≤ 1099511627776) then bif decide (1 ≤ b) then bif !(decide (Num a ∧ Num b) == decide (b ≤ 1099511627776)) then some (Sum.inr (false, ())) else some (Sum.inl ()) else bif !(decide (Num a ∧ Num b) == false) then some (Sum.inr (false, ())) else some (Sum.inl ()) else bif !(decide (Num a ∧ Num b) == false) then some (Sum.inr (false, ())) else some (Sum.inl ()) else bif !(decide (Num a ∧ Num b) == false) then some (Sum.inr (false, ())) else some (Sum.inl ()) : Option (Unit ⊕ Bool × Unit)) = some (Sum.inl ()) := by
    by_cases h1 : 1 ≤ a
    · by_cases h2 : a ≤ 1099511627776
      · by_cases h3 : 1 ≤ b
        · simp only [h1, h2, h3, decide_true, cond_true]
          have : decide (Num a ∧ Num b) = decide (b ≤ 1099511627776) := by
            rw [Bool.eq_iff_iff]; simp [Num, h1, h2, h3]
          rw [this]
          simp
        · have : decide (Num a ∧ Num b) = false := by simp [Num, h3]
          simp [h1, h2, h3, this]
      · have : decide (Num a ∧ Num b) = false := by simp [Num, h2]
        simp [h1, h2, this]
    · have : decide (Num a ∧ Num b) = false := by simp [Num, h1]
      simp [h1, this]
  rw [hj]
  simp only [Option.bind_some, Sum.elim_inl]
  cases h : (goes a b n).2.1 with
  | false => rfl
  | true => exact ht h
theorem law4 (x : (argTy P4).den) (hx : Fit47 (argTy P4) x) : F4 x = some (true, ()) := by
  obtain ⟨p, q, k, e, ⟨⟩⟩ : List UInt8 × List UInt8 × List UInt8 × List UInt8 × Unit := x
  obtain ⟨hp, hq, hk, he, -⟩ := hx
  unfold F4
  simp only [F7_eq, Option.bind_some, Bool.not_true, cond_false, F12_eq, F13_eq p q k hp hq hk, F14_eq, F15_eq p q k e hp hq hk he, F16_eq, F17_eq p hp, F18_eq, F19_eq p k hp hk, decide_true, BEq.rfl, cond_true]
  exact same_cond _ _
end Go.Proofs.Ytgfdlapadghggaa
