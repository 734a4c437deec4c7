/-
  Keys, ranges, prefixes: the program's and the document's, as plain words.
-/
import Derived.Test.YtphdilmnielgeaaIndexOk
import Derived.Test.YtphdilmnielgeaaSxS
namespace Go.Proofs.Ytphdilmnielgeaa
open Go.Sx Go Classical
set_option maxRecDepth 10000
/-- a text of a key's bytes, the highest one such -/
def Txt (m : UInt8) (s : List UInt8) : Prop := 1 ≤ s.length ∧ s.length ≤ 32 ∧ ∀ c ∈ s, 33 ≤ c.toNat ∧ c.toNat ≤ m.toNat
def IsKey (s : List UInt8) : Prop := Txt 126 s
def IsRange (a b : List UInt8) : Prop := IsKey a ∧ (b = [] ∨ (Txt 127 b ∧ strlt a b = true))
def chAt (m : UInt8) (s : List UInt8) (i : Nat) : Bool :=
  match s[i]? with
  | some c => decide (33 ≤ c.toNat ∧ c.toNat ≤ m.toNat)
  | none => true
theorem chAt_all (m : UInt8) (s : List UInt8) : (List.range s.length).all (chAt m s) = decide (∀ c ∈ s, 33 ≤ c.toNat ∧ c.toNat ≤ m.toNat) := by
  rw [Bool.eq_iff_iff, List.all_eq_true, decide_eq_true_eq]
  constructor
  · intro h c hc
    obtain ⟨i, hi, rfl⟩ := List.getElem_of_mem hc
    have := h i (List.mem_range.2 hi)
    unfold chAt at this
    rw [List.getElem?_eq_getElem hi] at this
    simpa using this
  · intro h i hi
    have hi := List.mem_range.1 hi
    unfold chAt
    rw [List.getElem?_eq_getElem hi]
    simpa using h _ (List.getElem_mem hi)
theorem idxText_eq (s : List UInt8) (m : UInt8) : F44 (s, m, ()) = some (decide (Txt m s), ()) := by
  unfold F44 Txt
  by_cases h1 : s.length < 1
  · have e : decide (Int.ofNat s.length < 1) = true := decide_eq_true (by simp; omega)
    have : ¬ 1 ≤ s.length := by omega
    simp only [e, cond_true, this, false_and, decide_false]
  · have e : decide (Int.ofNat s.length < 1) = false := decide_eq_false (by simp; omega)
    have h1' : 1 ≤ s.length := by omega
    by_cases h2 : 32 < s.length
    · have e2 : decide ((32 : Int) < Int.ofNat s.length) = true := decide_eq_true (by simp; omega)
      have : ¬ s.length ≤ 32 := by omega
      simp only [e, e2, cond_true, cond_false, this, false_and, and_false, decide_false]
    · have e2 : decide ((32 : Int) < Int.ofNat s.length) = false := decide_eq_false (by simp; omega)
      have h2' : s.length ≤ 32 := by omega
      simp only [e, e2, cond_false, h1', h2', true_and]
      refine (iter_all (mk := fun i => ((i : Int), ())) (chAt m s) (rt := (true, ())) (rf := (false, ())) (show s.length ≤ 9223372036854775807 by omega) (fun i hi => ?_) ?_).trans ?_
      · simp only [lt_len, hi, decide_true, cond_true, idx_nat, List.getElem?_eq_getElem hi, Option.bind_some, wrap64_nat (show i < 9223372036854775807 by omega), chAt]
        by_cases h3 : s[i].toNat < 33
        · have : ¬ 33 ≤ s[i].toNat := by omega
          have h3' : decide (intOf8 s[i] < intOf8 (UInt8.ofNat 33)) = true := decide_eq_true (by simp [intOf8]; omega)
          simp only [h3', cond_true, this, false_and, decide_false, cond_false]
        · have h3a : 33 ≤ s[i].toNat := by omega
          have h3' : decide (intOf8 s[i] < intOf8 (UInt8.ofNat 33)) = false := decide_eq_false (by simp [intOf8]; omega)
          by_cases h4 : m.toNat < s[i].toNat
          · have : ¬ s[i].toNat ≤ m.toNat := by omega
            have h4' : decide (intOf8 m < intOf8 s[i]) = true := decide_eq_true (by simp only [intOf8]; omega)
            simp only [h3', h4', cond_true, cond_false, this, and_false, decide_false]
          · have h4a : s[i].toNat ≤ m.toNat := by omega
            have h4' : decide (intOf8 m < intOf8 s[i]) = false := decide_eq_false (by simp only [intOf8]; omega)
            simp only [h3', h4', cond_false, h3a, h4a, and_self, decide_true, cond_true]
      · simp [lt_len]
      · rw [chAt_all]; cases decide (∀ c ∈ s, 33 ≤ c.toNat ∧ c.toNat ≤ m.toNat) <;> rfl
theorem refText_eq (s : List UInt8) (m : UInt8) (hs : s.length ≤ 140737488351232) : F45 (s, m, ()) = some (decide (Txt m s), ()) := by
  unfold F45 Txt
  have hK : ∀ {b : Bool}, (bif decide ((1 : Int) ≤ Int.ofNat s.length) then some (decide (Int.ofNat s.length ≤ (32 : Int)), ()) else some (false, ())) = some (decide (1 ≤ s.length ∧ s.length ≤ 32), ()) := by
    intro b
    by_cases h1 : 1 ≤ s.length
    · have e : decide ((1 : Int) ≤ Int.ofNat s.length) = true := decide_eq_true (by simp; omega)
      have e2 : decide (Int.ofNat s.length ≤ (32 : Int)) = decide (s.length ≤ 32) := by rw [decide_eq_decide]; simp; omega
      simp only [e, e2, cond_true, h1, true_and]
    · have e : decide ((1 : Int) ≤ Int.ofNat s.length) = false := decide_eq_false (by simp; omega)
      simp only [e, cond_false, h1, false_and, decide_false]
  refine (iter_all (mk := fun i => ((i : Int), ())) (chAt m s) (rt := (decide (1 ≤ s.length ∧ s.length ≤ 32), ())) (rf := (false, ())) (show s.length ≤ 9223372036854775807 by omega) (fun i hi => ?_) ?_).trans ?_
  · simp only [lt_len, hi, decide_true, cond_true, idx_nat, List.getElem?_eq_getElem hi, Option.bind_some, wrap64_nat (show i < 9223372036854775807 by omega), chAt]
    by_cases h3 : s[i].toNat < 33
    · have : ¬ 33 ≤ s[i].toNat := by omega
      have h3' : decide (intOf8 s[i] < intOf8 (UInt8.ofNat 33)) = true := decide_eq_true (by simp [intOf8]; omega)
      simp only [h3', cond_true, this, false_and, decide_false, cond_false]
    · have h3a : 33 ≤ s[i].toNat := by omega
      have h3' : decide (intOf8 s[i] < intOf8 (UInt8.ofNat 33)) = false := decide_eq_false (by simp [intOf8]; omega)
      by_cases h4 : m.toNat < s[i].toNat
      · have : ¬ s[i].toNat ≤ m.toNat := by omega
        have h4' : decide (intOf8 m < intOf8 s[i]) = true := decide_eq_true (by simp only [intOf8]; omega)
        simp only [h3', h4', cond_true, cond_false, this, and_false, decide_false]
      · have h4a : s[i].toNat ≤ m.toNat := by omega
        have h4' : decide (intOf8 m < intOf8 s[i]) = false := decide_eq_false (by simp only [intOf8]; omega)
        simp only [h3', h4', cond_false, h3a, h4a, and_self, decide_true, cond_true]
  · simp only [lt_len, Nat.lt_irrefl, decide_false, cond_false, @hK true]
    rfl
  · cases hb : (List.range s.length).all (chAt m s) with
    | true =>
      have h1 := of_decide_eq_true ((chAt_all m s).symm.trans hb)
      simp only [cond_true]
      refine congrArg (fun b => some (b, ())) ?_
      rw [Bool.eq_iff_iff]
      simp only [decide_eq_true_eq]
      exact ⟨fun h => ⟨h.1, h.2, h1⟩, fun h => ⟨h.1, h.2.1⟩⟩
    | false =>
      have h1 := of_decide_eq_false ((chAt_all m s).symm.trans hb)
      simp only [cond_false]
      refine congrArg (fun b => some (b, ())) ?_
      rw [eq_comm, Bool.eq_false_iff]
      simp only [ne_eq, decide_eq_true_eq]
      exact fun h => h1 h.2.2
theorem key_eq (s : List UInt8) : F14 (s, ()) = some (decide (IsKey s), ()) := by
  unfold F14
  exact bind_of (idxText_eq s _) rfl
theorem refKey_eq (s : List UInt8) (hs : s.length ≤ 140737488351232) : F15 (s, ()) = some (decide (IsKey s), ()) := by
  unfold F15
  exact bind_of (refText_eq s _ hs) rfl
theorem range_eq (a b : List UInt8) : F16 (a, b, ()) = some (decide (IsRange a b), ()) := by
  unfold F16 IsRange
  simp only [key_eq, Option.bind_some]
  by_cases h1 : IsKey a
  · by_cases h2 : b = []
    · simp [h1, h2]
    · simp only [h1, h2, decide_true, decide_false, cond_true, cond_false, false_or, true_and]
      refine bind_of (idxText_eq b _) ?_
      simp only [strlt_gt]
      by_cases h3 : Txt (UInt8.ofNat 127) b
      · have h3' : Txt 127 b := h3
        cases h4 : strlt a b <;> simp [h3, h3']
      · have h3' : ¬ Txt 127 b := h3
        simp [h3, h3']
  · simp [h1]
theorem refRange_eq (a b : List UInt8) (ha : a.length ≤ 140737488351232) (hb : b.length ≤ 140737488351232) : F17 (a, b, ()) = some (decide (IsRange a b), ()) := by
  unfold F17 IsRange
  simp only [refKey_eq a ha, Option.bind_some]
  by_cases h1 : IsKey a
  · by_cases h2 : b = []
    · simp [h1, h2]
    · have e : decide (Int.ofNat b.length = 0) = false := decide_eq_false (by simp [h2])
      simp only [h1, h2, e, decide_true, cond_true, cond_false, false_or, true_and]
      refine bind_of (refText_eq b _ hb) ?_
      by_cases h3 : Txt (UInt8.ofNat 127) b
      · have h3' : Txt 127 b := h3
        cases h4 : strlt a b <;> simp [h3, h3']
      · have h3' : ¬ Txt 127 b := h3
        simp [h3, h3']
  · simp [h1]
theorem IsKey.len {s : List UInt8} (h : IsKey s) : s.length ≤ 32 := h.2.1
end Go.Proofs.Ytphdilmnielgeaa
