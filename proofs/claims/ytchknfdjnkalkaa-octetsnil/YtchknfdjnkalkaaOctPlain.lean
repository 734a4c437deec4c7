/-
  Octets, put and taken: the program's and the document's, as plain words.
-/
import Derived.Test.YtchknfdjnkalkaaOctetsOk
import Derived.Test.YtchknfdjnkalkaaSxR
namespace Go.Proofs.Ytchknfdjnkalkaa
open Go.Sx Go Classical
set_option maxRecDepth 10000
theorem wrapU64 {x : Int} (h1 : 0 ≤ x) (h2 : x < 18446744073709551616) : IntKind.wrap .u64 x = x := by
  simp only [IntKind.wrap, IntKind.bits, IntKind.signed]
  simp
  omega
theorem wrapU8 (x : Int) : IntKind.wrap .u8 x = x % 256 := by
  simp only [IntKind.wrap, IntKind.bits, IntKind.signed]
  simp
theorem wrapU64_mod (x : Int) : IntKind.wrap .u64 x = x % 18446744073709551616 := by
  simp only [IntKind.wrap, IntKind.bits, IntKind.signed]
  simp
/-- a number's lowest bytes, the highest first -/
def byteAt (v : Int) (k : Nat) : UInt8 := Sx.byteOf (v / 256 ^ k % 256)
def wideB (v : Int) : Nat → List UInt8
  | 0 => []
  | k + 1 => byteAt v k :: wideB v k
theorem wideB_len (v : Int) : ∀ k, (wideB v k).length = k
  | 0 => rfl
  | k + 1 => by simp [wideB, wideB_len v k]
/-- a number of bytes -/
def decStep (a : Int) (b : UInt8) : Int := a * 256 % 18446744073709551616 + b.toNat
def dec (l : List UInt8) : Int := l.foldl decStep 0
theorem decStep_bound (a : Int) (b : UInt8) : 0 ≤ decStep a b ∧ decStep a b < 18446744073709551616 := by
  have := b.toNat_lt
  unfold decStep
  omega
theorem fold_bound : ∀ (l : List UInt8) (a : Int), 0 ≤ a ∧ a < 18446744073709551616 → 0 ≤ l.foldl decStep a ∧ l.foldl decStep a < 18446744073709551616
  | [], a, h => h
  | b :: r, a, h => fold_bound r _ (decStep_bound a b)
theorem dec_bound (l : List UInt8) : 0 ≤ dec l ∧ dec l < 18446744073709551616 := fold_bound l 0 (by omega)
theorem or_step (a : Int) (b : UInt8) : bitsO BinOp.or IntKind.u64 (IntKind.wrap .u64 (a * 256)) (IntKind.wrap .u64 (intOf8 b)) = decStep a b := by
  have hb := b.toNat_lt
  have e2 : IntKind.wrap .u64 (intOf8 b) = ((b.toNat : Nat) : Int) := wrapU64 (by simp [intOf8]) (by simp [intOf8]; omega)
  obtain ⟨m, hm⟩ : ∃ m : Nat, a * 256 % 18446744073709551616 = ((2 ^ 8 * m : Nat) : Int) := ⟨(a % 72057594037927936).toNat, by omega⟩
  have hlt : 2 ^ 8 * m < 2 ^ 64 := by omega
  have e1 : ∀ n : Nat, (BitVec.ofInt 64 (n : Int)) = BitVec.ofNat 64 n := fun n => BitVec.ofInt_natCast _ _
  have key : (BitVec.ofInt 64 ((2 ^ 8 * m : Nat) : Int) ||| BitVec.ofInt 64 ((b.toNat : Nat) : Int)).toNat = 2 ^ 8 * m + b.toNat := by
    rw [e1, e1, BitVec.toNat_or, BitVec.toNat_ofNat, BitVec.toNat_ofNat, Nat.mod_eq_of_lt hlt, Nat.mod_eq_of_lt (by omega), ← Nat.two_pow_add_eq_or_of_lt (by omega : b.toNat < 2 ^ 8)]
  rw [e2, wrapU64_mod, hm]
  show IntKind.wrap .u64 (((BitVec.ofInt 64 ((2 ^ 8 * m : Nat) : Int) ||| BitVec.ofInt 64 ((b.toNat : Nat) : Int)).toNat : Nat) : Int) = _
  rw [key, wrapU64 (by omega) (by omega)]
  unfold decStep
  rw [hm]
  rfl
theorem add_step (a : Int) (b : UInt8) : IntKind.wrap .u64 (IntKind.wrap .u64 (a * 256) + IntKind.wrap .u64 (intOf8 b)) = decStep a b := by
  have hb := b.toNat_lt
  rw [wrapU64_mod (a * 256), wrapU64 (x := intOf8 b) (by simp [intOf8]) (by simp [intOf8]; omega)]
  have := decStep_bound a b
  exact wrapU64 this.1 this.2
theorem shl_step (a : Int) : shlO .u64 a 8 = some (IntKind.wrap .u64 (a * 256)) := by
  simp [shlO, IntKind.bits]
abbrev In : Type := List UInt8 × Bool × Unit
/-- so many bytes taken -/
def takeI (s : In) (n : Nat) : List UInt8 × In :=
  bif s.2.1 then ([], s) else bif decide (n ≤ s.1.length) then (s.1.take n, (s.1.drop n, false, ())) else ([], ([], true, ()))
/-- what is bad has nothing left -/
def Fine (s : In) : Prop := s.2.1 = true → s.1 = []
theorem Fine.take {s : In} (h : Fine s) (n : Nat) : Fine (takeI s n).2 := by
  unfold takeI
  cases hb : s.2.1 with
  | true => exact h
  | false =>
    by_cases hn : n ≤ s.1.length
    · simp [hn, Fine]
    · simp [hn, Fine]
theorem fail_eq (s : In) : F24 (s, ()) = some (([], true, ()), ()) := rfl
theorem take_eq (s : In) (n : Nat) : F28 (s, (n : Int), ()) = some ((takeI s n).1, (takeI s n).2, ()) := by
  unfold F28 takeI
  obtain ⟨b, bad, ⟨⟩⟩ := s
  cases bad with
  | true => rfl
  | false =>
    simp only [cond_false, fail_eq, Option.bind_some]
    by_cases hn : n ≤ b.length
    · have e : decide (Int.ofNat b.length < (n : Int)) = false := decide_eq_false (by simp; omega)
      have e2 : sliceO b 0 (n : Int) = some (b.take n) := sliceO_take hn
      have e3 : sliceO (b.take n) 0 (n : Int) = some (b.take n) := by
        have := sliceO_take (l := b.take n) (n := n) (by simp; omega)
        rw [List.take_take, Nat.min_self] at this
        exact this
      have e4 : sliceO b (n : Int) (b.length : Int) = some (b.drop n) := sliceO_drop hn
      simp only [e, e2, e3, e4, cond_false, Option.bind_some, hn, decide_true, cond_true]
    · have e : decide (Int.ofNat b.length < (n : Int)) = true := decide_eq_true (by simp; omega)
      simp only [e, cond_true, hn, decide_false, cond_false]
theorem bytes_eq (s : In) (h : Fine s) (n : Nat) : F45 (s, (n : Int), ()) = some ((takeI s n).1, (takeI s n).2, ()) := by
  unfold F45 takeI
  obtain ⟨b, bad, ⟨⟩⟩ := s
  cases bad with
  | true =>
    have : b = [] := h rfl
    subst this
    rfl
  | false =>
    simp only [cond_false]
    by_cases hn : n ≤ b.length
    · have e : decide (Int.ofNat b.length < (n : Int)) = false := decide_eq_false (by simp; omega)
      have e2 : sliceO b 0 (n : Int) = some (b.take n) := sliceO_take hn
      have e4 : sliceO b (n : Int) (b.length : Int) = some (b.drop n) := sliceO_drop hn
      simp only [e, e2, e4, cond_false, Option.bind_some, hn, decide_true, cond_true]
    · have e : decide (Int.ofNat b.length < (n : Int)) = true := decide_eq_true (by simp; omega)
      simp only [e, cond_true, hn, decide_false, cond_false]
/-- a number of so many bytes taken -/
def numI (s : In) (n : Nat) : Int × In := (dec (takeI s n).1, (takeI s n).2)
theorem takeI_len (s : In) (n : Nat) : (takeI s n).1.length ≤ n := by
  unfold takeI
  cases s.2.1 with
  | true => simp
  | false =>
    by_cases hn : n ≤ s.1.length
    · simp [hn]
    · simp [hn]
theorem inWide_eq (s : In) (n : Nat) (hn : n ≤ 100) : F42 (s, (n : Int), ()) = some ((numI s n).1, (numI s n).2, ()) := by
  unfold F42
  simp only [take_eq, Option.bind_some]
  have hl := takeI_len s n
  refine iter_fold (mk := fun i a => (a, (i : Int), ())) (l := (takeI s n).1) (g := decStep) (K := fun a => (a, (takeI s n).2, ())) (fun _ _ => True) (by omega) (fun i a v hi _ => ?_) (fun a _ => ?_) trivial
  · have hlt : i < (takeI s n).1.length := (List.getElem?_eq_some_iff.1 hi).1
    simp only [lt_len, hlt, decide_true, cond_true, idx_nat, hi, Option.bind_some, shl_step, or_step, wrap64_nat (show i < 9223372036854775807 by omega), and_self]
  · simp [lt_len]
theorem number_eq (s : In) (h : Fine s) (n : Nat) (hn : n ≤ 100) : F44 (s, (n : Int), ()) = some ((numI s n).1, (numI s n).2, ()) := by
  unfold F44
  simp only [bytes_eq s h, Option.bind_some]
  have hl := takeI_len s n
  refine iter_fold (mk := fun i a => (a, (i : Int), ())) (l := (takeI s n).1) (g := decStep) (K := fun a => (a, (takeI s n).2, ())) (fun _ _ => True) (by omega) (fun i a v hi _ => ?_) (fun a _ => ?_) trivial
  · have hlt : i < (takeI s n).1.length := (List.getElem?_eq_some_iff.1 hi).1
    simp only [lt_len, hlt, decide_true, cond_true, idx_nat, hi, Option.bind_some, add_step, wrap64_nat (show i < 9223372036854775807 by omega), and_self]
  · simp [lt_len]
def badI : In := ([], true, ())
theorem badI_fine : Fine badI := fun _ => rfl
/-- a count of at most so many -/
def countI (s : In) (most : Int) : Int × In :=
  bif decide (0 ≤ most ∧ (numI s 4).1 ≤ most ∧ (numI s 4).1 ≤ ((numI s 4).2.1.length : Int)) then numI s 4 else (0, badI)
theorem Fine.num {s : In} (h : Fine s) (n : Nat) : Fine (numI s n).2 := h.take n
theorem Fine.count {s : In} (h : Fine s) (m : Int) : Fine (countI s m).2 := by
  unfold countI
  cases decide (0 ≤ m ∧ (numI s 4).1 ≤ m ∧ (numI s 4).1 ≤ ((numI s 4).2.1.length : Int)) with
  | true => exact h.num 4
  | false => exact badI_fine
theorem numI_bound (s : In) (n : Nat) : 0 ≤ (numI s n).1 ∧ (numI s n).1 < 18446744073709551616 := dec_bound _
theorem numI_len (s : In) (n : Nat) : (numI s n).2.1.length ≤ s.1.length := by
  unfold numI takeI
  cases s.2.1 with
  | true => simp
  | false =>
    by_cases hn : n ≤ s.1.length
    · simp [hn]
    · simp [hn]
theorem left_eq (s : In) : F14 (s, ()) = some (Int.ofNat s.1.length, s, ()) := rfl
theorem maxI_eq (m : Int) : maxI m 0 = max m 0 := by
  unfold maxI
  first | rfl | (by_cases h : m < 0 <;> simp [h] <;> omega)
theorem inCount_eq (s : In) (most : Int) (hm : most ≤ 9223372036854775807) (hs : s.1.length ≤ 9223372036854775807) : F25 (s, most, ()) = some ((countI s most).1, (countI s most).2, ()) := by
  unfold F25 countI
  have hw : F42 (s, 4, ()) = some ((numI s 4).1, (numI s 4).2, ()) := inWide_eq s 4 (by omega)
  have hb := numI_bound s 4
  have hl := numI_len s 4
  simp only [hw, Option.bind_some, fail_eq, left_eq, maxI_eq]
  rw [wrapU64 (x := max most 0) (by omega) (by omega), wrapU64 (x := Int.ofNat (numI s 4).2.1.length) (by simp) (by simp; omega)]
  by_cases h1 : max most 0 < (numI s 4).1
  · have : ¬ (0 ≤ most ∧ (numI s 4).1 ≤ most ∧ (numI s 4).1 ≤ ((numI s 4).2.1.length : Int)) := by omega
    simp [h1, this, badI]
  · by_cases h2 : Int.ofNat (numI s 4).2.1.length < (numI s 4).1
    · have : ¬ (0 ≤ most ∧ (numI s 4).1 ≤ most ∧ (numI s 4).1 ≤ ((numI s 4).2.1.length : Int)) := by simp at h2; omega
      simp only [h1, h2, this, decide_true, decide_false, cond_true, cond_false]; rfl
    · by_cases h3 : most < 0
      · have : ¬ (0 ≤ most ∧ (numI s 4).1 ≤ most ∧ (numI s 4).1 ≤ ((numI s 4).2.1.length : Int)) := by omega
        simp only [h1, h2, h3, this, decide_true, decide_false, cond_true, cond_false]; rfl
      · have : (0 ≤ most ∧ (numI s 4).1 ≤ most ∧ (numI s 4).1 ≤ ((numI s 4).2.1.length : Int)) := by simp at h2; omega
        simp only [h1, h2, h3, this, decide_true, decide_false, cond_true, cond_false, and_self]
        rw [wrap64_eq (by omega) (by omega)]
theorem refCount_eq (s : In) (h : Fine s) (most : Int) (hm : most ≤ 9223372036854775807) (hs : s.1.length ≤ 9223372036854775807) : F31 (s, most, ()) = some ((countI s most).1, (countI s most).2, ()) := by
  unfold F31 countI
  have hw : F44 (s, 4, ()) = some ((numI s 4).1, (numI s 4).2, ()) := number_eq s h 4 (by omega)
  have hb := numI_bound s 4
  have hl := numI_len s 4
  simp only [hw, Option.bind_some]
  by_cases h3 : most < 0
  · have : ¬ (0 ≤ most ∧ (numI s 4).1 ≤ most ∧ (numI s 4).1 ≤ ((numI s 4).2.1.length : Int)) := by omega
    simp only [h3, this, decide_true, decide_false, cond_true, cond_false]; rfl
  · rw [wrapU64 (x := most) (by omega) (by omega), wrapU64 (x := Int.ofNat (numI s 4).2.1.length) (by simp) (by simp; omega)]
    by_cases h1 : most < (numI s 4).1
    · have : ¬ (0 ≤ most ∧ (numI s 4).1 ≤ most ∧ (numI s 4).1 ≤ ((numI s 4).2.1.length : Int)) := by omega
      simp only [h1, h3, this, decide_true, decide_false, cond_true, cond_false]; rfl
    · by_cases h2 : Int.ofNat (numI s 4).2.1.length < (numI s 4).1
      · have : ¬ (0 ≤ most ∧ (numI s 4).1 ≤ most ∧ (numI s 4).1 ≤ ((numI s 4).2.1.length : Int)) := by simp at h2; omega
        simp only [h1, h2, h3, this, decide_true, decide_false, cond_true, cond_false]; rfl
      · have : (0 ≤ most ∧ (numI s 4).1 ≤ most ∧ (numI s 4).1 ≤ ((numI s 4).2.1.length : Int)) := by simp at h2; omega
        simp only [h1, h2, h3, this, decide_true, decide_false, cond_false, cond_true, and_self]
        rw [wrap64_eq (by omega) (by omega)]
/-- a text of at most so many bytes -/
def textI (s : In) (most : Int) : List UInt8 × In := takeI (countI s most).2 (countI s most).1.toNat
theorem Fine.text {s : In} (h : Fine s) (m : Int) : Fine (textI s m).2 := (h.count m).take _
theorem countI_nat (s : In) (m : Int) : (countI s m).1 = (((countI s m).1.toNat : Nat) : Int) := by
  have : 0 ≤ (countI s m).1 := by
    unfold countI
    cases decide (0 ≤ m ∧ (numI s 4).1 ≤ m ∧ (numI s 4).1 ≤ ((numI s 4).2.1.length : Int)) with
    | true => exact (numI_bound s 4).1
    | false => exact Int.le_refl 0
  omega
theorem inText_eq (s : In) (most : Int) (hm : most ≤ 9223372036854775807) (hs : s.1.length ≤ 9223372036854775807) : F12 (s, most, ()) = some ((textI s most).1, (textI s most).2, ()) := by
  unfold F12 textI
  simp only [inCount_eq s most hm hs, Option.bind_some]
  rw [countI_nat, take_eq]
  rfl
theorem inBytes_eq (s : In) (most : Int) (hm : most ≤ 9223372036854775807) (hs : s.1.length ≤ 9223372036854775807) : F23 (s, most, ()) = some ((textI s most).1, (textI s most).2, ()) := by
  unfold F23 textI
  simp only [inCount_eq s most hm hs, Option.bind_some]
  rw [countI_nat, take_eq]
  rfl
theorem refText_eq (s : In) (h : Fine s) (most : Int) (hm : most ≤ 9223372036854775807) (hs : s.1.length ≤ 9223372036854775807) : F33 (s, most, ()) = some ((textI s most).1, (textI s most).2, ()) := by
  unfold F33 textI
  simp only [refCount_eq s h most hm hs, Option.bind_some]
  rw [countI_nat, bytes_eq _ (h.count most)]
  rfl
end Go.Proofs.Ytchknfdjnkalkaa
