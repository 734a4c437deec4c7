/-
  Plain laws of what lies below, as this seat reaches them (by a program of the bench: port.py).
-/
import Derived.Test.YteebpcpkhojfkaaGreatTalkOk
import Derived.Test.YteebpcpkhojfkaaGreatSxR
namespace Go.Proofs.YteebpcpkhojfkaaGreat
open Go.Sx Go Classical
set_option maxRecDepth 10000
theorem wrapU64 {x : Int} (h1 : 0 ≤ x) (h2 : x < 18446744073709551616) : IntKind.wrap .u64 x = x := by
  simp only [IntKind.wrap, IntKind.bits, IntKind.signed]
  simp
  omega
theorem wrapU8 (x : Int) : IntKind.wrap .u8 x = x % 256 := by
  simp only [IntKind.wrap, IntKind.bits, IntKind.signed]
  simp
theorem wrapU64_mod (x : Int) : IntKind.wrap .u64 x = x % 18446744073709551616 := by
  simp only [IntKind.wrap, IntKind.bits, IntKind.signed]
  simp
def byteAt (v : Int) (k : Nat) : UInt8 := Sx.byteOf (v / 256 ^ k % 256)
def wideB (v : Int) : Nat → List UInt8
  | 0 => []
  | k + 1 => byteAt v k :: wideB v k
theorem wideB_len (v : Int) : ∀ k, (wideB v k).length = k
  | 0 => rfl
  | k + 1 => by simp [wideB, wideB_len v k]
def decStep (a : Int) (b : UInt8) : Int := a * 256 % 18446744073709551616 + b.toNat
def dec (l : List UInt8) : Int := l.foldl decStep 0
theorem decStep_bound (a : Int) (b : UInt8) : 0 ≤ decStep a b ∧ decStep a b < 18446744073709551616 := by
  have := b.toNat_lt
  unfold decStep
  omega
theorem fold_bound : ∀ (l : List UInt8) (a : Int), 0 ≤ a ∧ a < 18446744073709551616 → 0 ≤ l.foldl decStep a ∧ l.foldl decStep a < 18446744073709551616
  | [], _a, h => h
  | b :: r, a, _h => fold_bound r _ (decStep_bound a b)
theorem dec_bound (l : List UInt8) : 0 ≤ dec l ∧ dec l < 18446744073709551616 := fold_bound l 0 (by omega)
theorem or_step (a : Int) (b : UInt8) : bitsO BinOp.or IntKind.u64 (IntKind.wrap .u64 (a * 256)) (IntKind.wrap .u64 (intOf8 b)) = decStep a b := by
  have hb := b.toNat_lt
  have e2 : IntKind.wrap .u64 (intOf8 b) = ((b.toNat : Nat) : Int) := wrapU64 (by simp [intOf8]) (by simp [intOf8]; omega)
  obtain ⟨m, hm⟩ : ∃ m : Nat, a * 256 % 18446744073709551616 = ((2 ^ 8 * m : Nat) : Int) := ⟨(a % 72057594037927936).toNat, by omega⟩
  have hlt : 2 ^ 8 * m < 2 ^ 64 := by omega
  have e1 : ∀ n : Nat, (BitVec.ofInt 64 (n : Int)) = BitVec.ofNat 64 n := fun n => BitVec.ofInt_natCast _ _
  have key : (BitVec.ofInt 64 ((2 ^ 8 * m : Nat) : Int) ||| BitVec.ofInt 64 ((b.toNat : Nat) : Int)).toNat = 2 ^ 8 * m + b.toNat := by
    rw [e1, e1, BitVec.toNat_or, BitVec.toNat_ofNat, BitVec.toNat_ofNat, Nat.mod_eq_of_lt hlt, Nat.mod_eq_of_lt (by omega), ← Nat.two_pow_add_eq_or_of_lt (by omega : b.toNat < 2 ^ 8)]
  rw [e2, wrapU64_mod, hm]
  show IntKind.wrap .u64 (((BitVec.ofInt 64 ((2 ^ 8 * m : Nat) : Int) ||| BitVec.ofInt 64 ((b.toNat : Nat) : Int)).toNat : Nat) : Int) = _
  rw [key, wrapU64 (by omega) (by omega)]
  unfold decStep
  rw [hm]
  rfl
theorem shl_step (a : Int) : shlO .u64 a 8 = some (IntKind.wrap .u64 (a * 256)) := by
  simp [shlO, IntKind.bits]
abbrev In : Type := List UInt8 × Bool × Unit
def takeI (s : In) (n : Nat) : List UInt8 × In :=
  bif s.2.1 then ([], s) else bif decide (n ≤ s.1.length) then (s.1.take n, (s.1.drop n, false, ())) else ([], ([], true, ()))
def Fine (s : In) : Prop := s.2.1 = true → s.1 = []
theorem Fine.take {s : In} (h : Fine s) (n : Nat) : Fine (takeI s n).2 := by
  unfold takeI
  cases hb : s.2.1 with
  | true => exact h
  | false =>
    by_cases hn : n ≤ s.1.length
    · simp [hn, Fine]
    · simp [hn, Fine]
theorem fail_eq (s : In) : F126 (s, ()) = some (([], true, ()), ()) := rfl
theorem take_eq (s : In) (n : Nat) : F190 (s, (n : Int), ()) = some ((takeI s n).1, (takeI s n).2, ()) := by
  unfold F190 takeI
  obtain ⟨b, bad, ⟨⟩⟩ := s
  cases bad with
  | true => rfl
  | false =>
    simp only [cond_false, fail_eq, Option.bind_some]
    by_cases hn : n ≤ b.length
    · have e : decide (Int.ofNat b.length < (n : Int)) = false := decide_eq_false (by simp; omega)
      have e2 : sliceO b 0 (n : Int) = some (b.take n) := sliceO_take hn
      have e3 : sliceO (b.take n) 0 (n : Int) = some (b.take n) := by
        have := sliceO_take (l := b.take n) (n := n) (by simp; omega)
        rw [List.take_take, Nat.min_self] at this
        exact this
      have e4 : sliceO b (n : Int) (b.length : Int) = some (b.drop n) := sliceO_drop hn
      simp only [e, e2, e3, e4, cond_false, Option.bind_some, hn, decide_true, cond_true]
    · have e : decide (Int.ofNat b.length < (n : Int)) = true := decide_eq_true (by simp; omega)
      simp only [e, cond_true, hn, decide_false, cond_false]
def numI (s : In) (n : Nat) : Int × In := (dec (takeI s n).1, (takeI s n).2)
theorem takeI_len (s : In) (n : Nat) : (takeI s n).1.length ≤ n := by
  unfold takeI
  cases s.2.1 with
  | true => simp
  | false =>
    by_cases hn : n ≤ s.1.length
    · simp [hn]
    · simp [hn]
theorem inWide_eq (s : In) (n : Nat) (hn : n ≤ 100) : F120 (s, (n : Int), ()) = some ((numI s n).1, (numI s n).2, ()) := by
  unfold F120
  simp only [take_eq, Option.bind_some]
  have hl := takeI_len s n
  refine iter_fold (mk := fun i a => (a, (i : Int), ())) (l := (takeI s n).1) (g := decStep) (K := fun a => (a, (takeI s n).2, ())) (fun _ _ => True) (by omega) (fun i a v hi _ => ?_) (fun a _ => ?_) trivial
  · have hlt : i < (takeI s n).1.length := (List.getElem?_eq_some_iff.1 hi).1
    simp only [lt_len, hlt, decide_true, cond_true, idx_nat, hi, Option.bind_some, shl_step, or_step, wrap64_nat (show i < 9223372036854775807 by omega), and_self]
  · simp
def badI : In := ([], true, ())
theorem badI_fine : Fine badI := fun _ => rfl
def countI (s : In) (most : Int) : Int × In :=
  bif decide (0 ≤ most ∧ (numI s 4).1 ≤ most ∧ (numI s 4).1 ≤ ((numI s 4).2.1.length : Int)) then numI s 4 else (0, badI)
theorem Fine.num {s : In} (h : Fine s) (n : Nat) : Fine (numI s n).2 := h.take n
theorem Fine.count {s : In} (h : Fine s) (m : Int) : Fine (countI s m).2 := by
  unfold countI
  cases decide (0 ≤ m ∧ (numI s 4).1 ≤ m ∧ (numI s 4).1 ≤ ((numI s 4).2.1.length : Int)) with
  | true => exact h.num 4
  | false => exact badI_fine
theorem numI_bound (s : In) (n : Nat) : 0 ≤ (numI s n).1 ∧ (numI s n).1 < 18446744073709551616 := dec_bound _
theorem numI_len (s : In) (n : Nat) : (numI s n).2.1.length ≤ s.1.length := by
  unfold numI takeI
  cases s.2.1 with
  | true => simp
  | false =>
    by_cases hn : n ≤ s.1.length
    · simp [hn]
    · simp [hn]
theorem left_eq (s : In) : F191 (s, ()) = some (Int.ofNat s.1.length, s, ()) := rfl
theorem maxI_eq (m : Int) : maxI m 0 = max m 0 := by
  unfold maxI
  first | rfl | (by_cases h : m < 0 <;> simp [h] <;> omega)
theorem inCount_eq (s : In) (most : Int) (hm : most ≤ 9223372036854775807) (hs : s.1.length ≤ 9223372036854775807) : F122 (s, most, ()) = some ((countI s most).1, (countI s most).2, ()) := by
  unfold F122 countI
  have hw : F120 (s, 4, ()) = some ((numI s 4).1, (numI s 4).2, ()) := inWide_eq s 4 (by omega)
  have hb := numI_bound s 4
  have hl := numI_len s 4
  simp only [hw, Option.bind_some, fail_eq, left_eq, maxI_eq]
  rw [wrapU64 (x := max most 0) (by omega) (by omega), wrapU64 (x := Int.ofNat (numI s 4).2.1.length) (by simp) (by simp; omega)]
  by_cases h1 : max most 0 < (numI s 4).1
  · have : ¬ (0 ≤ most ∧ (numI s 4).1 ≤ most ∧ (numI s 4).1 ≤ ((numI s 4).2.1.length : Int)) := by omega
    simp [h1, this, badI]
  · by_cases h2 : Int.ofNat (numI s 4).2.1.length < (numI s 4).1
    · have : ¬ (0 ≤ most ∧ (numI s 4).1 ≤ most ∧ (numI s 4).1 ≤ ((numI s 4).2.1.length : Int)) := by simp at h2; omega
      simp only [h1, h2, this, decide_true, decide_false, cond_true, cond_false]; rfl
    · by_cases h3 : most < 0
      · have : ¬ (0 ≤ most ∧ (numI s 4).1 ≤ most ∧ (numI s 4).1 ≤ ((numI s 4).2.1.length : Int)) := by omega
        simp only [h1, h2, h3, this, decide_true, decide_false, cond_true, cond_false]; rfl
      · have : (0 ≤ most ∧ (numI s 4).1 ≤ most ∧ (numI s 4).1 ≤ ((numI s 4).2.1.length : Int)) := by simp at h2; omega
        simp only [h1, h2, h3, this, decide_true, decide_false, cond_true, cond_false, and_self]
        rw [wrap64_eq (by omega) (by omega)]
def textI (s : In) (most : Int) : List UInt8 × In := takeI (countI s most).2 (countI s most).1.toNat
theorem Fine.text {s : In} (h : Fine s) (m : Int) : Fine (textI s m).2 := (h.count m).take _
theorem countI_nat (s : In) (m : Int) : (countI s m).1 = (((countI s m).1.toNat : Nat) : Int) := by
  have : 0 ≤ (countI s m).1 := by
    unfold countI
    cases decide (0 ≤ m ∧ (numI s 4).1 ≤ m ∧ (numI s 4).1 ≤ ((numI s 4).2.1.length : Int)) with
    | true => exact (numI_bound s 4).1
    | false => exact Int.le_refl 0
  omega
theorem inText_eq (s : In) (most : Int) (hm : most ≤ 9223372036854775807) (hs : s.1.length ≤ 9223372036854775807) : F130 (s, most, ()) = some ((textI s most).1, (textI s most).2, ()) := by
  unfold F130 textI
  simp only [inCount_eq s most hm hs, Option.bind_some]
  rw [countI_nat, take_eq]
  rfl
theorem pow256 (k : Nat) : (2 : Int) ^ (8 * k) = 256 ^ k := by
  rw [Int.pow_mul]; rfl
theorem pow_pos256 (k : Nat) : (0 : Int) < 256 ^ k := Int.pow_pos (by decide)
theorem div_range {v : Int} (h0 : 0 ≤ v) (h1 : v < 18446744073709551616) (k : Nat) : 0 ≤ v / 256 ^ k ∧ v / 256 ^ k < 18446744073709551616 := by
  refine ⟨Int.ediv_nonneg h0 (Int.le_of_lt (pow_pos256 k)), ?_⟩
  exact Int.lt_of_le_of_lt (Int.ediv_le_self _ h0) h1
theorem shr_step {v : Int} (h0 : 0 ≤ v) (h1 : v < 18446744073709551616) (k : Nat) (hk : k ≤ 7) : shrO .u64 v (8 * (k : Int)) = some (v / 256 ^ k) := by
  unfold shrO
  have e : decide (8 * (k : Int) < 0) = false := decide_eq_false (by omega)
  have e2 : min (8 * (k : Int)).toNat IntKind.u64.bits = 8 * k := by simp only [IntKind.bits]; omega
  rw [e, e2, pow256]
  have : v.fdiv (256 ^ k) = v / 256 ^ k := Int.fdiv_eq_ediv_of_nonneg _ (Int.le_of_lt (pow_pos256 k))
  obtain ⟨r1, r2⟩ := div_range h0 h1 k
  have w := wrapU64 r1 r2
  rw [this]
  simp only [cond_false]
theorem outWide_eq (b : List UInt8) {v : Int} (h0 : 0 ≤ v) (h1 : v < 18446744073709551616) (n : Nat) (hn : n ≤ 8) (hb : b.length + n ≤ 140737488355000) :
    F89 ((b, ()), v, (n : Int), ()) = some ((b ++ wideB v n, ()), ()) := by
  unfold F89
  have main : ∀ (n m : Nat) (b : List UInt8), n < m → n ≤ 8 → b.length + n ≤ 140737488355000 →
      iter (T := Int × List UInt8 × Unit) (R := (List UInt8 × Unit) × Unit) (fun (x_1 : Int × List UInt8 × Unit) =>
      bif decide (0 ≤ x_1.fst) then
        Option.bind (shrO IntKind.u64 v (wrap64 (8 * x_1.fst))) fun (b : Int) =>
          Option.bind (appU x_1.snd.fst [Sx.byteOf (IntKind.wrap IntKind.u8 b)]) fun (b : List UInt8) =>
            some (Sum.inl (wrap64 (x_1.fst - 1), b, ()))
      else some (Sum.inr (x_1.snd, ()))) m ((n : Int) - 1, b, ()) = some ((b ++ wideB v n, ()), ()) := by
    intro n
    induction n with
    | zero =>
      intro m b hm _ _
      cases m with
      | zero => omega
      | succ m => simp [iter, wideB]
    | succ n ih =>
      intro m b hm hn hb
      cases m with
      | zero => omega
      | succ m =>
        have e0 : ((n + 1 : Nat) : Int) - 1 = (n : Int) := by omega
        have e1 : decide ((0 : Int) ≤ (n : Int)) = true := decide_eq_true (by omega)
        have e2 : wrap64 (8 * (n : Int)) = 8 * (n : Int) := wrap64_eq (by omega) (by omega)
        have e3 : wrap64 ((n : Int) - 1) = (n : Int) - 1 := wrap64_eq (by omega) (by omega)
        rw [e0]
        simp only [iter, e1, cond_true, e2, shr_step h0 h1 n (by omega), Option.bind_some, e3]
        rw [appU_eq (by simp; omega)]
        simp only [Option.bind_some, Sum.elim_inl]
        rw [ih m (b ++ [Sx.byteOf (IntKind.wrap IntKind.u8 (v / 256 ^ n))]) (by omega) (by omega) (by simp; omega)]
        simp [wideB, byteAt, wrapU8]
  have e : wrap64 ((n : Int) - 1) = (n : Int) - 1 := wrap64_eq (by omega) (by omega)
  have := main n big b (by rw [big_eq]; omega) hn hb
  rw [← e] at this
  exact this
theorem outCount_eq (b : List UInt8) (n : Int) (hb : b.length + 4 ≤ 140737488355000) : F91 ((b, ()), n, ()) = some ((b ++ wideB (IntKind.wrap .u64 n) 4, ()), ()) := by
  unfold F91
  have hw := wrapU64_mod n
  have h : F89 ((b, ()), IntKind.wrap .u64 n, 4, ()) = _ := outWide_eq b (v := IntKind.wrap .u64 n) (by omega) (by omega) 4 (by omega) hb
  simp only [h, Option.bind_some]
theorem outNum_eq (b : List UInt8) (n : Int) (hb : b.length + 8 ≤ 140737488355000) : F28 ((b, ()), n, ()) = some ((b ++ wideB (IntKind.wrap .u64 n) 8, ()), ()) := by
  unfold F28
  have hw := wrapU64_mod n
  have h : F89 ((b, ()), IntKind.wrap .u64 n, 8, ()) = _ := outWide_eq b (v := IntKind.wrap .u64 n) (by omega) (by omega) 8 (by omega) hb
  simp only [h, Option.bind_some]
def textB (s : List UInt8) : List UInt8 := wideB (IntKind.wrap .u64 (Int.ofNat s.length)) 4 ++ s
theorem outText_eq (b s : List UInt8) (hb : b.length + 4 + s.length ≤ 140737488355000) : F97 ((b, ()), s, ()) = some ((b ++ textB s, ()), ()) := by
  unfold F97 textB
  simp only [outCount_eq b _ (show b.length + 4 ≤ 140737488355000 by omega), Option.bind_some]
  rw [appU_eq (by simp [wideB_len]; omega)]
  simp
theorem byteAt_zero (b : UInt8) : byteAt (intOf8 b) 0 = b := by
  have := b.toNat_lt
  unfold byteAt intOf8 Sx.byteOf
  have e : ((b.toNat : Int) / 256 ^ 0 % 256).toNat = b.toNat := by
    rw [Int.pow_zero, Int.ediv_one]; omega
  rw [e]; simp
theorem outByte_eq (b : List UInt8) (c : UInt8) (hb : b.length + 1 ≤ 140737488355000) : F25 ((b, ()), c, ()) = some ((b ++ [c], ()), ()) := by
  unfold F25
  have hc := c.toNat_lt
  have e : IntKind.wrap .u64 (intOf8 c) = intOf8 c := wrapU64 (by simp [intOf8]) (by simp [intOf8]; omega)
  have h : F89 ((b, ()), intOf8 c, 1, ()) = _ := outWide_eq b (v := intOf8 c) (by simp [intOf8]) (by simp [intOf8]; omega) 1 (by omega) hb
  simp only [e, h, Option.bind_some, wideB, byteAt_zero]
theorem outFlag_eq (b : List UInt8) (v : Bool) (hb : b.length + 1 ≤ 140737488355000) : F90 ((b, ()), v, ()) = some ((b ++ [bif v then UInt8.ofNat 1 else UInt8.ofNat 0], ()), ()) := by
  unfold F90
  simp only [outByte_eq b _ hb, Option.bind_some]
  cases v <;> rfl
theorem clone_eq (l : List UInt8) (h : l.length ≤ 140737488355000) : F103 (l, ()) = some (l, ()) := by
  unfold F103
  cases l with
  | nil =>
    simp only [List.isEmpty_nil, cond_true]
    rw [appU_eq (by simp)]
    exact both_same _
  | cons b r =>
    simp only [List.isEmpty_cons, cond_false]
    rw [appU_eq (by simpa using h)]
    rfl
theorem textB_len (s : List UInt8) : (textB s).length = s.length + 4 := by simp [textB, wideB_len]; omega
theorem end_eq (b : List UInt8) (h : b.length ≤ 60000) : F31 ((b, ()), ()) = some (b, 0, (b, ()), ()) := by
  unfold F31
  have e : decide ((60000 : Int) < Int.ofNat b.length) = false := decide_eq_false (by simp; omega)
  simp only [e, cond_false, clone_eq b (by omega), Option.bind_some]
theorem inNum_eq (s : In) : F50 (s, ()) = some (wrap64 (numI s 8).1, (numI s 8).2, ()) := by
  unfold F50
  have hw : F120 (s, 8, ()) = some ((numI s 8).1, (numI s 8).2, ()) := inWide_eq s 8 (by omega)
  simp only [hw, Option.bind_some]
theorem countI_len (s : In) (m : Int) : (countI s m).2.1.length ≤ s.1.length := by
  unfold countI
  cases decide (0 ≤ m ∧ (numI s 4).1 ≤ m ∧ (numI s 4).1 ≤ ((numI s 4).2.1.length : Int)) with
  | true => exact numI_len s 4
  | false => exact Nat.zero_le _
theorem newIn_eq (l : List UInt8) (h : l.length ≤ 140737488355000) : F47 (l, ()) = some ((l, false, ()), ()) := by
  unfold F47
  simp only [clone_eq l h, Option.bind_some]
theorem bad_eq (s : In) : F125 (s, ()) = some (s.2.1, s, ()) := rfl
theorem dec_nat : ∀ (l : List UInt8) (a : Nat), (a + 1) * 256 ^ l.length ≤ 18446744073709551616 → l.foldl decStep (a : Int) = ((l.foldl (fun a b => a * 256 + b.toNat) a : Nat) : Int)
  | [], a, _ => rfl
  | b :: r, a, h => by
    have hb := b.toNat_lt
    have h1 : (a + 1) * 256 * 256 ^ r.length ≤ 18446744073709551616 := by
      rw [List.length_cons, Nat.pow_succ, Nat.mul_comm (256 ^ r.length), ← Nat.mul_assoc] at h; exact h
    have h2 : (a + 1) * 256 ≤ 18446744073709551616 := Nat.le_trans (Nat.le_mul_of_pos_right _ (Nat.pow_pos (by decide))) h1
    have e : decStep (a : Int) b = ((a * 256 + b.toNat : Nat) : Int) := by unfold decStep; omega
    rw [List.foldl_cons, e, dec_nat r (a * 256 + b.toNat) (Nat.le_trans (Nat.mul_le_mul_right _ (by omega)) h1)]
    rfl
theorem byteAt_nat (w n : Nat) : (byteAt (w : Int) n).toNat = w / 256 ^ n % 256 := by
  unfold byteAt Sx.byteOf
  have e : (w : Int) / 256 ^ n % 256 = ((w / 256 ^ n % 256 : Nat) : Int) := by simp
  rw [e, Int.toNat_natCast]
  simp
theorem wide_nat (w : Nat) : ∀ (n a : Nat), (wideB (w : Int) n).foldl (fun a b => a * 256 + b.toNat) a = a * 256 ^ n + w % 256 ^ n
  | 0, a => by simp [wideB, Nat.mod_one]
  | n + 1, a => by
    simp only [wideB, List.foldl_cons]
    rw [wide_nat w n, byteAt_nat, Nat.pow_succ, Nat.mod_mul, Nat.add_mul, Nat.mul_assoc, Nat.mul_comm 256 (256 ^ n), Nat.mul_comm (w / 256 ^ n % 256)]
    omega
theorem dec_wide (w n : Nat) (hn : n ≤ 8) : dec (wideB (w : Int) n) = ((w % 256 ^ n : Nat) : Int) := by
  unfold dec
  have h : (0 + 1) * 256 ^ (wideB (w : Int) n).length ≤ 18446744073709551616 := by
    rw [wideB_len, Nat.zero_add, Nat.one_mul]
    exact Nat.pow_le_pow_right (n := 256) (by decide) hn
  have := dec_nat (wideB (w : Int) n) 0 h
  rw [wide_nat, Nat.zero_mul, Nat.zero_add] at this
  exact this
theorem takeI_app (p r : List UInt8) : takeI (p ++ r, false, ()) p.length = (p, (r, false, ())) := by
  simp [takeI]
theorem numI_wide (w n : Nat) (hn : n ≤ 8) (r : List UInt8) : numI (wideB (w : Int) n ++ r, false, ()) n = (((w % 256 ^ n : Nat) : Int), (r, false, ())) := by
  unfold numI
  have := takeI_app (wideB (w : Int) n) r
  rw [wideB_len] at this
  rw [this, dec_wide w n hn]
theorem wrapLen (s : List UInt8) (h : s.length < 4294967296) : IntKind.wrap .u64 (Int.ofNat s.length) = ((s.length : Nat) : Int) := wrapU64 (by simp) (by simp; omega)
theorem numI_text (s r : List UInt8) (h : s.length < 4294967296) : numI (textB s ++ r, false, ()) 4 = ((s.length : Int), (s ++ r, false, ())) := by
  unfold textB
  rw [wrapLen s h, List.append_assoc, numI_wide _ 4 (by omega), Nat.mod_eq_of_lt (by omega)]
theorem textI_text (s r : List UInt8) (h : s.length < 4294967296) (m : Int) (hm : (s.length : Int) ≤ m) : textI (textB s ++ r, false, ()) m = (s, (r, false, ())) := by
  unfold textI countI
  rw [numI_text s r h]
  have : (0 ≤ m ∧ (s.length : Int) ≤ m ∧ (s.length : Int) ≤ ((s ++ r).length : Int)) := ⟨by omega, hm, by simp only [List.length_append]; omega⟩
  simp only [this, and_self, decide_true, cond_true, Int.toNat_natCast]
  exact takeI_app s r
theorem refWide_eq {v : Int} (h0 : 0 ≤ v) (h1 : v < 18446744073709551616) (n : Nat) (hn : n ≤ 8) : F138 (v, (n : Int), ()) = some (wideB v n, ()) := by
  unfold F138
  have e0 : (mkO 0 (n : Int) (n : Int) : Option (List UInt8)) = some (List.replicate n 0) := by
    unfold mkO
    have : (0 : Int) ≤ n ∧ (n : Int) ≤ n ∧ (n : Int) ≤ (capB : Int) := ⟨by omega, by omega, by simp [capB]; omega⟩
    simp [this]
  simp only [e0, Option.bind_some]
  have main : ∀ (d i m : Nat), i + d = n → d < m →
      iter (T := Int × List UInt8 × Int × Unit) (R := List UInt8 × Unit) (fun (x_1 : Int × List UInt8 × Int × Unit) =>
        bif decide (x_1.snd.snd.fst < (n : Int)) then
          Option.bind
            (idxN x_1.snd.fst (wrap64 (wrap64 ((n : Int) - 1) - x_1.snd.snd.fst)))
            fun (b : Nat) =>
            Option.bind x_1.snd.fst[b]? fun (b_1 : UInt8) =>
              Option.bind (quoO IntKind.u64 x_1.fst 256) fun (b_2 : Int) =>
                some
                  (Sum.inl
                    (b_2, List.set x_1.snd.fst b (Sx.byteOf (IntKind.wrap IntKind.u8 x_1.fst)),
                      wrap64 (x_1.snd.snd.fst + 1), ()))
        else some (Sum.inr (x_1.snd.fst, ()))) m (v / 256 ^ i, List.replicate d 0 ++ wideB v i, (i : Int), ()) = some (wideB v n, ()) := by
    intro d
    induction d with
    | zero =>
      intro i m hi hm
      cases m with
      | zero => omega
      | succ m =>
        have : i = n := by omega
        subst this
        simp [iter]
    | succ d ih =>
      intro i m hi hm
      cases m with
      | zero => omega
      | succ m =>
        have e1 : decide ((i : Int) < (n : Int)) = true := decide_eq_true (by omega)
        have e2 : wrap64 ((n : Int) - 1) = (n : Int) - 1 := wrap64_eq (by omega) (by omega)
        have e3 : wrap64 (wrap64 ((n : Int) - 1) - (i : Int)) = (d : Int) := by rw [e2, wrap64_eq (by omega) (by omega)]; omega
        have hlen : (List.replicate (d + 1) (0 : UInt8) ++ wideB v i).length = d + 1 + i := by simp [wideB_len]
        have e4 : idxN (List.replicate (d + 1) (0 : UInt8) ++ wideB v i) (d : Int) = some d := by
          unfold idxN
          have : (0 : Int) ≤ (d : Int) ∧ (d : Int) < ((List.replicate (d + 1) (0 : UInt8) ++ wideB v i).length : Int) := ⟨by omega, by rw [hlen]; omega⟩
          simp only [this, and_self, decide_true, cond_true, Int.toNat_natCast]
        have e5 : (List.replicate (d + 1) (0 : UInt8) ++ wideB v i)[d]? = some 0 := by
          rw [List.getElem?_append_left (by simp)]; simp
        have hr := div_range h0 h1 i
        have e6 : quoO IntKind.u64 (v / 256 ^ i) 256 = some (v / 256 ^ (i + 1)) := by
          unfold quoO
          have : decide ((256 : Int) = 0) = false := by decide
          have ht : (v / 256 ^ i).tdiv 256 = v / 256 ^ (i + 1) := by
            rw [Int.tdiv_eq_ediv_of_nonneg hr.1, Int.ediv_ediv_of_nonneg (Int.le_of_lt (pow_pos256 i)), Int.pow_succ]
          have hr2 := div_range h0 h1 (i + 1)
          rw [this, ht, wrapU64 hr2.1 hr2.2]
          rfl
        have e7 : (List.replicate (d + 1) (0 : UInt8) ++ wideB v i).set d (Sx.byteOf (IntKind.wrap IntKind.u8 (v / 256 ^ i))) = List.replicate d 0 ++ wideB v (i + 1) := by
          rw [List.replicate_succ', List.append_assoc, List.set_append_right _ _ (by simp)]
          simp [wideB, byteAt, wrapU8]
        simp only [iter, e1, cond_true, e3, e4, e5, e6, e7, Option.bind_some, Sum.elim_inl]
        rw [show wrap64 ((i : Int) + 1) = ((i + 1 : Nat) : Int) from wrap64_nat (by omega)]
        exact ih (i + 1) m (by omega) (by omega)
  have := main n 0 big (by omega) (by rw [big_eq]; omega)
  simp only [Int.pow_zero, Int.ediv_one, wideB, List.append_nil] at this
  exact this
theorem refCountB_eq (n : Int) : F58 (n, ()) = some (wideB (IntKind.wrap .u64 n) 4, ()) := by
  unfold F58
  have hw := wrapU64_mod n
  have h : F138 (IntKind.wrap .u64 n, 4, ()) = _ := refWide_eq (v := IntKind.wrap .u64 n) (by omega) (by omega) 4 (by omega)
  simp only [h, Option.bind_some]
theorem refNumB_eq (n : Int) : F135 (n, ()) = some (wideB (IntKind.wrap .u64 n) 8, ()) := by
  unfold F135
  have hw := wrapU64_mod n
  have h : F138 (IntKind.wrap .u64 n, 8, ()) = _ := refWide_eq (v := IntKind.wrap .u64 n) (by omega) (by omega) 8 (by omega)
  simp only [h, Option.bind_some]
theorem refTextB_eq (s : List UInt8) (h : s.length ≤ 140737488351232) : F56 (s, ()) = some (textB s, ()) := by
  unfold F56 textB
  simp only [refCountB_eq, Option.bind_some]
  rw [appU_eq (by simp only [wideB_len]; omega)]
  rfl
theorem wrap_back {n : Int} (h1 : -9223372036854775808 ≤ n) (h2 : n ≤ 9223372036854775807) : wrap64 (IntKind.wrap .u64 n) = n := by
  rw [wrapU64_mod]
  show IntKind.wrap .i64 _ = n
  simp only [IntKind.wrap, IntKind.bits, IntKind.signed]
  simp
  omega
theorem done_eq (s : In) : F52 (s, ()) = some ((bif !s.2.1 then decide (Int.ofNat s.1.length = 0) else false), s, ()) := by
  unfold F52
  obtain ⟨b, bad, ⟨⟩⟩ := s
  cases bad <;> rfl
end Go.Proofs.YteebpcpkhojfkaaGreat
