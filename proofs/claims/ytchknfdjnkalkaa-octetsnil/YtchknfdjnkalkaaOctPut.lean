/-
  Octets, put: the program's and the document's.
-/
import Derived.Test.YtchknfdjnkalkaaOctPlain
namespace Go.Proofs.Ytchknfdjnkalkaa
open Go.Sx Go Classical
set_option maxRecDepth 10000
theorem pow256 (k : Nat) : (2 : Int) ^ (8 * k) = 256 ^ k := by
  rw [Int.pow_mul]; rfl
theorem pow_pos256 (k : Nat) : (0 : Int) < 256 ^ k := Int.pow_pos (by decide)
theorem div_range {v : Int} (h0 : 0 ≤ v) (h1 : v < 18446744073709551616) (k : Nat) : 0 ≤ v / 256 ^ k ∧ v / 256 ^ k < 18446744073709551616 := by
  refine ⟨Int.ediv_nonneg h0 (Int.le_of_lt (pow_pos256 k)), ?_⟩
  exact Int.lt_of_le_of_lt (Int.ediv_le_self _ h0) h1
theorem shr_step {v : Int} (h0 : 0 ≤ v) (h1 : v < 18446744073709551616) (k : Nat) (hk : k ≤ 7) : shrO .u64 v (8 * (k : Int)) = some (v / 256 ^ k) := by
  unfold shrO
  have e : decide (8 * (k : Int) < 0) = false := decide_eq_false (by omega)
  have e2 : min (8 * (k : Int)).toNat IntKind.u64.bits = 8 * k := by simp only [IntKind.bits]; omega
  rw [e, e2, pow256]
  have : v.fdiv (256 ^ k) = v / 256 ^ k := Int.fdiv_eq_ediv_of_nonneg _ (Int.le_of_lt (pow_pos256 k))
  obtain ⟨r1, r2⟩ := div_range h0 h1 k
  have w := wrapU64 r1 r2
  rw [this]
  simp only [cond_false, w]
theorem outWide_eq (b : List UInt8) {v : Int} (h0 : 0 ≤ v) (h1 : v < 18446744073709551616) (n : Nat) (hn : n ≤ 8) (hb : b.length + n ≤ 140737488355000) :
    F43 ((b, ()), v, (n : Int), ()) = some ((b ++ wideB v n, ()), ()) := by
  unfold F43
  have main : ∀ (n m : Nat) (b : List UInt8), n < m → n ≤ 8 → b.length + n ≤ 140737488355000 →
      iter (T := Int × List UInt8 × Unit) (R := (List UInt8 × Unit) × Unit) (fun (x_1 : Int × List UInt8 × Unit) =>
      bif decide (0 ≤ x_1.fst) then
        Option.bind (shrO IntKind.u64 v (wrap64 (8 * x_1.fst))) fun (b : Int) =>
          Option.bind (appU x_1.snd.fst [Sx.byteOf (IntKind.wrap IntKind.u8 b)]) fun (b : List UInt8) =>
            some (Sum.inl (wrap64 (x_1.fst - 1), b, ()))
      else some (Sum.inr (x_1.snd, ()))) m ((n : Int) - 1, b, ()) = some ((b ++ wideB v n, ()), ()) := by
    intro n
    induction n with
    | zero =>
      intro m b hm _ _
      cases m with
      | zero => omega
      | succ m => simp [iter, wideB]
    | succ n ih =>
      intro m b hm hn hb
      cases m with
      | zero => omega
      | succ m =>
        have e0 : ((n + 1 : Nat) : Int) - 1 = (n : Int) := by omega
        have e1 : decide ((0 : Int) ≤ (n : Int)) = true := decide_eq_true (by omega)
        have e2 : wrap64 (8 * (n : Int)) = 8 * (n : Int) := wrap64_eq (by omega) (by omega)
        have e3 : wrap64 ((n : Int) - 1) = (n : Int) - 1 := wrap64_eq (by omega) (by omega)
        rw [e0]
        simp only [iter, e1, cond_true, e2, shr_step h0 h1 n (by omega), Option.bind_some, e3]
        rw [appU_eq (by simp; omega)]
        simp only [Option.bind_some, Sum.elim_inl]
        rw [ih m (b ++ [Sx.byteOf (IntKind.wrap IntKind.u8 (v / 256 ^ n))]) (by omega) (by omega) (by simp; omega)]
        simp [wideB, byteAt, wrapU8]
  have e : wrap64 ((n : Int) - 1) = (n : Int) - 1 := wrap64_eq (by omega) (by omega)
  have := main n big b (by rw [big_eq]; omega) hn hb
  rw [← e] at this
  exact this
theorem outCount_eq (b : List UInt8) (n : Int) (hb : b.length + 4 ≤ 140737488355000) : F26 ((b, ()), n, ()) = some ((b ++ wideB (IntKind.wrap .u64 n) 4, ()), ()) := by
  unfold F26
  have hw := wrapU64_mod n
  have h : F43 ((b, ()), IntKind.wrap .u64 n, 4, ()) = _ := outWide_eq b (v := IntKind.wrap .u64 n) (by omega) (by omega) 4 (by omega) hb
  simp only [h, Option.bind_some]
theorem outNum_eq (b : List UInt8) (n : Int) (hb : b.length + 8 ≤ 140737488355000) : F36 ((b, ()), n, ()) = some ((b ++ wideB (IntKind.wrap .u64 n) 8, ()), ()) := by
  unfold F36
  have hw := wrapU64_mod n
  have h : F43 ((b, ()), IntKind.wrap .u64 n, 8, ()) = _ := outWide_eq b (v := IntKind.wrap .u64 n) (by omega) (by omega) 8 (by omega) hb
  simp only [h, Option.bind_some]
/-- a text's bytes -/
def textB (s : List UInt8) : List UInt8 := wideB (IntKind.wrap .u64 (Int.ofNat s.length)) 4 ++ s
theorem outText_eq (b s : List UInt8) (hb : b.length + 4 + s.length ≤ 140737488355000) : F9 ((b, ()), s, ()) = some ((b ++ textB s, ()), ()) := by
  unfold F9 textB
  simp only [outCount_eq b _ (show b.length + 4 ≤ 140737488355000 by omega), Option.bind_some]
  rw [appU_eq (by simp [wideB_len]; omega)]
  simp
theorem outBytes_eq (b s : List UInt8) (hb : b.length + 4 + s.length ≤ 140737488355000) : F37 ((b, ()), s, ()) = some ((b ++ textB s, ()), ()) := by
  unfold F37 textB
  simp only [outCount_eq b _ (show b.length + 4 ≤ 140737488355000 by omega), Option.bind_some]
  rw [appU_eq (by simp [wideB_len]; omega)]
  simp
theorem byteAt_zero (b : UInt8) : byteAt (intOf8 b) 0 = b := by
  have := b.toNat_lt
  unfold byteAt intOf8 Sx.byteOf
  have e : ((b.toNat : Int) / 256 ^ 0 % 256).toNat = b.toNat := by
    rw [Int.pow_zero, Int.ediv_one]; omega
  rw [e]; simp
theorem outByte_eq (b : List UInt8) (c : UInt8) (hb : b.length + 1 ≤ 140737488355000) : F34 ((b, ()), c, ()) = some ((b ++ [c], ()), ()) := by
  unfold F34
  have hc := c.toNat_lt
  have e : IntKind.wrap .u64 (intOf8 c) = intOf8 c := wrapU64 (by simp [intOf8]) (by simp [intOf8]; omega)
  have h : F43 ((b, ()), intOf8 c, 1, ()) = _ := outWide_eq b (v := intOf8 c) (by simp [intOf8]) (by simp [intOf8]; omega) 1 (by omega) hb
  simp only [e, h, Option.bind_some, wideB, byteAt_zero]
theorem outFlag_eq (b : List UInt8) (v : Bool) (hb : b.length + 1 ≤ 140737488355000) : F35 ((b, ()), v, ()) = some ((b ++ [bif v then UInt8.ofNat 1 else UInt8.ofNat 0], ()), ()) := by
  unfold F35
  simp only [outByte_eq b _ hb, Option.bind_some]
  cases v <;> rfl
end Go.Proofs.Ytchknfdjnkalkaa
