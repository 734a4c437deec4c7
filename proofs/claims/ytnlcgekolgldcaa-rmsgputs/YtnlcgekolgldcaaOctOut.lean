/-
  Octets: what an Out holds (for seats that reach no more of it).
-/
import Derived.Test.YtnlcgekolgldcaaRmsgOk
import Derived.Test.YtnlcgekolgldcaaSxR
namespace Go.Proofs.Ytnlcgekolgldcaa
open Go.Sx Go Classical
set_option maxRecDepth 10000
theorem wrapU64 {x : Int} (h1 : 0 ≤ x) (h2 : x < 18446744073709551616) : IntKind.wrap .u64 x = x := by
  simp only [IntKind.wrap, IntKind.bits, IntKind.signed]
  simp
  omega
theorem wrapU8 (x : Int) : IntKind.wrap .u8 x = x % 256 := by
  simp only [IntKind.wrap, IntKind.bits, IntKind.signed]
  simp
theorem wrapU64_mod (x : Int) : IntKind.wrap .u64 x = x % 18446744073709551616 := by
  simp only [IntKind.wrap, IntKind.bits, IntKind.signed]
  simp
/-- a number's lowest bytes, the highest first -/
def byteAt (v : Int) (k : Nat) : UInt8 := Sx.byteOf (v / 256 ^ k % 256)
def wideB (v : Int) : Nat → List UInt8
  | 0 => []
  | k + 1 => byteAt v k :: wideB v k
theorem wideB_len (v : Int) : ∀ k, (wideB v k).length = k
  | 0 => rfl
  | k + 1 => by simp [wideB, wideB_len v k]
theorem pow256 (k : Nat) : (2 : Int) ^ (8 * k) = 256 ^ k := by
  rw [Int.pow_mul]; rfl
theorem pow_pos256 (k : Nat) : (0 : Int) < 256 ^ k := Int.pow_pos (by decide)
theorem div_range {v : Int} (h0 : 0 ≤ v) (h1 : v < 18446744073709551616) (k : Nat) : 0 ≤ v / 256 ^ k ∧ v / 256 ^ k < 18446744073709551616 := by
  refine ⟨Int.ediv_nonneg h0 (Int.le_of_lt (pow_pos256 k)), ?_⟩
  exact Int.lt_of_le_of_lt (Int.ediv_le_self _ h0) h1
theorem shr_step {v : Int} (h0 : 0 ≤ v) (h1 : v < 18446744073709551616) (k : Nat) (hk : k ≤ 7) : shrO .u64 v (8 * (k : Int)) = some (v / 256 ^ k) := by
  unfold shrO
  have e : decide (8 * (k : Int) < 0) = false := decide_eq_false (by omega)
  have e2 : min (8 * (k : Int)).toNat IntKind.u64.bits = 8 * k := by simp only [IntKind.bits]; omega
  rw [e, e2, pow256]
  have : v.fdiv (256 ^ k) = v / 256 ^ k := Int.fdiv_eq_ediv_of_nonneg _ (Int.le_of_lt (pow_pos256 k))
  obtain ⟨r1, r2⟩ := div_range h0 h1 k
  have w := wrapU64 r1 r2
  rw [this]
  simp only [cond_false]
theorem outWide_eq (b : List UInt8) {v : Int} (h0 : 0 ≤ v) (h1 : v < 18446744073709551616) (n : Nat) (hn : n ≤ 8) (hb : b.length + n ≤ 140737488355000) :
    F74 ((b, ()), v, (n : Int), ()) = some ((b ++ wideB v n, ()), ()) := by
  unfold F74
  have main : ∀ (n m : Nat) (b : List UInt8), n < m → n ≤ 8 → b.length + n ≤ 140737488355000 →
      iter (T := Int × List UInt8 × Unit) (R := (List UInt8 × Unit) × Unit) (fun (x_1 : Int × List UInt8 × Unit) =>
      bif decide (0 ≤ x_1.fst) then
        Option.bind (shrO IntKind.u64 v (wrap64 (8 * x_1.fst))) fun (b : Int) =>
          Option.bind (appU x_1.snd.fst [Sx.byteOf (IntKind.wrap IntKind.u8 b)]) fun (b : List UInt8) =>
            some (Sum.inl (wrap64 (x_1.fst - 1), b, ()))
      else some (Sum.inr (x_1.snd, ()))) m ((n : Int) - 1, b, ()) = some ((b ++ wideB v n, ()), ()) := by
    intro n
    induction n with
    | zero =>
      intro m b hm _ _
      cases m with
      | zero => omega
      | succ m => simp [iter, wideB]
    | succ n ih =>
      intro m b hm hn hb
      cases m with
      | zero => omega
      | succ m =>
        have e0 : ((n + 1 : Nat) : Int) - 1 = (n : Int) := by omega
        have e1 : decide ((0 : Int) ≤ (n : Int)) = true := decide_eq_true (by omega)
        have e2 : wrap64 (8 * (n : Int)) = 8 * (n : Int) := wrap64_eq (by omega) (by omega)
        have e3 : wrap64 ((n : Int) - 1) = (n : Int) - 1 := wrap64_eq (by omega) (by omega)
        rw [e0]
        simp only [iter, e1, cond_true, e2, shr_step h0 h1 n (by omega), Option.bind_some, e3]
        rw [appU_eq (by simp; omega)]
        simp only [Option.bind_some, Sum.elim_inl]
        rw [ih m (b ++ [Sx.byteOf (IntKind.wrap IntKind.u8 (v / 256 ^ n))]) (by omega) (by omega) (by simp; omega)]
        simp [wideB, byteAt, wrapU8]
  have e : wrap64 ((n : Int) - 1) = (n : Int) - 1 := wrap64_eq (by omega) (by omega)
  have := main n big b (by rw [big_eq]; omega) hn hb
  rw [← e] at this
  exact this
theorem outCount_eq (b : List UInt8) (n : Int) (hb : b.length + 4 ≤ 140737488355000) : F55 ((b, ()), n, ()) = some ((b ++ wideB (IntKind.wrap .u64 n) 4, ()), ()) := by
  unfold F55
  have hw := wrapU64_mod n
  have h : F74 ((b, ()), IntKind.wrap .u64 n, 4, ()) = _ := outWide_eq b (v := IntKind.wrap .u64 n) (by omega) (by omega) 4 (by omega) hb
  simp only [h, Option.bind_some]
theorem outNum_eq (b : List UInt8) (n : Int) (hb : b.length + 8 ≤ 140737488355000) : F53 ((b, ()), n, ()) = some ((b ++ wideB (IntKind.wrap .u64 n) 8, ()), ()) := by
  unfold F53
  have hw := wrapU64_mod n
  have h : F74 ((b, ()), IntKind.wrap .u64 n, 8, ()) = _ := outWide_eq b (v := IntKind.wrap .u64 n) (by omega) (by omega) 8 (by omega) hb
  simp only [h, Option.bind_some]
/-- a text's bytes -/
def textB (s : List UInt8) : List UInt8 := wideB (IntKind.wrap .u64 (Int.ofNat s.length)) 4 ++ s
theorem outBytes_eq (b s : List UInt8) (hb : b.length + 4 + s.length ≤ 140737488355000) : F81 ((b, ()), s, ()) = some ((b ++ textB s, ()), ()) := by
  unfold F81 textB
  simp only [outCount_eq b _ (show b.length + 4 ≤ 140737488355000 by omega), Option.bind_some]
  rw [appU_eq (by simp [wideB_len]; omega)]
  simp
theorem clone_eq (l : List UInt8) (h : l.length ≤ 140737488355000) : F38 (l, ()) = some (l, ()) := by
  unfold F38
  cases l with
  | nil =>
    simp only [List.isEmpty_nil, cond_true]
    rw [appU_eq (by simp)]
    exact both_same _
  | cons b r =>
    simp only [List.isEmpty_cons, cond_false]
    rw [appU_eq (by simpa using h)]
    rfl
theorem textB_len (s : List UInt8) : (textB s).length = s.length + 4 := by simp [textB, wideB_len]; omega
theorem end_eq (b : List UInt8) (h : b.length ≤ 60000) : F21 ((b, ()), ()) = some (b, 0, (b, ()), ()) := by
  unfold F21
  have e : decide ((60000 : Int) < Int.ofNat b.length) = false := decide_eq_false (by simp; omega)
  simp only [e, cond_false, clone_eq b (by omega), Option.bind_some]
end Go.Proofs.Ytnlcgekolgldcaa
