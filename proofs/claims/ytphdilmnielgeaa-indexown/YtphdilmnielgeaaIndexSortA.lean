/-
  The stable sort in place: what its helpers do. Swapped ranges, rotated ranges.
-/
import Derived.Test.YtphdilmnielgeaaIndexLawG
import Derived.Test.YtphdilmnielgeaaSxS
namespace Go.Proofs.Ytphdilmnielgeaa
open Go.Sx Go
set_option maxRecDepth 10000
abbrev It : Type := T66D
def K (x : It) : Int := x.2.1.1
theorem cmp_ex (a b : It) : ∃ c, F65 (a, b, ()) = some (c, ()) ∧ decide (c < 0) = decide (K a < K b) := by
  unfold F65 F66
  have hn : ∀ n : Int, F88 (n, ()) = some (false, ()) := fun n => by unfold F88; simp
  simp only [hn, Option.bind_some, cond_false]
  by_cases h1 : K a < K b
  · have h1' : a.2.1.1 < b.2.1.1 := h1
    exact ⟨-1, by simp [h1'], by simp [h1]⟩
  · have h1' : ¬ a.2.1.1 < b.2.1.1 := h1
    by_cases h2 : b.2.1.1 < a.2.1.1
    · exact ⟨1, by simp [h1', h2], by simp [h1]⟩
    · exact ⟨0, by simp [h1', h2], by simp [h1]⟩
theorem idxN_nat {α : Type} {l : List α} {i : Nat} (h : i < l.length) : idxN l (i : Int) = some i := by
  unfold idxN
  have : (0 : Int) ≤ (i : Int) ∧ (i : Int) < (l.length : Int) := ⟨by omega, by omega⟩
  simp only [this, and_self, decide_true, cond_true, Int.toNat_natCast]
theorem get_mid {α : Type} {P R : List α} {x : α} {n : Nat} (h : n = P.length) : (P ++ x :: R)[n]? = some x := by
  subst h; simp
theorem set_mid {α : Type} {P R : List α} {x y : α} {n : Nat} (h : n = P.length) : (P ++ x :: R).set n y = P ++ y :: R := by
  subst h; simp
theorem wi {x : Int} {n : Nat} (h : x = (n : Int)) (hn : n < 9223372036854775807) : wrap64 x = (n : Int) := by
  rw [wrap64_eq (by omega) (by omega), h]
/-- an element is read -/
theorem rd_mid {α β : Type} {P R : List α} {x : α} {i : Int} {n : Nat} {f : Nat → α → Option β} (hi : i = (n : Int)) (h : n = P.length) : (Option.bind (idxN (P ++ x :: R) i) fun b => Option.bind (P ++ x :: R)[b]? fun y => f b y) = f n x := by
  subst hi
  rw [idxN_nat (by simp; omega)]
  simp only [Option.bind_some, get_mid h]
/-! ### rotated ranges -/
end Go.Proofs.Ytphdilmnielgeaa
