/-
  The stable sort in place: the whole.
-/
import Derived.Test.YtphdilmnielgeaaIndexSortE
namespace Go.Proofs.Ytphdilmnielgeaa
open Go.Sx Go
set_option maxRecDepth 10000
/-- sorted pieces of c elements, the last one no longer than that -/
inductive Chk (c : Nat) : List It → Prop
  | last (l : List It) : l.length ≤ c → Srt l → Chk c l
  | cons (a l : List It) : a.length = c → Srt a → Chk c l → Chk c (a ++ l)
inductive Full (c : Nat) : List It → Prop
  | nil : Full c []
  | snoc (D a : List It) : Full c D → a.length = c → Srt a → Full c (D ++ a)
theorem Full.app {c : Nat} {D : List It} (h : Full c D) : ∀ {l : List It}, Chk c l → Chk c (D ++ l) := by
  induction h with
  | nil => intro l hl; exact hl
  | snoc D a _ h2 h3 ih => intro l hl; rw [List.append_assoc]; exact ih (.cons a l h2 h3 hl)
theorem Chk.split {c : Nat} {R : List It} (h : Chk c R) (hc : c ≤ R.length) : ∃ X R1, R = X ++ R1 ∧ X.length = c ∧ Srt X ∧ Chk c R1 := by
  cases h with
  | last _ h1 h2 => exact ⟨R, [], by simp, by omega, h2, .last [] (by simp) Srt.nil⟩
  | cons a l h1 h2 h3 => exact ⟨a, l, rfl, h1, h2, h3⟩
end Go.Proofs.Ytphdilmnielgeaa
