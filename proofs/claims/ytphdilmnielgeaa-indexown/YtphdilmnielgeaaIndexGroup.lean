/-
  What is sorted by revisions falls into batches: one for each revision, rising; in each the items as they came.
-/
import Derived.Test.YtphdilmnielgeaaIndexSortF
namespace Go.Proofs.Ytphdilmnielgeaa
open Go.Sx Go
set_option maxRecDepth 10000
abbrev Bt : Type := Int × List It × Unit
/-- rising -/
def Inc (l : List Int) : Prop := l.Pairwise (fun a b => a < b)
theorem Inc.eq : ∀ {a b : List Int}, Inc a → Inc b → (∀ r, r ∈ a ↔ r ∈ b) → a = b
  | [], [], _, _, _ => rfl
  | [], y :: b, _, _, h => absurd ((h y).2 (by simp)) (by simp)
  | x :: a, [], _, _, h => absurd ((h x).1 (by simp)) (by simp)
  | x :: a, y :: b, ha, hb, h => by
    obtain ⟨a1, a2⟩ := List.pairwise_cons.1 ha
    obtain ⟨b1, b2⟩ := List.pairwise_cons.1 hb
    have hxy : x = y := by
      rcases List.mem_cons.1 ((h x).1 (by simp)) with e | hx
      · exact e
      · rcases List.mem_cons.1 ((h y).2 (by simp)) with e | hy
        · exact e.symm
        · have := b1 x hx
          have := a1 y hy
          omega
    subst hxy
    rw [Inc.eq a2 b2 fun r => ?_]
    constructor
    · intro hr
      rcases List.mem_cons.1 ((h r).1 (by simp [hr])) with e | h1
      · subst e; exact absurd (a1 r hr) (by omega)
      · exact h1
    · intro hr
      rcases List.mem_cons.1 ((h r).2 (by simp [hr])) with e | h1
      · subst e; exact absurd (b1 r hr) (by omega)
      · exact h1
/-- one revision more among rising ones -/
theorem Inc.ins {l : List Int} (h : Inc l) (r : Int) : Inc (l.filter (fun x => decide (x < r)) ++ r :: l.filter (fun x => decide (r < x))) ∧ ∀ x, x ∈ l.filter (fun x => decide (x < r)) ++ r :: l.filter (fun x => decide (r < x)) ↔ x = r ∨ x ∈ l := by
  refine ⟨List.pairwise_append.2 ⟨h.filter _, List.pairwise_cons.2 ⟨fun x hx => by simpa using (List.mem_filter.1 hx).2, h.filter _⟩, fun x hx y hy => ?_⟩, fun x => ?_⟩
  · have h1 : x < r := by simpa using (List.mem_filter.1 hx).2
    rcases List.mem_cons.1 hy with rfl | hy
    · exact h1
    · have h2 : r < y := by simpa using (List.mem_filter.1 hy).2
      omega
  · simp only [List.mem_append, List.mem_cons, List.mem_filter, decide_eq_true_eq]
    constructor
    · rintro (⟨h1, _⟩ | h1 | ⟨h1, _⟩)
      · exact .inr h1
      · exact .inl h1
      · exact .inr h1
    · rintro (h1 | h1)
      · exact .inr (.inl h1)
      · rcases Int.lt_trichotomy x r with h2 | h2 | h2
        · exact .inl ⟨h1, h2⟩
        · exact .inr (.inl h2)
        · exact .inr (.inr ⟨h1, h2⟩)
def keyB (p : List It) (r : Int) : Bt := (r, p.filter (fun x => decide (K x = r)), ())
end Go.Proofs.Ytphdilmnielgeaa
