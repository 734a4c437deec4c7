/-
  The document's revisions: all of them, rising.
-/
import Derived.Test.YtphdilmnielgeaaIndexGroup
namespace Go.Proofs.Ytphdilmnielgeaa
open Go.Sx Go
set_option maxRecDepth 10000
def insR (out : List Int) (r : Int) : List Int := out.filter (fun x => decide (x < r)) ++ r :: out.filter (fun x => decide (r < x))
theorem insR_len (out : List Int) (r : Int) : (insR out r).length ≤ out.length + 1 := by
  have key : ∀ l : List Int, (l.filter (fun x => decide (x < r))).length + (l.filter (fun x => decide (r < x))).length ≤ l.length := by
    intro l
    induction l with
    | nil => simp
    | cons x l ih =>
      rcases Int.lt_trichotomy x r with h | h | h
      · have h2 : ¬ r < x := by omega
        simp [h, h2]; omega
      · subst h; simp; omega
      · have h2 : ¬ x < r := by omega
        simp [h, h2]; omega
  have := key out
  simp only [insR, List.length_append, List.length_cons]
  omega
/-- revisions of a list of versions put in -/
def insV (out : List Int) (h : List T37D) : List Int := h.foldl (fun o v => insR o v.1) out
theorem insV_ok : ∀ (h : List T37D) {out : List Int}, Inc out → Inc (insV out h) ∧ (∀ r, r ∈ insV out h ↔ r ∈ out ∨ ∃ v ∈ h, v.1 = r) ∧ (insV out h).length ≤ out.length + h.length
  | [], out, ho => ⟨ho, by simp [insV], by simp [insV]⟩
  | v :: h, out, ho => by
    obtain ⟨i1, i2⟩ := ho.ins v.1
    have i1 : Inc (insR out v.1) := i1
    have i2 : ∀ x, x ∈ insR out v.1 ↔ x = v.1 ∨ x ∈ out := i2
    obtain ⟨a1, a2, a3⟩ := insV_ok h i1
    have hl := insR_len out v.1
    refine ⟨a1, fun r => ?_, by show (insV (insR out v.1) h).length ≤ _; simp only [List.length_cons]; omega⟩
    show r ∈ insV (insR out v.1) h ↔ _
    rw [a2 r, i2 r]
    constructor
    · rintro ((h1 | h1) | ⟨u, hu, h1⟩)
      · exact .inr ⟨v, by simp, h1.symm⟩
      · exact .inl h1
      · exact .inr ⟨u, by simp [hu], h1⟩
    · rintro (h1 | ⟨u, hu, h1⟩)
      · exact .inl (.inr h1)
      · rcases List.mem_cons.1 hu with rfl | hu
        · exact .inl (.inl h1.symm)
        · exact .inr ⟨u, hu, h1⟩
def insL (l : List KX) (out : List Int) : List Int := l.foldl (fun o e => insV o e.2.1) out
theorem insL_ok : ∀ (l : List KX) {out : List Int}, Inc out → Inc (insL l out) ∧ (∀ r, r ∈ insL l out ↔ r ∈ out ∨ ∃ e ∈ l, ∃ v ∈ e.2.1, v.1 = r)
  | [], out, ho => ⟨ho, by simp [insL]⟩
  | e :: l, out, ho => by
    obtain ⟨i1, i2, _⟩ := insV_ok e.2.1 ho
    obtain ⟨a1, a2⟩ := insL_ok l i1
    refine ⟨a1, fun r => ?_⟩
    show r ∈ insL l (insV out e.2.1) ↔ _
    rw [a2 r, i2 r]
    constructor
    · rintro ((h1 | ⟨v, hv, h1⟩) | ⟨u, hu, h1⟩)
      · exact .inl h1
      · exact .inr ⟨e, by simp, v, hv, h1⟩
      · exact .inr ⟨u, by simp [hu], h1⟩
    · rintro (h1 | ⟨u, hu, h1⟩)
      · exact .inl (.inl h1)
      · rcases List.mem_cons.1 hu with rfl | hu
        · exact .inl (.inr h1)
        · exact .inr ⟨u, hu, h1⟩
end Go.Proofs.Ytphdilmnielgeaa
