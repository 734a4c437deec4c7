/-
  Index: the law of what is told of changes (once the batches are known).
-/
import Derived.Test.YtphdilmnielgeaaIndexTell
namespace Go.Proofs.Ytphdilmnielgeaa
open Go.Sx Go Classical
set_option maxRecDepth 10000
def totB (B : List Bt) : Nat := (B.map fun b => b.2.1.length).sum
theorem takeB_all {most : Int} : ∀ {B out : List Bt} {c : Int}, c + (totB B : Int) ≤ most → takeB most out c B = out ++ B
  | [], out, c, _ => by simp [takeB]
  | b :: B, out, c, h => by
    have e : totB (b :: B) = b.2.1.length + totB B := by simp [totB]
    rw [e] at h
    have : ¬ (most < c + (b.2.1.length : Int) ∧ 0 < out.length) := fun h' => by omega
    rw [takeB, if_neg this, takeB_all (by omega)]
    simp
theorem tot_le : ∀ {R : List Int} {l : List It}, Inc R → totB (R.map (keyB l)) ≤ l.length
  | [], l, _ => by simp [totB]
  | r :: R, l, h => by
    obtain ⟨h1, h2⟩ := List.pairwise_cons.1 h
    have ih := tot_le (R := R) (l := l.filter (fun x => decide (K x ≠ r))) h2
    have e : R.map (keyB l) = R.map (keyB (l.filter (fun x => decide (K x ≠ r)))) := List.map_congr_left fun q hq => by
      unfold keyB
      rw [List.filter_filter]
      have : q ≠ r := fun e => by have := h1 q hq; omega
      congr 2
      apply List.filter_congr
      intro x _
      by_cases hx : K x = q
      · have : K x ≠ r := by omega
        simp [hx]; omega
      · simp [hx]
    have e2 : totB ((r :: R).map (keyB l)) = (l.filter (fun x => decide (K x = r))).length + totB (R.map (keyB l)) := by simp [totB, keyB]
    have e3 : (l.filter (fun x => decide (K x = r))).length + (l.filter (fun x => decide (K x ≠ r))).length = l.length := by
      clear ih e e2
      induction l with
      | nil => simp
      | cons x l ih => by_cases hx : K x = r <;> simp [hx] at ih ⊢ <;> omega
    rw [e2, e]
    omega
end Go.Proofs.Ytphdilmnielgeaa
