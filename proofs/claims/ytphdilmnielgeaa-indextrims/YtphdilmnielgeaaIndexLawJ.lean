/-
  Index: the law of what is told of changes (once the batches are known).
-/
import Derived.Test.YtphdilmnielgeaaIndexTell
namespace Go.Proofs.Ytphdilmnielgeaa
open Go.Sx Go Classical
set_option maxRecDepth 10000
theorem batches_self (B : List Bt) (h : B.length ≤ 1000000) (hb : ∀ x ∈ B, x.2.1.length ≤ 1000000) : F37 (B, B, ()) = some (true, ()) := by
  unfold F37
  have e : (!decide (Int.ofNat B.length = Int.ofNat B.length)) = false := by simp
  simp only [e, cond_false]
  refine loop_true (fun t => ∃ i : Nat, i ≤ B.length ∧ t = ((i : Int), ())) (fun t => B.length - t.1.toNat) (fun t ht => ?_) ⟨0, Nat.zero_le _, rfl⟩ (by show B.length - 0 < _; omega)
  obtain ⟨i, hi, rfl⟩ := ht
  by_cases hlt : i < B.length
  · right
    obtain ⟨x, hx⟩ : ∃ x, B[i]? = some x := ⟨_, List.getElem?_eq_getElem hlt⟩
    have hs := items_self x.2.1 (hb x (List.mem_of_getElem? hx))
    have hs' : F33 (x.2.1, x.2) = some (true, ()) := hs
    refine ⟨(((i + 1 : Nat) : Int), ()), ?_, ⟨i + 1, hlt, rfl⟩, by show B.length - (((i + 1 : Nat) : Int)).toNat < B.length - (i : Int).toNat; omega⟩
    simp only [lt_len, hlt, decide_true, cond_true, idx_nat, hx, Option.bind_some, Bool.not_true, cond_false, hs', wrap64_nat (show i < 9223372036854775807 by omega)]
  · left
    have : i = B.length := by omega
    subst this
    simp only [lt_len, Nat.lt_irrefl, decide_false, cond_false]
def totB (B : List Bt) : Nat := (B.map fun b => b.2.1.length).sum
theorem takeB_pre {most : Int} : ∀ {B out : List Bt} {c : Int}, ∃ j, takeB most out c B = out ++ B.take j ∧ (out = [] → B ≠ [] → 0 < j)
  | [], out, c => ⟨0, by simp [takeB], fun _ h => absurd rfl h⟩
  | b :: B, out, c => by
    by_cases h : most < c + (b.2.1.length : Int) ∧ 0 < out.length
    · exact ⟨0, by simp [takeB, h], fun h' => by subst h'; simp at h⟩
    · obtain ⟨j, h1, _⟩ := takeB_pre (most := most) (B := B) (out := out ++ [b]) (c := c + (b.2.1.length : Int))
      exact ⟨j + 1, by rw [takeB, if_neg h, h1]; simp, fun _ _ => Nat.succ_pos j⟩
theorem tot_le : ∀ {R : List Int} {l : List It}, Inc R → totB (R.map (keyB l)) ≤ l.length
  | [], l, _ => by simp [totB]
  | r :: R, l, h => by
    obtain ⟨h1, h2⟩ := List.pairwise_cons.1 h
    have ih := tot_le (R := R) (l := l.filter (fun x => decide (K x ≠ r))) h2
    have e : R.map (keyB l) = R.map (keyB (l.filter (fun x => decide (K x ≠ r)))) := List.map_congr_left fun q hq => by
      unfold keyB
      rw [List.filter_filter]
      have : q ≠ r := fun e => by have := h1 q hq; omega
      congr 2
      apply List.filter_congr
      intro x _
      by_cases hx : K x = q
      · have : K x ≠ r := by omega
        simp [hx]; omega
      · simp [hx]
    have e2 : totB ((r :: R).map (keyB l)) = (l.filter (fun x => decide (K x = r))).length + totB (R.map (keyB l)) := by simp [totB, keyB]
    have e3 : (l.filter (fun x => decide (K x = r))).length + (l.filter (fun x => decide (K x ≠ r))).length = l.length := by
      clear ih e e2
      induction l with
      | nil => simp
      | cons x l ih => by_cases hx : K x = r <;> simp [hx] at ih ⊢ <;> omega
    rw [e2, e]
    omega
end Go.Proofs.Ytphdilmnielgeaa
