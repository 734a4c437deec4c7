/-
  The program's batches are what the document's are: items, one behind the other, into the last batch or into a new one.
-/
import Derived.Test.YtphdilmnielgeaaIndexProg
namespace Go.Proofs.Ytphdilmnielgeaa
open Go.Sx Go Classical
set_option maxRecDepth 10000
abbrev BaS : Type := (List Bt × Int) × Int × Unit
abbrev BaR : Type := List Bt × Unit
/-- the last batch takes an item -/
noncomputable def baPut (x : It) (i : Int) (y : List Bt × Int) : Option (BaS ⊕ BaR) :=
 Option.bind (idxN y.1 (wrap64 (Int.ofNat (List.length y.1) - 1))) fun (b_1 : Nat) =>
 Option.bind y.1[b_1]? fun (b_2 : Bt) =>
 bif decide (Int.toNat y.2 ≤ b_1) then none
 else Option.bind (appO b_2.2.1 [x]) fun (b : List It) =>
 Option.bind y.1[b_1]? fun (b_3 : Bt) =>
 bif decide (b_1 ≤ Int.toNat y.2) then
 bif decide (b_1 = b_1) then
 some (Sum.inl ((List.set y.1 b_1 (b_3.1, b, b_3.2.2), Int.ofNat (bif decide (Int.toNat y.2 ≤ b_1 + 1) then b_1 + 1 else Int.toNat y.2)), wrap64 (i + 1), ()))
 else none
 else none
/-- a new batch, if the last one is another revision's -/
noncomputable def baNew (x : It) (y : List Bt × Int) : Option ((List Bt × Int) × Unit ⊕ (BaS ⊕ BaR)) :=
 bif decide (Int.ofNat (List.length y.1) = 0) then
 bif decide (Int.toNat y.2 = List.length y.1) then
 Option.bind (appO y.1 [(x.2.1.1, [], ())]) fun (b : List Bt) => some (Sum.inl ((b, Int.ofNat (Int.toNat y.2 + 1)), ()))
 else none
 else
 Option.bind (idxN y.1 (wrap64 (Int.ofNat (List.length y.1) - 1))) fun (b_1 : Nat) =>
 Option.bind y.1[b_1]? fun (b_2 : Bt) =>
 bif !decide (b_2.1 = x.2.1.1) then
 bif decide (Int.toNat y.2 = List.length y.1) then
 Option.bind (appO y.1 [(x.2.1.1, [], ())]) fun (b : List Bt) => some (Sum.inl ((b, Int.ofNat (Int.toNat y.2 + 1)), ()))
 else none
 else some (Sum.inl ((y.1, Int.ofNat (Int.toNat y.2)), ()))
noncomputable def baStep (l : List It) (s : BaS) : Option (BaS ⊕ BaR) :=
 bif decide (s.2.1 < Int.ofNat (List.length l)) then
 Option.bind (idx l s.2.1) fun (x : It) =>
 Option.bind (baNew x s.1) fun o => Sum.elim (fun y => baPut x s.2.1 y.1) (fun v => some v) o
 else some (Sum.inr (s.1.1, ()))
theorem batches_eq (l : List It) : F67 (l, ()) = iter (baStep l) big (([], 0), 0, ()) := rfl
theorem lastB_idx {q : List Bt} {b : Bt} (h : q.length ≤ 100000000) : idxN (q ++ [b]) (wrap64 (Int.ofNat (q ++ [b]).length - 1)) = some q.length := by
  have hl : (q ++ [b]).length = q.length + 1 := by simp
  have hw : wrap64 (Int.ofNat (q ++ [b]).length - 1) = (q.length : Int) := by
    rw [wrap64_eq (by rw [ofNat_len, hl]; omega) (by rw [ofNat_len, hl]; omega), ofNat_len, hl]
    omega
  rw [hw]
  exact idxN_nat (by rw [hl]; omega)
theorem lastB_get {q : List Bt} {b : Bt} : (q ++ [b])[q.length]? = some b := by simp
theorem baPut_ok (x : It) {i : Nat} (hi : i ≤ 10000000) {q : List Bt} {b : Bt} (hq : q.length ≤ 10000000) (hb : b.2.1.length ≤ 10000000) : baPut x i (q ++ [b], ((q ++ [b]).length : Int)) = some (.inl ((q ++ [(b.1, b.2.1 ++ [x], ())], ((q ++ [b]).length : Int)), ((i + 1 : Nat) : Int), ())) := by
  have hl : (q ++ [b]).length = q.length + 1 := by simp
  unfold baPut
  simp only [lastB_idx (show q.length ≤ 100000000 by omega), lastB_get, Option.bind_some, Int.toNat_natCast, appO_small (show b.2.1.length ≤ 100000000 by omega), wrap64_nat (show i < 9223372036854775807 by omega)]
  have e1 : decide (q.length + 1 ≤ q.length) = false := decide_eq_false (by omega)
  have e2 : decide (q.length ≤ q.length + 1) = true := decide_eq_true (by omega)
  have e4 : (q ++ [b]).set q.length (b.1, b.2.1 ++ [x], ()) = q ++ [(b.1, b.2.1 ++ [x], ())] := by simp
  simp only [hl, e1, e2, Nat.le_refl, decide_true, cond_true, cond_false, e4]
  rfl
theorem baStep_ok {l : List It} (hl : l.length ≤ 10000000) {i : Nat} {a : List Bt} {x : It} (hx : l[i]? = some x) (h1 : a.length ≤ i) (h2 : ∀ b ∈ a, b.2.1.length ≤ i) :
    baStep l ((a, (a.length : Int)), (i : Int), ()) = some (.inl ((addB a x, ((addB a x).length : Int)), ((i + 1 : Nat) : Int), ())) := by
  have hil : i < l.length := (List.getElem?_eq_some_iff.1 hx).1
  unfold baStep
  simp only [lt_len, hil, decide_true, cond_true, idx_nat, hx, Option.bind_some]
  have new : baNew x (a, (a.length : Int)) = some (.inl ((a ++ [(K x, [], ())], ((a.length + 1 : Nat) : Int)), ())) → (addB a x = a ++ [(K x, [x], ())]) →
      Option.bind (baNew x (a, (a.length : Int))) (fun o => Sum.elim (fun y => baPut x i y.1) (fun v => some v) o) = some (.inl ((addB a x, ((addB a x).length : Int)), ((i + 1 : Nat) : Int), ())) := by
    intro hn ha
    rw [hn, ha]
    simp only [Option.bind_some, Sum.elim_inl]
    have := baPut_ok x (show i ≤ 10000000 by omega) (q := a) (b := (K x, [], ())) (by omega) (by simp)
    simp only [List.length_append, List.length_cons, List.length_nil, Nat.zero_add, List.nil_append] at this ⊢
    exact this
  rcases List.eq_nil_or_concat a with rfl | ⟨q, b, rfl⟩
  · refine new ?_ (by simp [addB])
    unfold baNew
    simp only [List.length_nil, Int.ofNat_eq_natCast, Int.natCast_zero, decide_true, cond_true, Int.toNat_zero, appO_small (l := ([] : List Bt)) (by simp), Option.bind_some]
    rfl
  · rw [List.concat_eq_append] at *
    have hlq : (q ++ [b]).length = q.length + 1 := by simp
    have hb := h2 b (by simp)
    have e0 : decide (Int.ofNat (q ++ [b]).length = 0) = false := decide_eq_false (by rw [ofNat_len, hlq]; omega)
    by_cases hk : b.1 = K x
    · have hn : baNew x (q ++ [b], ((q ++ [b]).length : Int)) = some (.inl ((q ++ [b], ((q ++ [b]).length : Int)), ())) := by
        unfold baNew
        have e1 : decide (b.1 = x.2.1.1) = true := decide_eq_true hk
        simp only [e0, cond_false, lastB_idx (show q.length ≤ 100000000 by omega), lastB_get, Option.bind_some, e1, Bool.not_true, Int.toNat_natCast]
        rfl
      have ha : addB (q ++ [b]) x = q ++ [(b.1, b.2.1 ++ [x], ())] := by simp [addB, hk]
      rw [hn, ha]
      simp only [Option.bind_some, Sum.elim_inl]
      rw [baPut_ok x (by omega) (by omega) (by omega)]
      simp
    · refine new ?_ (by simp [addB, hk])
      unfold baNew
      have e1 : decide (b.1 = x.2.1.1) = false := decide_eq_false hk
      simp only [e0, cond_false, lastB_idx (show q.length ≤ 100000000 by omega), lastB_get, Option.bind_some, e1, Bool.not_false, cond_true, Int.toNat_natCast, decide_true, appO_small (show (q ++ [b]).length ≤ 100000000 by omega)]
      rfl
theorem addB_inv {i : Nat} {a : List Bt} {x : It} (h1 : a.length ≤ i) (h2 : ∀ b ∈ a, b.2.1.length ≤ i) : (addB a x).length ≤ i + 1 ∧ ∀ b ∈ addB a x, b.2.1.length ≤ i + 1 := by
  have new : (a ++ [((K x, [x], ()) : Bt)]).length ≤ i + 1 ∧ ∀ b ∈ a ++ [((K x, [x], ()) : Bt)], b.2.1.length ≤ i + 1 := by
    refine ⟨by simp; omega, fun b hb => ?_⟩
    rcases List.mem_append.1 hb with hb | hb
    · have := h2 b hb; omega
    · simp at hb; subst hb; simp
  rcases List.eq_nil_or_concat a with rfl | ⟨q, b, rfl⟩
  · have : addB [] x = [] ++ [(K x, [x], ())] := by simp [addB]
    rw [this]; exact new
  · rw [List.concat_eq_append] at *
    by_cases hk : b.1 = K x
    · have ha : addB (q ++ [b]) x = q ++ [(b.1, b.2.1 ++ [x], ())] := by simp [addB, hk]
      have hb := h2 b (by simp)
      rw [ha]
      refine ⟨by simp at h1 ⊢; omega, fun c hc => ?_⟩
      rcases List.mem_append.1 hc with hc | hc
      · have := h2 c (by simp [hc]); omega
      · simp at hc; subst hc; simp; omega
    · have ha : addB (q ++ [b]) x = (q ++ [b]) ++ [(K x, [x], ())] := by simp [addB, hk]
      rw [ha]; exact new
theorem batchesOk : BatchesOk := by
  intro l hl
  rw [batches_eq]
  have := iter_fold (step := baStep l) (mk := fun i a => ((a, (a.length : Int)), (i : Int), ())) (l := l) (g := addB) (K := fun a => (a, ())) (fun i a => a.length ≤ i ∧ ∀ b ∈ a, b.2.1.length ≤ i) (by omega)
    (fun i a x hx h => ⟨baStep_ok hl hx h.1 h.2, addB_inv h.1 h.2⟩)
    (fun a _ => by unfold baStep; simp only [lt_len, Nat.lt_irrefl, decide_false, cond_false]) (a := []) ⟨Nat.zero_le _, fun b hb => by simp at hb⟩
  exact this
end Go.Proofs.Ytphdilmnielgeaa
