/-
  The document's revisions: all of them, rising.
-/
import Derived.Test.YtphdilmnielgeaaIndexGroup
namespace Go.Proofs.Ytphdilmnielgeaa
open Go.Sx Go
set_option maxRecDepth 10000
abbrev RvS : Type := List Int × Int × Unit
noncomputable def rv2 (out : List Int) (r i : Int) (x : RvS) : Option (RvS ⊕ (RvS ⊕ RvS ⊕ List Int × Unit)) :=
 bif decide (x.2.1 < Int.ofNat (List.length out)) then
 Option.bind (idxN out x.2.1) fun (b_2 : Nat) =>
 Option.bind out[b_2]? fun (b_3 : Int) =>
 bif decide (r < b_3) then
 Option.bind (idxN out x.2.1) fun (b : Nat) =>
 Option.bind out[b]? fun (b : Int) =>
 Option.bind (appO x.1 [b]) fun (b : List Int) =>
 some (Sum.inl (b, wrap64 (x.2.1 + 1), ()))
 else
 some (Sum.inl (x.1, wrap64 (x.2.1 + 1), ()))
 else
 some
 (Sum.inr
 (Sum.inl (x.1, wrap64 (i + 1), ())))
noncomputable def rv1 (out : List Int) (r i : Int) (x : RvS) : Option (RvS ⊕ (RvS ⊕ RvS ⊕ List Int × Unit)) :=
 bif decide (x.2.1 < Int.ofNat (List.length out)) then
 Option.bind (idxN out x.2.1) fun (b_1 : Nat) =>
 Option.bind out[b_1]? fun (b_2 : Int) =>
 bif decide (b_2 < r) then
 Option.bind (idxN out x.2.1) fun (b : Nat) =>
 Option.bind out[b]? fun (b : Int) =>
 Option.bind (appO x.1 [b]) fun (b : List Int) =>
 some (Sum.inl (b, wrap64 (x.2.1 + 1), ()))
 else some (Sum.inl (x.1, wrap64 (x.2.1 + 1), ()))
 else
 Option.map Sum.inr
 (Option.bind (appO x.1 [r]) fun (b_1 : List Int) => iter (rv2 out r i) big (b_1, 0, ()))
def insR (out : List Int) (r : Int) : List Int := out.filter (fun x => decide (x < r)) ++ r :: out.filter (fun x => decide (r < x))
theorem appO_small {α : Type} {l : List α} {x : α} (h : l.length ≤ 100000000) : appO l [x] = some (l ++ [x]) := by
  unfold appO
  have : Nat.ble (l.length + [x].length) capB = true := Nat.ble_eq_true_of_le (by simp [capB]; omega)
  rw [this]; rfl
theorem foldl_pick {p : Int → Bool} : ∀ (l d : List Int), l.foldl (fun a v => bif p v then a ++ [v] else a) d = d ++ l.filter p
  | [], d => by simp
  | x :: l, d => by
    rw [List.foldl_cons, foldl_pick l]
    cases h : p x <;> simp [h]
theorem rv2_ok (out d : List Int) (r i : Int) (hl : out.length ≤ 10000000) (hd : d.length ≤ 20000000) : iter (rv2 out r i) big (d, 0, ()) = some (.inl (d ++ out.filter (fun x => decide (r < x)), wrap64 (i + 1), ())) := by
  have := iter_fold (step := rv2 out r i) (mk := fun i a => (a, (i : Int), ())) (l := out) (g := fun a v => bif decide (r < v) then a ++ [v] else a) (K := fun a => .inl (a, wrap64 (i + 1), ())) (fun k a => a.length ≤ d.length + k) (by omega)
    (fun k a v hk ha => by
      have hlt : k < out.length := (List.getElem?_eq_some_iff.1 hk).1
      refine ⟨?_, ?_⟩
      · unfold rv2
        simp only [lt_len, hlt, decide_true, cond_true, idxN_nat hlt, Option.bind_some, hk, wrap64_nat (show k < 9223372036854775807 by omega), appO_small (show a.length ≤ 100000000 by omega)]
        cases decide (r < v) <;> rfl
      · cases decide (r < v) <;> simp <;> omega)
    (fun a _ => by
      unfold rv2
      simp only [lt_len, Nat.lt_irrefl, decide_false, cond_false]) (a := d) (Nat.le_refl _)
  rw [foldl_pick] at this
  exact this
theorem rv1_ok (out : List Int) (r i : Int) (hl : out.length ≤ 10000000) : iter (rv1 out r i) big ([], 0, ()) = some (.inl (insR out r, wrap64 (i + 1), ())) := by
  have := iter_fold (step := rv1 out r i) (mk := fun i a => (a, (i : Int), ())) (l := out) (g := fun a v => bif decide (v < r) then a ++ [v] else a) (K := fun a => .inl (a ++ [r] ++ out.filter (fun x => decide (r < x)), wrap64 (i + 1), ())) (fun k a => a.length ≤ k) (by omega)
    (fun k a v hk ha => by
      have hlt : k < out.length := (List.getElem?_eq_some_iff.1 hk).1
      refine ⟨?_, ?_⟩
      · unfold rv1
        simp only [lt_len, hlt, decide_true, cond_true, idxN_nat hlt, Option.bind_some, hk, wrap64_nat (show k < 9223372036854775807 by omega), appO_small (show a.length ≤ 100000000 by omega)]
        cases decide (v < r) <;> rfl
      · cases decide (v < r) <;> simp <;> omega)
    (fun a ha => by
      unfold rv1
      simp only [lt_len, Nat.lt_irrefl, decide_false, cond_false, appO_small (show a.length ≤ 100000000 by omega), Option.bind_some]
      rw [rv2_ok out (a ++ [r]) r i hl (by simp; omega)]
      rfl) (a := []) (Nat.le_refl _)
  rw [foldl_pick] at this
  rw [show insR out r = [] ++ out.filter (fun x => decide (x < r)) ++ [r] ++ out.filter (fun x => decide (r < x)) from by simp [insR]]
  exact this
theorem insR_len (out : List Int) (r : Int) : (insR out r).length ≤ out.length + 1 := by
  have key : ∀ l : List Int, (l.filter (fun x => decide (x < r))).length + (l.filter (fun x => decide (r < x))).length ≤ l.length := by
    intro l
    induction l with
    | nil => simp
    | cons x l ih =>
      rcases Int.lt_trichotomy x r with h | h | h
      · have h2 : ¬ r < x := by omega
        simp [h, h2]; omega
      · subst h; simp; omega
      · have h2 : ¬ x < r := by omega
        simp [h, h2]; omega
  have := key out
  simp only [insR, List.length_append, List.length_cons]
  omega
/-- revisions of a list of versions put in -/
def insV (out : List Int) (h : List T37D) : List Int := h.foldl (fun o v => insR o v.1) out
theorem insV_ok : ∀ (h : List T37D) {out : List Int}, Inc out → Inc (insV out h) ∧ (∀ r, r ∈ insV out h ↔ r ∈ out ∨ ∃ v ∈ h, v.1 = r) ∧ (insV out h).length ≤ out.length + h.length
  | [], out, ho => ⟨ho, by simp [insV], by simp [insV]⟩
  | v :: h, out, ho => by
    obtain ⟨i1, i2⟩ := ho.ins v.1
    have i1 : Inc (insR out v.1) := i1
    have i2 : ∀ x, x ∈ insR out v.1 ↔ x = v.1 ∨ x ∈ out := i2
    obtain ⟨a1, a2, a3⟩ := insV_ok h i1
    have hl := insR_len out v.1
    refine ⟨a1, fun r => ?_, by show (insV (insR out v.1) h).length ≤ _; simp only [List.length_cons]; omega⟩
    show r ∈ insV (insR out v.1) h ↔ _
    rw [a2 r, i2 r]
    constructor
    · rintro ((h1 | h1) | ⟨u, hu, h1⟩)
      · exact .inr ⟨v, by simp, h1.symm⟩
      · exact .inl h1
      · exact .inr ⟨u, by simp [hu], h1⟩
    · rintro (h1 | ⟨u, hu, h1⟩)
      · exact .inl (.inr h1)
      · rcases List.mem_cons.1 hu with rfl | hu
        · exact .inl (.inl h1.symm)
        · exact .inr ⟨u, hu, h1⟩
def insL (l : List KX) (out : List Int) : List Int := l.foldl (fun o e => insV o e.2.1) out
theorem insL_ok : ∀ (l : List KX) {out : List Int}, Inc out → Inc (insL l out) ∧ (∀ r, r ∈ insL l out ↔ r ∈ out ∨ ∃ e ∈ l, ∃ v ∈ e.2.1, v.1 = r)
  | [], out, ho => ⟨ho, by simp [insL]⟩
  | e :: l, out, ho => by
    obtain ⟨i1, i2, _⟩ := insV_ok e.2.1 ho
    obtain ⟨a1, a2⟩ := insL_ok l i1
    refine ⟨a1, fun r => ?_⟩
    show r ∈ insL l (insV out e.2.1) ↔ _
    rw [a2 r, i2 r]
    constructor
    · rintro ((h1 | ⟨v, hv, h1⟩) | ⟨u, hu, h1⟩)
      · exact .inl h1
      · exact .inr ⟨e, by simp, v, hv, h1⟩
      · exact .inr ⟨u, by simp [hu], h1⟩
    · rintro (h1 | ⟨u, hu, h1⟩)
      · exact .inl (.inl h1)
      · rcases List.mem_cons.1 hu with rfl | hu
        · exact .inl (.inr h1)
        · exact .inr ⟨u, hu, h1⟩
theorem revs_eq (l : List KX) (n : Nat) (hI : IdxL l n) (hn : n ≤ 1000) : F68 (l, ()) = some (insL l [], ()) := by
  have hll := hI.2.1
  unfold F68
  refine iter_fold (mk := fun i a => (a, (i : Int), ())) (l := l) (g := fun o e => insV o e.2.1) (K := fun a => (a, ())) (fun k a => Inc a ∧ a.length ≤ k * 1000) (by omega) (fun k a e hk ha => ?_) (fun a _ => ?_) (a := []) ⟨List.Pairwise.nil, Nat.zero_le _⟩
  · have hlt : k < l.length := (List.getElem?_eq_some_iff.1 hk).1
    have he := (hI.2.2 e (List.mem_of_getElem? hk)).2.2.2
    obtain ⟨b1, b2, b3⟩ := insV_ok e.2.1 ha.1
    refine ⟨?_, b1, by omega⟩
    simp only [lt_len, hlt, decide_true, cond_true, idx_nat, hk, Option.bind_some]
    have := iter_fold (step := fun (x_2 : RvS) => bif decide (x_2.2.1 < Int.ofNat (List.length e.2.1)) then Option.bind (idx e.2.1 x_2.2.1) fun (b : T37D) => iter (rv1 x_2.1 b.1 x_2.2.1) big ([], 0, ()) else some (Sum.inr (Sum.inl (x_2.1, wrap64 ((k : Int) + 1), ()) : RvS ⊕ List Int × Unit)))
      (mk := fun i a => (a, (i : Int), ())) (l := e.2.1) (g := fun o v => insR o v.1) (K := fun a => (.inl (a, wrap64 ((k : Int) + 1), ()) : RvS ⊕ List Int × Unit)) (fun j o => o.length ≤ a.length + j) (by omega) (fun j o v hj ho => ⟨by
        have hjl : j < e.2.1.length := (List.getElem?_eq_some_iff.1 hj).1
        simp only [lt_len, hjl, decide_true, cond_true, idx_nat, hj, Option.bind_some]
        rw [rv1_ok o v.1 (j : Int) (by omega), wrap64_nat (show j < 9223372036854775807 by omega)], by have := insR_len o v.1; omega⟩) (fun o _ => by simp only [lt_len, Nat.lt_irrefl, decide_false, cond_false]) (a := a) (Nat.le_refl _)
    rw [wrap64_nat (show k < 9223372036854775807 by omega)] at this ⊢
    exact this
  · simp only [lt_len, Nat.lt_irrefl, decide_false, cond_false]
end Go.Proofs.Ytphdilmnielgeaa
