/-
  The document's changes.
-/
import Derived.Test.YtphdilmnielgeaaIndexRevs
namespace Go.Proofs.Ytphdilmnielgeaa
open Go.Sx Go Classical
set_option maxRecDepth 10000
/-- batches, as many as are wanted at most, but one at least -/
def takeB (most : Int) : List Bt → Int → List Bt → List Bt
  | out, _, [] => out
  | out, n, b :: r => if most < n + (b.2.1.length : Int) ∧ 0 < out.length then out else takeB most (out ++ [b]) (n + (b.2.1.length : Int)) r
abbrev DcS : Type := Int × List It × Unit
abbrev DcT : Type := List Bt × Int × Int × Unit
abbrev DcR : Type := List Bt × Unit
noncomputable def dc3 (l : List KX) (a b : List UInt8) (r : Int) (i : Int) (e : KX) (x_3 : DcS) : Option (DcS ⊕ (DcS ⊕ DcT ⊕ DcR)) :=
 bif decide (x_3.1 < Int.ofNat (List.length e.2.1)) then
 Option.bind (idx l i)
 fun (b_3 : List UInt8 × List T37D × Unit) =>
 Option.bind (idx b_3.2.1 x_3.1)
 fun (b_4 : T37D) =>
 bif decide (b_4.1 = r) then
 Option.bind (idx l i)
 fun (e1 : List UInt8 × List T37D × Unit) =>
 Option.bind (F19 (a, b, e1.1, ()))
 fun (q : Bool × Unit) =>
 bif q.1 then
 Option.bind (idx l i)
 fun (e2 : List UInt8 × List T37D × Unit) =>
 Option.bind (idx l i)
 fun (b_5 : List UInt8 × List T37D × Unit) =>
 Option.bind (idx b_5.2.1 x_3.1)
 fun (b_6 : T37D) =>
 Option.bind (appO x_3.2.1 [(e2.1, b_6, ())])
 fun (b : List T66D) =>
 some (Sum.inl (wrap64 (x_3.1 + 1), b, ()))
 else some (Sum.inl (wrap64 (x_3.1 + 1), x_3.2))
 else some (Sum.inl (wrap64 (x_3.1 + 1), x_3.2))
 else some (Sum.inr (Sum.inl (wrap64 (i + 1), x_3.2)))
noncomputable def dcRest (r since to most : Int) (x_1 : DcT) (L : List It × Unit) : Option (DcT ⊕ DcR) :=
 bif decide (Int.ofNat (List.length L.1) = 0) then
 some (Sum.inl (x_1.1, x_1.2.1, wrap64 (x_1.2.2.1 + 1), ()))
 else
 bif decide (r < since) then
 some (Sum.inl (x_1.1, x_1.2.1, wrap64 (x_1.2.2.1 + 1), ()))
 else
 bif decide (to < r) then
 some (Sum.inl (x_1.1, x_1.2.1, wrap64 (x_1.2.2.1 + 1), ()))
 else
 bif decide (most < wrap64 (x_1.2.1 + Int.ofNat (List.length L.1))) then
 bif decide (0 < Int.ofNat (List.length x_1.1)) then some (Sum.inr (x_1.1, ()))
 else
 Option.bind (appO x_1.1 [(r, L)])
 fun (b : List Bt) =>
 some (Sum.inl (b, wrap64 (x_1.2.1 + Int.ofNat (List.length L.1)), wrap64 (x_1.2.2.1 + 1), ()))
 else
 Option.bind (appO x_1.1 [(r, L)])
 fun (b : List Bt) =>
 some (Sum.inl (b, wrap64 (x_1.2.1 + Int.ofNat (List.length L.1)), wrap64 (x_1.2.2.1 + 1), ()))
noncomputable def dc2 (l : List KX) (a b : List UInt8) (r since to most : Int) (x_1 : DcT) (x_2 : DcS) : Option (DcS ⊕ (DcT ⊕ DcR)) :=
 bif decide (x_2.1 < Int.ofNat (List.length l)) then
 Option.bind (idx l x_2.1) fun (e : KX) => iter (dc3 l a b r x_2.1 e) big (0, x_2.2)
 else Option.map Sum.inr (dcRest r since to most x_1 x_2.2)
noncomputable def dc1 (l : List KX) (a b : List UInt8) (since to most : Int) (R : List Int) (x_1 : DcT) : Option (DcT ⊕ DcR) :=
 bif decide (x_1.2.2.1 < Int.ofNat (List.length R)) then
 Option.bind (idxN R x_1.2.2.1) fun (b_1 : Nat) =>
 Option.bind R[b_1]? fun (r : Int) => iter (dc2 l a b r since to most x_1) big (0, [], ())
 else some (Sum.inr (x_1.1, ()))
theorem dc_eq (l : List KX) (a b : List UInt8) (since to most : Int) : F38 (l, a, b, since, to, most, ()) = Option.bind (F68 (l, ())) fun (R : List Int × Unit) => iter (dc1 l a b since to most R.1) big ([], 0, 0, ()) := rfl
def verItems (p : List UInt8 → Bool) (r : Int) (e : KX) : List It := bif p e.1 then (e.2.1.filter (fun v => decide (v.1 = r))).map (fun v => (e.1, v, ())) else []
def docItems (p : List UInt8 → Bool) (l : List KX) (r : Int) : List It := l.flatMap (verItems p r)
/-- a fold over a list whose end is known for its outcome alone -/
theorem iter_find' {T V A R : Type} {step : T → Option (T ⊕ R)} {mk : Nat → A → T} {l : List V} {g : A → V → A} {o : R} (Inv : Nat → A → Prop) (hn : l.length ≤ 9223372036854775807) (h : ∀ i a v, l[i]? = some v → Inv i a → step (mk i a) = some (.inl (mk (i + 1) (g a v))) ∧ Inv (i + 1) (g a v))
    {a : A} (ha : Inv 0 a) (hK : step (mk l.length (l.foldl g a)) = some (.inr o)) : iter step big (mk 0 a) = some o := by
  have main : ∀ (d i m : Nat) (a' : A), i + d = l.length → d < m → Inv i a' → (l.drop i).foldl g a' = l.foldl g a → iter step m (mk i a') = some o := by
    intro d
    induction d with
    | zero =>
      intro i m a' hi hm _ he
      obtain ⟨m, rfl⟩ : ∃ k, m = k + 1 := ⟨m - 1, by omega⟩
      have : i = l.length := by omega
      subst this
      rw [List.drop_length, List.foldl_nil] at he
      subst he
      simp only [iter, hK, Option.bind_some, Sum.elim_inr]
    | succ d ih =>
      intro i m a' hi hm hinv he
      obtain ⟨m, rfl⟩ : ∃ k, m = k + 1 := ⟨m - 1, by omega⟩
      have hlt : i < l.length := by omega
      obtain ⟨h1, h2⟩ := h i a' l[i] (List.getElem?_eq_getElem hlt) hinv
      simp only [iter, h1, Option.bind_some, Sum.elim_inl]
      refine ih (i + 1) m _ (by omega) (by omega) h2 ?_
      rw [← he, List.drop_eq_getElem_cons hlt, List.foldl_cons]
  exact main l.length 0 big a (by omega) (by rw [big_eq]; omega) ha (by rw [List.drop_zero])
theorem foldl_ver (p : Bool) (r : Int) (k : List UInt8) : ∀ (h : List T37D) (L : List It), h.foldl (fun L v => bif decide (v.1 = r) then (bif p then L ++ [((k, v, ()) : It)] else L) else L) L = L ++ (bif p then (h.filter (fun v => decide (v.1 = r))).map (fun v => (k, v, ())) else [])
  | [], L => by cases p <;> simp
  | v :: h, L => by
    rw [List.foldl_cons, foldl_ver p r k h]
    cases p <;> by_cases hv : v.1 = r <;> simp [hv]
theorem verItems_len (p : List UInt8 → Bool) (r : Int) (e : KX) : (verItems p r e).length ≤ e.2.1.length := by
  unfold verItems
  cases p e.1 with
  | true => simp only [cond_true, List.length_map]; exact List.length_filter_le _ _
  | false => simp
theorem dc3_ok {l : List KX} {a b : List UInt8} {p : List UInt8 → Bool} (r : Int) {i : Nat} {e : KX} (hi : l[i]? = some e) (hp : F19 (a, b, e.1, ()) = some (p e.1, ())) (L : List It) (hL : L.length ≤ 10000000) (he : e.2.1.length ≤ 10000000) (hi2 : i ≤ 10000000) :
    iter (dc3 l a b r i e) big (0, L, ()) = some (.inl (((i + 1 : Nat) : Int), L ++ verItems p r e, ())) := by
  have := iter_fold (step := dc3 l a b r i e) (mk := fun j L => ((j : Int), L, ())) (l := e.2.1) (g := fun L v => bif decide (v.1 = r) then (bif p e.1 then L ++ [((e.1, v, ()) : It)] else L) else L) (K := fun L => (.inl (((i + 1 : Nat) : Int), L, ()) : DcS ⊕ DcT ⊕ DcR)) (fun j L' => L'.length ≤ L.length + j) (by omega)
    (fun j L' v hj hl => by
      have hjl : j < e.2.1.length := (List.getElem?_eq_some_iff.1 hj).1
      refine ⟨?_, ?_⟩
      · unfold dc3
        simp only [lt_len, hjl, decide_true, cond_true, idx_nat, hi, hj, Option.bind_some, hp, wrap64_nat (show j < 9223372036854775807 by omega), appO_small (show L'.length ≤ 100000000 by omega)]
        cases decide (v.1 = r) <;> cases p e.1 <;> rfl
      · cases decide (v.1 = r) <;> cases p e.1 <;> simp <;> omega)
    (fun L' _ => by
      unfold dc3
      simp only [lt_len, Nat.lt_irrefl, decide_false, cond_false, wrap64_nat (show i < 9223372036854775807 by omega)]) (a := L) (Nat.le_refl _)
  rw [foldl_ver] at this
  exact this
theorem dc2_ok {l : List KX} {n : Nat} (hI : IdxL l n) (hn : n ≤ 1000) {a b : List UInt8} {p : List UInt8 → Bool} (hp : ∀ e ∈ l, F19 (a, b, e.1, ()) = some (p e.1, ())) (r since to most : Int) (x_1 : DcT) {o : DcT ⊕ DcR} (ho : dcRest r since to most x_1 (docItems p l r, ()) = some o) :
    iter (dc2 l a b r since to most x_1) big (0, [], ()) = some o := by
  have hll := hI.2.1
  have hf : ∀ (m : List KX) (L : List It), m.foldl (fun L e => L ++ verItems p r e) L = L ++ docItems p m r := by
    intro m
    induction m with
    | nil => intro L; simp [docItems]
    | cons e m ih => intro L; rw [List.foldl_cons, ih]; simp [docItems]
  have := iter_find' (step := dc2 l a b r since to most x_1) (mk := fun i L => ((i : Int), L, ())) (l := l) (g := fun L e => L ++ verItems p r e) (o := o) (fun i L => L.length ≤ i * 1000) (by omega)
    (fun i L e hi hl => by
      have hil : i < l.length := (List.getElem?_eq_some_iff.1 hi).1
      have he := (hI.2.2 e (List.mem_of_getElem? hi)).2.2.2
      have hv := verItems_len p r e
      refine ⟨?_, by simp only [List.length_append]; omega⟩
      unfold dc2
      simp only [lt_len, hil, decide_true, cond_true, idx_nat, hi, Option.bind_some]
      exact dc3_ok r hi (hp e (List.mem_of_getElem? hi)) L (by omega) (by omega) (by omega))
    (a := []) (Nat.zero_le _) (by
      rw [hf, List.nil_append]
      unfold dc2
      simp only [lt_len, Nat.lt_irrefl, decide_false, cond_false, ho]
      rfl)
  exact this
end Go.Proofs.Ytphdilmnielgeaa
