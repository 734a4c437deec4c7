/-
  The stable sort in place: sorted, and each key's elements in the order in which they were; insertion sort.
-/
import Derived.Test.YtphdilmnielgeaaIndexSortA
namespace Go.Proofs.Ytphdilmnielgeaa
open Go.Sx Go
set_option maxRecDepth 10000
def Srt (l : List It) : Prop := l.Pairwise (fun a b => K a ≤ K b)
/-- the same elements, those of a key in the same order -/
def Stab (l l' : List It) : Prop := l'.Perm l ∧ ∀ k, l'.filter (fun x => decide (K x = k)) = l.filter (fun x => decide (K x = k))
theorem Stab.refl (l : List It) : Stab l l := ⟨List.Perm.refl _, fun _ => rfl⟩
theorem Stab.trans {a b c : List It} (h1 : Stab a b) (h2 : Stab b c) : Stab a c := ⟨h2.1.trans h1.1, fun k => (h2.2 k).trans (h1.2 k)⟩
theorem Stab.app {a a' b b' : List It} (h1 : Stab a a') (h2 : Stab b b') : Stab (a ++ b) (a' ++ b') :=
  ⟨h1.1.append h2.1, fun k => by rw [List.filter_append, List.filter_append, h1.2, h2.2]⟩
theorem Stab.len {a b : List It} (h : Stab a b) : b.length = a.length := h.1.length_eq
theorem Stab.mem {a b : List It} (h : Stab a b) {x : It} : x ∈ b ↔ x ∈ a := h.1.mem_iff
theorem Stab.swap {X Y : List It} (h : ∀ x ∈ X, ∀ y ∈ Y, K x ≠ K y) : Stab (X ++ Y) (Y ++ X) := by
  refine ⟨List.perm_append_comm, fun k => ?_⟩
  rw [List.filter_append, List.filter_append]
  by_cases hx : ∃ x ∈ X, K x = k
  · obtain ⟨x, hx, rfl⟩ := hx
    have : Y.filter (fun y => decide (K y = K x)) = [] := List.filter_eq_nil_iff.2 fun y hy => by simpa using fun e => h x hx y hy e.symm
    rw [this, List.nil_append, List.append_nil]
  · have : X.filter (fun x => decide (K x = k)) = [] := List.filter_eq_nil_iff.2 fun x hx' => by simpa using fun e => hx ⟨x, hx', e⟩
    rw [this, List.nil_append, List.append_nil]
theorem Srt.app {a b : List It} : Srt (a ++ b) ↔ Srt a ∧ Srt b ∧ ∀ x ∈ a, ∀ y ∈ b, K x ≤ K y := List.pairwise_append
theorem Srt.nil : Srt [] := List.Pairwise.nil
theorem Srt.one (x : It) : Srt [x] := List.pairwise_singleton _ _
/-! ### insertion sort -/
noncomputable def inStep (a i : Int) (x_2 : List It × Int × Unit) : Option ((List It × Int × Unit) ⊕ ((List It × Int × Unit) ⊕ (List It × Unit))) :=
 bif decide (a < x_2.2.1) then
 Option.bind (idxN x_2.1 x_2.2.1) fun (b : Nat) =>
 Option.bind x_2.1[b]?
 fun (b : T66D) =>
 Option.bind (idxN x_2.1 (wrap64 (x_2.2.1 - 1))) fun (b_1 : Nat) =>
 Option.bind x_2.1[b_1]?
 fun (b_2 : T66D) =>
 Option.bind (F65 (b, b_2, ())) fun (b : Int × Unit) =>
 bif decide (b.1 < 0) then
 Option.bind (idxN x_2.1 (wrap64 (x_2.2.1 - 1))) fun (b : Nat) =>
 Option.bind x_2.1[b]?
 fun
 (b : T66D) =>
 Option.bind (idxN x_2.1 x_2.2.1) fun (b_3 : Nat) =>
 Option.bind x_2.1[b_3]?
 fun
 (b_4 :
 T66D) =>
 Option.bind (idxN x_2.1 x_2.2.1) fun (b_5 : Nat) =>
 Option.bind x_2.1[b_5]?
 fun
 (_z :
 T66D) =>
 Option.bind
 (idxN (List.set x_2.1 b_5 b) (wrap64 (x_2.2.1 - 1)))
 fun (b_6 : Nat) =>
 Option.bind (List.set x_2.1 b_5 b)[b_6]?
 fun
 (_z :
 T66D) =>
 some
 (Sum.inl
 (List.set (List.set x_2.1 b_5 b) b_6 b_4,
 wrap64 (x_2.2.1 - 1), ()))
 else some (Sum.inr (Sum.inl (x_2.1, wrap64 (i + 1), ())))
 else some (Sum.inr (Sum.inl (x_2.1, wrap64 (i + 1), ())))
noncomputable def isStep (a b : Int) (x_1 : List It × Int × Unit) : Option ((List It × Int × Unit) ⊕ (List It × Unit)) :=
 bif decide (x_1.2.1 < b) then iter (inStep a x_1.2.1) big x_1 else some (Sum.inr (x_1.1, ()))
theorem is_eq (l : List It) (a b : Int) : F95a (l, a, b, ()) = iter (isStep a b) big (l, wrap64 (a + 1), ()) := rfl
theorem in_loop {P : List It} {r : It} {a i : Nat} (ha : a = P.length) : ∀ (d : Nat) {D1 T : List It} {m : Nat}, D1.length = d → (P ++ D1 ++ r :: T).length ≤ 100000000 → d < m →
    ∃ A B, D1 = A ++ B ∧ (∀ y ∈ B, K r < K y) ∧ (∀ z, A.getLast? = some z → K z ≤ K r) ∧
      iter (inStep a i) m (P ++ D1 ++ r :: T, ((P.length + d : Nat) : Int), ()) = some (.inl (P ++ A ++ r :: (B ++ T), wrap64 ((i : Int) + 1), ()))
  | 0, D1, T, m + 1, hd, hl, hm => by
    have : D1 = [] := List.eq_nil_of_length_eq_zero hd
    subst this
    refine ⟨[], [], rfl, by simp, by simp, ?_⟩
    have h0 : decide ((a : Int) < ((P.length + 0 : Nat) : Int)) = false := decide_eq_false (by omega)
    simp only [iter, inStep, h0, cond_false, Option.bind_some, Sum.elim_inr, List.append_nil, List.nil_append]
  | d + 1, D1, T, m + 1, hd, hl, hm => by
    obtain ⟨D, z, rfl⟩ : ∃ D z, D1 = D ++ [z] := by
      have hne : D1 ≠ [] := fun e => by subst e; simp at hd
      exact ⟨D1.dropLast, D1.getLast hne, (List.dropLast_concat_getLast hne).symm⟩
    simp only [List.length_append, List.length_cons, List.length_nil] at hd hl
    have h0 : decide ((a : Int) < ((P.length + (d + 1) : Nat) : Int)) = true := decide_eq_true (by omega)
    have w1 : wrap64 (((P.length + (d + 1) : Nat) : Int) - 1) = ((P.length + d : Nat) : Int) := wi (by omega) (by omega)
    have e1 : P ++ (D ++ [z]) ++ r :: T = (P ++ D ++ [z]) ++ r :: T := by simp
    have e2 : P ++ (D ++ [z]) ++ r :: T = (P ++ D) ++ z :: (r :: T) := by simp
    have n1 : P.length + (d + 1) = (P ++ D ++ [z]).length := by simp; omega
    have n2 : P.length + d = (P ++ D).length := by simp; omega
    obtain ⟨c, hc, hc2⟩ := cmp_ex r z
    have e3 : (P ++ D ++ [z]) ++ z :: T = (P ++ D) ++ z :: (z :: T) := by simp
    by_cases hlt : K r < K z
    · have hc2' : decide (c < 0) = true := hc2.trans (decide_eq_true hlt)
      obtain ⟨A, B, q1, q2, q3, q4⟩ := in_loop (i := i) (r := r) ha d (D1 := D) (T := z :: T) (m := m) (by omega) (by simp; omega) (by omega)
      refine ⟨A, B ++ [z], by rw [q1]; simp, fun y hy => ?_, q3, ?_⟩
      · rcases List.mem_append.1 hy with hy | hy
        · exact q2 y hy
        · rw [List.mem_singleton.1 hy]; exact hlt
      · have step : inStep a i (P ++ (D ++ [z]) ++ r :: T, ((P.length + (d + 1) : Nat) : Int), ()) = some (.inl (P ++ D ++ r :: (z :: T), ((P.length + d : Nat) : Int), ())) := by
          unfold inStep
          simp only [h0, cond_true, w1]
          rw [e1, rd_mid rfl n1, ← e1, e2, rd_mid rfl n2, hc]
          simp only [Option.bind_some, hc2', cond_true]
          rw [rd_mid rfl n2, ← e2, e1, rd_mid rfl n1, rd_mid rfl n1, set_mid n1, e3, rd_mid rfl n2, set_mid n2]
        simp only [iter, step, Option.bind_some, Sum.elim_inl]
        rw [q4]
        simp
    · have hc2' : decide (c < 0) = false := hc2.trans (decide_eq_false hlt)
      refine ⟨D ++ [z], [], by simp, by simp, fun y hy => ?_, ?_⟩
      · simp at hy; subst hy; omega
      · have step : inStep a i (P ++ (D ++ [z]) ++ r :: T, ((P.length + (d + 1) : Nat) : Int), ()) = some (.inr (.inl (P ++ (D ++ [z]) ++ r :: T, wrap64 ((i : Int) + 1), ()))) := by
          unfold inStep
          simp only [h0, cond_true, w1]
          rw [e1, rd_mid rfl n1, ← e1, e2, rd_mid rfl n2, hc]
          simp only [Option.bind_some, hc2', cond_false]
        simp only [iter, step, Option.bind_some, Sum.elim_inr]
        simp
theorem insert_ok {A B : List It} {r : It} (hs : Srt (A ++ B)) (h1 : ∀ y ∈ B, K r < K y) (h2 : ∀ z, A.getLast? = some z → K z ≤ K r) : Srt (A ++ r :: B) ∧ Stab ((A ++ B) ++ [r]) (A ++ r :: B) := by
  obtain ⟨s1, s2, s3⟩ := Srt.app.1 hs
  have hA : ∀ x ∈ A, K x ≤ K r := fun x hx => by
    cases hz : A.getLast? with
    | none => rw [List.getLast?_eq_none_iff.1 hz] at hx; simp at hx
    | some z =>
      have hz2 := h2 z hz
      obtain ⟨A', rfl⟩ := List.getLast?_eq_some_iff.1 hz
      rcases List.mem_append.1 hx with hx | hx
      · have := (Srt.app.1 s1).2.2 x hx z (by simp)
        omega
      · rw [List.mem_singleton.1 hx]; exact hz2
  refine ⟨?_, ?_⟩
  · rw [show A ++ r :: B = A ++ ([r] ++ B) from rfl]
    refine Srt.app.2 ⟨s1, Srt.app.2 ⟨Srt.one r, s2, fun x hx y hy => ?_⟩, fun x hx y hy => ?_⟩
    · rw [List.mem_singleton.1 hx]; exact Int.le_of_lt (h1 y hy)
    · rcases List.mem_append.1 hy with hy | hy
      · rw [List.mem_singleton.1 hy]; exact hA x hx
      · exact s3 x hx y hy
  · rw [List.append_assoc]
    refine (Stab.refl A).app (Stab.swap (X := B) (Y := [r]) fun x hx y hy => ?_)
    rw [List.mem_singleton.1 hy]
    have := h1 x hx
    omega
theorem is_loop {P S : List It} {a b : Nat} (ha : a = P.length) : ∀ {R D D0 : List It} {m : Nat}, Srt D → Stab D0 D → b = P.length + D.length + R.length → (P ++ D ++ R ++ S).length ≤ 100000000 → R.length < m →
    ∃ M, Srt M ∧ Stab (D0 ++ R) M ∧ iter (isStep a b) m (P ++ D ++ R ++ S, ((P.length + D.length : Nat) : Int), ()) = some (P ++ M ++ S, ())
  | [], D, D0, m + 1, hs, hst, hb, hl, hm => by
    refine ⟨D, hs, by simpa using hst, ?_⟩
    have h0 : decide (((P.length + D.length : Nat) : Int) < (b : Int)) = false := decide_eq_false (by simp at hb; omega)
    simp only [iter, isStep, h0, cond_false, Option.bind_some, Sum.elim_inr, List.append_nil]
  | r :: R, D, D0, m + 1, hs, hst, hb, hl, hm => by
    simp only [List.length_append, List.length_cons] at hb hl hm
    have h0 : decide (((P.length + D.length : Nat) : Int) < (b : Int)) = true := decide_eq_true (by omega)
    obtain ⟨A, B, q1, q2, q3, q4⟩ := in_loop (P := P) (r := r) (a := a) (i := P.length + D.length) ha D.length (D1 := D) (T := R ++ S) (m := big) rfl (by simp; omega) (by rw [big_eq]; omega)
    subst q1
    obtain ⟨i1, i2⟩ := insert_ok hs q2 q3
    obtain ⟨M, k1, k2, k3⟩ := is_loop (P := P) (S := S) (a := a) (b := b) ha (R := R) (D := A ++ r :: B) (D0 := D0 ++ [r]) (m := m) i1 ((hst.app (Stab.refl [r])).trans i2) (by simp at hb ⊢; omega) (by simp at hl ⊢; omega) (by omega)
    refine ⟨M, k1, by simpa using k2, ?_⟩
    have step : isStep a b (P ++ (A ++ B) ++ r :: R ++ S, ((P.length + (A ++ B).length : Nat) : Int), ()) = some (.inl (P ++ (A ++ r :: B) ++ R ++ S, ((P.length + (A ++ r :: B).length : Nat) : Int), ())) := by
      unfold isStep
      simp only [h0, cond_true]
      rw [show P ++ (A ++ B) ++ r :: R ++ S = P ++ (A ++ B) ++ r :: (R ++ S) from by simp, q4]
      have e : P ++ A ++ r :: (B ++ (R ++ S)) = P ++ (A ++ r :: B) ++ R ++ S := by simp
      have w : wrap64 (((P.length + (A ++ B).length : Nat) : Int) + 1) = ((P.length + (A ++ r :: B).length : Nat) : Int) := wi (by simp; omega) (by simp at hl ⊢; omega)
      rw [e, w]
    simp only [iter, step, Option.bind_some, Sum.elim_inl]
    exact k3
theorem insertion {P M S : List It} (hl : (P ++ M ++ S).length ≤ 100000000) {a b : Int} (ha : a = (P.length : Int)) (hb : b = ((P.length + M.length : Nat) : Int)) :
    ∃ M', Srt M' ∧ Stab M M' ∧ F95a (P ++ M ++ S, a, b, ()) = some (P ++ M' ++ S, ()) := by
  subst ha hb
  simp only [List.length_append] at hl
  rw [is_eq, wi (n := P.length + 1) (by omega) (by omega)]
  cases M with
  | nil =>
    refine ⟨[], Srt.nil, Stab.refl _, ?_⟩
    obtain ⟨k, hk⟩ : ∃ k, big = k + 1 := ⟨18446744073709551615, big_eq⟩
    rw [hk]
    have h0 : decide (((P.length + 1 : Nat) : Int) < ((P.length + ([] : List It).length : Nat) : Int)) = false := decide_eq_false (by simp; omega)
    simp only [iter, isStep, h0, cond_false, Option.bind_some, Sum.elim_inr]
  | cons x R =>
    obtain ⟨M, k1, k2, k3⟩ := is_loop (P := P) (S := S) (a := P.length) (b := P.length + (x :: R).length) rfl (R := R) (D := [x]) (D0 := [x]) (m := big) (Srt.one x) (Stab.refl _) (by simp; omega) (by simp at hl ⊢; omega) (by rw [big_eq]; simp at hl; omega)
    refine ⟨M, k1, k2, ?_⟩
    simpa using k3
end Go.Proofs.Ytphdilmnielgeaa
