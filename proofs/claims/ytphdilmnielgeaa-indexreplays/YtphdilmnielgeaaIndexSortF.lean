/-
  The stable sort in place: the whole.
-/
import Derived.Test.YtphdilmnielgeaaIndexSortE
namespace Go.Proofs.Ytphdilmnielgeaa
open Go.Sx Go
set_option maxRecDepth 10000
/-- sorted pieces of c elements, the last one no longer than that -/
inductive Chk (c : Nat) : List It → Prop
  | last (l : List It) : l.length ≤ c → Srt l → Chk c l
  | cons (a l : List It) : a.length = c → Srt a → Chk c l → Chk c (a ++ l)
inductive Full (c : Nat) : List It → Prop
  | nil : Full c []
  | snoc (D a : List It) : Full c D → a.length = c → Srt a → Full c (D ++ a)
theorem Full.app {c : Nat} {D : List It} (h : Full c D) : ∀ {l : List It}, Chk c l → Chk c (D ++ l) := by
  induction h with
  | nil => intro l hl; exact hl
  | snoc D a _ h2 h3 ih => intro l hl; rw [List.append_assoc]; exact ih (.cons a l h2 h3 hl)
theorem Chk.split {c : Nat} {R : List It} (h : Chk c R) (hc : c ≤ R.length) : ∃ X R1, R = X ++ R1 ∧ X.length = c ∧ Srt X ∧ Chk c R1 := by
  cases h with
  | last _ h1 h2 => exact ⟨R, [], by simp, by omega, h2, .last [] (by simp) Srt.nil⟩
  | cons a l h1 h2 h3 => exact ⟨a, l, rfl, h1, h2, h3⟩
theorem Chk.small {c : Nat} {R : List It} (h : Chk c R) (hc : R.length ≤ c) : Srt R := by
  cases h with
  | last _ h1 h2 => exact h2
  | cons a l h1 h2 h3 =>
    have : l = [] := nil_of (by simp at hc; omega)
    subst this
    simpa using h2
noncomputable def siStep (n bs : Int) (x_3 : List It × Int × Int × Unit) : Option ((List It × Int × Int × Unit) ⊕ ((List It × Int × Unit) ⊕ (List It × Unit))) :=
 bif decide (x_3.2.2.1 ≤ n) then
 Option.bind
 (F96a
 (x_3.1, x_3.2.1, wrap64 (x_3.2.1 + bs), x_3.2.2))
 fun
 (b :
 List T66D × Unit) =>
 some
 (Sum.inl
 (b.1, x_3.2.2.1,
 wrap64 (x_3.2.2.1 + wrap64 (2 * bs)),
 ()))
 else
 Option.map Sum.inr
 (bif decide (wrap64 (x_3.2.1 + bs) < n) then
 Option.bind
 (F96a (x_3.1, x_3.2.1, wrap64 (x_3.2.1 + bs), n, ()))
 fun
 (b :
 List
 T66D × Unit) =>
 some (Sum.inl (b.1, wrap64 (bs * 2), ()))
 else some (Sum.inl (x_3.1, wrap64 (bs * 2), ())))
noncomputable def soStep (n : Int) (x_2 : List It × Int × Unit) : Option ((List It × Int × Unit) ⊕ (List It × Unit)) :=
 bif decide (x_2.2.1 < n) then iter (siStep n x_2.2.1) big (x_2.1, 0, wrap64 (2 * x_2.2.1), ()) else some (Sum.inr (x_2.1, ()))
noncomputable def spStep (n : Int) (x_1 : List It × Int × Int × Unit) : Option ((List It × Int × Int × Unit) ⊕ (List It × Unit)) :=
 bif decide (x_1.2.2.1 ≤ n) then
 Option.bind (F95a x_1)
 fun (b : List T66D × Unit) =>
 some (Sum.inl (b.1, x_1.2.2.1, wrap64 (x_1.2.2.1 + 20), ()))
 else
 Option.map Sum.inr
 (Option.bind (F95a (x_1.1, x_1.2.1, n, ()))
 fun (b : List T66D × Unit) => iter (soStep n) big (b.1, 20, ()))
theorem si_ok {l0 l : List It} {n bs : Nat} (hn : l0.length = n) (hb : n ≤ 100000000) (h0 : 0 < bs) (hbs : bs < n) (hc : Chk bs l) (hs : Stab l0 l) :
    ∃ l', Chk (bs * 2) l' ∧ Stab l0 l' ∧ iter (siStep n bs) big (l, 0, wrap64 (2 * (bs : Int)), ()) = some (.inl (l', ((bs * 2 : Nat) : Int), ())) := by
  have w2 : wrap64 (2 * (bs : Int)) = ((2 * bs : Nat) : Int) := wi (by omega) (by omega)
  have w3 : wrap64 ((bs : Int) * 2) = ((bs * 2 : Nat) : Int) := wi (by omega) (by omega)
  have hinv := iter_inv (step := siStep n bs) (I := fun t => ∃ D R, t = (D ++ R, (D.length : Int), ((D.length + 2 * bs : Nat) : Int), ()) ∧ Full (bs * 2) D ∧ Chk bs R ∧ Stab l0 (D ++ R))
    (μ := fun t => n - t.2.1.toNat) (Q := fun _ r => ∃ l', Chk (bs * 2) l' ∧ Stab l0 l' ∧ r = .inl (l', ((bs * 2 : Nat) : Int), ())) (fun t ht => ?_) (n := big) (t := (l, 0, ((2 * bs : Nat) : Int), ())) ⟨[], l, by simp, .nil, hc, by simpa using hs⟩ (by rw [big_eq]; show n - _ < _; omega)
  · obtain ⟨r, k1, l', k2, k3, rfl⟩ := hinv
    rw [w2]; exact ⟨l', k2, k3, k1⟩
  · obtain ⟨D, R, rfl, hD, hR, hst⟩ := ht
    have hlen := hst.len
    simp only [List.length_append] at hlen
    have wa : wrap64 ((D.length : Int) + (bs : Int)) = ((D.length + bs : Nat) : Int) := wi (by omega) (by omega)
    have wb : wrap64 (((D.length + 2 * bs : Nat) : Int) + ((2 * bs : Nat) : Int)) = ((D.length + 2 * bs + 2 * bs : Nat) : Int) := wi (by omega) (by omega)
    by_cases hle : D.length + 2 * bs ≤ n
    · right
      obtain ⟨X, R1, rfl, hX, sX, hR1⟩ := hR.split (by omega)
      simp only [List.length_append] at hlen
      obtain ⟨Y, R2, rfl, hY, sY, hR2⟩ := hR1.split (by omega)
      simp only [List.length_append] at hlen
      obtain ⟨M, ⟨m1, m2⟩, m3⟩ := symmerge (P := D) (X := X) (Y := Y) (S := R2) (len_pos_of (by omega)) (len_pos_of (by omega)) sX sY (by simp; omega) (a := (D.length : Int)) (m := ((D.length + bs : Nat) : Int)) (b := ((D.length + 2 * bs : Nat) : Int)) rfl (by omega) (by omega)
      have mL := m2.len
      simp only [List.length_append] at mL
      refine ⟨(D ++ M ++ R2, ((D.length + 2 * bs : Nat) : Int), ((D.length + 2 * bs + 2 * bs : Nat) : Int), ()), ?_, ⟨D ++ M, R2, ?_, .snoc D M hD (by omega) m1, hR2, ?_⟩, ?_, fun r h => h⟩
      · unfold siStep
        simp only [decide_eq_true (show ((D.length + 2 * bs : Nat) : Int) ≤ (n : Int) by omega), cond_true, wa, w2, wb]
        rw [show D ++ (X ++ (Y ++ R2)) = D ++ X ++ Y ++ R2 from by simp, m3]
        rfl
      · have : (D ++ M).length = D.length + 2 * bs := by simp; omega
        rw [this]
      · refine hst.trans ?_
        have := ((Stab.refl D).app m2).app (Stab.refl R2)
        simpa using this
      · show n - ((D.length + 2 * bs : Nat) : Int).toNat < n - (D.length : Int).toNat
        omega
    · left
      by_cases hlt : D.length + bs < n
      · obtain ⟨X, Y, rfl, hX, sX, hY⟩ := hR.split (by omega)
        simp only [List.length_append] at hlen
        have sY := hY.small (by omega)
        obtain ⟨M, ⟨m1, m2⟩, m3⟩ := symmerge (P := D) (X := X) (Y := Y) (S := []) (len_pos_of (by omega)) (len_pos_of (by omega)) sX sY (by simp; omega) (a := (D.length : Int)) (m := ((D.length + bs : Nat) : Int)) (b := (n : Int)) rfl (by omega) (by omega)
        have mL := m2.len
        simp only [List.length_append] at mL
        simp only [List.append_nil] at m3
        refine ⟨.inl (D ++ M, ((bs * 2 : Nat) : Int), ()), ?_, D ++ M, hD.app (.last M (by omega) m1), hst.trans ((Stab.refl D).app m2), rfl⟩
        unfold siStep
        simp only [decide_eq_false (show ¬ ((D.length + 2 * bs : Nat) : Int) ≤ (n : Int) by omega), cond_false, wa, w3, decide_eq_true (show ((D.length + bs : Nat) : Int) < (n : Int) by omega), cond_true]
        rw [show D ++ (X ++ Y) = D ++ X ++ Y from by simp, m3]
        rfl
      · refine ⟨.inl (D ++ R, ((bs * 2 : Nat) : Int), ()), ?_, D ++ R, hD.app (.last R (by omega) (hR.small (by omega))), hst, rfl⟩
        unfold siStep
        simp only [decide_eq_false (show ¬ ((D.length + 2 * bs : Nat) : Int) ≤ (n : Int) by omega), cond_false, wa, w3, decide_eq_false (show ¬ ((D.length + bs : Nat) : Int) < (n : Int) by omega)]
        rfl
theorem so_ok {l0 l : List It} {n : Nat} (hn : l0.length = n) (hb : n ≤ 100000000) (hc : Chk 20 l) (hs : Stab l0 l) :
    ∃ l', Srt l' ∧ Stab l0 l' ∧ iter (soStep n) big (l, 20, ()) = some (l', ()) := by
  have hinv := iter_inv (step := soStep n) (I := fun t => ∃ (l : List It) (bs : Nat), t = (l, (bs : Int), ()) ∧ 0 < bs ∧ Chk bs l ∧ Stab l0 l)
    (μ := fun t => n - t.2.1.toNat) (Q := fun _ r => Srt r.1 ∧ Stab l0 r.1) (fun t ht => ?_) (n := big) (t := (l, 20, ())) ⟨l, 20, rfl, by omega, hc, hs⟩ (by rw [big_eq]; show n - _ < _; omega)
  · obtain ⟨⟨l', ⟨⟩⟩, k1, k2, k3⟩ := hinv
    exact ⟨l', k2, k3, k1⟩
  · obtain ⟨l, bs, rfl, h0, hc, hs⟩ := ht
    have hlen := hs.len
    by_cases hlt : bs < n
    · right
      obtain ⟨l', q1, q2, q3⟩ := si_ok hn hb h0 hlt hc hs
      refine ⟨(l', ((bs * 2 : Nat) : Int), ()), ?_, ⟨l', bs * 2, rfl, by omega, q1, q2⟩, ?_, fun r h => h⟩
      · unfold soStep
        simp only [decide_eq_true (show (bs : Int) < (n : Int) by omega), cond_true]
        exact q3
      · show n - ((bs * 2 : Nat) : Int).toNat < n - (bs : Int).toNat
        omega
    · left
      refine ⟨(l, ()), ?_, hc.small (by omega), hs⟩
      unfold soStep
      simp only [decide_eq_false (show ¬ (bs : Int) < (n : Int) by omega), cond_false]
theorem stable_ok (l0 : List It) (hb : l0.length ≤ 100000000) : ∃ l', Srt l' ∧ Stab l0 l' ∧ F87a (l0, Int.ofNat l0.length, ()) = some (l', ()) := by
  obtain ⟨n, hn⟩ : ∃ n, l0.length = n := ⟨_, rfl⟩
  rw [hn] at hb ⊢
  have hinv := iter_inv (step := spStep (n : Int)) (I := fun t => ∃ D R, t = (D ++ R, (D.length : Int), ((D.length + 20 : Nat) : Int), ()) ∧ Full 20 D ∧ Stab l0 (D ++ R))
    (μ := fun t => n - t.2.1.toNat) (Q := fun _ r => Srt r.1 ∧ Stab l0 r.1) (fun t ht => ?_) (n := big) (t := (l0, 0, 20, ())) ⟨[], l0, by simp, .nil, by simpa using Stab.refl l0⟩ (by rw [big_eq]; show n - _ < _; omega)
  · obtain ⟨⟨l', ⟨⟩⟩, k1, k2, k3⟩ := hinv
    exact ⟨l', k2, k3, k1⟩
  · obtain ⟨D, R, rfl, hD, hst⟩ := ht
    have hlen := hst.len
    simp only [List.length_append] at hlen
    have wb : wrap64 (((D.length + 20 : Nat) : Int) + 20) = ((D.length + 20 + 20 : Nat) : Int) := wi (by omega) (by omega)
    by_cases hle : D.length + 20 ≤ n
    · right
      have hsp : R.take 20 ++ R.drop 20 = R := List.take_append_drop _ _
      have lM : (R.take 20).length = 20 := by rw [List.length_take]; omega
      generalize R.take 20 = M0 at hsp lM
      generalize R.drop 20 = R2 at hsp
      subst hsp
      simp only [List.length_append] at hlen
      obtain ⟨M, m1, m2, m3⟩ := insertion (P := D) (M := M0) (S := R2) (by simp; omega) (a := (D.length : Int)) (b := ((D.length + 20 : Nat) : Int)) rfl (by omega)
      have mL := m2.len
      refine ⟨(D ++ M ++ R2, ((D.length + 20 : Nat) : Int), ((D.length + 20 + 20 : Nat) : Int), ()), ?_, ⟨D ++ M, R2, ?_, .snoc D M hD (by omega) m1, ?_⟩, ?_, fun r h => h⟩
      · unfold spStep
        simp only [decide_eq_true (show ((D.length + 20 : Nat) : Int) ≤ (n : Int) by omega), cond_true, wb]
        rw [show D ++ (M0 ++ R2) = D ++ M0 ++ R2 from by simp, m3]
        rfl
      · have : (D ++ M).length = D.length + 20 := by simp; omega
        rw [this]
      · refine hst.trans ?_
        have := ((Stab.refl D).app m2).app (Stab.refl R2)
        simpa using this
      · show n - ((D.length + 20 : Nat) : Int).toNat < n - (D.length : Int).toNat
        omega
    · left
      obtain ⟨M, m1, m2, m3⟩ := insertion (P := D) (M := R) (S := []) (by simp; omega) (a := (D.length : Int)) (b := (n : Int)) rfl (by omega)
      simp only [List.append_nil] at m3
      have mL := m2.len
      obtain ⟨l', q1, q2, q3⟩ := so_ok (l := D ++ M) hn hb (hD.app (.last M (by omega) m1)) (hst.trans ((Stab.refl D).app m2))
      refine ⟨(l', ()), ?_, q1, q2⟩
      unfold spStep
      simp only [decide_eq_false (show ¬ ((D.length + 20 : Nat) : Int) ≤ (n : Int) by omega), cond_false, m3, Option.bind_some, q3]
      rfl
theorem sort_ok (l0 : List It) (hb : l0.length ≤ 100000000) : ∃ l', Srt l' ∧ Stab l0 l' ∧ F64a (l0, ()) = some (l', ()) := by
  obtain ⟨l', h1, h2, h3⟩ := stable_ok l0 hb
  exact ⟨l', h1, h2, by unfold F64a; simp only [h3, Option.bind_some]⟩
end Go.Proofs.Ytphdilmnielgeaa
