/-
  The stable sort in place: what its helpers do. Swapped ranges, rotated ranges.
-/
import Derived.Test.YtphdilmnielgeaaIndexLawG
import Derived.Test.YtphdilmnielgeaaSxS
namespace Go.Proofs.Ytphdilmnielgeaa
open Go.Sx Go
set_option maxRecDepth 10000
abbrev It : Type := T66D
def K (x : It) : Int := x.2.1.1
theorem cmp_ex (a b : It) : ∃ c, F65 (a, b, ()) = some (c, ()) ∧ decide (c < 0) = decide (K a < K b) := by
  unfold F65 F66
  have hn : ∀ n : Int, F88 (n, ()) = some (false, ()) := fun n => by unfold F88; simp
  simp only [hn, Option.bind_some, cond_false]
  by_cases h1 : K a < K b
  · have h1' : a.2.1.1 < b.2.1.1 := h1
    exact ⟨-1, by simp [h1'], by simp [h1]⟩
  · have h1' : ¬ a.2.1.1 < b.2.1.1 := h1
    by_cases h2 : b.2.1.1 < a.2.1.1
    · exact ⟨1, by simp [h1', h2], by simp [h1]⟩
    · exact ⟨0, by simp [h1', h2], by simp [h1]⟩
theorem idxN_nat {α : Type} {l : List α} {i : Nat} (h : i < l.length) : idxN l (i : Int) = some i := by
  unfold idxN
  have : (0 : Int) ≤ (i : Int) ∧ (i : Int) < (l.length : Int) := ⟨by omega, by omega⟩
  simp only [this, and_self, decide_true, cond_true, Int.toNat_natCast]
theorem get_mid {α : Type} {P R : List α} {x : α} {n : Nat} (h : n = P.length) : (P ++ x :: R)[n]? = some x := by
  subst h; simp
theorem set_mid {α : Type} {P R : List α} {x y : α} {n : Nat} (h : n = P.length) : (P ++ x :: R).set n y = P ++ y :: R := by
  subst h; simp
theorem wi {x : Int} {n : Nat} (h : x = (n : Int)) (hn : n < 9223372036854775807) : wrap64 x = (n : Int) := by
  rw [wrap64_eq (by omega) (by omega), h]
/-- an element is read -/
theorem rd_mid {α β : Type} {P R : List α} {x : α} {i : Int} {n : Nat} {f : Nat → α → Option β} (hi : i = (n : Int)) (h : n = P.length) : (Option.bind (idxN (P ++ x :: R) i) fun b => Option.bind (P ++ x :: R)[b]? fun y => f b y) = f n x := by
  subst hi
  rw [idxN_nat (by simp; omega)]
  simp only [Option.bind_some, get_mid h]
noncomputable def swStep (a b n : Int) (x_1 : List It × Int × Unit) : Option ((List It × Int × Unit) ⊕ (List It × Unit)) :=
 bif decide (x_1.2.1 < n) then
 Option.bind (idxN x_1.1 (wrap64 (b + x_1.2.1))) fun (b_0 : Nat) =>
 Option.bind x_1.1[b_0]?
 fun (b_0 : T66D) =>
 Option.bind (idxN x_1.1 (wrap64 (a + x_1.2.1))) fun (b_1 : Nat) =>
 Option.bind x_1.1[b_1]?
 fun (b_2 : T66D) =>
 Option.bind (idxN x_1.1 (wrap64 (a + x_1.2.1))) fun (b_3 : Nat) =>
 Option.bind x_1.1[b_3]?
 fun (_z : T66D) =>
 Option.bind (idxN (List.set x_1.1 b_3 b_0) (wrap64 (b + x_1.2.1)))
 fun (b_4 : Nat) =>
 Option.bind (List.set x_1.1 b_3 b_0)[b_4]?
 fun (_z : T66D) =>
 some
 (Sum.inl
 (List.set (List.set x_1.1 b_3 b_0) b_4 b_2, wrap64 (x_1.2.1 + 1),
 ()))
 else some (Sum.inr (x_1.1, ()))
theorem sw_eq (l : List It) (a b n : Int) : F104a (l, a, b, n, ()) = iter (swStep a b n) big (l, 0, ()) := rfl
theorem sw_step {P A1 A2 Q B1 B2 S : List It} {u v : It} {a b n i : Nat} (ha : a = P.length) (hi : i = A1.length) (hi2 : i = B1.length) (hb : b = P.length + (A1.length + 1 + A2.length) + Q.length) (hn : i < n)
    (hl : (P ++ (B1 ++ u :: A2) ++ Q ++ (A1 ++ v :: B2) ++ S).length ≤ 100000000) :
    swStep a b n (P ++ (B1 ++ u :: A2) ++ Q ++ (A1 ++ v :: B2) ++ S, (i : Int), ()) = some (.inl (P ++ ((B1 ++ [v]) ++ A2) ++ Q ++ ((A1 ++ [u]) ++ B2) ++ S, ((i + 1 : Nat) : Int), ())) := by
  simp only [List.length_append, List.length_cons] at hl
  have e1 : P ++ (B1 ++ u :: A2) ++ Q ++ (A1 ++ v :: B2) ++ S = (P ++ B1) ++ u :: (A2 ++ Q ++ (A1 ++ v :: B2) ++ S) := by simp
  have e2 : P ++ (B1 ++ u :: A2) ++ Q ++ (A1 ++ v :: B2) ++ S = (P ++ (B1 ++ u :: A2) ++ Q ++ A1) ++ v :: (B2 ++ S) := by simp
  have e3 : (P ++ B1) ++ v :: (A2 ++ Q ++ (A1 ++ v :: B2) ++ S) = (P ++ (B1 ++ v :: A2) ++ Q ++ A1) ++ v :: (B2 ++ S) := by simp
  have w1 : wrap64 ((b : Int) + (i : Int)) = ((b + i : Nat) : Int) := wi (by omega) (by omega)
  have w2 : wrap64 ((a : Int) + (i : Int)) = ((a + i : Nat) : Int) := wi (by omega) (by omega)
  have n1 : b + i = (P ++ (B1 ++ u :: A2) ++ Q ++ A1).length := by simp; omega
  have n2 : a + i = (P ++ B1).length := by simp; omega
  have n3 : b + i = (P ++ (B1 ++ v :: A2) ++ Q ++ A1).length := by simp; omega
  unfold swStep
  have hn' : decide ((i : Int) < (n : Int)) = true := decide_eq_true (by omega)
  simp only [hn', cond_true, w1, w2, wrap64_nat (show i < 9223372036854775807 by omega)]
  rw [e2, rd_mid rfl n1, ← e2, e1, rd_mid rfl n2, rd_mid rfl n2, set_mid n2, e3, rd_mid rfl n3, set_mid n3]
  simp
theorem sw_loop {P Q S : List It} {a b n : Nat} (ha : a = P.length) : ∀ {A2 B2 A1 B1 : List It} {m : Nat}, A2.length = B2.length → A1.length = B1.length → n = A1.length + A2.length → b = P.length + n + Q.length →
    (P ++ (A1 ++ A2) ++ Q ++ (B1 ++ B2) ++ S).length ≤ 100000000 → A2.length < m →
    iter (swStep a b n) m (P ++ (B1 ++ A2) ++ Q ++ (A1 ++ B2) ++ S, (A1.length : Int), ()) = some (P ++ (B1 ++ B2) ++ Q ++ (A1 ++ A2) ++ S, ())
  | [], [], A1, B1, m + 1, _, h2, h3, h4, h5, h6 => by
    have hn' : decide ((A1.length : Int) < (n : Int)) = false := decide_eq_false (by simp at h3; omega)
    simp only [iter, swStep, hn', cond_false, Option.bind_some, Sum.elim_inr]
  | u :: A2, v :: B2, A1, B1, m + 1, h1, h2, h3, h4, h5, h6 => by
    simp only [List.length_cons] at h1 h3 h6
    simp only [iter]
    rw [sw_step ha rfl h2 (by omega) (by omega) (by simp only [List.length_append, List.length_cons] at h5 ⊢; omega)]
    simp only [Option.bind_some, Sum.elim_inl]
    have := sw_loop (P := P) (Q := Q) (S := S) (a := a) (b := b) (n := n) ha (A2 := A2) (B2 := B2) (A1 := A1 ++ [u]) (B1 := B1 ++ [v]) (m := m) (by omega) (by simp [h2]) (by simp; omega) h4 (by simp only [List.length_append, List.length_cons] at h5 ⊢; simp; omega) (by omega)
    simp only [List.length_append, List.length_singleton] at this
    rw [this]
    simp
  | [], _ :: _, _, _, _, h, _, _, _, _, _ => by simp at h
  | _ :: _, [], _, _, _, h, _, _, _, _, _ => by simp at h
theorem swap_range {P A Q B S : List It} (h : A.length = B.length) (hl : (P ++ A ++ Q ++ B ++ S).length ≤ 100000000) {a b n : Int} (ha : a = (P.length : Int)) (hb : b = ((P.length + A.length + Q.length : Nat) : Int)) (hn : n = (A.length : Int)) :
    F104a (P ++ A ++ Q ++ B ++ S, a, b, n, ()) = some (P ++ B ++ Q ++ A ++ S, ()) := by
  subst ha hb hn
  rw [sw_eq]
  have := sw_loop (P := P) (Q := Q) (S := S) (a := P.length) (b := P.length + A.length + Q.length) (n := A.length) rfl (A2 := A) (B2 := B) (A1 := []) (B1 := []) (m := big) h rfl (by simp) rfl (by simpa using hl) (by rw [big_eq]; simp only [List.length_append] at hl; omega)
  simpa using this
/-! ### rotated ranges -/
noncomputable def roStep (m : Int) (x_1 : List It × Int × Int × Unit) : Option ((List It × Int × Int × Unit) ⊕ (List It × Unit)) :=
 bif !decide (x_1.2.1 = x_1.2.2.1) then
 bif decide (x_1.2.2.1 < x_1.2.1) then
 Option.bind
 (F104a (x_1.1, wrap64 (m - x_1.2.1), m, x_1.2.2))
 fun (b : List T66D × Unit) =>
 some (Sum.inl (b.1, wrap64 (x_1.2.1 - x_1.2.2.1), x_1.2.2))
 else
 Option.bind
 (F104a
 (x_1.1, wrap64 (m - x_1.2.1),
 wrap64 (wrap64 (m + x_1.2.2.1) - x_1.2.1),
 x_1.2.1, ()))
 fun (b : List T66D × Unit) =>
 some (Sum.inl (b.1, x_1.2.1, wrap64 (x_1.2.2.1 - x_1.2.1), ()))
 else
 Option.map Sum.inr
 (Option.bind
 (F104a
 (x_1.1, wrap64 (m - x_1.2.1), m, x_1.2.1, ()))
 fun (b : List T66D × Unit) =>
 some b)
theorem ro_eq (l : List It) (a m b : Int) : F100a (l, a, m, b, ()) = iter (roStep m) big (l, wrap64 (m - a), wrap64 (b - m), ()) := rfl
theorem ro_loop {m : Nat} : ∀ (d : Nat) {P X Y S : List It} {k : Nat}, X.length + Y.length ≤ d → X ≠ [] → Y ≠ [] → m = P.length + X.length → (P ++ X ++ Y ++ S).length ≤ 100000000 → d < k →
    iter (roStep m) k (P ++ X ++ Y ++ S, (X.length : Int), (Y.length : Int), ()) = some (P ++ Y ++ X ++ S, ())
  | d, P, X, Y, S, 0, _, _, _, _, _, h => by omega
  | 0, P, X, Y, S, k + 1, h, hX, _, _, _, _ => by
    have : 0 < X.length := List.length_pos_iff.2 hX
    omega
  | d + 1, P, X, Y, S, k + 1, h, hX, hY, hm, hl, hk => by
    have pX : 0 < X.length := List.length_pos_iff.2 hX
    have pY : 0 < Y.length := List.length_pos_iff.2 hY
    have hl' := hl
    simp only [List.length_append] at hl'
    have w1 : wrap64 ((m : Int) - (X.length : Int)) = (P.length : Int) := wi (by omega) (by omega)
    simp only [iter]
    by_cases he : X.length = Y.length
    · have hd : (!decide ((X.length : Int) = (Y.length : Int))) = false := by simp [he]
      have sw := swap_range (P := P) (A := X) (Q := []) (B := Y) (S := S) he (by simpa using hl) (a := (P.length : Int)) (b := (m : Int)) (n := (X.length : Int)) rfl (by simp; omega) rfl
      simp only [List.append_nil] at sw
      simp only [roStep, hd, cond_false, w1, sw, Option.bind_some, Option.map_some, Sum.elim_inr]
    · have hd : (!decide ((X.length : Int) = (Y.length : Int))) = true := by simp; omega
      by_cases hlt : Y.length < X.length
      · have hd2 : decide ((Y.length : Int) < (X.length : Int)) = true := decide_eq_true (by omega)
        have hsp : X.take Y.length ++ X.drop Y.length = X := List.take_append_drop _ _
        have lA : (X.take Y.length).length = Y.length := by rw [List.length_take]; omega
        have l2 : (X.drop Y.length).length = X.length - Y.length := List.length_drop
        generalize X.take Y.length = A at hsp lA
        generalize X.drop Y.length = X2 at hsp l2
        subst hsp
        simp only [List.length_append] at *
        have sw := swap_range (P := P) (A := A) (Q := X2) (B := Y) (S := S) lA (by simp; omega) (a := (P.length : Int)) (b := (m : Int)) (n := (Y.length : Int)) rfl (by omega) (by omega)
        have e : P ++ (A ++ X2) ++ Y ++ S = P ++ A ++ X2 ++ Y ++ S := by simp
        have w3 : wrap64 (((A.length + X2.length : Nat) : Int) - (Y.length : Int)) = (X2.length : Int) := wi (by omega) (by omega)
        simp only [roStep, hd, hd2, cond_true, w1, e, sw, w3, Option.bind_some, Sum.elim_inl]
        have ih := ro_loop (m := m) d (P := P ++ Y) (X := X2) (Y := A) (S := S) (k := k) (by omega) (by intro h0; subst h0; simp at hlt; omega) (by intro h0; subst h0; simp at lA; omega) (by simp; omega) (by simp; omega) (by omega)
        rw [lA] at ih
        rw [ih]
        simp
      · have hd2 : decide ((Y.length : Int) < (X.length : Int)) = false := decide_eq_false (by omega)
        have hsp : Y.take (Y.length - X.length) ++ Y.drop (Y.length - X.length) = Y := List.take_append_drop _ _
        have l2 : (Y.take (Y.length - X.length)).length = Y.length - X.length := by rw [List.length_take]; omega
        have lB : (Y.drop (Y.length - X.length)).length = X.length := by rw [List.length_drop]; omega
        generalize Y.take (Y.length - X.length) = Y2 at hsp l2
        generalize Y.drop (Y.length - X.length) = B at hsp lB
        subst hsp
        simp only [List.length_append] at *
        have w2 : wrap64 (wrap64 ((m : Int) + ((Y2.length + B.length : Nat) : Int)) - (X.length : Int)) = ((P.length + X.length + Y2.length : Nat) : Int) := by
          have w2a : wrap64 ((m : Int) + ((Y2.length + B.length : Nat) : Int)) = ((m + (Y2.length + B.length) : Nat) : Int) := wi (by omega) (by omega)
          rw [w2a]
          exact wi (by omega) (by omega)
        have sw := swap_range (P := P) (A := X) (Q := Y2) (B := B) (S := S) (by omega) (by simp; omega) (a := (P.length : Int)) (b := ((P.length + X.length + Y2.length : Nat) : Int)) (n := (X.length : Int)) rfl rfl rfl
        have e : P ++ X ++ (Y2 ++ B) ++ S = P ++ X ++ Y2 ++ B ++ S := by simp
        have w3 : wrap64 (((Y2.length + B.length : Nat) : Int) - (X.length : Int)) = (Y2.length : Int) := wi (by omega) (by omega)
        simp only [roStep, hd, hd2, cond_true, cond_false, w1, w2, e, sw, w3, Option.bind_some, Sum.elim_inl]
        have ih := ro_loop (m := m) d (P := P) (X := B) (Y := Y2) (S := X ++ S) (k := k) (by omega) (by intro h0; subst h0; simp at lB; omega) (by intro h0; subst h0; simp at l2 he hlt; omega) (by omega) (by simp; omega) (by omega)
        rw [lB] at ih
        have e2 : P ++ B ++ Y2 ++ X ++ S = P ++ B ++ Y2 ++ (X ++ S) := by simp
        rw [e2, ih]
        simp
theorem rotate {P X Y S : List It} (hX : X ≠ []) (hY : Y ≠ []) (hl : (P ++ X ++ Y ++ S).length ≤ 100000000) {a m b : Int} (ha : a = (P.length : Int)) (hm : m = ((P.length + X.length : Nat) : Int)) (hb : b = ((P.length + X.length + Y.length : Nat) : Int)) :
    F100a (P ++ X ++ Y ++ S, a, m, b, ()) = some (P ++ Y ++ X ++ S, ()) := by
  subst ha hm hb
  have hl' := hl
  simp only [List.length_append] at hl'
  rw [ro_eq, wi (n := X.length) (by omega) (by omega), wi (n := Y.length) (by omega) (by omega)]
  exact ro_loop (m := P.length + X.length) (X.length + Y.length) (Nat.le_refl _) hX hY rfl hl (by rw [big_eq]; omega)
end Go.Proofs.Ytphdilmnielgeaa
