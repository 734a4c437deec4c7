/-
  The stable sort in place: two sorted neighbours made one.
-/
import Derived.Test.YtphdilmnielgeaaIndexSortC
namespace Go.Proofs.Ytphdilmnielgeaa
open Go.Sx Go
set_option maxRecDepth 10000
abbrev SortG : Type := List It × Int × Int × Int × Unit → Option (List It × Unit)
theorem sym_one {G : SortG} {P Y S : List It} {x : It} (hY : Srt Y) (hl : (P ++ [x] ++ Y ++ S).length ≤ 100000000) :
    SymOk ([x] ++ Y) P S (F96as G (P ++ [x] ++ Y ++ S, (P.length : Int), ((P.length + 1 : Nat) : Int), ((P.length + 1 + Y.length : Nat) : Int), ())) := by
  have hl' := hl
  simp only [List.length_append, List.length_cons, List.length_nil] at hl'
  have lP : (P ++ [x]).length = P.length + 1 := by simp
  have hx : (P ++ [x] ++ Y ++ S)[P.length]? = some x := by
    rw [show P ++ [x] ++ Y ++ S = P ++ x :: (Y ++ S) from by simp]; exact get_mid rfl
  generalize hL : P ++ [x] ++ Y ++ S = l at hx
  have hlen : l.length = P.length + 1 + Y.length + S.length := by rw [← hL]; simp; omega
  have w : wrap64 (((P.length + 1 : Nat) : Int) - (P.length : Int)) = 1 := wi (n := 1) (by omega) (by omega)
  have c : decide ((1 : Int) = 1) = true := rfl
  unfold F96as
  simp only [w, c, cond_true]
  refine bs_ex' (lo := P.length + 1) (hi := P.length + 1 + Y.length) (p := fun h => decide (Kat l h < K x)) rfl rfl (by omega) (by omega) (fun i j h1 h2 h3 hp => ?_) (fun i j h1 h2 h3 => ?_) (fun i h1 h2 h3 h4 => ?_)
  · have := srt_at (P := P ++ [x]) (S := S) hY (i := i) (j := j) (by omega) h2 (by omega)
    rw [hL] at this
    have hp := of_decide_eq_true hp
    exact decide_eq_true (by omega)
  · have hlt : (i + j) / 2 < l.length := by omega
    obtain ⟨v, hv⟩ : ∃ v, l[(i + j) / 2]? = some v := ⟨_, List.getElem?_eq_getElem hlt⟩
    obtain ⟨q, hq, hq2⟩ := cmp_ex v x
    have c1 : decide ((i : Int) < (j : Int)) = true := decide_eq_true (by omega)
    have w1 : wrap64 ((((i + j) / 2 : Nat) : Int) + 1) = (((i + j) / 2 + 1 : Nat) : Int) := wrap64_nat (by omega)
    simp only [c1, cond_true, half (show i + j < 4000000000 by omega), Option.bind_some, wn (show (i + j) / 2 < 9223372036854775807 by omega), idxN_nat hlt, hv, idxN_nat (show P.length < l.length by omega), hx, hq, hq2, w1, kat_some hv]
    cases decide (K v < K x) <;> rfl
  · obtain ⟨t, rfl⟩ : ∃ t, i = P.length + 1 + t := ⟨i - (P.length + 1), by omega⟩
    have ht : t ≤ Y.length := by omega
    have m1 : ∀ y ∈ Y.take t, K y < K x := at_mem (P := P ++ [x]) (S := S) ht fun j v j1 j2 hj => by
      rw [hL] at hj
      have := of_decide_eq_true (h3 j (by omega) (by omega))
      rwa [kat_some hj] at this
    have m2 : ∀ y ∈ Y.drop t, K x ≤ K y := at_mem' (P := P ++ [x]) (S := S) fun j v j1 j2 hj => by
      rw [hL] at hj
      have := of_decide_eq_false (h4 j (by omega) (by omega))
      rw [kat_some hj] at this
      omega
    have hsp : Y.take t ++ Y.drop t = Y := List.take_append_drop _ _
    have lY : (Y.take t).length = t := by rw [List.length_take]; omega
    generalize Y.take t = A at m1 hsp lY
    generalize Y.drop t = B at m2 hsp
    subst hsp
    obtain ⟨s1, s2, s3⟩ := Srt.app.1 hY
    have c1 : decide (((P.length + 1 + t : Nat) : Int) < ((P.length + 1 + t : Nat) : Int)) = false := decide_eq_false (by omega)
    have e : wrap64 (((P.length + 1 + t : Nat) : Int) - 1) = ((P.length + A.length : Nat) : Int) := wi (by omega) (by omega)
    have hL2 : l = P ++ x :: (A ++ (B ++ S)) := by rw [← hL]; simp
    refine ⟨some (P ++ (A ++ x :: B) ++ S, ()), ?_, A ++ x :: B, ⟨?_, ?_⟩, rfl⟩
    · simp only [c1, cond_false, e]
      have := mr_loop (T := B ++ S) (x := x) (e := ((P.length + A.length : Nat) : Int)) (Y := A) (P := P) (m := big) rfl (by rw [← hL2]; omega) (by rw [big_eq]; omega)
      rw [← hL2] at this
      refine congrArg (Option.map Sum.inr) (Eq.trans this ?_)
      simp
    · refine Srt.app.2 ⟨s1, (show Srt ([x] ++ B) from Srt.app.2 ⟨Srt.one x, s2, fun u hu v hv => by rw [List.mem_singleton.1 hu]; exact m2 v hv⟩), fun u hu v hv => ?_⟩
      · rcases List.mem_cons.1 hv with rfl | hv
        · exact Int.le_of_lt (m1 u hu)
        · exact s3 u hu v hv
    · have := (Stab.swap (X := [x]) (Y := A) fun u hu v hv e => by rw [List.mem_singleton.1 hu] at e; have := m1 v hv; omega).app (Stab.refl B)
      simpa using this
theorem sym_last {G : SortG} {P X S : List It} {y : It} (hX : Srt X) (h2 : 2 ≤ X.length) (hl : (P ++ X ++ [y] ++ S).length ≤ 100000000) :
    SymOk (X ++ [y]) P S (F96as G (P ++ X ++ [y] ++ S, (P.length : Int), ((P.length + X.length : Nat) : Int), ((P.length + X.length + 1 : Nat) : Int), ())) := by
  have hl' := hl
  simp only [List.length_append, List.length_cons, List.length_nil] at hl'
  have hy : (P ++ X ++ [y] ++ S)[P.length + X.length]? = some y := by
    rw [show P ++ X ++ [y] ++ S = (P ++ X) ++ y :: S from by simp]; exact get_mid (by simp)
  have hL : P ++ X ++ [y] ++ S = P ++ X ++ ([y] ++ S) := by simp
  have hL3 : P ++ X ++ [y] ++ S = P ++ X ++ y :: S := by simp
  generalize P ++ X ++ [y] ++ S = l at hy hL hL3 hl
  have hlen : l.length = P.length + X.length + 1 + S.length := by rw [hL]; simp; omega
  have w : wrap64 (((P.length + X.length : Nat) : Int) - (P.length : Int)) = ((X.length : Nat) : Int) := wi (by omega) (by omega)
  have c : decide (((X.length : Nat) : Int) = 1) = false := decide_eq_false (by omega)
  have w' : wrap64 (((P.length + X.length + 1 : Nat) : Int) - ((P.length + X.length : Nat) : Int)) = 1 := wi (n := 1) (by omega) (by omega)
  have c' : decide ((1 : Int) = 1) = true := rfl
  unfold F96as
  simp only [w, c, w', c', cond_true, cond_false]
  refine bs_ex' (lo := P.length) (hi := P.length + X.length) (p := fun h => !decide (K y < Kat l h)) rfl rfl (by omega) (by omega) (fun i j h1 h2 h3 hp => ?_) (fun i j h1 h2 h3 => ?_) (fun i h1 h2 h3 h4 => ?_)
  · have := srt_at (P := P) (S := [y] ++ S) hX (i := i) (j := j) (by omega) h2 (by omega)
    rw [← hL] at this
    simp at hp ⊢
    omega
  · have hlt : (i + j) / 2 < l.length := by omega
    obtain ⟨v, hv⟩ : ∃ v, l[(i + j) / 2]? = some v := ⟨_, List.getElem?_eq_getElem hlt⟩
    obtain ⟨q, hq, hq2⟩ := cmp_ex y v
    have c1 : decide ((i : Int) < (j : Int)) = true := decide_eq_true (by omega)
    have w1 : wrap64 ((((i + j) / 2 : Nat) : Int) + 1) = (((i + j) / 2 + 1 : Nat) : Int) := wrap64_nat (by omega)
    simp only [c1, cond_true, half (show i + j < 4000000000 by omega), Option.bind_some, wn (show (i + j) / 2 < 9223372036854775807 by omega), idxN_nat hlt, hv, idxN_nat (show P.length + X.length < l.length by omega), hy, hq, hq2, w1, kat_some hv]
    cases decide (K y < K v) <;> rfl
  · obtain ⟨t, rfl⟩ : ∃ t, i = P.length + t := ⟨i - P.length, by omega⟩
    have ht : t ≤ X.length := by omega
    have m1 : ∀ z ∈ X.take t, K z ≤ K y := at_mem (P := P) (S := [y] ++ S) ht fun j v j1 j2 hj => by
      rw [← hL] at hj
      have := h3 j (by omega) (by omega)
      simp only [kat_some hj] at this
      simp at this
      omega
    have m2 : ∀ z ∈ X.drop t, K y < K z := at_mem' (P := P) (S := [y] ++ S) fun j v j1 j2 hj => by
      rw [← hL] at hj
      have := h4 j (by omega) (by omega)
      simp only [kat_some hj] at this
      simpa using this
    have hsp : X.take t ++ X.drop t = X := List.take_append_drop _ _
    have lX : (X.take t).length = t := by rw [List.length_take]; omega
    generalize X.take t = A at m1 hsp lX
    generalize X.drop t = B at m2 hsp
    subst hsp
    have c1 : decide (((P.length + t : Nat) : Int) < ((P.length + t : Nat) : Int)) = false := decide_eq_false (by omega)
    obtain ⟨i1, i2⟩ := insert_ok hX m2 fun z hz => m1 z (List.mem_of_getLast? hz)
    refine ⟨some (P ++ (A ++ y :: B) ++ S, ()), ?_, A ++ y :: B, ⟨i1, i2⟩, rfl⟩
    simp only [c1, cond_false]
    have := ml_loop (P := P ++ A) (y := y) (e := ((P.length + t : Nat) : Int)) (by simp [lX]) B.length (X := B) (T := S) (m := big) rfl (by simp at hl' ⊢; omega) (by rw [big_eq]; simp at hl'; omega)
    have e1 : P ++ A ++ B ++ y :: S = l := by rw [hL3]; simp
    have e2 : (P ++ A).length + B.length = P.length + (A ++ B).length := by simp; omega
    rw [e1, e2] at this
    refine congrArg (Option.map Sum.inr) (Eq.trans this ?_)
    simp
end Go.Proofs.Ytphdilmnielgeaa
