/-
  The stable sort in place: halving, moving one element; two sorted neighbours of which one is a single element.
-/
import Derived.Test.YtphdilmnielgeaaIndexSortB
namespace Go.Proofs.Ytphdilmnielgeaa
open Go.Sx Go
set_option maxRecDepth 10000
def Kat (l : List It) (i : Nat) : Int := (l[i]?.map K).getD 0
theorem kat_some {l : List It} {i : Nat} {v : It} (h : l[i]? = some v) : Kat l i = K v := by simp [Kat, h]
theorem kat_in {P Y S : List It} {t : Nat} (h : t < Y.length) : (P ++ Y ++ S)[P.length + t]? = Y[t]? := by
  rw [List.append_assoc, List.getElem?_append_right (by omega), Nat.add_sub_cancel_left, List.getElem?_append_left h]
theorem srt_at {P Y S : List It} (hs : Srt Y) {i j : Nat} (h1 : P.length ≤ i) (h2 : i ≤ j) (h3 : j < P.length + Y.length) : Kat (P ++ Y ++ S) i ≤ Kat (P ++ Y ++ S) j := by
  obtain ⟨s, rfl⟩ : ∃ s, i = P.length + s := ⟨i - P.length, by omega⟩
  obtain ⟨t, rfl⟩ : ∃ t, j = P.length + t := ⟨j - P.length, by omega⟩
  have hs' : s < Y.length := by omega
  have ht' : t < Y.length := by omega
  rw [kat_some ((kat_in (S := S) hs').trans (List.getElem?_eq_getElem hs')), kat_some ((kat_in (S := S) ht').trans (List.getElem?_eq_getElem ht'))]
  rcases Nat.lt_or_ge s t with h | h
  · exact List.pairwise_iff_getElem.1 hs s t hs' ht' h
  · have : s = t := by omega
    subst this
    exact Int.le_refl _
/-- what is known of the places is known of the elements -/
theorem at_mem {P Y S : List It} {q : It → Prop} {n : Nat} (hn : n ≤ Y.length) (h : ∀ j v, P.length ≤ j → j < P.length + n → (P ++ Y ++ S)[j]? = some v → q v) : ∀ y ∈ Y.take n, q y := by
  intro y hy
  obtain ⟨t, ht, rfl⟩ := List.mem_take_iff_getElem.1 hy
  exact h (P.length + t) _ (by omega) (by omega) ((kat_in (by omega)).trans (List.getElem?_eq_getElem (by omega)))
theorem at_mem' {P Y S : List It} {q : It → Prop} {n : Nat} (h : ∀ j v, P.length + n ≤ j → j < P.length + Y.length → (P ++ Y ++ S)[j]? = some v → q v) : ∀ y ∈ Y.drop n, q y := by
  intro y hy
  obtain ⟨t, ht, rfl⟩ := List.mem_drop_iff_getElem.1 hy
  exact h (P.length + (n + t)) _ (by omega) (by omega) (by rw [kat_in (by omega), List.getElem?_eq_getElem (by omega)])
theorem half {i j : Nat} (h : i + j < 4000000000) : shrO IntKind.u64 (IntKind.wrap IntKind.u64 (wrap64 ((i : Int) + (j : Int)))) 1 = some (((i + j) / 2 : Nat) : Int) := by
  have w : wrap64 ((i : Int) + (j : Int)) = ((i + j : Nat) : Int) := wi (by omega) (by omega)
  have wu : IntKind.wrap IntKind.u64 (((i + j : Nat)) : Int) = ((i + j : Nat) : Int) := by
    simp only [IntKind.wrap, IntKind.bits, IntKind.signed]
    simp
    omega
  rw [w, wu]
  unfold shrO
  have e : min (1 : Int).toNat IntKind.u64.bits = 1 := rfl
  have e0 : decide ((1 : Int) < 0) = false := rfl
  rw [e0, e]
  simp only [cond_false]
  congr 1
  rw [Int.fdiv_eq_ediv_of_nonneg _ (by omega)]
  omega
theorem wn {n : Nat} (h : n < 9223372036854775807) : wrap64 (n : Int) = (n : Int) := wi rfl h
def SymOk (X P S : List It) (o : Option (List It × Unit)) : Prop := ∃ M, (Srt M ∧ Stab X M) ∧ o = some (P ++ M ++ S, ())
/-- a place is found by halving -/
theorem bs_ex {X P S : List It} {p : Nat → Bool} {step : (Int × Int × Unit) → Option ((Int × Int × Unit) ⊕ (List It × Unit))} {lo hi : Nat}
    (hmono : ∀ i j, lo ≤ i → i ≤ j → j < hi → p j = true → p i = true)
    (hstep : ∀ i j : Nat, lo ≤ i → i < j → j ≤ hi → step ((i : Int), (j : Int), ()) = some (.inl (bif p ((i + j) / 2) then ((((i + j) / 2 + 1 : Nat) : Int), (j : Int), ()) else ((i : Int), (((i + j) / 2 : Nat) : Int), ()))))
    (hend : ∀ i : Nat, lo ≤ i → i ≤ hi → (∀ j, lo ≤ j → j < i → p j = true) → (∀ j, i ≤ j → j < hi → p j = false) → ∃ kk, step ((i : Int), (i : Int), ()) = Option.map Sum.inr kk ∧ SymOk X P S kk) :
    ∀ (d : Nat) {i j m : Nat}, j - i ≤ d → lo ≤ i → i ≤ j → j ≤ hi → (∀ x, lo ≤ x → x < i → p x = true) → (∀ x, j ≤ x → x < hi → p x = false) → d < m → SymOk X P S (iter step m ((i : Int), (j : Int), ()))
  | d, i, j, 0, _, _, _, _, _, _, h => by omega
  | d, i, j, m + 1, hd, h1, h2, h3, h4, h5, hm => by
    rcases Nat.lt_or_ge i j with hlt | hge
    · obtain ⟨d', rfl⟩ : ∃ d', d = d' + 1 := ⟨d - 1, by omega⟩
      simp only [iter]
      rw [hstep i j h1 hlt h3]
      have b1 : i ≤ (i + j) / 2 := by omega
      have b2 : (i + j) / 2 < j := by omega
      cases hp : p ((i + j) / 2) with
      | true =>
        simp only [cond_true, Option.bind_some, Sum.elim_inl]
        exact bs_ex hmono hstep hend d' (by omega) (by omega) (by omega) h3 (fun x hx1 hx2 => hmono x _ hx1 (by omega) (by omega) hp) h5 (by omega)
      | false =>
        simp only [cond_false, Option.bind_some, Sum.elim_inl]
        refine bs_ex hmono hstep hend d' (by omega) h1 b1 (by omega) h4 (fun x hx1 hx2 => ?_) (by omega)
        cases hx : p x with
        | false => rfl
        | true => rw [hmono _ x (by omega) hx1 hx2 hx] at hp; exact Bool.noConfusion hp
    · have : i = j := by omega
      subst this
      obtain ⟨kk, k1, k2⟩ := hend i h1 h3 h4 h5
      simp only [iter, k1]
      cases kk with
      | none => obtain ⟨M, _, e⟩ := k2; cases e
      | some r => exact k2
theorem bs_ex' {X P S : List It} {p : Nat → Bool} {step : (Int × Int × Unit) → Option ((Int × Int × Unit) ⊕ (List It × Unit))} {lo hi : Nat} {a b : Int} (ha : a = (lo : Int)) (hb : b = (hi : Int)) (hle : lo ≤ hi) (hhi : hi < 1000000000)
    (hmono : ∀ i j, lo ≤ i → i ≤ j → j < hi → p j = true → p i = true)
    (hstep : ∀ i j : Nat, lo ≤ i → i < j → j ≤ hi → step ((i : Int), (j : Int), ()) = some (.inl (bif p ((i + j) / 2) then ((((i + j) / 2 + 1 : Nat) : Int), (j : Int), ()) else ((i : Int), (((i + j) / 2 : Nat) : Int), ()))))
    (hend : ∀ i : Nat, lo ≤ i → i ≤ hi → (∀ j, lo ≤ j → j < i → p j = true) → (∀ j, i ≤ j → j < hi → p j = false) → ∃ kk, step ((i : Int), (i : Int), ()) = Option.map Sum.inr kk ∧ SymOk X P S kk) :
    SymOk X P S (iter step big (a, b, ())) := by
  subst ha hb
  exact bs_ex hmono hstep hend (hi - lo) (Nat.le_refl _) (Nat.le_refl _) hle (Nat.le_refl _) (fun x h1 h2 => by omega) (fun x h1 h2 => by omega) (by rw [big_eq]; omega)
/-! ### one element moved -/
def mrStep (e : Int) (x : List It × Int × Unit) : Option ((List It × Int × Unit) ⊕ (List It × Unit)) :=
 bif decide (x.2.1 < e) then
 Option.bind (idxN x.1 (wrap64 (x.2.1 + 1))) fun (b : Nat) =>
 Option.bind x.1[b]?
 fun (b : T66D) =>
 Option.bind (idxN x.1 x.2.1) fun (b_1 : Nat) =>
 Option.bind x.1[b_1]?
 fun (b_2 : T66D) =>
 Option.bind (idxN x.1 x.2.1) fun (b_3 : Nat) =>
 Option.bind x.1[b_3]?
 fun
 (_z : T66D) =>
 Option.bind (idxN (List.set x.1 b_3 b) (wrap64 (x.2.1 + 1)))
 fun (b_4 : Nat) =>
 Option.bind (List.set x.1 b_3 b)[b_4]?
 fun
 (_z :
 T66D) =>
 some
 (Sum.inl
 (List.set (List.set x.1 b_3 b) b_4 b_2,
 wrap64 (x.2.1 + 1), ()))
 else some (Sum.inr (x.1, ()))
theorem mr_loop {T : List It} {x : It} {e : Int} : ∀ {Y P : List It} {m : Nat}, e = ((P.length + Y.length : Nat) : Int) → (P ++ x :: (Y ++ T)).length ≤ 100000000 → Y.length < m →
    iter (mrStep e) m (P ++ x :: (Y ++ T), (P.length : Int), ()) = some (P ++ Y ++ x :: T, ())
  | [], P, m + 1, he, _, _ => by
    have h0 : decide ((P.length : Int) < e) = false := decide_eq_false (by simp at he; omega)
    simp only [iter, mrStep, h0, cond_false, Option.bind_some, Sum.elim_inr, List.append_nil, List.nil_append]
  | y :: Y, P, m + 1, he, hl, hm => by
    simp only [List.length_append, List.length_cons] at he hl hm
    have h0 : decide ((P.length : Int) < e) = true := decide_eq_true (by omega)
    have w1 : wrap64 ((P.length : Int) + 1) = ((P.length + 1 : Nat) : Int) := wi (by omega) (by omega)
    have e1 : P ++ x :: (y :: Y ++ T) = (P ++ [x]) ++ y :: (Y ++ T) := by simp
    have n1 : P.length + 1 = (P ++ [x]).length := by simp
    have e3 : P ++ y :: (y :: Y ++ T) = (P ++ [y]) ++ y :: (Y ++ T) := by simp
    have n3 : P.length + 1 = (P ++ [y]).length := by simp
    have step : mrStep e (P ++ x :: (y :: Y ++ T), (P.length : Int), ()) = some (.inl ((P ++ [y]) ++ x :: (Y ++ T), ((P ++ [y]).length : Int), ())) := by
      unfold mrStep
      simp only [h0, cond_true, w1]
      rw [e1, rd_mid rfl n1, ← e1, rd_mid rfl rfl, rd_mid rfl rfl, set_mid rfl, e3, rd_mid rfl n3, set_mid n3]
      simp
    simp only [iter, step, Option.bind_some, Sum.elim_inl]
    rw [mr_loop (Y := Y) (P := P ++ [y]) (m := m) (by simp; omega) (by simp; omega) (by omega)]
    simp
def mlStep (e : Int) (x : List It × Int × Unit) : Option ((List It × Int × Unit) ⊕ (List It × Unit)) :=
 bif decide (e < x.2.1) then
 Option.bind (idxN x.1 (wrap64 (x.2.1 - 1))) fun (b : Nat) =>
 Option.bind x.1[b]?
 fun (b : T66D) =>
 Option.bind (idxN x.1 x.2.1) fun (b_1 : Nat) =>
 Option.bind x.1[b_1]?
 fun
 (b_2 : T66D) =>
 Option.bind (idxN x.1 x.2.1) fun (b_3 : Nat) =>
 Option.bind x.1[b_3]?
 fun
 (_z :
 T66D) =>
 Option.bind (idxN (List.set x.1 b_3 b) (wrap64 (x.2.1 - 1)))
 fun (b_4 : Nat) =>
 Option.bind (List.set x.1 b_3 b)[b_4]?
 fun
 (_z :
 T66D) =>
 some
 (Sum.inl
 (List.set (List.set x.1 b_3 b) b_4 b_2,
 wrap64 (x.2.1 - 1), ()))
 else some (Sum.inr (x.1, ()))
theorem ml_loop {P : List It} {y : It} {e : Int} (he : e = (P.length : Int)) : ∀ (d : Nat) {X T : List It} {m : Nat}, X.length = d → (P ++ X ++ y :: T).length ≤ 100000000 → d < m →
    iter (mlStep e) m (P ++ X ++ y :: T, ((P.length + d : Nat) : Int), ()) = some (P ++ y :: (X ++ T), ())
  | 0, X, T, m + 1, hd, _, _ => by
    have : X = [] := List.eq_nil_of_length_eq_zero hd
    subst this
    have h0 : decide (e < ((P.length + 0 : Nat) : Int)) = false := decide_eq_false (by omega)
    simp only [iter, mlStep, h0, cond_false, Option.bind_some, Sum.elim_inr, List.append_nil, List.nil_append]
  | d + 1, X, T, m + 1, hd, hl, hm => by
    obtain ⟨D, z, rfl⟩ : ∃ D z, X = D ++ [z] := by
      have hne : X ≠ [] := fun e => by subst e; simp at hd
      exact ⟨X.dropLast, X.getLast hne, (List.dropLast_concat_getLast hne).symm⟩
    simp only [List.length_append, List.length_cons, List.length_nil] at hd hl
    have h0 : decide (e < ((P.length + (d + 1) : Nat) : Int)) = true := decide_eq_true (by omega)
    have w1 : wrap64 (((P.length + (d + 1) : Nat) : Int) - 1) = ((P.length + d : Nat) : Int) := wi (by omega) (by omega)
    have e1 : P ++ (D ++ [z]) ++ y :: T = (P ++ D ++ [z]) ++ y :: T := by simp
    have e2 : P ++ (D ++ [z]) ++ y :: T = (P ++ D) ++ z :: (y :: T) := by simp
    have n1 : P.length + (d + 1) = (P ++ D ++ [z]).length := by simp; omega
    have n2 : P.length + d = (P ++ D).length := by simp; omega
    have e3 : (P ++ D ++ [z]) ++ z :: T = (P ++ D) ++ z :: (z :: T) := by simp
    have step : mlStep e (P ++ (D ++ [z]) ++ y :: T, ((P.length + (d + 1) : Nat) : Int), ()) = some (.inl (P ++ D ++ y :: (z :: T), ((P.length + d : Nat) : Int), ())) := by
      unfold mlStep
      simp only [h0, cond_true, w1]
      rw [e2, rd_mid rfl n2, ← e2, e1, rd_mid rfl n1, rd_mid rfl n1, set_mid n1, e3, rd_mid rfl n2, set_mid n2]
    simp only [iter, step, Option.bind_some, Sum.elim_inl]
    rw [ml_loop he d (X := D) (T := z :: T) (m := m) (by omega) (by simp; omega) (by omega)]
    simp
end Go.Proofs.Ytphdilmnielgeaa
