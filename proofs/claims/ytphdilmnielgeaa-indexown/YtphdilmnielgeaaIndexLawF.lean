/-
  index: every act is answered alike; what an index's keys are.
-/
import Derived.Test.YtphdilmnielgeaaIndexLawE
namespace Go.Proofs.Ytphdilmnielgeaa
open Go.Sx Go Classical
set_option maxRecDepth 10000
theorem all_eq (m : TX) (n : Nat) (hI : Idx m n) (hn : n ≤ 1000) : F27 (((m, ()), ()), ()) = some (toL m, ()) := by
  have hll := hI.2.2.1
  unfold F27
  simp only [tx_mall m (show (toL m).length ≤ 1000000000 by omega), Option.bind_some]
  refine loop_true (fun t => ∃ (i : Nat), i ≤ (toL m).length ∧ t = (toL m, (i : Int), ())) (fun t => (toL m).length - t.2.1.toNat) (fun t ht => ?_) ⟨0, Nat.zero_le _, rfl⟩ (by show (toL m).length - 0 < _; omega)
  obtain ⟨i, hi, rfl⟩ := ht
  by_cases hlt : i < (toL m).length
  · right
    obtain ⟨v, hi'⟩ : ∃ v, (toL m)[i]? = some v := ⟨_, List.getElem?_eq_getElem hlt⟩
    obtain ⟨-, -, -, i4⟩ := hI.2.2.2 v (List.mem_of_getElem? hi')
    have hC : F57 v.2 = some (v.2.1, ()) := hClone_eq v.2.1 (by unfold Smal; omega)
    have hset : List.set (toL m) i (v.1, v.2.1, v.2.2) = toL m := by
      have := List.set_getElem_self hlt
      rw [(List.getElem?_eq_some_iff.1 hi').2] at this
      exact this
    refine ⟨(toL m, ((i + 1 : Nat) : Int), ()), ?_, ⟨i + 1, hlt, rfl⟩, by show (toL m).length - (((i + 1 : Nat) : Int)).toNat < (toL m).length - (i : Int).toNat; omega⟩
    simp only [lt_len, hlt, decide_true, cond_true, idxN_nat _ _ hlt, hi', Option.bind_some, hC, hset, wrap64_nat (show i < 9223372036854775807 by omega)]
  · left
    have : i = (toL m).length := by omega
    subst this
    simp only [lt_len, Nat.lt_irrefl, decide_false, cond_false]
theorem all_leaf : F27 (((.leaf, ()), ()), ()) = some ([], ()) := all_eq .leaf 0 (idx_leaf 0) (by omega)
theorem of_eq (m : TX) (n : Nat) (hI : Idx m n) (hn : n ≤ 1000) : F23 (((m, ()), ()), ()) = some (toL m, ()) := by
  have hll := hI.2.2.1
  unfold F23
  simp only [all_eq m n hI hn, Option.bind_some]
  refine Eq.trans (loop_gather (l := toL m) (d := []) (g := fun e => [e]) (K := fun a => some (a, ())) (by omega) (fun v => by simp) (fun i c v hi hc => ?_) (fun c _ => ?_)) ?_
  · have hlt := (List.getElem?_eq_some_iff.1 hi).1
    simp only [List.length_nil, Nat.zero_add] at hc
    simp only [lt_len, hlt, decide_true, cond_true, idxN_nat _ _ hlt, hi, Option.bind_some, appO_eq (l := c) (x := [(v.1, v.2)]) (by simp only [List.length_cons, List.length_nil]; simp only [capB]; omega), wrap64_nat (show i < 9223372036854775807 by omega)]
  · simp only [lt_len, Nat.lt_irrefl, decide_false, cond_false]; rfl
  · rw [List.nil_append, flatMap_map1, List.map_id']
theorem hsame_self (l : List VerD) (h : l.length ≤ 1000000) : F51 (l, l, ()) = some (true, ()) := by
  unfold F51
  simp only [decide_true, Bool.not_true, cond_false]
  refine loop_true (fun t => ∃ (k : Nat), k ≤ l.length ∧ t = ((k : Int), ())) (fun t => l.length - t.1.toNat) (fun t ht => ?_) ⟨0, Nat.zero_le _, rfl⟩ (by show l.length - 0 < _; omega)
  obtain ⟨k, hk, rfl⟩ := ht
  by_cases h : k < l.length
  · right
    simp only [lt_len, h, decide_true, cond_true, idx_nat, List.getElem?_eq_getElem h, Option.bind_some, BEq.rfl, Bool.and_self, Bool.not_true, cond_false, wrap64_nat (show k < 9223372036854775807 by omega)]
    exact ⟨_, rfl, ⟨k + 1, h, rfl⟩, by show l.length - (((k + 1 : Nat) : Int)).toNat < l.length - (k : Int).toNat; omega⟩
  · left
    have : k = l.length := by omega
    subst this
    simp only [lt_len, Nat.lt_irrefl, decide_false, cond_false]
theorem same_self (l : List KX) (n : Nat) (hI : IdxL l n) (hn : n ≤ 1000) : F22 (l, l, ()) = some (true, ()) := by
  have hll := hI.2.1
  unfold F22
  simp only [decide_true, Bool.not_true, cond_false]
  refine loop_true (fun t => ∃ (k : Nat), k ≤ l.length ∧ t = ((k : Int), ())) (fun t => l.length - t.1.toNat) (fun t ht => ?_) ⟨0, Nat.zero_le _, rfl⟩ (by show l.length - 0 < _; omega)
  obtain ⟨k, hk, rfl⟩ := ht
  by_cases h : k < l.length
  · right
    obtain ⟨v, hi'⟩ : ∃ v, l[k]? = some v := ⟨_, List.getElem?_eq_getElem h⟩
    obtain ⟨-, -, -, i4⟩ := hI.2.2 v (List.mem_of_getElem? hi')
    have hs : F51 (v.2.1, v.2) = some (true, ()) := hsame_self v.2.1 (by omega)
    simp only [lt_len, h, decide_true, cond_true, idx_nat, hi', Option.bind_some, hs, Bool.not_true, cond_false, wrap64_nat (show k < 9223372036854775807 by omega)]
    exact ⟨_, rfl, ⟨k + 1, h, rfl⟩, by show l.length - (((k + 1 : Nat) : Int)).toNat < l.length - (k : Int).toNat; omega⟩
  · left
    have : k = l.length := by omega
    subst this
    simp only [lt_len, Nat.lt_irrefl, decide_false, cond_false]
abbrev ActX : Type := UInt8 × List UInt8 × List UInt8 × Int × Int × List UInt8 × Int × VerD × Unit
theorem do_ex (m : TX) (n : Nat) (hI : Idx m n) (hn : n ≤ 1000) (a : ActX) (hk : a.2.1.length ≤ 100) (he : a.2.2.1.length ≤ 100) :
    ∃ m', Idx m' (n + 1) ∧ (intOf8 a.1 < 2 → ∀ r, r < a.2.2.2.1 → view r (toL m') = view r (toL m)) ∧ F21 (((m, ()), ()), toL m, a, ()) = some (((m', ()), ()), toL m', true, ()) := by
  obtain ⟨g, k, e, rev, mod, val, lease, v, ⟨⟩⟩ := a
  have hk : k.length ≤ 100 := hk
  have he : e.length ≤ 100 := he
  have same : Idx m (n + 1) := ⟨hI.1, hI.2.mono (by omega)⟩
  unfold F21
  have n10 : decide ((1 : Int) = 0) = false := by decide
  have l0 : decide (Int.ofNat ([] : List KX).length = 0) = true := by decide
  cases h0 : decide (intOf8 g = intOf8 (UInt8.ofNat 0)) with
  | true =>
    rcases put_ex m n hI hn (show k.length ≤ 140737488351232 by omega) rev mod val lease with ⟨m', g1, g2, g3, g4⟩ | ⟨g3, g4⟩
    · refine ⟨m', g1, fun _ r hr => g2 r hr, ?_⟩
      simp only [h0, cond_true, g3, g4, Option.bind_some, Sum.elim_inl, decide_true, BEq.rfl, Bool.not_true, cond_false]
    · refine ⟨m, same, fun _ _ _ => rfl, ?_⟩
      simp only [h0, cond_true, g3, g4, Option.bind_some, Sum.elim_inl, decide_true, BEq.rfl, Bool.not_true, Bool.not_false, cond_false, n10, all_leaf, l0]
  | false =>
  cases h1 : decide (intOf8 g = intOf8 (UInt8.ofNat 1)) with
  | true =>
    rcases del_ex m n hI hn (show k.length ≤ 140737488351232 by omega) (show e.length ≤ 140737488351232 by omega) rev mod with ⟨m', c, g1, g2, g3, g4⟩ | ⟨g3, g4⟩
    · refine ⟨m', g1, fun _ r hr => g2 r hr, ?_⟩
      simp only [h0, h1, cond_true, g3, g4, Option.bind_some, Sum.elim_inl, decide_true, BEq.rfl, Bool.not_true, cond_false]
    · refine ⟨m, same, fun _ _ _ => rfl, ?_⟩
      simp only [h0, h1, cond_true, g3, g4, Option.bind_some, Sum.elim_inl, decide_true, BEq.rfl, Bool.not_true, Bool.not_false, cond_false, n10, all_leaf, l0]
  | false =>
  have hno : ¬ intOf8 g < 2 := fun h => by
    have h0 := of_decide_eq_false h0
    have h1 := of_decide_eq_false h1
    simp only [intOf8] at h h0 h1
    have e0 : ((UInt8.ofNat 0).toNat : Int) = 0 := rfl
    have e1 : ((UInt8.ofNat 1).toNat : Int) = 1 := rfl
    omega
  cases h2 : decide (intOf8 g = intOf8 (UInt8.ofNat 2)) with
  | true =>
    rcases add_ex m n hI hn (show k.length ≤ 140737488351232 by omega) v with ⟨m', g1, g3, g4⟩ | ⟨g3, g4⟩
    · refine ⟨m', g1, fun h => absurd h hno, ?_⟩
      simp only [h0, h1, h2, cond_true, g3, g4, Option.bind_some, Sum.elim_inl, decide_true, BEq.rfl, Bool.not_true, cond_false]
    · refine ⟨m, same, fun _ _ _ => rfl, ?_⟩
      simp only [h0, h1, h2, cond_true, g3, g4, Option.bind_some, Sum.elim_inl, decide_true, BEq.rfl, Bool.not_true, Bool.not_false, cond_false, n10, all_leaf, l0]
  | false =>
  cases h3 : decide (intOf8 g = intOf8 (UInt8.ofNat 3)) with
  | true =>
    obtain ⟨m', g1, g3, g4⟩ := drop_ex m n hI hn (show k.length ≤ 140737488351232 by omega) (show e.length ≤ 140737488351232 by omega)
    refine ⟨m', ⟨g1.1, g1.2.mono (by omega)⟩, fun h => absurd h hno, ?_⟩
    simp only [h0, h1, h2, h3, cond_true, g3, g4, Option.bind_some, Sum.elim_inl, decide_true, BEq.rfl, Bool.not_true, cond_false]
  | false =>
    obtain ⟨m', g1, g3, g4⟩ := trim_ex m n hI hn rev
    refine ⟨m', g1, fun h => absurd h hno, ?_⟩
    simp only [h0, h1, h2, h3, cond_true, g3, g4, Option.bind_some, Sum.elim_inl, decide_true, BEq.rfl, Bool.not_true, cond_false]
theorem few_ex (l : List ActX) (N : Nat) (hN : N ≤ 1000) (hl : l.length ≤ 9223372036854775806) : ∃ b, F20 (l, (N : Int), ()) = some (b, ()) ∧ (b = true → l.length ≤ N ∧ ∀ a ∈ l, a.2.1.length ≤ 100 ∧ a.2.2.1.length ≤ 100) := by
  obtain ⟨r, h1, h2⟩ := iter_inv (T := Int × Unit) (R := Bool × Unit) (step := fun (x_1 : Int × Unit) =>
      bif decide (x_1.fst < Int.ofNat (List.length l)) then
        bif decide ((N : Int) ≤ x_1.fst) then some (Sum.inr (false, ()))
        else
          Option.bind (idx l x_1.fst) fun (b : ActX) =>
            bif decide (100 < Int.ofNat (List.length b.snd.snd.snd.snd.snd.fst)) then some (Sum.inr (false, ()))
            else
              Option.bind (idx l x_1.fst) fun (b : ActX) =>
                bif decide (100 < Int.ofNat (List.length b.snd.snd.snd.snd.snd.snd.snd.fst.snd.snd.snd.snd.fst)) then some (Sum.inr (false, ()))
                else
                  Option.bind (idx l x_1.fst) fun (b : ActX) =>
                    bif decide (100 < Int.ofNat (List.length b.snd.fst)) then some (Sum.inr (false, ()))
                    else
                      Option.bind (idx l x_1.fst) fun (b : ActX) =>
                        bif decide (100 < Int.ofNat (List.length b.snd.snd.fst)) then some (Sum.inr (false, ()))
                        else some (Sum.inl (wrap64 (x_1.fst + 1), ()))
      else some (Sum.inr (true, ()))) (I := fun t => ∃ (i : Nat), i ≤ l.length ∧ i ≤ N ∧ (∀ a ∈ l.take i, a.2.1.length ≤ 100 ∧ a.2.2.1.length ≤ 100) ∧ t = ((i : Int), ())) (μ := fun t => l.length - t.1.toNat) (Q := fun _ r => r.1 = true → l.length ≤ N ∧ ∀ a ∈ l, a.2.1.length ≤ 100 ∧ a.2.2.1.length ≤ 100) (fun t ht => by
        obtain ⟨i, hi, h3, h4, rfl⟩ := ht
        by_cases h : i < l.length
        · obtain ⟨v, hi'⟩ : ∃ v, l[i]? = some v := ⟨_, List.getElem?_eq_getElem h⟩
          simp only [lt_len, h, decide_true, cond_true, idx_nat, hi', Option.bind_some]
          by_cases hn : (N : Int) ≤ (i : Int)
          · simp only [hn, decide_true, cond_true]
            exact .inl ⟨_, rfl, fun h => Bool.noConfusion h⟩
          · simp only [hn, decide_false, cond_false]
            cases decide (100 < Int.ofNat (List.length v.snd.snd.snd.snd.snd.fst)) with
            | true => exact .inl ⟨_, rfl, fun h => Bool.noConfusion h⟩
            | false =>
            simp only [cond_false]
            cases decide (100 < Int.ofNat (List.length v.snd.snd.snd.snd.snd.snd.snd.fst.snd.snd.snd.snd.fst)) with
            | true => exact .inl ⟨_, rfl, fun h => Bool.noConfusion h⟩
            | false =>
            simp only [cond_false]
            by_cases c1 : 100 < v.2.1.length
            · have : decide (100 < Int.ofNat (List.length v.snd.fst)) = true := decide_eq_true (by rw [ofNat_len]; omega)
              simp only [this, cond_true]
              exact .inl ⟨_, rfl, fun h => Bool.noConfusion h⟩
            · have : decide (100 < Int.ofNat (List.length v.snd.fst)) = false := decide_eq_false (by rw [ofNat_len]; omega)
              simp only [this, cond_false]
              by_cases c2 : 100 < v.2.2.1.length
              · have : decide (100 < Int.ofNat (List.length v.snd.snd.fst)) = true := decide_eq_true (by rw [ofNat_len]; omega)
                simp only [this, cond_true]
                exact .inl ⟨_, rfl, fun h => Bool.noConfusion h⟩
              · have : decide (100 < Int.ofNat (List.length v.snd.snd.fst)) = false := decide_eq_false (by rw [ofNat_len]; omega)
                simp only [this, cond_false]
                right
                rw [wrap64_nat (show i < 9223372036854775807 by omega)]
                refine ⟨_, rfl, ⟨i + 1, h, by omega, fun a ha => ?_, rfl⟩, by simp only [Int.toNat_natCast]; omega, fun _ h => h⟩
                rw [List.take_add_one, hi', Option.toList_some] at ha
                rcases List.mem_append.1 ha with ha | ha
                · exact h4 a ha
                · obtain rfl := List.mem_singleton.1 ha
                  exact ⟨by omega, by omega⟩
        · left
          have : i = l.length := by omega
          subst this
          rw [List.take_length] at h4
          exact ⟨(true, ()), by simp [lt_len], fun _ => ⟨h3, h4⟩⟩) (n := big) (t := (0, ())) ⟨0, Nat.zero_le _, Nat.zero_le _, fun a ha => by simp at ha, rfl⟩ (by rw [big_eq]; simp; omega)
  obtain ⟨b, ⟨⟩⟩ := r
  exact ⟨b, h1, h2⟩
theorem made_ex (l : List ActX) (hl : l.length ≤ 1000) (hs : ∀ a ∈ l, a.2.1.length ≤ 100 ∧ a.2.2.1.length ≤ 100) : ∃ m, Idx m l.length ∧ F26 (l, ()) = some (((m, ()), ()), toL m, true, ()) := by
  unfold F26
  obtain ⟨r, h1, m, h2, h3⟩ := iter_inv (T := List KX × Int × (TX × Unit) × (TX × Unit) × Unit) (R := ((TX × Unit) × Unit) × List KX × Bool × Unit) (step := fun (x_1 : List KX × Int × (TX × Unit) × (TX × Unit) × Unit) =>
      bif decide (x_1.snd.fst < Int.ofNat (List.length l)) then
        Option.bind (idx l x_1.snd.fst) fun (b : ActX) =>
        Option.bind (F21 ((x_1.snd.snd.fst, ()), x_1.fst, b, ())) fun (b : ((TX × Unit) × Unit) × List KX × Bool × Unit) =>
        bif !b.snd.snd.fst then some (Sum.inr (b.fst, b.snd.fst, false, ()))
        else some (Sum.inl (b.snd.fst, wrap64 (x_1.snd.fst + 1), b.fst.fst, x_1.snd.snd.snd))
      else some (Sum.inr ((x_1.snd.snd.fst, ()), x_1.fst, true, ())))
    (I := fun t => ∃ (i : Nat) (m : TX), i ≤ l.length ∧ Idx m i ∧ t = (toL m, (i : Int), (m, ()), (.leaf, ()), ())) (μ := fun t => l.length - t.2.1.toNat) (Q := fun _ r => ∃ m, Idx m l.length ∧ r = (((m, ()), ()), toL m, true, ())) (fun t ht => by
      obtain ⟨i, m, hi, hm, rfl⟩ := ht
      by_cases hlt : i < l.length
      · right
        obtain ⟨v, hi'⟩ : ∃ v, l[i]? = some v := ⟨_, List.getElem?_eq_getElem hlt⟩
        obtain ⟨c1, c2⟩ := hs v (List.mem_of_getElem? hi')
        obtain ⟨m', g1, -, g2⟩ := do_ex m i hm (by omega) v c1 c2
        simp only [lt_len, hlt, decide_true, cond_true, idx_nat, hi', Option.bind_some, g2, Bool.not_true, cond_false, wrap64_nat (show i < 9223372036854775807 by omega)]
        exact ⟨_, rfl, ⟨i + 1, m', hlt, g1, rfl⟩, by simp only [Int.toNat_natCast]; omega, fun r hr => hr⟩
      · left
        have : i = l.length := by omega
        subst this
        simp only [lt_len, Nat.lt_irrefl, decide_false, cond_false]
        exact ⟨_, rfl, m, hm, rfl⟩) (n := big) (t := ([], 0, (.leaf, ()), (.leaf, ()), ())) ⟨0, .leaf, Nat.zero_le _, idx_leaf 0, rfl⟩ (by rw [big_eq]; show l.length - 0 < _; omega)
  subst h3
  exact ⟨m, h2, h1⟩
end Go.Proofs.Ytphdilmnielgeaa
