/-
  index: an Index never changes, whatever is derived from it and whatever is done to its results (IndexOwn).
-/
import Derived.Test.YtphdilmnielgeaaIndexLawL
namespace Go.Proofs.Ytphdilmnielgeaa
open Go.Sx Go Classical
set_option maxRecDepth 10000
theorem setSelf {α : Type} {l : List α} {i : Nat} {v : α} (h : l[i]? = some v) : l.set i v = l := by
  have hlt := (List.getElem?_eq_some_iff.1 h).1
  have := List.set_getElem_self hlt
  rwa [(List.getElem?_eq_some_iff.1 h).2] at this
theorem allz_eq (m : TX) (n : Nat) (hI : Idx m n) (hn : n ≤ 1000) : F27z (((m, ()), ()), ()) = some (toL m, ()) := by
  have hll := hI.2.2.1
  unfold F27z
  simp only [tx_mall m (show (toL m).length ≤ 1000000000 by omega), Option.bind_some]
  refine loop_true (fun t => ∃ (i : Nat), i ≤ (toL m).length ∧ t = ((toL m, (i : Int)), (i : Int), ())) (fun t => (toL m).length - t.2.1.toNat) (fun t ht => ?_) ⟨0, Nat.zero_le _, rfl⟩ (by show (toL m).length - 0 < _; omega)
  obtain ⟨i, hi, rfl⟩ := ht
  by_cases hlt : i < (toL m).length
  · right
    obtain ⟨v, hi'⟩ : ∃ v, (toL m)[i]? = some v := ⟨_, List.getElem?_eq_getElem hlt⟩
    obtain ⟨-, -, -, i4⟩ := hI.2.2.2 v (List.mem_of_getElem? hi')
    have hC : F57 (v.2.1, ()) = some (v.2.1, ()) := hClone_eq v.2.1 (by unfold Smal; omega)
    have hC' : F57 v.2 = some (v.2.1, ()) := hC
    have hset : List.set (toL m) i (v.1, v.2.1, v.2.2) = toL m := setSelf hi'
    refine ⟨((toL m, ((i + 1 : Nat) : Int)), ((i + 1 : Nat) : Int), ()), ?_, ⟨i + 1, hlt, rfl⟩, by show (toL m).length - (((i + 1 : Nat) : Int)).toNat < (toL m).length - (i : Int).toNat; omega⟩
    have e1 : decide (i ≤ i + 1) = true := decide_eq_true (by omega)
    simp only [lt_len, hlt, decide_true, cond_true, Go.Sx.idxN_nat _ _ hlt, hi', Option.bind_some, Int.toNat_natCast, Nat.le_refl, hC', hset, e1, wrap64_nat (show i < 9223372036854775807 by omega)]
    rfl
  · left
    have : i = (toL m).length := by omega
    subst this
    simp only [lt_len, Nat.lt_irrefl, decide_false, cond_false, Int.toNat_natCast, decide_true, cond_true]
    rfl
abbrev OwS : Type := (List KX × Int) × Int × Unit
/-- one key's versions are spoilt -/
noncomputable def ownIn (k len : Int) (x_3 : OwS) : Option (OwS ⊕ (OwS ⊕ (Bool × Unit))) :=
 bif decide (x_3.2.1 < len) then
 Option.bind (idxN x_3.1.1 k) fun (b : Nat) =>
 Option.bind x_3.1.1[b]? fun (b_2 : KX) =>
 bif decide (Int.toNat x_3.1.2 ≤ b) then
 Option.bind (idx b_2.2.1 x_3.2.1) fun (_z : T37D) => none
 else
 Option.bind (idxN b_2.2.1 x_3.2.1) fun (b_3 : Nat) =>
 Option.bind b_2.2.1[b_3]? fun (b_4 : T37D) =>
 Option.map Sum.inl
 (Option.bind x_3.1.1[b]? fun (b_5 : KX) =>
 some
 ((List.set x_3.1.1 b
 (b_5.1,
 List.set b_2.2.1 b_3
 (b_4.1, b_4.2.1, b_4.2.2.1,
 b_4.2.2.2.1,
 [99, 104, 97, 110, 103, 101, 100],
 b_4.2.2.2.2.2),
 b_5.2.2),
 Int.ofNat (Int.toNat x_3.1.2)),
 wrap64 (x_3.2.1 + 1), ()))
 else some (Sum.inr (Sum.inl ((x_3.1.1, Int.ofNat (Int.toNat x_3.1.2)), wrap64 (k + 1), ())))
noncomputable def ownOut (N : Int) (rest : Option (Bool × Unit)) (x : OwS) : Option (OwS ⊕ (Bool × Unit)) :=
 bif decide (x.2.1 < N) then
 Option.bind
 (Option.bind (idxN x.1.1 x.2.1) fun (b : Nat) =>
 Option.bind x.1.1[b]? fun (b_2 : KX) =>
 bif decide (Int.toNat x.1.2 ≤ b) then
 some (Sum.inl ((x.1.1, Int.ofNat (Int.toNat x.1.2)), Int.ofNat (List.length b_2.2.1), 0, ()))
 else
 Option.map Sum.inl
 (Option.bind x.1.1[b]? fun (b_3 : KX) =>
 some ((List.set x.1.1 b (b_3.1, b_2.2.1, b_3.2.2), Int.ofNat (Int.toNat x.1.2)), Int.ofNat (List.length b_2.2.1), 0, ())))
 fun (o : (List KX × Int) × Int × Int × Unit ⊕ (OwS ⊕ (Bool × Unit))) =>
 Sum.elim
 (fun (x_2 : (List KX × Int) × Int × Int × Unit) => iter (ownIn x.2.1 x_2.2.1) big ((x_2.1.1, Int.ofNat (Int.toNat x_2.1.2)), x_2.2.2))
 (fun (val : OwS ⊕ (Bool × Unit)) => some val)
 o
 else Option.map Sum.inr rest
theorem ownIn_ok {N k : Nat} {len : Nat} (hk : k < N) (hN : N ≤ 1000) (hlen : len ≤ 1000000) {L : List KX} (hL : L.length = N) {e : KX} (he : L[k]? = some e) (hel : e.2.1.length = len) (hall : ∀ e ∈ L, e.2.1.length ≤ 1000000) :
    ∃ L' : List KX, (L'.length = N ∧ ∀ e ∈ L', e.2.1.length ≤ 1000000) ∧ iter (ownIn (k : Int) (len : Int)) big ((L, (N : Int)), 0, ()) = some (.inl ((L', (N : Int)), ((k + 1 : Nat) : Int), ())) := by
  obtain ⟨r, h1, L', h2, h3⟩ := iter_inv (step := ownIn (k : Int) (len : Int)) (I := fun t => ∃ (L : List KX) (e : KX) (j : Nat), L.length = N ∧ L[k]? = some e ∧ e.2.1.length = len ∧ (∀ e ∈ L, e.2.1.length ≤ 1000000) ∧ j ≤ len ∧ t = ((L, (N : Int)), (j : Int), ()))
    (μ := fun t => len - t.2.1.toNat) (Q := fun _ r => ∃ L' : List KX, (L'.length = N ∧ ∀ e ∈ L', e.2.1.length ≤ 1000000) ∧ r = .inl ((L', (N : Int)), ((k + 1 : Nat) : Int), ()))
    (fun t ht => by
      obtain ⟨L, e, j, hL, he, hel, hall, hj, rfl⟩ := ht
      by_cases hlt : j < len
      · right
        obtain ⟨v, hv⟩ : ∃ v, e.2.1[j]? = some v := ⟨_, List.getElem?_eq_getElem (by omega)⟩
        have e1 : decide ((j : Int) < (len : Int)) = true := decide_eq_true (by omega)
        have e2 : decide (N ≤ k) = false := decide_eq_false (by omega)
        refine ⟨((L.set k (e.1, e.2.1.set j (v.1, v.2.1, v.2.2.1, v.2.2.2.1, [99, 104, 97, 110, 103, 101, 100], v.2.2.2.2.2), e.2.2), (N : Int)), ((j + 1 : Nat) : Int), ()), ?_, ⟨_, (e.1, e.2.1.set j (v.1, v.2.1, v.2.2.1, v.2.2.2.1, [99, 104, 97, 110, 103, 101, 100], v.2.2.2.2.2), e.2.2), j + 1, by rw [List.length_set]; exact hL, ?_, by rw [List.length_set]; exact hel, ?_, hlt, rfl⟩, by show len - (((j + 1 : Nat) : Int)).toNat < len - (j : Int).toNat; omega, fun r h => h⟩
        · unfold ownIn
          simp only [e1, cond_true, Go.Sx.idxN_nat L k (by omega), he, Option.bind_some, Int.toNat_natCast, e2, cond_false, Go.Sx.idxN_nat e.2.1 j (by omega), hv, Option.map_some, wrap64_nat (show j < 9223372036854775807 by omega)]
          rfl
        · rw [List.getElem?_set_self (by omega)]
        · intro e' he'
          rcases List.mem_or_eq_of_mem_set he' with h | rfl
          · exact hall e' h
          · simp only [List.length_set]; omega
      · left
        have : j = len := by omega
        subst this
        refine ⟨_, ?_, L, ⟨hL, hall⟩, rfl⟩
        unfold ownIn
        simp only [Int.lt_irrefl, decide_false, cond_false, Int.toNat_natCast, wrap64_nat (show k < 9223372036854775807 by omega)]
        rfl) (n := big) (t := ((L, (N : Int)), 0, ())) ⟨L, e, 0, hL, he, hel, hall, Nat.zero_le _, rfl⟩ (by rw [big_eq]; show len - 0 < _; omega)
  exact ⟨L', h2, by rw [h1, h3]⟩
theorem ownOut_ok {N : Nat} (hN : N ≤ 1000) {rest : Option (Bool × Unit)} {r : Bool × Unit} (hr : rest = some r) {L : List KX} (hL : L.length = N) (hall : ∀ e ∈ L, e.2.1.length ≤ 1000000) : iter (ownOut (N : Int) rest) big ((L, (N : Int)), 0, ()) = some r := by
  refine loop_true (fun t => ∃ (L : List KX) (k : Nat), L.length = N ∧ (∀ e ∈ L, e.2.1.length ≤ 1000000) ∧ k ≤ N ∧ t = ((L, (N : Int)), (k : Int), ())) (fun t => N - t.2.1.toNat) (fun t ht => ?_) ⟨L, 0, hL, hall, Nat.zero_le _, rfl⟩ (by show N - 0 < _; omega)
  obtain ⟨L, k, hL, hall, hk, rfl⟩ := ht
  by_cases hlt : k < N
  · right
    obtain ⟨e, he⟩ : ∃ e, L[k]? = some e := ⟨_, List.getElem?_eq_getElem (by omega)⟩
    obtain ⟨L', h1, h2⟩ := ownIn_ok hlt hN (hall e (List.mem_of_getElem? he)) hL he rfl hall
    refine ⟨((L', (N : Int)), ((k + 1 : Nat) : Int), ()), ?_, ⟨L', k + 1, h1.1, h1.2, hlt, rfl⟩, by show N - (((k + 1 : Nat) : Int)).toNat < N - (k : Int).toNat; omega⟩
    have e1 : decide ((k : Int) < (N : Int)) = true := decide_eq_true (by omega)
    have e2 : decide (N ≤ k) = false := decide_eq_false (by omega)
    have e3 : L.set k (e.1, e.2.1, e.2.2) = L := setSelf he
    unfold ownOut
    simp only [e1, cond_true, Go.Sx.idxN_nat L k (by omega), he, Option.bind_some, Int.toNat_natCast, e2, cond_false, e3, Option.map_some, Sum.elim_inl]
    exact h2
  · left
    have : k = N := by omega
    subst this
    unfold ownOut
    simp only [Int.lt_irrefl, decide_false, cond_false]
    exact map_inr hr
theorem law5 (x : (argTy P5).den) (hx : Fit47 (argTy P5) x) : F5 x = some (true, ()) := by
  obtain ⟨l, more, ⟨⟩⟩ : List ActX × List ActX × Unit := x
  obtain ⟨⟨hl, -⟩, ⟨hm, -⟩, -⟩ := hx
  have hl' : l.length ≤ 140737488351232 := hl
  have hm' : more.length ≤ 140737488351232 := hm
  obtain ⟨fb, hf, hfl⟩ := few_ex l 30 (by omega) (by omega)
  have hf : F20 (l, 30, ()) = some (fb, ()) := hf
  obtain ⟨gb, hg, hgl⟩ := few_ex more 30 (by omega) (by omega)
  have hg : F20 (more, 30, ()) = some (gb, ()) := hg
  unfold F5
  simp only [awake_eq, Option.bind_some, Bool.not_true, cond_false, hf]
  cases fb with
  | false => rfl
  | true =>
  simp only [Bool.not_true, cond_false, hg, Option.bind_some]
  cases gb with
  | false => rfl
  | true =>
  obtain ⟨h30, hs⟩ := hfl rfl
  obtain ⟨h30', hs2⟩ := hgl rfl
  obtain ⟨m, hI, e⟩ := made_ex l (by omega) hs
  simp only [Bool.not_true, cond_false, e, Option.bind_some]
  have hll := hI.2.2.1
  refine loop_true (fun t => ∃ (i : Nat) (y : TX), i ≤ more.length ∧ Idx y (30 + i) ∧ t = (toL y, (i : Int), (y, ()), ())) (fun t => more.length - t.2.1.toNat) (fun t ht => ?_) ⟨0, m, Nat.zero_le _, ⟨hI.1, hI.2.mono (by omega)⟩, rfl⟩ (by show more.length - 0 < _; omega)
  obtain ⟨i, y, hi, hy, rfl⟩ := ht
  by_cases hlt : i < more.length
  · right
    obtain ⟨v, hi'⟩ : ∃ v, more[i]? = some v := ⟨_, List.getElem?_eq_getElem hlt⟩
    obtain ⟨c1, c2⟩ := hs2 v (List.mem_of_getElem? hi')
    obtain ⟨y', g1, -, g2⟩ := do_ex y (30 + i) hy (by omega) v c1 c2
    refine ⟨(toL y', ((i + 1 : Nat) : Int), (y', ()), ()), ?_, ⟨i + 1, y', hlt, g1, rfl⟩, by show more.length - (((i + 1 : Nat) : Int)).toNat < more.length - (i : Int).toNat; omega⟩
    simp only [lt_len, hlt, decide_true, cond_true, idx_nat, hi', Option.bind_some, g2, Bool.not_true, cond_false, wrap64_nat (show i < 9223372036854775807 by omega)]
  · left
    have : i = more.length := by omega
    subst this
    simp only [lt_len, Nat.lt_irrefl, decide_false, cond_false]
    apply map_inr
    simp only [allz_eq m l.length hI (by omega), Option.bind_some]
    refine ownOut_ok (N := (toL m).length) (by omega) (r := (true, ())) ?_ rfl fun e he => by have := (hI.2.2.2 e he).2.2.2; omega
    simp only [of_eq m l.length hI (by omega), same_self _ l.length hI.2 (by omega), of_eq y (30 + more.length) hy (by omega), same_self _ (30 + more.length) hy.2 (by omega), Option.bind_some, cond_true]
    cases hq : toL m with
    | nil => rfl
    | cons e0 r0 =>
      have he := hI.2.2.2 e0 (by rw [hq]; simp)
      have h0 : decide (Int.ofNat (e0 :: r0).length = 0) = false := decide_eq_false (by rw [ofNat_len, List.length_cons]; omega)
      have hR : F28 e0.2 = some (decide (IsHist e0.2.1), ()) := rRight_eq e0.2.1 (by have := he.2.2.2; omega)
      simp only [h0, cond_false, idx_zero, List.getElem?_cons_zero, Option.bind_some, hR, decide_eq_true he.2.1]
end Go.Proofs.Ytphdilmnielgeaa
