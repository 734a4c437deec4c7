/-
  order: the laws of depth, of numbers.
-/
import Derived.Test.YtgbmnillcdjdeaaOrderLawA
namespace Go.Proofs.Ytgbmnillcdjdeaa
open Go.Sx Go Classical
set_option maxRecDepth 10000
def digN : Nat → Nat
  | 0 => 0
  | n + 1 => digN ((n + 1) / 2) + 1
theorem digN_lt : ∀ n : Nat, n < 2 ^ digN n
  | 0 => by simp [digN]
  | n + 1 => by
    have := digN_lt ((n + 1) / 2)
    unfold digN
    rw [Nat.pow_succ]
    omega
theorem digN_le : ∀ n : Nat, digN n ≤ n
  | 0 => by simp [digN]
  | n + 1 => by
    have := digN_le ((n + 1) / 2)
    unfold digN
    omega
theorem digits_eq (n : Nat) (hn : n ≤ 1000000000) : F15 ((n : Int), ()) = some ((digN n : Int), ()) := by
  unfold F15
  have main : ∀ (m n d : Nat), n < m → n ≤ 1000000000 → d + n ≤ 1000000000 → iter (T := Int × Int × Unit) (R := Int × Unit) (fun (x : Int × Int × Unit) =>
      bif decide (0 < x.fst) then
        Option.bind (quoO IntKind.i64 x.fst 2) fun (b : Int) =>
          some (Sum.inl (b, wrap64 (x.snd.fst + 1), ()))
      else some (Sum.inr x.snd)) m ((n : Int), (d : Int), ()) = some (((digN n + d : Nat) : Int), ()) := by
    intro m
    induction m with
    | zero => intro n d h; omega
    | succ m ih =>
      intro n d h h1 h2
      cases n with
      | zero => rw [show digN 0 = 0 by simp [digN], Nat.zero_add]; rfl
      | succ n =>
        have e1 : decide ((0 : Int) < ((n + 1 : Nat) : Int)) = true := decide_eq_true (by omega)
        have e2 : quoO IntKind.i64 ((n + 1 : Nat) : Int) 2 = some (((n + 1) / 2 : Nat) : Int) := by
          unfold quoO
          have : decide ((2 : Int) = 0) = false := by decide
          have e : wrap64 (((n + 1) / 2 : Nat) : Int) = (((n + 1) / 2 : Nat) : Int) := wrap64_eq (by omega) (by omega)
          have e' : ((n + 1 : Nat) : Int).tdiv 2 = (((n + 1) / 2 : Nat) : Int) := rfl
          rw [this, e']
          show some (IntKind.wrap .i64 _) = _
          rw [show IntKind.wrap .i64 (((n + 1) / 2 : Nat) : Int) = _ from e]
        simp only [iter, e1, cond_true, e2, Option.bind_some, Sum.elim_inl, wrap64_nat (show d < 9223372036854775807 by omega)]
        rw [ih ((n + 1) / 2) (d + 1) (by omega) (by omega) (by omega)]
        have : digN (n + 1) = digN ((n + 1) / 2) + 1 := by rw [digN]
        rw [this, show digN ((n + 1) / 2) + (d + 1) = digN ((n + 1) / 2) + 1 + d by omega]
  have := main big n 0 (by rw [big_eq]; omega) hn (by omega)
  exact this
theorem wrap16 {x : Int} (h1 : 0 ≤ x) (h2 : x ≤ 65535) : IntKind.wrap .u16 x = x := by
  simp only [IntKind.wrap, IntKind.bits, IntKind.signed]
  simp
  omega
abbrev TU : Type := Tree Int Bool
theorem rem3001 (n : Int) (h0 : 0 ≤ n) (h1 : n ≤ 65535) : ∃ b : Nat, b ≤ 3000 ∧ remO n 3001 = some (b : Int) := by
  refine ⟨(n.tmod 3001).toNat, ?_, ?_⟩
  · have := Int.tmod_lt_of_pos n (show (0 : Int) < 3001 by decide)
    omega
  · have h : 0 ≤ n.tmod 3001 := Int.tmod_nonneg _ h0
    unfold remO
    have : decide ((3001 : Int) = 0) = false := by decide
    rw [this, Int.toNat_of_nonneg h]
    rfl
theorem law4 (x : (argTy P4).den) (hx : Fit47 (argTy P4) x) : F4 x = some (true, ()) := by
  obtain ⟨n, s, g, ⟨⟩⟩ : Int × Int × Int × Unit := x
  obtain ⟨⟨n0, n1⟩, -, ⟨g0, g1⟩, -⟩ := hx
  have n0' : 0 ≤ n := n0
  have n1' : n ≤ 65535 := n1
  have g0' : 0 ≤ g := g0
  have g1' : g ≤ 65535 := g1
  obtain ⟨b, hb, eb⟩ := rem3001 n n0' n1'
  obtain ⟨c, hc, ec⟩ := rem3001 g g0' g1'
  unfold F4
  simp only [awake_eq, Option.bind_some, Bool.not_true, cond_false, eb, ec]
  refine loop_true (fun t => ∃ (i : Nat) (k : Int) (m : TU), i ≤ b ∧ MapI ltI m i ∧ t = (k, (i : Int), m, ())) (fun t => b - t.2.1.toNat) (fun t ht => ?_) ⟨0, 0, .leaf, Nat.zero_le _, .leaf, rfl⟩ (by show b - 0 < _; omega)
  obtain ⟨i, k, m, hi, hm, rfl⟩ := ht
  have nm := hm.2.2
  by_cases h : i < b
  · right
    simp only [decide_eq_true (show (i : Int) < (b : Int) by omega), cond_true, tu_mput m _ true hm.1 (show (toL m).length ≤ 1000000000 by omega), Option.bind_some, wrap16 (show (0 : Int) ≤ (i : Int) + 1 by omega) (show (i : Int) + 1 ≤ 65535 by omega)]
    exact ⟨_, rfl, ⟨i + 1, _, _, h, hm.put LO.int, rfl⟩, by show b - ((i : Int) + 1).toNat < b - (i : Int).toNat; omega⟩
  · left
    simp only [decide_eq_false (show ¬ (i : Int) < (b : Int) by omega), cond_false]
    apply map_inr
    refine loop_true (fun t => ∃ (j : Nat) (k : Int) (m : TU), j ≤ c ∧ MapI ltI m i ∧ t = (k, (j : Int), m, ())) (fun t => c - t.2.1.toNat) (fun t ht => ?_) ⟨0, k, m, Nat.zero_le _, hm, rfl⟩ (by show c - 0 < _; omega)
    obtain ⟨j, k, m, hj, hm, rfl⟩ := ht
    have nm := hm.2.2
    by_cases h : j < c
    · right
      simp only [decide_eq_true (show (j : Int) < (c : Int) by omega), cond_true, tu_mdel m k hm.1 (show (toL m).length ≤ 1000000000 by omega), Option.bind_some, wrap16 (show (0 : Int) ≤ (j : Int) + 1 by omega) (show (j : Int) + 1 ≤ 65535 by omega)]
      refine ⟨_, rfl, ⟨j + 1, _, _, h, ?_, rfl⟩, by show c - ((j : Int) + 1).toNat < c - (j : Int).toNat; omega⟩
      cases (tGet ltI k m).isSome with
      | true => exact hm.del LO.int
      | false => exact hm
    · left
      simp only [decide_eq_false (show ¬ (j : Int) < (c : Int) by omega), cond_false]
      apply map_inr
      have len := hm.1.len
      have d0 := hm.1.dep0
      have dl := hm.1.dep_len
      have hd : F15 (cnt m, ()) = some ((digN (toL m).length : Int), ()) := by rw [len]; exact digits_eq _ (by omega)
      have dn := digN_le (toL m).length
      have key : dep m ≤ 2 * (digN (toL m).length : Int) := by
        by_cases hh : dep m ≤ 2 * (digN (toL m).length : Int)
        · exact hh
        · have h1 := hm.1.many (digN (toL m).length) (by omega)
          have h2 := digN_lt (toL m).length
          omega
      simp only [tu_mdeep, tu_mlen, Option.bind_some, hd, wrap64_eq (show -9223372036854775808 ≤ 2 * (digN (toL m).length : Int) by omega) (show 2 * (digN (toL m).length : Int) ≤ 9223372036854775807 by omega), decide_eq_true d0, decide_eq_true key, cond_true]
      have : decide (0 < cnt m) = decide (0 < dep m) := by
        cases m with
        | leaf => rfl
        | node k v l h n d =>
          have h1 := hm.1.dep1
          simp only [toL, List.length_append, List.length_cons] at len
          rw [decide_eq_true (show 0 < cnt (Tree.node k v l h n d) by omega), decide_eq_true (show (0 : Int) < dep (Tree.node k v l h n d) by rw [dep_node]; omega)]
      rw [this, BEq.rfl]
abbrev TI : Type := Tree Int (List UInt8)
theorem putL_has {V : Type} (q : Int) (p : KV Int V) (A : List (KV Int V)) : (getL ltI q (putL ltI p A)).isSome = (bif (getL ltI q A).isSome then true else decide (p.1 = q)) := by
  have h1 := getL_some (V := V) LO.int (x := q) (l := putL ltI p A)
  have h2 := getL_some (V := V) LO.int (x := q) (l := A)
  have : (∃ e ∈ putL ltI p A, e.1 = q) ↔ (∃ e ∈ A, e.1 = q) ∨ p.1 = q := by
    constructor
    · rintro ⟨e, he, h⟩
      rcases (mem_putL LO.int).1 he with rfl | ⟨h1, _⟩
      · exact .inr h
      · exact .inl ⟨e, h1, h⟩
    · rintro (⟨e, he, h⟩ | h)
      · by_cases hk : e.1 = p.1
        · exact ⟨_, (mem_putL LO.int).2 (.inl rfl), by rw [← h, hk]⟩
        · exact ⟨e, (mem_putL LO.int).2 (.inr ⟨he, hk⟩), h⟩
      · exact ⟨_, (mem_putL LO.int).2 (.inl rfl), h⟩
  rw [Bool.eq_iff_iff, h1, this, ← h2]
  cases (getL ltI q A).isSome with
  | true => simp
  | false => simp
theorem law7 (x : (argTy P7).den) : F7 x = some (true, ()) := by
  obtain ⟨l, q, ⟨⟩⟩ : List Int × Int × Unit := x
  unfold F7
  simp only [awake_eq, Option.bind_some, Bool.not_true, cond_false]
  by_cases h200 : (200 : Int) < Int.ofNat l.length
  · simp only [h200, decide_true, cond_true]
  have hl : l.length ≤ 200 := by rw [ofNat_len] at h200; omega
  simp only [h200, decide_false, cond_false]
  refine loop_true (fun t => ∃ (i : Nat) (m : TI), i ≤ l.length ∧ MapI ltI m i ∧ t = ((((toL m).filter fun e => ltI e.1 q).length : Int), (getL ltI q (toL m)).isSome, (i : Int), m, ())) (fun t => l.length - t.2.2.1.toNat) (fun t ht => ?_) ⟨0, .leaf, Nat.zero_le _, .leaf, ?_⟩ (by show l.length - 0 < _; omega)
  rotate_left
  · rfl
  obtain ⟨i, m, hi, hm, rfl⟩ := ht
  have nm := hm.2.2
  have fl := List.length_filter_le (fun e => ltI e.1 q) (toL m)
  have tget : ∀ k : Int, F24 ((m, ()), k, ()) = some ((getL ltI k (toL m)).elim ([], false, ()) fun v => (v, true, ())) := fun k => by
    rw [ti_mget m k (by omega), getT_eq LO.int hm.2.1]
  by_cases h : i < l.length
  · right
    have e1 : decide (l[i] < q) = ltI l[i] q := rfl
    simp only [lt_len, h, decide_true, cond_true, idx_nat, List.getElem?_eq_getElem h, Option.bind_some, tget, wrap64_nat (show i < 9223372036854775807 by omega), e1, ti_mput m _ _ hm.1 (show (toL m).length ≤ 1000000000 by omega)]
    have cn := putL_count LO.int (fun k => ltI k q) (p := (l[i], [120], ())) hm.2.1
    have en : (bif (getL ltI q (toL m)).isSome then true else decide (l[i] = q)) = (getL ltI q (toL (tPut ltI (l[i], [120], ()) m))).isSome := by
      rw [toL_put LO.int hm.2.1]; exact (putL_has q (l[i], [120], ()) (toL m)).symm
    have fin : ∀ (b : Bool) (w : Int), b = (getL ltI q (toL m)).isSome → w = (((toL (tPut ltI (l[i], [120], ()) m)).filter fun e => ltI e.1 q).length : Int) →
        (bif b then some (Sum.inl (β := Bool × Unit) (w, true, ((i + 1 : Nat) : Int), tPut ltI (l[i], [120], ()) m, ())) else some (Sum.inl (w, decide (l[i] = q), ((i + 1 : Nat) : Int), tPut ltI (l[i], [120], ()) m, ()))) = some (Sum.inl ((((toL (tPut ltI (l[i], [120], ()) m)).filter fun e => ltI e.1 q).length : Int), (getL ltI q (toL (tPut ltI (l[i], [120], ()) m))).isSome, ((i + 1 : Nat) : Int), tPut ltI (l[i], [120], ()) m, ())) := fun b w hb hw => by
      have := en
      rw [← hb] at this
      subst hw
      cases b with
      | true => simp only [cond_true] at this ⊢; rw [← this]
      | false => simp only [cond_false] at this ⊢; rw [← this]
    refine ⟨_, ?_, ⟨i + 1, tPut ltI (l[i], [120], ()) m, h, hm.put LO.int, rfl⟩, by show l.length - (((i + 1 : Nat) : Int)).toNat < l.length - (i : Int).toNat; omega⟩
    rw [toL_put LO.int hm.2.1, cn]
    rw [toL_put LO.int hm.2.1] at fin
    rw [cn] at fin
    cases hg : getL ltI l[i] (toL m) with
    | some v =>
      rw [hg] at fin
      simp only [Option.elim_some, Bool.not_true, cond_false, Option.bind_some, Sum.elim_inl, Option.isSome_some, cond_true, Nat.add_zero] at fin ⊢
      exact fin _ _ rfl rfl
    | none =>
      rw [hg] at fin
      simp only [Option.elim_none, Bool.not_false, cond_true, Option.isSome_none, cond_false] at fin ⊢
      cases hq : ltI l[i] q with
      | true =>
        rw [hq] at fin
        simp only [cond_true, Option.bind_some, Sum.elim_inl] at fin ⊢
        rw [wrap64_eq (by omega) (by omega)]
        exact fin _ _ rfl rfl
      | false =>
        rw [hq] at fin
        simp only [cond_false, Option.bind_some, Sum.elim_inl, Nat.add_zero] at fin ⊢
        exact fin _ _ rfl rfl
  · left
    have : i = l.length := by omega
    subst this
    simp only [lt_len, Nat.lt_irrefl, decide_false, cond_false]
    apply map_inr
    simp only [tget, Option.bind_some, ti_mall m (show (toL m).length ≤ 1000000000 by omega)]
    refine loop_true (fun t => ∃ (k : Nat), k ≤ (toL m).length ∧ t = ((k : Int), ())) (fun t => (toL m).length - t.1.toNat) (fun t ht => ?_) ⟨0, Nat.zero_le _, rfl⟩ (by show (toL m).length - 0 < _; omega)
    obtain ⟨k, hk, rfl⟩ := ht
    by_cases h : k < (toL m).length
    · right
      refine ⟨(((k + 1 : Nat) : Int), ()), ?_, ⟨k + 1, h, rfl⟩, by show (toL m).length - (((k + 1 : Nat) : Int)).toNat < (toL m).length - (k : Int).toNat; omega⟩
      simp only [lt_len, h, decide_true, cond_true, wrap64_nat (show k < 9223372036854775807 by omega)]
      cases k with
      | zero => rfl
      | succ k =>
        have e1 : wrap64 (((k + 1 : Nat) : Int) - 1) = (k : Int) := by rw [wrap64_eq (by omega) (by omega)]; omega
        have h0 : k < (toL m).length := by omega
        have hs := List.pairwise_iff_getElem.1 hm.2.1 k (k + 1) h0 h (by omega)
        have hs' : (toL m)[k].1 < (toL m)[k + 1].1 := of_decide_eq_true hs
        simp only [decide_eq_true (show (0 : Int) < ((k + 1 : Nat) : Int) by omega), cond_true, e1, idxN_nat _ _ h0, idxN_nat _ _ h, List.getElem?_eq_getElem h0, List.getElem?_eq_getElem h, Option.bind_some, decide_eq_false (show ¬ (toL m)[k + 1].1 ≤ (toL m)[k].1 by omega), cond_false]
    · left
      have : k = (toL m).length := by omega
      subst this
      simp only [lt_len, Nat.lt_irrefl, decide_false, cond_false]
      apply map_inr
      have len := hm.1.len
      have e2 : ((getL ltI q (toL m)).elim (([], false, ()) : List UInt8 × Bool × Unit) fun v => (v, true, ())).2.1 = (getL ltI q (toL m)).isSome := by
        cases getL ltI q (toL m) <;> rfl
      simp only [ti_mrank m q hm.1 (show (toL m).length ≤ 1000000000 by omega), rankT_eq LO.int hm.1 hm.2.1, Option.bind_some, decide_true, cond_true, e2, BEq.rfl, ti_mdel m q hm.1 (show (toL m).length ≤ 1000000000 by omega), ti_mlen]
      have e3 : cnt (bif (tGet ltI q m).isSome then tDel ltI q m else m) ≤ cnt m := by
        cases (tGet ltI q m).isSome with
        | true => have h1 := (hm.del LO.int (x := q)).1.len; have h2 := tDel_len (lt := ltI) (x := q) hm.1; simp only [cond_true]; omega
        | false => exact Int.le_refl _
      rw [decide_eq_true e3, decide_eq_true (show Int.ofNat (toL m).length = cnt m by rw [len]; rfl)]
      rfl
end Go.Proofs.Ytgbmnillcdjdeaa
