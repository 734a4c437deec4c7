/-
  order: the law of whatever is put and goes.
-/
import Derived.Test.YtgbmnillcdjdeaaOrderLawB
namespace Go.Proofs.Ytgbmnillcdjdeaa
open Go.Sx Go Classical
set_option maxRecDepth 10000
abbrev Pr : Type := KV (List UInt8) Int
theorem below_eq (l : List Pr) (k : List UInt8) (h : l.length ≤ 1000000000) : F32 (l, k, ()) = some (l.filter fun e => strlt e.1 k, ()) := by
  unfold F32
  refine Eq.trans (loop_filter (l := l) (p := fun e => strlt e.1 k) (by omega) (fun i a v hi ha => ?_) (fun a => ?_)) (by rw [List.nil_append])
  · have hlt := (List.getElem?_eq_some_iff.1 hi).1
    simp only [List.length_nil, Nat.zero_add] at ha
    simp only [lt_len, hlt, decide_true, cond_true, idx_nat, hi, Option.bind_some, wrap64_nat (show i < 9223372036854775807 by omega), appO_eq (l := a) (x := [v]) (by simp only [List.length_cons, List.length_nil]; simp only [capB]; omega)]
    cases strlt v.1 k <;> rfl
  · simp only [lt_len, Nat.lt_irrefl, decide_false, cond_false]
theorem refDel_eq (l : List Pr) (k : List UInt8) (h : l.length ≤ 1000000000) : F43 (l, k, ()) = some (delL strlt k l, ()) := by
  unfold F43 delL
  refine Eq.trans (loop_filter (l := l) (p := fun e => strlt e.1 k || strlt k e.1) (by omega) (fun i a v hi ha => ?_) (fun a => ?_)) (by rw [List.nil_append])
  · have hlt := (List.getElem?_eq_some_iff.1 hi).1
    simp only [List.length_nil, Nat.zero_add] at ha
    have e := ne_lt LO.str v.1 k
    simp only [lt_len, hlt, decide_true, cond_true, idx_nat, hi, Option.bind_some, wrap64_nat (show i < 9223372036854775807 by omega), appO_eq (l := a) (x := [v]) (by simp only [List.length_cons, List.length_nil]; simp only [capB]; omega), e]
    by_cases hk : v.1 = k <;> simp only [hk, decide_true, decide_false, Bool.not_true, Bool.not_false, cond_true, cond_false]
  · simp only [lt_len, Nat.lt_irrefl, decide_false, cond_false]
theorem refPut_eq (l : List Pr) (k : List UInt8) (v : Int) (h : l.length ≤ 100000) : F44 (l, k, v, ()) = some (putL strlt (k, v, ()) l, ()) := by
  unfold F44 putL
  have hb := List.length_filter_le (fun e : Pr => strlt e.1 k) l
  simp only [below_eq l k (show l.length ≤ 1000000000 by omega), Option.bind_some]
  rw [appO_eq (by simp only [List.length_cons, List.length_nil]; simp only [capB]; omega)]
  simp only [Option.bind_some]
  refine Eq.trans (loop_filter (l := l) (d := l.filter (fun e => strlt e.1 k) ++ [(k, v, ())]) (p := fun e => strlt k e.1) (by omega) (fun i a v hi ha => ?_) (fun a => ?_)) (by rw [List.append_assoc]; rfl)
  · have hlt := (List.getElem?_eq_some_iff.1 hi).1
    simp only [List.length_append, List.length_cons, List.length_nil] at ha
    simp only [lt_len, hlt, decide_true, cond_true, idx_nat, hi, Option.bind_some, wrap64_nat (show i < 9223372036854775807 by omega), appO_eq (l := a) (x := [v]) (by simp only [List.length_cons, List.length_nil]; simp only [capB]; omega), strlt_gt]
    cases strlt k v.1 <;> rfl
  · simp only [lt_len, Nat.lt_irrefl, decide_false, cond_false]
theorem refBetween_eq (l : List Pr) (a b : List UInt8) (h : l.length ≤ 1000000000) : F33 (l, a, b, ()) = some (l.filter fun e => !strlt e.1 a && strlt e.1 b, ()) := by
  unfold F33
  refine Eq.trans (loop_filter (l := l) (p := fun e => !strlt e.1 a && strlt e.1 b) (by omega) (fun i c v hi ha => ?_) (fun c => ?_)) (by rw [List.nil_append])
  · have hlt := (List.getElem?_eq_some_iff.1 hi).1
    simp only [List.length_nil, Nat.zero_add] at ha
    simp only [lt_len, hlt, decide_true, cond_true, idx_nat, hi, Option.bind_some, wrap64_nat (show i < 9223372036854775807 by omega), appO_eq (l := c) (x := [v]) (by simp only [List.length_cons, List.length_nil]; simp only [capB]; omega)]
    cases strlt v.1 a <;> cases strlt v.1 b <;> rfl
  · simp only [lt_len, Nat.lt_irrefl, decide_false, cond_false]
theorem refGet_eq (l : List Pr) (k : List UInt8) (h : l.length ≤ 1000000000) : F31 (l, k, ()) = some ((getL strlt k l).elim (0, false, ()) fun v => (v, true, ())) := by
  unfold F31 getL
  refine Eq.trans (loop_find (l := l) (p := fun e => !(strlt e.1 k || strlt k e.1)) (f := fun e => (e.2.1, true, ())) (r0 := (0, false, ())) (by omega) (fun i v hi => ?_) ?_) (by cases l.find? (fun e => !(strlt e.1 k || strlt k e.1)) <;> rfl)
  · have hlt := (List.getElem?_eq_some_iff.1 hi).1
    have e := ne_lt LO.str v.1 k
    simp only [lt_len, hlt, decide_true, cond_true, idx_nat, hi, Option.bind_some, wrap64_nat (show i < 9223372036854775807 by omega), e, Bool.not_not]
    cases decide (v.1 = k) <;> rfl
  · simp only [lt_len, Nat.lt_irrefl, decide_false, cond_false]
theorem same_self (l : List Pr) (h : l.length ≤ 1000000000) : F19 (l, l, ()) = some (true, ()) := by
  unfold F19
  simp only [decide_true, Bool.not_true, cond_false]
  refine loop_true (fun t => ∃ (k : Nat), k ≤ l.length ∧ t = ((k : Int), ())) (fun t => l.length - t.1.toNat) (fun t ht => ?_) ⟨0, Nat.zero_le _, rfl⟩ (by show l.length - 0 < _; omega)
  obtain ⟨k, hk, rfl⟩ := ht
  by_cases h : k < l.length
  · right
    simp only [lt_len, h, decide_true, cond_true, idx_nat, List.getElem?_eq_getElem h, Option.bind_some, Bool.not_true, cond_false, wrap64_nat (show k < 9223372036854775807 by omega)]
    exact ⟨_, rfl, ⟨k + 1, h, rfl⟩, by show l.length - (((k + 1 : Nat) : Int)).toNat < l.length - (k : Int).toNat; omega⟩
  · left
    have : k = l.length := by omega
    subst this
    simp only [lt_len, Nat.lt_irrefl, decide_false, cond_false]
abbrev Act : Type := Bool × List UInt8 × Int × Unit
theorem act_ex (m : TS) (n : Nat) (a : Act) (hm : MapI strlt m n) (hn : n ≤ 100000) : ∃ m', MapI strlt m' (n + 1) ∧ F18 ((m, ()), toL m, a, ()) = some ((m', ()), toL m', ()) := by
  obtain ⟨g, k, v, ⟨⟩⟩ := a
  have nm := hm.2.2
  unfold F18
  cases g with
  | true =>
    simp only [cond_true, ts_mdel m k hm.1 (show (toL m).length ≤ 1000000000 by omega), refDel_eq _ k (show (toL m).length ≤ 1000000000 by omega), Option.bind_some]
    have hg := getT_eq LO.str (x := k) hm.2.1
    cases hh : (tGet strlt k m).isSome with
    | true =>
      refine ⟨tDel strlt k m, (hm.del LO.str).mono (by omega), ?_⟩
      rw [cond_true, toL_del LO.str hm.1 hm.2.1]
    | false =>
      refine ⟨m, hm.mono (by omega), ?_⟩
      rw [cond_false, delL_none LO.str (by rw [← hg]; exact hh)]
  | false =>
    simp only [cond_false, ts_mput m k v hm.1 (show (toL m).length ≤ 1000000000 by omega), refPut_eq _ k v (show (toL m).length ≤ 100000 by omega), Option.bind_some]
    exact ⟨_, hm.put LO.str, by rw [toL_put LO.str hm.2.1]⟩
theorem few_ex (l : List Act) (hl : l.length ≤ 9223372036854775806) : ∃ b, F17 (l, ()) = some (b, ()) ∧ (b = true → l.length ≤ 300) := by
  unfold F17
  obtain ⟨r, h, hq⟩ := iter_inv (T := Int × Unit) (R := Bool × Unit) (step := fun (x_1 : Int × Unit) =>
      bif decide (x_1.fst < Int.ofNat (List.length l)) then
        bif decide (300 ≤ x_1.fst) then some (Sum.inr (false, ()))
        else
          Option.bind (idx l x_1.fst) fun (b : Act) =>
            bif decide (200 < Int.ofNat (List.length b.snd.fst)) then some (Sum.inr (false, ()))
            else some (Sum.inl (wrap64 (x_1.fst + 1), ()))
      else some (Sum.inr (true, ()))) (I := fun t => ∃ (i : Nat), i ≤ l.length ∧ i ≤ 300 ∧ t = ((i : Int), ())) (μ := fun t => l.length - t.1.toNat) (Q := fun _ r => r.1 = true → l.length ≤ 300) (fun t ht => by
        obtain ⟨i, hi, h3, rfl⟩ := ht
        by_cases h : i < l.length
        · simp only [lt_len, h, decide_true, cond_true, idx_nat, List.getElem?_eq_getElem h, Option.bind_some]
          by_cases hn : (300 : Int) ≤ (i : Int)
          · simp only [hn, decide_true, cond_true]
            exact .inl ⟨_, rfl, fun h => Bool.noConfusion h⟩
          · simp only [hn, decide_false, cond_false]
            cases decide (200 < Int.ofNat ((l[i]).2.1).length) with
            | true => exact .inl ⟨_, rfl, fun h => Bool.noConfusion h⟩
            | false =>
              right
              rw [wrap64_nat (show i < 9223372036854775807 by omega)]
              exact ⟨_, rfl, ⟨i + 1, h, by omega, rfl⟩, by simp only [Int.toNat_natCast]; omega, fun _ h => h⟩
        · left
          have : i = l.length := by omega
          subst this
          exact ⟨(true, ()), by simp [lt_len], fun _ => h3⟩) (n := big) (t := (0, ())) ⟨0, Nat.zero_le _, Nat.zero_le _, rfl⟩ (by rw [big_eq]; simp; omega)
  obtain ⟨b, ⟨⟩⟩ := r
  exact ⟨b, h, hq⟩
theorem law8 (x : (argTy P8).den) (hx : Fit47 (argTy P8) x) : F8 x = some (true, ()) := by
  obtain ⟨l, a, b, i, ⟨⟩⟩ : List Act × List UInt8 × List UInt8 × Int × Unit := x
  obtain ⟨⟨hl, -⟩, -⟩ := hx
  have hl' : l.length ≤ 140737488351232 := hl
  obtain ⟨fb, hf, hfl⟩ := few_ex l (by omega)
  unfold F8
  simp only [awake_eq, Option.bind_some, Bool.not_true, cond_false, hf]
  cases fb with
  | false => rfl
  | true =>
    have h300 := hfl rfl
    simp only [Bool.not_true, cond_false]
    refine loop_true (fun t => ∃ (k : Nat) (m : TS), k ≤ l.length ∧ MapI strlt m k ∧ t = (toL m, (k : Int), m, ())) (fun t => l.length - t.2.1.toNat) (fun t ht => ?_) ⟨0, .leaf, Nat.zero_le _, .leaf, rfl⟩ (by show l.length - 0 < _; omega)
    obtain ⟨k, m, hk, hm, rfl⟩ := ht
    have nm := hm.2.2
    by_cases h : k < l.length
    · right
      obtain ⟨m', hm', e⟩ := act_ex m k l[k] hm (by omega)
      have nm' := hm'.2.2
      have len := hm'.1.len
      have c0 : (toL m').length ≤ 1000000000 := by omega
      refine ⟨(toL m', ((k + 1 : Nat) : Int), m', ()), ?_, ⟨k + 1, m', h, hm', rfl⟩, by show l.length - (((k + 1 : Nat) : Int)).toNat < l.length - (k : Int).toNat; omega⟩
      have e1 : decide (cnt m' = Int.ofNat (toL m').length) = true := decide_eq_true (by rw [len]; rfl)
      have e2 : F23 ((m', ()), a, ()) = some (Int.ofNat ((toL m').filter fun e => strlt e.1 a).length, ()) := by
        rw [ts_mrank m' a hm'.1 c0, rankT_eq LO.str hm'.1 hm'.2.1]; rfl
      have e3 : F22 ((m', ()), a, b, ()) = some ((toL m').filter fun e => !strlt e.1 a && strlt e.1 b, ()) := by
        rw [ts_mbetween m' a b c0, walkT_eq LO.str hm'.2.1]
      have fl := List.length_filter_le (fun e : Pr => !strlt e.1 a && strlt e.1 b) (toL m')
      have e4 := same_self _ (Nat.le_trans fl c0)
      simp only [lt_len, h, decide_true, cond_true, idx_nat, List.getElem?_eq_getElem h, Option.bind_some, e, ts_mget m' a c0, getT_eq LO.str hm'.2.1, refGet_eq _ a c0, ts_mlen, e1, e2, below_eq _ a c0, e3, refBetween_eq _ a b c0, e4, BEq.rfl, Bool.not_true, cond_false, wrap64_nat (show k < 9223372036854775807 by omega), ts_mat m' i hm'.1 c0]
      by_cases hi : 0 ≤ i ∧ i < cnt m'
      · obtain ⟨n, rfl⟩ : ∃ n : Nat, i = (n : Int) := ⟨i.toNat, by omega⟩
        have hn : n < (toL m').length := by omega
        have i0 : decide ((0 : Int) ≤ (n : Int)) = true := decide_eq_true (by omega)
        simp only [hi, and_self, decide_true, cond_true, atT_eq n hm'.1, List.getElem?_eq_getElem hn, Option.map_some, Option.bind_some, i0, lt_len, hn, BEq.rfl, Bool.not_true, cond_false, idxN_nat _ _ hn, Sum.elim_inl]
      · have i1 : decide (i < Int.ofNat (toL m').length) = true → decide (0 ≤ i) = true → False := fun h1 h2 => by
          have h1 := of_decide_eq_true h1
          have h2 := of_decide_eq_true h2
          rw [ofNat_len] at h1
          omega
        simp only [hi, decide_false, cond_false, Option.bind_some]
        cases h0 : decide (0 ≤ i) with
        | true =>
          cases h1 : decide (i < Int.ofNat (toL m').length) with
          | true => exact (i1 h1 h0).elim
          | false => rfl
        | false => rfl
    · left
      have : k = l.length := by omega
      subst this
      simp only [lt_len, Nat.lt_irrefl, decide_false, cond_false]
      apply map_inr
      simp only [ts_mall m (show (toL m).length ≤ 1000000000 by omega), Option.bind_some, same_self _ (show (toL m).length ≤ 1000000000 by omega)]
end Go.Proofs.Ytgbmnillcdjdeaa
