/-
  order: the law of maps that stay what they were.
-/
import Derived.Test.YtgbmnillcdjdeaaOrderLawC
namespace Go.Proofs.Ytgbmnillcdjdeaa
open Go.Sx Go Classical
set_option maxRecDepth 10000
theorem law5 (x : (argTy P5).den) (hx : Fit47 (argTy P5) x) : F5 x = some (true, ()) := by
  obtain ⟨l, mo, ⟨⟩⟩ : List Act × List Act × Unit := x
  obtain ⟨⟨hl, -⟩, ⟨hm, -⟩, -⟩ := hx
  have hl' : l.length ≤ 140737488351232 := hl
  have hm' : mo.length ≤ 140737488351232 := hm
  obtain ⟨fb, hf, hfl⟩ := few_ex l (by omega)
  obtain ⟨fc, hg, hgl⟩ := few_ex mo (by omega)
  unfold F5
  simp only [awake_eq, Option.bind_some, Bool.not_true, cond_false, hf]
  cases fb with
  | false => rfl
  | true =>
  simp only [Bool.not_true, cond_false, hg, Option.bind_some]
  cases fc with
  | false => rfl
  | true =>
  have h300 := hfl rfl
  have g300 := hgl rfl
  simp only [Bool.not_true, cond_false]
  refine loop_true (fun t => ∃ (k : Nat) (m : TS), k ≤ l.length ∧ MapI strlt m k ∧ t = (toL m, (k : Int), m, ())) (fun t => l.length - t.2.1.toNat) (fun t ht => ?_) ⟨0, .leaf, Nat.zero_le _, .leaf, rfl⟩ (by show l.length - 0 < _; omega)
  obtain ⟨k, m, hk, hm, rfl⟩ := ht
  have nm := hm.2.2
  by_cases h : k < l.length
  · right
    obtain ⟨m', hm', e⟩ := act_ex m k l[k] hm (by omega)
    refine ⟨(toL m', ((k + 1 : Nat) : Int), m', ()), ?_, ⟨k + 1, m', h, hm', rfl⟩, by show l.length - (((k + 1 : Nat) : Int)).toNat < l.length - (k : Int).toNat; omega⟩
    simp only [lt_len, h, decide_true, cond_true, idx_nat, List.getElem?_eq_getElem h, Option.bind_some, e, wrap64_nat (show k < 9223372036854775807 by omega)]
  · left
    have : k = l.length := by omega
    subst this
    simp only [lt_len, Nat.lt_irrefl, decide_false, cond_false]
    apply map_inr
    have cm : (toL m).length ≤ 1000000000 := by omega
    refine loop_true (fun t => ∃ (j : Nat) (n : TS), j ≤ mo.length ∧ MapI strlt n (l.length + j) ∧ t = (toL m, toL n, (j : Int), n, ())) (fun t => mo.length - t.2.2.1.toNat) (fun t ht => ?_) ⟨0, m, Nat.zero_le _, hm, rfl⟩ (by show mo.length - 0 < _; omega)
    obtain ⟨j, n, hj, hn, rfl⟩ := ht
    have nn := hn.2.2
    have cn : (toL n).length ≤ 1000000000 := by omega
    by_cases h : j < mo.length
    · right
      obtain ⟨n', hn', e⟩ := act_ex n (l.length + j) mo[j] hn (by omega)
      refine ⟨(toL m, toL n', ((j + 1 : Nat) : Int), n', ()), ?_, ⟨j + 1, n', h, hn', rfl⟩, by show mo.length - (((j + 1 : Nat) : Int)).toNat < mo.length - (j : Int).toNat; omega⟩
      simp only [lt_len, h, decide_true, cond_true, idx_nat, List.getElem?_eq_getElem h, Option.bind_some, e, ts_mall m cm, same_self _ cm, Bool.not_true, cond_false, wrap64_nat (show j < 9223372036854775807 by omega)]
    · left
      have : j = mo.length := by omega
      subst this
      simp only [lt_len, Nat.lt_irrefl, decide_false, cond_false, ts_mall m cm, ts_mall n cn, Option.bind_some, same_self _ cm, same_self _ cn, cond_true]
      apply map_inr
      refine loop_true (fun t => ∃ (i : Nat) (w : List Pr), i ≤ (toL m).length ∧ w.length = (toL m).length ∧ t = (w, (i : Int), ())) (fun t => (toL m).length - t.2.1.toNat) (fun t ht => ?_) ⟨0, toL m, Nat.zero_le _, rfl, rfl⟩ (by show (toL m).length - 0 < _; omega)
      obtain ⟨i, w, hi, hw, rfl⟩ := ht
      by_cases h : i < (toL m).length
      · right
        have h' : i < w.length := by omega
        refine ⟨(w.set i (w[i].1, wrap64 (w[i].2.1 + 1), w[i].2.2), ((i + 1 : Nat) : Int), ()), ?_, ⟨i + 1, _, h, by rw [List.length_set, hw], rfl⟩, by show (toL m).length - (((i + 1 : Nat) : Int)).toNat < (toL m).length - (i : Int).toNat; omega⟩
        simp only [lt_len, h, decide_true, cond_true, idxN_nat _ _ h', List.getElem?_eq_getElem h', Option.bind_some, wrap64_nat (show i < 9223372036854775807 by omega)]
      · left
        have : i = (toL m).length := by omega
        subst this
        simp only [lt_len, Nat.lt_irrefl, decide_false, cond_false]
        rfl
end Go.Proofs.Ytgbmnillcdjdeaa
