/-
  Octets: the law of what is put and taken back.
-/
import Derived.Test.YtchknfdjnkalkaaOctetsLawC
namespace Go.Proofs.Ytchknfdjnkalkaa
open Go.Sx Go Classical
set_option maxRecDepth 10000
def itemB (x : Item) : List UInt8 := bif decide (intOf8 x.1 = intOf8 (UInt8.ofNat 2)) then [] else putB x
def allB (l : List Item) : List UInt8 := (l.map itemB).flatten
theorem itemB_len (x : Item) : (itemB x).length ≤ 8 + x.2.2.1.length := by
  unfold itemB
  cases decide (intOf8 x.1 = intOf8 (UInt8.ofNat 2)) with
  | true => simp
  | false => exact putB_len x
theorem allB_app (a b : List Item) : allB (a ++ b) = allB a ++ allB b := by simp [allB]
theorem allB_one (x : Item) : allB [x] = itemB x := by simp [allB]
theorem allB_cons (x : Item) (l : List Item) : allB (x :: l) = itemB x ++ allB l := by simp [allB]
theorem allB_len : ∀ (l : List Item), (∀ x ∈ l, x.2.2.1.length ≤ 500) → (allB l).length ≤ 508 * l.length
  | [], _ => by simp [allB]
  | x :: r, h => by
    have h1 := itemB_len x
    have h2 := h x (by simp)
    have h3 := allB_len r (fun y hy => h y (by simp [hy]))
    rw [allB_cons, List.length_append, List.length_cons]
    omega
theorem byteOf_u8 (n : Int) : 0 ≤ IntKind.wrap IntKind.u8 n ∧ IntKind.wrap IntKind.u8 n < 256 := by rw [wrapU8]; omega
theorem numI_byte (c : UInt8) (r : List UInt8) : numI ([c] ++ r, false, ()) 1 = (intOf8 c, (r, false, ())) := by
  have hc := c.toNat_lt
  unfold numI
  have := takeI_app [c] r
  rw [show [c].length = 1 from rfl] at this
  rw [this]
  have : dec [c] = intOf8 c := by
    unfold dec decStep intOf8
    simp only [List.foldl_cons, List.foldl_nil]
    omega
  rw [this]
theorem wrap_back {n : Int} (h1 : -9223372036854775808 ≤ n) (h2 : n ≤ 9223372036854775807) : wrap64 (IntKind.wrap .u64 n) = n := by
  rw [wrapU64_mod]
  show IntKind.wrap .i64 _ = n
  simp only [IntKind.wrap, IntKind.bits, IntKind.signed]
  simp
  omega
theorem law6 (x : (argTy P6).den) (hx : Fit47 (argTy P6) x) : F6 x = some (true, ()) := by
  obtain ⟨l, ⟨⟩⟩ : List Item × Unit := x
  obtain ⟨⟨-, hle⟩, -⟩ := hx
  unfold F6
  simp only [awake_eq, Option.bind_some, Bool.not_true, cond_false]
  by_cases hg : (100 : Int) < Int.ofNat l.length
  · simp only [hg, decide_true, cond_true]
  · have hg' : l.length ≤ 100 := by simp at hg; omega
    simp only [hg, decide_false, cond_false]
    refine iter_true (T := Int × List UInt8 × Unit) (fun t => ∃ (i : Nat), i ≤ l.length ∧ (∀ x ∈ l.take i, x.2.2.1.length ≤ 500) ∧ t = ((i : Int), allB (l.take i), ())) (fun t => l.length - t.1.toNat) (fun t ht => ?_) ⟨0, Nat.zero_le _, by simp, rfl⟩ (by omega)
    obtain ⟨i, hi, hs, rfl⟩ := ht
    have hlen := allB_len _ hs
    have htl : (l.take i).length ≤ 100 := by simp; omega
    by_cases h : i < l.length
    · simp only [lt_len, h, decide_true, cond_true, idx_nat, List.getElem?_eq_getElem h, Option.bind_some]
      by_cases h1 : (500 : Int) < Int.ofNat (l[i].2.2.1).length
      · left; simp only [h1, decide_true, cond_true]
      · right
        have h1' : (l[i].2.2.1).length ≤ 500 := by rw [ofNat_len] at h1; omega
        have htake : l.take (i + 1) = l.take i ++ [l[i]] := (List.take_append_getElem h).symm
        have hs' : ∀ x ∈ l.take (i + 1), x.2.2.1.length ≤ 500 := by
          rw [htake]
          intro y hy
          rcases List.mem_append.1 hy with hy | hy
          · exact hs y hy
          · rw [List.mem_singleton.1 hy]; exact h1'
        refine ⟨(((i + 1 : Nat) : Int), allB (l.take (i + 1)), ()), ?_, ⟨i + 1, h, hs', rfl⟩, by simp only [Int.toNat_natCast]; omega⟩
        simp only [h1, decide_false, cond_false]
        rw [put_eq _ l[i] (by omega), wrap64_nat (show i < 9223372036854775807 by omega), htake, allB_app, allB_one]
        unfold itemB
        cases decide (intOf8 (l[i]).1 = intOf8 (UInt8.ofNat 2)) with
        | true => simp
        | false => simp
    · left
      have : i = l.length := by omega
      subst this
      rw [List.take_length] at hs hlen ⊢
      simp only [lt_len, Nat.lt_irrefl, decide_false, cond_false]
      rw [end_eq (allB l) (by omega)]
      simp only [Option.bind_some]
      rw [newIn_eq (allB l) (by omega)]
      simp only [Option.bind_some, decide_true, cond_true]
      refine congrArg (Option.map Sum.inr) (iter_true (T := Int × In) (r0 := (true, ())) (fun t => ∃ (i : Nat), i ≤ l.length ∧ t = ((i : Int), allB (l.drop i), false, ())) (fun t => l.length - t.1.toNat) (fun t ht => ?_) ⟨0, Nat.zero_le _, rfl⟩ (by simp; omega))
      obtain ⟨i, hi, rfl⟩ := ht
      by_cases h : i < l.length
      · right
        have hdrop : l.drop i = l[i] :: l.drop (i + 1) := List.drop_eq_getElem_cons h
        have hsi := hs l[i] (List.getElem_mem h)
        have hN : (-9223372036854775808 : Int) ≤ l[i].2.1 ∧ l[i].2.1 ≤ 9223372036854775807 := (hle l[i] (List.getElem_mem h)).2.1
        have hdl : (allB (l.drop i)).length ≤ 508 * (l.drop i).length := allB_len _ (fun y hy => hs y (List.mem_of_mem_drop hy))
        have hdl2 : (l.drop i).length ≤ 100 := by simp; omega
        refine ⟨(((i + 1 : Nat) : Int), allB (l.drop (i + 1)), false, ()), ?_, ⟨i + 1, h, rfl⟩, by simp only [Int.toNat_natCast]; omega⟩
        simp only [lt_len, h, decide_true, cond_true, idx_nat, List.getElem?_eq_getElem h, Option.bind_some]
        rw [wrap64_nat (show i < 9223372036854775807 by omega)]
        rw [inText_eq _ (Int.ofNat (l[i].2.2.1).length) (by rw [ofNat_len]; omega) (show (allB (l.drop i)).length ≤ 9223372036854775807 by omega), inBytes_eq _ 500 (by omega) (show (allB (l.drop i)).length ≤ 9223372036854775807 by omega)]
        simp only [inByte_eq, inFlag_eq, inNum_eq, rem2, Option.bind_some, byteOf_one]
        rw [hdrop, allB_cons]
        generalize allB (l.drop (i + 1)) = r
        generalize l[i] = y at hsi hN
        obtain ⟨k, n, s, ⟨⟩⟩ := y
        unfold itemB putB
        simp only
        by_cases c0 : intOf8 k = intOf8 (UInt8.ofNat 0)
        · have c2 : ¬ intOf8 k = intOf8 (UInt8.ofNat 2) := by rw [c0]; decide
          simp only [c0, c2, decide_true, decide_false, cond_true, cond_false, numI_byte, Option.bind_some, Sum.elim_inl, Bool.not_true]
          have c3 : ¬ intOf8 (UInt8.ofNat 0) = intOf8 (UInt8.ofNat 2) := by decide
          simp only [c3, decide_false, cond_false, numI_byte, decide_true, Bool.not_true]
        · by_cases c1 : intOf8 k = intOf8 (UInt8.ofNat 1)
          · have c3 : ¬ intOf8 (UInt8.ofNat 1) = intOf8 (UInt8.ofNat 2) := by decide
            have c4 : ¬ intOf8 (UInt8.ofNat 1) = intOf8 (UInt8.ofNat 0) := by decide
            simp only [c1, c3, c4, decide_true, decide_false, cond_true, cond_false]
            have hf : ∀ v : Bool, flagI ([bif v then UInt8.ofNat 1 else UInt8.ofNat 0] ++ r, false, ()) = (v, (r, false, ())) := fun v => by
              unfold flagI
              rw [numI_byte]
              cases v <;> rfl
            simp only [hf, Option.bind_some, Sum.elim_inl, BEq.rfl, Bool.not_true, cond_false]
          · by_cases c2 : intOf8 k = intOf8 (UInt8.ofNat 2)
            · have c3 : ¬ intOf8 (UInt8.ofNat 2) = intOf8 (UInt8.ofNat 0) := by decide
              have c4 : ¬ intOf8 (UInt8.ofNat 2) = intOf8 (UInt8.ofNat 1) := by decide
              simp only [c2, c3, c4, decide_true, decide_false, cond_true, cond_false, Option.bind_some, Sum.elim_inl, Bool.not_true, List.nil_append]
            · by_cases c3 : intOf8 k = intOf8 (UInt8.ofNat 3)
              · simp only [c0, c1, c2, c3, decide_true, decide_false, cond_true, cond_false]
                have d0 : ¬ intOf8 (UInt8.ofNat 3) = intOf8 (UInt8.ofNat 0) := by decide
                have d1 : ¬ intOf8 (UInt8.ofNat 3) = intOf8 (UInt8.ofNat 1) := by decide
                have d2 : ¬ intOf8 (UInt8.ofNat 3) = intOf8 (UInt8.ofNat 2) := by decide
                have hw := wrapU64_mod n
                obtain ⟨w, hwn⟩ : ∃ w : Nat, IntKind.wrap .u64 n = (w : Int) := ⟨(IntKind.wrap .u64 n).toNat, by omega⟩
                have hn := numI_wide w 8 (by omega) r
                have hm : w % 256 ^ 8 = w := Nat.mod_eq_of_lt (by omega)
                rw [hm] at hn
                simp only [d0, d1, d2, decide_true, decide_false, cond_true, cond_false, hwn, hn, Option.bind_some, Sum.elim_inl]
                rw [← hwn, wrap_back hN.1 hN.2]
                simp only [decide_true, Bool.not_true, cond_false]
              · simp only [c0, c1, c2, c3, decide_true, decide_false, cond_true, cond_false]
                have hs4 : s.length ≤ 500 := hsi
                have t1 := textI_text s r (by omega) (Int.ofNat s.length) (by rw [ofNat_len]; omega)
                have t2 := textI_text s r (by omega) 500 (by omega)
                simp only [t1, t2]
                cases decide (intOf8 k = intOf8 (UInt8.ofNat 4)) <;> simp only [cond_true, cond_false, Option.bind_some, Sum.elim_inl, decide_true, Bool.not_true]
      · left
        have : i = l.length := by omega
        subst this
        simp only [lt_len, Nat.lt_irrefl, decide_false, cond_false, List.drop_length]
        rw [done_eq]
        rfl
end Go.Proofs.Ytchknfdjnkalkaa
