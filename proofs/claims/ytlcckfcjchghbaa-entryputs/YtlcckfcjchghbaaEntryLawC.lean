/-
  entry: the law of what is taken.
-/
import Derived.Test.YtlcckfcjchghbaaEntryLawB
import Derived.Test.YtlcckfcjchghbaaOctIn
namespace Go.Proofs.Ytlcckfcjchghbaa
open Go.Sx Go Classical
set_option maxRecDepth 10000
theorem get_ex (s : In) (h : Fine s) (hs : s.1.length ≤ 9223372036854775807) : ∃ (e : Ent) (s' : In), F22 (s, ()) = some (e, s', ()) ∧ F20 (s, ()) = some (e, s', ()) ∧ Fine s' ∧ s'.1.length ≤ s.1.length := by
  have h1 := h.num 8
  have h2 := h1.num 8
  have l1 := numI_len s 8
  have l2 := numI_len (numI s 8).2 8
  have l3 := textI_len (numI (numI s 8).2 8).2 12000
  unfold F22 F20 F44
  simp only [inNum_eq, refNum_eq s h, refNum_eq _ h1, Option.bind_some, inBytes_eq _ 12000 (by omega) (show (numI (numI s 8).2 8).2.1.length ≤ 9223372036854775807 by omega), refText_eq _ h2 12000 (by omega) (show (numI (numI s 8).2 8).2.1.length ≤ 9223372036854775807 by omega), bad_eq, fail_eq, right_eq, refRight_eq]
  cases (textI (numI (numI s 8).2 8).2 12000).2.2.1 with
  | true => exact ⟨(0, 0, [], ()), badI, rfl, rfl, badI_fine, Nat.zero_le _⟩
  | false =>
    simp only [cond_false]
    cases decide (RightE (wrap64 (numI s 8).1, wrap64 (numI (numI s 8).2 8).1, (textI (numI (numI s 8).2 8).2 12000).1, ())) with
    | true => exact ⟨_, _, rfl, rfl, h2.text 12000, by omega⟩
    | false => exact ⟨(0, 0, [], ()), badI, rfl, rfl, badI_fine, Nat.zero_le _⟩
theorem snap_get (s : In) (h : Fine s) (hs : s.1.length ≤ 9223372036854775807) : ∃ (e : Ent) (s' : In), F27 (s, ()) = some (e, s', ()) ∧ F25 (s, ()) = some (e, s', ()) ∧ Fine s' ∧ s'.1.length ≤ s.1.length := by
  have h1 := h.num 8
  have h2 := h1.num 8
  have l1 := numI_len s 8
  have l2 := numI_len (numI s 8).2 8
  have l3 := textI_len (numI (numI s 8).2 8).2 50000
  unfold F27 F25 F44
  simp only [inNum_eq, refNum_eq s h, refNum_eq _ h1, Option.bind_some, inBytes_eq _ 50000 (by omega) (show (numI (numI s 8).2 8).2.1.length ≤ 9223372036854775807 by omega), refText_eq _ h2 50000 (by omega) (show (numI (numI s 8).2 8).2.1.length ≤ 9223372036854775807 by omega), bad_eq, fail_eq, snap_same]
  obtain ⟨b, e⟩ := snap_ex ((wrap64 (numI s 8).1, wrap64 (numI (numI s 8).2 8).1, (textI (numI (numI s 8).2 8).2 50000).1, ()), ())
  simp only [e, Option.bind_some]
  cases (textI (numI (numI s 8).2 8).2 50000).2.2.1 with
  | true => exact ⟨(0, 0, [], ()), badI, rfl, rfl, badI_fine, Nat.zero_le _⟩
  | false =>
    cases b with
    | true => exact ⟨_, _, rfl, rfl, h2.text 50000, by omega⟩
    | false => exact ⟨(0, 0, [], ()), badI, rfl, rfl, badI_fine, Nat.zero_le _⟩
theorem hard_get (s : In) (h : Fine s) : ∃ (e : Int × Int × Unit) (s' : In), F24 (s, ()) = some (e, s', ()) ∧ F23 (s, ()) = some (e, s', ()) ∧ Fine s' ∧ s'.1.length ≤ s.1.length := by
  have h1 := h.num 8
  have h2 := h1.num 8
  have l1 := numI_len s 8
  have l2 := numI_len (numI s 8).2 8
  unfold F24 F23
  simp only [inNum_eq, refNum_eq s h, refNum_eq _ h1, Option.bind_some, bad_eq, fail_eq, hard_same]
  obtain ⟨b, e⟩ := hard_ex ((wrap64 (numI s 8).1, wrap64 (numI (numI s 8).2 8).1, ()), ())
  simp only [e, Option.bind_some]
  cases (numI (numI s 8).2 8).2.2.1 with
  | true => exact ⟨(0, 0, ()), badI, rfl, rfl, badI_fine, Nat.zero_le _⟩
  | false =>
    cases b with
    | true => exact ⟨_, _, rfl, rfl, h2, by omega⟩
    | false => exact ⟨(0, 0, ()), badI, rfl, rfl, badI_fine, Nat.zero_le _⟩
theorem snapOne_eq (a b : Ent) : F26 (a, b, ()) = some (decide (a = b), ()) := by
  rw [← one_eq]
  rfl
theorem law5 (x : (argTy P5).den) : F5 x = some (true, ()) := by
  obtain ⟨b, l, ⟨⟩⟩ : List UInt8 × List UInt8 × Unit := x
  unfold F5
  simp only [awake_eq, Option.bind_some, Bool.not_true, cond_false]
  by_cases g1 : (5000 : Int) < Int.ofNat b.length
  · simp only [g1, decide_true, cond_true]
  · by_cases g2 : (20 : Int) < Int.ofNat l.length
    · simp only [g1, g2, decide_true, decide_false, cond_true, cond_false]
    · have hb : b.length ≤ 5000 := by rw [ofNat_len] at g1; omega
      have hl : l.length ≤ 20 := by rw [ofNat_len] at g2; omega
      simp only [g1, g2, decide_false, cond_false]
      rw [newIn_eq b (by omega)]
      simp only [Option.bind_some]
      refine iter_true (T := Int × List UInt8 × Bool × In) (fun t => ∃ (i : Nat) (s : In), i ≤ l.length ∧ Fine s ∧ s.1.length ≤ 5000 ∧ t = ((i : Int), s.1, s.2.1, s)) (fun t => l.length - t.1.toNat) (fun t ht => ?_) ⟨0, (b, false, ()), Nat.zero_le _, fun h => Bool.noConfusion h, hb, rfl⟩ (by simp; omega)
      obtain ⟨i, s, hi, hf, hs, rfl⟩ := ht
      by_cases h : i < l.length
      · right
        have e3 : intOf8 (UInt8.ofNat 3) = 3 := rfl
        have er : ∀ n : Int, remO n 3 = some (n.tmod 3) := fun n => by unfold remO; rfl
        obtain ⟨x1, s1, a1, a2, a3, a4⟩ := get_ex s hf (by omega)
        obtain ⟨x2, s2, b1, b2, b3, b4⟩ := hard_get s hf
        obtain ⟨x3, s3, c1, c2, c3, c4⟩ := snap_get s hf (by omega)
        have a2' : F20 ((s.1, s.2.1, ()), ()) = some (x1, s1, ()) := a2
        have b2' : F23 ((s.1, s.2.1, ()), ()) = some (x2, s2, ()) := b2
        have c2' : F25 ((s.1, s.2.1, ()), ()) = some (x3, s3, ()) := c2
        simp only [lt_len, h, decide_true, cond_true, idx_nat, List.getElem?_eq_getElem h, Option.bind_some, e3, er, a1, a2', b1, b2', c1, c2', one_eq, snapOne_eq, Bool.and_self, wrap64_nat (show i < 9223372036854775807 by omega)]
        cases decide (intOf8 (Sx.byteOf ((intOf8 l[i]).tmod 3)) = intOf8 (UInt8.ofNat 0)) with
        | true => exact ⟨(((i + 1 : Nat) : Int), s1.1, s1.2.1, s1), by simp only [cond_true, Option.bind_some, Sum.elim_inl, Bool.not_true, cond_false, bad_eq, BEq.rfl, left_eq, decide_true], ⟨i + 1, s1, h, a3, by omega, rfl⟩, by simp only [Int.toNat_natCast]; omega⟩
        | false =>
          cases decide (intOf8 (Sx.byteOf ((intOf8 l[i]).tmod 3)) = intOf8 (UInt8.ofNat 1)) with
          | true => exact ⟨(((i + 1 : Nat) : Int), s2.1, s2.2.1, s2), by simp only [cond_true, Option.bind_some, Sum.elim_inl, Bool.not_true, cond_false, bad_eq, BEq.rfl, left_eq, decide_true], ⟨i + 1, s2, h, b3, by omega, rfl⟩, by simp only [Int.toNat_natCast]; omega⟩
          | false => exact ⟨(((i + 1 : Nat) : Int), s3.1, s3.2.1, s3), by simp only [Option.bind_some, Sum.elim_inl, Bool.not_true, cond_false, bad_eq, BEq.rfl, left_eq, decide_true], ⟨i + 1, s3, h, c3, by omega, rfl⟩, by simp only [Int.toNat_natCast]; omega⟩
      · left
        have : i = l.length := by omega
        subst this
        simp only [lt_len, Nat.lt_irrefl, decide_false, cond_false]
end Go.Proofs.Ytlcckfcjchghbaa
