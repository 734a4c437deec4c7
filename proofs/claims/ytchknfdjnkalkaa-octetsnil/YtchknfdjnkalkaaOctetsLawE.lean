/-
  Octets: the law of nil ones, and of bytes that are by themselves.
-/
import Derived.Test.YtchknfdjnkalkaaOctetsLawD
namespace Go.Proofs.Ytchknfdjnkalkaa
open Go.Sx Go Classical
set_option maxRecDepth 10000
theorem wideNil_eq (n : Int) : F42a (n, ()) = some (0, ()) := by
  unfold F42a F28a
  simp only [Option.bind_some]
  refine iter_true (T := Int × Int × Unit) (fun t => t = (0, 0, ())) (fun _ => 0) (fun t ht => ?_) rfl (by omega)
  subst ht
  left; rfl
theorem countNil_eq (n : Int) : F25a (n, ()) = some (0, ()) := by
  unfold F25a F24a F14a
  have h : F42a (4, ()) = some (0, ()) := wideNil_eq 4
  have hw := wrapU64_mod (maxI n 0)
  have h1 : ¬ IntKind.wrap .u64 (maxI n 0) < 0 := by omega
  have h2 : ¬ IntKind.wrap .u64 0 < 0 := by decide
  have h3 : wrap64 0 = 0 := rfl
  simp only [h, h1, h2, h3, Option.bind_some, decide_false, cond_false]
  cases decide (n < 0) <;> rfl
theorem putNil_eq (x : Item) : F18a (x, ()) = some () := by
  obtain ⟨k, n, s, ⟨⟩⟩ := x
  unfold F18a
  have e34 : ∀ b, F34a (b, ()) = some () := fun b => rfl
  have e35 : ∀ b, F35a (b, ()) = some () := fun b => by unfold F35a; cases b <;> rfl
  have e26 : ∀ b, F26a (b, ()) = some () := fun b => rfl
  have e36 : ∀ b, F36a (b, ()) = some () := fun b => rfl
  simp only [e34, e35, e26, e36, rem2, F9a, F37a, Option.bind_some]
  cases decide (intOf8 k = intOf8 (UInt8.ofNat 0)) with
  | true => rfl
  | false =>
    cases decide (intOf8 k = intOf8 (UInt8.ofNat 1)) with
    | true => rfl
    | false =>
      cases decide (intOf8 k = intOf8 (UInt8.ofNat 2)) with
      | true => rfl
      | false =>
        cases decide (intOf8 k = intOf8 (UInt8.ofNat 3)) with
        | true => rfl
        | false => cases decide (intOf8 k = intOf8 (UInt8.ofNat 4)) <;> rfl
theorem back8 (c : UInt8) : intOf8 (Sx.byteOf (IntKind.wrap IntKind.u8 (intOf8 c))) = intOf8 c := by
  have := c.toNat_lt
  rw [wrapU8]
  simp [intOf8, Sx.byteOf]
  omega
theorem law7 (x : (argTy P7).den) (hx : Fit47 (argTy P7) x) : F7 x = some (true, ()) := by
  obtain ⟨l, b, m, ⟨⟩⟩ : List Item × List UInt8 × Int × Unit := x
  obtain ⟨⟨hl, -⟩, ⟨hb, -⟩, -⟩ := hx
  have hl' : l.length ≤ 140737488351232 := hl
  have hb' : b.length ≤ 140737488351232 := hb
  unfold F7
  simp only [awake_eq, Option.bind_some, Bool.not_true, cond_false]
  refine Eq.trans (congrArg (fun z => cond _ (some (true, ())) z) ?_) (same_cond _ _)
  refine Eq.trans (congrArg (fun z => cond _ (some (true, ())) z) ?_) (same_cond _ _)
  refine iter_true (T := Int × Unit) (fun t => ∃ (i : Nat), i ≤ l.length ∧ t = ((i : Int), ())) (fun t => l.length - t.1.toNat) (fun t ht => ?_) ⟨0, Nat.zero_le _, rfl⟩ (by omega)
  obtain ⟨i, hi, rfl⟩ := ht
  by_cases h : i < l.length
  · right
    refine ⟨(((i + 1 : Nat) : Int), ()), ?_, ⟨i + 1, h, rfl⟩, by simp only [Int.toNat_natCast]; omega⟩
    simp only [lt_len, h, decide_true, cond_true, idx_nat, List.getElem?_eq_getElem h, Option.bind_some, putNil_eq, wrap64_nat (show i < 9223372036854775807 by omega)]
  · left
    have e10 : F10a () = some ([], 1, ()) := rfl
    have e24 : F24a () = some () := rfl
    have e20 : F20a () = some (0, ()) := by unfold F20a; simp only [show F42a (1, ()) = some (0, ()) from wideNil_eq 1, Option.bind_some]; rfl
    have e21 : F21a () = some (false, ()) := by unfold F21a; simp only [e20, Option.bind_some]; rfl
    have e22 : F22a () = some (0, ()) := by unfold F22a; simp only [show F42a (8, ()) = some (0, ()) from wideNil_eq 8, Option.bind_some]; rfl
    have e12 : F12a (m, ()) = some ([], ()) := by unfold F12a; simp only [countNil_eq, Option.bind_some]; rfl
    have e23 : F23a (m, ()) = some ([], ()) := by unfold F23a; simp only [countNil_eq, Option.bind_some]; rfl
    have e14 : F14a () = some (0, ()) := rfl
    have e13 : F13a () = some (false, ()) := rfl
    have e16 : F16a () = some (false, ()) := rfl
    have ez : ¬ (1 : Int) = 0 → True := fun _ => trivial
    have e0 : (Int.ofNat (List.length ([] : List UInt8)) : Int) = 0 := rfl
    have e8 : intOf8 0 = intOf8 (UInt8.ofNat 0) := rfl
    simp only [lt_len, h, decide_false, cond_false]
    simp only [e10, e24, e20, e21, e22, e12, e23, e14, e13, e16, e0, e8, countNil_eq, Option.bind_some, decide_true, Bool.not_true, cond_false]
    rw [appU_eq (by simp; omega)]
    simp only [Option.bind_some, List.nil_append]
    rw [newIn_eq b (by omega)]
    simp only [Option.bind_some]
    refine congrArg (Option.map Sum.inr) (iter_true (T := List UInt8 × Int × Unit) (r0 := (true, ())) (fun t => ∃ (c : List UInt8) (i : Nat), c.length = b.length ∧ i ≤ b.length ∧ t = (c, (i : Int), ())) (fun t => b.length - t.2.1.toNat) (fun t ht => ?_) ⟨b, 0, rfl, Nat.zero_le _, rfl⟩ (by omega))
    obtain ⟨c, i, hc, hi, rfl⟩ := ht
    by_cases h : i < b.length
    · right
      have h' : i < c.length := by omega
      have e1 : idxN c (i : Int) = some i := by
        unfold idxN
        have : (0 : Int) ≤ (i : Int) ∧ (i : Int) < (c.length : Int) := ⟨by omega, by omega⟩
        simp only [this, and_self, decide_true, cond_true, Int.toNat_natCast]
      simp only [lt_len, h, decide_true, cond_true, e1, Option.bind_some, List.getElem?_eq_getElem h', wrap64_nat (show i < 9223372036854775807 by omega)]
      exact ⟨_, rfl, ⟨_, i + 1, by simp [hc], h, rfl⟩, by simp only [Int.toNat_natCast]; omega⟩
    · left
      simp only [lt_len, h, decide_false, cond_false]
      refine congrArg (Option.map Sum.inr) (iter_true (T := Int × In) (r0 := (true, ())) (fun t => ∃ (i : Nat), i ≤ b.length ∧ t = ((i : Int), b.drop i, false, ())) (fun t => b.length - t.1.toNat) (fun t ht => ?_) ⟨0, Nat.zero_le _, rfl⟩ (by omega))
      obtain ⟨i, hi, rfl⟩ := ht
      by_cases h : i < b.length
      · right
        have hdrop : b.drop i = [b[i]] ++ b.drop (i + 1) := List.drop_eq_getElem_cons h
        refine ⟨(((i + 1 : Nat) : Int), b.drop (i + 1), false, ()), ?_, ⟨i + 1, h, rfl⟩, by simp only [Int.toNat_natCast]; omega⟩
        simp only [lt_len, h, decide_true, cond_true, idx_nat, List.getElem?_eq_getElem h, Option.bind_some, wrap64_nat (show i < 9223372036854775807 by omega)]
        rw [inByte_eq, hdrop, numI_byte]
        simp only [Option.bind_some, back8, decide_true, Bool.not_true, cond_false]
      · left
        have : i = b.length := by omega
        subst this
        simp only [lt_len, Nat.lt_irrefl, decide_false, cond_false, done_eq, Option.bind_some, List.drop_length]
        rfl
end Go.Proofs.Ytchknfdjnkalkaa
