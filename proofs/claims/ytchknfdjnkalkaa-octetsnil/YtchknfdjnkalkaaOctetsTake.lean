/-
  Octets: whatever is asked for.
-/
import Derived.Test.YtchknfdjnkalkaaOctPlain
namespace Go.Proofs.Ytchknfdjnkalkaa
open Go.Sx Go Classical
set_option maxRecDepth 10000
theorem dec_one : ∀ (l : List UInt8), l.length ≤ 1 → 0 ≤ dec l ∧ dec l < 256
  | [], _ => by simp [dec]
  | [b], _ => by
    have := b.toNat_lt
    simp only [dec, List.foldl_cons, List.foldl_nil, decStep]
    omega
  | _ :: _ :: _, h => by simp at h
theorem numI_one (s : In) : 0 ≤ (numI s 1).1 ∧ (numI s 1).1 < 256 := dec_one _ (takeI_len s 1)
theorem inByte_eq (s : In) : F20 (s, ()) = some (Sx.byteOf (IntKind.wrap IntKind.u8 (numI s 1).1), (numI s 1).2, ()) := by
  unfold F20
  have hw : F42 (s, 1, ()) = some ((numI s 1).1, (numI s 1).2, ()) := inWide_eq s 1 (by omega)
  simp only [hw, Option.bind_some]
theorem refByte_eq (s : In) (h : Fine s) : F29 (s, ()) = some (Sx.byteOf (IntKind.wrap IntKind.u8 (numI s 1).1), (numI s 1).2, ()) := by
  unfold F29
  have hw : F44 (s, 1, ()) = some ((numI s 1).1, (numI s 1).2, ()) := number_eq s h 1 (by omega)
  simp only [hw, Option.bind_some]
def flagI (s : In) : Bool × In := bif decide ((numI s 1).1 ≤ 1) then (decide ((numI s 1).1 = 1), (numI s 1).2) else (false, badI)
theorem byteOf_one (s : In) : intOf8 (Sx.byteOf (IntKind.wrap IntKind.u8 (numI s 1).1)) = (numI s 1).1 := by
  have h := numI_one s
  rw [wrapU8]
  simp [intOf8, Sx.byteOf]
  omega
theorem inFlag_eq (s : In) : F21 (s, ()) = some ((flagI s).1, (flagI s).2, ()) := by
  unfold F21 flagI
  have e1 : intOf8 (UInt8.ofNat 1) = 1 := rfl
  simp only [inByte_eq, Option.bind_some, byteOf_one, e1, fail_eq]
  by_cases h : (numI s 1).1 ≤ 1
  · have : ¬ 1 < (numI s 1).1 := by omega
    simp [h, this]
  · have h1 : 1 < (numI s 1).1 := by omega
    have h2 : ¬ (numI s 1).1 = 1 := by omega
    simp [h, h1, h2, badI]
theorem refFlag_eq (s : In) (h : Fine s) : F30 (s, ()) = some ((flagI s).1, (flagI s).2, ()) := by
  unfold F30 flagI
  have hw : F44 (s, 1, ()) = some ((numI s 1).1, (numI s 1).2, ()) := number_eq s h 1 (by omega)
  simp only [hw, Option.bind_some]
  by_cases h : (numI s 1).1 ≤ 1
  · have : ¬ 1 < (numI s 1).1 := by omega
    simp [h, this]
  · have h1 : 1 < (numI s 1).1 := by omega
    simp [h, h1, badI]
theorem Fine.flag {s : In} (h : Fine s) : Fine (flagI s).2 := by
  unfold flagI
  cases decide ((numI s 1).1 ≤ 1) with
  | true => exact h.num 1
  | false => exact badI_fine
theorem inNum_eq (s : In) : F22 (s, ()) = some (wrap64 (numI s 8).1, (numI s 8).2, ()) := by
  unfold F22
  have hw : F42 (s, 8, ()) = some ((numI s 8).1, (numI s 8).2, ()) := inWide_eq s 8 (by omega)
  simp only [hw, Option.bind_some]
theorem refNum_eq (s : In) (h : Fine s) : F32 (s, ()) = some (wrap64 (numI s 8).1, (numI s 8).2, ()) := by
  unfold F32
  have hw : F44 (s, 8, ()) = some ((numI s 8).1, (numI s 8).2, ()) := number_eq s h 8 (by omega)
  simp only [hw, Option.bind_some]
theorem flagI_len (s : In) : (flagI s).2.1.length ≤ s.1.length := by
  unfold flagI
  cases decide ((numI s 1).1 ≤ 1) with
  | true => exact numI_len s 1
  | false => exact Nat.zero_le _
theorem countI_len (s : In) (m : Int) : (countI s m).2.1.length ≤ s.1.length := by
  unfold countI
  cases decide (0 ≤ m ∧ (numI s 4).1 ≤ m ∧ (numI s 4).1 ≤ ((numI s 4).2.1.length : Int)) with
  | true => exact numI_len s 4
  | false => exact Nat.zero_le _
theorem textI_len (s : In) (m : Int) : (textI s m).2.1.length ≤ s.1.length := Nat.le_trans (numI_len (countI s m).2 _) (countI_len s m)
theorem alike_eq (s : In) (h : Fine s) (hs : s.1.length ≤ 9223372036854775807) (t : UInt8 × Int × Unit) (hm : t.2.1 ≤ 9223372036854775807) :
    ∃ s' : In, F15 (s, s, t, ()) = some (s', true, s', ()) ∧ Fine s' ∧ s'.1.length ≤ s.1.length := by
  obtain ⟨k, m, ⟨⟩⟩ := t
  unfold F15
  simp only [inByte_eq, refByte_eq s h, inFlag_eq, refFlag_eq s h, inNum_eq, refNum_eq s h, inCount_eq s m hm hs, refCount_eq s h m hm hs, inText_eq s m hm hs, refText_eq s h m hm hs, inBytes_eq s m hm hs, fail_eq, Option.bind_some, decide_true, BEq.rfl]
  cases decide (intOf8 k = intOf8 (UInt8.ofNat 0)) with
  | true => exact ⟨_, rfl, h.num 1, numI_len s 1⟩
  | false =>
    cases decide (intOf8 k = intOf8 (UInt8.ofNat 1)) with
    | true => exact ⟨_, rfl, h.flag, flagI_len s⟩
    | false =>
      cases decide (intOf8 k = intOf8 (UInt8.ofNat 2)) with
      | true => exact ⟨_, rfl, h.count m, countI_len s m⟩
      | false =>
        cases decide (intOf8 k = intOf8 (UInt8.ofNat 3)) with
        | true => exact ⟨_, rfl, h.num 8, numI_len s 8⟩
        | false =>
          cases decide (intOf8 k = intOf8 (UInt8.ofNat 4)) with
          | true => exact ⟨_, rfl, h.text m, textI_len s m⟩
          | false =>
            cases decide (intOf8 k = intOf8 (UInt8.ofNat 5)) with
            | true => exact ⟨_, rfl, h.text m, textI_len s m⟩
            | false => exact ⟨badI, rfl, badI_fine, Nat.zero_le _⟩
end Go.Proofs.Ytchknfdjnkalkaa
