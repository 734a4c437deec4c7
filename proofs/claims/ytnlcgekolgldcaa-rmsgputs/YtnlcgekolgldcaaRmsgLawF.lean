/-
  Messages between nodes: the laws of what is put and of what is taken.
-/
import Derived.Test.YtnlcgekolgldcaaRmsgLawE
namespace Go.Proofs.Ytnlcgekolgldcaa
open Go.Sx Go Classical
set_option maxRecDepth 10000
theorem lawGets (x : (argTy P5).den) (_ : Fit47 (argTy P5) x) : F5 x = some (true, ()) := by
  obtain ⟨b, ⟨⟩⟩ : List UInt8 × Unit := x
  unfold F5
  simp only [awakeM_eq, Option.bind_some, Bool.not_true, cond_false]
  by_cases hl : (5000 : Int) < Int.ofNat b.length
  · rw [decide_eq_true hl]; rfl
  · rw [decide_eq_false hl]
    simp only [Int.ofNat_eq_natCast] at hl
    have hs : Sm (b, false, ()) := by unfold Sm; simp only; omega
    have hlen := msgG_len (b, false, ())
    have hf : Fine (b, false, ()) := fun h => by cases h
    simp only [cond_false, newIn_eq b (by omega), Option.bind_some, get_eq _ hs, from_eq _ hs hf]
    have hO : F17 ((msgG (b, false, ())).1, ()) = some ((msgG (b, false, ())).1, ()) := rfl
    simp only [hO, Option.bind_some, refSameM_eq _ _ hlen, decide_true, cond_true, bad_eq, BEq.rfl]
    have hL : ∀ t : In, F19 (t, ()) = some (Int.ofNat t.1.length, t, ()) := fun _ => rfl
    simp only [hL, Option.bind_some, decide_true, cond_true]
    cases hb : (msgG (b, false, ())).2.2.1 with
    | true => rfl
    | false =>
      have hm := guardG_good hb
      have h1 := (mayM_eq (msgG (b, false, ())).1 hlen).1
      rw [hm] at h1
      simp only [h1, Option.bind_some, cond_false]
theorem lawPuts (x : (argTy P6).den) (hx : Fit47 (argTy P6) x) : F6 x = some (true, ()) := by
  obtain ⟨m, ⟨⟩⟩ : Msg × Unit := x
  have hl : m.2.2.2.2.2.2.2.2.2.1.length ≤ 9223372036854775806 := Nat.le_trans hx.1.2.2.2.2.2.2.2.2.2.1.1 (by omega)
  obtain ⟨f1, e1⟩ := fewM_ex m hl
  obtain ⟨e3, e4⟩ := mayM_eq m hl
  unfold F6
  simp only [awakeM_eq, Option.bind_some, Bool.not_true, cond_false, e1, to_eq, e4]
  cases f1 with
  | false => rfl
  | true =>
    simp only [Bool.not_true, cond_false]
    cases hr : mayM m with
    | true =>
      obtain ⟨hO, hS⟩ := right_facts hl hr
      have hlen := msgB_len hO hS
      have hp : F20 (([], ()), m, ()) = _ := msg_put [] m hl hr (by rw [List.length_nil]; show _ ≤ (140737488355000 : Nat); omega)
      rw [List.nil_append] at hp
      have hs : Sm (msgB m, false, ()) := by unfold Sm; simp only; omega
      have hD : F23 (([], false, ()), ()) = some (true, ([], false, ()), ()) := rfl
      have hOf : F17 (m, ()) = some (m, ()) := rfl
      simp only [hp, Option.bind_some, end_eq _ hlen, decide_true, Bool.not_true, cond_false, bytes_good m hl hr, newIn_eq (msgB m) (by omega), get_eq _ hs, msg_rt hx hr, hD, cond_true, hOf, refSameM_eq m m hl]
    | false =>
      rw [hr] at e3
      have hp : F20 (([], ()), m, ()) = some (([UInt8.ofNat 0], ()), ()) := by
        unfold F20
        simp only [e3, Option.bind_some, Bool.not_false, cond_true]
        exact bind_of (outByte_eq [] _ (by decide)) rfl
      have hs : Sm ([UInt8.ofNat 0], false, ()) := by unfold Sm; simp
      have hE : F21 (([UInt8.ofNat 0], ()), ()) = _ := end_eq [UInt8.ofNat 0] (by simp)
      simp only [hp, Option.bind_some, hE, decide_true, Bool.not_true, Bool.not_false, cond_true, cond_false, bytes_none m hl hr, newIn_eq [UInt8.ofNat 0] (by simp), get_eq _ hs, zero_bad, bad_eq]
      exact bind_of (sameM_eq NoMsg NoMsg (by simp)) (by simp)
end Go.Proofs.Ytnlcgekolgldcaa
