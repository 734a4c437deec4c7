/-
  Plain laws of what lies below, as this seat reaches them (by a program of the bench: port.py).
-/
import Derived.Test.YteebpcpkhojfkaaGreatRmsgLawC
import Derived.Test.YteebpcpkhojfkaaGreatSxR
namespace Go.Proofs.YteebpcpkhojfkaaGreat
open Go.Sx Go Classical
set_option maxRecDepth 10000
theorem msgG_len (s : In) : (msgG s).1.2.2.2.2.2.2.2.2.2.1.length ≤ 9223372036854775806 := by
  unfold msgG guardG
  cases (bif (msgR s).2.2.1 then true else !mayM (msgR s).1) with
  | true => simp
  | false =>
    have := listGm_len 4 (by omega) entG (flagG (numG (numG (numG (numG (numG (kindG (kindG (kindG s).2).2).2).2).2).2).2).2).2
    exact Nat.le_trans (m := 4) (Int.ofNat_le.1 this) (by omega)
theorem msg_rt {m : Msg} (hf : Fit47 T27 m) (hr : mayM m = true) : msgG (msgB m, false, ()) = (m, ([], false, ())) := by
  have hl : m.2.2.2.2.2.2.2.2.2.1.length ≤ 9223372036854775806 := Nat.le_trans hf.2.2.2.2.2.2.2.2.2.1.1 (by omega)
  obtain ⟨hO, hS⟩ := right_facts hl hr
  have hrun := runP_right hO.2.2.2.2.2.2.2.2
  have h7 := right_seven hO
  have hk := hO.1
  have hn := hO.2.2.1
  have ht := hO.2.2.2.1
  have h4 := hO.2.2.2.2.2.2.2.1
  obtain ⟨-, -, -, f4, f5, f6, f7, f8, -, f10, f11, -⟩ := hf
  have hH : HeadP (headOf m) := ⟨⟨by have := hk.1; show 0 ≤ m.1; omega, by have := hk.2; show m.1 ≤ 255; omega⟩, ⟨hn.1, by have := hn.2; show m.2.1 ≤ 255; omega⟩, ⟨ht.1, by have := ht.2; show m.2.2.1 ≤ 255; omega⟩, f4, f5, f6, f7, f8, trivial,
    ⟨by simp only [Int.ofNat_eq_natCast] at h4; show (m.2.2.2.2.2.2.2.2.2.1.length : Int) ≤ 4; omega, fun e he => ⟨⟨(f10.2 e he).1, (f10.2 e he).2.1, by have := (hrun e he).2.2; show (e.2.2.1.length : Int) ≤ 12000; omega, trivial⟩, decide_eq_true (hrun e he)⟩⟩, trivial⟩
  have e1 : headG (msgB m, false, ()) = (headOf m, (tailB m.1 m.2.2.2.2.2.2.2.2.2.2.1, false, ())) := headC.rt (headOf m) _ hH
  have e2 : tailG m.1 (tailB m.1 m.2.2.2.2.2.2.2.2.2.2.1, false, ()) = (m.2.2.2.2.2.2.2.2.2.2.1, ([], false, ())) := by
    unfold tailG tailB
    by_cases c : m.1 = 7
    · rw [decide_eq_true c]
      simp only [cond_true]
      have := snapC.rt m.2.2.2.2.2.2.2.2.2.2.1 [] ⟨⟨f11.1, f11.2.1, by have := snapOk_len (hS c); show (m.2.2.2.2.2.2.2.2.2.2.1.2.2.1.length : Int) ≤ 50000; omega, trivial⟩, hS c⟩
      rw [List.append_nil] at this
      exact this
    · rw [decide_eq_false c, h7.2 c]
      rfl
  have e3 : msgR (msgB m, false, ()) = (m, ([], false, ())) := by
    unfold msgR
    rw [e1]
    show (((m.1, m.2.1, m.2.2.1, m.2.2.2.1, m.2.2.2.2.1, m.2.2.2.2.2.1, m.2.2.2.2.2.2.1, m.2.2.2.2.2.2.2.1, m.2.2.2.2.2.2.2.2.1, m.2.2.2.2.2.2.2.2.2.1, (tailG m.1 (tailB m.1 m.2.2.2.2.2.2.2.2.2.2.1, false, ())).1, ()), (tailG m.1 (tailB m.1 m.2.2.2.2.2.2.2.2.2.2.1, false, ())).2) : Msg × In) = _
    rw [e2]
  unfold msgG guardG
  rw [e3]
  simp only [hr, Bool.not_true, cond_false]
end Go.Proofs.YteebpcpkhojfkaaGreat
