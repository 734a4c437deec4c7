/-
  Octets: the law of what is asked for.
-/
import Derived.Test.YtchknfdjnkalkaaOctetsTake
namespace Go.Proofs.Ytchknfdjnkalkaa
open Go.Sx Go Classical
set_option maxRecDepth 10000
theorem clone_eq (l : List UInt8) (h : l.length ≤ 140737488355000) : F27 (l, ()) = some (l, ()) := by
  unfold F27
  cases l with
  | nil =>
    simp only [List.isEmpty_nil, cond_true]
    rw [appU_eq (by simp)]
    exact both_same _
  | cons b r =>
    simp only [List.isEmpty_cons, cond_false]
    rw [appU_eq (by simpa using h)]
    rfl
theorem newIn_eq (l : List UInt8) (h : l.length ≤ 140737488355000) : F11 (l, ()) = some ((l, false, ()), ()) := by
  unfold F11
  simp only [clone_eq l h, Option.bind_some]
theorem done_eq (s : In) : F16 (s, ()) = some ((bif !s.2.1 then decide (Int.ofNat s.1.length = 0) else false), s, ()) := by
  unfold F16
  obtain ⟨b, bad, ⟨⟩⟩ := s
  cases bad <;> rfl
theorem refDone_eq (s : In) : F17 (s, ()) = some ((bif !s.2.1 then decide (Int.ofNat s.1.length = 0) else false), ()) := by
  unfold F17
  obtain ⟨b, bad, ⟨⟩⟩ := s
  cases bad <;> rfl
theorem bad_eq (s : In) : F13 (s, ()) = some (s.2.1, s, ()) := rfl
theorem same_cond {α : Type} (c : Bool) (x : α) : (bif c then x else x) = x := by cases c <;> rfl
theorem law4 (hA : F8 () = some (true, ())) (x : (argTy P4).den) (hx : Fit47 (argTy P4) x) : F4 x = some (true, ()) := by
  obtain ⟨b, l, ⟨⟩⟩ : List UInt8 × List (UInt8 × Int × Unit) × Unit := x
  obtain ⟨⟨hb, -⟩, ⟨hl, hle⟩, -⟩ := hx
  have hb' : b.length ≤ 140737488351232 := hb
  have hl' : l.length ≤ 140737488351232 := hl
  unfold F4
  simp only [hA, Option.bind_some, Bool.not_true, cond_false, newIn_eq b (by omega)]
  refine Eq.trans (congrArg (fun z => cond _ (some (true, ())) z) ?_) (same_cond _ _)
  have hinv := iter_inv (T := Int × List UInt8 × Bool × In) (R := Bool × Unit) (step := fun (x_1 : Int × List UInt8 × Bool × In) =>
              bif decide (x_1.fst < Int.ofNat (List.length l)) then
                Option.bind (idx l x_1.fst) fun (b : T42D) =>
                  Option.bind (F15 (x_1.snd.snd.snd, (x_1.snd.fst, x_1.snd.snd.fst, ()), b, ()))
                    fun (b : T38D × Bool × T38D × Unit) =>
                    bif !b.snd.fst then some (Sum.inr (false, ()))
                    else
                      Option.bind (F13 b.snd.snd) fun (b_1 : Bool × T38D × Unit) =>
                        bif !b_1.fst == b.fst.snd.fst then some (Sum.inr (false, ()))
                        else
                          Option.bind (F14 b_1.snd) fun (b_2 : Int × T38D × Unit) =>
                            bif !decide (b_2.fst = Int.ofNat (List.length b.fst.fst)) then
                              some (Sum.inr (false, ()))
                            else
                              Option.bind (F16 b_2.snd) fun (b_3 : Bool × T38D × Unit) =>
                                Option.bind (F17 (b.fst, ())) fun (b_4 : Bool × Unit) =>
                                  bif !b_3.fst == b_4.fst then some (Sum.inr (false, ()))
                                  else
                                    some
                                      (Sum.inl
                                        (wrap64 (x_1.fst + 1), b.fst.fst, b.fst.snd.fst, b_3.snd.fst))
              else some (Sum.inr (true, ())))
    (I := fun t => ∃ (i : Nat) (s : In), i ≤ l.length ∧ Fine s ∧ s.1.length ≤ 140737488351232 ∧ t = ((i : Int), s.1, s.2.1, s))
    (μ := fun t => l.length - t.1.toNat) (Q := fun _ r => r = (true, ())) (fun t ht => ?_) (n := big) (t := (0, b, false, (b, false, ()))) ⟨0, (b, false, ()), Nat.zero_le _, fun h => Bool.noConfusion h, hb', rfl⟩ (by rw [big_eq]; omega)
  · obtain ⟨r, h1, h2⟩ := hinv
    rw [h2] at h1
    exact h1
  · obtain ⟨i, s, hi, hf, hs, rfl⟩ := ht
    by_cases h : i < l.length
    · right
      have hm : (l[i].2.1 : Int) ≤ 9223372036854775807 := (hle l[i] (List.getElem_mem h)).2.1.2
      obtain ⟨s', k1, k2, k3⟩ := alike_eq s hf (by omega) l[i] hm
      have k1' : F15 (s, (s.1, s.2.1, ()), l[i], ()) = some (s', true, s', ()) := k1
      refine ⟨((i + 1 : Nat), s'.1, s'.2.1, s'), ?_, ⟨i + 1, s', h, k2, by omega, rfl⟩, ?_, fun r h => h⟩
      · simp only [lt_len, h, decide_true, cond_true, idx_nat, List.getElem?_eq_getElem h, Option.bind_some, k1', bad_eq, left_eq, done_eq, refDone_eq, Bool.not_true, cond_false, BEq.rfl, wrap64_nat (show i < 9223372036854775807 by omega)]
      · simp only [Int.toNat_natCast]; omega
    · left
      have : i = l.length := by omega
      subst this
      exact ⟨(true, ()), by simp [lt_len], rfl⟩
end Go.Proofs.Ytchknfdjnkalkaa
