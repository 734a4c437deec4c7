/-
  entry: the law of what is right.
-/
import Derived.Test.YtlcckfcjchghbaaEntryPlain
namespace Go.Proofs.Ytlcckfcjchghbaa
open Go.Sx Go Classical
set_option maxRecDepth 10000
theorem same_cond {α : Type} (c : Bool) (x : α) : (bif c then x else x) = x := by cases c <;> rfl
theorem outPut3 (b : List UInt8) (i t : Int) (s : List UInt8) (hb : b.length + 20 + s.length ≤ 140737488355000) :
    F49 ((b, ()), i, t, s, ()) = some ((b ++ wideB (IntKind.wrap .u64 i) 8 ++ wideB (IntKind.wrap .u64 t) 8 ++ textB s, ()), ()) := by
  unfold F49
  rw [outNum_eq b i (by omega)]
  simp only [Option.bind_some]
  rw [outNum_eq _ t (by simp only [List.length_append, wideB_len]; omega)]
  simp only [Option.bind_some]
  rw [outBytes_eq _ s (by simp only [List.length_append, wideB_len]; omega)]
  rfl
theorem awake_eq : F7 () = some (true, ()) := by
  have hr : RightE (1, 1, [UInt8.ofNat 97], ()) := ⟨⟨by decide, by decide⟩, ⟨by decide, by decide⟩, by decide⟩
  unfold F7 F30
  simp only [right_eq, hr, decide_true, Option.bind_some, Bool.not_true, cond_false]
  rw [outPut3 [] 1 1 [UInt8.ofNat 97] (by simp)]
  simp only [Option.bind_some]
  have hl : ([] ++ wideB (IntKind.wrap .u64 1) 8 ++ wideB (IntKind.wrap .u64 1) 8 ++ textB [UInt8.ofNat 97]).length = 21 := by
    simp only [List.length_append, wideB_len, textB_len, List.length_nil, List.length_cons]
  rw [end_eq _ (by rw [hl]; omega)]
  simp only [Option.bind_some, ofNat_len, hl, decide_true, cond_true]
  rw [run_eq [(1, 1, [UInt8.ofNat 97], ())] (by simp) 0 0]
  have : RightE (1, 1, [UInt8.ofNat 97], ()) ∧ (1 : Int) - 1 = 0 ∧ (0 : Int) ≤ 1 := ⟨hr, by omega, by omega⟩
  simp only [runP, this, and_self, decide_true, cond_true, Option.bind_some]
  rfl
theorem few_ex (l : List Ent) (n : Int) (hl : l.length ≤ 9223372036854775806) : ∃ b, F8 (l, n, ()) = some (b, ()) := by
  unfold F8
  obtain ⟨r, h, _⟩ := iter_inv (T := Int × Int × Unit) (R := Bool × Unit) (step := fun (x_1 : Int × Int × Unit) =>
      bif decide (x_1.snd.fst < Int.ofNat (List.length l)) then
        Option.bind (idx l x_1.snd.fst) fun (b : Ent) =>
          bif decide (n ≤ x_1.snd.fst) then some (Sum.inr (false, ()))
          else
            bif decide (40000 < wrap64 (x_1.fst + Int.ofNat (List.length b.snd.snd.fst))) then
              some (Sum.inr (false, ()))
            else
              some
                (Sum.inl
                  (wrap64 (x_1.fst + Int.ofNat (List.length b.snd.snd.fst)),
                    wrap64 (x_1.snd.fst + 1), ()))
      else some (Sum.inr (true, ()))) (I := fun t => ∃ (i : Nat) (a : Int), i ≤ l.length ∧ t = (a, (i : Int), ())) (μ := fun t => l.length - t.2.1.toNat) (Q := fun _ _ => True) (fun t ht => by
        obtain ⟨i, a, hi, rfl⟩ := ht
        by_cases h : i < l.length
        · simp only [lt_len, h, decide_true, cond_true, idx_nat, List.getElem?_eq_getElem h, Option.bind_some]
          cases decide (n ≤ (i : Int)) with
          | true => exact .inl ⟨_, rfl, trivial⟩
          | false =>
            cases decide (40000 < wrap64 (a + Int.ofNat (l[i].2.2.1).length)) with
            | true => exact .inl ⟨_, rfl, trivial⟩
            | false =>
              right
              rw [wrap64_nat (show i < 9223372036854775807 by omega)]
              exact ⟨_, rfl, ⟨i + 1, _, h, rfl⟩, by simp only [Int.toNat_natCast]; omega, fun _ h => h⟩
        · left
          have : i = l.length := by omega
          subst this
          exact ⟨(true, ()), by simp [lt_len], trivial⟩) (n := big) (t := (0, 0, ())) ⟨0, 0, Nat.zero_le _, rfl⟩ (by rw [big_eq]; simp; omega)
  obtain ⟨b, ⟨⟩⟩ := r
  exact ⟨b, h⟩
theorem hard_same (x : (Int × Int × Unit) × Unit) : F13 x = F14 x := by
  obtain ⟨⟨a, b, ⟨⟩⟩, ⟨⟩⟩ := x
  unfold F13 F14
  have : decide (b < 3) = decide (b ≤ 2) := by rw [decide_eq_decide]; omega
  simp only [this]
theorem snap_same (x : Ent × Unit) : F15 x = F16 x := by
  unfold F15 F16
  simp only [number_eq, refNumber_eq]
theorem hard_ex (x : (Int × Int × Unit) × Unit) : ∃ b, F14 x = some (b, ()) := by
  unfold F14
  cases decide (0 ≤ x.fst.fst) <;> cases decide (x.fst.fst ≤ 1099511627776) <;> cases decide (-1 ≤ x.fst.snd.fst) <;> exact ⟨_, rfl⟩
theorem snap_ex (x : Ent × Unit) : ∃ b, F16 x = some (b, ()) := by
  unfold F16
  simp only [refNumber_eq, Option.bind_some]
  cases decide (x.fst.fst = 0) <;> cases decide (x.fst.snd.fst = 0) <;> cases decide (Num x.fst.fst) <;> cases decide (Num x.fst.snd.fst) <;> exact ⟨_, rfl⟩
theorem law3 (x : (argTy P3).den) (hx : Fit47 (argTy P3) x) : F3 x = some (true, ()) := by
  obtain ⟨l, index, term, h, s, ⟨⟩⟩ : List Ent × Int × Int × (Int × Int × Unit) × Ent × Unit := x
  obtain ⟨⟨hl, -⟩, -⟩ := hx
  have hl' : l.length ≤ 140737488351232 := hl
  unfold F3
  obtain ⟨fb, hf⟩ := few_ex l 40 (by omega)
  simp only [awake_eq, Option.bind_some, Bool.not_true, cond_false, hf]
  cases fb with
  | false => rfl
  | true =>
    simp only [Bool.not_true, cond_false]
    refine Eq.trans (congrArg (fun z => cond _ (some (true, ())) z) ?_) (same_cond _ _)
    refine iter_true (T := Int × Unit) (fun t => ∃ (i : Nat), i ≤ l.length ∧ t = ((i : Int), ())) (fun t => l.length - t.1.toNat) (fun t ht => ?_) ⟨0, Nat.zero_le _, rfl⟩ (by simp; omega)
    obtain ⟨i, hi, rfl⟩ := ht
    by_cases hlt : i < l.length
    · right
      refine ⟨(((i + 1 : Nat) : Int), ()), ?_, ⟨i + 1, hlt, rfl⟩, by simp only [Int.toNat_natCast]; omega⟩
      simp only [lt_len, hlt, decide_true, cond_true, idx_nat, List.getElem?_eq_getElem hlt, Option.bind_some, right_eq, refRight_eq, BEq.rfl, Bool.not_true, cond_false, wrap64_nat (show i < 9223372036854775807 by omega)]
    · left
      have : i = l.length := by omega
      subst this
      obtain ⟨b1, e1⟩ := hard_ex (h, ())
      obtain ⟨b2, e2⟩ := snap_ex (s, ())
      simp only [lt_len, Nat.lt_irrefl, decide_false, cond_false, run_eq l (by omega), refRun_eq index l (by omega), hard_same, snap_same, e1, e2, Option.bind_some, BEq.rfl, cond_true]
      rfl
end Go.Proofs.Ytlcckfcjchghbaa
