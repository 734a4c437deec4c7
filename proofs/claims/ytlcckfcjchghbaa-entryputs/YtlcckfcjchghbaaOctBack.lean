/-
  Octets: the document's bytes, and the way back.
-/
import Derived.Test.YtlcckfcjchghbaaOctIn
namespace Go.Proofs.Ytlcckfcjchghbaa
open Go.Sx Go Classical
set_option maxRecDepth 10000
theorem refWide_eq {v : Int} (h0 : 0 ≤ v) (h1 : v < 18446744073709551616) (n : Nat) (hn : n ≤ 8) : F61 (v, (n : Int), ()) = some (wideB v n, ()) := by
  unfold F61
  have e0 : (mkO 0 (n : Int) (n : Int) : Option (List UInt8)) = some (List.replicate n 0) := by
    unfold mkO
    have : (0 : Int) ≤ n ∧ (n : Int) ≤ n ∧ (n : Int) ≤ (capB : Int) := ⟨by omega, by omega, by simp [capB]; omega⟩
    simp [this]
  simp only [e0, Option.bind_some]
  have main : ∀ (d i m : Nat), i + d = n → d < m →
      iter (T := Int × List UInt8 × Int × Unit) (R := List UInt8 × Unit) (fun (x_1 : Int × List UInt8 × Int × Unit) =>
        bif decide (x_1.snd.snd.fst < (n : Int)) then
          Option.bind
            (idxN x_1.snd.fst (wrap64 (wrap64 ((n : Int) - 1) - x_1.snd.snd.fst)))
            fun (b : Nat) =>
            Option.bind x_1.snd.fst[b]? fun (b_1 : UInt8) =>
              Option.bind (quoO IntKind.u64 x_1.fst 256) fun (b_2 : Int) =>
                some
                  (Sum.inl
                    (b_2, List.set x_1.snd.fst b (Sx.byteOf (IntKind.wrap IntKind.u8 x_1.fst)),
                      wrap64 (x_1.snd.snd.fst + 1), ()))
        else some (Sum.inr (x_1.snd.fst, ()))) m (v / 256 ^ i, List.replicate d 0 ++ wideB v i, (i : Int), ()) = some (wideB v n, ()) := by
    intro d
    induction d with
    | zero =>
      intro i m hi hm
      cases m with
      | zero => omega
      | succ m =>
        have : i = n := by omega
        subst this
        simp [iter]
    | succ d ih =>
      intro i m hi hm
      cases m with
      | zero => omega
      | succ m =>
        have e1 : decide ((i : Int) < (n : Int)) = true := decide_eq_true (by omega)
        have e2 : wrap64 ((n : Int) - 1) = (n : Int) - 1 := wrap64_eq (by omega) (by omega)
        have e3 : wrap64 (wrap64 ((n : Int) - 1) - (i : Int)) = (d : Int) := by rw [e2, wrap64_eq (by omega) (by omega)]; omega
        have hlen : (List.replicate (d + 1) (0 : UInt8) ++ wideB v i).length = d + 1 + i := by simp [wideB_len]
        have e4 : idxN (List.replicate (d + 1) (0 : UInt8) ++ wideB v i) (d : Int) = some d := by
          unfold idxN
          have : (0 : Int) ≤ (d : Int) ∧ (d : Int) < ((List.replicate (d + 1) (0 : UInt8) ++ wideB v i).length : Int) := ⟨by omega, by rw [hlen]; omega⟩
          simp only [this, and_self, decide_true, cond_true, Int.toNat_natCast]
        have e5 : (List.replicate (d + 1) (0 : UInt8) ++ wideB v i)[d]? = some 0 := by
          rw [List.getElem?_append_left (by simp)]; simp
        have hr := div_range h0 h1 i
        have e6 : quoO IntKind.u64 (v / 256 ^ i) 256 = some (v / 256 ^ (i + 1)) := by
          unfold quoO
          have : decide ((256 : Int) = 0) = false := by decide
          have ht : (v / 256 ^ i).tdiv 256 = v / 256 ^ (i + 1) := by
            rw [Int.tdiv_eq_ediv_of_nonneg hr.1, Int.ediv_ediv_of_nonneg (Int.le_of_lt (pow_pos256 i)), Int.pow_succ]
          have hr2 := div_range h0 h1 (i + 1)
          rw [this, ht, wrapU64 hr2.1 hr2.2]
          rfl
        have e7 : (List.replicate (d + 1) (0 : UInt8) ++ wideB v i).set d (Sx.byteOf (IntKind.wrap IntKind.u8 (v / 256 ^ i))) = List.replicate d 0 ++ wideB v (i + 1) := by
          rw [List.replicate_succ', List.append_assoc, List.set_append_right _ _ (by simp)]
          simp [wideB, byteAt, wrapU8]
        simp only [iter, e1, cond_true, e3, e4, e5, e6, e7, Option.bind_some, Sum.elim_inl]
        rw [show wrap64 ((i : Int) + 1) = ((i + 1 : Nat) : Int) from wrap64_nat (by omega)]
        exact ih (i + 1) m (by omega) (by omega)
  have := main n 0 big (by omega) (by rw [big_eq]; omega)
  simp only [Int.pow_zero, Int.ediv_one, wideB, List.append_nil] at this
  exact this
theorem refCountB_eq (n : Int) : F65 (n, ()) = some (wideB (IntKind.wrap .u64 n) 4, ()) := by
  unfold F65
  have hw := wrapU64_mod n
  have h : F61 (IntKind.wrap .u64 n, 4, ()) = _ := refWide_eq (v := IntKind.wrap .u64 n) (by omega) (by omega) 4 (by omega)
  simp only [h, Option.bind_some]
theorem refNumB_eq (n : Int) : F52 (n, ()) = some (wideB (IntKind.wrap .u64 n) 8, ()) := by
  unfold F52
  have hw := wrapU64_mod n
  have h : F61 (IntKind.wrap .u64 n, 8, ()) = _ := refWide_eq (v := IntKind.wrap .u64 n) (by omega) (by omega) 8 (by omega)
  simp only [h, Option.bind_some]
theorem refTextB_eq (s : List UInt8) (h : s.length ≤ 140737488351232) : F60 (s, ()) = some (textB s, ()) := by
  unfold F60 textB
  simp only [refCountB_eq, Option.bind_some]
  rw [appU_eq (by simp only [wideB_len]; omega)]
  rfl
theorem wrap_back {n : Int} (h1 : -9223372036854775808 ≤ n) (h2 : n ≤ 9223372036854775807) : wrap64 (IntKind.wrap .u64 n) = n := by
  rw [wrapU64_mod]
  show IntKind.wrap .i64 _ = n
  simp only [IntKind.wrap, IntKind.bits, IntKind.signed]
  simp
  omega
theorem done_eq (s : In) : F37 (s, ()) = some ((bif !s.2.1 then decide (Int.ofNat s.1.length = 0) else false), s, ()) := by
  unfold F37
  obtain ⟨b, bad, ⟨⟩⟩ := s
  cases bad <;> rfl
end Go.Proofs.Ytlcckfcjchghbaa
