/-
  Octets: the law of what is put.
-/
import Derived.Test.YtchknfdjnkalkaaOctetsLawB
namespace Go.Proofs.Ytchknfdjnkalkaa
open Go.Sx Go Classical
set_option maxRecDepth 10000
theorem iter_true {T R : Type} {step : T → Option (T ⊕ R)} {r0 : R} (I : T → Prop) (μ : T → Nat)
    (h : ∀ t, I t → step t = some (.inr r0) ∨ ∃ t', step t = some (.inl t') ∧ I t' ∧ μ t' < μ t) {t : T} (ht : I t) (hm : μ t < 9223372036854775808) : iter step big t = some r0 := by
  obtain ⟨r, h1, h2⟩ := iter_inv (step := step) (I := I) (μ := μ) (Q := fun _ r => r = r0) (fun t ht => by
    rcases h t ht with h | ⟨t', h1, h2, h3⟩
    · exact .inl ⟨_, h, rfl⟩
    · exact .inr ⟨t', h1, h2, h3, fun r h => h⟩) (n := big) ht (by rw [big_eq]; omega)
  rw [h1, h2]
theorem refWide_eq {v : Int} (h0 : 0 ≤ v) (h1 : v < 18446744073709551616) (n : Nat) (hn : n ≤ 8) : F46 (v, (n : Int), ()) = some (wideB v n, ()) := by
  unfold F46
  have e0 : (mkO 0 (n : Int) (n : Int) : Option (List UInt8)) = some (List.replicate n 0) := by
    unfold mkO
    have : (0 : Int) ≤ n ∧ (n : Int) ≤ n ∧ (n : Int) ≤ (capB : Int) := ⟨by omega, by omega, by simp [capB]; omega⟩
    simp [this]
  simp only [e0, Option.bind_some]
  have main : ∀ (d i m : Nat), i + d = n → d < m →
      iter (T := Int × List UInt8 × Int × Unit) (R := List UInt8 × Unit) (fun (x_1 : Int × List UInt8 × Int × Unit) =>
        bif decide (x_1.snd.snd.fst < (n : Int)) then
          Option.bind
            (idxN x_1.snd.fst (wrap64 (wrap64 ((n : Int) - 1) - x_1.snd.snd.fst)))
            fun (b : Nat) =>
            Option.bind x_1.snd.fst[b]? fun (b_1 : UInt8) =>
              Option.bind (quoO IntKind.u64 x_1.fst 256) fun (b_2 : Int) =>
                some
                  (Sum.inl
                    (b_2, List.set x_1.snd.fst b (Sx.byteOf (IntKind.wrap IntKind.u8 x_1.fst)),
                      wrap64 (x_1.snd.snd.fst + 1), ()))
        else some (Sum.inr (x_1.snd.fst, ()))) m (v / 256 ^ i, List.replicate d 0 ++ wideB v i, (i : Int), ()) = some (wideB v n, ()) := by
    intro d
    induction d with
    | zero =>
      intro i m hi hm
      cases m with
      | zero => omega
      | succ m =>
        have : i = n := by omega
        subst this
        simp [iter]
    | succ d ih =>
      intro i m hi hm
      cases m with
      | zero => omega
      | succ m =>
        have e1 : decide ((i : Int) < (n : Int)) = true := decide_eq_true (by omega)
        have e2 : wrap64 ((n : Int) - 1) = (n : Int) - 1 := wrap64_eq (by omega) (by omega)
        have e3 : wrap64 (wrap64 ((n : Int) - 1) - (i : Int)) = (d : Int) := by rw [e2, wrap64_eq (by omega) (by omega)]; omega
        have hlen : (List.replicate (d + 1) (0 : UInt8) ++ wideB v i).length = d + 1 + i := by simp [wideB_len]
        have e4 : idxN (List.replicate (d + 1) (0 : UInt8) ++ wideB v i) (d : Int) = some d := by
          unfold idxN
          have : (0 : Int) ≤ (d : Int) ∧ (d : Int) < ((List.replicate (d + 1) (0 : UInt8) ++ wideB v i).length : Int) := ⟨by omega, by rw [hlen]; omega⟩
          simp only [this, and_self, decide_true, cond_true, Int.toNat_natCast]
        have e5 : (List.replicate (d + 1) (0 : UInt8) ++ wideB v i)[d]? = some 0 := by
          rw [List.getElem?_append_left (by simp)]; simp
        have hr := div_range h0 h1 i
        have e6 : quoO IntKind.u64 (v / 256 ^ i) 256 = some (v / 256 ^ (i + 1)) := by
          unfold quoO
          have : decide ((256 : Int) = 0) = false := by decide
          have ht : (v / 256 ^ i).tdiv 256 = v / 256 ^ (i + 1) := by
            rw [Int.tdiv_eq_ediv_of_nonneg hr.1, Int.ediv_ediv_of_nonneg (Int.le_of_lt (pow_pos256 i)), Int.pow_succ]
          have hr2 := div_range h0 h1 (i + 1)
          rw [this, ht, wrapU64 hr2.1 hr2.2]
          rfl
        have e7 : (List.replicate (d + 1) (0 : UInt8) ++ wideB v i).set d (Sx.byteOf (IntKind.wrap IntKind.u8 (v / 256 ^ i))) = List.replicate d 0 ++ wideB v (i + 1) := by
          rw [List.replicate_succ', List.append_assoc, List.set_append_right _ _ (by simp)]
          simp [wideB, byteAt, wrapU8]
        simp only [iter, e1, cond_true, e3, e4, e5, e6, e7, Option.bind_some, Sum.elim_inl]
        rw [show wrap64 ((i : Int) + 1) = ((i + 1 : Nat) : Int) from wrap64_nat (by omega)]
        exact ih (i + 1) m (by omega) (by omega)
  have := main n 0 big (by omega) (by rw [big_eq]; omega)
  simp only [Int.pow_zero, Int.ediv_one, wideB, List.append_nil] at this
  exact this
abbrev Item : Type := UInt8 × Int × List UInt8 × Unit
/-- an item's bytes -/
def putB (x : Item) : List UInt8 :=
  bif decide (intOf8 x.1 = intOf8 (UInt8.ofNat 0)) then [Sx.byteOf (IntKind.wrap IntKind.u8 x.2.1)]
  else bif decide (intOf8 x.1 = intOf8 (UInt8.ofNat 1)) then [bif !decide (x.2.1.tmod 2 = 0) then UInt8.ofNat 1 else UInt8.ofNat 0]
  else bif decide (intOf8 x.1 = intOf8 (UInt8.ofNat 2)) then wideB (IntKind.wrap .u64 x.2.1) 4
  else bif decide (intOf8 x.1 = intOf8 (UInt8.ofNat 3)) then wideB (IntKind.wrap .u64 x.2.1) 8
  else textB x.2.2.1
theorem rem2 (n : Int) : remO n 2 = some (n.tmod 2) := by unfold remO; rfl
theorem putB_len (x : Item) : (putB x).length ≤ 8 + x.2.2.1.length := by
  unfold putB
  cases decide (intOf8 x.1 = intOf8 (UInt8.ofNat 0)) with
  | true => simp; omega
  | false =>
    cases decide (intOf8 x.1 = intOf8 (UInt8.ofNat 1)) with
    | true => simp; omega
    | false =>
      cases decide (intOf8 x.1 = intOf8 (UInt8.ofNat 2)) with
      | true => simp only [cond_true, cond_false, wideB_len]; omega
      | false =>
        cases decide (intOf8 x.1 = intOf8 (UInt8.ofNat 3)) with
        | true => simp only [cond_true, cond_false, wideB_len]; omega
        | false => simp only [cond_false, textB_len]; omega
theorem put_eq (b : List UInt8) (x : Item) (hb : b.length + 8 + x.2.2.1.length ≤ 140737488355000) : F18 ((b, ()), x, ()) = some ((b ++ putB x, ()), ()) := by
  obtain ⟨k, n, s, ⟨⟩⟩ := x
  have hb' : b.length + 8 + s.length ≤ 140737488355000 := hb
  unfold F18 putB
  simp only [outByte_eq b _ (show b.length + 1 ≤ 140737488355000 by omega), rem2, outFlag_eq b _ (show b.length + 1 ≤ 140737488355000 by omega), outCount_eq b n (by omega), outNum_eq b n (by omega), outText_eq b s (by omega), outBytes_eq b s (by omega), Option.bind_some]
  cases decide (intOf8 k = intOf8 (UInt8.ofNat 0)) with
  | true => rfl
  | false =>
    cases decide (intOf8 k = intOf8 (UInt8.ofNat 1)) with
    | true => rfl
    | false =>
      cases decide (intOf8 k = intOf8 (UInt8.ofNat 2)) with
      | true => rfl
      | false =>
        cases decide (intOf8 k = intOf8 (UInt8.ofNat 3)) with
        | true => rfl
        | false => cases decide (intOf8 k = intOf8 (UInt8.ofNat 4)) <;> rfl
theorem refPut_eq (x : Item) (hb : x.2.2.1.length ≤ 140737488351232) : F19 (x, ()) = some (putB x, ()) := by
  obtain ⟨k, n, s, ⟨⟩⟩ := x
  have hb' : s.length ≤ 140737488351232 := hb
  have w4 : ∀ n : Int, F39 (n, ()) = some (wideB (IntKind.wrap .u64 n) 4, ()) := fun n => by
    unfold F39
    have hw := wrapU64_mod n
    have h : F46 (IntKind.wrap .u64 n, 4, ()) = _ := refWide_eq (v := IntKind.wrap .u64 n) (by omega) (by omega) 4 (by omega)
    simp only [h, Option.bind_some]
  have w8 : F40 (n, ()) = some (wideB (IntKind.wrap .u64 n) 8, ()) := by
    unfold F40
    have hw := wrapU64_mod n
    have h : F46 (IntKind.wrap .u64 n, 8, ()) = _ := refWide_eq (v := IntKind.wrap .u64 n) (by omega) (by omega) 8 (by omega)
    simp only [h, Option.bind_some]
  have wt : F41 (s, ()) = some (textB s, ()) := by
    unfold F41 textB
    simp only [w4, Option.bind_some]
    rw [appU_eq (by simp only [wideB_len]; omega)]
    rfl
  have wf : ∀ b : Bool, F38 (b, ()) = some ([bif b then UInt8.ofNat 1 else UInt8.ofNat 0], ()) := fun b => by cases b <;> rfl
  unfold F19 putB
  simp only [w4, w8, wt, wf, rem2, Option.bind_some]
  cases decide (intOf8 k = intOf8 (UInt8.ofNat 0)) with
  | true => rfl
  | false =>
    cases decide (intOf8 k = intOf8 (UInt8.ofNat 1)) with
    | true => rfl
    | false =>
      cases decide (intOf8 k = intOf8 (UInt8.ofNat 2)) with
      | true => rfl
      | false => cases decide (intOf8 k = intOf8 (UInt8.ofNat 3)) <;> rfl
theorem law5 (x : (argTy P5).den) : F5 x = some (true, ()) := by
  obtain ⟨l, ⟨⟩⟩ : List Item × Unit := x
  unfold F5
  simp only [awake_eq, Option.bind_some, Bool.not_true, cond_false]
  by_cases hg : (200 : Int) < Int.ofNat l.length
  · simp only [hg, decide_true, cond_true]
  · have hg' : l.length ≤ 200 := by simp at hg; omega
    simp only [hg, decide_false, cond_false]
    refine iter_true (T := List UInt8 × Int × List UInt8 × Unit) (fun t => ∃ (i : Nat) (w : List UInt8), i ≤ l.length ∧ w.length ≤ 150000 ∧ t = (w, (i : Int), w, ())) (fun t => l.length - t.2.1.toNat) (fun t ht => ?_) ⟨0, [], Nat.zero_le _, Nat.zero_le _, rfl⟩ (by omega)
    obtain ⟨i, w, hi, hw, rfl⟩ := ht
    by_cases h : i < l.length
    · simp only [lt_len, h, decide_true, cond_true, idx_nat, List.getElem?_eq_getElem h, Option.bind_some]
      by_cases h1 : (40000 : Int) < Int.ofNat (l[i].2.2.1).length
      · left; simp only [h1, decide_true, cond_true]
      · by_cases h2 : (100000 : Int) < Int.ofNat w.length
        · left; simp only [h1, h2, decide_true, decide_false, cond_true, cond_false]
        · right
          have h1' : (l[i].2.2.1).length ≤ 40000 := by rw [ofNat_len] at h1; omega
          have h2' : w.length ≤ 100000 := by rw [ofNat_len] at h2; omega
          have hl := putB_len l[i]
          simp only [h1, h2, decide_false, cond_false]
          rw [put_eq w l[i] (by omega), refPut_eq l[i] (by omega)]
          simp only [Option.bind_some]
          rw [appU_eq (by omega), wrap64_nat (show i < 9223372036854775807 by omega)]
          simp only [Option.bind_some]
          exact ⟨_, rfl, ⟨i + 1, w ++ putB l[i], h, by simp only [List.length_append]; omega, rfl⟩, by simp only [Int.toNat_natCast]; omega⟩
    · left
      have : i = l.length := by omega
      subst this
      simp only [lt_len, Nat.lt_irrefl, decide_false, cond_false]
      by_cases h3 : (60000 : Int) < Int.ofNat w.length
      · have he : F10 ((w, ()), ()) = some ([], 3, (w, ()), ()) := by
          unfold F10
          simp only [h3, decide_true, cond_true]
        simp only [he, h3, decide_true, cond_true, Option.bind_some]
        rfl
      · have h3' : w.length ≤ 60000 := by rw [ofNat_len] at h3; omega
        simp only [end_eq w h3', h3, decide_true, decide_false, cond_true, cond_false, Option.bind_some]
        rfl
end Go.Proofs.Ytchknfdjnkalkaa
