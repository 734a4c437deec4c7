/-
  Octets: what was put is what is taken; the law of what is cut off.
-/
import Derived.Test.YtchknfdjnkalkaaOctetsLawA
import Derived.Test.YtchknfdjnkalkaaOctPut
namespace Go.Proofs.Ytchknfdjnkalkaa
open Go.Sx Go Classical
set_option maxRecDepth 10000
theorem dec_nat : ∀ (l : List UInt8) (a : Nat), (a + 1) * 256 ^ l.length ≤ 18446744073709551616 → l.foldl decStep (a : Int) = ((l.foldl (fun a b => a * 256 + b.toNat) a : Nat) : Int)
  | [], a, _ => rfl
  | b :: r, a, h => by
    have hb := b.toNat_lt
    have h1 : (a + 1) * 256 * 256 ^ r.length ≤ 18446744073709551616 := by
      rw [List.length_cons, Nat.pow_succ, Nat.mul_comm (256 ^ r.length), ← Nat.mul_assoc] at h; exact h
    have h2 : (a + 1) * 256 ≤ 18446744073709551616 := Nat.le_trans (Nat.le_mul_of_pos_right _ (Nat.pow_pos (by decide))) h1
    have e : decStep (a : Int) b = ((a * 256 + b.toNat : Nat) : Int) := by unfold decStep; omega
    rw [List.foldl_cons, e, dec_nat r (a * 256 + b.toNat) (Nat.le_trans (Nat.mul_le_mul_right _ (by omega)) h1)]
    rfl
theorem byteAt_nat (w n : Nat) : (byteAt (w : Int) n).toNat = w / 256 ^ n % 256 := by
  unfold byteAt Sx.byteOf
  have e : (w : Int) / 256 ^ n % 256 = ((w / 256 ^ n % 256 : Nat) : Int) := by simp
  rw [e, Int.toNat_natCast]
  simp
theorem wide_nat (w : Nat) : ∀ (n a : Nat), (wideB (w : Int) n).foldl (fun a b => a * 256 + b.toNat) a = a * 256 ^ n + w % 256 ^ n
  | 0, a => by simp [wideB, Nat.mod_one]
  | n + 1, a => by
    simp only [wideB, List.foldl_cons]
    rw [wide_nat w n, byteAt_nat, Nat.pow_succ, Nat.mod_mul, Nat.add_mul, Nat.mul_assoc, Nat.mul_comm 256 (256 ^ n), Nat.mul_comm (w / 256 ^ n % 256)]
    omega
theorem dec_wide (w n : Nat) (hn : n ≤ 8) : dec (wideB (w : Int) n) = ((w % 256 ^ n : Nat) : Int) := by
  unfold dec
  have h : (0 + 1) * 256 ^ (wideB (w : Int) n).length ≤ 18446744073709551616 := by
    rw [wideB_len, Nat.zero_add, Nat.one_mul]
    exact Nat.pow_le_pow_right (n := 256) (by decide) hn
  have := dec_nat (wideB (w : Int) n) 0 h
  rw [wide_nat, Nat.zero_mul, Nat.zero_add] at this
  exact this
theorem takeI_app (p r : List UInt8) : takeI (p ++ r, false, ()) p.length = (p, (r, false, ())) := by
  simp [takeI]
theorem numI_wide (w n : Nat) (hn : n ≤ 8) (r : List UInt8) : numI (wideB (w : Int) n ++ r, false, ()) n = (((w % 256 ^ n : Nat) : Int), (r, false, ())) := by
  unfold numI
  have := takeI_app (wideB (w : Int) n) r
  rw [wideB_len] at this
  rw [this, dec_wide w n hn]
theorem wrapLen (s : List UInt8) (h : s.length < 4294967296) : IntKind.wrap .u64 (Int.ofNat s.length) = ((s.length : Nat) : Int) := wrapU64 (by simp) (by simp; omega)
theorem numI_text (s r : List UInt8) (h : s.length < 4294967296) : numI (textB s ++ r, false, ()) 4 = ((s.length : Int), (s ++ r, false, ())) := by
  unfold textB
  rw [wrapLen s h, List.append_assoc, numI_wide _ 4 (by omega), Nat.mod_eq_of_lt (by omega)]
theorem textI_bad (s : In) (m : Int) (h : (countI s m) = (0, badI)) : textI s m = ([], badI) := by
  unfold textI
  rw [h]
  rfl
theorem textI_text (s r : List UInt8) (h : s.length < 4294967296) (m : Int) (hm : (s.length : Int) ≤ m) : textI (textB s ++ r, false, ()) m = (s, (r, false, ())) := by
  unfold textI countI
  rw [numI_text s r h]
  have : (0 ≤ m ∧ (s.length : Int) ≤ m ∧ (s.length : Int) ≤ ((s ++ r).length : Int)) := ⟨by omega, hm, by simp only [List.length_append]; omega⟩
  simp only [this, and_self, decide_true, cond_true, Int.toNat_natCast]
  exact takeI_app s r
theorem textB_len (s : List UInt8) : (textB s).length = s.length + 4 := by simp [textB, wideB_len]; omega
theorem end_eq (b : List UInt8) (h : b.length ≤ 60000) : F10 ((b, ()), ()) = some (b, 0, (b, ()), ()) := by
  unfold F10
  have e : decide ((60000 : Int) < Int.ofNat b.length) = false := decide_eq_false (by simp; omega)
  simp only [e, cond_false, clone_eq b (by omega), Option.bind_some]
theorem awake_eq : F8 () = some (true, ()) := by
  unfold F8
  rw [outText_eq [] [97, 98] (by simp)]
  simp only [Option.bind_some, List.nil_append]
  have hl := textB_len [97, 98]
  simp only [List.length_cons, List.length_nil] at hl
  rw [end_eq (textB [97, 98]) (by omega)]
  simp only [Option.bind_some, decide_true, cond_true]
  rw [newIn_eq (textB [97, 98]) (by omega)]
  simp only [Option.bind_some]
  rw [inText_eq _ 2 (by omega) (by simp only [hl]; omega)]
  have := textI_text [97, 98] [] (by simp) 2 (by simp)
  rw [List.append_nil] at this
  simp only [Option.bind_some, this, decide_true]
  have e : textB [97, 98] = [0, 0, 0, 2, 97, 98] := rfl
  simp only [e, decide_true, cond_true]
theorem law3 (x : (argTy P3).den) (hx : Fit47 (argTy P3) x) : F3 x = some (true, ()) := by
  obtain ⟨s, cut, less, ⟨⟩⟩ : List UInt8 × Int × Int × Unit := x
  obtain ⟨hs, hc, hl, -⟩ := hx
  have hc' : 0 ≤ cut ∧ cut ≤ 65535 := hc
  have hl' : 0 ≤ less ∧ less ≤ 65535 := hl
  unfold F3
  simp only [awake_eq, Option.bind_some, Bool.not_true, cond_false]
  by_cases hg : (3000 : Int) < Int.ofNat s.length
  · simp only [hg, decide_true, cond_true]
  · have hg' : s.length ≤ 3000 := by simp at hg; omega
    have ht := textB_len s
    simp only [hg, decide_false, cond_false]
    rw [outText_eq [] s (by simp; omega)]
    simp only [Option.bind_some, List.nil_append]
    rw [end_eq (textB s) (by omega)]
    have e1 : wrap64 (Int.ofNat s.length + 4) = Int.ofNat (textB s).length := by rw [ofNat_len, ofNat_len, ht, wrap64_eq (by omega) (by omega)]; rfl
    simp only [Option.bind_some, decide_true, e1, Bool.not_true, cond_false]
    have e2 : wrap64 cut = cut := wrap64_eq (by omega) (by omega)
    have e3 : wrap64 less = less := wrap64_eq (by omega) (by omega)
    have e4 : wrap64 (wrap64 (Int.ofNat s.length - 1) - less) = (s.length : Int) - 1 - less := by rw [ofNat_len, wrap64_eq (x := (s.length : Int) - 1) (by omega) (by omega), wrap64_eq (by omega) (by omega)]
    obtain ⟨c, hcut⟩ : ∃ c : Nat, cut = (c : Int) := ⟨cut.toNat, by omega⟩
    have e5 : remO cut (Int.ofNat (textB s).length) = some ((c % (textB s).length : Nat) : Int) := by
      unfold remO
      have : decide (Int.ofNat (textB s).length = 0) = false := decide_eq_false (by rw [ofNat_len, ht]; omega)
      rw [this, hcut]
      rfl
    have hlt : c % (textB s).length < (textB s).length := Nat.mod_lt _ (by omega)
    have e6 : sliceO (textB s) 0 ((c % (textB s).length : Nat) : Int) = some ((textB s).take (c % (textB s).length)) := sliceO_take (Nat.le_of_lt hlt)
    rw [e2, e3, e4, e5]
    simp only [Option.bind_some, e6]
    rw [newIn_eq _ (by simp; omega), newIn_eq (textB s) (by omega)]
    simp only [Option.bind_some]
    rw [inText_eq _ (Int.ofNat s.length) (by rw [ofNat_len]; omega) (by simp; omega), inText_eq (textB s, false, ()) _ (by omega) (by simp only [ht]; omega)]
    have k2 : textI (textB s, false, ()) ((s.length : Int) - 1 - less) = ([], badI) := by
      apply textI_bad
      unfold countI
      have := numI_text s [] (by omega)
      rw [List.append_nil] at this
      rw [this]
      have : ¬ (0 ≤ (s.length : Int) - 1 - less ∧ (s.length : Int) ≤ (s.length : Int) - 1 - less ∧ (s.length : Int) ≤ ((s ++ []).length : Int)) := by omega
      simp only [this, decide_false, cond_false]
    have k1 : textI ((textB s).take (c % (textB s).length), false, ()) (Int.ofNat s.length) = ([], badI) := by
      generalize c % (textB s).length = d at hlt
      apply textI_bad
      unfold countI
      by_cases hd : d < 4
      · have : numI ((textB s).take d, false, ()) 4 = (0, badI) := by
          unfold numI takeI
          have : ¬ (4 ≤ ((textB s).take d).length) := by simp; omega
          simp only [this, decide_false, cond_false]
          rfl
        rw [this]
        have : (0 ≤ Int.ofNat s.length ∧ (0 : Int) ≤ Int.ofNat s.length ∧ (0 : Int) ≤ ((badI.1).length : Int)) := ⟨by simp, by simp, by simp⟩
        simp only [this, and_self, decide_true, cond_true]
      · have e : (textB s).take d = wideB ((s.length : Nat) : Int) 4 ++ s.take (d - 4) := by
          unfold textB
          rw [wrapLen s (by omega), List.take_append, wideB_len, List.take_of_length_le (by rw [wideB_len]; omega)]
        rw [e, numI_wide _ 4 (by omega), Nat.mod_eq_of_lt (by omega)]
        have : ¬ (0 ≤ Int.ofNat s.length ∧ ((s.length : Nat) : Int) ≤ Int.ofNat s.length ∧ ((s.length : Nat) : Int) ≤ ((s.take (d - 4)).length : Int)) := by
          simp; omega
        simp only [this, decide_false, cond_false]
    simp only [k1, k2, Option.bind_some, decide_true, cond_true, bad_eq, left_eq, badI]
    rfl
end Go.Proofs.Ytchknfdjnkalkaa
