/-
  Call: ticks and what is heard; the laws of turns and of answers.
-/
import Derived.Test.YtkiakaokgoodhaaGreatCallLawA
namespace Go.Proofs.YtkiakaokgoodhaaGreat
open Go.Sx Go Classical
set_option maxRecDepth 10000
theorem turn_rem {t n : Int} (ht : 0 ≤ t) (h : t ≤ 1000) (hn : 1 ≤ n) : remO (wrap64 (t + 1)) n = some ((t + 1) % n) := by
  have e : wrap64 (t + 1) = t + 1 := wrap64_eq (by omega) (by omega)
  unfold remO
  rw [e, decide_eq_false (by omega), Int.tmod_eq_emod_of_nonneg (by omega)]
  rfl
theorem tickWait (self site n pat rid tgt wt : Int) (m : TMD) (h : wrap64 (wt + 1) < pat) : F14 ((self, site, n, pat, rid, tgt, wt, true, m, ()), ()) = some (NoP, false, (self, site, n, pat, rid, tgt, wrap64 (wt + 1), true, m, ()), ()) := by
  unfold F14
  simp only [Bool.not_true, cond_false, decide_eq_true h, cond_true]
theorem tickTurn (self site n pat rid tgt wt : Int) (m : TMD) (hn : 1 ≤ n ∧ n ≤ 3) (ht : 0 ≤ tgt ∧ tgt < n) (h : wrap64 (wt + 1) = pat) (hc : CapT m) : F14 ((self, site, n, pat, rid, tgt, wt, true, m, ()), ()) = some ((self, wrap64 (wrap64 (4 * site) + (tgt + 1) % n), m, ()), true, (self, site, n, pat, rid, (tgt + 1) % n, 0, true, m, ()), ()) := by
  have hr := turn_rem (n := n) ht.1 (by omega) hn.1
  unfold F14
  simp only [Bool.not_true, cond_false, h, Int.lt_irrefl, decide_false, decide_true, cond_true, hr, Option.bind_some]
  exact bind_of (parcel_eq _ _ _ _ _ _ _ _ _ hc) rfl
theorem map_of {R T : Type} {X : Option R} {r : R} (h : X = some r) : (Option.map Sum.inr X : Option (T ⊕ R)) = some (Sum.inr r) := by rw [h]; rfl
/-- the target behind so many turns -/
def tgN (n : Int) : Nat → Int
  | 0 => 0
  | k + 1 => (tgN n k + 1) % n
theorem tgN_eq (n : Int) : ∀ k : Nat, tgN n (k + 1) = ((k : Int) + 1) % n
  | 0 => rfl
  | k + 1 => by
    show (tgN n (k + 1) + 1) % n = _
    rw [tgN_eq n k, Int.emod_add_emod]
    rfl
theorem tgN_in {n : Int} (hn : 1 ≤ n) : ∀ k : Nat, 0 ≤ tgN n k ∧ tgN n k < n
  | 0 => ⟨by show (0 : Int) ≤ 0; omega, by show (0 : Int) < n; omega⟩
  | k + 1 => ⟨Int.emod_nonneg _ (by omega), Int.emod_lt_of_pos _ (by omega)⟩
theorem lawTurns (x : (argTy P3).den) (hx : Fit47 (argTy P3) x) (hm : FitM (argTy P3) x) : F3 x = some (true, ()) := by
  obtain ⟨self, site, n, pat, rid, m, ⟨⟩⟩ : Int × Int × Int × Int × Int × TMD × Unit := x
  have zm := szT hx.2.2.2.2.2.1
  obtain ⟨b, e1, g1⟩ := fewT_ex m zm.1 (handT_many hm.2.2.2.2.2.1)
  unfold F3
  simp only [awakeC_eq, Option.bind_some, Bool.not_true, cond_false]
  refine bind_of e1 ?_
  cases b with
  | false => rfl
  | true =>
    obtain ⟨s1, s2⟩ := g1 rfl
    simp only [Bool.not_true, cond_false, may_eq, Option.bind_some]
    by_cases hM : MayC self site n pat rid
    case neg =>
      simp only [dec_false hM, Bool.not_false, cond_true]
    simp only [dec_true hM, Bool.not_true, cond_false]
    refine bind_of (new_yes hM) ?_
    simp only [cond_true, decide_true, Bool.not_true, cond_false]
    by_cases h2 : m.1 < 2
    · simp only [h2, decide_true, cond_true]
    by_cases h7 : 7 < m.1
    · simp only [h2, h7, decide_true, decide_false, cond_true, cond_false]
    simp only [h2, h7, decide_false, cond_false]
    have zM : SzT (m.1, wrap64 (rid + 1), m.2.2) := zm
    refine bind_of (rTright_eq (m.1, wrap64 (rid + 1), m.2.2) zM) ?_
    by_cases hR : RightT (m.1, wrap64 (rid + 1), m.2.2)
    case neg =>
      simp only [dec_false hR, Bool.not_false, cond_true]
    have hB : Bnd (m.1, wrap64 (rid + 1), m.2.2) := ⟨zm.1, by show m.2.2.2.1.2.2.1.2.2.2.2.2.2.2.2.2.2.2.2.2.2.2.1.length ≤ _; omega, by show m.2.2.2.2.2.2.2.2.2.2.2.2.2.2.2.1.2.2.1.length ≤ _; omega⟩
    have hc := right_cap hB.1 hR hB.2.1 hB.2.2
    simp only [dec_true hR, Bool.not_true, cond_false, toT_eq, Option.bind_some]
    refine bind_of (askYes_eq self site n pat rid 0 0 NoT (m.1, wrap64 (rid + 1), m.2.2) hB ⟨by show 2 ≤ m.1; omega, by show m.1 ≤ 7; omega, hR⟩) ?_
    unfold MayC at hM
    have w4 : wrap64 (4 * site) = 4 * site := wrap64_eq (by omega) (by omega)
    have hS := rMsg_same (m.1, wrap64 (rid + 1), m.2.2) (m.1, wrap64 (rid + 1), m.2.2) hB.1
    rw [dec_true rfl] at hS
    simp only [w4, Int.add_zero, decide_true, Bool.not_true, cond_false]
    refine iter_count (mk := fun k => ((k : Int), self, site, n, pat, wrap64 (rid + 1), tgN n k, 0, true, (m.1, wrap64 (rid + 1), m.2.2), ())) (n := (2 * n).toNat) (by omega) (fun k hk => ?_) ?_
    · have w1 : wrap64 (2 * n) = 2 * n := wrap64_eq (by omega) (by omega)
      have d1 : decide ((k : Int) < 2 * n) = true := decide_eq_true (by omega)
      simp only [w1, d1, cond_true]
      have w2 : wrap64 (pat - 1) = pat - 1 := wrap64_eq (by omega) (by omega)
      refine iter_count (mk := fun j => ((j : Int), self, site, n, pat, wrap64 (rid + 1), tgN n k, (j : Int), true, (m.1, wrap64 (rid + 1), m.2.2), ())) (n := (pat - 1).toNat) (by omega) (fun j hj => ?_) ?_
      · have d2 : decide ((j : Int) < pat - 1) = true := decide_eq_true (by omega)
        have w3 : wrap64 ((j : Int) + 1) = ((j + 1 : Nat) : Int) := wrap64_nat (by omega)
        have d3 := tickWait self site n pat (wrap64 (rid + 1)) (tgN n k) (j : Int) (m.1, wrap64 (rid + 1), m.2.2) (by rw [w3]; omega)
        simp only [w2, d2, cond_true]
        refine bind_of d3 ?_
        simp only [cond_false, w3]
      · have d2 : decide ((((pat - 1).toNat : Nat) : Int) < pat - 1) = false := decide_eq_false (by omega)
        have w3 : wrap64 ((((pat - 1).toNat : Nat) : Int) + 1) = pat := by rw [wrap64_nat (by omega)]; omega
        have hk3 := turn_rem (t := (k : Int)) (n := n) (by omega) (by omega) (by omega)
        have wk : wrap64 ((k : Int) + 1) = ((k + 1 : Nat) : Int) := wrap64_nat (by omega)
        simp only [w2, d2, cond_false]
        refine map_of (bind_of (tickTurn self site n pat (wrap64 (rid + 1)) (tgN n k) _ (m.1, wrap64 (rid + 1), m.2.2) ⟨by omega, by omega⟩ (tgN_in (by omega) k) w3 hc) ?_)
        have ht : (tgN n k + 1) % n = ((k : Int) + 1) % n := tgN_eq n k
        simp only [w4, decide_true, Bool.not_true, cond_false, hk3, Option.bind_some, ht, ofT_eq]
        refine bind_of hS ?_
        simp only [Bool.not_true, cond_false, wk, ← ht]
        rfl
    · have w1 : wrap64 (2 * n) = 2 * n := wrap64_eq (by omega) (by omega)
      have d1 : decide ((((2 * n).toNat : Nat) : Int) < 2 * n) = false := decide_eq_false (by omega)
      simp only [w1, d1, cond_false]
end Go.Proofs.YtkiakaokgoodhaaGreat
