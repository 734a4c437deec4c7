/-
  Call: what a caller does; a nil caller.
-/
import Derived.Test.YtkiakaokgoodhaaGreatTalkLawE
namespace Go.Proofs.YtkiakaokgoodhaaGreat
open Go.Sx Go Classical
set_option maxRecDepth 10000
abbrev CD : Type := Int × Int × Int × Int × Int × Int × Int × Bool × TMD × Unit
abbrev PD : Type := Int × Int × TMD × Unit
abbrev NoP : PD := (0, 0, NoT, ())
def MayC (self site n pat rid : Int) : Prop := 8 ≤ self ∧ self ≤ 15 ∧ 0 ≤ site ∧ site ≤ 1 ∧ 1 ≤ n ∧ n ≤ 3 ∧ 1 ≤ pat ∧ pat ≤ 100 ∧ 0 ≤ rid ∧ rid ≤ 549755813888
theorem may_eq (self site n pat rid : Int) : F9 (self, site, n, pat, rid, ()) = some (dec' (MayC self site n pat rid), ()) := by
  unfold F9
  apply fin
  · repeat' first | apply base_true | apply base_false | apply base_dec | apply cond_step | apply cond_stepN
  · unfold MayC; grind
theorem new_yes {self site n pat rid : Int} (h : MayC self site n pat rid) : F10 (self, site, n, pat, rid, ()) = some ((true, self, site, n, pat, rid, 0, 0, false, NoT, ()), 0, ()) := by
  unfold MayC at h
  have f : ∀ {p : Prop} [Decidable p], ¬ p → decide p = false := fun h => decide_eq_false h
  unfold F10
  simp only [f (show ¬ self < 8 by omega), f (show ¬ (15 : Int) < self by omega), f (show ¬ site < 0 by omega), f (show ¬ (1 : Int) < site by omega), f (show ¬ n < 1 by omega), f (show ¬ (3 : Int) < n by omega), f (show ¬ pat < 1 by omega), f (show ¬ (100 : Int) < pat by omega), f (show ¬ rid < 0 by omega), f (show ¬ (549755813888 : Int) < rid by omega), cond_false]
theorem new_no {self site n pat rid : Int} (h : ¬ MayC self site n pat rid) : F10 (self, site, n, pat, rid, ()) = some ((false, 0, 0, 0, 0, 0, 0, 0, false, NoT, ()), 1, ()) := by
  unfold F10
  by_cases h1 : self < 8; · simp only [h1, decide_true, cond_true]
  by_cases h2 : (15 : Int) < self; · simp only [h1, h2, decide_true, decide_false, cond_true, cond_false]
  by_cases h3 : site < 0; · simp only [h1, h2, h3, decide_true, decide_false, cond_true, cond_false]
  by_cases h4 : (1 : Int) < site; · simp only [h1, h2, h3, h4, decide_true, decide_false, cond_true, cond_false]
  by_cases h5 : n < 1; · simp only [h1, h2, h3, h4, h5, decide_true, decide_false, cond_true, cond_false]
  by_cases h6 : (3 : Int) < n; · simp only [h1, h2, h3, h4, h5, h6, decide_true, decide_false, cond_true, cond_false]
  by_cases h7 : pat < 1; · simp only [h1, h2, h3, h4, h5, h6, h7, decide_true, decide_false, cond_true, cond_false]
  by_cases h8 : (100 : Int) < pat; · simp only [h1, h2, h3, h4, h5, h6, h7, h8, decide_true, decide_false, cond_true, cond_false]
  by_cases h9 : rid < 0; · simp only [h1, h2, h3, h4, h5, h6, h7, h8, h9, decide_true, decide_false, cond_true, cond_false]
  by_cases h10 : (549755813888 : Int) < rid; · simp only [h1, h2, h3, h4, h5, h6, h7, h8, h9, h10, decide_true, decide_false, cond_true, cond_false]
  exact absurd (show MayC self site n pat rid by unfold MayC; omega) h
def ansT (k : Int) : Int := if k = 2 ∨ k = 3 then 8 else if k = 4 then 9 else if k = 5 then 10 else if k = 6 then 11 else if k = 7 then 12 else 0
theorem ans_eq (k : Int) : F18 (k, ()) = some (ansT k, ()) := by
  by_cases h : 2 ≤ k ∧ k ≤ 7
  · have hk : k = 2 ∨ k = 3 ∨ k = 4 ∨ k = 5 ∨ k = 6 ∨ k = 7 := by omega
    rcases hk with e | e | e | e | e | e <;> (subst e; rfl)
  · have f : ∀ n : Int, 2 ≤ n → n ≤ 7 → decide (k = n) = false := fun n h1 h2 => decide_eq_false (by omega)
    have e : ansT k = 0 := by unfold ansT; rw [if_neg (by omega), if_neg (by omega), if_neg (by omega), if_neg (by omega), if_neg (by omega)]
    unfold F18
    simp only [e, f 2 (by omega) (by omega), f 3 (by omega) (by omega), f 4 (by omega) (by omega), f 5 (by omega) (by omega), f 6 (by omega) (by omega), f 7 (by omega) (by omega), cond_false]
theorem ans_zero {k : Int} : ansT k = 0 ↔ ¬ (2 ≤ k ∧ k ≤ 7) := by
  by_cases h : 2 ≤ k ∧ k ≤ 7
  · have hk : k = 2 ∨ k = 3 ∨ k = 4 ∨ k = 5 ∨ k = 6 ∨ k = 7 := by omega
    rcases hk with e | e | e | e | e | e <;> (subst e; decide)
  · have e : ansT k = 0 := by unfold ansT; rw [if_neg (by omega), if_neg (by omega), if_neg (by omega), if_neg (by omega), if_neg (by omega)]
    exact ⟨fun _ => h, fun _ => e⟩
theorem rAns_eq (k : Int) : F56 (k, ()) = some (ansT k, ()) := by
  obtain ⟨z, h1, h2⟩ := answer_same k
  rw [ans_eq k] at h1
  rw [h2, ← h1]
theorem parcel_eq (self site n pat rid tgt wt : Int) (o : Bool) (m : TMD) (h : CapT m) : F45 ((self, site, n, pat, rid, tgt, wt, o, m, ()), ()) = some ((self, wrap64 (wrap64 (4 * site) + tgt), m, ()), (self, site, n, pat, rid, tgt, wt, o, m, ()), ()) := by
  unfold F45
  exact bind_of (cloneT_eq m h) rfl
/-- bounds that hold for what came in -/
def Bnd (m : TMD) : Prop := ShT m ∧ m.2.2.2.1.2.2.1.2.2.2.2.2.2.2.2.2.2.2.2.2.2.2.1.length ≤ 2000000000000 ∧ m.2.2.2.2.2.2.2.2.2.2.2.2.2.2.2.1.2.2.1.length ≤ 2000000000000
theorem askOpen_eq (self site n pat rid tgt wt : Int) (c m : TMD) : F12 ((self, site, n, pat, rid, tgt, wt, true, c, ()), m, ()) = some (NoP, 7, (self, site, n, pat, rid, tgt, wt, true, c, ()), ()) := rfl
theorem askNo_eq (self site n pat rid tgt wt : Int) (c m : TMD) (hm : Bnd m) (h : ¬ (2 ≤ m.1 ∧ m.1 ≤ 7 ∧ RightT (m.1, wrap64 (rid + 1), m.2.2))) : F12 ((self, site, n, pat, rid, tgt, wt, false, c, ()), m, ()) = some (NoP, 1, (self, site, n, pat, rid, tgt, wt, false, c, ()), ()) := by
  have hr := tright_eq (m.1, wrap64 (rid + 1), m.2.2) hm.1
  unfold F12
  simp only [cond_false, ans_eq, Option.bind_some, hr]
  by_cases h2 : ansT m.1 = 0
  · simp only [h2, decide_true, cond_true]
  · have hn : ¬ RightT (m.1, wrap64 (rid + 1), m.2.2) := fun hR => by
      have := fun h => h2 (ans_zero.2 h)
      by_cases hk : 2 ≤ m.1 ∧ m.1 ≤ 7
      · exact h ⟨hk.1, hk.2, hR⟩
      · exact this hk
    simp only [h2, decide_false, cond_false, dec_false hn, Bool.not_false, cond_true]
theorem askYes_eq (self site n pat rid tgt wt : Int) (c m : TMD) (hm : Bnd m) (h : 2 ≤ m.1 ∧ m.1 ≤ 7 ∧ RightT (m.1, wrap64 (rid + 1), m.2.2)) : F12 ((self, site, n, pat, rid, tgt, wt, false, c, ()), m, ()) =
    some ((self, wrap64 (wrap64 (4 * site) + tgt), (m.1, wrap64 (rid + 1), m.2.2), ()), 0, (self, site, n, pat, wrap64 (rid + 1), tgt, 0, true, (m.1, wrap64 (rid + 1), m.2.2), ()), ()) := by
  have hr := tright_eq (m.1, wrap64 (rid + 1), m.2.2) hm.1
  have hc := right_cap (m := (m.1, wrap64 (rid + 1), m.2.2)) hm.1 h.2.2 hm.2.1 hm.2.2
  have hcl := cloneT_eq _ hc
  have h2 : ¬ ansT m.1 = 0 := fun e => ans_zero.1 e ⟨h.1, h.2.1⟩
  unfold F12
  simp only [cond_false, ans_eq, Option.bind_some, hr, h2, decide_false, dec_true h.2.2, Bool.not_true]
  refine bind_of hcl ?_
  exact bind_of (parcel_eq _ _ _ _ _ _ _ _ _ hc) rfl
theorem bndLook (r : Int) : Bnd (7, r, NoMsg, NoJob, 0, [], [], 0, 0, 0, 0, NoReply, [], [], false, NoHand, NoMove, ()) := ⟨shLook, by simp, by simp⟩
theorem lookRight (r : Int) (h : Pos40 r) : RightT (7, r, NoMsg, NoJob, 0, [], [], 0, 0, 0, 0, NoReply, [], [], false, NoHand, NoMove, ()) := ⟨⟨by show (1 : Int) ≤ 7; decide, by show (7 : Int) ≤ 12; decide⟩, rfl, by unfold KindT Kind1; simp [h]⟩
theorem awakeC_eq : F7 () = some (true, ()) := by
  have h1 := new_yes (self := 8) (site := 1) (n := 3) (pat := 2) (rid := 10) (by unfold MayC; decide)
  have h2 := askYes_eq 8 1 3 2 10 0 0 NoT (7, 0, NoMsg, NoJob, 0, [], [], 0, 0, 0, 0, NoReply, [], [], false, NoHand, NoMove, ()) (bndLook 0) ⟨by decide, by decide, lookRight _ (by unfold Pos40; decide)⟩
  unfold F7
  refine bind_of h1 ?_
  simp only [cond_true, decide_true, Bool.not_true, cond_false]
  refine bind_of h2 ?_
  rfl
end Go.Proofs.YtkiakaokgoodhaaGreat
