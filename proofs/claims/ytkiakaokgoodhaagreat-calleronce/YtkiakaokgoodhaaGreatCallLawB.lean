/-
  Call: ticks and what is heard; the laws of turns and of answers.
-/
import Derived.Test.YtkiakaokgoodhaaGreatCallLawA
namespace Go.Proofs.YtkiakaokgoodhaaGreat
open Go.Sx Go Classical
set_option maxRecDepth 10000
/-- what is heard is the answer, by itself -/
def HearC (site n rid kind from' : Int) (m : TMD) : Prop := 4 * site ≤ from' ∧ from' < 4 * site + n ∧ m.2.1 = rid ∧ m.1 = ansT kind ∧ RightT m
theorem hearShut (self site n pat rid tgt wt fr : Int) (c m : TMD) : F17 ((self, site, n, pat, rid, tgt, wt, false, c, ()), fr, m, ()) = some (NoT, false, (self, site, n, pat, rid, tgt, wt, false, c, ()), ()) := rfl
theorem hearNo (self site n pat rid tgt wt fr : Int) (c m : TMD) (hs : 0 ≤ site ∧ site ≤ 1) (hn : 1 ≤ n ∧ n ≤ 3) (hm : ShT m) (h : ¬ HearC site n rid c.1 fr m) : F17 ((self, site, n, pat, rid, tgt, wt, true, c, ()), fr, m, ()) = some (NoT, false, (self, site, n, pat, rid, tgt, wt, true, c, ()), ()) := by
  have w1 : wrap64 (4 * site) = 4 * site := wrap64_eq (by omega) (by omega)
  have w2 : wrap64 (4 * site + n) = 4 * site + n := wrap64_eq (by omega) (by omega)
  unfold F17
  simp only [Bool.not_true, cond_false, w1, w2]
  by_cases h1 : fr < 4 * site
  · simp only [h1, decide_true, cond_true]
  by_cases h2 : 4 * site + n ≤ fr
  · simp only [h1, h2, decide_true, decide_false, cond_true, cond_false]
  by_cases h3 : m.2.1 = rid
  case neg =>
    simp only [h1, h2, h3, decide_true, decide_false, cond_true, cond_false, Bool.not_false]
  by_cases h4 : m.1 = ansT c.1
  case neg =>
    simp only [h1, h2, h3, ans_eq, Option.bind_some, h4, decide_true, decide_false, cond_true, cond_false, Bool.not_false, Bool.not_true]
  have h5 : ¬ RightT m := fun hR => h ⟨by omega, by omega, h3, h4, hR⟩
  have hr := tright_eq m hm
  rw [dec_false h5] at hr
  simp only [h1, h2, h3, ans_eq, Option.bind_some, h4, decide_true, decide_false, cond_true, cond_false, Bool.not_true]
  refine bind_of hr ?_
  rfl
theorem hearYes (self site n pat rid tgt wt fr : Int) (c m : TMD) (hs : 0 ≤ site ∧ site ≤ 1) (hn : 1 ≤ n ∧ n ≤ 3) (hm : Bnd m) (h : HearC site n rid c.1 fr m) (h8 : ¬ (m.1 = 8 ∧ m.2.2.2.2.2.2.2.2.2.1 = 14)) : F17 ((self, site, n, pat, rid, tgt, wt, true, c, ()), fr, m, ()) = some (m, true, (self, site, n, pat, rid, tgt, wt, false, c, ()), ()) := by
  have w1 : wrap64 (4 * site) = 4 * site := wrap64_eq (by omega) (by omega)
  have w2 : wrap64 (4 * site + n) = 4 * site + n := wrap64_eq (by omega) (by omega)
  obtain ⟨h1, h2, h3, h4, h5⟩ := h
  have h1 : ¬ fr < 4 * site := by omega
  have h2 : ¬ 4 * site + n ≤ fr := by omega
  have hr := tright_eq m hm.1
  rw [dec_true h5] at hr
  have hcl := cloneT_eq m (right_cap hm.1 h5 hm.2.1 hm.2.2)
  unfold F17
  simp only [Bool.not_true, cond_false, w1, w2, h1, h2, h3, ans_eq, Option.bind_some, decide_true, decide_false]
  have d4 : decide (m.1 = ansT c.1) = true := decide_eq_true h4
  simp only [d4, Bool.not_true, cond_false]
  refine bind_of hr ?_
  simp only [Bool.not_true, cond_false]
  by_cases k1 : m.1 = 8
  · have k2 : ¬ m.2.2.2.2.2.2.2.2.2.1 = 14 := fun e => h8 ⟨k1, e⟩
    rw [decide_eq_true k1]
    simp only [k2, decide_false, cond_true, cond_false]
    exact bind_of hcl rfl
  · simp only [k1, decide_false, cond_false]
    exact bind_of hcl rfl
theorem iter_rel {T R : Type} {step : T → Option (T ⊕ R)} {n : Nat} {I : Nat → T → Prop} {r : R} (hn : n ≤ 9223372036854775807) (h : ∀ k t, k < n → I k t → step t = some (.inr r) ∨ ∃ t', step t = some (.inl t') ∧ I (k + 1) t') (hK : ∀ t, I n t → step t = some (.inr r)) {t : T} (h0 : I 0 t) : iter step big t = some r := by
  have main : ∀ d k t m, k + d = n → d < m → I k t → iter step m t = some r := by
    intro d
    induction d with
    | zero =>
      intro k t m hk hm ht
      cases m with
      | zero => omega
      | succ m =>
        rw [Nat.add_zero] at hk
        subst hk
        simp [iter, hK t ht]
    | succ d ih =>
      intro k t m hk hm ht
      cases m with
      | zero => omega
      | succ m =>
        rcases h k t (by omega) ht with h1 | ⟨t', h1, h2⟩
        · simp [iter, h1]
        · simp only [iter, h1, Option.bind_some, Sum.elim_inl]
          exact ih (k + 1) t' m (by omega) (by omega) h2
  exact main n 0 t big (by omega) (by rw [big_eq]; omega) h0
theorem map_of {R T : Type} {X : Option R} {r : R} (h : X = some r) : (Option.map Sum.inr X : Option (T ⊕ R)) = some (Sum.inr r) := by rw [h]; rfl
theorem ans_of {k : Int} (h : 2 ≤ k ∧ k ≤ 7) : ansT k = 8 ∨ ansT k = 9 ∨ ansT k = 10 ∨ ansT k = 11 ∨ ansT k = 12 := by
  have hk : k = 2 ∨ k = 3 ∨ k = 4 ∨ k = 5 ∨ k = 6 ∨ k = 7 := by omega
  rcases hk with e | e | e | e | e | e <;> (subst e; decide)
/-- an answer that says nothing -/
abbrev AnsT (k rid : Int) : TMD := (k, rid, NoMsg, NoJob, 0, [], [], 0, 0, 0, 0, NoReply, [], [], false, NoHand, NoMove, ())
theorem ansBnd (k r : Int) : Bnd (AnsT k r) := ⟨shLook, by simp, by simp⟩
theorem moveNo : MoveOk NoMove := by unfold MoveOk Nat40; simp
theorem ansRight {k r : Int} (hk : k = 8 ∨ k = 9 ∨ k = 10 ∨ k = 11 ∨ k = 12) (h : Pos40 r) : RightT (AnsT k r) := by
  have hR : ReplyOk NoReply := by unfold ReplyOk Nat40; simp
  have hB : BatchesOk [] := ⟨fun i v hv => by simp at hv, by simp⟩
  have hI : ItemsOk [] 8 := ⟨by simp, fun x hx => by simp at hx⟩
  have hN : Nat40 0 := by unfold Nat40; omega
  refine ⟨⟨by show 1 ≤ k; omega, by show k ≤ 12; omega⟩, ?_, ?_⟩
  · rcases hk with e | e | e | e | e <;> (subst e; rfl)
  · unfold KindT Kind1
    rcases hk with e | e | e | e | e <;> (subst e; simp [h, hR, hB, hI, hN, moveNo])
theorem rem3 (b : UInt8) : ∃ q : Int, 0 ≤ q ∧ q < 3 ∧ wrap64 (intOf8 (Sx.byteOf ((intOf8 b).tmod (intOf8 (UInt8.ofNat 3))))) = q := by
  have h0 : intOf8 b = ((b.toNat : Nat) : Int) := rfl
  have h3 : intOf8 (UInt8.ofNat 3) = (3 : Int) := rfl
  have hb : (b.toNat % 3) % 256 = b.toNat % 3 := Nat.mod_eq_of_lt (by omega)
  have e : (((b.toNat : Nat) : Int)).tmod 3 = ((b.toNat % 3 : Nat) : Int) := by rw [Int.tmod_eq_emod_of_nonneg (by omega)]; omega
  refine ⟨((b.toNat % 3 : Nat) : Int), by omega, by omega, ?_⟩
  rw [h0, h3, e]
  have : intOf8 (Sx.byteOf ((b.toNat % 3 : Nat) : Int)) = ((b.toNat % 3 : Nat) : Int) := by
    show (((Sx.byteOf ((b.toNat % 3 : Nat) : Int)).toNat : Nat) : Int) = _
    unfold Sx.byteOf
    simp
    omega
  rw [this, wrap64_eq (by omega) (by omega)]
end Go.Proofs.YtkiakaokgoodhaaGreat
