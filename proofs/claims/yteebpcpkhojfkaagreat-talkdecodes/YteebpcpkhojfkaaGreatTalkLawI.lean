/-
  Talk: there and back; the laws of bytes.
-/
import Derived.Test.YteebpcpkhojfkaaGreatTalkLawH
namespace Go.Proofs.YteebpcpkhojfkaaGreat
open Go.Sx Go Classical
set_option maxRecDepth 10000
/-- what was taken is of a size that may be -/
def NiceT (m : TMD) : Prop := SzT m ∧ Fit47 T55 m.2.2.2.2.2.2.2.2.2.2.2.2.2.2.2.1 ∧ m.2.2.2.1.2.2.1.2.2.2.2.2.2.2.2.2.2.2.2.2.2.2.1.length ≤ 60000 ∧ m.2.2.2.2.2.2.2.2.2.2.2.2.2.2.2.1.2.2.1.length ≤ 60000
theorem fitNoCmd : Fit47 T28 NoCmd := by simp [Fit47, IntKind.min, IntKind.max, IntKind.bits, IntKind.signed]
theorem sh_nil {α : Type} : Sh ([] : List α) := by simp [Sh]
theorem niceZ (k rid : Int) (raft : Msg) (hr : Sh raft.2.2.2.2.2.2.2.2.2.1) (job : T33D) (hj : SzCmd job.2.2.1) (hjs : job.2.2.1.2.2.2.2.2.2.2.2.2.2.2.2.2.2.2.1.length ≤ 60000) (cl : Int) (fr en : List UInt8) (h1 : fr.length ≤ 60000) (h2 : en.length ≤ 60000) (rev most err hint : Int) (rep : T51D) (h3 : Fit47 T51 rep) (bat : List TBD) (h4 : bat.length ≤ 60000 ∧ ∀ b ∈ bat, Fit47 (.slice T70) b.2.1) (its : List T70D) (h5 : Fit47 (.slice T70) its) (done : Bool) (hand : T55D) (h6 : Fit47 T55 hand) (h6' : hand.2.2.1.length ≤ 60000) (mov : T53D) (h7 : Fit47 T53 mov) :
    NiceT (k, rid, raft, job, cl, fr, en, rev, most, err, hint, rep, bat, its, done, hand, mov, ()) := by
  have hI : ∀ {l : List T70D}, Fit47 (.slice T70) l → SzItems l := fun h => ⟨sh_of h.1, fun x hx => (h.2 x hx).1⟩
  have hH := szHand h6
  have hR := szReply h3
  exact ⟨⟨⟨hr, hj.1, hR.1, ⟨by show bat.length ≤ 9223372036854775806; omega, fun b hb => (hI (h4.2 b hb)).1⟩, (hI h5).1, hH.2⟩, hj, Nat.le_trans h1 (by omega), Nat.le_trans h2 (by omega), hR, fun b hb => hI (h4.2 b hb), hI h5, hH.1, szMove h7⟩, h6, hjs, h6'⟩
theorem noneItems : Fit47 (.slice T70) ([] : List T70D) := ⟨by simp, fun x hx => by simp at hx⟩
theorem noneBat : ([] : List TBD).length ≤ 60000 ∧ ∀ b ∈ ([] : List TBD), Fit47 (.slice T70) b.2.1 := ⟨by simp, fun x hx => by simp at hx⟩
theorem jt_nice (s : In) : SzCmd (jtG s).1.2.2.1 ∧ (jtG s).1.2.2.1.2.2.2.2.2.2.2.2.2.2.2.2.2.2.2.1.length ≤ 60000 := by
  unfold jtG
  by_cases c : Good (textG s).1
  · rw [dec_true c]
    simp only [cond_true]
    have hx := jobC.ex ((textG s).1, false, ()) rfl c.2.1
    exact ⟨szCmd (fit_job ((textG s).1, false, ())).2.2.1, hx.1.2.2.1.2.2.2.2.2.2.2.2.2.2.2.2.2.2.2.1.1⟩
  · rw [dec_false c]
    exact ⟨szCmd fitNoCmd, by simp [cond_false]⟩
theorem handG_len (s : In) : (handG s).1.2.2.1.length ≤ 60000 := by
  unfold handG guardG
  cases (bif (handR s).2.2.1 then true else !dec' (HandOk (handR s).1)) with
  | true => simp [cond_true]
  | false => exact listG_len sess1C (numG (numG s).2).2
theorem hand11_nice (s : In) : Fit47 T55 (hand11G s).1 ∧ (hand11G s).1.2.2.1.length ≤ 60000 := by
  unfold hand11G
  cases (flagG s).1 with
  | true => exact ⟨fit_hand _, handG_len _⟩
  | false => exact ⟨fitNoHand, by simp [cond_false]⟩
theorem rest_nice (k rid : Int) (s : In) : NiceT (restG k rid s).1 := by
  have zr : Sh NoMsg.2.2.2.2.2.2.2.2.2.1 := sh_nil
  have zj : SzCmd NoJob.2.2.1 := szCmd fitNoCmd
  have t : ∀ s : In, (textG s).1.length ≤ 60000 := text_most
  have z : ([] : List UInt8).length ≤ 60000 := by simp
  have zj2 : NoJob.2.2.1.2.2.2.2.2.2.2.2.2.2.2.2.2.2.2.1.length ≤ 60000 := by simp
  have zh2 : NoHand.2.2.1.length ≤ 60000 := by simp
  unfold restG
  rcases kindsD k with e | e | e | e | e | e | e | e | e | e | e
  · subst e
    obtain ⟨j1, j2⟩ := jt_nice s
    exact niceZ _ _ _ zr _ j1 j2 _ _ _ z z _ _ _ _ _ fitNoReply _ noneBat _ noneItems _ _ fitNoHand zh2 _ fitNoMove
  · subst e
    simp only [Int.reduceEq, if_true, if_false]
    exact niceZ _ _ _ zr _ zj zj2 _ _ _ (t _) (t _) _ _ _ _ _ fitNoReply _ noneBat _ noneItems _ _ fitNoHand zh2 _ fitNoMove
  · subst e
    simp only [Int.reduceEq, if_true, if_false]
    exact niceZ _ _ _ zr _ zj zj2 _ _ _ (t _) (t _) _ _ _ _ _ fitNoReply _ noneBat _ noneItems _ _ fitNoHand zh2 _ fitNoMove
  · subst e
    simp only [Int.reduceEq, if_true, if_false]
    exact niceZ _ _ _ zr _ zj zj2 _ _ _ (t _) (t _) _ _ _ _ _ fitNoReply _ noneBat _ noneItems _ _ fitNoHand zh2 _ fitNoMove
  · subst e
    simp only [Int.reduceEq, if_true, if_false]
    exact niceZ _ _ _ zr _ zj zj2 _ _ _ z z _ _ _ _ _ fitNoReply _ noneBat _ noneItems _ _ fitNoHand zh2 _ fitNoMove
  · subst e
    simp only [Int.reduceEq, if_true, if_false]
    exact niceZ _ _ _ zr _ zj zj2 _ _ _ z z _ _ _ _ _ (fit_reply _) _ noneBat _ noneItems _ _ fitNoHand zh2 _ fitNoMove
  · subst e
    simp only [Int.reduceEq, if_true, if_false]
    exact niceZ _ _ _ zr _ zj zj2 _ _ _ z z _ _ _ _ _ fitNoReply _ ⟨listG_len batch1C _, manyG_all (P := fun b : TBD => Fit47 (.slice T70) b.2.1) (fun t => fit_list fit_item _) _ _⟩ _ noneItems _ _ fitNoHand zh2 _ fitNoMove
  · subst e
    simp only [Int.reduceEq, if_true, if_false]
    exact niceZ _ _ _ zr _ zj zj2 _ _ _ z z _ _ _ _ _ fitNoReply _ noneBat _ (fit_list fit_item _) _ _ fitNoHand zh2 _ fitNoMove
  · subst e
    simp only [Int.reduceEq, if_true, if_false]
    exact niceZ _ _ _ zr _ zj zj2 _ _ _ z z _ _ _ _ _ fitNoReply _ noneBat _ noneItems _ _ (hand11_nice _).1 (hand11_nice _).2 _ fitNoMove
  · subst e
    simp only [Int.reduceEq, if_true, if_false]
    exact niceZ _ _ _ zr _ zj zj2 _ _ _ z z _ _ _ _ _ fitNoReply _ noneBat _ noneItems _ _ fitNoHand zh2 _ (fit_move _)
  · obtain ⟨e2, e3, e4, e5, e6, e8, e9, e10, e11, e12⟩ := e
    simp only [e2, e3, e4, e5, e6, e8, e9, e10, e11, e12, if_false]
    exact niceZ _ _ _ zr _ zj zj2 _ _ _ z z _ _ _ _ _ fitNoReply _ noneBat _ noneItems _ _ fitNoHand zh2 _ fitNoMove
theorem rest_kind (k rid : Int) (s : In) : (restG k rid s).1.1 = k ∧ (restG k rid s).1.2.1 = rid := by
  unfold restG
  rcases kindsD k with e | e | e | e | e | e | e | e | e | e | e
  · subst e; exact ⟨rfl, rfl⟩
  iterate 9 (· subst e; simp only [Int.reduceEq, if_true, if_false]; exact ⟨trivial, trivial⟩)
  · obtain ⟨e2, e3, e4, e5, e6, e8, e9, e10, e11, e12⟩ := e
    simp only [e2, e3, e4, e5, e6, e8, e9, e10, e11, e12, if_false]
    exact ⟨trivial, trivial⟩
/-- bytes that were taken are what was put -/
theorem rest_ex (k rid : Int) (s : In) (h : (restG k rid s).2.2.1 = false) (hk : 2 ≤ k ∧ k ≤ 12) : s.2.1 = false ∧ s.1 = bodyB (restG k rid s).1 ++ (restG k rid s).2.1 ∧ (k = 2 → (jobB (restG k rid s).1.2.2.2.1).length ≤ 12000) := by
  rcases kinds12 (by omega) hk.2 with e | e | e | e | e | e | e | e | e | e | e | e <;> subst e
  · exact absurd hk.1 (by decide)
  · unfold restG at h ⊢
    rw [if_pos rfl] at h ⊢
    obtain ⟨a1, a2, a3⟩ := jtC.ex' h
    exact ⟨a1, a3, fun _ => a2.2.2⟩
  all_goals
    unfold restG at h ⊢
    simp only [Int.reduceEq, if_true, if_false] at h ⊢
  · obtain ⟨a1, a2, a3⟩ := c3.ex' h
    refine ⟨a1, a3.trans ?_, fun e => absurd e id⟩
    simp only [bodyB, Int.reduceEq, if_true, if_false]
    simp only [consB, unitB, List.append_nil, List.append_assoc]
  · obtain ⟨a1, a2, a3⟩ := c4.ex' h
    refine ⟨a1, a3.trans ?_, fun e => absurd e id⟩
    simp only [bodyB, Int.reduceEq, if_true, if_false]
    simp only [consB, unitB, List.append_nil, List.append_assoc]
  · obtain ⟨a1, a2, a3⟩ := c5.ex' h
    refine ⟨a1, a3.trans ?_, fun e => absurd e id⟩
    simp only [bodyB, Int.reduceEq, if_true, if_false]
    simp only [consB, unitB, List.append_nil, List.append_assoc]
  · obtain ⟨a1, a2, a3⟩ := numC.ex' h
    refine ⟨a1, a3.trans ?_, fun e => absurd e id⟩
    simp only [bodyB, Int.reduceEq, if_true, if_false]
  · exact ⟨h, rfl, fun e => absurd e id⟩
  · obtain ⟨a1, a2, a3⟩ := c8.ex' h
    refine ⟨a1, a3.trans ?_, fun e => absurd e id⟩
    simp only [bodyB, Int.reduceEq, if_true, if_false]
    simp only [consB, unitB, List.append_nil, List.append_assoc]
  · obtain ⟨a1, a2, a3⟩ := c9.ex' h
    refine ⟨a1, a3.trans ?_, fun e => absurd e id⟩
    simp only [bodyB, Int.reduceEq, if_true, if_false]
    simp only [consB, unitB, List.append_nil, List.append_assoc]
  · obtain ⟨a1, a2, a3⟩ := c10.ex' h
    refine ⟨a1, a3.trans ?_, fun e => absurd e id⟩
    simp only [bodyB, Int.reduceEq, if_true, if_false]
    simp only [consB, unitB, List.append_nil, List.append_assoc]
  · obtain ⟨a1, a2, a3⟩ := c11.ex' h
    refine ⟨a1, a3.trans ?_, fun e => absurd e id⟩
    simp only [bodyB, Int.reduceEq, if_true, if_false]
    simp only [consB, unitB, List.append_nil]
  · obtain ⟨a1, a2, a3⟩ := c12.ex' h
    refine ⟨a1, a3.trans ?_, fun e => absurd e id⟩
    simp only [bodyB, Int.reduceEq, if_true, if_false]
    simp only [consB, unitB, List.append_nil]
end Go.Proofs.YteebpcpkhojfkaaGreat
