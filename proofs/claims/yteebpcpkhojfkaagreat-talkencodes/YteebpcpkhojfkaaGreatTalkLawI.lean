/-
  Talk: there and back; the laws of bytes.
-/
import Derived.Test.YteebpcpkhojfkaaGreatTalkLawH
namespace Go.Proofs.YteebpcpkhojfkaaGreat
open Go.Sx Go Classical
set_option maxRecDepth 10000
/-- what was taken is of a size that may be -/
def NiceT (m : TMD) : Prop := SzT m ∧ Fit47 T55 m.2.2.2.2.2.2.2.2.2.2.2.2.2.2.2.1 ∧ m.2.2.2.1.2.2.1.2.2.2.2.2.2.2.2.2.2.2.2.2.2.2.1.length ≤ 60000 ∧ m.2.2.2.2.2.2.2.2.2.2.2.2.2.2.2.1.2.2.1.length ≤ 60000
theorem fitNoCmd : Fit47 T28 NoCmd := by simp [Fit47, IntKind.min, IntKind.max, IntKind.bits, IntKind.signed]
theorem sh_nil {α : Type} : Sh ([] : List α) := by simp [Sh]
theorem niceZ (k rid : Int) (raft : Msg) (hr : Sh raft.2.2.2.2.2.2.2.2.2.1) (job : T33D) (hj : SzCmd job.2.2.1) (hjs : job.2.2.1.2.2.2.2.2.2.2.2.2.2.2.2.2.2.2.1.length ≤ 60000) (cl : Int) (fr en : List UInt8) (h1 : fr.length ≤ 60000) (h2 : en.length ≤ 60000) (rev most err hint : Int) (rep : T51D) (h3 : Fit47 T51 rep) (bat : List TBD) (h4 : bat.length ≤ 60000 ∧ ∀ b ∈ bat, Fit47 (.slice T70) b.2.1) (its : List T70D) (h5 : Fit47 (.slice T70) its) (done : Bool) (hand : T55D) (h6 : Fit47 T55 hand) (h6' : hand.2.2.1.length ≤ 60000) (mov : T53D) (h7 : Fit47 T53 mov) :
    NiceT (k, rid, raft, job, cl, fr, en, rev, most, err, hint, rep, bat, its, done, hand, mov, ()) := by
  have hI : ∀ {l : List T70D}, Fit47 (.slice T70) l → SzItems l := fun h => ⟨sh_of h.1, fun x hx => (h.2 x hx).1⟩
  have hH := szHand h6
  have hR := szReply h3
  exact ⟨⟨⟨hr, hj.1, hR.1, ⟨by show bat.length ≤ 9223372036854775806; omega, fun b hb => (hI (h4.2 b hb)).1⟩, (hI h5).1, hH.2⟩, hj, Nat.le_trans h1 (by omega), Nat.le_trans h2 (by omega), hR, fun b hb => hI (h4.2 b hb), hI h5, hH.1, szMove h7⟩, h6, hjs, h6'⟩
theorem noneItems : Fit47 (.slice T70) ([] : List T70D) := ⟨by simp, fun x hx => by simp at hx⟩
theorem noneBat : ([] : List TBD).length ≤ 60000 ∧ ∀ b ∈ ([] : List TBD), Fit47 (.slice T70) b.2.1 := ⟨by simp, fun x hx => by simp at hx⟩
theorem jt_nice (s : In) : SzCmd (jtG s).1.2.2.1 ∧ (jtG s).1.2.2.1.2.2.2.2.2.2.2.2.2.2.2.2.2.2.2.1.length ≤ 60000 := by
  unfold jtG
  by_cases c : Good (textG s).1
  · rw [dec_true c]
    simp only [cond_true]
    have hx := jobC.ex ((textG s).1, false, ()) rfl c.2.1
    exact ⟨szCmd (fit_job ((textG s).1, false, ())).2.2.1, hx.1.2.2.1.2.2.2.2.2.2.2.2.2.2.2.2.2.2.2.1.1⟩
  · rw [dec_false c]
    exact ⟨szCmd fitNoCmd, by simp [cond_false]⟩
theorem handG_len (s : In) : (handG s).1.2.2.1.length ≤ 60000 := by
  unfold handG guardG
  cases (bif (handR s).2.2.1 then true else !dec' (HandOk (handR s).1)) with
  | true => simp [cond_true]
  | false => exact listG_len sess1C (numG (numG s).2).2
theorem hand11_nice (s : In) : Fit47 T55 (hand11G s).1 ∧ (hand11G s).1.2.2.1.length ≤ 60000 := by
  unfold hand11G
  cases (flagG s).1 with
  | true => exact ⟨fit_hand _, handG_len _⟩
  | false => exact ⟨fitNoHand, by simp [cond_false]⟩
theorem rest_nice (k rid : Int) (s : In) : NiceT (restG k rid s).1 := by
  have zr : Sh NoMsg.2.2.2.2.2.2.2.2.2.1 := sh_nil
  have zj : SzCmd NoJob.2.2.1 := szCmd fitNoCmd
  have t : ∀ s : In, (textG s).1.length ≤ 60000 := text_most
  have z : ([] : List UInt8).length ≤ 60000 := by simp
  have zj2 : NoJob.2.2.1.2.2.2.2.2.2.2.2.2.2.2.2.2.2.2.1.length ≤ 60000 := by simp
  have zh2 : NoHand.2.2.1.length ≤ 60000 := by simp
  unfold restG
  rcases kindsD k with e | e | e | e | e | e | e | e | e | e | e
  · subst e
    obtain ⟨j1, j2⟩ := jt_nice s
    exact niceZ _ _ _ zr _ j1 j2 _ _ _ z z _ _ _ _ _ fitNoReply _ noneBat _ noneItems _ _ fitNoHand zh2 _ fitNoMove
  · subst e
    simp only [Int.reduceEq, if_true, if_false]
    exact niceZ _ _ _ zr _ zj zj2 _ _ _ (t _) (t _) _ _ _ _ _ fitNoReply _ noneBat _ noneItems _ _ fitNoHand zh2 _ fitNoMove
  · subst e
    simp only [Int.reduceEq, if_true, if_false]
    exact niceZ _ _ _ zr _ zj zj2 _ _ _ (t _) (t _) _ _ _ _ _ fitNoReply _ noneBat _ noneItems _ _ fitNoHand zh2 _ fitNoMove
  · subst e
    simp only [Int.reduceEq, if_true, if_false]
    exact niceZ _ _ _ zr _ zj zj2 _ _ _ (t _) (t _) _ _ _ _ _ fitNoReply _ noneBat _ noneItems _ _ fitNoHand zh2 _ fitNoMove
  · subst e
    simp only [Int.reduceEq, if_true, if_false]
    exact niceZ _ _ _ zr _ zj zj2 _ _ _ z z _ _ _ _ _ fitNoReply _ noneBat _ noneItems _ _ fitNoHand zh2 _ fitNoMove
  · subst e
    simp only [Int.reduceEq, if_true, if_false]
    exact niceZ _ _ _ zr _ zj zj2 _ _ _ z z _ _ _ _ _ (fit_reply _) _ noneBat _ noneItems _ _ fitNoHand zh2 _ fitNoMove
  · subst e
    simp only [Int.reduceEq, if_true, if_false]
    exact niceZ _ _ _ zr _ zj zj2 _ _ _ z z _ _ _ _ _ fitNoReply _ ⟨listG_len batch1C _, manyG_all (P := fun b : TBD => Fit47 (.slice T70) b.2.1) (fun t => fit_list fit_item _) _ _⟩ _ noneItems _ _ fitNoHand zh2 _ fitNoMove
  · subst e
    simp only [Int.reduceEq, if_true, if_false]
    exact niceZ _ _ _ zr _ zj zj2 _ _ _ z z _ _ _ _ _ fitNoReply _ noneBat _ (fit_list fit_item _) _ _ fitNoHand zh2 _ fitNoMove
  · subst e
    simp only [Int.reduceEq, if_true, if_false]
    exact niceZ _ _ _ zr _ zj zj2 _ _ _ z z _ _ _ _ _ fitNoReply _ noneBat _ noneItems _ _ (hand11_nice _).1 (hand11_nice _).2 _ fitNoMove
  · subst e
    simp only [Int.reduceEq, if_true, if_false]
    exact niceZ _ _ _ zr _ zj zj2 _ _ _ z z _ _ _ _ _ fitNoReply _ noneBat _ noneItems _ _ fitNoHand zh2 _ (fit_move _)
  · obtain ⟨e2, e3, e4, e5, e6, e8, e9, e10, e11, e12⟩ := e
    simp only [e2, e3, e4, e5, e6, e8, e9, e10, e11, e12, if_false]
    exact niceZ _ _ _ zr _ zj zj2 _ _ _ z z _ _ _ _ _ fitNoReply _ noneBat _ noneItems _ _ fitNoHand zh2 _ fitNoMove
/-- there and back -/
theorem rest_rt (m : TMD) (hf : Fit47 TM m) (hR : RightT m) (h1 : m.1 ≠ 1) (hs : m.2.2.2.1.2.2.1.2.2.2.2.2.2.2.2.2.2.2.2.2.2.2.1.length ≤ 60000) (hh : m.2.2.2.2.2.2.2.2.2.2.2.2.2.2.2.1.2.2.1.length ≤ 60000) (h12 : m.1 = 2 → (jobB m.2.2.2.1).length ≤ 12000) : restG m.1 m.2.1 (bodyB m, false, ()) = (m, ([], false, ())) := by
  obtain ⟨hk, hp, hK⟩ := hR
  obtain ⟨k, rid, raft, job, cl, fr, en, rev, most, err, hint, rep, bat, its, done, hand, mov, ⟨⟩⟩ := m
  obtain ⟨-, -, -, f4, f5, f6, f7, f8, f9, f10, f11, f12, f13, f14, -, f16, f17, -⟩ := hf
  dsimp only at hs hh h1 h12
  rcases kinds12 hk.1 hk.2 with e | e | e | e | e | e | e | e | e | e | e | e <;> (dsimp only at e; subst e) <;>
    (unfold KindT Kind1 at hK; simp only [Int.reduceEq, false_and, true_and, false_or, or_false] at hK)
  · exact absurd rfl h1
  all_goals
    rw [← hp]
  · have e := jtC.rt job [] ⟨jobQ f4 hs hK.2, hK.2, h12 rfl⟩
    rw [List.append_nil] at e
    show restG 2 rid (textB (jobB job), false, ()) = _
    unfold restG
    rw [if_pos rfl, e]
    rfl
  · have e := c3.rt (cl, fr, en, rev, most, ()) [] ⟨f5, by have := (range_key hK.2.2.2.1).len; show fr.length ≤ 60000; omega, by have := range_end hK.2.2.2.1; show en.length ≤ 60000; omega, f8, f9, trivial⟩
    have hb : bodyB (3, rid, raft, job, cl, fr, en, rev, most, err, hint, rep, bat, its, done, hand, mov, ()) = consB numB (consB textB (consB textB (consB numB (consB numB unitB)))) (cl, fr, en, rev, most, ()) ++ [] := by
      simp only [bodyB, Int.reduceEq, if_true, if_false, consB, unitB, List.append_nil, List.append_assoc]
    rw [hp, hb]
    unfold restG
    simp only [Int.reduceEq, if_true, if_false, e]
    exact congrArg (fun z => (z, _)) hp
  · have e := c4.rt (cl, fr, en, rev, ()) [] ⟨f5, by have := (range_key hK.2.2.2.1).len; show fr.length ≤ 60000; omega, by have := range_end hK.2.2.2.1; show en.length ≤ 60000; omega, f8, trivial⟩
    have hb : bodyB (4, rid, raft, job, cl, fr, en, rev, most, err, hint, rep, bat, its, done, hand, mov, ()) = consB numB (consB textB (consB textB (consB numB unitB))) (cl, fr, en, rev, ()) ++ [] := by
      simp only [bodyB, Int.reduceEq, if_true, if_false, consB, unitB, List.append_nil, List.append_assoc]
    rw [hp, hb]
    unfold restG
    simp only [Int.reduceEq, if_true, if_false, e]
    exact congrArg (fun z => (z, _)) hp
  · have e := c5.rt (fr, en, rev, ()) [] ⟨by have := hK.2.1.2.len; show fr.length ≤ 60000; omega, by have := key_len hK.2.2.1; show en.length ≤ 60000; omega, f8, trivial⟩
    have hb : bodyB (5, rid, raft, job, cl, fr, en, rev, most, err, hint, rep, bat, its, done, hand, mov, ()) = consB textB (consB textB (consB numB unitB)) (fr, en, rev, ()) ++ [] := by
      simp only [bodyB, Int.reduceEq, if_true, if_false, consB, unitB, List.append_nil, List.append_assoc]
    rw [hp, hb]
    unfold restG
    simp only [Int.reduceEq, if_true, if_false, e]
    exact congrArg (fun z => (z, _)) hp
  · have e := numC.rt rev [] f8
    have hb : bodyB (6, rid, raft, job, cl, fr, en, rev, most, err, hint, rep, bat, its, done, hand, mov, ()) = numB rev ++ [] := by
      simp only [bodyB, Int.reduceEq, if_true, if_false, List.append_nil]
    rw [hp, hb]
    unfold restG
    simp only [Int.reduceEq, if_true, if_false, e]
    exact congrArg (fun z => (z, _)) hp
  · rw [hp]
    have hb : bodyB (7, rid, raft, job, cl, fr, en, rev, most, err, hint, rep, bat, its, done, hand, mov, ()) = [] := rfl
    rw [hb]
    unfold restG
    simp only [Int.reduceEq, if_false]
    exact congrArg (fun z => (z, _)) hp
  · have e := c8.rt (err, hint, rep, ()) [] ⟨f10, f11, replyQ f12 hK.2.2.2.2.2, trivial⟩
    have hb : bodyB (8, rid, raft, job, cl, fr, en, rev, most, err, hint, rep, bat, its, done, hand, mov, ()) = consB numB (consB numB (consB replyB unitB)) (err, hint, rep, ()) ++ [] := by
      simp only [bodyB, Int.reduceEq, if_true, if_false]
      simp only [consB, unitB, List.append_nil, List.append_assoc]
    rw [hp, hb]
    unfold restG
    simp only [Int.reduceEq, if_true, if_false, e]
    exact congrArg (fun z => (z, _)) hp
  · have hb9 := hK.2.2.2.2.2
    have e := c9.rt (err, rev, bat, ()) [] ⟨f10, f8, ⟨by have := hb9.2; show bat.length ≤ 60000; omega, fun b hb => ⟨(f13.2 b hb).1, itemsQ (f13.2 b hb).2.1 (by have := (batch_items hb9 b hb).2; show b.2.1.length ≤ 60000; omega) (by
      obtain ⟨i, hi, rfl⟩ := List.mem_iff_getElem.1 hb
      exact fun x hx => may_item ((hb9.1 i _ (List.getElem?_eq_getElem hi)).2.1.2 x hx)), trivial⟩⟩, trivial⟩
    have hb : bodyB (9, rid, raft, job, cl, fr, en, rev, most, err, hint, rep, bat, its, done, hand, mov, ()) = consB numB (consB numB (consB batchesB unitB)) (err, rev, bat, ()) ++ [] := by
      simp only [bodyB, Int.reduceEq, if_true, if_false]
      simp only [consB, unitB, List.append_nil, List.append_assoc]
    rw [hp, hb]
    unfold restG
    simp only [Int.reduceEq, if_true, if_false, e]
    exact congrArg (fun z => (z, _)) hp
  · have e := c10.rt (err, done, its, ()) [] ⟨f10, trivial, itemsQ f14 (by have := hK.2.2.2.1; show its.length ≤ 60000; omega) (fun x hx => may_item (hK.2.2.2.2 x hx)), trivial⟩
    have hb : bodyB (10, rid, raft, job, cl, fr, en, rev, most, err, hint, rep, bat, its, done, hand, mov, ()) = consB numB (consB flagB (consB itemsB unitB)) (err, done, its, ()) ++ [] := by
      simp only [bodyB, Int.reduceEq, if_true, if_false]
      simp only [consB, unitB, List.append_nil, List.append_assoc]
    rw [hp, hb]
    unfold restG
    simp only [Int.reduceEq, if_true, if_false, e]
    exact congrArg (fun z => (z, _)) hp
  · have e := c11.rt (err, hand, ()) [] ⟨f10, hK.2.2.2.imp id fun h => handQ f16 hh h, trivial⟩
    have hb : bodyB (11, rid, raft, job, cl, fr, en, rev, most, err, hint, rep, bat, its, done, hand, mov, ()) = consB numB (consB hand11B unitB) (err, hand, ()) ++ [] := by
      simp only [bodyB, Int.reduceEq, if_true, if_false]
      simp only [consB, unitB, List.append_nil]
    rw [hp, hb]
    unfold restG
    simp only [Int.reduceEq, if_true, if_false, e]
    exact congrArg (fun z => (z, _)) hp
  · have e := c12.rt (rev, mov, ()) [] ⟨f8, moveQ f17 hK.2.2, trivial⟩
    have hb : bodyB (12, rid, raft, job, cl, fr, en, rev, most, err, hint, rep, bat, its, done, hand, mov, ()) = consB numB (consB moveB unitB) (rev, mov, ()) ++ [] := by
      simp only [bodyB, Int.reduceEq, if_true, if_false]
      simp only [consB, unitB, List.append_nil]
    rw [hp, hb]
    unfold restG
    simp only [Int.reduceEq, if_true, if_false, e]
    exact congrArg (fun z => (z, _)) hp
end Go.Proofs.YteebpcpkhojfkaaGreat
