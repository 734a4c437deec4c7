/-
  Talk: what is taken from bytes.
-/
import Derived.Test.YteebpcpkhojfkaaGreatTalkLawG
namespace Go.Proofs.YteebpcpkhojfkaaGreat
open Go.Sx Go Classical
set_option maxRecDepth 10000
theorem getItemsT_eq (s : In) (h : Sm s) : F132 (s, ()) = some ((itemsG s).1, (itemsG s).2, ()) := by
  unfold F132
  simp only [inCount_eq s 60000 (by omega) (by unfold Sm at h; omega), Option.bind_some]
  refine list_loop itemC s h (fun i l t hi hi2 hl ht => ?_) ?_
  · simp only [decide_eq_true hi, cond_true, getItem_eq t ht, Option.bind_some, app1 hi2 hl, wrap64_nat (show i < 9223372036854775807 by omega)]
  · simp only [Int.lt_irrefl, decide_false, cond_false]
/-- a job as a text of its own -/
noncomputable def jtG (s : In) : T33D × In := bif dec' (Good (textG s).1) then ((jobG ((textG s).1, false, ())).1, (textG s).2) else (NoJob, badI)
def JtQ (j : T33D) : Prop := JobQ j ∧ JobOk j ∧ (jobB j).length ≤ 12000
theorem jt_good {s : In} (h : (jtG s).2.2.1 = false) : Good (textG s).1 ∧ jtG s = ((jobG ((textG s).1, false, ())).1, (textG s).2) := by
  by_cases c : Good (textG s).1
  · exact ⟨c, by unfold jtG; rw [dec_true c]; rfl⟩
  · unfold jtG at h; rw [dec_false c] at h; cases h
theorem jtC : Codec (fun j => textB (jobB j)) jtG JtQ where
  rt := fun j r ⟨h1, h2, h3⟩ => by
    have e := textC.rt (jobB j) r (by omega)
    have hr := jobC.rt j [] h1
    rw [List.append_nil] at hr
    unfold jtG
    rw [e, dec_true (p := Good (jobB j)) ⟨h3, by rw [hr], by rw [hr], by rw [hr]; exact h2⟩]
    simp only [cond_true, hr]
  fine := fun s hs => by
    unfold jtG
    cases dec' (Good (textG s).1) with
    | true => exact textC.fine s hs
    | false => exact badI_fine
  bad := fun s hs => by
    unfold jtG
    cases dec' (Good (textG s).1) with
    | true => exact textC.bad s hs
    | false => rfl
  ex := fun s h0 h1 => by
    obtain ⟨c, e⟩ := jt_good h1
    rw [e] at h1 ⊢
    obtain ⟨c1, c2, c3, c4⟩ := c
    have hx := jobC.ex ((textG s).1, false, ()) rfl c2
    rw [c3, List.append_nil] at hx
    have ht := textC.ex s h0 h1
    refine ⟨⟨hx.1, c4, by rw [← hx.2]; exact c1⟩, ?_⟩
    show s.1 = textB (jobB (jobG ((textG s).1, false, ())).1) ++ (textG s).2.1
    rw [← hx.2]
    exact ht.2
  len := fun s => by
    unfold jtG
    cases dec' (Good (textG s).1) with
    | true => exact textC.len s
    | false => exact Nat.zero_le _
noncomputable def hand11G (s : In) : T55D × In := bif (flagG s).1 then handG (flagG s).2 else (NoHand, (flagG s).2)
theorem hand_ne {h : T55D} (hh : HandOk h) : h ≠ NoHand := fun e => by
  rw [e] at hh
  exact absurd hh.1.1 (by decide)
theorem hand11C : Codec hand11B hand11G (fun h => h = NoHand ∨ HandQ h) where
  rt := fun h r hh => by
    unfold hand11G hand11B
    by_cases c : h = NoHand
    · rw [dec_true c, c]
      simp only [cond_true]
      rw [flagC.rt false r trivial]
      rfl
    · rw [dec_false c]
      simp only [cond_false, List.append_assoc]
      rw [flagC.rt true _ trivial]
      simp only [cond_true]
      exact handC.rt h r (hh.resolve_left c)
  fine := fun s hs => by
    unfold hand11G
    cases (flagG s).1 with
    | true => exact handC.fine _ (flagC.fine s hs)
    | false => exact flagC.fine s hs
  bad := fun s hs => by
    unfold hand11G
    cases (flagG s).1 with
    | true => exact handC.bad _ (flagC.bad s hs)
    | false => exact flagC.bad s hs
  ex := fun s h0 h1 => by
    unfold hand11G at *
    cases hf : (flagG s).1 with
    | true =>
      rw [hf] at h1
      simp only [cond_true] at h1 ⊢
      obtain ⟨g1, g2, g3⟩ := handC.ex' h1
      obtain ⟨-, f2⟩ := flagC.ex s h0 g1
      refine ⟨.inr g2, ?_⟩
      have hne := hand_ne (h := (handG (flagG s).2).1) (by
        have := g2.2
        by_cases c : HandOk (handG (flagG s).2).1
        · exact c
        · rw [dec_false c] at this; cases this)
      unfold hand11B
      rw [dec_false hne]
      simp only [cond_false, List.append_assoc]
      rw [← g3, ← hf]
      exact f2
    | false =>
      rw [hf] at h1
      simp only [cond_false] at h1 ⊢
      obtain ⟨-, f2⟩ := flagC.ex s h0 h1
      refine ⟨.inl trivial, ?_⟩
      unfold hand11B
      rw [dec_true rfl]
      simp only [cond_true]
      rw [← hf]
      exact f2
  len := fun s => by
    unfold hand11G
    cases (flagG s).1 with
    | true => exact Nat.le_trans (handC.len _) (flagC.len s)
    | false => exact flagC.len s
noncomputable abbrev batch1G : In → TBD × In := consG numG (consG itemsG unitG)
abbrev BatchQ1 : TBD → Prop := consOk In64 (consOk (ListQ ItemQ) (fun _ => True))
theorem batch1C : Codec batch1B batch1G BatchQ1 := consC numC (consC itemsC unitC)
theorem batchesC : Codec batchesB (listG batch1G) (ListQ BatchQ1) := listC batch1C (num_one _)
/-- by kinds -/
abbrev g3 : In → (Int × List UInt8 × List UInt8 × Int × Int × Unit) × In := consG numG (consG textG (consG textG (consG numG (consG numG unitG))))
abbrev g4 : In → (Int × List UInt8 × List UInt8 × Int × Unit) × In := consG numG (consG textG (consG textG (consG numG unitG)))
abbrev g5 : In → (List UInt8 × List UInt8 × Int × Unit) × In := consG textG (consG textG (consG numG unitG))
noncomputable abbrev g8 : In → (Int × Int × T51D × Unit) × In := consG numG (consG numG (consG replyG unitG))
noncomputable abbrev g9 : In → (Int × Int × List TBD × Unit) × In := consG numG (consG numG (consG (listG batch1G) unitG))
noncomputable abbrev g10 : In → (Int × Bool × List T70D × Unit) × In := consG numG (consG flagG (consG itemsG unitG))
noncomputable abbrev g11 : In → (Int × T55D × Unit) × In := consG numG (consG hand11G unitG)
noncomputable abbrev g12 : In → (Int × T53D × Unit) × In := consG numG (consG moveG unitG)
abbrev Q6 : List UInt8 → Prop := fun s => s.length ≤ 60000
theorem c3 : Codec (consB numB (consB textB (consB textB (consB numB (consB numB unitB))))) g3 (consOk In64 (consOk Q6 (consOk Q6 (consOk In64 (consOk In64 (fun _ => True)))))) := consC numC (consC textC (consC textC (consC numC (consC numC unitC))))
theorem c4 : Codec (consB numB (consB textB (consB textB (consB numB unitB)))) g4 (consOk In64 (consOk Q6 (consOk Q6 (consOk In64 (fun _ => True))))) := consC numC (consC textC (consC textC (consC numC unitC)))
theorem c5 : Codec (consB textB (consB textB (consB numB unitB))) g5 (consOk Q6 (consOk Q6 (consOk In64 (fun _ => True)))) := consC textC (consC textC (consC numC unitC))
theorem c8 : Codec (consB numB (consB numB (consB replyB unitB))) g8 (consOk In64 (consOk In64 (consOk ReplyQ (fun _ => True)))) := consC numC (consC numC (consC replyC unitC))
theorem c9 : Codec (consB numB (consB numB (consB batchesB unitB))) g9 (consOk In64 (consOk In64 (consOk (ListQ BatchQ1) (fun _ => True)))) := consC numC (consC numC (consC batchesC unitC))
theorem c10 : Codec (consB numB (consB flagB (consB itemsB unitB))) g10 (consOk In64 (consOk (fun _ => True) (consOk (ListQ ItemQ) (fun _ => True)))) := consC numC (consC flagC (consC itemsC unitC))
theorem c11 : Codec (consB numB (consB hand11B unitB)) g11 (consOk In64 (consOk (fun h => h = NoHand ∨ HandQ h) (fun _ => True))) := consC numC (consC hand11C unitC)
theorem c12 : Codec (consB numB (consB moveB unitB)) g12 (consOk In64 (consOk MoveQ (fun _ => True))) := consC numC (consC moveC unitC)
noncomputable def restG (k rid : Int) (s : In) : TMD × In :=
  if k = 2 then ((k, rid, NoMsg, (jtG s).1, 0, [], [], 0, 0, 0, 0, NoReply, [], [], false, NoHand, NoMove, ()), (jtG s).2)
  else if k = 3 then ((k, rid, NoMsg, NoJob, (g3 s).1.1, (g3 s).1.2.1, (g3 s).1.2.2.1, (g3 s).1.2.2.2.1, (g3 s).1.2.2.2.2.1, 0, 0, NoReply, [], [], false, NoHand, NoMove, ()), (g3 s).2)
  else if k = 4 then ((k, rid, NoMsg, NoJob, (g4 s).1.1, (g4 s).1.2.1, (g4 s).1.2.2.1, (g4 s).1.2.2.2.1, 0, 0, 0, NoReply, [], [], false, NoHand, NoMove, ()), (g4 s).2)
  else if k = 5 then ((k, rid, NoMsg, NoJob, 0, (g5 s).1.1, (g5 s).1.2.1, (g5 s).1.2.2.1, 0, 0, 0, NoReply, [], [], false, NoHand, NoMove, ()), (g5 s).2)
  else if k = 6 then ((k, rid, NoMsg, NoJob, 0, [], [], (numG s).1, 0, 0, 0, NoReply, [], [], false, NoHand, NoMove, ()), (numG s).2)
  else if k = 8 then ((k, rid, NoMsg, NoJob, 0, [], [], 0, 0, (g8 s).1.1, (g8 s).1.2.1, (g8 s).1.2.2.1, [], [], false, NoHand, NoMove, ()), (g8 s).2)
  else if k = 9 then ((k, rid, NoMsg, NoJob, 0, [], [], (g9 s).1.2.1, 0, (g9 s).1.1, 0, NoReply, (g9 s).1.2.2.1, [], false, NoHand, NoMove, ()), (g9 s).2)
  else if k = 10 then ((k, rid, NoMsg, NoJob, 0, [], [], 0, 0, (g10 s).1.1, 0, NoReply, [], (g10 s).1.2.2.1, (g10 s).1.2.1, NoHand, NoMove, ()), (g10 s).2)
  else if k = 11 then ((k, rid, NoMsg, NoJob, 0, [], [], 0, 0, (g11 s).1.1, 0, NoReply, [], [], false, (g11 s).1.2.1, NoMove, ()), (g11 s).2)
  else if k = 12 then ((k, rid, NoMsg, NoJob, 0, [], [], (g12 s).1.1, 0, 0, 0, NoReply, [], [], false, NoHand, (g12 s).1.2.1, ()), (g12 s).2)
  else ((k, rid, NoMsg, NoJob, 0, [], [], 0, 0, 0, 0, NoReply, [], [], false, NoHand, NoMove, ()), s)
theorem getNum (s : In) : F127a (s, ()) = some ((numG s).1, (numG s).2, ()) := by
  unfold F127a
  exact bind_of (inNumG s) rfl
theorem kindsD (k : Int) : k = 2 ∨ k = 3 ∨ k = 4 ∨ k = 5 ∨ k = 6 ∨ k = 8 ∨ k = 9 ∨ k = 10 ∨ k = 11 ∨ k = 12 ∨ (k ≠ 2 ∧ k ≠ 3 ∧ k ≠ 4 ∧ k ≠ 5 ∧ k ≠ 6 ∧ k ≠ 8 ∧ k ≠ 9 ∧ k ≠ 10 ∧ k ≠ 11 ∧ k ≠ 12) := by omega
theorem getT_eq (k rid : Int) (s : In) (h : Sm s) : F51 (s, (k, rid, NoMsg, NoJob, 0, [], [], 0, 0, 0, 0, NoReply, [], [], false, NoHand, NoMove, ()), ()) = some ((restG k rid s).2, (restG k rid s).1, ()) := by
  have h1 := sm_of numC h
  have h2 := sm_of numC h1
  have t1 := sm_of textC h
  have t2 := sm_of textC h1
  have t3 := sm_of textC t2
  unfold F51 restG
  rcases kindsD k with e | e | e | e | e | e | e | e | e | e | e
  · subst e
    have hl : (textG s).1.length ≤ 60000 := text_most s
    have hb : F129 (s, 60000, ()) = some ((textG s).1, (textG s).2, ()) := inBytesG s 60000 (by omega) h
    simp only [Int.reduceEq, decide_true, cond_true, hb, Option.bind_some, decode_eq (textG s).1 (by omega), if_true]
    unfold jtG
    by_cases c : Good (textG s).1
    · rw [dec_true c]; simp only [cond_true, decide_true, Bool.not_true, cond_false]
    · rw [dec_false c]; simp only [cond_false]; rfl
  · subst e
    simp only [Int.reduceEq, decide_true, decide_false, cond_true, cond_false, inNumG, Option.bind_some, inTextG _ h1, inTextG _ t2, if_true, if_false]
    rfl
  · subst e
    simp only [Int.reduceEq, decide_true, decide_false, cond_true, cond_false, inNumG, Option.bind_some, inTextG _ h1, inTextG _ t2, if_true, if_false]
    rfl
  · subst e
    simp only [Int.reduceEq, decide_true, decide_false, cond_true, cond_false, inNumG, Option.bind_some, inTextG _ h, inTextG _ t1, if_true, if_false]
    rfl
  · subst e
    simp only [Int.reduceEq, decide_true, decide_false, cond_true, cond_false, inNumG, Option.bind_some, if_true, if_false]
  · subst e
    simp only [Int.reduceEq, decide_true, decide_false, cond_true, cond_false, getNum, inNumG, Option.bind_some, getReply_eq _ h2, if_true, if_false]
    rfl
  · subst e
    simp only [Int.reduceEq, decide_true, decide_false, cond_true, cond_false, getNum, inNumG, Option.bind_some, inCount_eq (numG (numG s).2).2 60000 (by omega) (by unfold Sm at h2; omega), if_true, if_false]
    refine list_loopM batch1C 60000 (by omega) (numG (numG s).2).2 h2 (fun l i t => (i, l, t)) (fun i l t hi hl ht => ?_) ?_
    · have hc := countI_le (numG (numG s).2).2 60000 (by omega)
      have hi2 : i < 60000 := by omega
      simp only [decide_eq_true hi, cond_true, inNumG, Option.bind_some, getItemsT_eq _ (sm_of numC ht), app1 hi2 hl, wrap64_nat (show i < 9223372036854775807 by omega)]
      rfl
    · simp only [Int.lt_irrefl, decide_false, cond_false]
      rfl
  · subst e
    simp only [Int.reduceEq, decide_true, decide_false, cond_true, cond_false, getNum, inFlagG, Option.bind_some, getItemsT_eq _ (sm_of flagC h1), if_true, if_false]
    rfl
  · subst e
    simp only [Int.reduceEq, decide_true, decide_false, cond_true, cond_false, getNum, inFlagG, Option.bind_some, getHand_eq _ (sm_of flagC h1), if_true, if_false]
    have e11 : g11 s = (((numG s).1, (hand11G (numG s).2).1, ()), (hand11G (numG s).2).2) := rfl
    rw [e11]
    unfold hand11G
    cases (flagG (numG s).2).1 <;> rfl
  · subst e
    simp only [Int.reduceEq, decide_true, decide_false, cond_true, cond_false, inNumG, Option.bind_some, getMove_eq _ h1, if_true, if_false]
    rfl
  · obtain ⟨e2, e3, e4, e5, e6, e8, e9, e10, e11, e12⟩ := e
    simp only [e2, e3, e4, e5, e6, e8, e9, e10, e11, e12, decide_false, cond_false, if_false]
end Go.Proofs.YteebpcpkhojfkaaGreat
