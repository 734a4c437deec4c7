/-
  Talk: awake, few, answers; the law of right messages.
-/
import Derived.Test.YteebpcpkhojfkaaGreatTalkLawC
namespace Go.Proofs.YteebpcpkhojfkaaGreat
open Go.Sx Go Classical
set_option maxRecDepth 10000
abbrev NoT : TMD := (0, 0, NoMsg, NoJob, 0, [], [], 0, 0, 0, 0, NoReply, [], [], false, NoHand, NoMove, ())
abbrev look0 : TMD := (7, 5, NoMsg, NoJob, 0, [], [], 0, 0, 0, 0, NoReply, [], [], false, NoHand, NoMove, ())
theorem shLook : ShT look0 := by
  have z : ∀ {α : Type}, Sh ([] : List α) := fun {_} => by simp [Sh]
  exact ⟨z, shNo, z, ⟨z, fun b hb => by simp at hb⟩, z, ⟨⟨z, fun b hb => by simp at hb⟩, z⟩⟩
theorem shNoT : ShT NoT := by
  have z : ∀ {α : Type}, Sh ([] : List α) := fun {_} => by simp [Sh]
  exact ⟨z, shNo, z, ⟨z, fun b hb => by simp at hb⟩, z, ⟨⟨z, fun b hb => by simp at hb⟩, z⟩⟩
theorem rightLook : RightT look0 := ⟨⟨by decide, by decide⟩, rfl, by unfold KindT Kind1 Pos40; simp⟩
theorem notNoT : ¬ RightT NoT := fun h => absurd h.1.1 (by decide)
theorem awakeT_eq : F7 () = some (true, ()) := by
  have hr := tright_eq look0 shLook
  rw [dec_true rightLook] at hr
  have hn := tright_eq NoT shNoT
  rw [dec_false notNoT] at hn
  have hs := msg_same look0 look0 shLook
  rw [dec_true rfl] at hs
  have e1 : F25 (([], ()), Sx.byteOf (IntKind.wrap IntKind.u8 7), ()) = some (([] ++ kindB 7, ()), ()) := outKindG [] 7 (by show _ ≤ (140737488355000 : Nat); simp [kindB_len])
  have e2 : F28 (([] ++ kindB 7, ()), 5, ()) = some (([] ++ kindB 7 ++ numB 5, ()), ()) := outNumG _ 5 (by show _ ≤ (140737488355000 : Nat); simp [kindB_len, numB_len])
  have e3 : F30 (([] ++ kindB 7 ++ numB 5, ()), look0, ()) = some (([] ++ kindB 7 ++ numB 5, ()), ()) := rfl
  have hlen : ([] ++ kindB 7 ++ numB 5).length = 9 := by simp [kindB_len, numB_len]
  have e4 := end_eq ([] ++ kindB 7 ++ numB 5) (by omega)
  have hE : F9 (look0, ()) = some ([] ++ kindB 7 ++ numB 5, 0, ()) := by
    unfold F9
    refine bind_of hr ?_
    refine bind_of e1 ?_
    refine bind_of (show _ = some (Sum.inl (([] ++ kindB 7 ++ numB 5, ()) : T83D)) from bind_of e2 (bind_of e3 rfl)) ?_
    simp only [Sum.elim_inl]
    exact bind_of e4 rfl
  have c1 := kindC.rt 7 (numB 5) ⟨by decide, by decide⟩
  have c2 := numC.rt 5 [] (by unfold In64; decide)
  rw [List.append_nil] at c2
  have d0 := newIn_eq ([] ++ kindB 7 ++ numB 5) (by omega)
  rw [List.nil_append] at d0 hE hlen
  have d1 : F48 ((kindB 7 ++ numB 5, false, ()), ()) = some ((byteG (kindB 7 ++ numB 5, false, ())).1, (kindG (kindB 7 ++ numB 5, false, ())).2, ()) := inByteG _
  have hb : wrap64 (intOf8 (byteG (kindB 7 ++ numB 5, false, ())).1) = 7 := congrArg (fun z => z.1) c1
  have d2 : F50 ((kindG (kindB 7 ++ numB 5, false, ())).2, ()) = some (5, ([], false, ()), ()) := by
    rw [inNumG, c1]
    simp only [c2]
  have d3 : F51 (([], false, ()), (7, 5, NoMsg, NoJob, 0, [], [], 0, 0, 0, 0, NoReply, [], [], false, NoHand, NoMove, ()), ()) = some (([], false, ()), look0, ()) := rfl
  have hD : F13 (kindB 7 ++ numB 5, ()) = some (look0, 0, ()) := by
    unfold F13
    refine bind_of d0 ?_
    refine bind_of d1 ?_
    simp only [hb]
    refine bind_of (show _ = some (Sum.inl (7, 5, NoMsg, NoJob, 0, [], [], 0, 0, 0, 0, NoReply, [], [], false, NoHand, NoMove, [], false, ())) from bind_of d2 (bind_of d3 rfl)) ?_
    simp only [Sum.elim_inl, hlen]
    exact bind_of hr rfl
  unfold F7
  refine bind_of hE ?_
  refine bind_of hD ?_
  simp only [hlen, decide_true, cond_true]
  refine bind_of hs ?_
  simp only [cond_true]
  exact bind_of hn rfl
theorem ofT_eq (m : TMD) : F16 (m, ()) = some (m, ()) := rfl
end Go.Proofs.YteebpcpkhojfkaaGreat
