/-
  Talk: awake, few, answers; the law of right messages.
-/
import Derived.Test.YteebpcpkhojfkaaGreatTalkLawC
namespace Go.Proofs.YteebpcpkhojfkaaGreat
open Go.Sx Go Classical
set_option maxRecDepth 10000
abbrev NoT : TMD := (0, 0, NoMsg, NoJob, 0, [], [], 0, 0, 0, 0, NoReply, [], [], false, NoHand, NoMove, ())
abbrev look0 : TMD := (7, 5, NoMsg, NoJob, 0, [], [], 0, 0, 0, 0, NoReply, [], [], false, NoHand, NoMove, ())
theorem shLook : ShT look0 := by
  have z : ∀ {α : Type}, Sh ([] : List α) := fun {_} => by simp [Sh]
  exact ⟨z, shNo, z, ⟨z, fun b hb => by simp at hb⟩, z, ⟨⟨z, fun b hb => by simp at hb⟩, z⟩⟩
theorem shNoT : ShT NoT := by
  have z : ∀ {α : Type}, Sh ([] : List α) := fun {_} => by simp [Sh]
  exact ⟨z, shNo, z, ⟨z, fun b hb => by simp at hb⟩, z, ⟨⟨z, fun b hb => by simp at hb⟩, z⟩⟩
theorem rightLook : RightT look0 := ⟨⟨by decide, by decide⟩, rfl, by unfold KindT Kind1 Pos40; simp⟩
theorem notNoT : ¬ RightT NoT := fun h => absurd h.1.1 (by decide)
theorem awakeT_eq : F7 () = some (true, ()) := by
  have hr := tright_eq look0 shLook
  rw [dec_true rightLook] at hr
  have hn := tright_eq NoT shNoT
  rw [dec_false notNoT] at hn
  have hs := msg_same look0 look0 shLook
  rw [dec_true rfl] at hs
  have e1 : F25 (([], ()), Sx.byteOf (IntKind.wrap IntKind.u8 7), ()) = some (([] ++ kindB 7, ()), ()) := outKindG [] 7 (by show _ ≤ (140737488355000 : Nat); simp [kindB_len])
  have e2 : F28 (([] ++ kindB 7, ()), 5, ()) = some (([] ++ kindB 7 ++ numB 5, ()), ()) := outNumG _ 5 (by show _ ≤ (140737488355000 : Nat); simp [kindB_len, numB_len])
  have e3 : F30 (([] ++ kindB 7 ++ numB 5, ()), look0, ()) = some (([] ++ kindB 7 ++ numB 5, ()), ()) := rfl
  have hlen : ([] ++ kindB 7 ++ numB 5).length = 9 := by simp [kindB_len, numB_len]
  have e4 := end_eq ([] ++ kindB 7 ++ numB 5) (by omega)
  have hE : F9 (look0, ()) = some ([] ++ kindB 7 ++ numB 5, 0, ()) := by
    unfold F9
    refine bind_of hr ?_
    refine bind_of e1 ?_
    refine bind_of (show _ = some (Sum.inl (([] ++ kindB 7 ++ numB 5, ()) : T83D)) from bind_of e2 (bind_of e3 rfl)) ?_
    simp only [Sum.elim_inl]
    exact bind_of e4 rfl
  have c1 := kindC.rt 7 (numB 5) ⟨by decide, by decide⟩
  have c2 := numC.rt 5 [] (by unfold In64; decide)
  rw [List.append_nil] at c2
  have d0 := newIn_eq ([] ++ kindB 7 ++ numB 5) (by omega)
  rw [List.nil_append] at d0 hE hlen
  have d1 : F48 ((kindB 7 ++ numB 5, false, ()), ()) = some ((byteG (kindB 7 ++ numB 5, false, ())).1, (kindG (kindB 7 ++ numB 5, false, ())).2, ()) := inByteG _
  have hb : wrap64 (intOf8 (byteG (kindB 7 ++ numB 5, false, ())).1) = 7 := congrArg (fun z => z.1) c1
  have d2 : F50 ((kindG (kindB 7 ++ numB 5, false, ())).2, ()) = some (5, ([], false, ()), ()) := by
    rw [inNumG, c1]
    simp only [c2]
  have d3 : F51 (([], false, ()), (7, 5, NoMsg, NoJob, 0, [], [], 0, 0, 0, 0, NoReply, [], [], false, NoHand, NoMove, ()), ()) = some (([], false, ()), look0, ()) := rfl
  have hD : F13 (kindB 7 ++ numB 5, ()) = some (look0, 0, ()) := by
    unfold F13
    refine bind_of d0 ?_
    refine bind_of d1 ?_
    simp only [hb]
    refine bind_of (show _ = some (Sum.inl (7, 5, NoMsg, NoJob, 0, [], [], 0, 0, 0, 0, NoReply, [], [], false, NoHand, NoMove, [], false, ())) from bind_of d2 (bind_of d3 rfl)) ?_
    simp only [Sum.elim_inl, hlen]
    exact bind_of hr rfl
  unfold F7
  refine bind_of hE ?_
  refine bind_of hD ?_
  simp only [hlen, decide_true, cond_true]
  refine bind_of hs ?_
  simp only [cond_true]
  exact bind_of hn rfl
theorem fewT_ex (m : TMD) (hm : ShT m) (hs : m.2.2.2.2.2.2.2.2.2.2.2.2.2.2.2.1.2.2.1.length ≤ 1800000000000) : ∃ z, F8 (m, ()) = some (z, ()) ∧ (z = true → m.2.2.2.2.2.2.2.2.2.2.2.2.2.2.2.1.2.2.1.length ≤ 20 ∧ m.2.2.2.1.2.2.1.2.2.2.2.2.2.2.2.2.2.2.2.2.2.2.1.length ≤ 20) := by
  obtain ⟨h1, h2, h3, ⟨h4, h4'⟩, h5, h6⟩ := hm
  obtain ⟨k, rid, raft, ⟨j1, j2, j3, ⟨⟩⟩, cl, fr, en, rev, most, err, hint, rep, bat, its, done, ⟨d1, d2, d3, d4, ⟨⟩⟩, mov, ⟨⟩⟩ := m
  dsimp only at hs h1 h2 h3 h4 h4' h5 h6
  have z : ∀ {α : Type}, Sh ([] : List α) := fun {_} => by simp [Sh]
  have zS : ShS [] := ⟨z, fun s hs => by simp at hs⟩
  have hI : ∀ l : List T70D, Sh l → ∃ z, F23 ((0, [], [], [], 0, 0, 0, [], [], [], 0, 0, 0, false, l, [], [], ()), ()) = some (z, ()) := fun l hl => by
    obtain ⟨z, hz, -⟩ := few_ex (0, [], [], [], 0, 0, 0, [], [], [], 0, 0, 0, false, l, [], [], ()) ⟨z, z, z, hl, zS, z⟩
    exact ⟨z, hz⟩
  unfold F8
  refine ex_of (Q := fun r => r.1 = true → d3.length ≤ 20 ∧ j3.2.2.2.2.2.2.2.2.2.2.2.2.2.2.2.1.length ≤ 20) (tot_loop bat h4 _ (fun n i v hi hv => ?_) (fun n => ?_) _) (fun z hz => hz)
  · have ok : wrap64 ((i : Int) + 1) = ((i + 1 : Nat) : Int) := wrap64_nat (by unfold Sh at h4; omega)
    obtain ⟨q, hq⟩ := hI v.2.1 (h4' v (List.mem_of_getElem? hv))
    simp only [lt_len, hi, decide_true, cond_true, idx_nat, hv, Option.bind_some, ok, hq]
    by_cases c : (400 : Int) < wrap64 (wrap64 (n + 1) + Int.ofNat v.2.1.length)
    · rw [decide_eq_true c]
      exact .inr ⟨_, rfl, fun h => by cases h⟩
    · rw [decide_eq_false c]
      cases q with
      | true => exact .inl ⟨_, rfl⟩
      | false => exact .inr ⟨_, rfl, fun h => by cases h⟩
  · simp only [lt_len, Nat.lt_irrefl, decide_false, cond_false]
    refine map_ex ?_
    obtain ⟨b1, e1⟩ := fewM_ex raft h1
    obtain ⟨b2, e2, e2'⟩ := few_ex j3 h2
    obtain ⟨b3, e3⟩ := hI its h5
    have ea : appM [((0 : Int), (0 : Int), rep, ())] d3 = some ([(0, 0, rep, ())] ++ d3) := appM_eq (by simp only [List.length_cons, List.length_nil]; omega)
    obtain ⟨b4, e4, e4'⟩ := few_ex (0, [], [], [], 0, 0, 0, [], [], [], 0, 0, 0, false, [], [(0, 0, rep, ())] ++ d3, d4, ()) ⟨z, z, z, z, ⟨by simp [Sh]; omega, fun s hs => by
      rcases List.mem_append.1 hs with h | h
      · rw [List.mem_singleton.1 h]; exact h3
      · exact h6.1.2 s h⟩, h6.2⟩
    simp only [e1, e2, e3, ea, e4, Option.bind_some]
    cases b1 with
    | false => exact ⟨_, rfl, fun h => by cases h⟩
    | true =>
      cases b2 with
      | false => exact ⟨_, rfl, fun h => by cases h⟩
      | true =>
        cases b3 with
        | false => exact ⟨_, rfl, fun h => by cases h⟩
        | true =>
          cases b4 with
          | false => exact ⟨_, rfl, fun h => by cases h⟩
          | true =>
            refine ⟨_, rfl, fun _ => ⟨?_, e2' rfl⟩⟩
            have := e4' rfl
            simp only [List.length_append, List.length_cons, List.length_nil] at this
            omega
theorem szT {m : TMD} (h : Fit47 TM m) : SzT m := by
  obtain ⟨k, rid, raft, ⟨j1, j2, j3, ⟨⟩⟩, cl, fr, en, rev, most, err, hint, rep, bat, its, done, hand, mov, ⟨⟩⟩ := m
  obtain ⟨-, -, f3, ⟨-, -, f4, -⟩, -, f6, f7, -, -, -, -, f12, f13, f14, -, f16, f17, -⟩ := h
  have hC := szCmd f4
  have hH := szHand f16
  have hR := szReply f12
  have hI : ∀ {l : List T70D}, Fit47 (.slice T70) l → SzItems l := fun h => ⟨sh_of h.1, fun x hx => (h.2 x hx).1⟩
  exact ⟨⟨sh_of f3.2.2.2.2.2.2.2.2.2.1.1, hC.1, hR.1, ⟨sh_of f13.1, fun b hb => (hI (f13.2 b hb).2.1).1⟩, (hI f14).1, hH.2⟩, hC, f6, f7, hR, fun b hb => hI (f13.2 b hb).2.1, hI f14, hH.1, szMove f17⟩
theorem handT_many {m : TMD} (h : FitM TM m) : m.2.2.2.2.2.2.2.2.2.2.2.2.2.2.2.1.2.2.1.length ≤ 1800000000000 := hand_many h.2.2.2.2.2.2.2.2.2.2.2.2.2.2.2.1
theorem toT_eq (m : TMD) : F10 (m, ()) = some (m, ()) := rfl
theorem ofT_eq (m : TMD) : F16 (m, ()) = some (m, ()) := rfl
end Go.Proofs.YteebpcpkhojfkaaGreat
