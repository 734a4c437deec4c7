/-
  Talk: the laws of bytes.
-/
import Derived.Test.YteebpcpkhojfkaaGreatTalkLawI
namespace Go.Proofs.YteebpcpkhojfkaaGreat
open Go.Sx Go Classical
set_option maxRecDepth 10000
/-- a message out of bytes -/
noncomputable def decG (b : List UInt8) : TMD × In :=
  bif decide ((kindG (b, false, ())).1 = 1) then (((kindG (b, false, ())).1, 0, (msgG (kindG (b, false, ())).2).1, NoJob, 0, [], [], 0, 0, 0, 0, NoReply, [], [], false, NoHand, NoMove, ()), (msgG (kindG (b, false, ())).2).2)
  else restG (kindG (b, false, ())).1 (numG (kindG (b, false, ())).2).1 (numG (kindG (b, false, ())).2).2
theorem dec_nice (b : List UInt8) : NiceT (decG b).1 := by
  unfold decG
  cases decide ((kindG (b, false, ())).1 = 1) with
  | true => exact niceZ _ _ _ (msgG_len _) _ (szCmd fitNoCmd) (by simp) _ _ _ (by simp) (by simp) _ _ _ _ _ fitNoReply _ noneBat _ noneItems _ _ fitNoHand (by simp) _ fitNoMove
  | false => exact rest_nice _ _ _
def GoodT (b : List UInt8) : Prop := b.length ≤ 60000 ∧ (decG b).2.2.1 = false ∧ (decG b).2.1 = [] ∧ RightT (decG b).1
theorem decT_eq (b : List UInt8) (h : b.length ≤ 1000000000) : F13 (b, ()) = some (bif dec' (GoodT b) then ((decG b).1, 0, ()) else (NoT, 2, ())) := by
  have hs : Sm (b, false, ()) := h
  have h1 := sm_of kindC hs
  have h2 := sm_of numC h1
  have hn := dec_nice b
  have fin : ∀ (m : TMD) (s : In), decG b = (m, s) → (bif decide (60000 < Int.ofNat b.length) then some (NoT, 2, ()) else Option.bind (F52 (s, ())) fun b => bif !b.fst then some (NoT, 2, ()) else Option.bind (F17 (m, ())) fun b => bif !b.fst then some (NoT, 2, ()) else some (m, 0, ()) : Option (TMD × Int × Unit)) = some (bif dec' (GoodT b) then ((decG b).1, 0, ()) else (NoT, 2, ())) := by
    intro m s e
    have hr := tright_eq m (by have := hn.1.1; rw [e] at this; exact this)
    by_cases c1 : b.length ≤ 60000
    · have d1 : decide ((60000 : Int) < Int.ofNat b.length) = false := decide_eq_false (by simp only [Int.ofNat_eq_natCast]; omega)
      rw [d1]
      simp only [cond_false, done_eq, Option.bind_some]
      obtain ⟨s1, s2, ⟨⟩⟩ := s
      cases s2 with
      | true =>
        rw [dec_false (p := GoodT b) fun g => by have := g.2.1; rw [e] at this; cases this]
        rfl
      | false =>
        simp only [Bool.not_false, cond_true]
        by_cases c2 : s1 = []
        · subst c2
          have d2 : decide (Int.ofNat ([] : List UInt8).length = 0) = true := by decide
          simp only [d2, Bool.not_true, cond_false, hr, Option.bind_some]
          by_cases c3 : RightT m
          · rw [dec_true c3, dec_true (p := GoodT b) ⟨c1, by rw [e], by rw [e], by rw [e]; exact c3⟩, e]
            rfl
          · rw [dec_false c3, dec_false (p := GoodT b) fun g => c3 (by have := g.2.2.2; rw [e] at this; exact this)]
            rfl
        · have d2 : decide (Int.ofNat s1.length = 0) = false := decide_eq_false (by
            simp only [Int.ofNat_eq_natCast]
            intro h0
            exact c2 (List.eq_nil_of_length_eq_zero (by omega)))
          rw [d2, dec_false (p := GoodT b) fun g => c2 (by have := g.2.2.1; rw [e] at this; exact this)]
          rfl
    · have d1 : decide ((60000 : Int) < Int.ofNat b.length) = true := decide_eq_true (by simp only [Int.ofNat_eq_natCast]; omega)
      rw [d1, dec_false (p := GoodT b) fun g => c1 g.1]
      rfl
  have hb : F48 ((b, false, ()), ()) = some ((byteG (b, false, ())).1, (byteG (b, false, ())).2, ()) := inByteG _
  have hk : wrap64 (intOf8 (byteG (b, false, ())).1) = (kindG (b, false, ())).1 := rfl
  have hk2 : (byteG (b, false, ())).2 = (kindG (b, false, ())).2 := rfl
  unfold F13
  refine bind_of (newIn_eq b (by omega)) ?_
  refine bind_of hb ?_
  simp only [hk, hk2]
  have hG : ∀ k rid s, Sm s → F51 (s, (k, rid, NoMsg, NoJob, 0, [], [], 0, 0, 0, 0, NoReply, [], [], false, NoHand, NoMove, ()), ()) = some ((restG k rid s).2, (restG k rid s).1, ()) := fun k rid s h => getT_eq k rid s h
  by_cases c : (kindG (b, false, ())).1 = 1
  · have e : decG b = (((kindG (b, false, ())).1, 0, (msgG (kindG (b, false, ())).2).1, NoJob, 0, [], [], 0, 0, 0, 0, NoReply, [], [], false, NoHand, NoMove, ()), (msgG (kindG (b, false, ())).2).2) := by unfold decG; rw [decide_eq_true c]; rfl
    simp only [decide_eq_true c, cond_true]
    refine bind_of (bind_of (get_eq _ h1) rfl) ?_
    simp only [Sum.elim_inl]
    exact fin _ _ e
  · have e : decG b = restG (kindG (b, false, ())).1 (numG (kindG (b, false, ())).2).1 (numG (kindG (b, false, ())).2).2 := by unfold decG; rw [decide_eq_false c]; rfl
    simp only [decide_eq_false c, cond_false]
    refine bind_of (bind_of (inNumG (kindG (b, false, ())).2) (bind_of (hG _ _ _ h2) rfl)) ?_
    simp only [Sum.elim_inl]
    exact fin (restG (kindG (b, false, ())).1 (numG (kindG (b, false, ())).2).1 (numG (kindG (b, false, ())).2).2).1 _ e
theorem msg_ex {s : In} (h0 : s.2.1 = false) (h : (msgG s).2.2.1 = false) : s.1 = msgB (msgG s).1 ++ (msgG s).2.1 := by
  unfold msgG at h ⊢
  have hR : (msgR s).2.2.1 = false ∧ guardG NoMsg mayM msgR s = msgR s := by
    unfold guardG at h ⊢
    cases h2 : (msgR s).2.2.1 with
    | true => rw [h2] at h; cases h
    | false =>
      cases h3 : mayM (msgR s).1 with
      | true => exact ⟨rfl, rfl⟩
      | false => rw [h2, h3] at h; cases h
  rw [hR.2]
  have h1 := hR.1
  unfold msgR tailG at h1 ⊢
  dsimp only at h1 ⊢
  by_cases c : (headG s).1.1 = 7
  · simp only [decide_eq_true c, cond_true] at h1 ⊢
    obtain ⟨a1, a2, a3⟩ := snapC.ex' h1
    obtain ⟨b1, b2, b3⟩ := headC.ex' a1
    rw [b3, a3, ← List.append_assoc]
    refine congrArg (fun z => z ++ _) ?_
    show _ = headB (headOf _) ++ tailB (headG s).1.1 _
    unfold tailB
    rw [decide_eq_true c]
    rfl
  · simp only [decide_eq_false c, cond_false] at h1 ⊢
    obtain ⟨b1, b2, b3⟩ := headC.ex' h1
    rw [b3]
    refine congrArg (fun z => z ++ _) ?_
    show _ = headB (headOf _) ++ tailB (headG s).1.1 _
    unfold tailB
    rw [decide_eq_false c]
    simp only [cond_false, List.append_nil]
    rfl
theorem good_bytes {b : List UInt8} (h : GoodT b) : msgTB (decG b).1 = b := by
  obtain ⟨h1, h2, h3, h4⟩ := h
  unfold decG at *
  by_cases c : (kindG (b, false, ())).1 = 1
  · simp only [decide_eq_true c, cond_true] at h2 h3 h4 ⊢
    have hb0 : (kindG (b, false, ())).2.2.1 = false := by
      cases hb : (kindG (b, false, ())).2.2.1 with
      | false => rfl
      | true =>
        have : (msgG (kindG (b, false, ())).2).2.2.1 = true := by
          unfold msgG guardG
          have : (msgR (kindG (b, false, ())).2).2.2.1 = true := by
            have hH := headC.bad _ hb
            unfold msgR tailG
            dsimp only
            cases decide ((headG (kindG (b, false, ())).2).1.1 = 7) with
            | true => exact snapC.bad _ hH
            | false => exact hH
          rw [this]; rfl
        rw [this] at h2; cases h2
    have a1 := kindC.ex (b, false, ()) rfl hb0
    have a2 := msg_ex hb0 h2
    rw [h3, List.append_nil] at a2
    unfold msgTB
    dsimp only
    rw [if_pos c, ← a2]
    exact a1.2.symm
  · simp only [decide_eq_false c, cond_false] at h2 h3 h4 ⊢
    obtain ⟨r1, r2⟩ := rest_kind (kindG (b, false, ())).1 (numG (kindG (b, false, ())).2).1 (numG (kindG (b, false, ())).2).2
    have hk := h4.1
    rw [r1] at hk
    obtain ⟨x1, x2, x3⟩ := rest_ex _ _ _ h2 ⟨by omega, hk.2⟩
    rw [h3, List.append_nil] at x2
    obtain ⟨y1, y2, y3⟩ := numC.ex' x1
    have a1 := kindC.ex (b, false, ()) rfl y1
    unfold msgTB
    rw [r1, r2, if_neg c, ← x2, ← y3]
    exact a1.2.symm
theorem lawTDec (x : (argTy P4).den) (_ : Fit47 (argTy P4) x) : F4 x = some (true, ()) := by
  obtain ⟨b, ⟨⟩⟩ : List UInt8 × Unit := x
  unfold F4
  simp only [awakeT_eq, Option.bind_some, Bool.not_true, cond_false]
  by_cases h2 : (20000 : Int) < Int.ofNat b.length
  · simp only [h2, decide_true, cond_true]
  have hl : b.length ≤ 20000 := by simp only [Int.ofNat_eq_natCast] at h2; omega
  have hd : F13 (b, PUnit.unit) = _ := decT_eq b (by omega)
  simp only [h2, decide_false, cond_false, hd, Option.bind_some]
  obtain ⟨n1, n2, n3, n4⟩ := dec_nice b
  by_cases hg : GoodT b
  · rw [dec_true hg]
    have hgb := good_bytes hg
    have hR := hg.2.2.2
    simp only [cond_true, decide_true, Bool.not_true, cond_false, ofT_eq, Option.bind_some]
    have hr := rTright_eq (decG b).1 n1
    rw [dec_true hR] at hr
    refine bind_of hr ?_
    simp only [cond_true]
    refine bind_of (tbytes_eq (decG b).1 n1 n2 hR n3 n4) ?_
    simp only [hgb, decide_true]
  · rw [dec_false hg]
    have hS := rMsg_same NoT NoT shNoT
    rw [dec_true rfl] at hS
    have d : decide ((2 : Int) = 0) = false := rfl
    simp only [cond_false, d, Bool.not_false, cond_true, decide_true, ofT_eq, Option.bind_some]
    exact bind_of hS rfl
end Go.Proofs.YteebpcpkhojfkaaGreat
