/-
  Talk: the laws of bytes.
-/
import Derived.Test.YteebpcpkhojfkaaGreatTalkLawI
namespace Go.Proofs.YteebpcpkhojfkaaGreat
open Go.Sx Go Classical
set_option maxRecDepth 10000
/-- a message out of bytes -/
noncomputable def decG (b : List UInt8) : TMD × In :=
  bif decide ((kindG (b, false, ())).1 = 1) then (((kindG (b, false, ())).1, 0, (msgG (kindG (b, false, ())).2).1, NoJob, 0, [], [], 0, 0, 0, 0, NoReply, [], [], false, NoHand, NoMove, ()), (msgG (kindG (b, false, ())).2).2)
  else restG (kindG (b, false, ())).1 (numG (kindG (b, false, ())).2).1 (numG (kindG (b, false, ())).2).2
theorem dec_nice (b : List UInt8) : NiceT (decG b).1 := by
  unfold decG
  cases decide ((kindG (b, false, ())).1 = 1) with
  | true => exact niceZ _ _ _ (msgG_len _) _ (szCmd fitNoCmd) (by simp) _ _ _ (by simp) (by simp) _ _ _ _ _ fitNoReply _ noneBat _ noneItems _ _ fitNoHand (by simp) _ fitNoMove
  | false => exact rest_nice _ _ _
def GoodT (b : List UInt8) : Prop := b.length ≤ 60000 ∧ (decG b).2.2.1 = false ∧ (decG b).2.1 = [] ∧ RightT (decG b).1
theorem decT_eq (b : List UInt8) (h : b.length ≤ 1000000000) : F13 (b, ()) = some (bif dec' (GoodT b) then ((decG b).1, 0, ()) else (NoT, 2, ())) := by
  have hs : Sm (b, false, ()) := h
  have h1 := sm_of kindC hs
  have h2 := sm_of numC h1
  have hn := dec_nice b
  have fin : ∀ (m : TMD) (s : In), decG b = (m, s) → (bif decide (60000 < Int.ofNat b.length) then some (NoT, 2, ()) else Option.bind (F52 (s, ())) fun b => bif !b.fst then some (NoT, 2, ()) else Option.bind (F17 (m, ())) fun b => bif !b.fst then some (NoT, 2, ()) else some (m, 0, ()) : Option (TMD × Int × Unit)) = some (bif dec' (GoodT b) then ((decG b).1, 0, ()) else (NoT, 2, ())) := by
    intro m s e
    have hr := tright_eq m (by have := hn.1.1; rw [e] at this; exact this)
    by_cases c1 : b.length ≤ 60000
    · have d1 : decide ((60000 : Int) < Int.ofNat b.length) = false := decide_eq_false (by simp only [Int.ofNat_eq_natCast]; omega)
      rw [d1]
      simp only [cond_false, done_eq, Option.bind_some]
      obtain ⟨s1, s2, ⟨⟩⟩ := s
      cases s2 with
      | true =>
        rw [dec_false (p := GoodT b) fun g => by have := g.2.1; rw [e] at this; cases this]
        rfl
      | false =>
        simp only [Bool.not_false, cond_true]
        by_cases c2 : s1 = []
        · subst c2
          have d2 : decide (Int.ofNat ([] : List UInt8).length = 0) = true := by decide
          simp only [d2, Bool.not_true, cond_false, hr, Option.bind_some]
          by_cases c3 : RightT m
          · rw [dec_true c3, dec_true (p := GoodT b) ⟨c1, by rw [e], by rw [e], by rw [e]; exact c3⟩, e]
            rfl
          · rw [dec_false c3, dec_false (p := GoodT b) fun g => c3 (by have := g.2.2.2; rw [e] at this; exact this)]
            rfl
        · have d2 : decide (Int.ofNat s1.length = 0) = false := decide_eq_false (by
            simp only [Int.ofNat_eq_natCast]
            intro h0
            exact c2 (List.eq_nil_of_length_eq_zero (by omega)))
          rw [d2, dec_false (p := GoodT b) fun g => c2 (by have := g.2.2.1; rw [e] at this; exact this)]
          rfl
    · have d1 : decide ((60000 : Int) < Int.ofNat b.length) = true := decide_eq_true (by simp only [Int.ofNat_eq_natCast]; omega)
      rw [d1, dec_false (p := GoodT b) fun g => c1 g.1]
      rfl
  have hb : F48 ((b, false, ()), ()) = some ((byteG (b, false, ())).1, (byteG (b, false, ())).2, ()) := inByteG _
  have hk : wrap64 (intOf8 (byteG (b, false, ())).1) = (kindG (b, false, ())).1 := rfl
  have hk2 : (byteG (b, false, ())).2 = (kindG (b, false, ())).2 := rfl
  unfold F13
  refine bind_of (newIn_eq b (by omega)) ?_
  refine bind_of hb ?_
  simp only [hk, hk2]
  have hG : ∀ k rid s, Sm s → F51 (s, (k, rid, NoMsg, NoJob, 0, [], [], 0, 0, 0, 0, NoReply, [], [], false, NoHand, NoMove, ()), ()) = some ((restG k rid s).2, (restG k rid s).1, ()) := fun k rid s h => getT_eq k rid s h
  by_cases c : (kindG (b, false, ())).1 = 1
  · have e : decG b = (((kindG (b, false, ())).1, 0, (msgG (kindG (b, false, ())).2).1, NoJob, 0, [], [], 0, 0, 0, 0, NoReply, [], [], false, NoHand, NoMove, ()), (msgG (kindG (b, false, ())).2).2) := by unfold decG; rw [decide_eq_true c]; rfl
    simp only [decide_eq_true c, cond_true]
    refine bind_of (bind_of (get_eq _ h1) rfl) ?_
    simp only [Sum.elim_inl]
    exact fin _ _ e
  · have e : decG b = restG (kindG (b, false, ())).1 (numG (kindG (b, false, ())).2).1 (numG (kindG (b, false, ())).2).2 := by unfold decG; rw [decide_eq_false c]; rfl
    simp only [decide_eq_false c, cond_false]
    refine bind_of (bind_of (inNumG (kindG (b, false, ())).2) (bind_of (hG _ _ _ h2) rfl)) ?_
    simp only [Sum.elim_inl]
    exact fin (restG (kindG (b, false, ())).1 (numG (kindG (b, false, ())).2).1 (numG (kindG (b, false, ())).2).2).1 _ e
theorem kind_raft {m : TMD} (hR : RightT m) (k : m.1 = 1) : mayM m.2.2.1 = true := by
  have hK := hR.2.2
  unfold KindT Kind1 at hK
  rw [k] at hK
  simp only [Int.reduceEq, false_and, true_and, or_false] at hK
  exact hK
theorem kind_job {m : TMD} (hR : RightT m) (k : m.1 = 2) : JobOk m.2.2.2.1 := by
  have hK := hR.2.2
  unfold KindT Kind1 at hK
  rw [k] at hK
  simp only [Int.reduceEq, false_and, true_and, false_or, or_false] at hK
  exact hK.2
def LongT (m : TMD) : Prop := (m.1 = 2 ∧ 12000 < (jobB m.2.2.2.1).length) ∨ 60000 < (msgTB m).length
theorem end_any (b : List UInt8) : F31 ((b, ()), ()) = some (bif decide (b.length ≤ 60000) then b else [], bif decide (b.length ≤ 60000) then 0 else 3, (b, ()), ()) := by
  by_cases c : b.length ≤ 60000
  · rw [end_eq b c, decide_eq_true c]; rfl
  · rw [end_long b (by omega), decide_eq_false c]; rfl
theorem encT_eq (m : TMD) (hf : Fit47 TM m) (hs : m.2.2.2.1.2.2.1.2.2.2.2.2.2.2.2.2.2.2.2.2.2.2.1.length ≤ 60000) (hh : m.2.2.2.2.2.2.2.2.2.2.2.2.2.2.2.1.2.2.1.length ≤ 60000) : F9 (m, ()) = some (bif dec' (RightT m) then (bif dec' (LongT m) then ([], 3, ()) else (msgTB m, 0, ())) else ([], 1, ())) := by
  have zm := szT hf
  have hr := tright_eq m zm.1
  unfold F9
  by_cases hR : RightT m
  case neg =>
    rw [dec_false hR] at hr ⊢
    refine bind_of hr ?_
    rfl
  rw [dec_true hR] at hr ⊢
  refine bind_of hr ?_
  have hbl := bodyB_len hR hs hh
  have hk0 : F25 (([], ()), Sx.byteOf (IntKind.wrap IntKind.u8 m.1), ()) = some (([] ++ kindB m.1, ()), ()) := outKindG [] m.1 (by simp only [List.length_nil, kindB_len]; unfold Big; omega)
  simp only [Bool.not_true, cond_false, cond_true]
  refine bind_of hk0 ?_
  simp only [List.nil_append]
  -- the end, once all is put
  have fin : (m.1 = 2 → (jobB m.2.2.2.1).length ≤ 12000) → (Option.bind (F31 ((msgTB m, ()), ())) fun b => some (b.fst, b.snd.fst, ()) : Option (List UInt8 × Int × Unit)) = some (bif dec' (LongT m) then ([], 3, ()) else (msgTB m, 0, ())) := by
    intro h2
    rw [end_any]
    simp only [Option.bind_some]
    by_cases c : (msgTB m).length ≤ 60000
    · rw [decide_eq_true c, dec_false (p := LongT m) fun h => by
        rcases h with h | h
        · have := h2 h.1; omega
        · omega]
      rfl
    · rw [decide_eq_false c, dec_true (p := LongT m) (.inr (by omega))]
      rfl
  by_cases k1 : m.1 = 1
  · have hM : mayM m.2.2.1 = true := kind_raft hR k1
    obtain ⟨hO, hS⟩ := right_facts zm.1.1 hM
    have hl := msgB_len hO hS
    have e : kindB m.1 ++ msgB m.2.2.1 = msgTB m := by unfold msgTB; rw [if_pos k1]
    simp only [decide_eq_true k1, cond_true]
    refine bind_of (bind_of (msg_put (kindB m.1) m.2.2.1 zm.1.1 hM (by rw [kindB_len]; unfold Big; omega)) rfl) ?_
    simp only [Sum.elim_inl, e]
    exact fin fun h => by omega
  · simp only [decide_eq_false k1, cond_false]
    by_cases k2 : m.1 = 2
    · have hJ : JobOk m.2.2.2.1 := kind_job hR k2
      have he := encode_eq m.2.2.2.1 hf.2.2.2.1 hs
      rw [dec_true hJ] at he
      simp only [decide_eq_true k2, cond_true]
      by_cases c : (jobB m.2.2.2.1).length ≤ 12000
      · rw [decide_eq_true c] at he
        simp only [cond_true] at he
        have e : kindB m.1 ++ numB m.2.1 ++ textB (jobB m.2.2.2.1) = msgTB m := by
          unfold msgTB bodyB; rw [if_neg k1, if_pos k2, List.append_assoc]
        simp only [he, Option.bind_some, decide_true, Bool.not_true, cond_false]
        rw [outNumG _ _ (by rw [kindB_len, numB_len]; unfold Big; omega)]
        simp only [Option.bind_some]
        rw [outBytesG _ _ (by rw [List.length_append, kindB_len, numB_len, textB_len]; unfold Big; omega)]
        simp only [Option.bind_some, Sum.elim_inl, e]
        exact fin fun _ => c
      · rw [decide_eq_false c] at he
        simp only [cond_false, cond_true] at he
        have d : decide ((3 : Int) = 0) = false := rfl
        rw [dec_true (p := LongT m) (.inl ⟨k2, by omega⟩)]
        simp only [he, Option.bind_some, d, Bool.not_false, cond_true, Sum.elim_inr]
    · have e : kindB m.1 ++ numB m.2.1 ++ bodyB m = msgTB m := by unfold msgTB; rw [if_neg k1, List.append_assoc]
      simp only [decide_eq_false k2, cond_false]
      rw [outNumG _ _ (by rw [kindB_len, numB_len]; unfold Big; omega)]
      simp only [Option.bind_some]
      refine bind_of (bind_of (putT_eq _ m hf hR k1 k2 (by rw [List.length_append, kindB_len, numB_len]; unfold Big; omega)) rfl) ?_
      simp only [Sum.elim_inl, e]
      exact fin fun h => absurd h k2
theorem rlong_eq (m : TMD) (hz : SzT m) (fh : Fit47 T55 m.2.2.2.2.2.2.2.2.2.2.2.2.2.2.2.1) (hR : RightT m) (hs : m.2.2.2.1.2.2.1.2.2.2.2.2.2.2.2.2.2.2.2.2.2.2.1.length ≤ 60000) (hh : m.2.2.2.2.2.2.2.2.2.2.2.2.2.2.2.1.2.2.1.length ≤ 60000) : F12 (m, ()) = some (dec' (LongT m), ()) := by
  have hb := tbytes_eq m hz fh hR hs hh
  have dl : decide ((60000 : Int) < Int.ofNat (msgTB m).length) = dec' (60000 < (msgTB m).length) := by
    rw [dec_iff (p := 60000 < (msgTB m).length) (q := (60000 : Int) < Int.ofNat (msgTB m).length) (by simp only [Int.ofNat_eq_natCast]; omega)]
  unfold F12
  by_cases k2 : m.1 = 2
  · have hJ : JobOk m.2.2.2.1 := kind_job hR k2
    obtain ⟨j1, j2⟩ := job_bytes hz.2.1 hJ hs
    simp only [decide_eq_true k2, cond_true, j1, Option.bind_some, hb, dl]
    by_cases c : 12000 < (jobB m.2.2.2.1).length
    · have d : decide ((12000 : Int) < Int.ofNat (jobB m.2.2.2.1).length) = true := decide_eq_true (by simp only [Int.ofNat_eq_natCast]; omega)
      rw [d, dec_true (p := LongT m) (.inl ⟨k2, c⟩)]
      rfl
    · have d : decide ((12000 : Int) < Int.ofNat (jobB m.2.2.2.1).length) = false := decide_eq_false (by simp only [Int.ofNat_eq_natCast]; omega)
      have e : LongT m = (60000 < (msgTB m).length) := propext ⟨fun h => h.resolve_left fun h => c h.2, .inr⟩
      rw [d, e]
      rfl
  · have e : LongT m = (60000 < (msgTB m).length) := propext ⟨fun h => h.resolve_left fun h => k2 h.1, .inr⟩
    simp only [decide_eq_false k2, cond_false, hb, Option.bind_some, dl, e]
theorem ok_kind {m : TMD} (hR : RightT m) : Ok8 m.1 := ⟨by have := hR.1.1; omega, by have := hR.1.2; omega⟩
theorem pos_rid {m : TMD} (hf : Fit47 TM m) : In64 m.2.1 := hf.2.1
theorem backT (m : TMD) (hf : Fit47 TM m) (hR : RightT m) (hs : m.2.2.2.1.2.2.1.2.2.2.2.2.2.2.2.2.2.2.2.2.2.2.1.length ≤ 60000) (hh : m.2.2.2.2.2.2.2.2.2.2.2.2.2.2.2.1.2.2.1.length ≤ 60000) (hl : ¬ LongT m) : decG (msgTB m) = (m, ([], false, ())) := by
  have e1 := kindC.rt m.1 (if m.1 = 1 then msgB m.2.2.1 else numB m.2.1 ++ bodyB m) (ok_kind hR)
  have h12 : m.1 = 2 → (jobB m.2.2.2.1).length ≤ 12000 := fun h => by
    by_cases c : 12000 < (jobB m.2.2.2.1).length
    · exact absurd (.inl ⟨h, c⟩) hl
    · omega
  unfold decG
  rw [show ((msgTB m, false, ()) : In) = (kindB m.1 ++ (if m.1 = 1 then msgB m.2.2.1 else numB m.2.1 ++ bodyB m), false, ()) from rfl, e1]
  by_cases k1 : m.1 = 1
  · simp only [if_pos k1, decide_eq_true k1, cond_true]
    have hM : mayM m.2.2.1 = true := kind_raft hR k1
    rw [msg_rt hf.2.2.1 hM]
    refine congrArg (fun z => (z, _)) ?_
    have hp := hR.2.1
    obtain ⟨k, r⟩ := m
    dsimp only at k1
    subst k1
    exact hp
  · simp only [if_neg k1, decide_eq_false k1, cond_false]
    rw [numC.rt m.2.1 (bodyB m) (pos_rid hf)]
    exact rest_rt m hf hR k1 hs hh h12
theorem lawTEnc (x : (argTy P3).den) (hx : Fit47 (argTy P3) x) (hm : FitM (argTy P3) x) : F3 x = some (true, ()) := by
  obtain ⟨m, ⟨⟩⟩ : TMD × Unit := x
  have hf : Fit47 TM m := hx.1
  have zm := szT hf
  obtain ⟨f1, e1, g1⟩ := fewT_ex m zm.1 (handT_many hm.1)
  unfold F3
  simp only [awakeT_eq, Option.bind_some, Bool.not_true, cond_false]
  refine bind_of e1 ?_
  cases f1 with
  | false => rfl
  | true =>
    obtain ⟨s1, s2⟩ := g1 rfl
    have hs : m.2.2.2.1.2.2.1.2.2.2.2.2.2.2.2.2.2.2.2.2.2.2.1.length ≤ 60000 := by omega
    have hh : m.2.2.2.2.2.2.2.2.2.2.2.2.2.2.2.1.2.2.1.length ≤ 60000 := by omega
    have he := encT_eq m hf hs hh
    have hr := rTright_eq m zm
    simp only [Bool.not_true, cond_false, toT_eq, Option.bind_some, he]
    refine bind_of hr ?_
    by_cases hR : RightT m
    case neg =>
      rw [dec_false hR]
      rfl
    rw [dec_true hR]
    simp only [Bool.not_true, cond_false, cond_true]
    refine bind_of (rlong_eq m zm hf.2.2.2.2.2.2.2.2.2.2.2.2.2.2.2.1 hR hs hh) ?_
    by_cases hL : LongT m
    · rw [dec_true hL]
      rfl
    · have hbk := backT m hf hR hs hh hL
      have h6 : (msgTB m).length ≤ 60000 := by
        by_cases c : 60000 < (msgTB m).length
        · exact absurd (.inr c) hL
        · omega
      have hd := decT_eq (msgTB m) (by omega)
      rw [dec_true (p := GoodT (msgTB m)) ⟨h6, by rw [hbk], by rw [hbk], by rw [hbk]; exact hR⟩, hbk] at hd
      have hS := rMsg_same m m zm.1
      rw [dec_true rfl] at hS
      rw [dec_false hL]
      simp only [cond_false, cond_true] at hd ⊢
      refine bind_of hd ?_
      simp only [decide_true, cond_true]
      refine bind_of (tbytes_eq m zm hf.2.2.2.2.2.2.2.2.2.2.2.2.2.2.2.1 hR hs hh) ?_
      simp only [decide_true, cond_true, ofT_eq, Option.bind_some]
      exact bind_of hS rfl
end Go.Proofs.YteebpcpkhojfkaaGreat
