/-
  Messages between nodes: the document's message of bytes, and its bytes.
-/
import Derived.Test.YtnlcgekolgldcaaRmsgLawD
namespace Go.Proofs.Ytnlcgekolgldcaa
open Go.Sx Go Classical
set_option maxRecDepth 10000
theorem iter4 {T R : Type} {step : T → Option (T ⊕ R)} {t0 t1 t2 t3 : T} {r : R} (h0 : step t0 = some (.inl t1)) (h1 : step t1 = some (.inl t2)) (h2 : step t2 = some (.inl t3)) (h3 : step t3 = some (.inr r)) : iter step big t0 = some r := by
  obtain ⟨n, hn⟩ : ∃ n, big = n + 4 := ⟨big - 4, by rw [big_eq]⟩
  rw [hn]
  simp only [iter, h0, h1, h2, h3, Option.bind_some, Sum.elim_inl, Sum.elim_inr]
theorem iter6 {T R : Type} {step : T → Option (T ⊕ R)} {t0 t1 t2 t3 t4 t5 : T} {r : R} (h0 : step t0 = some (.inl t1)) (h1 : step t1 = some (.inl t2)) (h2 : step t2 = some (.inl t3)) (h3 : step t3 = some (.inl t4)) (h4 : step t4 = some (.inl t5)) (h5 : step t5 = some (.inr r)) : iter step big t0 = some r := by
  obtain ⟨n, hn⟩ : ∃ n, big = n + 6 := ⟨big - 6, by rw [big_eq]⟩
  rw [hn]
  simp only [iter, h0, h1, h2, h3, h4, h5, Option.bind_some, Sum.elim_inl, Sum.elim_inr]
theorem list_loopF {α T R : Type} {e : α → List UInt8} {g : In → α × In} {p : α → Prop} (c : Codec e g p) (m : Int) (hm : 0 ≤ m ∧ m ≤ 1000000) (s : In) (hs : Sm s) (hf : Fine s) (mk : List α → Int → In → T) {step : T → Option (T ⊕ R)} {r : R}
    (h : ∀ (i : Nat) (l : List α) (t : In), (i : Int) < (countI s m).1 → l.length = i → Sm t → Fine t → step (mk l (i : Int) t) = some (.inl (mk (l ++ [(g t).1]) ((i + 1 : Nat) : Int) (g t).2)))
    (hK : step (mk (listGm m g s).1 (countI s m).1 (listGm m g s).2) = some (.inr r)) : iter step big (mk [] 0 (countI s m).2) = some r := by
  have hc := countI_le s m hm.1
  have hn := countI_nat s m
  have hs' : Sm (countI s m).2 := Nat.le_trans (countI_len s m) hs
  refine iter_count (mk := fun i => mk (manyG g i (countI s m).2).1 (i : Int) (manyG g i (countI s m).2).2) (n := (countI s m).1.toNat) (by omega) (fun i hi => ?_) ?_
  · have hm := manyG_len c i (countI s m).2
    rw [h i _ _ (by omega) hm.1 (Nat.le_trans hm.2 hs') (manyG_fine c i _ (hf.count m)), manyG_succ]
  · rw [← hn]; exact hK
theorem refFlagInG (s : In) (h : Fine s) : F48 (s, ()) = some ((flagG s).1, (flagG s).2, ()) := by
  unfold F48 flagG byteG
  have hw : F72 (s, 1, ()) = _ := refWord_eq s h 1 (by omega)
  have hb : 0 ≤ (numI s 1).1 ∧ (numI s 1).1 < 256 := by
    have hl := takeI_len s 1
    unfold numI
    generalize (takeI s 1).1 = l at hl
    match l, hl with
    | [], _ => exact (⟨by decide, by decide⟩ : 0 ≤ dec [] ∧ dec [] < 256)
    | [b], _ =>
      have hb := b.toNat_lt
      have : dec [b] = ((b.toNat : Nat) : Int) := by simp [dec, decStep]
      show 0 ≤ dec [b] ∧ dec [b] < 256
      rw [this]
      omega
  simp only [hw, Option.bind_some]
  generalize (numI s 1).1 = n at hb ⊢
  generalize (numI s 1).2 = t
  have e1 : IntKind.wrap .u8 n = n := by rw [wrapU8]; omega
  have e2 : (Sx.byteOf n).toNat = n.toNat := by unfold Sx.byteOf; simp; omega
  have e3 : intOf8 (Sx.byteOf n) = n := by unfold intOf8; rw [e2]; omega
  have e4 : decide (Sx.byteOf n = UInt8.ofNat 1) = decide (n = 1) := by
    rw [decide_eq_decide]
    constructor
    · intro hh; rw [hh] at e3; exact e3.symm
    · intro hh; rw [hh]; rfl
  rw [e1, e4]
  show _ = some ((bif decide (intOf8 (Sx.byteOf n) > 1) then (false, badI) else _).1, _)
  rw [e3]
  by_cases c : 1 < n
  · rw [show decide (n > 1) = true from decide_eq_true c]; rfl
  · rw [show decide (n > 1) = false from decide_eq_false c]; rfl
theorem from_eq (s : In) (h : Sm s) (hf : Fine s) : F16 (s, ()) = some ((msgG s).1, (msgG s).2, ()) := by
  have f1 := kindC.fine s hf
  have f2 := kindC.fine _ f1
  have f3 := kindC.fine _ f2
  have f4 := numC.fine _ f3
  have f5 := numC.fine _ f4
  have f6 := numC.fine _ f5
  have f7 := numC.fine _ f6
  have f8 := numC.fine _ f7
  have f9 := flagC.fine _ f8
  have hH : Fine (headG s).2 := headC.fine s hf
  have h8 := sm_of flagC (sm_of numC (sm_of numC (sm_of numC (sm_of numC (sm_of numC (sm_of kindC (sm_of kindC (sm_of kindC h))))))))
  have ht := head_sm h
  unfold F16
  refine iter4 (t1 := ((1 : Int), (byteG s).1, (0 : UInt8), (0 : UInt8), (kindG s).2)) (t2 := ((2 : Int), (byteG s).1, (byteG (kindG s).2).1, (0 : UInt8), (kindG (kindG s).2).2)) (t3 := ((3 : Int), (byteG s).1, (byteG (kindG s).2).1, (byteG (kindG (kindG s).2).2).1, (kindG (kindG (kindG s).2).2).2)) (bind_of (refByteG _ hf) rfl) (bind_of (refByteG _ f1) rfl) (bind_of (refByteG _ f2) rfl) ?_
  refine (congrArg (Option.map Sum.inr) (?_ : _ = some ((msgG s).1, (msgG s).2, ()))).trans rfl
  have e0 : (headG s).1.1 = wrap64 (intOf8 (byteG s).1) := rfl
  obtain ⟨s3, es3⟩ : ∃ s3, s3 = (kindG (kindG (kindG s).2).2).2 := ⟨_, rfl⟩
  rw [← es3] at f3 f4 f5 f6 f7 f8 f9 h8
  simp only [← es3]
  refine iter6 (t1 := ((1 : Int), (numG s3).1, (0 : Int), (0 : Int), (0 : Int), (0 : Int), (numG s3).2)) (t2 := ((2 : Int), (numG s3).1, (numG (numG s3).2).1, (0 : Int), (0 : Int), (0 : Int), (numG (numG s3).2).2))
    (t3 := ((3 : Int), (numG s3).1, (numG (numG s3).2).1, (numG (numG (numG s3).2).2).1, (0 : Int), (0 : Int), (numG (numG (numG s3).2).2).2))
    (t4 := ((4 : Int), (numG s3).1, (numG (numG s3).2).1, (numG (numG (numG s3).2).2).1, (numG (numG (numG (numG s3).2).2).2).1, (0 : Int), (numG (numG (numG (numG s3).2).2).2).2))
    (t5 := ((5 : Int), (numG s3).1, (numG (numG s3).2).1, (numG (numG (numG s3).2).2).1, (numG (numG (numG (numG s3).2).2).2).1, (numG (numG (numG (numG (numG s3).2).2).2).2).1, (numG (numG (numG (numG (numG s3).2).2).2).2).2))
    (bind_of (refNumG _ f3) rfl) (bind_of (refNumG _ f4) rfl) (bind_of (refNumG _ f5) rfl) (bind_of (refNumG _ f6) rfl) (bind_of (refNumG _ f7) rfl) ?_
  refine (congrArg (Option.map Sum.inr) (?_ : _ = some ((msgG s).1, (msgG s).2, ()))).trans rfl
  refine bind_of (refFlagInG _ f8) ?_
  refine bind_of (refCount_eq _ f9 4 (by omega) (by unfold Sm at h8; omega)) ?_
  refine list_loopF entC 4 (by omega) _ h8 f9 (fun l i t => (i, l, t)) (fun i l t hi hl ht hft => ?_) ?_
  · have hi2 : i < 60000 := by have := Int.lt_of_lt_of_le hi (countI_le _ 4 (by omega)); omega
    simp only [decide_eq_true hi, cond_true, ref_ent_get t ht hft, Option.bind_some, app1 hi2 hl, wrap64_nat (show i < 9223372036854775807 by omega)]
  · simp only [Int.lt_irrefl, decide_false, cond_false]
    refine (congrArg (Option.map Sum.inr) (?_ : _ = some ((msgG s).1, (msgG s).2, ()))).trans rfl
    subst es3
    have et : (bif decide (wrap64 (intOf8 (byteG s).1) = 7) then Option.bind (F51 ((headG s).2, ())) fun b => some (Sum.inl (b.fst, b.snd.fst)) else some (Sum.inl (NoEnt, (headG s).2)) : Option ((Ent × In) ⊕ (Msg × In × Unit))) = some (Sum.inl (tailG (headG s).1.1 (headG s).2)) := by
      rw [ref_snap_get _ ht hH]
      unfold tailG
      show (bif decide ((headG s).1.1 = 7) then _ else _) = _
      cases decide ((headG s).1.1 = 7) <;> rfl
    refine bind_of et ?_
    have hr := (mayM_eq (msgR s).1 (by have := listGm_len 4 (by omega) entG (flagG (numG (numG (numG (numG (numG (kindG (kindG (kindG s).2).2).2).2).2).2).2).2).2; exact Nat.le_trans (m := 4) (Int.ofNat_le.1 this) (by omega))).2
    simp only [Sum.elim_inl]
    refine Eq.trans ?_ (guard_eq NoMsg mayM msgR s)
    refine congrArg (fun z => bif (msgR s).2.2.1 then _ else z) ?_
    exact bind_of hr rfl
theorem bytes_good (m : Msg) (hl : m.2.2.2.2.2.2.2.2.2.1.length ≤ 9223372036854775806) (hr : mayM m = true) : F22 (m, ()) = some (msgB m, ()) := by
  obtain ⟨hO, hS⟩ := right_facts hl hr
  have hm := (mayM_eq m hl).2
  rw [hr] at hm
  have hrun := runP_right hO.2.2.2.2.2.2.2.2
  have hlen := msgB_len hO hS
  obtain ⟨a1, a2, a3, a4, a5, a6, a7, a8, a9, l, s, ⟨⟩⟩ := m
  have hl : Sh l := hl
  have hrun : ∀ e ∈ l, RightE e := hrun
  have hS : a1 = 7 → snapOk s = true := hS
  unfold msgB headOf at hlen ⊢
  rw [headB_eq] at hlen ⊢
  simp only at hlen ⊢
  simp only [List.length_append, kindB_len, numB_len, flagB_len, countB_len] at hlen
  have n1 : ∀ n : Int, F58 (n, ()) = some (numB n, ()) := refNumB_eq
  have fin : ([Sx.byteOf (IntKind.wrap .u8 a1), Sx.byteOf (IntKind.wrap .u8 a2), Sx.byteOf (IntKind.wrap .u8 a3)] : List UInt8) = kindB a1 ++ kindB a2 ++ kindB a3 := rfl
  unfold F22
  simp only [hm, Option.bind_some, Bool.not_true, cond_false]
  rw [fin]
  generalize hb0 : kindB a1 ++ kindB a2 ++ kindB a3 = b0
  have l0 : b0.length = 3 := by rw [← hb0]; rfl
  have ap : ∀ (b c : List UInt8), b.length + c.length ≤ 140737488355000 → appU b c = some (b ++ c) := fun b c h => appU_eq h
  refine iter6 (t1 := (b0 ++ numB a4, (1 : Int), ())) (t2 := (b0 ++ numB a4 ++ numB a5, (2 : Int), ())) (t3 := (b0 ++ numB a4 ++ numB a5 ++ numB a6, (3 : Int), ())) (t4 := (b0 ++ numB a4 ++ numB a5 ++ numB a6 ++ numB a7, (4 : Int), ())) (t5 := (b0 ++ numB a4 ++ numB a5 ++ numB a6 ++ numB a7 ++ numB a8, (5 : Int), ()))
    (bind_of (n1 a4) (bind_of (ap _ _ (by simp only [numB_len]; omega)) rfl)) (bind_of (n1 a5) (bind_of (ap _ _ (by simp only [List.length_append, numB_len]; omega)) rfl)) (bind_of (n1 a6) (bind_of (ap _ _ (by simp only [List.length_append, numB_len]; omega)) rfl)) (bind_of (n1 a7) (bind_of (ap _ _ (by simp only [List.length_append, numB_len]; omega)) rfl)) (bind_of (n1 a8) (bind_of (ap _ _ (by simp only [List.length_append, numB_len]; omega)) rfl)) ?_
  refine (congrArg (Option.map Sum.inr) (?_ : _ = some (b0 ++ numB a4 ++ numB a5 ++ numB a6 ++ numB a7 ++ numB a8 ++ flagB a9 ++ countB l.length ++ l.flatMap ent3B ++ tailB a1 s, ()))).trans rfl
  generalize hb1 : b0 ++ numB a4 ++ numB a5 ++ numB a6 ++ numB a7 ++ numB a8 = b1
  have l1 : b1.length = 43 := by rw [← hb1]; simp only [List.length_append, numB_len, l0]
  refine bind_of (refFlagG a9) (bind_of (ap _ _ (by simp only [flagB_len]; omega)) (bind_of (refCountG l.length) (bind_of (ap _ _ (by simp only [List.length_append, flagB_len, countB_len]; omega)) ?_)))
  refine put_loop l hl ent3B (b1 ++ flagB a9 ++ countB l.length) (fun i d => (d, ((i : Int), ()))) (by show _ ≤ (140737488355000 : Nat); simp only [List.length_append, flagB_len, countB_len]; omega) (fun i v d hi hv hd => ?_) ?_
  · have hi' : i < 9223372036854775807 := by unfold Sh at hl; omega
    simp only [lt_len, hi, decide_true, cond_true, idx_nat, hv, Option.bind_some, ref_ent v (hrun v (List.mem_of_getElem? hv)), ap d _ hd, wrap64_nat hi']
  simp only [lt_len, Nat.lt_irrefl, decide_false, cond_false]
  refine (congrArg (Option.map Sum.inr) (?_ : _ = some (b1 ++ flagB a9 ++ countB l.length ++ l.flatMap ent3B ++ tailB a1 s, ()))).trans rfl
  unfold tailB at hlen ⊢
  by_cases h7 : a1 = 7
  · rw [decide_eq_true h7] at hlen ⊢
    simp only [cond_true] at hlen ⊢
    exact bind_of (ref_snap s (hS h7)) (bind_of (ap _ _ (by simp only [List.length_append, flagB_len, countB_len]; omega)) rfl)
  · rw [decide_eq_false h7]
    simp only [cond_false, List.append_nil]
theorem bytes_none (m : Msg) (hl : m.2.2.2.2.2.2.2.2.2.1.length ≤ 9223372036854775806) (hr : mayM m = false) : F22 (m, ()) = some ([UInt8.ofNat 0], ()) := by
  have hm := (mayM_eq m hl).2
  rw [hr] at hm
  unfold F22
  simp only [hm, Option.bind_some, Bool.not_false, cond_true]
end Go.Proofs.Ytnlcgekolgldcaa
