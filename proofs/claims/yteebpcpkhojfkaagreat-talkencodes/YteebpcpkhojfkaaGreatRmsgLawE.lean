/-
  Plain laws of what lies below, as this seat reaches them (by a program of the bench: port.py).
-/
import Derived.Test.YteebpcpkhojfkaaGreatRmsgLawD
import Derived.Test.YteebpcpkhojfkaaGreatSxR
namespace Go.Proofs.YteebpcpkhojfkaaGreat
open Go.Sx Go Classical
set_option maxRecDepth 10000
theorem iter6 {T R : Type} {step : T → Option (T ⊕ R)} {t0 t1 t2 t3 t4 t5 : T} {r : R} (h0 : step t0 = some (.inl t1)) (h1 : step t1 = some (.inl t2)) (h2 : step t2 = some (.inl t3)) (h3 : step t3 = some (.inl t4)) (h4 : step t4 = some (.inl t5)) (h5 : step t5 = some (.inr r)) : iter step big t0 = some r := by
  obtain ⟨n, hn⟩ : ∃ n, big = n + 6 := ⟨big - 6, by rw [big_eq]⟩
  rw [hn]
  simp only [iter, h0, h1, h2, h3, h4, h5, Option.bind_some, Sum.elim_inl, Sum.elim_inr]
theorem bytes_good (m : Msg) (hl : m.2.2.2.2.2.2.2.2.2.1.length ≤ 9223372036854775806) (hr : mayM m = true) : F54 (m, ()) = some (msgB m, ()) := by
  obtain ⟨hO, hS⟩ := right_facts hl hr
  have hm := (mayM_eq m hl).2
  rw [hr] at hm
  have hrun := runP_right hO.2.2.2.2.2.2.2.2
  have hlen := msgB_len hO hS
  obtain ⟨a1, a2, a3, a4, a5, a6, a7, a8, a9, l, s, ⟨⟩⟩ := m
  have hl : Sh l := hl
  have hrun : ∀ e ∈ l, RightE e := hrun
  have hS : a1 = 7 → snapOk s = true := hS
  unfold msgB headOf at hlen ⊢
  rw [headB_eq] at hlen ⊢
  simp only at hlen ⊢
  simp only [List.length_append, kindB_len, numB_len, flagB_len, countB_len] at hlen
  have n1 : ∀ n : Int, F135 (n, ()) = some (numB n, ()) := refNumB_eq
  have fin : ([Sx.byteOf (IntKind.wrap .u8 a1), Sx.byteOf (IntKind.wrap .u8 a2), Sx.byteOf (IntKind.wrap .u8 a3)] : List UInt8) = kindB a1 ++ kindB a2 ++ kindB a3 := rfl
  unfold F54
  simp only [hm, Option.bind_some, Bool.not_true, cond_false]
  rw [fin]
  generalize hb0 : kindB a1 ++ kindB a2 ++ kindB a3 = b0
  have l0 : b0.length = 3 := by rw [← hb0]; rfl
  have ap : ∀ (b c : List UInt8), b.length + c.length ≤ 140737488355000 → appU b c = some (b ++ c) := fun b c h => appU_eq h
  refine iter6 (t1 := (b0 ++ numB a4, (1 : Int), ())) (t2 := (b0 ++ numB a4 ++ numB a5, (2 : Int), ())) (t3 := (b0 ++ numB a4 ++ numB a5 ++ numB a6, (3 : Int), ())) (t4 := (b0 ++ numB a4 ++ numB a5 ++ numB a6 ++ numB a7, (4 : Int), ())) (t5 := (b0 ++ numB a4 ++ numB a5 ++ numB a6 ++ numB a7 ++ numB a8, (5 : Int), ()))
    (bind_of (n1 a4) (bind_of (ap _ _ (by simp only [numB_len]; omega)) rfl)) (bind_of (n1 a5) (bind_of (ap _ _ (by simp only [List.length_append, numB_len]; omega)) rfl)) (bind_of (n1 a6) (bind_of (ap _ _ (by simp only [List.length_append, numB_len]; omega)) rfl)) (bind_of (n1 a7) (bind_of (ap _ _ (by simp only [List.length_append, numB_len]; omega)) rfl)) (bind_of (n1 a8) (bind_of (ap _ _ (by simp only [List.length_append, numB_len]; omega)) rfl)) ?_
  refine (congrArg (Option.map Sum.inr) (?_ : _ = some (b0 ++ numB a4 ++ numB a5 ++ numB a6 ++ numB a7 ++ numB a8 ++ flagB a9 ++ countB l.length ++ l.flatMap ent3B ++ tailB a1 s, ()))).trans rfl
  generalize hb1 : b0 ++ numB a4 ++ numB a5 ++ numB a6 ++ numB a7 ++ numB a8 = b1
  have l1 : b1.length = 43 := by rw [← hb1]; simp only [List.length_append, numB_len, l0]
  refine bind_of (refFlagG a9) (bind_of (ap _ _ (by simp only [flagB_len]; omega)) (bind_of (refCountG l.length) (bind_of (ap _ _ (by simp only [List.length_append, flagB_len, countB_len]; omega)) ?_)))
  refine put_loop l hl ent3B (b1 ++ flagB a9 ++ countB l.length) (fun i d => (d, ((i : Int), ()))) (by show _ ≤ (140737488355000 : Nat); simp only [List.length_append, flagB_len, countB_len]; omega) (fun i v d hi hv hd => ?_) ?_
  · have hi' : i < 9223372036854775807 := by unfold Sh at hl; omega
    simp only [lt_len, hi, decide_true, cond_true, idx_nat, hv, Option.bind_some, ref_ent v (hrun v (List.mem_of_getElem? hv)), ap d _ hd, wrap64_nat hi']
  simp only [lt_len, Nat.lt_irrefl, decide_false, cond_false]
  refine (congrArg (Option.map Sum.inr) (?_ : _ = some (b1 ++ flagB a9 ++ countB l.length ++ l.flatMap ent3B ++ tailB a1 s, ()))).trans rfl
  unfold tailB at hlen ⊢
  by_cases h7 : a1 = 7
  · rw [decide_eq_true h7] at hlen ⊢
    simp only [cond_true] at hlen ⊢
    exact bind_of (ref_snap s (hS h7)) (bind_of (ap _ _ (by simp only [List.length_append, flagB_len, countB_len]; omega)) rfl)
  · rw [decide_eq_false h7]
    simp only [cond_false, List.append_nil]
end Go.Proofs.YteebpcpkhojfkaaGreat
