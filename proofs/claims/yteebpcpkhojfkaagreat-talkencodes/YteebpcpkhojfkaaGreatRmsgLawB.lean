/-
  Plain laws of what lies below, as this seat reaches them (by a program of the bench: port.py).
-/
import Derived.Test.YteebpcpkhojfkaaGreatRmsgLawA
import Derived.Test.YteebpcpkhojfkaaGreatSxR
namespace Go.Proofs.YteebpcpkhojfkaaGreat
open Go.Sx Go Classical
set_option maxRecDepth 10000
abbrev NoEnt : Ent := (0, 0, [], ())
abbrev ent3B : Ent → List UInt8 := consB numB (consB numB (consB textB unitB))
abbrev ent3G (m : Int) : In → Ent × In := consG numG (consG numG (consG (textGm m) unitG))
noncomputable abbrev entG : In → Ent × In := guardG NoEnt (fun e => decide (RightE e)) (ent3G 12000)
noncomputable def snapOk (e : Ent) : Bool := (F107 (e, ())).elim false (·.1)
theorem snapOk_eq (e : Ent) : F107 (e, ()) = some (snapOk e, ()) := by
  obtain ⟨b, h⟩ := snap_ex (e, ())
  unfold snapOk
  rw [h]; rfl
theorem snapOk_eq' (e : Ent) : F150 (e, ()) = some (snapOk e, ()) := (snap_same (e, ())).trans (snapOk_eq e)
noncomputable abbrev snapG : In → Ent × In := guardG NoEnt snapOk (ent3G 50000)
abbrev EntP (m : Int) : Ent → Prop := consOk In64 (consOk In64 (consOk (fun s => (s.length : Int) ≤ m) (fun _ => True)))
theorem ent3C (m : Int) (hm : m < 4294967296) : Codec ent3B (ent3G m) (EntP m) := consC numC (consC numC (consC (textCm m hm) unitC))
theorem entC : Codec ent3B entG (fun e => EntP 12000 e ∧ decide (RightE e) = true) := guardC (ent3C 12000 (by omega)) NoEnt (fun e => decide (RightE e))
theorem snapC : Codec ent3B snapG (fun e => EntP 50000 e ∧ snapOk e = true) := guardC (ent3C 50000 (by omega)) NoEnt snapOk
theorem inBytesG (s : In) (m : Int) (hm : m ≤ 60000) (h : Sm s) : F129 (s, m, ()) = some ((textGm m s).1, (textGm m s).2, ()) := inBytes_eq s m (by omega) (by unfold Sm at h; omega)
theorem ent_get (s : In) (h : Sm s) : F123 (s, ()) = some ((entG s).1, (entG s).2, ()) := by
  unfold F123
  simp only [inNumG, inBytesG _ 12000 (by omega) (sm_of numC (sm_of numC h)), bad_eq, fail_eq, entRight_eq, Option.bind_some]
  exact guard_eq NoEnt (fun e => decide (RightE e)) (ent3G 12000) s
theorem snap_get (s : In) (h : Sm s) : F124 (s, ()) = some ((snapG s).1, (snapG s).2, ()) := by
  unfold F124
  simp only [inNumG, inBytesG _ 50000 (by omega) (sm_of numC (sm_of numC h)), bad_eq, fail_eq, snapOk_eq', Option.bind_some]
  exact guard_eq NoEnt snapOk (ent3G 50000) s
abbrev entsB : List Ent → List UInt8 := listB ent3B
noncomputable abbrev entsG : In → List Ent × In := listGm 4 entG
theorem ent_one (x : Ent) : 1 ≤ (ent3B x).length := num_one _ x
theorem entsC : Codec entsB entsG (fun l => (l.length : Int) ≤ 4 ∧ ∀ v ∈ l, EntP 12000 v ∧ decide (RightE v) = true) := listCm 4 (by omega) entC ent_one
abbrev HeadD : Type := Int × Int × Int × Int × Int × Int × Int × Int × Bool × List Ent × Unit
abbrev headB : HeadD → List UInt8 := consB kindB (consB kindB (consB kindB (consB numB (consB numB (consB numB (consB numB (consB numB (consB flagB (consB entsB unitB)))))))))
noncomputable abbrev headG : In → HeadD × In := consG kindG (consG kindG (consG kindG (consG numG (consG numG (consG numG (consG numG (consG numG (consG flagG (consG entsG unitG)))))))))
abbrev HeadP : HeadD → Prop := consOk Ok8 (consOk Ok8 (consOk Ok8 (consOk In64 (consOk In64 (consOk In64 (consOk In64 (consOk In64 (consOk (fun _ => True) (consOk (fun l => (l.length : Int) ≤ 4 ∧ ∀ v ∈ l, EntP 12000 v ∧ decide (RightE v) = true) (fun _ => True))))))))))
theorem headC : Codec headB headG HeadP := consC kindC (consC kindC (consC kindC (consC numC (consC numC (consC numC (consC numC (consC numC (consC flagC (consC entsC unitC)))))))))
noncomputable def tailG (k : Int) (s : In) : Ent × In := bif decide (k = 7) then snapG s else (NoEnt, s)
noncomputable def msgR (s : In) : Msg × In :=
  (((headG s).1.1, (headG s).1.2.1, (headG s).1.2.2.1, (headG s).1.2.2.2.1, (headG s).1.2.2.2.2.1, (headG s).1.2.2.2.2.2.1, (headG s).1.2.2.2.2.2.2.1, (headG s).1.2.2.2.2.2.2.2.1, (headG s).1.2.2.2.2.2.2.2.2.1, (headG s).1.2.2.2.2.2.2.2.2.2.1, (tailG (headG s).1.1 (headG s).2).1, ()), (tailG (headG s).1.1 (headG s).2).2)
abbrev NoMsg : Msg := (0, 0, 0, 0, 0, 0, 0, 0, false, [], NoEnt, ())
noncomputable def mayM (m : Msg) : Bool := (F71 (m, ())).elim false (·.1)
theorem mayM_eq (m : Msg) (hl : m.2.2.2.2.2.2.2.2.2.1.length ≤ 9223372036854775806) : F71 (m, ()) = some (mayM m, ()) ∧ F34 (m, ()) = some (mayM m, ()) := by
  obtain ⟨b, h1, h2⟩ := rightM_ex m hl
  unfold mayM
  rw [h1]
  exact ⟨rfl, h2⟩
noncomputable abbrev msgG : In → Msg × In := guardG NoMsg mayM msgR
theorem listGm_len {α : Type} (m : Int) (hm : 0 ≤ m) (g : In → α × In) (s : In) : ((listGm m g s).1.length : Int) ≤ m := by
  unfold listGm
  rw [manyG_many]
  have h1 := countI_le s m hm
  have h2 := countI_nat s m
  omega
theorem head_sm {s : In} (h : Sm s) : Sm (headG s).2 := sm_of headC h
theorem In_eta (t : In) : ((t.1, t.2.1, ()) : In) = t := rfl
theorem get_eq (s : In) (h : Sm s) : F49 (s, ()) = some ((msgG s).1, (msgG s).2, ()) := by
  have hk : ∀ t : In, (byteG t).2 = (kindG t).2 := fun _ => rfl
  have h8 := sm_of flagC (sm_of numC (sm_of numC (sm_of numC (sm_of numC (sm_of numC (sm_of kindC (sm_of kindC (sm_of kindC h))))))))
  unfold F49
  simp only [inByteG, inNumG, inFlagG, hk, inCount_eq _ 4 (by omega) (show (flagG (numG (numG (numG (numG (numG (kindG (kindG (kindG s).2).2).2).2).2).2).2).2).2.1.length ≤ 9223372036854775807 by unfold Sm at h8; omega), Option.bind_some]
  refine list_loopM entC 4 (by omega) _ h8 (fun l i t => (i, t.1, t.2.1, l, ())) (fun i l t hi hl ht => ?_) ?_
  · have hi2 : i < 60000 := by have := Int.lt_of_lt_of_le hi (countI_le _ 4 (by omega)); omega
    simp only [decide_eq_true hi, cond_true, In_eta, ent_get t ht, Option.bind_some, app1 hi2 hl, wrap64_nat (show i < 9223372036854775807 by omega)]
  · simp only [Int.lt_irrefl, decide_false, cond_false, In_eta]
    have ht := head_sm h
    have et : (bif decide (wrap64 (intOf8 (byteG s).1) = 7) then Option.bind (F124 ((headG s).2, ())) fun b => some (Sum.inl (b.fst, b.snd.fst)) else some (Sum.inl (NoEnt, (headG s).2)) : Option ((Ent × In) ⊕ (Msg × In × Unit))) = some (Sum.inl (tailG (headG s).1.1 (headG s).2)) := by
      rw [snap_get _ ht]
      unfold tailG
      show (bif decide ((headG s).1.1 = 7) then _ else _) = _
      cases decide ((headG s).1.1 = 7) <;> rfl
    refine (congrArg (Option.map Sum.inr) (?_ : _ = some ((msgG s).1, (msgG s).2, ()))).trans rfl
    refine bind_of et ?_
    have hr := (mayM_eq (msgR s).1 (by have := listGm_len 4 (by omega) entG (flagG (numG (numG (numG (numG (numG (kindG (kindG (kindG s).2).2).2).2).2).2).2).2).2; exact Nat.le_trans (m := 4) (Int.ofNat_le.1 this) (by omega))).1
    simp only [Sum.elim_inl, bad_eq, fail_eq, Option.bind_some]
    refine Eq.trans ?_ (guard_eq NoMsg mayM msgR s)
    refine congrArg (fun z => bif (msgR s).2.2.1 then _ else z) ?_
    exact bind_of hr rfl
end Go.Proofs.YteebpcpkhojfkaaGreat
