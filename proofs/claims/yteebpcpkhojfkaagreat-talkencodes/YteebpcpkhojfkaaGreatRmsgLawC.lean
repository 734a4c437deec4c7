/-
  Plain laws of what lies below, as this seat reaches them (by a program of the bench: port.py).
-/
import Derived.Test.YteebpcpkhojfkaaGreatRmsgLawB
import Derived.Test.YteebpcpkhojfkaaGreatSxR
namespace Go.Proofs.YteebpcpkhojfkaaGreat
open Go.Sx Go Classical
set_option maxRecDepth 10000
theorem runP_right : ∀ {i t : Int} {l : List Ent}, runP i t l = true → ∀ e ∈ l, RightE e
  | _, _, [], _, e, h => by simp at h
  | i, t, x :: r, hr, e, h => by
    unfold runP at hr
    cases hd : decide (RightE x ∧ x.1 - 1 = i ∧ t ≤ x.2.1) with
    | false => rw [hd] at hr; cases hr
    | true =>
      rw [hd] at hr
      rcases List.mem_cons.1 h with rfl | h
      · exact (of_decide_eq_true hd).1
      · exact runP_right hr e h
theorem tail_snap (m : Msg) (hl : m.2.2.2.2.2.2.2.2.2.1.length ≤ 9223372036854775806) (h : tailM m = some (true, ())) (h7 : m.1 = 7) : snapOk m.2.2.2.2.2.2.2.2.2.2.1 = true := by
  unfold tailM at h
  obtain ⟨a1, a2, a3, a4, a5, a6, a7, a8, a9, l, s, ⟨⟩⟩ := m
  have hl' : l.length ≤ 9223372036854775806 := hl
  have hs := snapOk_eq s
  obtain ⟨r, h1, h2⟩ := iter_inv (T := Int × Unit) (R := Bool × Unit) (step := fun (x_1 : Int × Unit) =>
      bif decide (x_1.fst < Int.ofNat (List.length l)) then
        Option.bind (idx l x_1.fst) fun (b : Ent) =>
          bif decide (a4 < b.snd.fst) then some (Sum.inr (false, ()))
          else some (Sum.inl (wrap64 (x_1.fst + 1), ()))
      else Option.map Sum.inr
        (bif !decide (a1 = 7) then some (true, ())
        else Option.bind (F107 (s, ())) fun (b : Bool × Unit) =>
          bif b.fst then some (decide (0 < s.1), ()) else some (false, ()))) (I := fun t => ∃ (i : Nat), i ≤ l.length ∧ t = ((i : Int), ())) (μ := fun t => l.length - t.1.toNat) (Q := fun _ r => r = (true, ()) → snapOk s = true) (fun t ht => by
        obtain ⟨i, hi, rfl⟩ := ht
        by_cases h : i < l.length
        · simp only [lt_len, h, decide_true, cond_true, idx_nat, List.getElem?_eq_getElem h, Option.bind_some]
          cases decide (a4 < (l[i]).2.1) with
          | true => exact .inl ⟨_, rfl, fun h => by cases h⟩
          | false =>
            right
            rw [wrap64_nat (show i < 9223372036854775807 by omega)]
            exact ⟨_, rfl, ⟨i + 1, h, rfl⟩, by simp only [Int.toNat_natCast]; omega, fun _ h => h⟩
        · left
          have : i = l.length := by omega
          subst this
          have h7 : a1 = 7 := h7
          simp only [lt_len, Nat.lt_irrefl, decide_false, cond_false, hs, Option.bind_some, h7, decide_true, Bool.not_true]
          cases hb : snapOk s with
          | true => exact ⟨_, rfl, fun _ => rfl⟩
          | false => exact ⟨_, rfl, fun h => by cases h⟩) (n := big) (t := (0, ())) ⟨0, Nat.zero_le _, rfl⟩ (by rw [big_eq]; simp; omega)
  have e : r = (true, ()) := Option.some.inj (h1.symm.trans h)
  exact h2 e
theorem right_facts {m : Msg} (hl : m.2.2.2.2.2.2.2.2.2.1.length ≤ 9223372036854775806) (h : mayM m = true) : OkM m ∧ (m.1 = 7 → snapOk m.2.2.2.2.2.2.2.2.2.2.1 = true) := by
  have h1 := (mayM_eq m hl).1
  rw [h, rightM_eq m hl] at h1
  cases hd : decide (OkM m) with
  | false => rw [hd] at h1; cases h1
  | true =>
    rw [hd] at h1
    exact ⟨of_decide_eq_true hd, tail_snap m hl h1⟩
theorem right_seven {m : Msg} (h : OkM m) : (m.1 = 7 → m.2.2.2.2.2.2.2.2.2.1 = []) ∧ (m.1 ≠ 7 → m.2.2.2.2.2.2.2.2.2.2.1 = NoEnt) := by
  have hk := h.2.1
  have h1 := h.1
  unfold keepM at hk
  constructor
  · intro h7
    rw [if_neg (by omega), if_neg (by omega), if_neg (by omega), if_neg (by omega)] at hk
    rw [← hk]
  · intro h7
    rcases kind_cases h1.1 h1.2 with c | c | c | c | c | c | c
    · rw [if_pos (by omega)] at hk; rw [← hk]
    · rw [if_neg (by omega), if_pos (by omega)] at hk; rw [← hk]
    · rw [if_pos (by omega)] at hk; rw [← hk]
    · rw [if_neg (by omega), if_pos (by omega)] at hk; rw [← hk]
    · rw [if_neg (by omega), if_neg (by omega), if_pos (by omega)] at hk; rw [← hk]
    · rw [if_neg (by omega), if_neg (by omega), if_neg (by omega), if_pos (by omega)] at hk; rw [← hk]
    · exact absurd c h7
theorem ent3B_eq (i t : Int) (s : List UInt8) : ent3B (i, t, s, ()) = numB i ++ numB t ++ textB s := by
  simp only [ent3B, consB, unitB, List.append_nil, List.append_assoc]
theorem ent3B_len (e : Ent) : (ent3B e).length = 20 + e.2.2.1.length := by
  obtain ⟨i, t, s, ⟨⟩⟩ := e
  rw [ent3B_eq]
  simp only [List.length_append, numB_len, textB_len]; omega
theorem outBytesG (b s : List UInt8) (h : b.length + (textB s).length ≤ Big) : F29 ((b, ()), s, ()) = some ((b ++ textB s, ()), ()) := outBytes_eq b s (by rw [textB_len] at h; unfold Big at h; omega)
theorem put3_eq (b : List UInt8) (i t : Int) (s : List UInt8) (h : b.length + (ent3B (i, t, s, ())).length ≤ Big) : F174 ((b, ()), i, t, s, ()) = some ((b ++ ent3B (i, t, s, ()), ()), ()) := by
  rw [ent3B_len] at h
  simp only at h
  unfold F174
  simp (disch := (simp only [List.length_append, numB_len, textB_len]; omega)) only [outNumG, outBytesG, Option.bind_some]
  rw [ent3B_eq]
  simp only [List.append_assoc]
theorem ent_put (b : List UInt8) (e : Ent) (hr : RightE e) (h : b.length + (ent3B e).length ≤ Big) : F92 ((b, ()), e, ()) = some ((b ++ ent3B e, ()), ()) := by
  obtain ⟨i, t, s, ⟨⟩⟩ := e
  unfold F92
  simp only [entRight_eq, decide_eq_true hr, Option.bind_some, Bool.not_true, cond_false, put3_eq b i t s h]
theorem snap_put (b : List UInt8) (e : Ent) (hr : snapOk e = true) (h : b.length + (ent3B e).length ≤ Big) : F93 ((b, ()), e, ()) = some ((b ++ ent3B e, ()), ()) := by
  obtain ⟨i, t, s, ⟨⟩⟩ := e
  unfold F93
  simp only [snapOk_eq', hr, Option.bind_some, Bool.not_true, cond_false, put3_eq b i t s h]
theorem ref_three (i t : Int) (s : List UInt8) (h : s.length ≤ 100000) : F196 (i, t, s, ()) = some (ent3B (i, t, s, ()), ()) := by
  have h1 : F135 (i, ()) = some (numB i, ()) := refNumB_eq i
  have h2 : F135 (t, ()) = some (numB t, ()) := refNumB_eq t
  have h3 : F56 (s, ()) = some (textB s, ()) := refTextB_eq s (by omega)
  unfold F196
  simp only [h1, h2, Option.bind_some]
  rw [appU_eq (by simp only [numB_len]; omega)]
  simp only [h3, Option.bind_some]
  rw [appU_eq (by simp only [List.length_append, numB_len, textB_len]; omega), ent3B_eq]
  rfl
theorem ref_ent (e : Ent) (hr : RightE e) : F136 (e, ()) = some (ent3B e, ()) := by
  obtain ⟨i, t, s, ⟨⟩⟩ := e
  have hl : s.length ≤ 12000 := hr.2.2
  unfold F136
  simp only [refRight_eq, decide_eq_true hr, Option.bind_some, Bool.not_true, cond_false, ref_three i t s (by omega)]
theorem snapOk_len {e : Ent} (h : snapOk e = true) : e.2.2.1.length ≤ 50000 := by
  obtain ⟨i, t, s, ⟨⟩⟩ := e
  have h1 := snapOk_eq (i, t, s, ())
  rw [h] at h1
  unfold F107 at h1
  simp only [refNumber_eq, Option.bind_some] at h1
  show s.length ≤ 50000
  by_cases c0 : s.length ≤ 50000
  · exact c0
  · exfalso
    have d0 : decide (Int.ofNat s.length ≤ 50000) = false := decide_eq_false (by simp only [Int.ofNat_eq_natCast]; omega)
    have d1 : decide (Int.ofNat s.length = 0) = false := decide_eq_false (by simp only [Int.ofNat_eq_natCast]; omega)
    simp only [d0, d1] at h1
    by_cases c1 : i = 0 <;> by_cases c2 : t = 0 <;> by_cases c3 : Num i <;> by_cases c4 : Num t <;> simp [c1, c2, c3, c4] at h1
theorem ref_snap (e : Ent) (hr : snapOk e = true) : F137 (e, ()) = some (ent3B e, ()) := by
  have hl := snapOk_len hr
  obtain ⟨i, t, s, ⟨⟩⟩ := e
  have hl : s.length ≤ 50000 := hl
  unfold F137
  simp only [snapOk_eq, hr, Option.bind_some, Bool.not_true, cond_false, ref_three i t s (by omega)]
def headOf (m : Msg) : HeadD := (m.1, m.2.1, m.2.2.1, m.2.2.2.1, m.2.2.2.2.1, m.2.2.2.2.2.1, m.2.2.2.2.2.2.1, m.2.2.2.2.2.2.2.1, m.2.2.2.2.2.2.2.2.1, m.2.2.2.2.2.2.2.2.2.1, ())
def tailB (k : Int) (e : Ent) : List UInt8 := bif decide (k = 7) then ent3B e else []
def msgB (m : Msg) : List UInt8 := headB (headOf m) ++ tailB m.1 m.2.2.2.2.2.2.2.2.2.2.1
theorem headB_eq (a1 a2 a3 a4 a5 a6 a7 a8 : Int) (a9 : Bool) (l : List Ent) : headB (a1, a2, a3, a4, a5, a6, a7, a8, a9, l, ()) = kindB a1 ++ kindB a2 ++ kindB a3 ++ numB a4 ++ numB a5 ++ numB a6 ++ numB a7 ++ numB a8 ++ flagB a9 ++ countB l.length ++ l.flatMap ent3B := by
  simp only [headB, consB, unitB, listB, List.append_nil, List.append_assoc]
theorem ents_len {l : List Ent} (hr : ∀ e ∈ l, RightE e) : (l.flatMap ent3B).length ≤ l.length * 12020 := flat_most fun e he => by
  rw [ent3B_len]
  have := (hr e he).2.2
  omega
theorem msgB_len {m : Msg} (h : OkM m) (hs : m.1 = 7 → snapOk m.2.2.2.2.2.2.2.2.2.2.1 = true) : (msgB m).length ≤ 60000 := by
  have h1 := ents_len (runP_right h.2.2.2.2.2.2.2.2)
  have h2 := right_seven h
  have h4 := h.2.2.2.2.2.2.2.1
  obtain ⟨a1, a2, a3, a4, a5, a6, a7, a8, a9, l, s, ⟨⟩⟩ := m
  unfold msgB headOf tailB
  rw [headB_eq]
  simp only [List.length_append, kindB_len, numB_len, flagB_len, countB_len, Int.ofNat_eq_natCast] at *
  by_cases h7 : a1 = 7
  · have h5 := h2.1 h7
    have h6 := snapOk_len (hs h7)
    rw [decide_eq_true h7, cond_true, ent3B_len]
    subst h5
    simp only [List.flatMap_nil, List.length_nil] at *
    omega
  · rw [decide_eq_false h7, cond_false]
    simp only [List.length_nil]
    omega
theorem msg_put (b : List UInt8) (m : Msg) (hl : m.2.2.2.2.2.2.2.2.2.1.length ≤ 9223372036854775806) (hr : mayM m = true) (h : b.length + (msgB m).length ≤ Big) : F26 ((b, ()), m, ()) = some ((b ++ msgB m, ()), ()) := by
  obtain ⟨hO, hS⟩ := right_facts hl hr
  have hm := (mayM_eq m hl).1
  rw [hr] at hm
  have hrun := runP_right hO.2.2.2.2.2.2.2.2
  obtain ⟨a1, a2, a3, a4, a5, a6, a7, a8, a9, l, s, ⟨⟩⟩ := m
  have hl : Sh l := hl
  have hrun : ∀ e ∈ l, RightE e := hrun
  have hS : a1 = 7 → snapOk s = true := hS
  unfold msgB headOf at h ⊢
  rw [headB_eq] at h ⊢
  simp only at h ⊢
  have ht : (tailB a1 s).length = (tailB a1 s).length := rfl
  simp only [List.length_append, kindB_len, numB_len, flagB_len, countB_len] at h
  unfold F26
  simp only [hm, Option.bind_some, Bool.not_true, cond_false]
  refine put_loop [a1, a2, a3] (by simp [Sh]) kindB b (fun i d => ((i : Int), (d, ()))) (by simp only [List.flatMap_cons, List.flatMap_nil, List.length_append, kindB_len, List.length_nil]; omega) (fun i v d hi hv hd => ?_) ?_
  · have hi' : i < 9223372036854775807 := by simp at hi; omega
    simp only [lt_len, hi, decide_true, cond_true, idxN_nat hi, hv, Option.bind_some, outKindG d v hd, wrap64_nat hi']
  simp only [lt_len, Nat.lt_irrefl, decide_false, cond_false]
  generalize hb1 : b ++ List.flatMap kindB [a1, a2, a3] = b1
  have l1 : b1.length = b.length + 3 := by
    rw [← hb1]; simp only [List.flatMap_cons, List.flatMap_nil, List.length_append, kindB_len, List.length_nil]
  refine (congrArg (Option.map Sum.inr) (?_ : _ = some ((b ++ (kindB a1 ++ kindB a2 ++ kindB a3 ++ numB a4 ++ numB a5 ++ numB a6 ++ numB a7 ++ numB a8 ++ flagB a9 ++ countB l.length ++ l.flatMap ent3B ++ tailB a1 s), ()), ()))).trans rfl
  refine put_loop [a4, a5, a6, a7, a8] (by simp [Sh]) numB b1 (fun i d => ((i : Int), (d, ()))) (by simp only [List.flatMap_cons, List.flatMap_nil, List.length_append, numB_len, List.length_nil]; omega) (fun i v d hi hv hd => ?_) ?_
  · have hi' : i < 9223372036854775807 := by simp at hi; omega
    simp only [lt_len, hi, decide_true, cond_true, idxN_nat hi, hv, Option.bind_some, outNumG d v hd, wrap64_nat hi']
  simp only [lt_len, Nat.lt_irrefl, decide_false, cond_false]
  generalize hb2 : b1 ++ List.flatMap numB [a4, a5, a6, a7, a8] = b2
  have l2 : b2.length = b1.length + 40 := by
    rw [← hb2]; simp only [List.flatMap_cons, List.flatMap_nil, List.length_append, numB_len, List.length_nil]
  refine (congrArg (Option.map Sum.inr) (?_ : _ = some ((b ++ (kindB a1 ++ kindB a2 ++ kindB a3 ++ numB a4 ++ numB a5 ++ numB a6 ++ numB a7 ++ numB a8 ++ flagB a9 ++ countB l.length ++ l.flatMap ent3B ++ tailB a1 s), ()), ()))).trans rfl
  rw [outFlagG b2 a9 (by rw [flagB_len]; omega)]
  simp only [Option.bind_some]
  rw [outCountG _ l.length (by rw [List.length_append, flagB_len, countB_len]; omega)]
  simp only [Option.bind_some]
  generalize hb3 : b2 ++ flagB a9 ++ countB l.length = b3
  have l3 : b3.length = b2.length + 5 := by
    rw [← hb3]; simp only [List.length_append, flagB_len, countB_len]
  refine put_loop l hl ent3B b3 (fun i d => ((i : Int), (d, ()))) (by omega) (fun i v d hi hv hd => ?_) ?_
  · have hi' : i < 9223372036854775807 := by unfold Sh at hl; omega
    simp only [lt_len, hi, decide_true, cond_true, idx_nat, hv, Option.bind_some, ent_put d v (hrun v (List.mem_of_getElem? hv)) hd, wrap64_nat hi']
  simp only [lt_len, Nat.lt_irrefl, decide_false, cond_false]
  generalize hb4 : b3 ++ List.flatMap ent3B l = b4
  have l4 : b4.length = b3.length + (List.flatMap ent3B l).length := by rw [← hb4, List.length_append]
  refine (congrArg (Option.map Sum.inr) (?_ : _ = some ((b ++ (kindB a1 ++ kindB a2 ++ kindB a3 ++ numB a4 ++ numB a5 ++ numB a6 ++ numB a7 ++ numB a8 ++ flagB a9 ++ countB l.length ++ l.flatMap ent3B ++ tailB a1 s), ()), ()))).trans rfl
  have fin : b4 ++ tailB a1 s = b ++ (kindB a1 ++ kindB a2 ++ kindB a3 ++ numB a4 ++ numB a5 ++ numB a6 ++ numB a7 ++ numB a8 ++ flagB a9 ++ countB l.length ++ l.flatMap ent3B ++ tailB a1 s) := by
    rw [← hb4, ← hb3, ← hb2, ← hb1]
    simp only [List.append_assoc, List.flatMap_cons, List.flatMap_nil, List.append_nil]
  rw [← fin]
  unfold tailB at h ⊢
  by_cases h7 : a1 = 7
  · rw [decide_eq_true h7] at h ⊢
    simp only [cond_true] at h ⊢
    have hp : F93 ((b4, ()), s, ()) = _ := snap_put b4 s (hS h7) (by omega)
    rw [hp]; rfl
  · rw [decide_eq_false h7]
    simp only [cond_false, List.append_nil]
end Go.Proofs.YteebpcpkhojfkaaGreat
