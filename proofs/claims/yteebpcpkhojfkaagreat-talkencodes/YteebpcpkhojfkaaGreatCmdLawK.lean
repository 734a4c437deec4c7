/-
  Plain laws of what lies below, as this seat reaches them (by a program of the bench: port.py).
-/
import Derived.Test.YteebpcpkhojfkaaGreatCmdLawJ
import Derived.Test.YteebpcpkhojfkaaGreatSxR
namespace Go.Proofs.YteebpcpkhojfkaaGreat
open Go.Sx Go Classical
set_option maxRecDepth 10000
noncomputable def normM (r : T53D) : T53D := bif dec' (MoveOk r) then r else NoMove
theorem normM_id {r : T53D} (h : MoveOk r) : normM r = r := by unfold normM; rw [dec_true h]; rfl
theorem moveB_eq (a1 a2 a3 : Int) (a4 a5 : List UInt8) (a6 : Int) (a7 : List UInt8) (a8 a9 a10 : Int) : moveB (a1, a2, a3, a4, a5, a6, a7, a8, a9, a10, ()) = kindB a1 ++ numB a2 ++ numB a3 ++ textB a4 ++ textB a5 ++ numB a6 ++ textB a7 ++ numB a8 ++ numB a9 ++ numB a10 := by
  simp only [moveB, consB, unitB, List.append_nil, List.append_assoc]
theorem moveB_len (m : T53D) : (moveB m).length = 61 + m.2.2.2.1.length + m.2.2.2.2.1.length + m.2.2.2.2.2.2.1.length := by
  obtain ⟨a1, a2, a3, a4, a5, a6, a7, a8, a9, a10, ⟨⟩⟩ := m
  rw [moveB_eq]
  simp only [List.length_append, kindB_len, numB_len, textB_len]; omega
theorem pre_len {s : List UInt8} (h : s = [] ∨ IsPre s) : s.length ≤ 8 := by
  rcases h with h | h
  · rw [h]; simp
  · exact h.1
theorem key_len {s : List UInt8} (h : s = [] ∨ IsKey s) : s.length ≤ 32 := by
  rcases h with h | h
  · rw [h]; simp
  · exact h.len
theorem normM_len (m : T53D) : (moveB (normM m)).length ≤ 200 := by
  rw [moveB_len]
  unfold normM
  by_cases h : MoveOk m
  · rw [dec_true h]
    obtain ⟨-, -, -, -, h4, h5, -, h7, -⟩ := h
    have := pre_len h4
    have := pre_len h5
    have := key_len h7
    simp only [cond_true]; omega
  · rw [dec_false h]; simp [NoMove]
theorem putMove_eq (b : List UInt8) (m : T53D) (h : b.length + (moveB (normM m)).length ≤ Big) : F102 ((b, ()), m, ()) = some ((b ++ moveB (normM m), ()), ()) := by
  unfold F102
  have e : (Option.bind (F158 (m, ())) fun b => bif !b.fst then some (Sum.inl (0, 0, 0, [], [], 0, [], 0, 0, 0, ())) else some (Sum.inl m) : Option (T53D ⊕ (T83D × Unit))) = some (Sum.inl (normM m)) := by
    rw [move_eq]
    unfold normM
    cases dec' (MoveOk m) <;> rfl
  simp only [e, Option.bind_some, Sum.elim_inl]
  rw [moveB_len] at h
  generalize normM m = w at *
  obtain ⟨a1, a2, a3, a4, a5, a6, a7, a8, a9, a10, ⟨⟩⟩ := w
  simp only at h
  simp (disch := (simp only [List.length_append, numB_len, textB_len, kindB_len]; omega)) only [outKindG, outNumG, outTextG, Option.bind_some]
  rw [moveB_eq]
  simp only [List.append_assoc]
theorem moveBytes_eq (m : T53D) (hm : SzMove m) : F62 (m, ()) = some (moveB (normM m), ()) := by
  unfold F62
  have e : (Option.bind (F45 (m, ())) fun b => bif !b.fst then some (Sum.inl (0, 0, 0, [], [], 0, [], 0, 0, 0, ())) else some (Sum.inl m) : Option (T53D ⊕ T83D)) = some (Sum.inl (normM m)) := by
    rw [rMove_eq m hm]
    unfold normM
    cases dec' (MoveOk m) <;> rfl
  simp only [e, Option.bind_some, Sum.elim_inl]
  have h := normM_len m
  rw [moveB_len] at h
  generalize normM m = w at *
  obtain ⟨a1, a2, a3, a4, a5, a6, a7, a8, a9, a10, ⟨⟩⟩ := w
  simp only at h
  simp only [nums_eq [a2, a3] (by simp), nums_eq [a6] (by simp), nums_eq [a8, a9, a10] (by simp), refTextB_eq a4 (by omega), refTextB_eq a5 (by omega), refTextB_eq a7 (by omega), Option.bind_some]
  rw [join_eq _ (by simp [Sh]) (by simp only [List.flatMap_cons, List.flatMap_nil, List.length_append, numB_len, textB_len, List.length_nil, List.length_cons, id]; unfold Big; omega)]
  rw [moveB_eq]
  simp only [Option.bind_some, List.flatMap_cons, List.flatMap_nil, List.append_nil, id, List.append_assoc, kindB, byteB]
noncomputable def normH (r : T55D) : T55D := bif dec' (HandOk r) then r else NoHand
theorem normH_id {r : T55D} (h : HandOk r) : normH r = r := by unfold normH; rw [dec_true h]; rfl
theorem normH_sess (r : T55D) : ∀ s ∈ (normH r).2.2.1, ReplyOk s.2.2.1 := by
  unfold normH
  by_cases h : HandOk r
  · rw [dec_true h]
    intro s hs
    obtain ⟨i, hi⟩ := List.mem_iff_getElem?.1 hs
    exact (h.2.2.1 i s hi).2.2.2.1
  · rw [dec_false h]; exact fun x hx => by simp [NoHand] at hx
theorem handB_eq (a1 a2 : Int) (a3 : List T94D) (a4 : List T113D) : handB (a1, a2, a3, a4, ()) = numB a1 ++ numB a2 ++ sessB a3 ++ leasesB a4 := by
  simp only [handB, consB, unitB, List.append_nil, List.append_assoc]
theorem normH_len (h : T55D) (hs : h.2.2.1.length ≤ 60000) : (handB (normH h)).length ≤ 200000000 := by
  have e := normH_sess h
  have h1 := sessN_len (normH h).2.2.1
  have h2 := leasesB_len (normH h).2.2.2.1
  rw [sessN_eq e] at h1
  have h3 : (normH h).2.2.1.length ≤ 60000 ∧ (normH h).2.2.2.1.length ≤ 64 := by
    unfold normH
    by_cases c : HandOk h
    · rw [dec_true c]; exact ⟨hs, c.2.2.2.2⟩
    · rw [dec_false c]; simp [NoHand]
  generalize normH h = w at *
  obtain ⟨a1, a2, a3, a4, ⟨⟩⟩ := w
  rw [handB_eq]
  simp only [List.length_append, numB_len] at *; omega
theorem putHand_eq (b : List UInt8) (m : T55D) (hm : Fit47 T55 m) (h : b.length + (handB (normH m)).length ≤ Big) : F101 ((b, ()), m, ()) = some ((b ++ handB (normH m), ()), ()) := by
  unfold F101
  have e : (Option.bind (F157 (m, ())) fun b => bif !b.fst then some (Sum.inl (0, 0, [], [], ())) else some (Sum.inl m) : Option (T55D ⊕ (T83D × Unit))) = some (Sum.inl (normH m)) := by
    rw [hand_eq m (szHand hm).2]
    unfold normH
    cases dec' (HandOk m) <;> rfl
  have es := normH_sess m
  have hz : ShH (normH m) := by
    unfold normH
    by_cases c : HandOk m
    · rw [dec_true c]; exact (szHand hm).2
    · rw [dec_false c]; exact (szHand fitNoHand).2
  simp only [e, Option.bind_some, Sum.elim_inl]
  generalize normH m = w at *
  obtain ⟨a1, a2, a3, a4, ⟨⟩⟩ := w
  have es' : sessN a3 = sessB a3 := sessN_eq es
  rw [handB_eq, ← es'] at h ⊢
  simp only [List.length_append, numB_len] at h
  simp (disch := (simp only [List.length_append, numB_len]; omega)) only [outNumG, putHanded_eq _ a3 a4 hz.1 hz.2, Option.bind_some]
  simp only [List.append_assoc]
theorem handBytes_eq (m : T55D) (hm : Fit47 T55 m) (hs : m.2.2.1.length ≤ 60000) : F61 (m, ()) = some (handB (normH m), ()) := by
  unfold F61
  have e : (Option.bind (F44 (m, ())) fun b => bif !b.fst then some (Sum.inl (0, 0, [], [], ())) else some (Sum.inl m) : Option (T55D ⊕ T83D)) = some (Sum.inl (normH m)) := by
    rw [rHand_eq m (szHand hm).1]
    unfold normH
    cases dec' (HandOk m) <;> rfl
  have es := normH_sess m
  have hl := normH_len m hs
  have hz : SzHand (normH m) := by
    unfold normH
    by_cases c : HandOk m
    · rw [dec_true c]; exact (szHand hm).1
    · rw [dec_false c]; exact (szHand fitNoHand).1
  simp only [e, Option.bind_some, Sum.elim_inl]
  generalize normH m = w at *
  obtain ⟨a1, a2, a3, a4, ⟨⟩⟩ := w
  have es' : sessN a3 = sessB a3 := sessN_eq es
  rw [handB_eq, ← es'] at hl ⊢
  simp only [List.length_append, numB_len] at hl
  simp only [nums_eq [a1, a2] (by simp), handedBytes_eq a3 a4 hz.1 hz.2 (by unfold Big; omega), Option.bind_some]
  rw [join_eq _ (by simp [Sh]) (by simp only [List.flatMap_cons, List.flatMap_nil, List.length_append, numB_len, List.length_nil, id]; unfold Big; omega)]
  simp only [Option.bind_some, List.flatMap_cons, List.flatMap_nil, List.append_nil, id, List.append_assoc]
theorem cmp1B_eq (v1 : List UInt8) (v2 v3 v4 : Int) (v5 : List UInt8) : cmp1B (v1, v2, v3, v4, v5, ()) = textB v1 ++ kindB v2 ++ kindB v3 ++ numB v4 ++ textB v5 := by
  simp only [cmp1B, consB, unitB, List.append_nil, List.append_assoc]
theorem op1B_eq (v1 : Int) (v2 v3 v4 : List UInt8) (v5 : Int) : op1B (v1, v2, v3, v4, v5, ()) = kindB v1 ++ textB v2 ++ textB v3 ++ textB v4 ++ numB v5 := by
  simp only [op1B, consB, unitB, List.append_nil, List.append_assoc]
theorem putCmps_eq (b : List UInt8) (l : List T96D) (hl : Sh l) (h : b.length + (cmpsB l).length ≤ Big) : F178 ((b, ()), l, ()) = some ((b ++ cmpsB l, ()), ()) := by
  unfold cmpsB listB at *
  rw [List.length_append] at h
  unfold F178
  simp only [outCountG b l.length (by omega), Option.bind_some]
  refine put_loop l hl cmp1B (b ++ countB l.length) (fun i d => ((i : Int), (d, ()))) (by rw [List.length_append]; omega) (fun i v d hi hv hd => ?_) ?_
  · have hi' : i < 9223372036854775807 := by unfold Sh at hl; omega
    obtain ⟨v1, v2, v3, v4, v5, ⟨⟩⟩ := v
    rw [cmp1B_eq] at hd ⊢
    simp only [List.length_append, numB_len, textB_len, kindB_len] at hd
    simp (disch := (simp only [List.length_append, numB_len, textB_len, kindB_len]; omega)) only [lt_len, hi, decide_true, cond_true, idx_nat, hv, Option.bind_some, outNumG, outTextG, outKindG, wrap64_nat hi']
    simp only [List.append_assoc]
  · simp only [lt_len, Nat.lt_irrefl, decide_false, cond_false, List.append_assoc]
theorem putOps_eq (b : List UInt8) (l : List T48D) (hl : Sh l) (h : b.length + (opsB l).length ≤ Big) : F179 ((b, ()), l, ()) = some ((b ++ opsB l, ()), ()) := by
  unfold opsB listB at *
  rw [List.length_append] at h
  unfold F179
  simp only [outCountG b l.length (by omega), Option.bind_some]
  refine put_loop l hl op1B (b ++ countB l.length) (fun i d => ((i : Int), (d, ()))) (by rw [List.length_append]; omega) (fun i v d hi hv hd => ?_) ?_
  · have hi' : i < 9223372036854775807 := by unfold Sh at hl; omega
    obtain ⟨v1, v2, v3, v4, v5, ⟨⟩⟩ := v
    rw [op1B_eq] at hd ⊢
    simp only [List.length_append, numB_len, textB_len, kindB_len] at hd
    simp (disch := (simp only [List.length_append, numB_len, textB_len, kindB_len]; omega)) only [lt_len, hi, decide_true, cond_true, idx_nat, hv, Option.bind_some, outNumG, outTextG, outKindG, wrap64_nat hi']
    simp only [List.append_assoc]
  · simp only [lt_len, Nat.lt_irrefl, decide_false, cond_false, List.append_assoc]
theorem opsBytes_eq (l : List T48D) (hl : Sh l) (hs : ∀ o ∈ l, SzOp o) (h : (opsB l).length ≤ Big) : F117 (l, ()) = some (opsB l, ()) := by
  unfold opsB listB at *
  rw [List.length_append] at h
  unfold F117
  simp only [refCountG, Option.bind_some]
  refine put_loop l hl op1B (countB l.length) (fun i d => (d, (i : Int), ())) (by omega) (fun i v d hi hv hd => ?_) ?_
  · have hi' : i < 9223372036854775807 := by unfold Sh at hl; omega
    obtain ⟨s1, s2, s3⟩ := hs v (List.mem_of_getElem? hv)
    obtain ⟨v1, v2, v3, v4, v5, ⟨⟩⟩ := v
    rw [op1B_eq] at hd ⊢
    simp only [List.length_append, numB_len, textB_len, kindB_len] at hd
    have hj := join_eq [d, kindB v1, textB v2, textB v3, textB v4, [v5].flatMap numB] (by simp [Sh]) (by simp only [List.flatMap_cons, List.flatMap_nil, List.length_append, numB_len, textB_len, kindB_len, List.length_nil, id]; omega)
    simp only [lt_len, hi, decide_true, cond_true, idx_nat, hv, Option.bind_some, nums_eq [v5] (by simp), refTextB_eq v2 s1, refTextB_eq v3 s2, refTextB_eq v4 s3, wrap64_nat hi']
    refine bind_of hj ?_
    simp only [List.append_assoc, List.flatMap_cons, List.flatMap_nil, List.append_nil, id]
  · simp only [lt_len, Nat.lt_irrefl, decide_false, cond_false]
end Go.Proofs.YteebpcpkhojfkaaGreat
