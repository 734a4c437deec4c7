/-
  Talk: a message's bytes: what is put, what the document says.
-/
import Derived.Test.YteebpcpkhojfkaaGreatTalkLawE
namespace Go.Proofs.YteebpcpkhojfkaaGreat
open Go.Sx Go Classical
set_option maxRecDepth 10000
theorem putNums_eq (l : List Int) (b : List UInt8) (hl : Sh l) (h : b.length + (l.flatMap numB).length ≤ Big) : F96a (l, (b, ()), ()) = some ((b ++ l.flatMap numB, ()), ()) := by
  unfold F96a
  refine put_loop l hl numB b (fun i d => ((i : Int), (d, ()))) h (fun i v d hi hv hd => ?_) ?_
  · have hi' : i < 9223372036854775807 := by unfold Sh at hl; omega
    simp only [lt_len, hi, decide_true, cond_true, idx_nat, hv, Option.bind_some, outNumG d v hd, wrap64_nat hi']
  · simp only [lt_len, Nat.lt_irrefl, decide_false, cond_false]
theorem putN1 (a : Int) (b : List UInt8) (h : b.length + 8 ≤ Big) : F96a ([a], (b, ()), ()) = some ((b ++ numB a, ()), ()) := by
  have := putNums_eq [a] b (by simp [Sh]) (by simp only [List.flatMap_cons, List.flatMap_nil, List.append_nil, numB_len]; exact h)
  simpa using this
theorem putN2 (a c : Int) (b : List UInt8) (h : b.length + 16 ≤ Big) : F96a ([a, c], (b, ()), ()) = some ((b ++ (numB a ++ numB c), ()), ()) := by
  have := putNums_eq [a, c] b (by simp [Sh]) (by simp only [List.flatMap_cons, List.flatMap_nil, List.append_nil, List.length_append, numB_len]; exact h)
  simpa using this
theorem putItemsT_eq (b : List UInt8) (l : List T70D) (hl : Sh l) (h : b.length + (itemsN l).length ≤ Big) : F99 ((b, ()), l, ()) = some ((b ++ itemsN l, ()), ()) := by
  unfold itemsN at *
  rw [List.length_append] at h
  unfold F99
  simp only [outCountG b l.length (by omega), Option.bind_some]
  refine put_loop l hl (fun x => itemB (normI x)) (b ++ countB l.length) (fun i d => ((i : Int), (d, ()))) (by rw [List.length_append]; omega) (fun i v d hi hv hd => ?_) ?_
  · have hi' : i < 9223372036854775807 := by unfold Sh at hl; omega
    simp only [lt_len, hi, decide_true, cond_true, idx_nat, hv, Option.bind_some, putItem_eq d v hd, wrap64_nat hi']
  · simp only [lt_len, Nat.lt_irrefl, decide_false, cond_false, List.append_assoc]
theorem rItemsBytes_eq (l : List T70D) (hl : Sh l) (hs : ∀ x ∈ l, St x.1) (h : (itemsN l).length ≤ Big) : F59 (l, ()) = some (itemsN l, ()) := by
  unfold itemsN at *
  rw [List.length_append] at h
  unfold F59
  simp only [refCountG, Option.bind_some]
  refine put_loop l hl (fun x => itemB (normI x)) (countB l.length) (fun i d => (d, (i : Int), ())) (by omega) (fun i v d hi hv hd => ?_) ?_
  · have hi' : i < 9223372036854775807 := by unfold Sh at hl; omega
    simp only [lt_len, hi, decide_true, cond_true, idx_nat, hv, Option.bind_some, itemBytes_eq v (hs v (List.mem_of_getElem? hv)), appU_eq (show d.length + (itemB (normI v)).length ≤ 140737488355000 from hd), wrap64_nat hi']
  · simp only [lt_len, Nat.lt_irrefl, decide_false, cond_false]
theorem rJoinT_eq (l : List (List UInt8)) (hl : Sh l) (h : (l.flatMap id).length ≤ Big) : F53 (l, ()) = some (l.flatMap id, ()) := join_eq l hl h
abbrev batch1B : TBD → List UInt8 := consB numB (consB itemsB unitB)
abbrev batchesB : List TBD → List UInt8 := listB batch1B
noncomputable def hand11B (h : T55D) : List UInt8 := bif dec' (h = NoHand) then flagB false else flagB true ++ handB h
/-- a right message's bytes, behind its Rid -/
noncomputable def bodyB (m : TMD) : List UInt8 :=
  if m.1 = 2 then textB (jobB m.2.2.2.1)
  else if m.1 = 3 then numB m.2.2.2.2.1 ++ textB m.2.2.2.2.2.1 ++ textB m.2.2.2.2.2.2.1 ++ (numB m.2.2.2.2.2.2.2.1 ++ numB m.2.2.2.2.2.2.2.2.1)
  else if m.1 = 4 then numB m.2.2.2.2.1 ++ textB m.2.2.2.2.2.1 ++ textB m.2.2.2.2.2.2.1 ++ numB m.2.2.2.2.2.2.2.1
  else if m.1 = 5 then textB m.2.2.2.2.2.1 ++ textB m.2.2.2.2.2.2.1 ++ numB m.2.2.2.2.2.2.2.1
  else if m.1 = 6 then numB m.2.2.2.2.2.2.2.1
  else if m.1 = 8 then numB m.2.2.2.2.2.2.2.2.2.1 ++ numB m.2.2.2.2.2.2.2.2.2.2.1 ++ replyB m.2.2.2.2.2.2.2.2.2.2.2.1
  else if m.1 = 9 then numB m.2.2.2.2.2.2.2.2.2.1 ++ numB m.2.2.2.2.2.2.2.1 ++ batchesB m.2.2.2.2.2.2.2.2.2.2.2.2.1
  else if m.1 = 10 then numB m.2.2.2.2.2.2.2.2.2.1 ++ flagB m.2.2.2.2.2.2.2.2.2.2.2.2.2.2.1 ++ itemsB m.2.2.2.2.2.2.2.2.2.2.2.2.2.1
  else if m.1 = 11 then numB m.2.2.2.2.2.2.2.2.2.1 ++ hand11B m.2.2.2.2.2.2.2.2.2.2.2.2.2.2.2.1
  else if m.1 = 12 then numB m.2.2.2.2.2.2.2.1 ++ moveB m.2.2.2.2.2.2.2.2.2.2.2.2.2.2.2.2.1
  else []
noncomputable def msgTB (m : TMD) : List UInt8 := kindB m.1 ++ (if m.1 = 1 then msgB m.2.2.1 else numB m.2.1 ++ bodyB m)
theorem batch_items {l : List TBD} (h : BatchesOk l) : ∀ b ∈ l, itemsN b.2.1 = itemsB b.2.1 ∧ b.2.1.length ≤ 48 := fun b hb => by
  obtain ⟨i, hi, rfl⟩ := List.mem_iff_getElem.1 hb
  have := (h.1 i _ (List.getElem?_eq_getElem hi)).2.1
  exact ⟨itemsN_eq fun x hx => may_item (this.2 x hx), by have := this.1; omega⟩
theorem batch1B_eq (b : TBD) : batch1B b = numB b.1 ++ itemsB b.2.1 := by
  simp only [batch1B, consB, unitB, List.append_nil]
/-- what the parts of a right message take at most -/
theorem hand11_len (h : T55D) (hh : h = NoHand ∨ HandOk h) (hs : h.2.2.1.length ≤ 60000) : (hand11B h).length ≤ 200000010 := by
  unfold hand11B
  by_cases c : h = NoHand
  · rw [dec_true c]; simp only [cond_true, flagB_len]; omega
  · rw [dec_false c]
    have := normH_len h hs
    rw [normH_id (hh.resolve_left c)] at this
    simp only [cond_false, List.length_append, flagB_len]; omega
theorem batches_len {l : List TBD} (h : BatchesOk l) : (batchesB l).length ≤ 4 + l.length * 9700 := by
  have := flat_most (l := l) (e := batch1B) (n := 9700) (fun b hb => by
    obtain ⟨h1, h2⟩ := batch_items h b hb
    have h3 := itemsN_len b.2.1
    rw [batch1B_eq, List.length_append, numB_len, ← h1]; omega)
  unfold batchesB listB
  rw [List.length_append, countB_len]
  omega
theorem bodyB_len {m : TMD} (hR : RightT m) (hs : m.2.2.2.1.2.2.1.2.2.2.2.2.2.2.2.2.2.2.2.2.2.2.1.length ≤ 60000) (hh : m.2.2.2.2.2.2.2.2.2.2.2.2.2.2.2.1.2.2.1.length ≤ 60000) : (bodyB m).length ≤ 300000000 := by
  obtain ⟨hk, hp, hK⟩ := hR
  obtain ⟨k, rid, raft, job, cl, fr, en, rev, most, err, hint, rep, bat, its, done, hand, mov, ⟨⟩⟩ := m
  dsimp only at hs hh
  rcases kinds12 hk.1 hk.2 with e | e | e | e | e | e | e | e | e | e | e | e <;> (dsimp only at e; subst e) <;>
    (unfold KindT Kind1 at hK; simp only [Int.reduceEq, false_and, true_and, false_or, or_false] at hK; unfold bodyB; simp only [Int.reduceEq, if_true, if_false, List.length_append, numB_len, textB_len, flagB_len, List.length_nil])
  · omega
  · have hr := right_len hK.2.1 (show job.2.2.1.2.2.2.2.2.2.2.2.2.2.2.2.2.2.2.1.length ≤ 60000 from hs)
    obtain ⟨j1, j2, j3, ⟨⟩⟩ := job
    rw [jobB_eq]
    simp only [List.length_append, numB_len]
    have hr : (cmdB j3).length ≤ 200000000 := hr
    omega
  · have h1 := (range_key hK.2.2.2.1).len; have h2 := range_end hK.2.2.2.1; omega
  · have h1 := (range_key hK.2.2.2.1).len; have h2 := range_end hK.2.2.2.1; omega
  · have h1 := hK.2.1.2.len; have h2 := key_len hK.2.2.1; omega
  · omega
  · omega
  · have := normR_len rep; rw [normR_id hK.2.2.2.2.2] at this; omega
  · have := batches_len hK.2.2.2.2.2; have := hK.2.2.2.2.2.2; omega
  · have h1 := itemsN_len its; rw [itemsN_eq fun x hx => may_item (hK.2.2.2.2 x hx)] at h1; have := hK.2.2.2.1; omega
  · have := hand11_len hand hK.2.2.2 hh; omega
  · have := normM_len mov; rw [normM_id hK.2.2] at this; omega
theorem putT_eq (b : List UInt8) (m : TMD) (hf : Fit47 TM m) (hR : RightT m) (h1 : m.1 ≠ 1) (h2 : m.1 ≠ 2) (h : b.length + (bodyB m).length ≤ Big) : F30 ((b, ()), m, ()) = some ((b ++ bodyB m, ()), ()) := by
  have hz := (szT hf).1
  obtain ⟨hk, hp, hK⟩ := hR
  obtain ⟨k, rid, raft, job, cl, fr, en, rev, most, err, hint, rep, bat, its, done, hand, mov, ⟨⟩⟩ := m
  obtain ⟨-, -, z3, ⟨z4, z4'⟩, z5, z6⟩ := hz
  obtain ⟨-, -, -, -, -, -, -, -, -, -, -, -, -, -, -, fh, -, -⟩ := hf
  dsimp only at h1 h2 z3 z4 z4' z5 z6
  have e91 : ∀ b : List UInt8, b ++ numB err ++ numB rev = b ++ (numB err ++ numB rev) := fun b => List.append_assoc ..
  rcases kinds12 hk.1 hk.2 with e | e | e | e | e | e | e | e | e | e | e | e <;> (dsimp only at e; subst e) <;>
    (unfold KindT Kind1 at hK; simp only [Int.reduceEq, false_and, true_and, false_or, or_false] at hK; unfold bodyB at h ⊢; simp only [Int.reduceEq, if_true, if_false, List.length_append, numB_len, textB_len, flagB_len] at h ⊢; unfold F30; simp only [Int.reduceEq, decide_true, decide_false, cond_true, cond_false])
  · exact absurd rfl h1
  · exact absurd rfl h2
  · simp (disch := ((try simp only [List.length_append, numB_len, textB_len]); omega)) only [putN1, putN2, outTextG, Option.bind_some, List.append_assoc]
  · simp (disch := ((try simp only [List.length_append, numB_len, textB_len]); omega)) only [putN1, putN2, outTextG, Option.bind_some, List.append_assoc]
  · simp (disch := ((try simp only [List.length_append, numB_len, textB_len]); omega)) only [putN1, putN2, outTextG, Option.bind_some, List.append_assoc]
  · simp (disch := ((try simp only [List.length_append, numB_len, textB_len]); omega)) only [putN1, Option.bind_some]
  · simp only [List.append_nil]
  · have hn := normR_id hK.2.2.2.2.2
    rw [putN2 _ _ _ (by omega)]
    simp only [Option.bind_some]
    refine bind_of (putReply_eq _ rep z3 (by rw [hn]; simp only [List.length_append, numB_len]; omega)) ?_
    rw [hn]; simp only [List.append_assoc]
  · have hb := hK.2.2.2.2.2
    have hbl : (batchesB bat).length = (countB bat.length).length + (bat.flatMap batch1B).length := by unfold batchesB listB; rw [List.length_append]
    rw [putN2 _ _ _ (by omega)]
    simp only [Option.bind_some]
    rw [outCountG _ _ (by simp only [List.length_append, numB_len]; omega)]
    simp only [Option.bind_some]
    refine put_loop bat z4 batch1B (b ++ (numB err ++ numB rev) ++ countB bat.length) (fun i d => ((i : Int), (d, ()))) (by simp only [List.length_append, numB_len]; omega) (fun i v d hi hv hd => ?_) ?_
    · have hi' : i < 9223372036854775807 := by unfold Sh at z4; omega
      have hm := List.mem_of_getElem? hv
      obtain ⟨g1, g2⟩ := batch_items hb v hm
      rw [batch1B_eq, ← g1] at hd ⊢
      simp only [List.length_append, numB_len] at hd
      simp only [lt_len, hi, decide_true, cond_true, idx_nat, hv, Option.bind_some]
      rw [putN1 _ _ (by omega)]
      simp only [Option.bind_some]
      refine bind_of (putItemsT_eq _ v.2.1 (z4' v hm) (by simp only [List.length_append, numB_len]; omega)) ?_
      simp only [List.append_assoc, wrap64_nat hi']
    · simp only [lt_len, Nat.lt_irrefl, decide_false, cond_false, batchesB, listB, List.append_assoc]
  · have hi := itemsN_eq fun x hx => may_item (hK.2.2.2.2 x hx)
    rw [← hi] at h ⊢
    rw [putN1 _ _ (by omega)]
    simp only [Option.bind_some]
    rw [outFlagG _ _ (by simp only [List.length_append, numB_len, flagB_len]; omega)]
    simp only [Option.bind_some]
    refine bind_of (putItemsT_eq _ its z5 (by simp only [List.length_append, numB_len, flagB_len]; omega)) ?_
    simp only [List.append_assoc]
  · unfold hand11B at h ⊢
    rw [putN1 _ _ (by omega)]
    by_cases c : hand = NoHand
    · rw [dec_true c] at h ⊢
      simp only [cond_true, flagB_len] at h ⊢
      simp only [Option.bind_some, noHand_eq, dec_true c, Bool.not_true]
      rw [outFlagG _ _ (by simp only [List.length_append, numB_len, flagB_len]; omega)]
      simp only [Option.bind_some, cond_false, List.append_assoc]
    · have hn := normH_id (hK.2.2.2.resolve_left c)
      rw [dec_false c] at h ⊢
      simp only [cond_false, flagB_len, List.length_append] at h ⊢
      simp only [Option.bind_some, noHand_eq, dec_false c, Bool.not_false]
      rw [outFlagG _ _ (by simp only [List.length_append, numB_len, flagB_len]; omega)]
      simp only [Option.bind_some, cond_true]
      refine bind_of (putHand_eq _ hand fh (by rw [hn]; simp only [List.length_append, numB_len, flagB_len]; omega)) ?_
      rw [hn]; simp only [List.append_assoc]
  · have hn := normM_id hK.2.2
    rw [putN1 _ _ (by omega)]
    simp only [Option.bind_some]
    refine bind_of (putMove_eq _ mov (by rw [hn]; simp only [List.length_append, numB_len]; omega)) ?_
    rw [hn]; simp only [List.append_assoc]
end Go.Proofs.YteebpcpkhojfkaaGreat
