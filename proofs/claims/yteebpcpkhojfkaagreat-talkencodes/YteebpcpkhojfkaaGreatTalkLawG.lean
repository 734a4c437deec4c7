/-
  Talk: the document's bytes; the program's encoding.
-/
import Derived.Test.YteebpcpkhojfkaaGreatTalkLawF
namespace Go.Proofs.YteebpcpkhojfkaaGreat
open Go.Sx Go Classical
set_option maxRecDepth 10000
theorem cmp_val {x : T96D} (h : CmpOk x) : St x.2.2.2.2.1 := by
  rcases h.2.2.2 with h | h
  · rw [h.2.2.1]; simp
  · exact Nat.le_trans h.2.2 (by omega)
theorem job_bytes {j : T33D} (hz : SzCmd j.2.2.1) (h : JobOk j) (hs : j.2.2.1.2.2.2.2.2.2.2.2.2.2.2.2.2.2.2.1.length ≤ 60000) : F46 (j, ()) = some (jobB j, ()) ∧ (jobB j).length ≤ 200000016 := by
  have hl := right_len h.1 hs
  have hJ : (jobB j).length ≤ 200000016 := by
    obtain ⟨n, m, c, ⟨⟩⟩ := j
    rw [jobB_eq]; simp only [List.length_append, numB_len]
    have hl : (cmdB c).length ≤ 200000000 := hl
    omega
  exact ⟨bytes_eq j hz (Nat.le_trans (right_val h.1) (by omega)) (fun x hx => cmp_val ((right_cmps h.1).1 x hx)) (right_plain h.1) (by unfold Big; omega), hJ⟩
theorem one_kind : ([UInt8.ofNat 1] : List UInt8) = kindB 1 := rfl
theorem tbytes_eq (m : TMD) (hz : SzT m) (fh : Fit47 T55 m.2.2.2.2.2.2.2.2.2.2.2.2.2.2.2.1) (hR : RightT m) (hs : m.2.2.2.1.2.2.1.2.2.2.2.2.2.2.2.2.2.2.2.2.2.2.1.length ≤ 60000) (hh : m.2.2.2.2.2.2.2.2.2.2.2.2.2.2.2.1.2.2.1.length ≤ 60000) : F14 (m, ()) = some (msgTB m, ()) := by
  have hbl := bodyB_len hR hs hh
  obtain ⟨⟨z2, -, z3, ⟨z4, z4'⟩, z5, z6⟩, zc, zf, ze, zr, zb, zi, zh, zm⟩ := hz
  obtain ⟨hk, hp, hK⟩ := hR
  obtain ⟨k, rid, raft, job, cl, fr, en, rev, most, err, hint, rep, bat, its, done, hand, mov, ⟨⟩⟩ := m
  dsimp only at hs hh z2 z3 z4 z4' z5 z6 zc zf ze zr zb zi zh zm fh
  have nn : ∀ (l : List Int), l.length ≤ 1000 → F55 (l, ()) = some (l.flatMap numB, ()) := nums_eq
  rcases kinds12 hk.1 hk.2 with e | e | e | e | e | e | e | e | e | e | e | e <;> (dsimp only at e; subst e) <;>
    (unfold KindT Kind1 at hK; simp only [Int.reduceEq, false_and, true_and, false_or, or_false] at hK; unfold bodyB at hbl; unfold msgTB bodyB; simp only [Int.reduceEq, if_true, if_false, List.length_append, numB_len, textB_len, flagB_len, List.length_nil] at hbl ⊢; unfold F14; simp only [Int.reduceEq, decide_true, decide_false, cond_true, cond_false])
  · obtain ⟨hO, hS⟩ := right_facts z2 hK
    have hl := msgB_len hO hS
    simp only [bytes_good raft z2 hK, Option.bind_some]
    rw [rJoinT_eq _ (by simp [Sh]) (by simp only [List.flatMap_cons, List.flatMap_nil, List.length_append, List.length_nil, List.length_cons, id]; unfold Big; omega)]
    simp only [Option.bind_some, List.flatMap_cons, List.flatMap_nil, List.append_nil, id, one_kind]
  all_goals
    simp (disch := simp) only [nn, Option.bind_some, List.flatMap_cons, List.flatMap_nil, List.append_nil]
    rw [rJoinT_eq _ (by simp [Sh]) (by simp only [List.flatMap_cons, List.flatMap_nil, List.length_append, List.length_nil, List.length_cons, numB_len, id]; unfold Big; omega)]
    simp only [Option.bind_some, refTextB_eq fr zf, refTextB_eq en ze, List.flatMap_cons, List.flatMap_nil, List.append_nil, id]
  · obtain ⟨j1, j2⟩ := job_bytes zc hK.2 hs
    simp only [j1, Option.bind_some]
    rw [show F56 (jobB job, ()) = some (textB (jobB job), ()) from refTextB_eq _ (by omega)]
    simp only [Option.bind_some]
    rw [rJoinT_eq _ (by simp [Sh]) (by simp only [List.flatMap_cons, List.flatMap_nil, List.length_append, List.length_nil, List.length_cons, numB_len, textB_len, id]; unfold Big; omega)]
    simp only [Option.bind_some, List.flatMap_cons, List.flatMap_nil, List.append_nil, id, List.append_assoc]
    rfl
  · have q1 := (range_key hK.2.2.2.1).len
    have q2 := range_end hK.2.2.2.1
    rw [rJoinT_eq _ (by simp [Sh]) (by simp only [List.flatMap_cons, List.flatMap_nil, List.length_append, List.length_nil, List.length_cons, numB_len, textB_len, flagB_len, id]; unfold Big; omega)]
    simp only [Option.bind_some, List.flatMap_cons, List.flatMap_nil, List.append_nil, id, List.append_assoc]
    rfl
  · have q1 := (range_key hK.2.2.2.1).len
    have q2 := range_end hK.2.2.2.1
    rw [rJoinT_eq _ (by simp [Sh]) (by simp only [List.flatMap_cons, List.flatMap_nil, List.length_append, List.length_nil, List.length_cons, numB_len, textB_len, flagB_len, id]; unfold Big; omega)]
    simp only [Option.bind_some, List.flatMap_cons, List.flatMap_nil, List.append_nil, id, List.append_assoc]
    rfl
  · have q1 := hK.2.1.2.len
    have q2 := key_len hK.2.2.1
    rw [rJoinT_eq _ (by simp [Sh]) (by simp only [List.flatMap_cons, List.flatMap_nil, List.length_append, List.length_nil, List.length_cons, numB_len, textB_len, flagB_len, id]; unfold Big; omega)]
    simp only [Option.bind_some, List.flatMap_cons, List.flatMap_nil, List.append_nil, id, List.append_assoc]
    rfl
  · rw [rJoinT_eq _ (by simp [Sh]) (by simp only [List.flatMap_cons, List.flatMap_nil, List.length_append, List.length_nil, List.length_cons, numB_len, id]; unfold Big; omega)]
    simp only [Option.bind_some, List.flatMap_cons, List.flatMap_nil, List.append_nil, id, List.append_assoc]
    rfl
  · rfl
  · have hn := normR_id hK.2.2.2.2.2
    have hl := normR_len rep
    refine bind_of (replyBytes_eq rep zr) ?_
    rw [hn] at hl ⊢
    rw [rJoinT_eq _ (by simp [Sh]) (by simp only [List.flatMap_cons, List.flatMap_nil, List.length_append, List.length_nil, List.length_cons, numB_len, textB_len, flagB_len, id]; unfold Big; omega)]
    simp only [Option.bind_some, List.flatMap_cons, List.flatMap_nil, List.append_nil, id, List.append_assoc]
    rfl
  · have hb := hK.2.2.2.2.2
    have hbl2 : (batchesB bat).length = (countB bat.length).length + (bat.flatMap batch1B).length := by unfold batchesB listB; rw [List.length_append]
    simp only [refCountG, Option.bind_some]
    rw [rJoinT_eq _ (by simp [Sh]) (by simp only [List.flatMap_cons, List.flatMap_nil, List.length_append, List.length_nil, List.length_cons, numB_len, countB_len, id]; unfold Big; omega)]
    simp only [Option.bind_some, List.flatMap_cons, List.flatMap_nil, List.append_nil, id]
    refine put_loop bat z4 batch1B _ (fun i d => (d, (i : Int), ())) (by simp only [List.length_append, List.length_cons, List.length_nil, numB_len, countB_len]; rw [countB_len] at hbl2; unfold Big; omega) (fun i v d hi hv hd => ?_) ?_
    · have hi' : i < 9223372036854775807 := by unfold Sh at z4; omega
      have hm := List.mem_of_getElem? hv
      obtain ⟨g1, g2⟩ := batch_items hb v hm
      have g3 := itemsN_len v.2.1
      rw [batch1B_eq, ← g1] at hd ⊢
      simp only [List.length_append, numB_len] at hd
      have hb1 : F59 v.2 = some (itemsN v.2.1, ()) := rItemsBytes_eq v.2.1 (z4' v hm) (zb v hm).2 (by omega)
      simp only [lt_len, hi, decide_true, cond_true, idx_nat, hv, Option.bind_some, hb1, nn [v.1] (by simp)]
      rw [rJoinT_eq _ (by simp [Sh]) (by simp only [List.flatMap_cons, List.flatMap_nil, List.length_append, List.length_nil, numB_len, id]; omega)]
      simp only [Option.bind_some, List.flatMap_cons, List.flatMap_nil, List.append_nil, id, wrap64_nat hi']
    · simp only [lt_len, Nat.lt_irrefl, decide_false, cond_false, batchesB, listB, List.append_assoc]
      rfl
  · have hi := itemsN_eq fun x hx => may_item (hK.2.2.2.2 x hx)
    have hl := itemsN_len its
    have hm := hK.2.2.2.1
    simp only [refFlagG, Option.bind_some, rItemsBytes_eq its z5 zi.2 (by unfold Big; omega)]
    rw [hi] at hl ⊢
    rw [rJoinT_eq _ (by simp [Sh]) (by simp only [List.flatMap_cons, List.flatMap_nil, List.length_append, List.length_nil, List.length_cons, numB_len, textB_len, flagB_len, id]; unfold Big; omega)]
    simp only [Option.bind_some, List.flatMap_cons, List.flatMap_nil, List.append_nil, id, List.append_assoc]
    rfl
  · unfold hand11B
    simp only [rNone_eq hand z6, Option.bind_some]
    by_cases c : hand = NoHand
    · rw [dec_true c]
      simp only [cond_true]
      rw [rJoinT_eq _ (by simp [Sh]) (by simp only [List.flatMap_cons, List.flatMap_nil, List.length_append, List.length_nil, List.length_cons, numB_len, textB_len, flagB_len, id]; unfold Big; omega)]
      simp only [Option.bind_some, List.flatMap_cons, List.flatMap_nil, List.append_nil, id, List.append_assoc]
      rfl
    · rw [dec_false c]
      have hn := normH_id (hK.2.2.2.resolve_left c)
      have hl := normH_len hand hh
      simp only [cond_false]
      refine bind_of (handBytes_eq hand fh hh) ?_
      rw [hn] at hl ⊢
      rw [rJoinT_eq _ (by simp [Sh]) (by simp only [List.flatMap_cons, List.flatMap_nil, List.length_append, List.length_nil, List.length_cons, numB_len, textB_len, flagB_len, id]; unfold Big; omega)]
      simp only [Option.bind_some, List.flatMap_cons, List.flatMap_nil, List.append_nil, id, List.append_assoc]
      rfl
  · have hn := normM_id hK.2.2
    have hl := normM_len mov
    refine bind_of (moveBytes_eq mov zm) ?_
    rw [hn] at hl ⊢
    rw [rJoinT_eq _ (by simp [Sh]) (by simp only [List.flatMap_cons, List.flatMap_nil, List.length_append, List.length_nil, List.length_cons, numB_len, textB_len, flagB_len, id]; unfold Big; omega)]
    simp only [Option.bind_some, List.flatMap_cons, List.flatMap_nil, List.append_nil, id, List.append_assoc]
    rfl
end Go.Proofs.YteebpcpkhojfkaaGreat
