/-
  Plain laws of what lies below, as this seat reaches them (by a program of the bench: port.py).
-/
import Derived.Test.YteebpcpkhojfkaaGreatCmdLawK
import Derived.Test.YteebpcpkhojfkaaGreatSxR
namespace Go.Proofs.YteebpcpkhojfkaaGreat
open Go.Sx Go Classical
set_option maxRecDepth 10000
theorem cmdB_eq (k : Int) (a2 a3 a4 : List UInt8) (a5 a6 a7 : Int) (a8 : List T96D) (a9 a10 : List T48D) (a11 a12 a13 : Int) (a14 : Bool) (a15 : List T70D) (a16 : List T94D) (a17 : List T113D) :
    cmdB (k, a2, a3, a4, a5, a6, a7, a8, a9, a10, a11, a12, a13, a14, a15, a16, a17, ()) = kindB k ++ textB a2 ++ textB a3 ++ textB a4 ++ numB a5 ++ numB a6 ++ numB a7 ++ cmpsB a8 ++ opsB a9 ++ opsB a10 ++ numB a11 ++ numB a12 ++ numB a13 ++ flagB a14 ++ itemsB a15 ++ sessB a16 ++ leasesB a17 := by
  simp only [cmdB, consB, unitB, List.append_nil, List.append_assoc]
def Plain (c : T28D) : Prop := (∀ x ∈ c.2.2.2.2.2.2.2.2.2.2.2.2.2.2.1, MayItem x) ∧ ∀ s ∈ c.2.2.2.2.2.2.2.2.2.2.2.2.2.2.2.1, ReplyOk s.2.2.1
theorem putCmd_eq (b : List UInt8) (c : T28D) (hc : ShC c) (hp : Plain c) (h : b.length + (cmdB c).length ≤ Big) : F95 ((b, ()), c, ()) = some ((b ++ cmdB c, ()), ()) := by
  obtain ⟨h8, h9, h10, h15, h16, h17⟩ := hc
  obtain ⟨p15, p16⟩ := hp
  obtain ⟨k, a2, a3, a4, a5, a6, a7, a8, a9, a10, a11, a12, a13, a14, a15, a16, a17, ⟨⟩⟩ := c
  have e15 : itemsN a15 = itemsB a15 := itemsN_eq p15
  have e16 : sessN a16 = sessB a16 := sessN_eq p16
  rw [cmdB_eq, ← e15, ← e16] at h ⊢
  simp only [List.length_append, kindB_len, textB_len, numB_len, flagB_len] at h
  unfold F95
  rw [outKindG b k (by rw [kindB_len]; omega)]
  simp only [Option.bind_some]
  generalize hb0 : b ++ kindB k = b0
  have l0 : b0.length = b.length + 1 := by rw [← hb0, List.length_append, kindB_len]
  refine put_loop [a2, a3, a4] (by simp [Sh]) textB b0 (fun i d => ((i : Int), (d, ()))) (by simp only [List.flatMap_cons, List.flatMap_nil, List.length_append, textB_len, List.length_nil]; omega) (fun i v d hi hv hd => ?_) ?_
  · have hi' : i < 9223372036854775807 := by simp at hi; omega
    simp only [lt_len, hi, decide_true, cond_true, idxN_nat hi, hv, Option.bind_some, outTextG d v hd, wrap64_nat hi']
  simp only [lt_len, Nat.lt_irrefl, decide_false, cond_false]
  generalize hb1 : b0 ++ List.flatMap textB [a2, a3, a4] = b1
  have l1 : b1.length = b0.length + 12 + a2.length + a3.length + a4.length := by
    rw [← hb1]; simp only [List.flatMap_cons, List.flatMap_nil, List.length_append, textB_len, List.length_nil]; omega
  refine (congrArg (Option.map Sum.inr) (?_ : _ = some ((b ++ (kindB k ++ textB a2 ++ textB a3 ++ textB a4 ++ numB a5 ++ numB a6 ++ numB a7 ++ cmpsB a8 ++ opsB a9 ++ opsB a10 ++ numB a11 ++ numB a12 ++ numB a13 ++ flagB a14 ++ itemsN a15 ++ sessN a16 ++ leasesB a17), ()), ()))).trans rfl
  refine put_loop [a5, a6, a7] (by simp [Sh]) numB b1 (fun i d => ((i : Int), (d, ()))) (by simp only [List.flatMap_cons, List.flatMap_nil, List.length_append, numB_len, List.length_nil]; omega) (fun i v d hi hv hd => ?_) ?_
  · have hi' : i < 9223372036854775807 := by simp at hi; omega
    simp only [lt_len, hi, decide_true, cond_true, idxN_nat hi, hv, Option.bind_some, outNumG d v hd, wrap64_nat hi']
  simp only [lt_len, Nat.lt_irrefl, decide_false, cond_false]
  generalize hb2 : b1 ++ List.flatMap numB [a5, a6, a7] = b2
  have l2 : b2.length = b1.length + 24 := by
    rw [← hb2]; simp only [List.flatMap_cons, List.flatMap_nil, List.length_append, numB_len, List.length_nil]
  refine (congrArg (Option.map Sum.inr) (?_ : _ = some ((b ++ (kindB k ++ textB a2 ++ textB a3 ++ textB a4 ++ numB a5 ++ numB a6 ++ numB a7 ++ cmpsB a8 ++ opsB a9 ++ opsB a10 ++ numB a11 ++ numB a12 ++ numB a13 ++ flagB a14 ++ itemsN a15 ++ sessN a16 ++ leasesB a17), ()), ()))).trans rfl
  rw [putCmps_eq b2 a8 h8 (by omega)]
  simp only [Option.bind_some]
  rw [putOps_eq _ a9 h9 (by rw [List.length_append]; omega)]
  simp only [Option.bind_some]
  rw [putOps_eq _ a10 h10 (by rw [List.length_append, List.length_append]; omega)]
  simp only [Option.bind_some]
  generalize hb3 : b2 ++ cmpsB a8 ++ opsB a9 ++ opsB a10 = b3
  have l3 : b3.length = b2.length + (cmpsB a8).length + (opsB a9).length + (opsB a10).length := by
    rw [← hb3]; simp only [List.length_append]
  refine put_loop [a11, a12, a13] (by simp [Sh]) numB b3 (fun i d => ((i : Int), (d, ()))) (by simp only [List.flatMap_cons, List.flatMap_nil, List.length_append, numB_len, List.length_nil]; omega) (fun i v d hi hv hd => ?_) ?_
  · have hi' : i < 9223372036854775807 := by simp at hi; omega
    simp only [lt_len, hi, decide_true, cond_true, idxN_nat hi, hv, Option.bind_some, outNumG d v hd, wrap64_nat hi']
  simp only [lt_len, Nat.lt_irrefl, decide_false, cond_false]
  generalize hb4 : b3 ++ List.flatMap numB [a11, a12, a13] = b4
  have l4 : b4.length = b3.length + 24 := by
    rw [← hb4]; simp only [List.flatMap_cons, List.flatMap_nil, List.length_append, numB_len, List.length_nil]
  refine (congrArg (Option.map Sum.inr) (?_ : _ = some ((b ++ (kindB k ++ textB a2 ++ textB a3 ++ textB a4 ++ numB a5 ++ numB a6 ++ numB a7 ++ cmpsB a8 ++ opsB a9 ++ opsB a10 ++ numB a11 ++ numB a12 ++ numB a13 ++ flagB a14 ++ itemsN a15 ++ sessN a16 ++ leasesB a17), ()), ()))).trans rfl
  rw [outFlagG b4 a14 (by rw [flagB_len]; omega)]
  simp only [Option.bind_some]
  rw [putItems_eq _ a15 h15 (by rw [List.length_append, flagB_len]; omega)]
  simp only [Option.bind_some]
  rw [putHanded_eq _ a16 a17 h16 h17 (by rw [List.length_append, List.length_append, flagB_len]; omega)]
  simp only [Option.bind_some]
  rw [← hb4, ← hb3, ← hb2, ← hb1, ← hb0]
  simp only [List.append_assoc, List.flatMap_cons, List.flatMap_nil, List.append_nil]
theorem jobB_eq (n m : Int) (c : T28D) : jobB (n, m, c, ()) = numB n ++ numB m ++ cmdB c := by
  simp only [jobB, consB, unitB, List.append_nil, List.append_assoc]
theorem bytes_eq (j : T33D) (hz : SzCmd j.2.2.1) (hv : St j.2.2.1.2.2.2.1) (hcv : ∀ x ∈ j.2.2.1.2.2.2.2.2.2.2.1, St x.2.2.2.2.1) (hp : Plain j.2.2.1) (h : (jobB j).length ≤ Big) : F46 (j, ()) = some (jobB j, ()) := by
  obtain ⟨n, m, c, ⟨⟩⟩ := j
  obtain ⟨⟨h8, h9, h10, h15, h16, h17⟩, -, t2, t3, hcm, o9, o10, z15, z16⟩ := hz
  obtain ⟨p15, p16⟩ := hp
  obtain ⟨k, a2, a3, a4, a5, a6, a7, a8, a9, a10, a11, a12, a13, a14, a15, a16, a17, ⟨⟩⟩ := c
  simp only at t2 t3 hcm o9 o10 z15 z16 h8 h9 h10 h15 h16 h17 p15 p16 hv hcv
  have e15 : itemsN a15 = itemsB a15 := itemsN_eq p15
  have e16 : sessN a16 = sessB a16 := sessN_eq p16
  rw [jobB_eq, cmdB_eq, ← e15, ← e16] at h ⊢
  simp only [List.length_append, kindB_len, textB_len, numB_len, flagB_len] at h
  have hcl : (cmpsB a8).length = (countB a8.length).length + (a8.flatMap cmp1B).length := by unfold cmpsB listB; rw [List.length_append]
  unfold F46
  have hj0 := join_eq [[n, m].flatMap numB, [Sx.byteOf (IntKind.wrap IntKind.u8 k)], textB a2, textB a3, textB a4, [a5, a6, a7].flatMap numB, countB a8.length] (by simp [Sh]) (by simp only [List.flatMap_cons, List.flatMap_nil, List.length_append, numB_len, textB_len, List.length_nil, List.length_cons, id]; omega)
  simp only [nums_eq [n, m] (by simp), nums_eq [a5, a6, a7] (by simp), refTextB_eq a2 t2, refTextB_eq a3 t3, refTextB_eq a4 hv, refCountG, hj0, Option.bind_some]
  generalize hb0 : List.flatMap id [[n, m].flatMap numB, [Sx.byteOf (IntKind.wrap IntKind.u8 k)], textB a2, textB a3, textB a4, [a5, a6, a7].flatMap numB, countB a8.length] = b0
  have l0 : b0.length = 41 + 12 + a2.length + a3.length + a4.length + (countB a8.length).length := by
    rw [← hb0]; simp only [List.flatMap_cons, List.flatMap_nil, List.length_append, numB_len, textB_len, List.length_nil, List.length_cons, id]; omega
  refine put_loop a8 h8 cmp1B b0 (fun i d => (d, (i : Int), ())) (by omega) (fun i v d hi hv hd => ?_) ?_
  · have hi' : i < 9223372036854775807 := by unfold Sh at h8; omega
    have s1 := hcm v (List.mem_of_getElem? hv)
    have s5 := hcv v (List.mem_of_getElem? hv)
    obtain ⟨v1, v2, v3, v4, v5, ⟨⟩⟩ := v
    rw [cmp1B_eq] at hd ⊢
    simp only [List.length_append, numB_len, textB_len, kindB_len] at hd
    have hj := join_eq [d, textB v1, [Sx.byteOf (IntKind.wrap IntKind.u8 v2), Sx.byteOf (IntKind.wrap IntKind.u8 v3)], [v4].flatMap numB, textB v5] (by simp [Sh]) (by simp only [List.flatMap_cons, List.flatMap_nil, List.length_append, numB_len, textB_len, List.length_nil, List.length_cons, id]; omega)
    have ht5 : F56 (v5, ()) = _ := refTextB_eq v5 s5
    simp only [lt_len, hi, decide_true, cond_true, idx_nat, hv, Option.bind_some, nums_eq [v4] (by simp), refTextB_eq v1 s1, ht5, hj, wrap64_nat hi']
    simp only [List.append_assoc, List.flatMap_cons, List.flatMap_nil, List.append_nil, id, kindB, byteB, List.cons_append, List.nil_append]
  · simp only [lt_len, Nat.lt_irrefl, decide_false, cond_false]
    generalize hb1 : b0 ++ List.flatMap cmp1B a8 = b1
    have l1 : b1.length = b0.length + (List.flatMap cmp1B a8).length := by rw [← hb1, List.length_append]
    refine (congrArg (Option.map Sum.inr) (?_ : _ = some (numB n ++ numB m ++ (kindB k ++ textB a2 ++ textB a3 ++ textB a4 ++ numB a5 ++ numB a6 ++ numB a7 ++ cmpsB a8 ++ opsB a9 ++ opsB a10 ++ numB a11 ++ numB a12 ++ numB a13 ++ flagB a14 ++ itemsN a15 ++ sessN a16 ++ leasesB a17), ()))).trans rfl
    have hj := join_eq [b1, opsB a9, opsB a10, [a11, a12, a13].flatMap numB, flagB a14, itemsN a15, sessN a16 ++ leasesB a17] (by simp [Sh]) (by simp only [List.flatMap_cons, List.flatMap_nil, List.length_append, numB_len, flagB_len, List.length_nil, id]; omega)
    simp only [opsBytes_eq a9 h9 o9 (by omega), opsBytes_eq a10 h10 o10 (by omega), nums_eq [a11, a12, a13] (by simp), refFlagG, itemsBytes_eq a15 h15 z15.2 (by omega), handedBytes_eq a16 a17 z16 h17 (by omega), hj, Option.bind_some]
    rw [← hb1, ← hb0]
    have e8 : cmpsB a8 = countB a8.length ++ a8.flatMap cmp1B := rfl
    rw [e8]
    simp only [List.append_assoc, List.flatMap_cons, List.flatMap_nil, List.append_nil, id, kindB, byteB, List.cons_append, List.nil_append]
end Go.Proofs.YteebpcpkhojfkaaGreat
