/-
  Plain laws of what lies below, as this seat reaches them (by a program of the bench: port.py).
-/
import Derived.Test.YteebpcpkhojfkaaGreatCmdLawI
import Derived.Test.YteebpcpkhojfkaaGreatSxR
namespace Go.Proofs.YteebpcpkhojfkaaGreat
open Go.Sx Go Classical
set_option maxRecDepth 10000
noncomputable def normR (r : T51D) : T51D := bif dec' (ReplyOk r) then r else NoReply
theorem normR_id {r : T51D} (h : ReplyOk r) : normR r = r := by unfold normR; rw [dec_true h]; rfl
theorem may_item {x : T70D} (h : ItemOk x) : MayItem x := ⟨.inr h.1, .inr h.2⟩
theorem normR_items (r : T51D) : (∀ x ∈ (normR r).2.2.2.2.1, MayItem x) ∧ (normR r).2.2.2.2.1.length ≤ 8 := by
  unfold normR
  by_cases h : ReplyOk r
  · rw [dec_true h]
    obtain ⟨-, -, -, -, -, -, -, h1, h2⟩ := h
    exact ⟨fun x hx => may_item (h2 x hx), h1⟩
  · rw [dec_false h]
    exact ⟨fun x hx => by simp [NoReply] at hx, by simp [NoReply]⟩
theorem replyB_eq (a1 a2 : Int) (a3 : Bool) (a4 : Int) (a5 : List T70D) (a6 a7 : Int) : replyB (a1, a2, a3, a4, a5, a6, a7, ()) = kindB a1 ++ numB a2 ++ flagB a3 ++ numB a4 ++ itemsB a5 ++ kindB a6 ++ numB a7 := by
  simp only [replyB, consB, unitB, List.append_nil, List.append_assoc]
theorem replyB_len (r : T51D) : (replyB r).length = 27 + (itemsB r.2.2.2.2.1).length := by
  obtain ⟨a1, a2, a3, a4, a5, a6, a7, ⟨⟩⟩ := r
  rw [replyB_eq]
  simp only [List.length_append, kindB_len, numB_len, flagB_len]; omega
theorem normR_len (r : T51D) : (replyB (normR r)).length ≤ 2000 := by
  obtain ⟨h1, h2⟩ := normR_items r
  have h3 := itemsN_len (normR r).2.2.2.2.1
  rw [itemsN_eq h1] at h3
  rw [replyB_len]
  omega
theorem putReply_eq (b : List UInt8) (r : T51D) (hr : Sh r.2.2.2.2.1) (h : b.length + (replyB (normR r)).length ≤ Big) : F98 ((b, ()), r, ()) = some ((b ++ replyB (normR r), ()), ()) := by
  unfold F98
  have e : (Option.bind (F154 (r, ())) fun b => bif !b.fst then some (Sum.inl (0, 0, false, 0, [], 0, 0, ())) else some (Sum.inl r) : Option (T51D ⊕ (T83D × Unit))) = some (Sum.inl (normR r)) := by
    rw [reply_eq r hr]
    unfold normR
    cases dec' (ReplyOk r) <;> rfl
  have hn := normR_items r
  simp only [e, Option.bind_some, Sum.elim_inl]
  rw [replyB_len] at h
  generalize normR r = w at *
  obtain ⟨a1, a2, a3, a4, a5, a6, a7, ⟨⟩⟩ := w
  have hi : itemsN a5 = itemsB a5 := itemsN_eq hn.1
  have hn2 : a5.length ≤ 8 := hn.2
  simp only at h
  rw [← hi] at h
  simp (disch := (simp only [List.length_append, numB_len, flagB_len, kindB_len]; omega)) only [outKindG, outNumG, outFlagG, putItems_eq _ a5 (show Sh a5 by unfold Sh; omega), Option.bind_some]
  rw [hi, replyB_eq]
  simp only [List.append_assoc]
theorem replyBytes_eq (r : T51D) (hr : SzReply r) : F57 (r, ()) = some (replyB (normR r), ()) := by
  unfold F57
  have e : (Option.bind (F40 (r, ())) fun b => bif !b.fst then some (Sum.inl (0, 0, false, 0, [], 0, 0, ())) else some (Sum.inl r) : Option (T51D ⊕ T83D)) = some (Sum.inl (normR r)) := by
    rw [rReply_eq r hr]
    unfold normR
    cases dec' (ReplyOk r) <;> rfl
  have hn := normR_items r
  have hs : ∀ x ∈ (normR r).2.2.2.2.1, St x.1 := by
    unfold normR
    by_cases h : ReplyOk r
    · rw [dec_true h]; exact hr.2
    · rw [dec_false h]; exact fun x hx => by simp [NoReply] at hx
  have h := normR_len r
  rw [replyB_len] at h
  simp only [e, Option.bind_some, Sum.elim_inl]
  generalize normR r = w at *
  obtain ⟨a1, a2, a3, a4, a5, a6, a7, ⟨⟩⟩ := w
  have hi : itemsN a5 = itemsB a5 := itemsN_eq hn.1
  have hn2 : a5.length ≤ 8 := hn.2
  simp only at h
  rw [← hi] at h
  simp only [nums_eq [a2] (by simp), nums_eq [a4] (by simp), nums_eq [a7] (by simp), refFlagG, itemsBytes_eq a5 (show Sh a5 by unfold Sh; omega) hs (by unfold Big; omega), Option.bind_some]
  rw [join_eq _ (by simp [Sh]) (by simp only [List.flatMap_cons, List.flatMap_nil, List.length_append, numB_len, flagB_len, List.length_nil, List.length_cons, id]; unfold Big; omega)]
  rw [hi, replyB_eq]
  simp only [Option.bind_some, List.flatMap_cons, List.flatMap_nil, List.append_nil, id, List.append_assoc, kindB, byteB]
noncomputable abbrev sess1N (s : T94D) : List UInt8 := numB s.1 ++ numB s.2.1 ++ replyB (normR s.2.2.1)
noncomputable def sessN (l : List T94D) : List UInt8 := countB l.length ++ l.flatMap sess1N
abbrev lease1B (l : T113D) : List UInt8 := numB l.1 ++ numB l.2.1 ++ numB l.2.2.1
theorem leasesB_eq (l : List T113D) : leasesB l = countB l.length ++ l.flatMap lease1B := by
  unfold leasesB listB
  congr 1
theorem sessN_len (l : List T94D) : (sessN l).length ≤ 4 + l.length * 2016 := by
  unfold sessN
  have := flat_most (l := l) (e := sess1N) (n := 2016) (fun s _ => by
    have := normR_len s.2.2.1
    unfold sess1N
    simp only [List.length_append, numB_len]; omega)
  rw [List.length_append, countB_len]
  omega
theorem leasesB_len (l : List T113D) : (leasesB l).length ≤ 4 + l.length * 24 := by
  rw [leasesB_eq, List.length_append, countB_len]
  have := flat_most (l := l) (e := lease1B) (n := 24) (fun s _ => by
    unfold lease1B
    simp only [List.length_append, numB_len]; omega)
  omega
theorem sessN_eq {l : List T94D} (h : ∀ s ∈ l, ReplyOk s.2.2.1) : sessN l = sessB l := by
  unfold sessN sessB listB
  congr 1
  exact flat_congr fun x hx => by simp only [sess1N, consB, unitB, List.append_nil, List.append_assoc, normR_id (h x hx)]
theorem putHanded_eq (b : List UInt8) (s : List T94D) (l : List T113D) (hs : ShS s) (hl : Sh l) (h : b.length + (sessN s).length + (leasesB l).length ≤ Big) : F181 ((b, ()), s, l, ()) = some ((b ++ sessN s ++ leasesB l, ()), ()) := by
  rw [leasesB_eq] at h ⊢
  unfold sessN at *
  rw [List.length_append, List.length_append] at h
  unfold F181
  simp only [outCountG b s.length (by omega), Option.bind_some]
  refine put_loop s hs.1 sess1N (b ++ countB s.length) (fun i d => ((i : Int), (d, ()))) (by rw [List.length_append]; omega) (fun i v d hi hv hd => ?_) ?_
  · have hi' : i < 9223372036854775807 := by have := hs.1; unfold Sh at this; omega
    have hr := hs.2 v (List.mem_of_getElem? hv)
    obtain ⟨v1, v2, v3, ⟨⟩⟩ := v
    simp only [sess1N, List.length_append, numB_len] at hd
    have hp := putReply_eq (d ++ numB v1 ++ numB v2) v3 hr (by simp only [List.length_append, numB_len]; omega)
    simp (disch := (simp only [List.length_append, numB_len]; omega)) only [lt_len, hi, decide_true, cond_true, idx_nat, hv, Option.bind_some, outNumG, hp, wrap64_nat hi']
    simp only [sess1N, List.append_assoc]
  · simp only [lt_len, Nat.lt_irrefl, decide_false, cond_false]
    generalize hd : b ++ countB s.length ++ List.flatMap sess1N s = d
    have hdl : d.length = b.length + (countB s.length).length + (List.flatMap sess1N s).length := by rw [← hd, List.length_append, List.length_append]
    refine (congrArg (Option.map Sum.inr) (?_ : _ = some ((d ++ (countB l.length ++ l.flatMap lease1B), ()), ()))).trans ?_
    · simp only [outCountG d l.length (by omega), Option.bind_some]
      refine put_loop l hl lease1B (d ++ countB l.length) (fun i d => ((i : Int), (d, ()))) (by rw [List.length_append]; omega) (fun i v d hi hv hd => ?_) ?_
      · have hi' : i < 9223372036854775807 := by unfold Sh at hl; omega
        obtain ⟨v1, v2, v3, ⟨⟩⟩ := v
        simp only [lease1B, List.length_append, numB_len] at hd
        simp (disch := (simp only [List.length_append, numB_len]; omega)) only [lt_len, hi, decide_true, cond_true, idx_nat, hv, Option.bind_some, outNumG, wrap64_nat hi']
        simp only [lease1B, List.append_assoc]
      · simp only [lt_len, Nat.lt_irrefl, decide_false, cond_false, List.append_assoc]
    · rw [← hd]; simp only [Option.map_some, List.append_assoc]
theorem handedBytes_eq (s : List T94D) (l : List T113D) (hs : SzSess s) (hl : Sh l) (h : (sessN s).length + (leasesB l).length ≤ Big) : F119 (s, l, ()) = some (sessN s ++ leasesB l, ()) := by
  rw [leasesB_eq] at h ⊢
  unfold sessN at *
  rw [List.length_append, List.length_append] at h
  unfold F119
  simp only [refCountG, Option.bind_some]
  refine put_loop s hs.1 sess1N (countB s.length) (fun i d => (d, (i : Int), ())) (by omega) (fun i v d hi hv hd => ?_) ?_
  · have hi' : i < 9223372036854775807 := by have := hs.1; unfold Sh at this; omega
    have hr := hs.2 v (List.mem_of_getElem? hv)
    obtain ⟨v1, v2, v3, ⟨⟩⟩ := v
    have hp := replyBytes_eq v3 hr
    simp only [sess1N, List.length_append, numB_len] at hd
    have hj := join_eq [d, [v1, v2].flatMap numB, replyB (normR v3)] (by simp [Sh]) (by simp only [List.flatMap_cons, List.flatMap_nil, List.length_append, numB_len, List.length_nil, id]; omega)
    simp only [lt_len, hi, decide_true, cond_true, idx_nat, hv, Option.bind_some, nums_eq [v1, v2] (by simp), hp, hj, wrap64_nat hi']
    simp only [sess1N, List.append_assoc, List.flatMap_cons, List.flatMap_nil, List.append_nil, id]
  · simp only [lt_len, Nat.lt_irrefl, decide_false, cond_false]
    generalize hd : countB s.length ++ List.flatMap sess1N s = d
    have hdl : d.length = (countB s.length).length + (List.flatMap sess1N s).length := by rw [← hd, List.length_append]
    refine (congrArg (Option.map Sum.inr) (?_ : _ = some (d ++ (countB l.length ++ l.flatMap lease1B), ()))).trans rfl
    have hj := join_eq [d, countB l.length] (by simp [Sh]) (by simp only [List.flatMap_cons, List.flatMap_nil, List.length_append, List.length_nil, id]; omega)
    simp only [hj, Option.bind_some]
    refine put_loop l hl lease1B ([d, countB l.length].flatMap id) (fun i d => (d, (i : Int), ())) (by simp only [List.flatMap_cons, List.flatMap_nil, List.length_append, List.length_nil, id]; omega) (fun i v d hi hv hd => ?_) ?_
    · have hi' : i < 9223372036854775807 := by unfold Sh at hl; omega
      obtain ⟨v1, v2, v3, ⟨⟩⟩ := v
      simp only [lease1B, List.length_append, numB_len] at hd
      have hj := join_eq [d, [v1, v2, v3].flatMap numB] (by simp [Sh]) (by simp only [List.flatMap_cons, List.flatMap_nil, List.length_append, numB_len, List.length_nil, id]; omega)
      simp only [lt_len, hi, decide_true, cond_true, idx_nat, hv, Option.bind_some, nums_eq [v1, v2, v3] (by simp), hj, wrap64_nat hi']
      simp only [lease1B, List.append_assoc, List.flatMap_cons, List.flatMap_nil, List.append_nil, id]
    · simp only [lt_len, Nat.lt_irrefl, decide_false, cond_false, List.flatMap_cons, List.flatMap_nil, List.append_nil, id, List.append_assoc]
end Go.Proofs.YteebpcpkhojfkaaGreat
