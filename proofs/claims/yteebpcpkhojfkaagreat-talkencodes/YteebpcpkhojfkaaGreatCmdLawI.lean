/-
  Plain laws of what lies below, as this seat reaches them (by a program of the bench: port.py).
-/
import Derived.Test.YteebpcpkhojfkaaGreatCmdLawH
import Derived.Test.YteebpcpkhojfkaaGreatSxR
namespace Go.Proofs.YteebpcpkhojfkaaGreat
open Go.Sx Go Classical
set_option maxRecDepth 10000
theorem outTextG (b s : List UInt8) (h : b.length + (textB s).length ≤ Big) : F97 ((b, ()), s, ()) = some ((b ++ textB s, ()), ()) := outText_eq b s (by rw [textB_len] at h; unfold Big at h; omega)
theorem join_eq (l : List (List UInt8)) (hl : Sh l) (h : (l.flatMap id).length ≤ Big) : F116 (l, ()) = some (l.flatMap id, ()) := by
  unfold F116
  refine put_loop l hl id [] (fun i d => (d, (i : Int), ())) (by simpa using h) (fun i v d hi hv hd => ?_) ?_
  · have hi' : i < 9223372036854775807 := by unfold Sh at hl; omega
    simp only [lt_len, hi, decide_true, cond_true, idx_nat, hv, Option.bind_some, appU_eq (show d.length + v.length ≤ 140737488355000 from hd), wrap64_nat hi', id]
  · simp only [lt_len, Nat.lt_irrefl, decide_false, cond_false, List.nil_append]
theorem nums_eq (l : List Int) (hl : l.length ≤ 1000) : F55 (l, ()) = some (l.flatMap numB, ()) := by
  have hm := flat_most (l := l) (e := numB) (n := 8) (fun v _ => by rw [numB_len]; omega)
  unfold F55
  refine put_loop l (by unfold Sh; omega) numB [] (fun i d => (d, (i : Int), ())) (by simp only [List.length_nil]; unfold Big; omega) (fun i v d hi hv hd => ?_) ?_
  · have hn : F135 (v, ()) = some (numB v, ()) := refNumB_eq v
    simp only [lt_len, hi, decide_true, cond_true, idx_nat, hv, Option.bind_some, hn, appU_eq (show d.length + (numB v).length ≤ 140737488355000 from hd), wrap64_nat (show i < 9223372036854775807 by omega)]
  · simp only [lt_len, Nat.lt_irrefl, decide_false, cond_false, List.nil_append]
noncomputable def normV (v : VerD) : VerD := bif dec' (VerOk v) then v else NoV
theorem normV_may (v : VerD) : (bif dec' (MayVer v) then v else NoV) = normV v := by
  unfold normV
  by_cases h : VerOk v
  · rw [dec_true h, dec_true (p := MayVer v) (.inr h)]
  · by_cases h2 : v = NoV
    · rw [dec_false h, dec_true (p := MayVer v) (.inl h2), h2]; rfl
    · rw [dec_false h, dec_false (p := MayVer v) (fun h3 => h3.elim h2 h)]
theorem normV_id {v : VerD} (h : MayVer v) : normV v = v := by rw [← normV_may, dec_true h]; rfl
theorem verOk_len {v : VerD} (h : VerOk v) : v.2.2.2.2.1.length ≤ 40 := by
  obtain ⟨a1, a2, a3, a4, a5, a6, a7, ⟨⟩⟩ := v
  unfold VerOk at h
  simp only at h ⊢
  grind
theorem verB_len (v : VerD) : (verB v).length = 45 + v.2.2.2.2.1.length := by
  simp only [verB, consB, List.length_append, numB_len, textB_len, flagB_len, unitB, List.length_nil]; omega
theorem normV_len (v : VerD) : (verB (normV v)).length ≤ 100 := by
  rw [verB_len]
  unfold normV
  by_cases h : VerOk v
  · rw [dec_true h]
    have := verOk_len h
    simp only [cond_true]; omega
  · rw [dec_false h]
    simp [NoV]
theorem putVer_eq (b : List UInt8) (v : VerD) (h : b.length + (verB (normV v)).length ≤ Big) : F220 ((b, ()), v, ()) = some ((b ++ verB (normV v), ()), ()) := by
  unfold F220
  have e : (Option.bind (F235 (v, ())) fun b => bif !b.fst then some (Sum.inl (0, 0, 0, 0, [], 0, false, ())) else some (Sum.inl v) : Option (VerD ⊕ (T83D × Unit))) = some (Sum.inl (normV v)) := by
    rw [← normV_may, mayVer_eq]
    cases dec' (MayVer v) <;> rfl
  simp only [e, Option.bind_some, Sum.elim_inl]
  generalize normV v = w at *
  rw [verB_len] at h
  refine put_loop [w.1, w.2.1, w.2.2.1, w.2.2.2.1] (by simp [Sh]) numB b (fun i d => ((i : Int), (d, ()))) (by simp only [List.flatMap_cons, List.flatMap_nil, List.length_append, numB_len, List.length_nil]; omega) (fun i v d hi hv hd => ?_) ?_
  · have hi' : i < 9223372036854775807 := by simp at hi; omega
    simp only [lt_len, hi, decide_true, cond_true, idxN_nat hi, hv, Option.bind_some, outNumG d v hd, wrap64_nat hi']
  · simp only [lt_len, Nat.lt_irrefl, decide_false, cond_false]
    generalize hd : b ++ List.flatMap numB [w.1, w.2.1, w.2.2.1, w.2.2.2.1] = d
    have hl : d.length = b.length + 32 := by rw [← hd]; simp only [List.flatMap_cons, List.flatMap_nil, List.length_append, numB_len, List.length_nil]
    rw [outTextG d _ (by rw [textB_len]; omega)]
    simp only [Option.bind_some]
    rw [outNumG _ _ (by rw [List.length_append, textB_len, numB_len]; omega)]
    simp only [Option.bind_some]
    have hf : F90 ((d ++ textB w.2.2.2.2.1 ++ numB w.2.2.2.2.2.1, ()), w.2.2.2.2.2.2) = _ := outFlagG (d ++ textB w.2.2.2.2.1 ++ numB w.2.2.2.2.2.1) w.2.2.2.2.2.2.1 (by rw [List.length_append, List.length_append, textB_len, numB_len, flagB_len]; omega)
    rw [hf, ← hd]
    simp only [Option.bind_some, Option.map_some, verB, consB, unitB, List.flatMap_cons, List.flatMap_nil, List.append_assoc, List.append_nil]
theorem verBytes_eq (v : VerD) : F197 (v, ()) = some (verB (normV v), ()) := by
  unfold F197
  have e : (Option.bind (F112 (v, ())) fun b => bif !b.fst then some (Sum.inl (0, 0, 0, 0, [], 0, false, ())) else some (Sum.inl v) : Option (VerD ⊕ T83D)) = some (Sum.inl (normV v)) := by
    rw [rVer_eq]
    unfold normV
    by_cases h : VerOk v
    · rw [decide_eq_true h, dec_true h]; rfl
    · rw [decide_eq_false h, dec_false h]; rfl
  have hl := normV_len v
  rw [verB_len] at hl
  simp only [e, Option.bind_some, Sum.elim_inl]
  generalize normV v = w at *
  have hf : F60 w.2.2.2.2.2.2 = _ := refFlagG w.2.2.2.2.2.2.1
  simp only [nums_eq [w.1, w.2.1, w.2.2.1, w.2.2.2.1] (by simp), nums_eq [w.2.2.2.2.2.1] (by simp), refTextB_eq w.2.2.2.2.1 (by omega), hf, Option.bind_some]
  rw [join_eq _ (by simp [Sh]) (by simp only [List.flatMap_cons, List.flatMap_nil, List.length_append, numB_len, textB_len, flagB_len, List.length_nil, id]; unfold Big; omega)]
  simp only [Option.bind_some, verB, consB, unitB, List.flatMap_cons, List.flatMap_nil, List.append_assoc, List.append_nil, id]
noncomputable def normI (x : T70D) : T70D := bif dec' (MayItem x) then x else NoItem
theorem normI_id {x : T70D} (h : MayItem x) : normI x = x := by unfold normI; rw [dec_true h]; rfl
theorem itemB_eq (x : T70D) : itemB x = textB x.1 ++ verB x.2.1 := by
  simp only [itemB, consB, unitB, List.append_nil]
theorem itemB_len (x : T70D) : (itemB x).length = 49 + x.1.length + x.2.1.2.2.2.2.1.length := by
  rw [itemB_eq, List.length_append, textB_len, verB_len]; omega
theorem normI_vers (x : T70D) : normV (normI x).2.1 = (normI x).2.1 := by
  unfold normI
  by_cases h : MayItem x
  · rw [dec_true h]; exact normV_id h.2
  · rw [dec_false h]; exact normV_id (.inl rfl)
theorem normI_len (x : T70D) : (itemB (normI x)).length ≤ 200 := by
  have h1 := normV_len (normI x).2.1
  rw [normI_vers, verB_len] at h1
  rw [itemB_len]
  have h2 : (normI x).1.length ≤ 32 := by
    unfold normI
    by_cases h : MayItem x
    · rw [dec_true h]
      rcases h.1 with h | h
      · simp only [cond_true, h, List.length_nil]; omega
      · exact h.len
    · rw [dec_false h]; simp [NoItem]
  omega
theorem putItem_eq (b : List UInt8) (x : T70D) (h : b.length + (itemB (normI x)).length ≤ Big) : F182 ((b, ()), x, ()) = some ((b ++ itemB (normI x), ()), ()) := by
  have hv := normI_vers x
  rw [itemB_len] at h
  unfold F182
  have e : ∀ y : T70D, normV y.2.1 = y.2.1 → b.length + (49 + y.1.length + y.2.1.2.2.2.2.1.length) ≤ Big → (Option.bind (F97 ((b, ()), y.1, ())) fun b => Option.bind (F220 (b.fst, y.2.1, ())) fun b => some b) = some ((b ++ itemB y, ()), ()) := by
    intro y hy hl
    rw [outTextG b y.1 (by rw [textB_len]; omega)]
    simp only [Option.bind_some]
    rw [putVer_eq _ y.2.1 (by rw [hy, List.length_append, textB_len, verB_len]; omega), hy, itemB_eq, List.append_assoc]
    rfl
  rw [mayItem_eq]
  unfold normI at *
  by_cases hx : MayItem x
  · rw [dec_true hx] at h hv ⊢
    exact e x hv h
  · rw [dec_false hx] at h hv ⊢
    exact e NoItem hv h
theorem itemBytes_eq (x : T70D) (hx : St x.1) : F139 (x, ()) = some (itemB (normI x), ()) := by
  have hv := normI_vers x
  have hl := normI_len x
  rw [itemB_len] at hl
  unfold F139
  obtain ⟨k, v, ⟨⟩⟩ := x
  have hk : St k := hx
  have hz : (decide (v.fst = 0) && (decide (v.snd.fst = 0) && (decide (v.snd.snd.fst = 0) && (decide (v.snd.snd.snd.fst = 0) && (decide (v.snd.snd.snd.snd.fst = []) && (decide (v.snd.snd.snd.snd.snd.fst = 0) && (v.snd.snd.snd.snd.snd.snd.fst == false && true))))))) = dec' (v = NoV) := by
    by_cases h : v = NoV
    · rw [dec_true h, h]; rfl
    · rw [dec_false h, Bool.eq_false_iff]
      intro h2
      apply h
      obtain ⟨a1, a2, a3, a4, a5, a6, a7, ⟨⟩⟩ := v
      simp only [Bool.and_eq_true, decide_eq_true_eq, beq_iff_eq, and_true] at h2
      simp only [Prod.mk.injEq]; grind
  have hr : F112 (v, ()) = _ := rVer_eq v
  have e : (bif !decide (k = []) then Option.bind (F39 (k, ())) fun b => bif !b.fst then some (Sum.inl ([], (0, 0, 0, 0, [], 0, false, ()), ())) else bif !dec' (v = NoV) then Option.bind (F112 (v, ())) fun b => bif !b.fst then some (Sum.inl ([], (0, 0, 0, 0, [], 0, false, ()), ())) else some (Sum.inl (k, v, ())) else some (Sum.inl (k, v, ())) else bif !dec' (v = NoV) then Option.bind (F112 (v, ())) fun b => bif !b.fst then some (Sum.inl ([], (0, 0, 0, 0, [], 0, false, ()), ())) else some (Sum.inl (k, v, ())) else some (Sum.inl (k, v, ())) : Option (T70D ⊕ T83D)) = some (Sum.inl (normI (k, v, ()))) := by
    simp only [refKey_eq k hk, hr, Option.bind_some]
    unfold normI MayItem MayVer
    by_cases c1 : k = [] <;> by_cases c2 : IsKey k <;> by_cases c3 : v = NoV <;> by_cases c4 : VerOk v <;> simp [c1, c2, c3, c4] <;> grind
  simp only [hz, e, Option.bind_some, Sum.elim_inl]
  generalize normI (k, v, ()) = w at *
  have hw : F197 w.2 = _ := verBytes_eq w.2.1
  simp only [refTextB_eq w.1 (by omega), hw, hv, Option.bind_some]
  rw [join_eq _ (by simp [Sh]) (by simp only [List.flatMap_cons, List.flatMap_nil, List.length_append, textB_len, verB_len, List.length_nil, id]; unfold Big; omega)]
  simp only [Option.bind_some, itemB_eq, List.flatMap_cons, List.flatMap_nil, List.append_nil, id]
noncomputable def itemsN (l : List T70D) : List UInt8 := countB l.length ++ l.flatMap fun x => itemB (normI x)
theorem putItems_eq (b : List UInt8) (l : List T70D) (hl : Sh l) (h : b.length + (itemsN l).length ≤ Big) : F180 ((b, ()), l, ()) = some ((b ++ itemsN l, ()), ()) := by
  unfold itemsN at *
  rw [List.length_append] at h
  unfold F180
  simp only [outCountG b l.length (by omega), Option.bind_some]
  refine put_loop l hl (fun x => itemB (normI x)) (b ++ countB l.length) (fun i d => ((i : Int), (d, ()))) (by rw [List.length_append]; omega) (fun i v d hi hv hd => ?_) ?_
  · have hi' : i < 9223372036854775807 := by unfold Sh at hl; omega
    simp only [lt_len, hi, decide_true, cond_true, idx_nat, hv, Option.bind_some, putItem_eq d v hd, wrap64_nat hi']
  · simp only [lt_len, Nat.lt_irrefl, decide_false, cond_false, List.append_assoc]
theorem itemsBytes_eq (l : List T70D) (hl : Sh l) (hs : ∀ x ∈ l, St x.1) (h : (itemsN l).length ≤ Big) : F118 (l, ()) = some (itemsN l, ()) := by
  unfold itemsN at *
  rw [List.length_append] at h
  unfold F118
  simp only [refCountG, Option.bind_some]
  refine put_loop l hl (fun x => itemB (normI x)) (countB l.length) (fun i d => (d, (i : Int), ())) (by omega) (fun i v d hi hv hd => ?_) ?_
  · have hi' : i < 9223372036854775807 := by unfold Sh at hl; omega
    simp only [lt_len, hi, decide_true, cond_true, idx_nat, hv, Option.bind_some, itemBytes_eq v (hs v (List.mem_of_getElem? hv)), appU_eq (show d.length + (itemB (normI v)).length ≤ 140737488355000 from hd), wrap64_nat hi']
  · simp only [lt_len, Nat.lt_irrefl, decide_false, cond_false]
theorem itemsN_eq {l : List T70D} (h : ∀ x ∈ l, MayItem x) : itemsN l = itemsB l := by
  unfold itemsN itemsB listB
  congr 1
  exact flat_congr fun x hx => congrArg itemB (normI_id (h x hx))
theorem itemsN_len (l : List T70D) : (itemsN l).length ≤ 4 + l.length * 200 := by
  unfold itemsN
  have := flat_most (l := l) (e := fun x => itemB (normI x)) (n := 200) (fun x _ => normI_len x)
  rw [List.length_append, countB_len]
  omega
end Go.Proofs.YteebpcpkhojfkaaGreat
