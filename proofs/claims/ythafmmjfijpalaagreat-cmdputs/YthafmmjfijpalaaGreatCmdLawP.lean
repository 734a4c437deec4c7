/-
  Cmd: the laws of the other records.
-/
import Derived.Test.YthafmmjfijpalaaGreatCmdLawO
namespace Go.Proofs.YthafmmjfijpalaaGreat
open Go.Sx Go Classical
set_option maxRecDepth 10000
theorem guard_same {b : Bool} {X : Option (Bool × Unit)} (h : X = some (true, ())) : (bif b then some (true, ()) else X) = some (true, ()) := by
  rw [h]; cases b <;> rfl
theorem few2_ex (r : T51D) (h : T55D) (hr : Sh r.2.2.2.2.1) (hh : ShH h) (hm : h.2.2.1.length ≤ 1800000000000) : ∃ z, F21 (r, h, ()) = some (z, ()) ∧ (z = true → h.2.2.1.length ≤ 20) := by
  obtain ⟨a1, a2, a3, a4, ⟨⟩⟩ := h
  simp only at hm
  obtain ⟨hs, hl⟩ := hh
  have hs : ShS a3 := hs
  have hl : Sh a4 := hl
  have e : appM [((0 : Int), (0 : Int), r, ())] a3 = some ([(0, 0, r, ())] ++ a3) := appM_eq (by simp only [List.length_cons, List.length_nil]; omega)
  have hc : ShC (0, [], [], [], 0, 0, 0, [], [], [], 0, 0, 0, false, [], [(0, 0, r, ())] ++ a3, a4, ()) := by
    refine ⟨by simp [Sh], by simp [Sh], by simp [Sh], by simp [Sh], ⟨?_, fun s hs2 => ?_⟩, hl⟩
    · simp [Sh]; omega
    · rcases List.mem_append.1 hs2 with h | h
      · rw [List.mem_singleton.1 h]; exact hr
      · exact hs.2 s h
  obtain ⟨z, h1, h2⟩ := few_ex _ hc
  refine ⟨z, ?_, fun hz => ?_⟩
  · unfold F21
    simp only [e, Option.bind_some, h1]
  · have := h2 hz
    simp only [List.length_append, List.length_cons, List.length_nil] at this
    show a3.length ≤ 20
    omega
theorem hand_many {h : T55D} (hm : FitM T55 h) : h.2.2.1.length ≤ 1800000000000 := by
  obtain ⟨-, -, h3, -⟩ := hm
  have h3 : h.2.2.1.length * 81 ≤ 140737488351232 := h3.1
  omega
theorem law7 (x : (argTy P7).den) (hx : Fit47 (argTy P7) x) (hm : FitM (argTy P7) x) : F7 x = some (true, ()) := by
  obtain ⟨s, r, q, m, h, ⟨⟩⟩ : List UInt8 × T51D × T51D × T53D × T55D × Unit := x
  obtain ⟨fs, fr, fq, fm, fh, -⟩ := hx
  obtain ⟨-, -, -, -, mh, -⟩ := hm
  have zr := szReply fr
  have zq := szReply fq
  obtain ⟨zh, zh2⟩ := szHand fh
  have hmany := hand_many mh
  obtain ⟨f1, e1, -⟩ := few2_ex r h zr.1 zh2 hmany
  obtain ⟨f2, e2, -⟩ := few2_ex q h zq.1 zh2 hmany
  have p1 := rPre_eq s fs
  have r1 := reply_eq r zr.1
  have r2 := rReply_eq r zr
  have s1 := reply_same r q zr.1
  have s2 := rReply_same r q zr.1
  have s3 := reply_same r r zr.1
  rw [dec_true (p := r = r) rfl] at s3
  have m1 := rMove_eq m (szMove fm)
  have h1 := hand_eq h zh2
  have h2 := rHand_eq h zh
  unfold F7
  simp only [awake_eq, e1, e2, Option.bind_some, Bool.not_true, cond_false]
  cases f1 with
  | false => rfl
  | true =>
    cases f2 with
    | false => rfl
    | true =>
      simp only [Bool.not_true, cond_false, pre_eq, p1, r1, r2, s1, s2, s3, move_eq, m1, h1, h2, Option.bind_some, BEq.rfl, cond_true]
      exact guard_same rfl
theorem law9 (x : (argTy P9).den) (hx : Fit47 (argTy P9) x) (hm : FitM (argTy P9) x) : F9 x = some (true, ()) := by
  obtain ⟨i, r, m, h, ⟨⟩⟩ : T70D × T51D × T53D × T55D × Unit := x
  obtain ⟨fi, fr, fm, fh, -⟩ := hx
  obtain ⟨-, -, -, mh, -⟩ := hm
  have zr := szReply fr
  obtain ⟨zh, zh2⟩ := szHand fh
  obtain ⟨f1, e1, g1⟩ := few2_ex r h zr.1 zh2 (hand_many mh)
  unfold F9
  simp only [awake_eq, e1, Option.bind_some, Bool.not_true, cond_false]
  cases f1 with
  | false => rfl
  | true =>
    have hs := g1 rfl
    simp only [Bool.not_true, cond_false]
    refine guard_same ?_
    obtain ⟨k, v, ⟨⟩⟩ := i
    have l1 := normV_len v
    have l2 := normI_len (k, v, ())
    have l3 := normR_len r
    have l4 := normM_len m
    have l5 := normH_len h (by omega)
    have q1 : F46 (([], ()), v, ()) = _ := putVer_eq [] v (by simp only [List.length_nil]; unfold Big; omega)
    have q2 := putItem_eq ([] ++ verB (normV v)) (k, v, ()) (by simp only [List.length_append, List.length_nil]; unfold Big; omega)
    have q3 := putReply_eq ([] ++ verB (normV v) ++ itemB (normI (k, v, ()))) r zr.1 (by simp only [List.length_append, List.length_nil]; unfold Big; omega)
    have q4 := putMove_eq ([] ++ verB (normV v) ++ itemB (normI (k, v, ())) ++ replyB (normR r)) m (by simp only [List.length_append, List.length_nil]; unfold Big; omega)
    have q5 := putHand_eq ([] ++ verB (normV v) ++ itemB (normI (k, v, ())) ++ replyB (normR r) ++ moveB (normM m)) h fh (by simp only [List.length_append, List.length_nil]; unfold Big; omega)
    have d1 := verBytes_eq v
    have d2 := itemBytes_eq (k, v, ()) fi.1
    have d3 := replyBytes_eq r zr
    have d4 := moveBytes_eq m (szMove fm)
    have d5 := handBytes_eq h fh (by omega)
    have a1 : appU (verB (normV v)) (itemB (normI (k, v, ()))) = _ := appU_eq (by omega)
    have a2 : appU (verB (normV v) ++ itemB (normI (k, v, ()))) (replyB (normR r)) = _ := appU_eq (by simp only [List.length_append]; omega)
    have a3 : appU (verB (normV v) ++ itemB (normI (k, v, ())) ++ replyB (normR r)) (moveB (normM m)) = _ := appU_eq (by simp only [List.length_append]; omega)
    have a4 : appU (verB (normV v) ++ itemB (normI (k, v, ())) ++ replyB (normR r) ++ moveB (normM m)) (handB (normH h)) = _ := appU_eq (by simp only [List.length_append]; omega)
    simp only [q1, q2, q3, q4, q5, Option.bind_some]
    simp only [List.nil_append, d1, d2, d3, d4, d5, a1, a2, a3, a4, Option.bind_some]
    generalize hW : verB (normV v) ++ itemB (normI (k, v, ())) ++ replyB (normR r) ++ moveB (normM m) ++ handB (normH h) = W
    by_cases hl : W.length ≤ 60000
    · have e0 : decide ((60000 : Int) < Int.ofNat W.length) = false := decide_eq_false (by simp only [Int.ofNat_eq_natCast]; omega)
      rw [end_eq W hl]
      simp only [e0, cond_false, decide_true, Bool.not_true, Option.bind_some, zeroVer]
      have p1 : F52 (v, ()) = _ := rVer_eq v
      have p2 := refKey_eq k fi.1
      have p3 := rReply_eq r zr
      have p4 := rMove_eq m (szMove fm)
      have p5 := rHand_eq h zh
      simp only [p1, p2, p3, p4, p5, Option.bind_some]
      by_cases c1 : MayVer v
      · have e1 : (bif dec' (v = NoV) then some (Sum.inl (true, ())) else some (Sum.inl (decide (VerOk v), ())) : Option ((Bool × Unit) ⊕ (Bool × Unit))) = some (Sum.inl (true, ())) := by
          by_cases c : v = NoV
          · rw [dec_true c]; rfl
          · rw [dec_false c, decide_eq_true (c1.resolve_left c)]; rfl
        simp only [e1, Option.bind_some, Sum.elim_inl, Bool.not_true, cond_false]
        by_cases c3 : ReplyOk r
        · by_cases c4 : MoveOk m
          · by_cases c5 : HandOk h
            · by_cases c2 : k = [] ∨ IsKey k
              · have e2 : (bif !decide (k = []) then bif !decide (IsKey k) then some (Sum.inr (true, ())) else bif !dec' (ReplyOk r) then some (Sum.inr (true, ())) else bif !dec' (MoveOk m) then some (Sum.inr (true, ())) else bif !dec' (HandOk h) then some (Sum.inr (true, ())) else some (Sum.inl ()) else bif !dec' (ReplyOk r) then some (Sum.inr (true, ())) else bif !dec' (MoveOk m) then some (Sum.inr (true, ())) else bif !dec' (HandOk h) then some (Sum.inr (true, ())) else some (Sum.inl ()) : Option (Unit ⊕ (Bool × Unit))) = some (Sum.inl ()) := by
                  rw [dec_true c3, dec_true c4, dec_true c5]
                  by_cases c : k = []
                  · rw [decide_eq_true c]; rfl
                  · rw [decide_eq_false c, decide_eq_true (c2.resolve_left c)]; rfl
                have mi : MayItem (k, v, ()) := ⟨c2, c1⟩
                rw [normV_id c1, normI_id mi, normR_id c3, normM_id c4, normH_id c5] at hW
                have b1 : W = verB v ++ (itemB (k, v, ()) ++ (replyB r ++ (moveB m ++ (handB h ++ [])))) := by rw [← hW]; simp only [List.append_assoc, List.append_nil]
                have fv : Fit47 T66 v := fi.2.1
                have t1 := verC.rt v (itemB (k, v, ()) ++ (replyB r ++ (moveB m ++ (handB h ++ [])))) (verQ fv c1)
                have t2 := itemC.rt (k, v, ()) (replyB r ++ (moveB m ++ (handB h ++ []))) (itemQ fi mi)
                have t3 := replyC.rt r (moveB m ++ (handB h ++ [])) (replyQ fr c3)
                have t4 := moveC.rt m (handB h ++ []) (moveQ fm c4)
                have t5 := handC.rt h [] (handQ fh (by omega) c5)
                have sm : ∀ l : List UInt8, l.length ≤ 60000 → Sm (l, false, ()) := fun l hl => by unfold Sm; simp only; omega
                have lw : (verB v ++ (itemB (k, v, ()) ++ (replyB r ++ (moveB m ++ (handB h ++ []))))).length ≤ 60000 := by rw [← b1]; exact hl
                simp only [List.length_append, List.length_nil] at lw
                have u1 := getVer_eq (verB v ++ (itemB (k, v, ()) ++ (replyB r ++ (moveB m ++ (handB h ++ [])))), false, ()) (sm _ (by simp only [List.length_append, List.length_nil]; omega))
                have u2 := getItem_eq (itemB (k, v, ()) ++ (replyB r ++ (moveB m ++ (handB h ++ []))), false, ()) (sm _ (by simp only [List.length_append, List.length_nil]; omega))
                have u3 := getReply_eq (replyB r ++ (moveB m ++ (handB h ++ [])), false, ()) (sm _ (by simp only [List.length_append, List.length_nil]; omega))
                have u4 := getMove_eq (moveB m ++ (handB h ++ []), false, ()) (sm _ (by simp only [List.length_append, List.length_nil]; omega))
                have u5 := getHand_eq (handB h ++ [], false, ()) (sm _ (by simp only [List.length_append, List.length_nil]; omega))
                rw [t1] at u1
                rw [t2] at u2
                rw [t3] at u3
                rw [t4] at u4
                rw [t5] at u5
                have s3 := rReply_same r r zr.1
                rw [dec_true (p := r = r) rfl] at s3
                have s5 : F43 (h, h, ()) = _ := rHand_same h h zh2
                rw [dec_true (p := h = h) rfl] at s5
                simp only [e2, Option.bind_some, Sum.elim_inl]
                rw [newIn_eq W (by omega), b1]
                simp only [Option.bind_some, u1, u2, u3, u4, u5, s3, s5, done_eq, decide_true, Bool.and_self, BEq.rfl, cond_true, Bool.not_false, List.length_nil]
                rfl
              · have n1 : ¬ k = [] := fun h => c2 (.inl h)
                have n2 : ¬ IsKey k := fun h => c2 (.inr h)
                simp only [n1, n2, decide_false, Bool.not_false, cond_true, Option.bind_some, Sum.elim_inr]
            · rw [dec_true c3, dec_true c4, dec_false c5]
              cases decide (k = []) <;> cases decide (IsKey k) <;> rfl
          · rw [dec_true c3, dec_false c4]
            cases decide (k = []) <;> cases decide (IsKey k) <;> rfl
        · rw [dec_false c3]
          cases decide (k = []) <;> cases decide (IsKey k) <;> rfl
      · have n1 : ¬ v = NoV := fun h => c1 (.inl h)
        have n2 : ¬ VerOk v := fun h => c1 (.inr h)
        rw [dec_false n1, decide_eq_false n2]
        rfl
    · have e0 : decide ((60000 : Int) < Int.ofNat W.length) = true := decide_eq_true (by simp only [Int.ofNat_eq_natCast]; omega)
      rw [end_long W (by omega)]
      simp only [e0, cond_true, Option.bind_some, decide_true]
end Go.Proofs.YthafmmjfijpalaaGreat
