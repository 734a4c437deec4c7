/-
  Index: the law of what is replayed (once the batches are known).
-/
import Derived.Test.YtphdilmnielgeaaIndexReplayB
namespace Go.Proofs.Ytphdilmnielgeaa
open Go.Sx Go Classical
set_option maxRecDepth 10000
abbrev RpS : Type := List It × Int × Unit
noncomputable def rp2 (now : List It) (y : It) (i : Int) (x_4 : RpS) : Option (RpS ⊕ (RpS ⊕ RpS ⊕ Bool × Unit)) :=
 bif decide (x_4.2.1 < Int.ofNat (List.length now)) then
 Option.bind (idxN now x_4.2.1) fun (b_3 : Nat) =>
 Option.bind now[b_3]? fun (b_4 : T66D) =>
 bif !(strlt b_4.1 y.1 || decide (b_4.1 = y.1)) then
 Option.bind (idxN now x_4.2.1) fun (b : Nat) =>
 Option.bind now[b]? fun (b : T66D) =>
 Option.bind (appO x_4.1 [b]) fun (b : List T66D) => some (Sum.inl (b, wrap64 (x_4.2.1 + 1), ()))
 else some (Sum.inl (x_4.1, wrap64 (x_4.2.1 + 1), ()))
 else some (Sum.inr (Sum.inl (x_4.1, wrap64 (i + 1), ())))
noncomputable def rp1 (now : List It) (y : It) (i : Int) (x_2 : RpS) : Option (RpS ⊕ (RpS ⊕ RpS ⊕ Bool × Unit)) :=
 bif decide (x_2.2.1 < Int.ofNat (List.length now)) then
 Option.bind (idxN now x_2.2.1) fun (b_3 : Nat) =>
 Option.bind now[b_3]? fun (b_4 : T66D) =>
 bif strlt b_4.1 y.1 then
 Option.bind (idxN now x_2.2.1) fun (b : Nat) =>
 Option.bind now[b]? fun (b : T66D) =>
 Option.bind (appO x_2.1 [b]) fun (b : List T66D) => some (Sum.inl (b, wrap64 (x_2.2.1 + 1), ()))
 else some (Sum.inl (x_2.1, wrap64 (x_2.2.1 + 1), ()))
 else
 Option.map Sum.inr
 (Option.bind
 (bif !y.2.1.2.2.2.2.2.2.1 then
 Option.bind (appO x_2.1 [y]) fun (b : List T66D) => some (Sum.inl (b, ()))
 else some (Sum.inl (x_2.1, ())))
 fun (o : List T66D × Unit ⊕ RpS ⊕ RpS ⊕ Bool × Unit) =>
 Sum.elim (fun (x_3 : List T66D × Unit) => iter (rp2 now y i) big (x_3.1, 0, ())) (fun (val : RpS ⊕ RpS ⊕ Bool × Unit) => some val) o)
theorem foldl_pickI {p : It → Bool} : ∀ (l d : List It), l.foldl (fun a v => bif p v then a ++ [v] else a) d = d ++ l.filter p
  | [], d => by simp
  | x :: l, d => by
    rw [List.foldl_cons, foldl_pickI l]
    cases h : p x <;> simp [h]
theorem gt_eq (a b : List UInt8) : (!(strlt a b || decide (a = b))) = strlt b a := by
  rcases strlt_tri a b with h | h | h
  · rw [h, strlt_asymm h]; rfl
  · subst h; rw [strlt_irrefl]; simp
  · have hne : ¬ a = b := fun e => by rw [e, strlt_irrefl] at h; exact Bool.noConfusion h
    rw [h, strlt_asymm h]; simp [hne]
theorem rp2_ok (now d : List It) (y : It) (i : Int) (hl : now.length ≤ 10000000) (hd : d.length ≤ 20000000) : iter (rp2 now y i) big (d, 0, ()) = some (.inl (d ++ now.filter (fun x => strlt y.1 x.1), wrap64 (i + 1), ())) := by
  have := iter_fold (step := rp2 now y i) (mk := fun i a => (a, (i : Int), ())) (l := now) (g := fun a v => bif strlt y.1 v.1 then a ++ [v] else a) (K := fun a => .inl (a, wrap64 (i + 1), ())) (fun k a => a.length ≤ d.length + k) (by omega)
    (fun k a v hk ha => by
      have hlt : k < now.length := (List.getElem?_eq_some_iff.1 hk).1
      refine ⟨?_, ?_⟩
      · unfold rp2
        simp only [lt_len, hlt, decide_true, cond_true, idxN_nat hlt, Option.bind_some, hk, gt_eq, wrap64_nat (show k < 9223372036854775807 by omega), appO_small (show a.length ≤ 100000000 by omega)]
        cases strlt y.1 v.1 <;> rfl
      · cases strlt y.1 v.1 <;> simp <;> omega)
    (fun a _ => by
      unfold rp2
      simp only [lt_len, Nat.lt_irrefl, decide_false, cond_false]) (a := d) (Nat.le_refl _)
  rw [foldl_pickI] at this
  exact this
theorem rp1_ok (now : List It) (y : It) (i : Int) (hl : now.length ≤ 10000000) : iter (rp1 now y i) big ([], 0, ()) = some (.inl (replay now y, wrap64 (i + 1), ())) := by
  have := iter_fold (step := rp1 now y i) (mk := fun i a => (a, (i : Int), ())) (l := now) (g := fun a v => bif strlt v.1 y.1 then a ++ [v] else a) (K := fun a => .inl (a ++ ((bif !y.2.1.2.2.2.2.2.2.1 then [y] else []) ++ now.filter (fun x => strlt y.1 x.1)), wrap64 (i + 1), ())) (fun k a => a.length ≤ k) (by omega)
    (fun k a v hk ha => by
      have hlt : k < now.length := (List.getElem?_eq_some_iff.1 hk).1
      refine ⟨?_, ?_⟩
      · unfold rp1
        simp only [lt_len, hlt, decide_true, cond_true, idxN_nat hlt, Option.bind_some, hk, wrap64_nat (show k < 9223372036854775807 by omega), appO_small (show a.length ≤ 100000000 by omega)]
        cases strlt v.1 y.1 <;> rfl
      · cases strlt v.1 y.1 <;> simp <;> omega)
    (fun a ha => by
      unfold rp1
      simp only [lt_len, Nat.lt_irrefl, decide_false, cond_false, appO_small (show a.length ≤ 100000000 by omega), Option.bind_some]
      cases hg : y.2.1.2.2.2.2.2.2.1 with
      | true =>
        simp only [Bool.not_true, cond_false, Option.bind_some, Sum.elim_inl]
        rw [rp2_ok now a y i hl (by omega)]
        rfl
      | false =>
        simp only [Bool.not_false, cond_true, Option.bind_some, Sum.elim_inl]
        rw [rp2_ok now (a ++ [y]) y i hl (by simp; omega)]
        simp) (a := []) (Nat.le_refl _)
  rw [foldl_pickI] at this
  rw [List.nil_append] at this
  exact this
theorem itemsOf_len (w : List KX) (c : KX → Option VerD) : (itemsOf w c).length ≤ w.length := by
  unfold itemsOf
  refine flatMap_len1 (fun e => ?_) w
  unfold shown
  cases c e with
  | none => simp
  | some v =>
    simp only
    split <;> simp
noncomputable def rpX (B : List Bt) (k : Int) (bt : Bt) (x : RpS) : Option (RpS ⊕ (RpS ⊕ Bool × Unit)) :=
 bif decide (x.2.1 < Int.ofNat (List.length bt.2.1)) then
 Option.bind (idxN B k) fun (b : Nat) =>
 Option.bind B[b]? fun (b : Bt) =>
 Option.bind (idx b.2.1 x.2.1) fun (y : T66D) => iter (rp1 x.1 y x.2.1) big ([], 0, ())
 else some (Sum.inr (Sum.inl (x.1, wrap64 (k + 1), ())))
noncomputable def rpO (B : List Bt) (fin : List It → Option (Bool × Unit)) (x_1 : RpS) : Option (RpS ⊕ (Bool × Unit)) :=
 bif decide (x_1.2.1 < Int.ofNat (List.length B)) then
 Option.bind (idxN B x_1.2.1) fun (b : Nat) =>
 Option.bind B[b]? fun (bt : Bt) => iter (rpX B x_1.2.1 bt) big (x_1.1, 0, ())
 else Option.map Sum.inr (fin x_1.1)
theorem rpX_ok {w : List KX} (hs : Sorted strlt w) (hw : w.length ≤ 1000) {B : List Bt} {k : Nat} {bt : Bt} (hk : B[k]? = some bt) (hk2 : k ≤ 10000000) (hb : bt.2.1.length ≤ 10000000) (hy : ∀ y ∈ bt.2.1, ∃ e ∈ w, e.1 = y.1) (c : KX → Option VerD) :
    iter (rpX B k bt) big (itemsOf w c, 0, ()) = some (.inl (bt.2.1.foldl replay (itemsOf w c), ((k + 1 : Nat) : Int), ())) := by
  have hkl : k < B.length := (List.getElem?_eq_some_iff.1 hk).1
  exact iter_fold (step := rpX B k bt) (mk := fun j a => (a, (j : Int), ())) (l := bt.2.1) (g := replay) (K := fun a => (.inl (a, ((k + 1 : Nat) : Int), ()) : RpS ⊕ Bool × Unit)) (fun j a => ∃ c, a = itemsOf w c) (by omega)
    (fun j a y hj ha => by
      obtain ⟨c, rfl⟩ := ha
      have hjl : j < bt.2.1.length := (List.getElem?_eq_some_iff.1 hj).1
      obtain ⟨e, he, hey⟩ := hy y (List.mem_of_getElem? hj)
      have hlen := itemsOf_len w c
      refine ⟨?_, setC c e.1 y.2.1, ?_⟩
      · unfold rpX
        simp only [lt_len, hjl, decide_true, cond_true, idxN_nat hkl, Option.bind_some, hk, idx_nat, hj]
        rw [rp1_ok (itemsOf w c) y (j : Int) (by omega), wrap64_nat (show j < 9223372036854775807 by omega)]
      · rw [← replay_set hs he, hey])
    (fun a _ => by
      unfold rpX
      simp only [lt_len, Nat.lt_irrefl, decide_false, cond_false, wrap64_nat (show k < 9223372036854775807 by omega)]) (a := itemsOf w c) ⟨c, rfl⟩
theorem rpO_ok {w : List KX} (hs : Sorted strlt w) (hw : w.length ≤ 1000) {B : List Bt} (hB : B.length ≤ 10000000) (hb : ∀ b ∈ B, b.2.1.length ≤ 10000000 ∧ ∀ y ∈ b.2.1, ∃ e ∈ w, e.1 = y.1) (c : KX → Option VerD) {fin : List It → Option (Bool × Unit)} {o : Bool × Unit} (ho : fin ((flatB B).foldl replay (itemsOf w c)) = some o) :
    iter (rpO B fin) big (itemsOf w c, 0, ()) = some o := by
  have hf : ∀ (B : List Bt) (a : List It), B.foldl (fun a b => b.2.1.foldl replay a) a = (flatB B).foldl replay a := by
    intro B
    induction B with
    | nil => intro a; rfl
    | cons b B ih => intro a; rw [List.foldl_cons, ih]; unfold flatB; rw [List.flatMap_cons, List.foldl_append]
  refine iter_find' (step := rpO B fin) (mk := fun i a => (a, (i : Int), ())) (l := B) (g := fun a b => b.2.1.foldl replay a) (fun i a => ∃ c, a = itemsOf w c) (by omega)
    (fun i a b hi ha => ?_) (a := itemsOf w c) ⟨c, rfl⟩ ?_
  · obtain ⟨c, rfl⟩ := ha
    have hil : i < B.length := (List.getElem?_eq_some_iff.1 hi).1
    obtain ⟨h1, h2⟩ := hb b (List.mem_of_getElem? hi)
    refine ⟨?_, lastC c b.2.1, replay_all hs _ _ fun y hy => h2 y hy⟩
    unfold rpO
    simp only [lt_len, hil, decide_true, cond_true, idxN_nat hil, Option.bind_some, hi]
    exact rpX_ok hs hw hi (by omega) h1 h2 c
  · rw [hf]
    unfold rpO
    simp only [lt_len, Nat.lt_irrefl, decide_false, cond_false, ho]
    rfl
theorem lawReplays (hB : BatchesOk) (x : (argTy P10).den) (hx : Fit47 (argTy P10) x) : F10 x = some (true, ()) := by
  obtain ⟨l, fr, en, since, ⟨⟩⟩ : List ActX × List UInt8 × List UInt8 × Int × Unit := x
  obtain ⟨⟨hl, -⟩, h1, h2, -⟩ := hx
  have hl' : l.length ≤ 140737488351232 := hl
  have h1' : fr.length ≤ 140737488351232 := h1
  have h2' : en.length ≤ 140737488351232 := h2
  obtain ⟨fb, hf, hfl⟩ := few_ex l 60 (by omega) (by omega)
  have hf : F20 (l, 60, ()) = some (fb, ()) := hf
  unfold F10
  simp only [awake_eq, Option.bind_some, Bool.not_true, cond_false, hf]
  cases fb with
  | false => rfl
  | true =>
    obtain ⟨h60, hs⟩ := hfl rfl
    obtain ⟨m, hI, e⟩ := made_ex l (by omega) hs
    refine Eq.trans (congrArg (fun z => cond _ (some (true, ())) z) ?_) (cond_same _ _)
    by_cases g1 : since < 2
    · simp only [decide_eq_true g1, cond_true]
      exact cond_same _ _
    · by_cases g2 : 1099511627776 < since
      · simp only [decide_eq_false g1, decide_eq_true g2, cond_true, cond_false]
        exact cond_same _ _
      · simp only [decide_eq_false g1, decide_eq_false g2, cond_false]
        have hll := hI.2.2.1
        have hp : (toL m).filter (fun e : KX => decide (IsRange fr en) && inB fr en e.1) = rngL fr en (toL m) := rfl
        have hat : ∀ r, F34 (((m, ()), ()), fr, en, r, 1000, ()) = some (itemsOf (rngL fr en (toL m)) (cAt r), ((toL m).foldl (atStep r 1000 (fun e : KX => decide (IsRange fr en) && inB fr en e.1)) ([], 0)).2, ()) := fun r => by
          obtain ⟨o, c, _, a1, _, a3⟩ := at_both2 m l.length hI (by omega) h1' h2' r 1000
          have := at_items (r := r) (most := 1000) (fun e : KX => decide (IsRange fr en) && inB fr en e.1) (toL m) ([], 0) (by simp; omega)
          rw [← a3, List.nil_append, hp] at this
          rw [a1, ← a3]
          have ho : o = itemsOf (rngL fr en (toL m)) (cAt r) := this
          rw [ho]
        obtain ⟨R, r1, r2, r3⟩ := changes_both hB m l.length hI (by omega) h1' h2' since 1099511627776
        have hwl : (rngL fr en (toL m)).length ≤ (toL m).length := List.length_filter_le _ _
        have hit : (inItems since 1099511627776 (rngL fr en (toL m))).length ≤ 60000 := by
          have h5 := inItems_len (since := since) (to := 1099511627776) (n := l.length) (by omega) (w := rngL fr en (toL m)) fun e he => (hI.2.2.2 e (List.mem_filter.1 he).1).2.2.2
          omega
        have htot := tot_le (l := inItems since 1099511627776 (rngL fr en (toL m))) r1
        have q1 := (r3 100000).1
        rw [takeB_all (by omega), List.nil_append] at q1
        have w1 : wrap64 (since - 1) = since - 1 := wrap64_eq (by omega) (by omega)
        have hsw : Sorted strlt (rngL fr en (toL m)) := hI.2.1.filter _
        have hrep := replays hsw (fun e he => (hI.2.2.2 e (List.mem_filter.1 he).1).2.1) r1 r2
        have hRl : R.length ≤ 60000 := by
          have : ∀ (R : List Int) (L : List It), Inc R → (∀ r ∈ R, ∃ x ∈ L, K x = r) → R.length ≤ totB (R.map (keyB L)) := by
            intro R L
            induction R with
            | nil => intro _ _; exact Nat.zero_le _
            | cons r R ih =>
              intro hi h
              have := ih (List.pairwise_cons.1 hi).2 fun q hq => h q (by simp [hq])
              obtain ⟨x, hx, hr⟩ := h r (by simp)
              have hp : 0 < (L.filter (fun x => decide (K x = r))).length := List.length_pos_of_mem (List.mem_filter.2 ⟨hx, decide_eq_true hr⟩)
              have e2 : totB ((r :: R).map (keyB L)) = (L.filter (fun x => decide (K x = r))).length + totB (R.map (keyB L)) := by simp [totB, keyB]
              rw [e2, List.length_cons]
              omega
          have := this R _ r1 fun r hr => (r2 r).1 hr
          omega
        have hlen := itemsOf_len (rngL fr en (toL m)) (cAt 1099511627776)
        have i1 := items_self (itemsOf (rngL fr en (toL m)) (cAt 1099511627776)) (by omega)
        simp only [e, Option.bind_some, Bool.not_true, cond_false, w1, hat, q1]
        refine Eq.trans ?_ (cond_same (decide (500 < wrap64 (Int.ofNat fr.length + Int.ofNat en.length))) _)
        refine congrArg (fun z => cond _ (some (true, ())) z) ?_
        refine rpO_ok (B := R.map (keyB (inItems since 1099511627776 (rngL fr en (toL m))))) hsw (by omega) (by rw [List.length_map]; omega) (fun b hb => ?_) (cAt (since - 1)) (fin := fun now => Option.bind (some (itemsOf (rngL fr en (toL m)) (cAt 1099511627776), ((toL m).foldl (atStep 1099511627776 1000 (fun e : KX => decide (IsRange fr en) && inB fr en e.1)) ([], 0)).2, ())) fun (b : List T66D × Int × Unit) => Option.bind (F33 (now, b.1, ())) fun (b : Bool × Unit) => some b) ?_
        · obtain ⟨r, _, rfl⟩ := List.mem_map.1 hb
          refine ⟨?_, fun y hy => ?_⟩
          · have := List.length_filter_le (fun x => decide (K x = r)) (inItems since 1099511627776 (rngL fr en (toL m)))
            show (List.filter _ _).length ≤ _
            omega
          · obtain ⟨e, he, v, _, _, rfl⟩ := mem_items.1 (List.mem_filter.1 hy).1
            exact ⟨e, he, rfl⟩
        · rw [hrep]
          simp only [Option.bind_some, i1]
end Go.Proofs.Ytphdilmnielgeaa
