/-
  Cmd: the laws of what meets, and of what is taken from any bytes.
-/
import Derived.Test.YthafmmjfijpalaaGreatCmdLawN
namespace Go.Proofs.YthafmmjfijpalaaGreat
open Go.Sx Go Classical
set_option maxRecDepth 10000
theorem iter_true {T R : Type} {step : T → Option (T ⊕ R)} {r0 : R} (I : T → Prop) (μ : T → Nat)
    (h : ∀ t, I t → step t = some (.inr r0) ∨ ∃ t', step t = some (.inl t') ∧ I t' ∧ μ t' < μ t) {t : T} (ht : I t) (hm : μ t < 9223372036854775808) : iter step big t = some r0 := by
  obtain ⟨r, h1, h2⟩ := iter_inv (step := step) (I := I) (μ := μ) (Q := fun _ r => r = r0) (fun t ht => by
    rcases h t ht with h | ⟨t', h1, h2, h3⟩
    · exact .inl ⟨_, h, rfl⟩
    · exact .inr ⟨t', h1, h2, h3, fun r h => h⟩) (n := big) ht (by rw [big_eq]; omega)
  rw [h1, h2]
theorem fitTxn {l k : List T48D} (hl : Fit47 (.slice T48) l) (hk : Fit47 (.slice T48) k) (n : Int) (hn : 0 ≤ n ∧ n ≤ 3) : Fit47 T28 (n, [], [], [], 0, 0, 0, [], l, k, 0, 0, 0, false, [], [], [], ()) := by
  have z : Fit47 (.int .i64) (0 : Int) := by simp [Fit47, IntKind.min, IntKind.max, IntKind.bits, IntKind.signed]
  have zn : Fit47 (.int .i64) n := by
    show (-9223372036854775808 : Int) ≤ n ∧ n ≤ 9223372036854775807
    omega
  exact ⟨zn, by simp [Fit47], by simp [Fit47], by simp [Fit47], z, z, z, by simp [Fit47], hl, hk, z, z, z, trivial, by simp [Fit47], by simp [Fit47], by simp [Fit47], trivial⟩
theorem rem8 (a : UInt8) (n : Nat) (hn : 0 < n) : remO (wrap64 (intOf8 a)) (n : Int) = some ((a.toNat % n : Nat) : Int) := by
  have ha := a.toNat_lt
  have e : wrap64 (intOf8 a) = (a.toNat : Int) := wrap64_eq (by unfold intOf8; omega) (by unfold intOf8; omega)
  unfold remO
  have e2 : decide ((n : Int) = 0) = false := decide_eq_false (by omega)
  rw [e, e2, cond_false]
  rfl
theorem law6 (x : (argTy P6).den) (hx : Fit47 (argTy P6) x) : F6 x = some (true, ()) := by
  obtain ⟨l, again, at_, ⟨⟩⟩ : List T48D × UInt8 × UInt8 × Unit := x
  have hl : Fit47 (.slice T48) l := hx.1
  have nil : Fit47 (.slice T48) ([] : List T48D) := by simp [Fit47]
  have z0 := szCmd (fitTxn hl nil 0 (by omega))
  have z3 := szCmd (fitTxn hl nil 3 (by omega))
  have z33 := szCmd (fitTxn hl hl 3 (by omega))
  obtain ⟨f, e1, -⟩ := few_ex _ z0.1
  have e2 := rRight_eq _ z3
  unfold F6
  simp only [awake_eq, e1, e2, Option.bind_some, Bool.not_true, cond_false]
  by_cases c1 : Int.ofNat l.length = 0
  · simp only [c1, decide_true, cond_true]
  by_cases c2 : (3 : Int) < Int.ofNat l.length
  · simp only [c1, c2, decide_true, decide_false, cond_true, cond_false]
  simp only [c1, c2, decide_false, cond_false]
  have h0 : 0 < l.length := by simp only [Int.ofNat_eq_natCast] at c1; omega
  have h3 : l.length ≤ 3 := by simp only [Int.ofNat_eq_natCast] at c2; omega
  cases f with
  | false => rfl
  | true =>
    by_cases hr : RightC (3, [], [], [], 0, 0, 0, [], l, [], 0, 0, 0, false, [], [], [], ())
    · rw [dec_true hr]
      simp only [Bool.not_true, cond_false]
      have ho := ((right_txn l []).1 hr).1
      have e3 : remO (wrap64 (intOf8 again)) (Int.ofNat l.length) = _ := rem8 again l.length h0
      have hp : again.toNat % l.length < l.length := Nat.mod_lt _ h0
      obtain ⟨o, hop⟩ : ∃ o, l[again.toNat % l.length]? = some o := ⟨_, List.getElem?_eq_getElem hp⟩
      have hom := List.mem_of_getElem? hop
      have e4 : wrap64 (Int.ofNat l.length + 1) = ((l.length + 1 : Nat) : Int) := wrap64_nat (by omega)
      have e5 := rem8 at_ (l.length + 1) (by omega)
      have hq : at_.toNat % (l.length + 1) ≤ l.length := Nat.le_of_lt_succ (Nat.mod_lt _ (by omega))
      simp only [e3, Option.bind_some, idx_nat, hop, e4, e5]
      generalize at_.toNat % (l.length + 1) = k at hq ⊢
      have e6 : sliceO l 0 (k : Int) = some (l.take k) := sliceO_take hq
      have e7 : sliceO l (k : Int) (l.length : Int) = some (l.drop k) := sliceO_drop hq
      have e8 : appO [] (l.take k) = some (l.take k) := appO_eq (by simp [capB]; omega)
      have e9 : appO (l.take k) [o] = some (l.take k ++ [o]) := appO_eq (by simp [capB]; omega)
      have e10 : appO (l.take k ++ [o]) (l.drop k) = some (l.take k ++ [o] ++ l.drop k) := appO_eq (by simp [capB]; omega)
      have e11 : l.take k ++ [o] ++ l.drop k = l.take k ++ o :: l.drop k := by simp
      simp only [e6, e7, e8, e9, e10, e11, Option.bind_some]
      have hm := ops_more (k := k) ho hom h3
      have hsm : Sh (l.take k ++ o :: l.drop k) := by simp [Sh]; omega
      have shn : Sh ([] : List T48D) := by simp [Sh]
      have shl : Sh l := by unfold Sh; omega
      have g1 := right_eq _ (shOps shl l shl)
      have g2 := right_eq _ (shOps hsm [] shn)
      have g3 := right_eq _ (shOps shn (l.take k ++ o :: l.drop k) hsm)
      simp only [g1, g2, g3, Option.bind_some]
      rw [dec_true ((right_txn l l).2 ⟨ho, ho⟩)]
      have i2 : RightC (3, [], [], [], 0, 0, 0, [], l.take k ++ o :: l.drop k, [], 0, 0, 0, false, [], [], [], ()) ↔ o.1 = 3 := by
        rw [right_txn, hm]; exact and_iff_left opsNil
      have i3 : RightC (3, [], [], [], 0, 0, 0, [], [], l.take k ++ o :: l.drop k, 0, 0, 0, false, [], [], [], ()) ↔ o.1 = 3 := by
        rw [right_txn, hm]; exact and_iff_right opsNil
      rw [dec_iff i2, dec_iff i3]
      simp only [BEq.rfl, cond_true]
    · rw [dec_false hr]
      rfl
theorem slice_mid (p w r : List UInt8) : sliceO (p ++ (w ++ r)) (p.length : Int) ((p.length + w.length : Nat) : Int) = some w := by
  unfold sliceO
  have : (0 : Int) ≤ (p.length : Int) ∧ (p.length : Int) ≤ ((p.length + w.length : Nat) : Int) ∧ ((p.length + w.length : Nat) : Int) ≤ ((p ++ (w ++ r)).length : Int) := ⟨by omega, by omega, by simp only [List.length_append]; omega⟩
  rw [decide_eq_true this, cond_true, Int.toNat_natCast, Int.toNat_natCast, ← List.append_assoc, ← List.length_append, List.take_left', List.drop_left']
  · rfl
  · rfl
theorem bind_ex {A B C : Type} {X : Option (A ⊕ B)} {f : A ⊕ B → Option C} {P : A → Prop} {R : Option C → Prop} (h : ∃ a, X = some (.inl a) ∧ P a) (h2 : ∀ a, P a → R (f (.inl a))) : R (Option.bind X f) := by
  obtain ⟨a, h1, h3⟩ := h
  rw [h1]
  exact h2 a h3
/-- what one taking does -/
def Took (s : In) (a : List UInt8 × Bool × In) : Prop := Sm a.2.2 ∧ (a.2.2.2.1 = true → a.2.1 = true ∧ a.2.2.1 = []) ∧ (a.2.2.2.1 = false → s.1 = a.1 ++ a.2.2.1)
theorem took_of {α : Type} {e : α → List UInt8} {g : In → α × In} {p : α → Prop} {z : α} {may : α → Bool} (c : Codec e (guardG z may g) p) {s : In} (h0 : s.2.1 = false) (hs : Sm s) {w : List UInt8} {b : Bool} (hb : (guardG z may g s).1 = z → b = true) (hw : p (guardG z may g s).1 → w = e (guardG z may g s).1) :
    Took s (w, b, (guardG z may g s).2) := by
  refine ⟨sm_of c hs, fun h1 => ⟨hb (guardG_zero z may g s h1), c.fine s (fun h => by rw [h0] at h; cases h) h1⟩, fun h1 => ?_⟩
  obtain ⟨h2, h3⟩ := c.ex s h0 h1
  show s.1 = w ++ _
  rw [hw h2]
  exact h3
theorem zeroVer (v : VerD) : (decide (v.fst = 0) && (decide (v.snd.fst = 0) && (decide (v.snd.snd.fst = 0) && (decide (v.snd.snd.snd.fst = 0) && (decide (v.snd.snd.snd.snd.fst = []) && (decide (v.snd.snd.snd.snd.snd.fst = 0) && (v.snd.snd.snd.snd.snd.snd.fst == false && true))))))) = dec' (v = NoV) := by
  by_cases h : v = NoV
  · rw [dec_true h, h]; rfl
  · rw [dec_false h, Bool.eq_false_iff]
    intro h2
    apply h
    obtain ⟨a1, a2, a3, a4, a5, a6, a7, ⟨⟩⟩ := v
    simp only [Bool.and_eq_true, decide_eq_true_eq, beq_iff_eq, and_true] at h2
    simp only [Prod.mk.injEq]; grind
theorem hand_most (s : In) : (handG s).1.2.2.1.length ≤ 60000 := by
  unfold handG guardG
  cases (bif (handR s).2.2.1 then true else !(dec' (HandOk (handR s).1))) with
  | true => simp
  | false => exact listG_len sess1C _
theorem law8 (x : (argTy P8).den) (hx : Fit47 (argTy P8) x) : F8 x = some (true, ()) := by
  obtain ⟨b, ks, ⟨⟩⟩ : List UInt8 × List UInt8 × Unit := x
  unfold F8
  simp only [awake_eq, Option.bind_some, Bool.not_true, cond_false]
  by_cases c1 : (5000 : Int) < Int.ofNat b.length
  · simp only [c1, decide_true, cond_true]
  by_cases c2 : (20 : Int) < Int.ofNat ks.length
  · simp only [c1, c2, decide_true, decide_false, cond_true, cond_false]
  simp only [Int.ofNat_eq_natCast] at c1 c2
  have hb : b.length ≤ 5000 := by omega
  have e1 : decide ((5000 : Int) < Int.ofNat b.length) = false := decide_eq_false (by simp only [Int.ofNat_eq_natCast]; omega)
  have e2 : decide ((20 : Int) < Int.ofNat ks.length) = false := decide_eq_false (by simp only [Int.ofNat_eq_natCast]; omega)
  simp only [e1, e2, cond_false, newIn_eq b (by omega), Option.bind_some]
  refine iter_true (I := fun t => ∃ (p : List UInt8) (i : Nat) (s : In), t = ((p.length : Int), (i : Int), s) ∧ i ≤ ks.length ∧ s.2.1 = false ∧ b = p ++ s.1) (μ := fun t => ks.length - t.2.1.toNat) (fun t ht => ?_) ⟨[], 0, (b, false, ()), rfl, Nat.zero_le _, rfl, rfl⟩ (by simp only [Int.toNat_zero]; omega)
  obtain ⟨p, i, s, rfl, hi, h0, hp⟩ := ht
  have hs : Sm s := by
    have : s.1.length ≤ b.length := by rw [hp, List.length_append]; omega
    unfold Sm; omega
  by_cases hlt : i < ks.length
  · obtain ⟨kk, hk⟩ : ∃ kk, ks[i]? = some kk := ⟨_, List.getElem?_eq_getElem hlt⟩
    have e3 : remO (intOf8 kk) (intOf8 (UInt8.ofNat 5)) = some ((kk.toNat % 5 : Nat) : Int) := rfl
    simp only [lt_len, hlt, decide_true, cond_true, idx_nat, hk, Option.bind_some, e3]
    have hm : kk.toNat % 5 < 5 := Nat.mod_lt _ (by omega)
    generalize kk.toNat % 5 = m at hm ⊢
    refine bind_ex (P := Took s) (R := fun y : Option ((Int × Int × T131D) ⊕ (Bool × Unit)) => y = some (Sum.inr (true, ())) ∨ ∃ t', y = some (Sum.inl t') ∧ (∃ (p : List UInt8) (i : Nat) (s : In), t' = ((p.length : Int), (i : Int), s) ∧ i ≤ ks.length ∧ s.2.1 = false ∧ b = p ++ s.1) ∧ ks.length - t'.2.1.toNat < ks.length - (i : Int).toNat) ?_ ?_
    · have hmm : m = 0 ∨ m = 1 ∨ m = 2 ∨ m = 3 ∨ m = 4 := by omega
      rcases hmm with rfl | rfl | rfl | rfl | rfl
      · have d0 : decide (intOf8 (Sx.byteOf ((0 : Nat) : Int)) = intOf8 (UInt8.ofNat 0)) = true := rfl
        simp only [d0, cond_true, getVer_eq s hs, verBytes_eq, zeroVer, Option.bind_some]
        exact ⟨_, rfl, took_of verC h0 hs (fun h => dec_true h) (fun h => by rw [normV_id (@of_decide_eq_true _ (propDecidable _) h.2)])⟩
      · have d0 : decide (intOf8 (Sx.byteOf ((1 : Nat) : Int)) = intOf8 (UInt8.ofNat 0)) = false := rfl
        have d1 : decide (intOf8 (Sx.byteOf ((1 : Nat) : Int)) = intOf8 (UInt8.ofNat 1)) = true := rfl
        have hf := fit_item s
        simp only [d0, d1, cond_true, cond_false, getItem_eq s hs, itemBytes_eq (itemG s).1 hf.1, Option.bind_some]
        refine ⟨_, rfl, took_of itemC h0 hs (fun h => ?_) (fun h => by rw [normI_id (@of_decide_eq_true _ (propDecidable _) h.2)])⟩
        rw [h]; rfl
      · have d0 : decide (intOf8 (Sx.byteOf ((2 : Nat) : Int)) = intOf8 (UInt8.ofNat 0)) = false := rfl
        have d1 : decide (intOf8 (Sx.byteOf ((2 : Nat) : Int)) = intOf8 (UInt8.ofNat 1)) = false := rfl
        have d2 : decide (intOf8 (Sx.byteOf ((2 : Nat) : Int)) = intOf8 (UInt8.ofNat 2)) = true := rfl
        have hz := szReply (fit_reply s)
        have hr := rReply_same (replyG s).1 NoReply hz.1
        simp only [d0, d1, d2, cond_true, cond_false, getReply_eq s hs, replyBytes_eq (replyG s).1 hz, hr, Option.bind_some]
        exact ⟨_, rfl, took_of replyC h0 hs (fun h => dec_true h) (fun h => by rw [normR_id (@of_decide_eq_true _ (propDecidable _) h.2)])⟩
      · have d0 : decide (intOf8 (Sx.byteOf ((3 : Nat) : Int)) = intOf8 (UInt8.ofNat 0)) = false := rfl
        have d1 : decide (intOf8 (Sx.byteOf ((3 : Nat) : Int)) = intOf8 (UInt8.ofNat 1)) = false := rfl
        have d2 : decide (intOf8 (Sx.byteOf ((3 : Nat) : Int)) = intOf8 (UInt8.ofNat 2)) = false := rfl
        have d3 : decide (intOf8 (Sx.byteOf ((3 : Nat) : Int)) = intOf8 (UInt8.ofNat 3)) = true := rfl
        have hz := szMove (fit_move s)
        simp only [d0, d1, d2, d3, cond_true, cond_false, getMove_eq s hs, moveBytes_eq (moveG s).1 hz, Option.bind_some]
        refine ⟨_, rfl, took_of moveC h0 hs (fun h => ?_) (fun h => by rw [normM_id (@of_decide_eq_true _ (propDecidable _) h.2)])⟩
        rw [h]; rfl
      · have d0 : decide (intOf8 (Sx.byteOf ((4 : Nat) : Int)) = intOf8 (UInt8.ofNat 0)) = false := rfl
        have d1 : decide (intOf8 (Sx.byteOf ((4 : Nat) : Int)) = intOf8 (UInt8.ofNat 1)) = false := rfl
        have d2 : decide (intOf8 (Sx.byteOf ((4 : Nat) : Int)) = intOf8 (UInt8.ofNat 2)) = false := rfl
        have d3 : decide (intOf8 (Sx.byteOf ((4 : Nat) : Int)) = intOf8 (UInt8.ofNat 3)) = false := rfl
        have hz := szHand (fit_hand s)
        have hr := rHand_same (handG s).1 NoHand hz.2
        simp only [d0, d1, d2, d3, cond_false, getHand_eq s hs, handBytes_eq (handG s).1 (fit_hand s) (hand_most s), hr, Option.bind_some]
        exact ⟨_, rfl, took_of handC h0 hs (fun h => dec_true h) (fun h => by rw [normH_id (@of_decide_eq_true _ (propDecidable _) h.2)])⟩
    · rintro ⟨w, z, s'⟩ ⟨t1, t2, t3⟩
      obtain ⟨r, bad, ⟨⟩⟩ := s'
      simp only [Sum.elim_inl, bad_eq, Option.bind_some, left_eq]
      cases bad with
      | true =>
        obtain ⟨g1, g2⟩ := t2 rfl
        have g1 : z = true := g1
        have g2 : r = [] := g2
        subst g1 g2
        exact .inl rfl
      | false =>
        have g1 : s.1 = w ++ r := t3 rfl
        have hp2 : b = p ++ (w ++ r) := by rw [hp, g1]
        have hbl : b.length = p.length + (w.length + r.length) := by rw [hp2, List.length_append, List.length_append]
        have w1 : wrap64 ((p.length : Int) + Int.ofNat w.length) = ((p.length + w.length : Nat) : Int) := by
          rw [wrap64_eq (by simp only [Int.ofNat_eq_natCast]; omega) (by simp only [Int.ofNat_eq_natCast]; omega)]; simp only [Int.ofNat_eq_natCast]; omega
        have w2 : decide (Int.ofNat b.length < ((p.length + w.length : Nat) : Int)) = false := decide_eq_false (by simp only [Int.ofNat_eq_natCast]; omega)
        have w3 : sliceO b (p.length : Int) ((p.length + w.length : Nat) : Int) = some w := by rw [hp2]; exact slice_mid p w r
        have w4 : wrap64 (Int.ofNat b.length - ((p.length + w.length : Nat) : Int)) = Int.ofNat r.length := by
          rw [wrap64_eq (by simp only [Int.ofNat_eq_natCast]; omega) (by simp only [Int.ofNat_eq_natCast]; omega)]; simp only [Int.ofNat_eq_natCast]; omega
        simp only [cond_false, w1, w2, w3, w4, Option.bind_some, decide_true, Bool.not_true, wrap64_nat (show i < 9223372036854775807 by omega)]
        refine .inr ⟨_, rfl, ⟨p ++ w, i + 1, (r, false, ()), ?_, hlt, rfl, ?_⟩, ?_⟩
        · rw [List.length_append]
        · rw [hp2, List.append_assoc]
        · simp only [Int.toNat_natCast]; omega
  · have : i = ks.length := by omega
    subst this
    refine .inl ?_
    simp only [lt_len, Nat.lt_irrefl, decide_false, cond_false]
end Go.Proofs.YthafmmjfijpalaaGreat
