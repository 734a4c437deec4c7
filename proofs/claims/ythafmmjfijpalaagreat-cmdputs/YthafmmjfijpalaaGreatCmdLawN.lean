/-
  Cmd: Few always ends; the laws of what is right, and of jobs' bytes.
-/
import Derived.Test.YthafmmjfijpalaaGreatCmdLawM
namespace Go.Proofs.YthafmmjfijpalaaGreat
open Go.Sx Go Classical
set_option maxRecDepth 10000
theorem tot_loop {α R : Type} (l : List α) (hl : Sh l) {step : Int × Int × Unit → Option ((Int × Int × Unit) ⊕ R)} (Q : R → Prop)
    (h : ∀ (n : Int) (i : Nat) v, i < l.length → l[i]? = some v → (∃ m, step (n, (i : Int), ()) = some (.inl (m, ((i + 1 : Nat) : Int), ()))) ∨ ∃ r, step (n, (i : Int), ()) = some (.inr r) ∧ Q r)
    (hK : ∀ n, ∃ r, step (n, (l.length : Int), ()) = some (.inr r) ∧ Q r) (n : Int) : ∃ r, iterE (Int × Int × Unit) R step big (n, 0, ()) = some r ∧ Q r := by
  unfold Sh at hl
  refine iter_inv (step := step) (n := big) (t := (n, 0, ())) (I := fun t => ∃ (m : Int) (i : Nat), t = (m, (i : Int), ()) ∧ i ≤ l.length) (μ := fun t => l.length - t.2.1.toNat) (Q := fun _ r => Q r) (fun t ht => ?_) ⟨n, 0, rfl, Nat.zero_le _⟩ (by rw [big_eq]; simp only [Int.toNat_zero]; omega)
  obtain ⟨m, i, rfl, hi⟩ := ht
  by_cases hlt : i < l.length
  · rcases h m i _ hlt (List.getElem?_eq_getElem hlt) with ⟨m', h1⟩ | ⟨r, h1, h2⟩
    · refine .inr ⟨_, h1, ⟨m', i + 1, rfl, hlt⟩, ?_, fun r h => h⟩
      simp only [Int.toNat_natCast]; omega
    · exact .inl ⟨r, h1, h2⟩
  · have : i = l.length := by omega
    subst this
    obtain ⟨r, h1, h2⟩ := hK m
    exact .inl ⟨r, h1, h2⟩
theorem ex_of {X : Option (Bool × Unit)} {Q : Bool × Unit → Prop} {P : Bool → Prop} (h : ∃ r, X = some r ∧ Q r) (h2 : ∀ z, Q (z, ()) → P z) : ∃ z, X = some (z, ()) ∧ P z := by
  obtain ⟨⟨z, ⟨⟩⟩, h1, h3⟩ := h
  exact ⟨z, h1, h2 z h3⟩
theorem map_ex {R T : Type} {X : Option R} {Q : R → Prop} (h : ∃ r, X = some r ∧ Q r) : ∃ r, (Option.map Sum.inr X : Option (T ⊕ R)) = some (Sum.inr r) ∧ Q r := by
  obtain ⟨r, h1, h3⟩ := h
  exact ⟨r, by rw [h1]; rfl, h3⟩
theorem inl_ex {i : Nat} {X : Option ((Int × Int × Unit) ⊕ (Bool × Unit))} (h : ∃ r, X = some r ∧ ∃ m : Int, r = Sum.inl (m, ((i + 1 : Nat) : Int), ())) : (∃ m, X = some (.inl (m, ((i + 1 : Nat) : Int), ()))) ∨ ∃ r, X = some (.inr r) ∧ True := by
  obtain ⟨r, h1, m, rfl⟩ := h
  exact .inl ⟨m, h1⟩
theorem few_ex (c : T28D) (hc : ShC c) : ∃ z, F11 (c, ()) = some (z, ()) ∧ (z = true → c.2.2.2.2.2.2.2.2.2.2.2.2.2.2.2.1.length ≤ 20) := by
  obtain ⟨k, a2, a3, a4, a5, a6, a7, a8, a9, a10, a11, a12, a13, a14, a15, a16, a17, ⟨⟩⟩ := c
  obtain ⟨h8, h9, h10, h15, ⟨h16, hs16⟩, h17⟩ := hc
  simp only at h8 h9 h10 h15 h16 hs16 h17
  unfold F11
  simp only
  by_cases c1 : (10 : Int) < Int.ofNat a8.length
  · exact ⟨false, by simp only [c1, decide_true, cond_true], by simp⟩
  by_cases c2 : (10 : Int) < Int.ofNat a9.length
  · exact ⟨false, by simp only [c1, c2, decide_true, decide_false, cond_true, cond_false], by simp⟩
  by_cases c3 : (10 : Int) < Int.ofNat a10.length
  · exact ⟨false, by simp only [c1, c2, c3, decide_true, decide_false, cond_true, cond_false], by simp⟩
  by_cases c4 : (80 : Int) < Int.ofNat a15.length
  · exact ⟨false, by simp only [c1, c2, c3, c4, decide_true, decide_false, cond_true, cond_false], by simp⟩
  by_cases c5 : (20 : Int) < Int.ofNat a16.length
  · exact ⟨false, by simp only [c1, c2, c3, c4, c5, decide_true, decide_false, cond_true, cond_false], by simp⟩
  by_cases c6 : (80 : Int) < Int.ofNat a17.length
  · exact ⟨false, by simp only [c1, c2, c3, c4, c5, c6, decide_true, decide_false, cond_true, cond_false], by simp⟩
  simp only [c1, c2, c3, c4, c5, c6, decide_false, cond_false]
  have ok : ∀ {α : Type} {l : List α} {i : Nat}, Sh l → i < l.length → wrap64 ((i : Int) + 1) = ((i + 1 : Nat) : Int) := fun hl hi => wrap64_nat (by unfold Sh at hl; omega)
  refine ex_of (Q := fun _ => True) (tot_loop a15 h15 _ (fun n i v hi hv => .inl ?_) (fun n => ?_) _) (fun z _ _ => by simp at c5; show a16.length ≤ 20; omega)
  · simp only [lt_len, hi, decide_true, cond_true, idx_nat, hv, Option.bind_some, ok h15 hi]
    exact ⟨_, rfl⟩
  simp only [lt_len, Nat.lt_irrefl, decide_false, cond_false]
  refine map_ex (tot_loop a16 h16 _ (fun n i v hi hv => ?_) (fun n => ?_) _)
  · simp only [lt_len, hi, decide_true, cond_true, idx_nat, hv, Option.bind_some]
    by_cases d1 : (12 : Int) < Int.ofNat v.2.2.1.2.2.2.2.1.length
    · simp only [d1, decide_true, cond_true]
      exact .inr ⟨_, rfl, trivial⟩
    · simp only [d1, decide_false, cond_false]
      have hv5 := hs16 v (List.mem_of_getElem? hv)
      refine inl_ex (tot_loop v.2.2.1.2.2.2.2.1 hv5 _ (fun n j w hj hw => .inl ?_) (fun n => ?_) _)
      · simp only [lt_len, hj, decide_true, cond_true, idx_nat, hw, Option.bind_some, ok hv5 hj]
        exact ⟨_, rfl⟩
      · simp only [lt_len, Nat.lt_irrefl, decide_false, cond_false]
        exact ⟨_, rfl, n, by rw [ok h16 hi]⟩
  simp only [lt_len, Nat.lt_irrefl, decide_false, cond_false]
  refine map_ex (tot_loop a9 h9 _ (fun n i v hi hv => .inl ?_) (fun n => ?_) _)
  · simp only [lt_len, hi, decide_true, cond_true, idx_nat, hv, Option.bind_some, ok h9 hi]
    exact ⟨_, rfl⟩
  simp only [lt_len, Nat.lt_irrefl, decide_false, cond_false]
  refine map_ex (tot_loop a10 h10 _ (fun n i v hi hv => .inl ?_) (fun n => ?_) _)
  · simp only [lt_len, hi, decide_true, cond_true, idx_nat, hv, Option.bind_some, ok h10 hi]
    exact ⟨_, rfl⟩
  simp only [lt_len, Nat.lt_irrefl, decide_false, cond_false]
  refine map_ex (tot_loop a8 h8 _ (fun n i v hi hv => .inl ?_) (fun n => ?_) _)
  · simp only [lt_len, hi, decide_true, cond_true, idx_nat, hv, Option.bind_some, ok h8 hi]
    exact ⟨_, rfl⟩
  simp only [lt_len, Nat.lt_irrefl, decide_false, cond_false]
  exact ⟨_, rfl, trivial⟩
theorem law3 (x : (argTy P3).den) (hx : Fit47 (argTy P3) x) : F3 x = some (true, ()) := by
  obtain ⟨a, b, n, m, ⟨⟩⟩ : T28D × T28D × Int × Int × Unit := x
  obtain ⟨ha, hb, hn, hm, -⟩ := hx
  have za := szCmd ha
  have zb := szCmd hb
  obtain ⟨f1, e1, -⟩ := few_ex a za.1
  obtain ⟨f2, e2, -⟩ := few_ex b zb.1
  unfold F3
  simp only [awake_eq, e1, e2, Option.bind_some, Bool.not_true, cond_false]
  cases f1 with
  | false => rfl
  | true =>
    cases f2 with
    | false => rfl
    | true =>
      have h1 := job_eq (n, m, a, ()) za.1
      have h2 := rJob_eq (n, m, a, ()) za
      have h3 := cmd_same a a za.1
      rw [dec_true (p := a = a) rfl] at h3
      simp only [Bool.not_true, cond_false, right_eq a za.1, rRight_eq a za, h1, h2, cmd_same a b za.1, rCmd_same a b za.1, h3, Option.bind_some, BEq.rfl, cond_true]
theorem law4 (x : (argTy P4).den) (hx : Fit47 (argTy P4) x) : F4 x = some (true, ()) := by
  obtain ⟨n, m, c, ⟨⟩⟩ : Int × Int × T28D × Unit := x
  have hf : Fit47 T33 (n, m, c, ()) := hx
  have zc := szCmd hf.2.2.1
  obtain ⟨f1, e1, g1⟩ := few_ex c zc.1
  unfold F4
  simp only [awake_eq, e1, Option.bind_some, Bool.not_true, cond_false]
  cases f1 with
  | false => rfl
  | true =>
    have hs := g1 rfl
    have h1 := encode_eq (n, m, c, ()) hf (by show c.2.2.2.2.2.2.2.2.2.2.2.2.2.2.2.1.length ≤ 60000; omega)
    have h2 := rJob_eq (n, m, c, ()) zc
    simp only [Bool.not_true, cond_false, h1, h2, Option.bind_some]
    by_cases hj : JobOk (n, m, c, ())
    · have hr : RightC c := hj.1
      have hl := right_len hr (by omega)
      have hb := bytes_eq (n, m, c, ()) zc hf.2.2.1.2.2.2.1 (fun x hx => (hf.2.2.1.2.2.2.2.2.2.2.1.2 x hx).2.2.2.2.1) (right_plain hr) (by rw [jobB_eq]; simp only [List.length_append, numB_len]; unfold Big; omega)
      rw [dec_true hj]
      simp only [Bool.not_true, cond_false, cond_true, hb, Option.bind_some]
      by_cases h12 : (jobB (n, m, c, ())).length ≤ 12000
      · have e3 : decide ((12000 : Int) < Int.ofNat (jobB (n, m, c, ())).length) = false := decide_eq_false (by simp only [Int.ofNat_eq_natCast]; omega)
        have h3 := back_eq hf (by show c.2.2.2.2.2.2.2.2.2.2.2.2.2.2.2.1.length ≤ 60000; omega) hj h12
        have h4 : F17 (c, c, ()) = _ := rCmd_same c c zc.1
        rw [dec_true (p := c = c) rfl] at h4
        rw [e3, decide_eq_true h12]
        simp only [cond_true, cond_false, h3, Option.bind_some, decide_true, h4]
      · have e3 : decide ((12000 : Int) < Int.ofNat (jobB (n, m, c, ())).length) = true := decide_eq_true (by simp only [Int.ofNat_eq_natCast]; omega)
        rw [e3, decide_eq_false h12]
        rfl
    · rw [dec_false hj]
      rfl
theorem fit_job : FitG T33 jobG := fit_cons fit_num (fit_cons fit_num (fit_cons fit_cmd fit_unit))
theorem law5 (x : (argTy P5).den) (hx : Fit47 (argTy P5) x) : F5 x = some (true, ()) := by
  obtain ⟨b, ⟨⟩⟩ : List UInt8 × Unit := x
  unfold F5
  simp only [awake_eq, Option.bind_some, Bool.not_true, cond_false]
  by_cases h2 : (20000 : Int) < Int.ofNat b.length
  · simp only [h2, decide_true, cond_true]
  have hl : b.length ≤ 20000 := by simp only [Int.ofNat_eq_natCast] at h2; omega
  have hd : F20 (b, PUnit.unit) = _ := decode_eq b (by omega)
  simp only [h2, decide_false, cond_false, hd, Option.bind_some]
  by_cases hg : Good b
  · rw [dec_true hg]
    obtain ⟨h12, g1, g2, g3⟩ := hg
    have hx := jobC.ex (b, false, ()) rfl g1
    have hf := fit_job (b, false, ())
    rw [g2, List.append_nil] at hx
    generalize (jobG (b, false, ())).1 = j at *
    have hb : b = jobB j := hx.2
    have zj := szCmd hf.2.2.1
    have hj := rJob_eq j zj
    rw [dec_true g3] at hj
    have hy := bytes_eq j zj hf.2.2.1.2.2.2.1 (fun x hx => (hf.2.2.1.2.2.2.2.2.2.2.1.2 x hx).2.2.2.2.1) (right_plain g3.1) (by rw [← hb]; unfold Big; omega)
    simp only [cond_true, decide_true, Bool.not_true, cond_false, hj, hy, ← hb, Option.bind_some]
    exact congrArg (fun z => some (z, ())) (decide_eq_true (by simp only [Int.ofNat_eq_natCast]; omega))
  · rw [dec_false hg]
    have h3 := cmd_same NoCmd NoCmd shNo
    rw [dec_true (p := NoCmd = NoCmd) rfl] at h3
    have e : decide ((2 : Int) = 0) = false := rfl
    simp only [cond_false, e, Bool.not_false, cond_true, decide_true, h3, Option.bind_some]
theorem shOps {l : List T48D} (h : Sh l) (k : List T48D) (hk : Sh k) : ShC (3, [], [], [], 0, 0, 0, [], l, k, 0, 0, 0, false, [], [], [], ()) := by
  refine ⟨?_, h, hk, ?_, ⟨?_, fun s hs => by simp at hs⟩, ?_⟩ <;> simp [Sh]
theorem right_txn (l k : List T48D) : RightC (3, [], [], [], 0, 0, 0, [], l, k, 0, 0, 0, false, [], [], [], ()) ↔ OpsOk l ∧ OpsOk k := by
  unfold RightC
  constructor
  · rintro ⟨-, h⟩
    unfold KindOk at h
    simp at h
    exact h.2
  · intro h
    refine ⟨?_, ?_⟩
    · unfold BareOk; simp
    · unfold KindOk
      simp
      exact ⟨⟨fun c hc => by simp at hc, by simp⟩, h⟩
theorem meet_self {o : T48D} (h : OpOk o) (h3 : o.1 ≠ 3) : Meet o o := by
  obtain ⟨hr, hk⟩ := op_range h
  exact ⟨h3, h3, .inl ⟨hr, hk, .inl rfl⟩⟩
theorem meet_three {a b : T48D} (h : a.1 = 3 ∨ b.1 = 3) : ¬ Meet a b := fun hm => by
  rcases h with h | h
  · exact hm.1 h
  · exact hm.2.1 h
theorem opsOk_iff (l : List T48D) : OpsOk l ↔ (∀ o ∈ l, OpOk o) ∧ l.Pairwise (fun a b => ¬ Meet a b) ∧ l.length ≤ 4 := by
  unfold OpsOk
  constructor
  · rintro ⟨h1, h2⟩
    refine ⟨mem_get.1 fun i v hv => (h1 i v hv).1, ?_, h2⟩
    rw [List.pairwise_iff_getElem]
    intro i j hi hj hij
    exact (h1 j _ (List.getElem?_eq_getElem hj)).2 i _ hij (List.getElem?_eq_getElem hi)
  · rintro ⟨h1, h2, h3⟩
    refine ⟨fun i v hv => ⟨h1 v (List.mem_of_getElem? hv), fun j w hj hw => ?_⟩, h3⟩
    rw [List.pairwise_iff_getElem] at h2
    obtain ⟨hi, rfl⟩ := List.getElem?_eq_some_iff.1 hv
    obtain ⟨hj2, rfl⟩ := List.getElem?_eq_some_iff.1 hw
    exact h2 j i hj2 hi hj
/-- one said once more, anywhere -/
theorem ops_more {l : List T48D} {o : T48D} {k : Nat} (h : OpsOk l) (ho : o ∈ l) (hl : l.length ≤ 3) : OpsOk (l.take k ++ o :: l.drop k) ↔ o.1 = 3 := by
  rw [opsOk_iff] at h ⊢
  obtain ⟨h1, h2, h3⟩ := h
  have hmem : ∀ x, x ∈ l.take k ++ o :: l.drop k ↔ x ∈ l := fun x => by
    conv => rhs; rw [← List.take_append_drop k l]
    simp only [List.mem_append, List.mem_cons]
    constructor
    · rintro (h | rfl | h)
      · exact .inl h
      · rw [← List.take_append_drop k l] at ho
        exact List.mem_append.1 ho
      · exact .inr h
    · rintro (h | h)
      · exact .inl h
      · exact .inr (.inr h)
  constructor
  · rintro ⟨-, hp, -⟩
    by_cases h4 : o.1 = 3
    · exact h4
    · exfalso
      have hm := meet_self (h1 o ho) h4
      rw [List.pairwise_append] at hp
      obtain ⟨-, p2, p3⟩ := hp
      rw [← List.take_append_drop k l] at ho
      rcases List.mem_append.1 ho with ho | ho
      · exact p3 o ho o (List.mem_cons_self ..) hm
      · exact (List.pairwise_cons.1 p2).1 o ho hm
  · intro h4
    refine ⟨fun x hx => h1 x ((hmem x).1 hx), ?_, ?_⟩
    · rw [← List.take_append_drop k l, List.pairwise_append] at h2
      obtain ⟨p1, p2, p3⟩ := h2
      rw [List.pairwise_append]
      refine ⟨p1, List.pairwise_cons.2 ⟨fun b _ => meet_three (.inl h4), p2⟩, fun a ha b hb => ?_⟩
      rcases List.mem_cons.1 hb with rfl | hb
      · exact meet_three (.inr h4)
      · exact p3 a ha b hb
    · simp only [List.length_append, List.length_cons, List.length_take, List.length_drop]
      omega
end Go.Proofs.YthafmmjfijpalaaGreat
