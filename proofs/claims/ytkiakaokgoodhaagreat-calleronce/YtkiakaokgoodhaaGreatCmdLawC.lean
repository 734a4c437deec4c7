/-
  Plain laws of what lies below, as this seat reaches them (by a program of the bench: port.py).
-/
import Derived.Test.YtkiakaokgoodhaaGreatCmdLawB
import Derived.Test.YtkiakaokgoodhaaGreatSxR
namespace Go.Proofs.YtkiakaokgoodhaaGreat
open Go.Sx Go Classical
set_option maxRecDepth 10000
theorem any_loopG {α T R : Type} (l : List α) (hl : Sh l) {step : T → Option (T ⊕ R)} (q : α → Prop) (mk : Nat → T) (idxOf : T → Nat) (hmk : ∀ i, idxOf (mk i) = i) (out : Nat → R) (no : R)
    (h1 : ∀ (i : Nat) v, i < l.length → l[i]? = some v → q v → step (mk i) = some (.inl (mk (i + 1))))
    (h2 : ∀ (i : Nat) v, i < l.length → l[i]? = some v → ¬ q v → step (mk i) = some (.inr (out i))) (hK : step (mk l.length) = some (.inr no)) :
    ∃ z, iter step big (mk 0) = some z ∧ ((z = no ∧ ∀ v ∈ l, q v) ∨ ((∃ i, z = out i) ∧ ¬ ∀ v ∈ l, q v)) := by
  unfold Sh at hl
  exact iter_inv (step := step) (n := big) (t := mk 0) (I := fun t => ∃ i : Nat, t = mk i ∧ i ≤ l.length ∧ ∀ j v, j < i → l[j]? = some v → q v) (μ := fun t => l.length - idxOf t)
    (Q := fun _ z => (z = no ∧ ∀ v ∈ l, q v) ∨ ((∃ i, z = out i) ∧ ¬ ∀ v ∈ l, q v)) (fun t ht => by
      obtain ⟨i, rfl, hi, hj⟩ := ht
      by_cases hlt : i < l.length
      · have e := List.getElem?_eq_getElem hlt
        by_cases hq : q l[i]
        · refine .inr ⟨_, h1 i _ hlt e hq, ⟨i + 1, rfl, hlt, fun j v hjl hv => ?_⟩, ?_, fun r h => h⟩
          · by_cases hji : j = i
            · subst hji; rw [e] at hv; cases hv; exact hq
            · exact hj j v (by omega) hv
          · simp only [hmk]; omega
        · exact .inl ⟨_, h2 i _ hlt e hq, .inr ⟨⟨i, rfl⟩, fun h => hq (h _ (List.getElem_mem hlt))⟩⟩
      · have : i = l.length := by omega
        subst this
        refine .inl ⟨_, hK, .inl ⟨rfl, fun v hv => ?_⟩⟩
        obtain ⟨j, hj2, rfl⟩ := List.getElem_of_mem hv
        exact hj j _ hj2 (List.getElem?_eq_getElem hj2)) ⟨0, rfl, Nat.zero_le _, fun j v hj => by omega⟩ (by rw [big_eq]; simp only [hmk]; omega)
def OpOk (o : T48D) : Prop := (o.1 = 1 ∧ o.2.2.1 = [] ∧ IsKey o.2.1 ∧ o.2.2.2.1.length ≤ 40 ∧ Nat40 o.2.2.2.2.1) ∨ ((o.1 = 2 ∨ o.1 = 3) ∧ o.2.2.2.1 = [] ∧ o.2.2.2.2.1 = 0 ∧ IsRange o.2.1 o.2.2.1)
theorem op_eq (o : T48D) : F173 (o, ()) = some (dec' (OpOk o), ()) := by
  obtain ⟨k, a, b, v, n, ⟨⟩⟩ := o
  unfold F173
  simp only [put_eq, range_eq, Option.bind_some]
  apply fin
  · repeat' first | apply base_true | apply base_false | apply base_dec | apply cond_step
  · unfold OpOk; grind
def SzOp (o : T48D) : Prop := St o.2.1 ∧ St o.2.2.1 ∧ St o.2.2.2.1
def InP (a b k : List UInt8) : Prop := IsRange a b ∧ IsKey k ∧ (k = a ∨ (strlt a k = true ∧ strlt k b = true))
theorem in_eq (a b k : List UInt8) : F178 (a, b, k, ()) = some (dec' (InP a b k), ()) := by
  unfold F178
  simp only [range_eq, key_eq, Option.bind_some, strlt_gt]
  apply fin
  · repeat' first | apply base_true | apply base_false | apply base_dec | apply base_b | apply cond_step | apply cond_stepN | apply cond_stepB
  · unfold InP; grind
def Meet (a b : T48D) : Prop := a.1 ≠ 3 ∧ b.1 ≠ 3 ∧ (InP a.2.1 a.2.2.1 b.2.1 ∨ InP b.2.1 b.2.2.1 a.2.1)
def MeetP (a b : T48D) : Prop := a.1 ≠ 3 ∧ b.1 ≠ 3 ∧ (a.2.1 = b.2.1 ∨ InP a.2.1 a.2.2.1 b.2.1 ∨ InP b.2.1 b.2.2.1 a.2.1)
theorem meet_eq (a b : T48D) : F176 (a, b, ()) = some (dec' (MeetP a b), ()) := by
  unfold F176
  simp only [in_eq, Option.bind_some]
  apply fin
  · repeat' first | apply base_true | apply base_false | apply base_dec | apply base_b | apply cond_step | apply cond_stepN | apply cond_stepB
  · unfold MeetP; grind
theorem op_range {o : T48D} (h : OpOk o) : IsRange o.2.1 o.2.2.1 ∧ IsKey o.2.1 := by
  rcases h with h | h
  · exact ⟨⟨h.2.2.1, .inl h.2.1⟩, h.2.2.1⟩
  · exact ⟨h.2.2.2, h.2.2.2.1⟩
theorem meet_iff {a b : T48D} (ha : OpOk a) (hb : OpOk b) : MeetP a b ↔ Meet a b := by
  have h1 := op_range ha
  have h2 := op_range hb
  unfold MeetP Meet InP
  grind
def OpsOk (l : List T48D) : Prop := (∀ (i : Nat) v, l[i]? = some v → OpOk v ∧ ∀ (j : Nat) w, j < i → l[j]? = some w → ¬ Meet w v) ∧ l.length ≤ 4
theorem anyOps_eq (l : List T48D) (hl : Sh l) (o : T48D) : F174a (l, o, ()) = some (!dec' (∀ w ∈ l, ¬ MeetP w o), o, ()) := by
  unfold F174a F177a
  obtain ⟨z, h1, h2⟩ := any_loopG l hl (step := fun (x_1 : Int × T48D) => bif decide (x_1.fst < Int.ofNat (List.length l)) then Option.bind (idx l x_1.fst) fun b => Option.bind (F175a (b, x_1.snd, ())) fun b => bif b.fst then some (Sum.inr (x_1.fst, b.snd)) else some (Sum.inl (wrap64 (x_1.fst + 1), b.snd.fst)) else some (Sum.inr (-1, x_1.snd, ())))
    (fun w => ¬ MeetP w o) (fun i => ((i : Int), o)) (fun t => t.1.toNat) (fun i => by simp) (fun i => ((i : Int), o, ())) (-1, o, ())
    (fun i v hi hv hq => by
      have hi' : i < 9223372036854775807 := by unfold Sh at hl; omega
      unfold F175a
      simp only [lt_len, hi, decide_true, cond_true, idx_nat, hv, Option.bind_some, meet_eq, dec_false hq, cond_false, wrap64_nat hi'])
    (fun i v hi hv hq => by
      unfold F175a
      simp only [lt_len, hi, decide_true, cond_true, idx_nat, hv, Option.bind_some, meet_eq, dec_true (Classical.not_not.1 hq)]) (by simp)
  refine bind_of h1 ?_
  rcases h2 with ⟨rfl, h2⟩ | ⟨⟨i, rfl⟩, h2⟩
  · rw [dec_true h2]; rfl
  · rw [dec_false h2]
    have : decide ((0 : Int) ≤ (i : Int)) = true := decide_eq_true (by omega)
    simp only [this, Bool.not_false]
theorem ops_eq (l : List T48D) (hl : Sh l) : F171 (l, ()) = some (dec' (OpsOk l), ()) := by
  unfold F171
  refine fin (all_loop l hl (fun i v => OpOk v ∧ ∀ w ∈ l.take i, ¬ MeetP w v) (l.length ≤ 4) (fun i v hi hv => ?_) ?_) ?_
  · have hi' : i < 9223372036854775807 := by unfold Sh at hl; omega
    have e2 : sliceO l 0 (i : Int) = some (l.take i) := sliceO_take (by omega)
    have ht : Sh (l.take i) := by unfold Sh at hl ⊢; rw [List.length_take]; omega
    simp only [lt_len, hi, decide_true, cond_true, idx_nat, hv, Option.bind_some, op_eq, e2, anyOps_eq _ ht, wrap64_nat hi']
    apply finS
    · repeat' first | apply stR_true | apply stR_false | apply cs_step | apply cs_stepN | apply cs_stepB
    · grind
  · simp only [lt_len, Nat.lt_irrefl, decide_false, cond_false]
    exact congrArg (fun z => some (Sum.inr (z, ()))) (dec_iff (by simp; omega)).symm
  · unfold OpsOk
    refine and_congr ?_ Iff.rfl
    constructor
    · intro h i v hv
      refine ⟨(h i v hv).1, fun j w hj hw => ?_⟩
      have := (h i v hv).2 w (List.mem_iff_getElem?.2 ⟨j, by rw [List.getElem?_take, if_pos hj]; exact hw⟩)
      rwa [meet_iff (h j w hw).1 (h i v hv).1] at this
    · intro h i v hv
      refine ⟨(h i v hv).1, fun w hw => ?_⟩
      obtain ⟨j, hj⟩ := List.mem_iff_getElem?.1 hw
      rw [List.getElem?_take] at hj
      by_cases hji : j < i
      · rw [if_pos hji] at hj
        rw [meet_iff (h j w hj).1 (h i v hv).1]
        exact (h i v hv).2 j w hji hj
      · rw [if_neg hji] at hj; cases hj
end Go.Proofs.YtkiakaokgoodhaaGreat
