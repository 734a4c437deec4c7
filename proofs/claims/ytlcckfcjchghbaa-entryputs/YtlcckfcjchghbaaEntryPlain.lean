/-
  entry: what is right, and runs.
-/
import Derived.Test.YtlcckfcjchghbaaOctOut
namespace Go.Proofs.Ytlcckfcjchghbaa
open Go.Sx Go Classical
set_option maxRecDepth 10000
theorem iter_true {T R : Type} {step : T → Option (T ⊕ R)} {r0 : R} (I : T → Prop) (μ : T → Nat)
    (h : ∀ t, I t → step t = some (.inr r0) ∨ ∃ t', step t = some (.inl t') ∧ I t' ∧ μ t' < μ t) {t : T} (ht : I t) (hm : μ t < 9223372036854775808) : iter step big t = some r0 := by
  obtain ⟨r, h1, h2⟩ := iter_inv (step := step) (I := I) (μ := μ) (Q := fun _ r => r = r0) (fun t ht => by
    rcases h t ht with h | ⟨t', h1, h2, h3⟩
    · exact .inl ⟨_, h, rfl⟩
    · exact .inr ⟨t', h1, h2, h3, fun r h => h⟩) (n := big) ht (by rw [big_eq]; omega)
  rw [h1, h2]
abbrev Ent : Type := Int × Int × List UInt8 × Unit
def Num (n : Int) : Prop := 1 ≤ n ∧ n ≤ 1099511627776
def RightE (e : Ent) : Prop := Num e.1 ∧ Num e.2.1 ∧ e.2.2.1.length ≤ 12000
theorem number_eq (n : Int) : F38 (n, ()) = some (decide (Num n), ()) := by
  unfold F38 Num
  by_cases h : 1 ≤ n <;> simp [h]
theorem refNumber_eq (n : Int) : F39 (n, ()) = some (decide (Num n), ()) := by
  unfold F39 Num
  by_cases h : 1 ≤ n <;> simp [h]
theorem right_eq (e : Ent) : F9 (e, ()) = some (decide (RightE e), ()) := by
  obtain ⟨a, b, s, ⟨⟩⟩ := e
  unfold F9 RightE
  simp only [number_eq, Option.bind_some]
  by_cases h1 : Num a <;> by_cases h2 : Num b <;> simp [h1, h2] <;> omega
theorem refRight_eq (e : Ent) : F10 (e, ()) = some (decide (RightE e), ()) := by
  obtain ⟨a, b, s, ⟨⟩⟩ := e
  unfold F10 RightE
  simp only [refNumber_eq, Option.bind_some]
  by_cases h1 : Num a <;> by_cases h2 : Num b <;> simp [h1, h2] <;> omega
noncomputable def runP : Int → Int → List Ent → Bool
  | _, _, [] => true
  | i, t, e :: r => bif decide (RightE e ∧ e.1 - 1 = i ∧ t ≤ e.2.1) then runP e.1 e.2.1 r else false
def runStep (l : List Ent) : Int × Int × Int × Unit → Option ((Int × Int × Int × Unit) ⊕ (Bool × Unit)) := fun x_1 =>
      bif decide (x_1.snd.snd.fst < Int.ofNat (List.length l)) then
        Option.bind (idx l x_1.snd.snd.fst) fun (b : Ent) =>
          Option.bind (F9 (b, ())) fun (b_1 : Bool × Unit) =>
            bif !b_1.fst then some (Sum.inr (false, ()))
            else
              bif !decide (wrap64 (b.fst - 1) = x_1.fst) then some (Sum.inr (false, ()))
              else
                bif decide (b.snd.fst < x_1.snd.fst) then some (Sum.inr (false, ()))
                else some (Sum.inl (b.fst, b.snd.fst, wrap64 (x_1.snd.snd.fst + 1), ()))
      else some (Sum.inr (true, ()))
theorem runStep_end (l : List Ent) (i t : Int) : runStep l (i, t, (l.length : Int), ()) = some (.inr (true, ())) := by
  unfold runStep
  simp [lt_len]
theorem runStep_eq (l : List Ent) (k : Nat) (hlt : k < l.length) (hk : k < 9223372036854775807) (i t : Int) : runStep l (i, t, (k : Int), ()) =
    bif decide (RightE l[k] ∧ (l[k]).1 - 1 = i ∧ t ≤ (l[k]).2.1) then some (.inl ((l[k]).1, (l[k]).2.1, ((k + 1 : Nat) : Int), ())) else some (.inr (false, ())) := by
  unfold runStep
  simp only [lt_len, hlt, decide_true, cond_true, idx_nat, List.getElem?_eq_getElem hlt, Option.bind_some, right_eq, wrap64_nat hk]
  by_cases h1 : RightE l[k]
  · have e1 : wrap64 ((l[k]).1 - 1) = (l[k]).1 - 1 := wrap64_eq (by have := h1.1.1; omega) (by have := h1.1.2; omega)
    simp only [h1, decide_true, Bool.not_true, cond_false, e1, true_and]
    by_cases h2 : (l[k]).1 - 1 = i
    · simp only [h2, decide_true, Bool.not_true, cond_false, true_and]
      by_cases h3 : (l[k]).2.1 < t
      · have : ¬ t ≤ (l[k]).2.1 := by omega
        simp only [h3, this, decide_true, decide_false, cond_true, cond_false]
      · have h3' : t ≤ (l[k]).2.1 := by omega
        simp only [h3, h3', decide_false, decide_true, cond_false, cond_true]
    · simp only [h2, false_and, decide_false, Bool.not_false, cond_true, cond_false]
  · simp only [h1, false_and, decide_false, Bool.not_false, cond_true, cond_false]
theorem run_eq (l : List Ent) (hl : l.length ≤ 9223372036854775806) (i t : Int) : F11 (i, t, l, ()) = some (runP i t l, ()) := by
  have main : ∀ (d k m : Nat) (i t : Int), k + d = l.length → d < m → iter (runStep l) m (i, t, (k : Int), ()) = some (runP i t (l.drop k), ()) := by
    intro d
    induction d with
    | zero =>
      intro k m i t hk hm
      cases m with
      | zero => omega
      | succ m =>
        have : k = l.length := by omega
        subst this
        simp only [iter, runStep_end, List.drop_length, runP, Option.bind_some, Sum.elim_inr]
    | succ d ih =>
      intro k m i t hk hm
      cases m with
      | zero => omega
      | succ m =>
        have hlt : k < l.length := by omega
        have := ih (k + 1) m (l[k]).1 (l[k]).2.1 (by omega) (by omega)
        rw [List.drop_eq_getElem_cons hlt]
        simp only [iter, runStep_eq l k hlt (by omega), runP]
        cases decide (RightE l[k] ∧ (l[k]).1 - 1 = i ∧ t ≤ (l[k]).2.1) with
        | true => exact this
        | false => rfl
  exact main l.length 0 big i t (by omega) (by rw [big_eq]; omega)
def refStep (index : Int) (l : List Ent) : Int × Int × Unit → Option ((Int × Int × Unit) ⊕ (Bool × Unit)) := fun x_1 =>
      bif decide (x_1.snd.fst < Int.ofNat (List.length l)) then
        Option.bind (idx l x_1.snd.fst) fun (b : Ent) =>
          Option.bind (F10 (b, ())) fun (b : Bool × Unit) =>
            bif !b.fst then some (Sum.inr (false, ()))
            else
              Option.bind (idx l x_1.snd.fst) fun (b : Ent) =>
                bif decide (b.snd.fst < x_1.fst) then some (Sum.inr (false, ()))
                else
                  Option.bind
                    (bif decide (x_1.snd.fst = 0) then
                      bif decide (index < 0) then some (Sum.inr (Sum.inr (false, ())))
                      else
                        bif decide (1099511627776 ≤ index) then some (Sum.inr (Sum.inr (false, ())))
                        else
                          Option.bind (idx l x_1.snd.fst) fun (b : Ent) =>
                            bif !decide (b.fst = wrap64 (index + 1)) then
                              some (Sum.inr (Sum.inr (false, ())))
                            else
                              bif decide (0 < x_1.snd.fst) then
                                Option.bind (idx l x_1.snd.fst) fun (b : Ent) =>
                                  Option.bind (idx l (wrap64 (x_1.snd.fst - 1)))
                                    fun (b_1 : Ent) =>
                                    bif !decide (b.fst = wrap64 (b_1.fst + 1)) then
                                      some (Sum.inr (Sum.inr (false, ())))
                                    else some (Sum.inl ())
                              else some (Sum.inl ())
                    else
                      bif decide (0 < x_1.snd.fst) then
                        Option.bind (idx l x_1.snd.fst) fun (b : Ent) =>
                          Option.bind (idx l (wrap64 (x_1.snd.fst - 1)))
                            fun (b_1 : Ent) =>
                            bif !decide (b.fst = wrap64 (b_1.fst + 1)) then
                              some (Sum.inr (Sum.inr (false, ())))
                            else some (Sum.inl ())
                      else some (Sum.inl ()))
                    fun (o : Unit ⊕ (Int × Int × Unit) ⊕ Bool × Unit) =>
                    Sum.elim
                      (fun (x_2 : Unit) =>
                        Option.bind (idx l x_1.snd.fst) fun (b : Ent) =>
                          some (Sum.inl (b.snd.fst, wrap64 (x_1.snd.fst + 1), ())))
                      (fun (val : (Int × Int × Unit) ⊕ Bool × Unit) => some val) o
      else some (Sum.inr (true, ()))
theorem refStep_end (index : Int) (l : List Ent) (t : Int) : refStep index l (t, (l.length : Int), ()) = some (.inr (true, ())) := by
  unfold refStep
  simp [lt_len]
/-- the index ahead of place k -/
def prev (index : Int) (l : List Ent) (k : Nat) : Int := match k with
  | 0 => index
  | k + 1 => (l.getD k (0, 0, [], ())).1
theorem refStep_eq (index : Int) (l : List Ent) (k : Nat) (hlt : k < l.length) (hk : k < 9223372036854775807) (hp : 0 < k → Num (prev index l k)) (t : Int) : refStep index l (t, (k : Int), ()) =
    bif decide (RightE l[k] ∧ (l[k]).1 - 1 = prev index l k ∧ t ≤ (l[k]).2.1) then some (.inl ((l[k]).2.1, ((k + 1 : Nat) : Int), ())) else some (.inr (false, ())) := by
  unfold refStep
  simp only [lt_len, hlt, decide_true, cond_true, idx_nat, List.getElem?_eq_getElem hlt, Option.bind_some, refRight_eq, wrap64_nat hk]
  by_cases h1 : RightE l[k]
  · simp only [h1, decide_true, Bool.not_true, cond_false, true_and]
    have hr := h1.1
    unfold Num at hr
    by_cases h3 : (l[k]).2.1 < t
    · have : ¬ t ≤ (l[k]).2.1 := by omega
      simp only [h3, this, and_false, decide_true, decide_false, cond_true, cond_false]
    · have h3' : t ≤ (l[k]).2.1 := by omega
      simp only [h3, h3', and_true, decide_false, cond_false]
      cases k with
      | zero =>
        simp only [prev, Int.natCast_zero, decide_true, cond_true, Int.lt_irrefl, decide_false, cond_false]
        by_cases c1 : index < 0
        · have : ¬ ((l[0]).1 - 1 = index) := by omega
          simp [c1, this]
        · by_cases c2 : 1099511627776 ≤ index
          · have : ¬ ((l[0]).1 - 1 = index) := by omega
            simp [c1, c2, this]
          · have e : wrap64 (index + 1) = index + 1 := wrap64_eq (by omega) (by omega)
            by_cases c3 : (l[0]).1 = index + 1
            · have : (l[0]).1 - 1 = index := by omega
              simp [c1, c2, e, c3]
            · have : ¬ ((l[0]).1 - 1 = index) := by omega
              simp [c1, c2, e, c3, this]
      | succ j =>
        have hj : j < l.length := by omega
        have hp' : Num (l[j]).1 := by simpa [prev, List.getD_eq_getElem?_getD, List.getElem?_eq_getElem hj] using hp (by omega)
        have e0 : decide (((j + 1 : Nat) : Int) = 0) = false := decide_eq_false (by omega)
        have e1 : decide ((0 : Int) < ((j + 1 : Nat) : Int)) = true := decide_eq_true (by omega)
        have e2 : wrap64 (((j + 1 : Nat) : Int) - 1) = (j : Int) := by rw [wrap64_eq (by omega) (by omega)]; omega
        have e3 : wrap64 ((l[j]).1 + 1) = (l[j]).1 + 1 := wrap64_eq (by have := hp'.1; omega) (by have := hp'.2; omega)
        have e4 : prev index l (j + 1) = (l[j]).1 := by simp [prev, List.getD_eq_getElem?_getD, List.getElem?_eq_getElem hj]
        simp only [e0, e1, e2, e4, idx_nat, List.getElem?_eq_getElem hj, Option.bind_some, cond_true, cond_false, e3]
        by_cases c3 : (l[j + 1]).1 = (l[j]).1 + 1
        · have : (l[j + 1]).1 - 1 = (l[j]).1 := by omega
          simp only [c3, this, decide_true, Bool.not_true, cond_false, Option.bind_some, Sum.elim_inl]
          have : (l[j]).1 + 1 - 1 = (l[j]).1 := by omega
          simp only [this, decide_true, cond_true]
        · have : ¬ ((l[j + 1]).1 - 1 = (l[j]).1) := by omega
          simp only [c3, this, decide_false, Bool.not_false, cond_true, cond_false, Option.bind_some, Sum.elim_inr]
  · simp only [h1, false_and, decide_false, Bool.not_false, cond_true, cond_false]
theorem refRun_eq (index : Int) (l : List Ent) (hl : l.length ≤ 9223372036854775806) (t : Int) : F12 (index, t, l, ()) = some (runP index t l, ()) := by
  have main : ∀ (d k m : Nat) (t : Int), k + d = l.length → d < m → (0 < k → Num (prev index l k)) → iter (refStep index l) m (t, (k : Int), ()) = some (runP (prev index l k) t (l.drop k), ()) := by
    intro d
    induction d with
    | zero =>
      intro k m t hk hm _
      cases m with
      | zero => omega
      | succ m =>
        have : k = l.length := by omega
        subst this
        simp only [iter, refStep_end, List.drop_length, runP, Option.bind_some, Sum.elim_inr]
    | succ d ih =>
      intro k m t hk hm hp
      cases m with
      | zero => omega
      | succ m =>
        have hlt : k < l.length := by omega
        have e4 : prev index l (k + 1) = (l[k]).1 := by simp [prev, List.getD_eq_getElem?_getD, List.getElem?_eq_getElem hlt]
        rw [List.drop_eq_getElem_cons hlt]
        simp only [iter, refStep_eq index l k hlt (by omega) hp, runP]
        by_cases hc : RightE l[k] ∧ (l[k]).1 - 1 = prev index l k ∧ t ≤ (l[k]).2.1
        · have := ih (k + 1) m (l[k]).2.1 (by omega) (by omega) (fun _ => by rw [e4]; exact hc.1.1)
          rw [e4] at this
          simp only [hc, and_self, decide_true, cond_true, Option.bind_some, Sum.elim_inl]
          exact this
        · simp only [hc, decide_false, cond_false, Option.bind_some, Sum.elim_inr]
  exact main l.length 0 big t (by omega) (by rw [big_eq]; omega) (fun h => absurd h (by omega))
end Go.Proofs.Ytlcckfcjchghbaa
