/-
  entry: the law of lists that are the same.
-/
import Derived.Test.YtlcckfcjchghbaaEntryLawA
namespace Go.Proofs.Ytlcckfcjchghbaa
open Go.Sx Go Classical
set_option maxRecDepth 10000
theorem one_eq (a b : Ent) : F21 (a, b, ()) = some (decide (a = b), ()) := by
  obtain ⟨a1, a2, a3, ⟨⟩⟩ := a
  obtain ⟨b1, b2, b3, ⟨⟩⟩ := b
  unfold F21
  by_cases h1 : a1 = b1 <;> by_cases h2 : a2 = b2 <;> by_cases h3 : a3 = b3 <;> simp [h1, h2, h3]
theorem fn_eq (a b : Ent) : F41 (a, b, ()) = some (decide (a = b), ()) := by
  rw [← one_eq]
  rfl
def sameStep (a b : List Ent) (f : Ent × Ent × Unit → Option (Bool × Unit)) : Int × Unit → Option ((Int × Unit) ⊕ (Bool × Unit)) := fun x_1 =>
        bif decide (x_1.fst < Int.ofNat (List.length a)) then
          Option.bind (idx a x_1.fst) fun (x : Ent) =>
            Option.bind (idx b x_1.fst) fun (y : Ent) =>
              Option.bind (f (x, y, ())) fun (b : Bool × Unit) =>
                bif !b.fst then some (Sum.inr (false, ()))
                else some (Sum.inl (wrap64 (x_1.fst + 1), ()))
        else some (Sum.inr (true, ()))
theorem sameStep_main (a b : List Ent) (f : Ent × Ent × Unit → Option (Bool × Unit)) (hf : ∀ x y, f (x, y, ()) = some (decide (x = y), ())) (hl : a.length = b.length) (ha : a.length ≤ 9223372036854775806) :
    ∀ (d k m : Nat), k + d = a.length → d < m → iter (sameStep a b f) m ((k : Int), ()) = some (decide (a.drop k = b.drop k), ()) := by
  intro d
  induction d with
  | zero =>
    intro k m hk hm
    cases m with
    | zero => omega
    | succ m =>
      have : k = a.length := by omega
      have e : sameStep a b f ((k : Int), ()) = some (.inr (true, ())) := by
        unfold sameStep
        have : ¬ k < a.length := by omega
        simp only [lt_len, this, decide_false, cond_false]
      have e2 : a.drop k = [] := List.drop_of_length_le (by omega)
      have e3 : b.drop k = [] := List.drop_of_length_le (by omega)
      simp only [iter, e, e2, e3, decide_true, Option.bind_some, Sum.elim_inr]
  | succ d ih =>
    intro k m hk hm
    cases m with
    | zero => omega
    | succ m =>
      have h1 : k < a.length := by omega
      have h2 : k < b.length := by omega
      have := ih (k + 1) m (by omega) (by omega)
      rw [List.drop_eq_getElem_cons h1, List.drop_eq_getElem_cons h2]
      by_cases h : a[k] = b[k]
      · have e : sameStep a b f ((k : Int), ()) = some (.inl (((k + 1 : Nat) : Int), ())) := by
          unfold sameStep
          simp only [lt_len, h1, decide_true, cond_true, idx_nat, List.getElem?_eq_getElem h1, List.getElem?_eq_getElem h2, Option.bind_some, hf, h, Bool.not_true, cond_false, wrap64_nat (show k < 9223372036854775807 by omega)]
        simp only [iter, e, Option.bind_some, Sum.elim_inl]
        rw [this]
        have : (a[k] :: a.drop (k + 1) = b[k] :: b.drop (k + 1)) = (a.drop (k + 1) = b.drop (k + 1)) := by rw [List.cons.injEq]; simp [h]
        simp only [this]
      · have e : sameStep a b f ((k : Int), ()) = some (.inr (false, ())) := by
          unfold sameStep
          simp only [lt_len, h1, decide_true, cond_true, idx_nat, List.getElem?_eq_getElem h1, List.getElem?_eq_getElem h2, Option.bind_some, hf, h, decide_false, Bool.not_false]
        have hn : ¬ (a[k] :: a.drop (k + 1) = b[k] :: b.drop (k + 1)) := fun hh => h (List.cons.inj hh).1
        simp only [iter, e, hn, decide_false, Option.bind_some, Sum.elim_inr]
theorem len_same (a b : List Ent) : decide (Int.ofNat a.length = Int.ofNat b.length) = decide (a.length = b.length) := by
  rw [decide_eq_decide]; exact Int.ofNat_inj
theorem refSame_eq (a b : List Ent) (ha : a.length ≤ 9223372036854775806) : F18 (a, b, ()) = some (decide (a = b), ()) := by
  unfold F18
  simp only [len_same]
  by_cases h : a.length = b.length
  · simp only [h, decide_true, Bool.not_true, cond_false]
    rw [← h]
    exact sameStep_main a b F21 one_eq h ha a.length 0 big (by omega) (by rw [big_eq]; omega)
  · have : ¬ a = b := fun e => h (by rw [e])
    simp only [h, this, decide_false, Bool.not_false, cond_true]
theorem same_eq (a b : List Ent) (ha : a.length ≤ 9223372036854775806) : F17 (a, b, ()) = some (decide (a = b), ()) := by
  unfold F17 F40a
  simp only [len_same]
  by_cases h : a.length = b.length
  · simp only [h, decide_true, Bool.not_true, cond_false]
    rw [← h]
    exact bind_of (sameStep_main a b F41 fn_eq h ha a.length 0 big (by omega) (by rw [big_eq]; omega)) rfl
  · have : ¬ a = b := fun e => h (by rw [e])
    simp only [h, this, decide_false, Bool.not_false, cond_true, Option.bind_some]
def fewStep (l : List Ent) (n : Int) : Int × Int × Unit → Option ((Int × Int × Unit) ⊕ (Bool × Unit)) := fun (x_1 : Int × Int × Unit) =>
      bif decide (x_1.snd.fst < Int.ofNat (List.length l)) then
        Option.bind (idx l x_1.snd.fst) fun (b : Ent) =>
          bif decide (n ≤ x_1.snd.fst) then some (Sum.inr (false, ()))
          else
            bif decide (40000 < wrap64 (x_1.fst + Int.ofNat (List.length b.snd.snd.fst))) then
              some (Sum.inr (false, ()))
            else
              some
                (Sum.inl
                  (wrap64 (x_1.fst + Int.ofNat (List.length b.snd.snd.fst)),
                    wrap64 (x_1.snd.fst + 1), ()))
      else some (Sum.inr (true, ()))
theorem few_ok (l : List Ent) (hl : l.length ≤ 9223372036854775806) : ∃ b, F8 (l, 40, ()) = some (b, ()) ∧ (b = true → l.length ≤ 40) := by
  obtain ⟨r, h, hq⟩ := iter_inv (step := fewStep l 40) (I := fun t => ∃ (i : Nat) (a : Int), i ≤ l.length ∧ i ≤ 40 ∧ t = (a, (i : Int), ())) (μ := fun t => l.length - t.2.1.toNat) (Q := fun _ r => r.1 = true → l.length ≤ 40) (fun t ht => by
        obtain ⟨i, a, hi, h40, rfl⟩ := ht
        unfold fewStep
        by_cases h : i < l.length
        · simp only [lt_len, h, decide_true, cond_true, idx_nat, List.getElem?_eq_getElem h, Option.bind_some]
          by_cases hn : (40 : Int) ≤ (i : Int)
          · simp only [hn, decide_true, cond_true]
            exact .inl ⟨_, rfl, fun h => Bool.noConfusion h⟩
          · simp only [hn, decide_false, cond_false]
            cases decide (40000 < wrap64 (a + Int.ofNat (l[i].2.2.1).length)) with
            | true => exact .inl ⟨_, rfl, fun h => Bool.noConfusion h⟩
            | false =>
              right
              rw [wrap64_nat (show i < 9223372036854775807 by omega)]
              exact ⟨_, rfl, ⟨i + 1, _, h, by omega, rfl⟩, by simp only [Int.toNat_natCast]; omega, fun _ h => h⟩
        · left
          have : i = l.length := by omega
          subst this
          exact ⟨(true, ()), by simp [lt_len], fun _ => h40⟩) (n := big) (t := (0, 0, ())) ⟨0, 0, Nat.zero_le _, Nat.zero_le _, rfl⟩ (by rw [big_eq]; simp; omega)
  obtain ⟨b, ⟨⟩⟩ := r
  exact ⟨b, h, hq⟩
theorem law4 (x : (argTy P4).den) (hx : Fit47 (argTy P4) x) : F4 x = some (true, ()) := by
  obtain ⟨l, r, at', ⟨⟩⟩ : List Ent × List Ent × UInt8 × Unit := x
  obtain ⟨⟨hl, hle⟩, ⟨hr, -⟩, -⟩ := hx
  have hl' : l.length ≤ 140737488351232 := hl
  have hr' : r.length ≤ 140737488351232 := hr
  obtain ⟨b1, f1, g1⟩ := few_ok l (by omega)
  obtain ⟨b2, f2, g2⟩ := few_ok r (by omega)
  unfold F4
  simp only [awake_eq, Option.bind_some, Bool.not_true, cond_false, f1, f2, same_eq l r (by omega), refSame_eq l r (by omega), same_eq l l (by omega), BEq.rfl, decide_true]
  cases b1 with
  | false => rfl
  | true =>
    cases b2 with
    | false => rfl
    | true =>
      have h40 := g1 rfl
      simp only [Bool.not_true, cond_false]
      by_cases h0 : l.length = 0
      · have : decide (Int.ofNat l.length = 0) = true := decide_eq_true (by rw [ofNat_len]; omega)
        simp only [this, cond_true]
      · have e0 : decide (Int.ofNat l.length = 0) = false := decide_eq_false (by rw [ofNat_len]; omega)
        simp only [e0, cond_false]
        rw [appO_eq (by simp [capB]; omega)]
        simp only [Option.bind_some, List.nil_append]
        have ha := at'.toNat_lt
        have e1 : wrap64 (intOf8 at') = ((at'.toNat : Nat) : Int) := wrap64_eq (by unfold intOf8; omega) (by unfold intOf8; omega)
        have e2 : remO ((at'.toNat : Nat) : Int) (Int.ofNat l.length) = some ((at'.toNat % l.length : Nat) : Int) := by
          unfold remO
          rw [e0]
          rfl
        have hk : at'.toNat % l.length < l.length := Nat.mod_lt _ (by omega)
        rw [e1, e2]
        generalize at'.toNat % l.length = k at hk
        have e3 : idxN l (k : Int) = some k := by
          unfold idxN
          have : (0 : Int) ≤ (k : Int) ∧ (k : Int) < (l.length : Int) := ⟨by omega, by omega⟩
          simp only [this, and_self, decide_true, cond_true, Int.toNat_natCast]
        have hd : (l[k].2.2.1).length ≤ 140737488351232 := (hle l[k] (List.getElem_mem hk)).2.2.1.1
        simp only [Option.bind_some, e3, List.getElem?_eq_getElem hk]
        rw [appU_eq (by simp; omega)]
        simp only [Option.bind_some, List.nil_append]
        rw [appU_eq (by simp; omega)]
        simp only [Option.bind_some]
        generalize hc : l.set k ((l[k]).1, (l[k]).2.1, (l[k]).2.2.1 ++ [at'], (l[k]).2.2.2) = c
        have hcl : c.length = l.length := by rw [← hc]; simp
        have hne : ¬ l = c := by
          intro e
          have h1 : c[k]? = some ((l[k]).1, (l[k]).2.1, (l[k]).2.2.1 ++ [at'], (l[k]).2.2.2) := by rw [← hc]; simp [hk]
          rw [← e, List.getElem?_eq_getElem hk] at h1
          have h2 := congrArg (fun e : Ent => e.2.2.1.length) (Option.some.inj h1)
          simp at h2
        have hs : sliceO c 1 (c.length : Int) = some (c.drop 1) := sliceO_drop (n := 1) (by omega)
        have hne2 : ¬ l = c.drop 1 := by
          intro e
          have := congrArg List.length e
          rw [List.length_drop] at this
          omega
        simp only [same_eq l c (by omega), hne, decide_false, Bool.not_false, cond_true, Option.bind_some, hs, same_eq l (c.drop 1) (by omega), hne2, same_eq c c (by omega), decide_true]
end Go.Proofs.Ytlcckfcjchghbaa
