/-
  lease: the four laws.
-/
import Derived.Test.YtmgniagajmfhaaaLeaseLawD
namespace Go.Proofs.Ytmgniagajmfhaaa
open Go.Sx Go Classical
set_option maxRecDepth 10000
theorem same_self (l : List Al) (h : l.length ≤ 1000000000) : F37 (l, l, ()) = some (true, ()) := by
  unfold F37
  simp only [decide_true, Bool.not_true, cond_false]
  refine loop_true (fun t => ∃ (k : Nat), k ≤ l.length ∧ t = ((k : Int), ())) (fun t => l.length - t.1.toNat) (fun t ht => ?_) ⟨0, Nat.zero_le _, rfl⟩ (by show l.length - 0 < _; omega)
  obtain ⟨k, hk, rfl⟩ := ht
  by_cases h : k < l.length
  · right
    simp only [lt_len, h, decide_true, cond_true, idx_nat, List.getElem?_eq_getElem h, Option.bind_some, Bool.and_self, Bool.not_true, cond_false, wrap64_nat (show k < 9223372036854775807 by omega)]
    exact ⟨_, rfl, ⟨k + 1, h, rfl⟩, by show l.length - (((k + 1 : Nat) : Int)).toNat < l.length - (k : Int).toNat; omega⟩
  · left
    have : k = l.length := by omega
    subst this
    simp only [lt_len, Nat.lt_irrefl, decide_false, cond_false]
theorem allS_len (m : TL) (now : Int) : (allS m now).length ≤ (toL m).length := by
  unfold allS
  cases decide (Tim now) with
  | true => simp only [cond_true, List.length_map, docL_len, Nat.le_refl]
  | false => exact Nat.zero_le _
theorem dueS_len (m : TL) (now : Int) : (dueS m now).length ≤ (toL m).length := by
  unfold dueS
  rw [← docL_len]
  induction docL m with
  | nil => exact Nat.le_refl _
  | cons x l ih =>
    rw [List.flatMap_cons, List.length_append, List.length_cons]
    cases (decide (Tim now) && dueC now x) with
    | true => simp only [cond_true, List.length_cons, List.length_nil]; omega
    | false => simp only [cond_false, List.length_nil]; omega
theorem get_eq {m : TL} {n : Nat} (hm : LI m n) (hn : n ≤ 1000000) (id now : Int) : F19 (((m, ()), ()), id, now, ()) = some ((bif decide (Tim now) then (getL ltI id (toL m)).elim ((0, 0, 0, ()), false, ()) (fun tm => (toldL (id, tm) now, true, ())) else ((0, 0, 0, ()), false, ()) : Al × Bool × Unit)) := by
  unfold F19
  simp only [tget_eq hm hn, Option.bind_some, times_eq]
  cases hg : getL ltI id (toL m) with
  | none => cases decide (Tim now) <;> rfl
  | some tm =>
    simp only [Option.elim_some, Bool.not_true, cond_false]
    by_cases ht : Tim now
    · simp only [ht, decide_true, Bool.not_true, cond_false, cond_true, told_eq hn (get_ok hm hg) ht, Option.bind_some]
      rfl
    · simp only [ht, decide_false, Bool.not_false, cond_true, cond_false]
theorem held_eq {m : TL} {n : Nat} (hm : LI m n) (hn : n ≤ 1000000) (id : Int) : F20 (((m, ()), ()), id, ()) = some ((getL ltI id (toL m)).elim false (fun tm => tm.2.2.2.1), ()) := by
  unfold F20
  simp only [tget_eq hm hn, Option.bind_some]
  cases getL ltI id (toL m) with
  | none => rfl
  | some tm => rfl
theorem is_eq {m : TL} {n : Nat} (hm : LI m n) (hn : n ≤ 1000000) (now : Int) : F15 (((m, ()), ()), docL m, now, ()) = some (true, ()) := by
  have hl := hm.len
  have hd := docL_len m
  have h1 := allS_len m now
  have h2 := dueS_len m now
  unfold F15
  simp only [all_eq hm hn, refAll_eq hm hn, Option.bind_some, same_self _ (show (allS m now).length ≤ 1000000000 by omega), Bool.not_true, cond_false, due_eq hm hn, refDue_eq hm hn, decide_true]
  refine loop_true (fun t => ∃ (k : Nat), k ≤ (dueS m now).length ∧ t = ((k : Int), ())) (fun t => (dueS m now).length - t.1.toNat) (fun t ht => ?_) ⟨0, Nat.zero_le _, rfl⟩ (by show (dueS m now).length - 0 < _; omega)
  obtain ⟨k, hk, rfl⟩ := ht
  by_cases h : k < (dueS m now).length
  · right
    simp only [lt_len, h, decide_true, cond_true, idxN_nat _ _ h, List.getElem?_eq_getElem h, Option.bind_some, Bool.not_true, cond_false, wrap64_nat (show k < 9223372036854775807 by omega)]
    exact ⟨_, rfl, ⟨k + 1, h, rfl⟩, by show (dueS m now).length - (((k + 1 : Nat) : Int)).toNat < (dueS m now).length - (k : Int).toNat; omega⟩
  · left
    have : k = (dueS m now).length := by omega
    subst this
    simp only [lt_len, Nat.lt_irrefl, decide_false, cond_false]
    apply map_inr
    refine loop_true (fun t => ∃ (k : Nat), k ≤ (docL m).length ∧ t = ((k : Int), ())) (fun t => (docL m).length - t.1.toNat) (fun t ht => ?_) ⟨0, Nat.zero_le _, rfl⟩ (by show (docL m).length - 0 < _; omega)
    obtain ⟨k, hk, rfl⟩ := ht
    by_cases h : k < (docL m).length
    · right
      refine ⟨(((k + 1 : Nat) : Int), ()), ?_, ⟨k + 1, h, rfl⟩, by show (docL m).length - (((k + 1 : Nat) : Int)).toNat < (docL m).length - (k : Int).toNat; omega⟩
      obtain ⟨e, he, hx⟩ := List.mem_map.1 (List.getElem_mem h)
      obtain ⟨ek, et, ⟨⟩⟩ := e
      have hg : getL ltI (docL m)[k].1 (toL m) = some et := by
        rw [← hx]; exact (getL_eq LO.int hm.1.2.1).2 he
      have hh : et.2.2.2.1 = (docL m)[k].2.2.2.2.1 := by rw [← hx]; rfl
      have ht2 : ∀ now, toldL ((docL m)[k].1, et) now = toldL (docL m)[k] now := fun now => by rw [← hx]; rfl
      simp only [lt_len, h, decide_true, cond_true, idx_nat, List.getElem?_eq_getElem h, Option.bind_some, get_eq hm hn, held_eq hm hn, hg, Option.elim_some, hh, BEq.rfl, Bool.not_true, cond_false, refTime_eq, wrap64_nat (show k < 9223372036854775807 by omega)]
      by_cases ht : Tim now
      · have hrt : F41 ((docL m)[k], now, ()) = some (toldL (docL m)[k] now, ()) := by
          rw [← hx]; exact refTold_eq hn (hm.2 _ he) ht
        simp only [ht, decide_true, cond_true, BEq.rfl, Bool.not_true, cond_false, hrt, Option.bind_some, ht2, Bool.and_self]
      · simp only [ht, decide_false, cond_false, BEq.rfl, Bool.not_true]
    · left
      have : k = (docL m).length := by omega
      subst this
      simp only [lt_len, Nat.lt_irrefl, decide_false, cond_false]
theorem awake_eq : F7 () = some (true, ()) := by
  unfold F7
  have t11 : Tim 11 := ⟨by decide, by decide⟩
  have t12 : Tim 12 := ⟨by decide, by decide⟩
  have t13 : Tim 13 := ⟨by decide, by decide⟩
  have hg := grantS_of (m := .leaf) (id := 7) (ttl := 3) (now := 10) ⟨⟨by decide, by decide, by decide, by decide, by decide⟩, by decide, by decide⟩ rfl (by show (0 : Int) < 64; decide)
  have e1 := grant_eq LI.leaf (by omega) 7 3 10
  have hok := grantS_ok LI.leaf 7 3 10
  rw [hg] at e1 hok
  have hm : LI (tPut ltI (7, (3, 10 + 3, 0, false, ()), ()) .leaf) 1 := by
    rcases hok with h | h
    · exact h.2
    · exact absurd rfl h.1
  simp only [e1, Option.bind_some, get_eq hm (show 1 ≤ 1000000 by omega), due_eq hm (show 1 ≤ 1000000 by omega), t11, decide_true, cond_true]
  have eg : getL ltI 7 (toL (tPut ltI (7, (3, 10 + 3, 0, false, ()), ()) .leaf)) = some ((3, 10 + 3, 0, false, ()) : Tm) := rfl
  have d13 : dueS (tPut ltI (7, (3, 10 + 3, 0, false, ()), ()) .leaf) 13 = [7] := by
    unfold dueS
    rw [decide_eq_true t13]
    rfl
  have d12 : dueS (tPut ltI (7, (3, 10 + 3, 0, false, ()), ()) .leaf) 12 = [] := by
    unfold dueS
    rw [decide_eq_true t12]
    rfl
  rw [eg, d13, d12]
  rfl
theorem few_ex (l : List Act) (q : Nat) (hl : l.length ≤ 9223372036854775806) : ∃ b, F8 (l, (q : Int), ()) = some (b, ()) ∧ (b = true → l.length ≤ q ∧ ∀ i (h : i < l.length), (l[i].2.2.2.2.2.2.1).length ≤ 70) := by
  unfold F8
  obtain ⟨r, h, hq⟩ := iter_inv (T := Int × Unit) (R := Bool × Unit) (step := fun (x_1 : Int × Unit) =>
      bif decide (x_1.fst < Int.ofNat (List.length l)) then
        bif decide ((q : Int) ≤ x_1.fst) then some (Sum.inr (false, ()))
        else
          Option.bind (idx l x_1.fst) fun (b : Act) =>
            bif decide (70 < Int.ofNat (List.length b.snd.snd.snd.snd.snd.snd.fst)) then some (Sum.inr (false, ()))
            else some (Sum.inl (wrap64 (x_1.fst + 1), ()))
      else some (Sum.inr (true, ()))) (I := fun t => ∃ (i : Nat), i ≤ l.length ∧ i ≤ q ∧ (∀ j (h : j < l.length), j < i → (l[j].2.2.2.2.2.2.1).length ≤ 70) ∧ t = ((i : Int), ())) (μ := fun t => l.length - t.1.toNat) (Q := fun _ r => r.1 = true → l.length ≤ q ∧ ∀ i (h : i < l.length), (l[i].2.2.2.2.2.2.1).length ≤ 70) (fun t ht => by
        obtain ⟨i, hi, h3, h4, rfl⟩ := ht
        by_cases h : i < l.length
        · simp only [lt_len, h, decide_true, cond_true, idx_nat, List.getElem?_eq_getElem h, Option.bind_some]
          by_cases hn : (q : Int) ≤ (i : Int)
          · simp only [hn, decide_true, cond_true]
            exact .inl ⟨_, rfl, fun h => Bool.noConfusion h⟩
          · simp only [hn, decide_false, cond_false]
            by_cases hb : (70 : Int) < Int.ofNat (l[i].2.2.2.2.2.2.1).length
            · simp only [hb, decide_true, cond_true]
              exact .inl ⟨_, rfl, fun h => Bool.noConfusion h⟩
            · simp only [hb, decide_false, cond_false]
              right
              rw [wrap64_nat (show i < 9223372036854775807 by omega)]
              refine ⟨_, rfl, ⟨i + 1, h, by omega, fun j hj hji => ?_, rfl⟩, by simp only [Int.toNat_natCast]; omega, fun _ h => h⟩
              by_cases hje : j = i
              · subst hje; rw [ofNat_len] at hb; omega
              · exact h4 j hj (by omega)
        · left
          have : i = l.length := by omega
          subst this
          exact ⟨(true, ()), by simp [lt_len], fun _ => ⟨h3, fun j hj => h4 j hj hj⟩⟩) (n := big) (t := (0, ())) ⟨0, Nat.zero_le _, Nat.zero_le _, fun j _ h => absurd h (Nat.not_lt_zero _), rfl⟩ (by rw [big_eq]; simp; omega)
  obtain ⟨b, ⟨⟩⟩ := r
  exact ⟨b, h, hq⟩
abbrev Ms : Type := List Ls × Int × (TL × Unit) × Unit
/-- a state behind some acts -/
def At (n : Nat) (l : List Act) (t : Ms) : Prop := ∃ (k : Nat) (m : TL), k ≤ l.length ∧ LI m (n + k * 100) ∧ t = (docL m, (k : Int), (m, ()), ())
theorem lawPlays (x : (argTy P4).den) (hx : Fit47 (argTy P4) x) : F4 x = some (true, ()) := by
  obtain ⟨l, now, ⟨⟩⟩ : List Act × Int × Unit := x
  obtain ⟨⟨hl, -⟩, -⟩ := hx
  have hl' : l.length ≤ 140737488351232 := hl
  obtain ⟨fb, hf, hfl⟩ := few_ex l 60 (by omega)
  have hf' : F8 (l, 60, ()) = some (fb, ()) := hf
  unfold F4
  simp only [awake_eq, Option.bind_some, Bool.not_true, cond_false, hf']
  cases fb with
  | false => rfl
  | true =>
    obtain ⟨h60, hsh⟩ := hfl rfl
    simp only [Bool.not_true, cond_false]
    refine loop_true (At 0 l) (fun t => l.length - t.2.1.toNat) (fun t ht => ?_) ⟨0, .leaf, Nat.zero_le _, LI.leaf, rfl⟩ (by show l.length - 0 < _; omega)
    obtain ⟨k, m, hk, hm, rfl⟩ := ht
    by_cases h : k < l.length
    · right
      obtain ⟨m', e, hm'⟩ := do_ex hm (by omega) l[k] (hsh k h)
      have hn : 0 + k * 100 + 100 ≤ 1000000 := by omega
      simp only [lt_len, h, decide_true, cond_true, idx_nat, List.getElem?_eq_getElem h, Option.bind_some, e, Bool.not_true, cond_false, is_eq hm' hn, wrap64_nat (show k < 9223372036854775807 by omega)]
      exact ⟨_, rfl, ⟨k + 1, m', h, hm'.mono (by omega), rfl⟩, by show l.length - (((k + 1 : Nat) : Int)).toNat < l.length - (k : Int).toNat; omega⟩
    · left
      have : k = l.length := by omega
      subst this
      simp only [lt_len, Nat.lt_irrefl, decide_false, cond_false]
theorem lawOwn (x : (argTy P6).den) (hx : Fit47 (argTy P6) x) : F6 x = some (true, ()) := by
  obtain ⟨l, more, now, ⟨⟩⟩ : List Act × List Act × Int × Unit := x
  obtain ⟨⟨hl, -⟩, ⟨hr, -⟩, -⟩ := hx
  have hl' : l.length ≤ 140737488351232 := hl
  have hr' : more.length ≤ 140737488351232 := hr
  obtain ⟨fb, hf, hfl⟩ := few_ex l 30 (by omega)
  have hf' : F8 (l, 30, ()) = some (fb, ()) := hf
  obtain ⟨gb, hg, hgl⟩ := few_ex more 30 (by omega)
  have hg' : F8 (more, 30, ()) = some (gb, ()) := hg
  unfold F6
  simp only [awake_eq, Option.bind_some, Bool.not_true, cond_false, hf', hg']
  cases fb with
  | false => rfl
  | true =>
    cases gb with
    | false => rfl
    | true =>
      obtain ⟨h30, hsh⟩ := hfl rfl
      obtain ⟨g30, gsh⟩ := hgl rfl
      simp only [Bool.not_true, cond_false]
      refine loop_true (At 0 l) (fun t => l.length - t.2.1.toNat) (fun t ht => ?_) ⟨0, .leaf, Nat.zero_le _, LI.leaf, rfl⟩ (by show l.length - 0 < _; omega)
      obtain ⟨k, m, hk, hm, rfl⟩ := ht
      by_cases h : k < l.length
      · right
        obtain ⟨m', e, hm'⟩ := do_ex hm (by omega) l[k] (hsh k h)
        simp only [lt_len, h, decide_true, cond_true, idx_nat, List.getElem?_eq_getElem h, Option.bind_some, e, Bool.not_true, cond_false, wrap64_nat (show k < 9223372036854775807 by omega)]
        exact ⟨_, rfl, ⟨k + 1, m', h, hm'.mono (by omega), rfl⟩, by show l.length - (((k + 1 : Nat) : Int)).toNat < l.length - (k : Int).toNat; omega⟩
      · left
        have : k = l.length := by omega
        subst this
        simp only [lt_len, Nat.lt_irrefl, decide_false, cond_false]
        apply map_inr
        refine loop_true (At (l.length * 100) more) (fun t => more.length - t.2.1.toNat) (fun t ht => ?_) ⟨0, m, Nat.zero_le _, hm.mono (by omega), rfl⟩ (by show more.length - 0 < _; omega)
        obtain ⟨j, m', hj, hm', rfl⟩ := ht
        by_cases h : j < more.length
        · right
          obtain ⟨m2, e, hm2⟩ := do_ex hm' (by omega) more[j] (gsh j h)
          simp only [lt_len, h, decide_true, cond_true, idx_nat, List.getElem?_eq_getElem h, Option.bind_some, e, Bool.not_true, cond_false, wrap64_nat (show j < 9223372036854775807 by omega)]
          exact ⟨_, rfl, ⟨j + 1, m2, h, hm2.mono (by omega), rfl⟩, by show more.length - (((j + 1 : Nat) : Int)).toNat < more.length - (j : Int).toNat; omega⟩
        · left
          have : j = more.length := by omega
          subst this
          simp only [lt_len, Nat.lt_irrefl, decide_false, cond_false, is_eq hm (show 0 + l.length * 100 ≤ 1000000 by omega), is_eq hm' (show l.length * 100 + more.length * 100 ≤ 1000000 by omega), Option.bind_some, cond_true]
          rfl
end Go.Proofs.Ytmgniagajmfhaaa
