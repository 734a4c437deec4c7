/-
  lease: all leases set anew, and each act.
-/
import Derived.Test.YtmgniagajmfhaaaLeaseLawB
namespace Go.Proofs.Ytmgniagajmfhaaa
open Go.Sx Go Classical
set_option maxRecDepth 10000
def OkP (x : Al) (now : Int) : Prop := MayP x.1 x.2.1 now ∧ 0 ≤ x.2.2.1 ∧ x.2.2.1 ≤ x.2.1
def putTm (x : Al) (held : Bool) (now : Int) : Tm := bif held then (x.2.1, 0, x.2.2.1, true, ()) else (x.2.1, now + x.2.2.1, 0, false, ())
theorem putTm_ok {n : Nat} {x : Al} {now : Int} (h : OkP x now) (held : Bool) : EOk (n + 1) (x.1, putTm x held now, ()) := by
  obtain ⟨id, ttl, left, ⟨⟩⟩ := x
  obtain ⟨⟨⟨u0, -, -, u1, u2⟩, t1, t2⟩, l1, l2⟩ := h
  have u1' : 1 ≤ ttl := u1
  have u2' : ttl ≤ 1000 := u2
  have l1' : 0 ≤ left := l1
  have l2' : left ≤ ttl := l2
  cases held with
  | true => exact ⟨u0, ⟨u1, u2⟩, ⟨Int.le_refl 0, show (0 : Int) ≤ ((n + 1 : Nat) + 1 : Int) * 2199023255552 by omega⟩, l1, show left ≤ ((n + 1 : Nat) + 1 : Int) * 2199023255552 by omega⟩
  | false => exact ⟨u0, ⟨u1, u2⟩, ⟨show 0 ≤ now + left by omega, show now + left ≤ ((n + 1 : Nat) + 1 : Int) * 2199023255552 by omega⟩, Int.le_refl 0, show (0 : Int) ≤ ((n + 1 : Nat) + 1 : Int) * 2199023255552 by omega⟩
theorem put_eq {m : TL} {n : Nat} (h : LI m n) (hn : n ≤ 1000000) (x : Al) (held : Bool) (now : Int) : F28 (((m, ()), ()), x, held, now, ()) = some (bif decide (OkP x now) then ((((tPut ltI (x.1, putTm x held now, ()) m, ()), ()), 0, ()) : ((TL × Unit) × Unit) × Int × Unit) else (((.leaf, ()), ()), 1, ())) := by
  have hl := h.len
  obtain ⟨id, ttl, left, ⟨⟩⟩ := x
  unfold F28 OkP putTm
  simp only [may_eq, Option.bind_some]
  by_cases hm : MayP id ttl now
  case neg => simp only [hm, decide_false, Bool.not_false, cond_true, false_and, cond_false]
  simp only [hm, decide_true, Bool.not_true, cond_false, true_and]
  by_cases h1 : left < 0
  · have : ¬ (0 ≤ left ∧ left ≤ ttl) := by omega
    simp only [h1, this, decide_true, decide_false, cond_true, cond_false]
  by_cases h2 : ttl < left
  · have : ¬ (0 ≤ left ∧ left ≤ ttl) := by omega
    simp only [h1, h2, this, decide_true, decide_false, cond_true, cond_false]
  have hc : (0 ≤ left ∧ left ≤ ttl) := by omega
  obtain ⟨⟨-, -, -, u1, u2⟩, t1, t2⟩ := hm
  simp only [h1, h2, hc, and_self, decide_true, decide_false, cond_true, cond_false, wrap64_eq (show -9223372036854775808 ≤ now + left by omega) (show now + left ≤ 9223372036854775807 by omega)]
  cases held with
  | true => simp only [cond_true, Option.bind_some, Sum.elim_inl, tl_mput m _ _ h.1.1 (show (toL m).length ≤ 1000000000 by omega)]
  | false => simp only [cond_false, Option.bind_some, Sum.elim_inl, tl_mput m _ _ h.1.1 (show (toL m).length ≤ 1000000000 by omega)]
theorem refPut_eq {m : TL} {n : Nat} (h : LI m n) (hn : n ≤ 1000000) (x : Al) (held : Bool) (now : Int) : F29 (docL m, x, held, now, ()) = some (bif decide (OkP x now) then ((docL (tPut ltI (x.1, putTm x held now, ()) m), true, ()) : List Ls × Bool × Unit) else ([], false, ())) := by
  have hl := h.len
  obtain ⟨id, ttl, left, ⟨⟩⟩ := x
  have hs := docL_put h (id, putTm (id, ttl, left, ()) held now, ())
  unfold F29 OkP
  simp only [refMay_eq, Option.bind_some]
  by_cases hm : MayP id ttl now
  case neg => simp only [hm, decide_false, Bool.not_false, cond_true, false_and, cond_false]
  simp only [hm, decide_true, Bool.not_true, cond_false, true_and]
  by_cases h1 : left < 0
  · have : ¬ (0 ≤ left ∧ left ≤ ttl) := by omega
    simp only [h1, this, decide_true, decide_false, cond_true, cond_false]
  by_cases h2 : ttl < left
  · have : ¬ (0 ≤ left ∧ left ≤ ttl) := by omega
    simp only [h1, h2, this, decide_true, decide_false, cond_true, cond_false]
  have hc : (0 ≤ left ∧ left ≤ ttl) := by omega
  obtain ⟨⟨-, -, -, u1, u2⟩, t1, t2⟩ := hm
  simp only [h1, h2, hc, and_self, decide_true, decide_false, cond_true, cond_false, wrap64_eq (show -9223372036854775808 ≤ now + left by omega) (show now + left ≤ 9223372036854775807 by omega), refSet_eq _ _ (show (docL m).length ≤ 1000000 by rw [docL_len]; omega), Option.bind_some]
  rw [hs]
  cases held <;> rfl
/-- these granted one after the other -/
noncomputable def setS (now : Int) : List Al → TL → Option TL
  | [], o => some o
  | x :: r, o => bif decide ((grantS o x.1 x.2.1 now).2 = 0) && !decide (x.1 < 0) then setS now r (grantS o x.1 x.2.1 now).1 else none
theorem grantS_zero {m : TL} {id ttl now : Int} (h : (grantS m id ttl now).2 = 0) : MayP id ttl now ∧ getL ltI id (toL m) = none ∧ alike id m < 64 ∧ (grantS m id ttl now).1 = tPut ltI (id, (ttl, now + ttl, 0, false, ()), ()) m := by
  unfold grantS at h ⊢
  by_cases hm : MayP id ttl now
  · simp only [hm, decide_true, cond_true] at h ⊢
    cases hg : getL ltI id (toL m) with
    | some v => rw [hg] at h; simp at h
    | none =>
      rw [hg] at h
      simp only [Option.isSome_none, cond_false] at h ⊢
      by_cases ha : 64 ≤ alike id m
      · simp only [ha, decide_true, cond_true] at h; simp at h
      · simp only [ha, decide_false, cond_false]
        exact ⟨trivial, trivial, by omega, trivial⟩
  · simp only [hm, decide_false, cond_false] at h; simp at h
theorem grantS_of {m : TL} {id ttl now : Int} (h1 : MayP id ttl now) (h2 : getL ltI id (toL m) = none) (h3 : alike id m < 64) : grantS m id ttl now = (tPut ltI (id, (ttl, now + ttl, 0, false, ()), ()) m, 0) := by
  unfold grantS
  simp only [h1, decide_true, cond_true, h2, Option.isSome_none, cond_false, decide_eq_false (show ¬ 64 ≤ alike id m by omega)]
theorem alike_pos {id : Int} (h : 0 < id) (m : TL) : alike id m = alike 1 m := by
  unfold alike
  rw [decide_eq_true h, decide_eq_true (show (0 : Int) < 1 by decide)]
theorem alike_put {m : TL} {n : Nat} (h : LI m n) {id : Int} {tm : Tm} (hp : 0 < id) (hg : getL ltI id (toL m) = none) : alike 1 (tPut ltI (id, tm, ()) m) = alike 1 m + 1 := by
  unfold alike
  rw [toL_put LO.int h.1.2.1]
  have := putL_count LO.int (fun k => decide (0 < k) == decide ((0 : Int) < 1)) (p := (id, tm, ())) h.1.2.1
  rw [show getL ltI ((id, tm, ()) : En).1 (toL m) = none from hg] at this
  simp only [Option.isSome_none, cond_false, decide_eq_true hp, decide_eq_true (show (0 : Int) < 1 by decide), BEq.rfl, cond_true] at this
  rw [decide_eq_true (show (0 : Int) < 1 by decide), this]
  rfl
theorem setS_len {now : Int} : ∀ {l : List Al} {o o' : TL} {n : Nat}, LI o n → alike 1 o ≤ 64 → setS now l o = some o' → alike 1 o + (l.length : Int) ≤ 64
  | [], o, o', n, _, h, _ => by simpa using h
  | x :: r, o, o', n, ho, h, hs => by
    simp only [setS] at hs
    by_cases hg : (grantS o x.1 x.2.1 now).2 = 0
    · by_cases hx : x.1 < 0
      · rw [decide_eq_true hg, decide_eq_true hx] at hs; cases hs
      · obtain ⟨g1, g2, g3, g4⟩ := grantS_zero hg
        have hp : 0 < x.1 := by have := g1.1.1; omega
        rw [decide_eq_true hg, decide_eq_false hx] at hs
        have hs : setS now r (grantS o x.1 x.2.1 now).1 = some o' := hs
        rw [alike_pos hp] at g3
        have e := alike_put ho (tm := (x.2.1, now + x.2.1, 0, false, ())) hp g2
        rw [← g4] at e
        have hok : LI (grantS o x.1 x.2.1 now).1 (n + 1) := by
          rcases grantS_ok ho x.1 x.2.1 now with h | h
          · exact h.2
          · exact absurd hg h.1
        have := setS_len hok (by omega) hs
        rw [List.length_cons]
        push_cast
        omega
    · rw [decide_eq_false hg] at hs; cases hs
theorem setS_ok {now : Int} : ∀ {l : List Al} {o o' : TL} {n : Nat}, LI o n → setS now l o = some o' → LI o' (n + l.length)
  | [], o, o', n, h, hs => by cases hs; exact h
  | x :: r, o, o', n, ho, hs => by
    simp only [setS] at hs
    by_cases hg : (grantS o x.1 x.2.1 now).2 = 0
    · by_cases hx : x.1 < 0
      · rw [decide_eq_true hg, decide_eq_true hx] at hs; cases hs
      · rw [decide_eq_true hg, decide_eq_false hx] at hs
        have hok : LI (grantS o x.1 x.2.1 now).1 (n + 1) := by
          rcases grantS_ok ho x.1 x.2.1 now with h | h
          · exact h.2
          · exact absurd hg h.1
        have := setS_ok hok (show setS now r (grantS o x.1 x.2.1 now).1 = some o' from hs)
        rw [List.length_cons, show n + (r.length + 1) = n + 1 + r.length by omega]
        exact this
    · rw [decide_eq_false hg] at hs; cases hs
/-- the leases that aren't routed -/
def NegOf (m o : TL) : Prop := docL o = (docL m).filter fun e => decide (e.1 < 0)
theorem loop_drop {R : Type} {m : TL} {n : Nat} (hm : LI m n) (hn : n ≤ 1000000) {step : Int × (TL × Unit) × Unit → Option ((Int × (TL × Unit) × Unit) ⊕ R)} {K : TL → Option R}
    (h : ∀ (i : Nat) (e : En) (t : TL), (toL m)[i]? = some e → Avl t → (toL t).length ≤ 1000000000 → step ((i : Int), (t, ()), ()) = some (.inl (((i + 1 : Nat) : Int), (bif decide (0 < e.1) then (bif (tGet ltI e.1 t).isSome then tDel ltI e.1 t else t) else t, ()), ())))
    (hK : ∀ t, step (((toL m).length : Int), (t, ()), ()) = (K t).map Sum.inr) :
    ∃ t, iter step big (0, (m, ()), ()) = K t ∧ LI t n ∧ NegOf m t := by
  have hl := hm.len
  have main : ∀ (d i k : Nat) (t : TL), i + d = (toL m).length → d < k → Avl t → Sorted ltI (toL t) → toL t = ((toL m).take i).filter (fun e => decide (e.1 < 0)) ++ (toL m).drop i → ∃ t', iter step k ((i : Int), (t, ()), ()) = K t' ∧ Avl t' ∧ Sorted ltI (toL t') ∧ toL t' = (toL m).filter (fun e => decide (e.1 < 0)) := by
    intro d
    induction d with
    | zero =>
      intro i k t hi hk ha hs ht
      cases k with
      | zero => omega
      | succ k =>
        have : i = (toL m).length := by omega
        subst this
        rw [List.take_length, List.drop_length, List.append_nil] at ht
        refine ⟨t, ?_, ha, hs, ht⟩
        simp only [iter, hK]
        cases K t <;> rfl
    | succ d ih =>
      intro i k t hi hk ha hs ht
      cases k with
      | zero => omega
      | succ k =>
        have hlt : i < (toL m).length := by omega
        have hlen : (toL t).length ≤ 1000000000 := by
          rw [ht, List.length_append, List.length_drop]
          refine Nat.le_trans (Nat.add_le_add_right (List.length_filter_le _ _) _) ?_
          rw [List.length_take]
          omega
        have e := h i _ t (List.getElem?_eq_getElem hlt) ha hlen
        have h0 := (hm.2 _ (List.getElem_mem hlt)).1
        rw [List.drop_eq_getElem_cons hlt] at ht
        simp only [iter, e, Option.bind_some, Sum.elim_inl]
        by_cases hp : 0 < (toL m)[i].1
        · have hg : (tGet ltI (toL m)[i].1 t).isSome = true := by
            rw [getT_eq LO.int hs, ht]
            exact (getL_some LO.int).2 ⟨(toL m)[i], List.mem_append_right _ (List.mem_cons_self ..), rfl⟩
          simp only [decide_eq_true hp, cond_true, hg]
          refine ih (i + 1) k _ (by omega) (by omega) ha.del.1 (by rw [toL_del LO.int ha hs]; exact hs.del) ?_
          rw [toL_del LO.int ha hs, ht]
          rw [ht] at hs
          rw [delL_mid LO.int hs, List.take_succ_eq_append_getElem hlt, List.filter_append, List.filter_cons, if_neg (by simp; omega), List.filter_nil, List.append_nil]
        · simp only [decide_eq_false hp, cond_false]
          refine ih (i + 1) k _ (by omega) (by omega) ha hs ?_
          rw [ht, List.take_succ_eq_append_getElem hlt, List.filter_append, List.filter_cons, if_pos (by simp; omega), List.filter_nil, List.append_assoc, List.cons_append, List.nil_append]
  obtain ⟨t, h1, h2, h3, h4⟩ := main (toL m).length 0 big m (by omega) (by rw [big_eq]; omega) hm.1.1 hm.1.2.1 rfl
  refine ⟨t, h1, ⟨⟨h2, h3, by rw [h4]; exact Nat.le_trans (List.length_filter_le _ _) hl⟩, fun e he => ?_⟩, ?_⟩
  · rw [h4] at he; exact hm.2 e (List.mem_filter.1 he).1
  · unfold NegOf docL
    rw [h4, List.filter_map]
    rfl
theorem NegOf.alike {m o : TL} (h : NegOf m o) : alike 1 o = 0 := by
  rw [← alike_doc, h, List.filter_filter]
  have : (docL m).filter (fun a => (decide (0 < a.1) == decide ((0 : Int) < 1)) && decide (a.1 < 0)) = [] := fil_none fun a _ => by
    by_cases ha : a.1 < 0
    · rw [decide_eq_false (show ¬ 0 < a.1 by omega)]; rfl
    · rw [decide_eq_false ha, Bool.and_false]
  rw [this]
  rfl
def setOut (now : Int) (o : Option TL) : ((TL × Unit) × Unit) × Int × Unit := o.elim (((.leaf, ()), ()), 1, ()) fun o => (((o, ()), ()), 0, ())
theorem set_ex {m : TL} {n : Nat} (hm : LI m n) (these : List Al) (hn : n + these.length ≤ 1000000) (now : Int) : ∃ o, LI o n ∧ NegOf m o ∧ F26 (((m, ()), ()), these, now, ()) = some (setOut now (bif decide (Tim now) then setS now these o else none)) := by
  have hl := hm.len
  unfold F26
  simp only [tl_mall m (show (toL m).length ≤ 1000000000 by omega), Option.bind_some, times_eq]
  have key : ∀ o, LI o n → (bif !decide (Tim now) then some ((((.leaf, ()), ()), 1, ()) : ((TL × Unit) × Unit) × Int × Unit) else
      iterE (Int × (TL × Unit) × (TL × Unit) × Unit) (((TL × Unit) × Unit) × Int × Unit) (fun (x_2 : Int × (TL × Unit) × (TL × Unit) × Unit) =>
        bif decide (x_2.fst < Int.ofNat (List.length these)) then
          Option.bind (idx these x_2.fst) fun (b : Al) =>
            Option.bind (F11 ((x_2.snd.fst, ()), b.fst, b.snd.fst, now, ())) fun (b_1 : ((TL × Unit) × Unit) × Int × Unit) =>
              bif !decide (b_1.snd.fst = 0) then some (Sum.inr (((Tree.leaf, ()), ()), 1, ()))
              else
                bif decide (b.fst < 0) then some (Sum.inr (((Tree.leaf, ()), ()), 1, ()))
                else some (Sum.inl (wrap64 (x_2.fst + 1), b_1.fst.fst, x_2.snd.snd))
        else some (Sum.inr ((x_2.snd.fst, ()), 0, ()))) big (0, (o, ()), (Tree.leaf, ()), ())) = some (setOut now (bif decide (Tim now) then setS now these o else none)) := by
    intro o ho
    cases decide (Tim now) with
    | false => rfl
    | true =>
      simp only [Bool.not_true, cond_false, cond_true]
      have main : ∀ (d i k : Nat) (o : TL), i + d = these.length → d < k → LI o (n + i) → iter (T := Int × (TL × Unit) × (TL × Unit) × Unit) (R := ((TL × Unit) × Unit) × Int × Unit) (fun (x_2 : Int × (TL × Unit) × (TL × Unit) × Unit) =>
          bif decide (x_2.fst < Int.ofNat (List.length these)) then
            Option.bind (idx these x_2.fst) fun (b : Al) =>
              Option.bind (F11 ((x_2.snd.fst, ()), b.fst, b.snd.fst, now, ())) fun (b_1 : ((TL × Unit) × Unit) × Int × Unit) =>
                bif !decide (b_1.snd.fst = 0) then some (Sum.inr (((Tree.leaf, ()), ()), 1, ()))
                else
                  bif decide (b.fst < 0) then some (Sum.inr (((Tree.leaf, ()), ()), 1, ()))
                  else some (Sum.inl (wrap64 (x_2.fst + 1), b_1.fst.fst, x_2.snd.snd))
          else some (Sum.inr ((x_2.snd.fst, ()), 0, ()))) k ((i : Int), (o, ()), (Tree.leaf, ()), ()) = some (setOut now (setS now (these.drop i) o)) := by
        intro d
        induction d with
        | zero =>
          intro i k o hi hk ho
          cases k with
          | zero => omega
          | succ k =>
            have : i = these.length := by omega
            subst this
            simp only [iter, lt_len, Nat.lt_irrefl, decide_false, cond_false, Option.bind_some, Sum.elim_inr, List.drop_length]
            rfl
        | succ d ih =>
          intro i k o hi hk ho
          cases k with
          | zero => omega
          | succ k =>
            have hlt : i < these.length := by omega
            rw [List.drop_eq_getElem_cons hlt]
            simp only [iter, lt_len, hlt, decide_true, cond_true, idx_nat, List.getElem?_eq_getElem hlt, Option.bind_some, grant_eq ho (show n + i ≤ 1000000 by omega), wrap64_nat (show i < 9223372036854775807 by omega), setS]
            by_cases hg : (grantS o these[i].1 these[i].2.1 now).2 = 0
            · by_cases hx : these[i].1 < 0
              · simp only [hg, hx, decide_true, Bool.not_true, cond_false, cond_true, Option.bind_some, Sum.elim_inr, Bool.and_false]
                rfl
              · simp only [hg, hx, decide_true, decide_false, Bool.not_true, Bool.not_false, cond_false, Option.bind_some, Sum.elim_inl, Bool.and_self, cond_true]
                refine ih (i + 1) k _ (by omega) (by omega) ?_
                rcases grantS_ok ho these[i].1 these[i].2.1 now with h | h
                · exact h.2
                · exact absurd hg h.1
            · simp only [hg, decide_false, Bool.not_false, cond_true, Option.bind_some, Sum.elim_inr, Bool.false_and, cond_false]
              rfl
      exact main these.length 0 big o (by omega) (by rw [big_eq]; omega) ho
  obtain ⟨t, h1, h2, h3⟩ := loop_drop (R := ((TL × Unit) × Unit) × Int × Unit) hm (show n ≤ 1000000 by omega) (step := fun (x_1 : Int × (TL × Unit) × Unit) =>
      bif decide (x_1.fst < Int.ofNat (List.length (toL m))) then
        Option.bind (idxN (toL m) x_1.fst) fun (b_1 : Nat) =>
          Option.bind (toL m)[b_1]? fun (b : En) =>
            bif decide (0 < b.fst) then
              Option.bind (F31 (x_1.snd.fst, b.fst, ())) fun (b : (TL × Unit) × Unit) => some (Sum.inl (wrap64 (x_1.fst + 1), b))
            else some (Sum.inl (wrap64 (x_1.fst + 1), x_1.snd))
      else
        Option.map Sum.inr (bif !decide (Tim now) then some ((((.leaf, ()), ()), 1, ()) : ((TL × Unit) × Unit) × Int × Unit) else
          iterE (Int × (TL × Unit) × (TL × Unit) × Unit) (((TL × Unit) × Unit) × Int × Unit) (fun (x_2 : Int × (TL × Unit) × (TL × Unit) × Unit) =>
            bif decide (x_2.fst < Int.ofNat (List.length these)) then
              Option.bind (idx these x_2.fst) fun (b : Al) =>
                Option.bind (F11 ((x_2.snd.fst, ()), b.fst, b.snd.fst, now, ())) fun (b_1 : ((TL × Unit) × Unit) × Int × Unit) =>
                  bif !decide (b_1.snd.fst = 0) then some (Sum.inr (((Tree.leaf, ()), ()), 1, ()))
                  else
                    bif decide (b.fst < 0) then some (Sum.inr (((Tree.leaf, ()), ()), 1, ()))
                    else some (Sum.inl (wrap64 (x_2.fst + 1), b_1.fst.fst, x_2.snd.snd))
            else some (Sum.inr ((x_2.snd.fst, ()), 0, ()))) big (0, x_1.snd.fst, (Tree.leaf, ()), ())))
    (K := fun t => bif !decide (Tim now) then some ((((.leaf, ()), ()), 1, ()) : ((TL × Unit) × Unit) × Int × Unit) else
          iterE (Int × (TL × Unit) × (TL × Unit) × Unit) (((TL × Unit) × Unit) × Int × Unit) (fun (x_2 : Int × (TL × Unit) × (TL × Unit) × Unit) =>
            bif decide (x_2.fst < Int.ofNat (List.length these)) then
              Option.bind (idx these x_2.fst) fun (b : Al) =>
                Option.bind (F11 ((x_2.snd.fst, ()), b.fst, b.snd.fst, now, ())) fun (b_1 : ((TL × Unit) × Unit) × Int × Unit) =>
                  bif !decide (b_1.snd.fst = 0) then some (Sum.inr (((Tree.leaf, ()), ()), 1, ()))
                  else
                    bif decide (b.fst < 0) then some (Sum.inr (((Tree.leaf, ()), ()), 1, ()))
                    else some (Sum.inl (wrap64 (x_2.fst + 1), b_1.fst.fst, x_2.snd.snd))
            else some (Sum.inr ((x_2.snd.fst, ()), 0, ()))) big (0, (t, ()), (Tree.leaf, ()), ()))
    (fun i e t hi ha hlt => by
      have hlt' := (List.getElem?_eq_some_iff.1 hi).1
      simp only [lt_len, hlt', decide_true, cond_true, idxN_nat _ _ hlt', hi, Option.bind_some, wrap64_nat (show i < 9223372036854775807 by omega), tl_mdel t _ ha hlt]
      cases decide (0 < e.1) <;> rfl)
    (fun t => by simp only [lt_len, Nat.lt_irrefl, decide_false, cond_false])
  exact ⟨t, h2, h3, h1.trans (key t h2)⟩
end Go.Proofs.Ytmgniagajmfhaaa
