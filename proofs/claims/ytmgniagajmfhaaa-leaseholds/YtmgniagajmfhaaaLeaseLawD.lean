/-
  lease: each act, by the program and by the document; what a table tells.
-/
import Derived.Test.YtmgniagajmfhaaaLeaseLawC
namespace Go.Proofs.Ytmgniagajmfhaaa
open Go.Sx Go Classical
set_option maxRecDepth 10000
def replOut (now : Int) (o : Option TL) : List Ls × Bool × Unit := o.elim ([], false, ()) fun o => (docL o, true, ())
noncomputable def replStep (these : List Al) (now : Int) : List Ls × Int × Unit → Option ((List Ls × Int × Unit) ⊕ (List Ls × Bool × Unit)) := fun (x_2 : List Ls × Int × Unit) =>
        bif decide (x_2.snd.fst < Int.ofNat (List.length these)) then
          Option.bind (idx these x_2.snd.fst) fun (b : Al) =>
            bif decide (b.fst < 0) then some (Sum.inr ([], false, ()))
            else
              Option.bind (F43 (b.fst, b.snd.fst, now, ())) fun (b_1 : Bool × Unit) =>
                bif !b_1.fst then some (Sum.inr ([], false, ()))
                else
                  Option.bind (F44 (x_2.fst, b.fst, ())) fun (b_2 : Int × Unit) =>
                    bif decide (0 ≤ b_2.fst) then some (Sum.inr ([], false, ()))
                    else
                      Option.bind (F45 (x_2.fst, (b.fst, b.snd.fst, wrap64 (now + b.snd.fst), 0, false, ()), ())) fun (b : List Ls × Unit) =>
                        some (Sum.inl (b.fst, wrap64 (x_2.snd.fst + 1), ()))
        else Option.map Sum.inr (Option.bind (F40 (now, ())) fun (b : Bool × Unit) => some (x_2.fst, b))
theorem repl_eq {m : TL} {n : Nat} (hm : LI m n) (these : List Al) (hn : n + these.length ≤ 1000000) (now : Int) (o : TL) (ho : LI o n) (hN : NegOf m o) :
    ∃ w b, F27 (docL m, these, now, ()) = some (w, b, ()) ∧ match (bif decide (Tim now) then setS now these o else none) with
      | none => b = false
      | some o' => b = true ∧ w = docL o' := by
  have hl := hm.len
  have hd := docL_len m
  have ha := hN.alike
  unfold F27
  by_cases h64 : (64 : Int) < Int.ofNat these.length
  · simp only [h64, decide_true, cond_true]
    refine ⟨_, _, rfl, ?_⟩
    cases decide (Tim now) with
    | false => trivial
    | true =>
      simp only [cond_true]
      cases hs : setS now these o with
      | none => trivial
      | some o' =>
        have := setS_len ho (by omega) hs
        rw [ofNat_len] at h64
        omega
  have h64' : these.length ≤ 64 := by rw [ofNat_len] at h64; omega
  simp only [h64, decide_false, cond_false]
  have main : ∀ (d i k : Nat) (o : TL), i + d = these.length → d < k → LI o (n + i) → alike 1 o + (d : Int) ≤ 64 → ∃ w b, iter (T := List Ls × Int × Unit) (R := List Ls × Bool × Unit) (replStep these now) k (docL o, (i : Int), ()) = some (w, b, ()) ∧
        match (bif decide (Tim now) then setS now (these.drop i) o else none) with
          | none => b = false
          | some o' => b = true ∧ w = docL o' := by
    intro d
    induction d with
    | zero =>
      intro i k o hi hk ho _
      cases k with
      | zero => omega
      | succ k =>
        have : i = these.length := by omega
        subst this
        have e : replStep these now (docL o, (these.length : Int), ()) = some (.inr (docL o, decide (Tim now), ())) := by
          unfold replStep
          simp only [lt_len, Nat.lt_irrefl, decide_false, cond_false, refTime_eq, Option.bind_some, Option.map_some]
        simp only [iter, e, Option.bind_some, Sum.elim_inr, List.drop_length]
        refine ⟨_, _, rfl, ?_⟩
        by_cases ht : Tim now
        · simp only [ht, decide_true, cond_true, setS, and_self]
        · simp only [ht, decide_false, cond_false]
    | succ d ih =>
      intro i k o hi hk ho hal
      cases k with
      | zero => omega
      | succ k =>
        have hlt : i < these.length := by omega
        have hol := ho.len
        rw [List.drop_eq_getElem_cons hlt]
        by_cases hx : these[i].1 < 0
        · have e : replStep these now (docL o, (i : Int), ()) = some (.inr ([], false, ())) := by
            unfold replStep
            simp only [lt_len, hlt, decide_true, cond_true, idx_nat, List.getElem?_eq_getElem hlt, Option.bind_some, hx]
          simp only [iter, e, Option.bind_some, Sum.elim_inr, setS, hx, decide_true, Bool.not_true, Bool.and_false, cond_false]
          refine ⟨_, _, rfl, ?_⟩
          cases decide (Tim now) <;> trivial
        by_cases hmay : MayP these[i].1 these[i].2.1 now
        case neg =>
          have hg : ¬ (grantS o these[i].1 these[i].2.1 now).2 = 0 := fun h => hmay (grantS_zero h).1
          have e : replStep these now (docL o, (i : Int), ()) = some (.inr ([], false, ())) := by
            unfold replStep
            simp only [lt_len, hlt, decide_true, cond_true, idx_nat, List.getElem?_eq_getElem hlt, Option.bind_some, hx, refMay_eq, hmay, decide_false, cond_false, Bool.not_false]
          simp only [iter, e, Option.bind_some, Sum.elim_inr, setS, hg, decide_false, Bool.false_and, cond_false]
          refine ⟨_, _, rfl, ?_⟩
          cases decide (Tim now) <;> trivial
        obtain ⟨r, er, hr⟩ := at_ex ho (show n + i ≤ 1000000 by omega) these[i].1
        cases hg : getL ltI these[i].1 (toL o) with
        | some tm =>
          rw [hg] at hr
          obtain ⟨q, rfl, _⟩ := hr
          have hg0 : ¬ (grantS o these[i].1 these[i].2.1 now).2 = 0 := fun h => by have := (grantS_zero h).2.1; rw [hg] at this; cases this
          have e : replStep these now (docL o, (i : Int), ()) = some (.inr ([], false, ())) := by
            unfold replStep
            simp only [lt_len, hlt, decide_true, cond_true, idx_nat, List.getElem?_eq_getElem hlt, Option.bind_some, hx, refMay_eq, hmay, decide_false, cond_false, Bool.not_true, er, decide_eq_true (show (0 : Int) ≤ (q : Int) by omega)]
          simp only [iter, e, Option.bind_some, Sum.elim_inr, setS, hg0, decide_false, Bool.false_and, cond_false]
          refine ⟨_, _, rfl, ?_⟩
          cases decide (Tim now) <;> trivial
        | none =>
          rw [hg] at hr
          obtain rfl : r = -1 := hr
          have hp : 0 < these[i].1 := by have := hmay.1.1; omega
          have hmay' := hmay
          obtain ⟨⟨-, -, -, u1, u2⟩, t1, t2⟩ := hmay'
          have hgr := grantS_of (m := o) hmay hg (by rw [alike_pos hp]; omega)
          have hs := docL_put ho (these[i].1, (these[i].2.1, now + these[i].2.1, 0, false, ()), ())
          have hh : setL (these[i].1, these[i].2.1, now + these[i].2.1, 0, false, ()) (docL o) = docL (tPut ltI (these[i].1, (these[i].2.1, now + these[i].2.1, 0, false, ()), ()) o) := hs.symm
          have e : replStep these now (docL o, (i : Int), ()) = some (.inl (docL (tPut ltI (these[i].1, (these[i].2.1, now + these[i].2.1, 0, false, ()), ()) o), ((i + 1 : Nat) : Int), ())) := by
            unfold replStep
            simp only [lt_len, hlt, decide_true, cond_true, idx_nat, List.getElem?_eq_getElem hlt, Option.bind_some, hx, refMay_eq, hmay, decide_false, cond_false, Bool.not_true, er, show decide ((0 : Int) ≤ -1) = false from rfl, wrap64_eq (show -9223372036854775808 ≤ now + these[i].2.1 by omega) (show now + these[i].2.1 ≤ 9223372036854775807 by omega), refSet_eq _ _ (show (docL o).length ≤ 1000000 by rw [docL_len]; omega), wrap64_nat (show i < 9223372036854775807 by omega), hh]
          simp only [iter, e, Option.bind_some, Sum.elim_inl, setS, hgr, hx, decide_true, decide_false, Bool.not_false, Bool.and_self, cond_true]
          refine ih (i + 1) k _ (by omega) (by omega) ?_ ?_
          · have := grantS_ok ho these[i].1 these[i].2.1 now
            rw [hgr] at this
            rcases this with h | h
            · exact h.2
            · exact absurd rfl h.1
          · have := alike_put ho (tm := (these[i].2.1, now + these[i].2.1, 0, false, ())) hp hg
            omega
  obtain ⟨w, b, e1, e2⟩ := main these.length 0 big o (by omega) (by rw [big_eq]; omega) ho (by omega)
  refine ⟨w, b, ?_, e2⟩
  refine Eq.trans (loop_gather (l := docL m) (d := []) (g := fun e => bif decide (e.1 < 0) then [e] else []) (K := fun a => iter (T := List Ls × Int × Unit) (R := List Ls × Bool × Unit) (replStep these now) big (a, 0, ())) (by omega) (fun v => by cases decide (v.1 < 0) <;> simp) (fun i a v hi ha => ?_) (fun a _ => ?_)) ?_
  · have hlt := (List.getElem?_eq_some_iff.1 hi).1
    simp only [List.length_nil, Nat.zero_add] at ha
    simp only [lt_len, hlt, decide_true, cond_true, idx_nat, hi, Option.bind_some, wrap64_nat (show i < 9223372036854775807 by omega), appO_eq (l := a) (x := [v]) (by simp only [List.length_cons, List.length_nil]; simp only [capB]; omega)]
    cases decide (v.1 < 0) with
    | true => rfl
    | false => simp only [cond_false, List.append_nil]
  · simp only [lt_len, Nat.lt_irrefl, decide_false, cond_false]
    rfl
  · rw [List.nil_append, flatMap_filter (fun e : Ls => decide (e.1 < 0)), ← hN]
    exact e1
abbrev Act : Type := UInt8 × Int × Int × Int × Int × Bool × List Al × Unit
noncomputable def allS (m : TL) (now : Int) : List Al := bif decide (Tim now) then (docL m).map (fun x => toldL x now) else []
theorem all_eq {m : TL} {n : Nat} (hm : LI m n) (hn : n ≤ 1000000) (now : Int) : F18 (((m, ()), ()), now, ()) = some (allS m now, ()) := by
  have hl := hm.len
  unfold F18
  simp only [tl_mall m (show (toL m).length ≤ 1000000000 by omega), Option.bind_some]
  refine Eq.trans (loop_gather (l := toL m) (d := []) (g := fun e => bif decide (Tim now) then [toldL (cv e) now] else []) (K := fun a => some (a, ())) (by omega) (fun v => by cases decide (Tim now) <;> simp) (fun i a e hi ha => ?_) (fun a _ => ?_)) ?_
  · have hlt := (List.getElem?_eq_some_iff.1 hi).1
    simp only [List.length_nil, Nat.zero_add] at ha
    have eo : ∀ x : Al, appO a [x] = some (a ++ [x]) := fun x => appO_eq (by simp only [List.length_cons, List.length_nil]; simp only [capB]; omega)
    simp only [lt_len, hlt, decide_true, cond_true, idxN_nat _ _ hlt, hi, Option.bind_some, times_eq, wrap64_nat (show i < 9223372036854775807 by omega)]
    by_cases ht : Tim now
    · simp only [ht, decide_true, cond_true, told_eq hn (hm.2 e (List.mem_of_getElem? hi)) ht, Option.bind_some, eo]
    · simp only [ht, decide_false, cond_false, List.append_nil]
  · simp only [lt_len, Nat.lt_irrefl, decide_false, cond_false]; rfl
  · unfold allS docL
    rw [List.nil_append]
    cases decide (Tim now) with
    | true => simp only [cond_true, flatMap_map1 (fun e : En => toldL (cv e) now), List.map_map]; rfl
    | false => simp only [cond_false, flatMap_none]
theorem refAll_eq {m : TL} {n : Nat} (hm : LI m n) (hn : n ≤ 1000000) (now : Int) : F38 (docL m, now, ()) = some (allS m now, ()) := by
  have hl := hm.len
  have hd := docL_len m
  unfold F38
  refine Eq.trans (loop_gather (l := docL m) (d := []) (g := fun e => bif decide (Tim now) then [toldL e now] else []) (K := fun a => some (a, ())) (by omega) (fun v => by cases decide (Tim now) <;> simp) (fun i a e hi ha => ?_) (fun a _ => ?_)) ?_
  · have hlt := (List.getElem?_eq_some_iff.1 hi).1
    simp only [List.length_nil, Nat.zero_add] at ha
    have eo : ∀ x : Al, appO a [x] = some (a ++ [x]) := fun x => appO_eq (by simp only [List.length_cons, List.length_nil]; simp only [capB]; omega)
    obtain ⟨x, hx, rfl⟩ := List.mem_map.1 (List.mem_of_getElem? hi)
    simp only [lt_len, hlt, decide_true, cond_true, idx_nat, hi, Option.bind_some, refTime_eq, wrap64_nat (show i < 9223372036854775807 by omega)]
    by_cases ht : Tim now
    · simp only [ht, decide_true, cond_true, refTold_eq hn (hm.2 x hx) ht, Option.bind_some, eo]
    · simp only [ht, decide_false, cond_false, List.append_nil]
  · simp only [lt_len, Nat.lt_irrefl, decide_false, cond_false]; rfl
  · unfold allS
    rw [List.nil_append]
    cases decide (Tim now) with
    | true => simp only [cond_true, flatMap_map1 (fun e : Ls => toldL e now)]
    | false => simp only [cond_false, flatMap_none]
def dueC (now : Int) (x : Ls) : Bool := !x.2.2.2.2.1 && decide (x.2.2.1 ≤ now)
noncomputable def dueS (m : TL) (now : Int) : List Int := (docL m).flatMap (fun x => bif decide (Tim now) && dueC now x then [x.1] else [])
theorem due_eq {m : TL} {n : Nat} (hm : LI m n) (hn : n ≤ 1000000) (now : Int) : F14 (((m, ()), ()), now, ()) = some (dueS m now, ()) := by
  have hl := hm.len
  unfold F14
  simp only [tl_mall m (show (toL m).length ≤ 1000000000 by omega), Option.bind_some]
  refine Eq.trans (loop_gather (l := toL m) (d := []) (g := fun e => bif decide (Tim now) && dueC now (cv e) then [e.1] else []) (K := fun a => some (a, ())) (by omega) (fun v => by cases (decide (Tim now) && dueC now (cv v)) <;> simp) (fun i a e hi ha => ?_) (fun a _ => ?_)) ?_
  · have hlt := (List.getElem?_eq_some_iff.1 hi).1
    simp only [List.length_nil, Nat.zero_add] at ha
    have eo : ∀ x : Int, appO a [x] = some (a ++ [x]) := fun x => appO_eq (by simp only [List.length_cons, List.length_nil]; simp only [capB]; omega)
    simp only [lt_len, hlt, decide_true, cond_true, idxN_nat _ _ hlt, hi, Option.bind_some, times_eq, wrap64_nat (show i < 9223372036854775807 by omega), eo, dueC, cv]
    cases decide (Tim now) with
    | false => simp only [cond_false, Bool.false_and, List.append_nil]
    | true =>
      cases e.2.1.2.2.2.1 with
      | true => simp only [cond_true, cond_false, Bool.not_true, Bool.false_and, Bool.and_false, List.append_nil]
      | false =>
        by_cases hb : e.2.1.2.1 ≤ now
        · simp only [hb, decide_true, cond_true, Bool.not_false, Bool.and_self]
        · simp only [hb, decide_false, cond_true, cond_false, Bool.not_false, Bool.and_false, List.append_nil]
  · simp only [lt_len, Nat.lt_irrefl, decide_false, cond_false]; rfl
  · unfold dueS docL
    rw [List.nil_append, List.flatMap_map]
    rfl
theorem refDue_eq {m : TL} {n : Nat} (hm : LI m n) (hn : n ≤ 1000000) (now : Int) : F39 (docL m, now, ()) = some (dueS m now, ()) := by
  have hl := hm.len
  have hd := docL_len m
  unfold F39
  refine Eq.trans (loop_gather (l := docL m) (d := []) (g := fun e => bif decide (Tim now) && dueC now e then [e.1] else []) (K := fun a => some (a, ())) (by omega) (fun v => by cases (decide (Tim now) && dueC now v) <;> simp) (fun i a e hi ha => ?_) (fun a _ => ?_)) ?_
  · have hlt := (List.getElem?_eq_some_iff.1 hi).1
    simp only [List.length_nil, Nat.zero_add] at ha
    have eo : ∀ x : Int, appO a [x] = some (a ++ [x]) := fun x => appO_eq (by simp only [List.length_cons, List.length_nil]; simp only [capB]; omega)
    simp only [lt_len, hlt, decide_true, cond_true, idx_nat, hi, Option.bind_some, refTime_eq, wrap64_nat (show i < 9223372036854775807 by omega), eo, dueC]
    cases decide (Tim now) with
    | false => simp only [cond_false, Bool.false_and, List.append_nil]
    | true =>
      cases e.2.2.2.2.1 with
      | true => simp only [cond_true, cond_false, Bool.not_true, Bool.false_and, Bool.and_false, List.append_nil]
      | false =>
        by_cases hb : e.2.2.1 ≤ now
        · simp only [hb, decide_true, cond_true, Bool.not_false, Bool.and_self]
        · simp only [hb, decide_false, cond_true, cond_false, Bool.not_false, Bool.and_false, List.append_nil]
  · simp only [lt_len, Nat.lt_irrefl, decide_false, cond_false]; rfl
  · rw [List.nil_append]; rfl
theorem bind_exM {α β M : Type} {x : Option α} {f : α → Option β} {g : M → β} {C : M → Prop} (P : α → Prop) (hx : ∃ a, x = some a ∧ P a) (hf : ∀ a, P a → ∃ m, f a = some (g m) ∧ C m) : ∃ m, Option.bind x f = some (g m) ∧ C m := by
  obtain ⟨a, rfl, h⟩ := hx
  exact hf a h
theorem do_ex {m : TL} {n : Nat} (hm : LI m n) (hn : n + 200 ≤ 1000000) (a : Act) (hL : a.2.2.2.2.2.2.1.length ≤ 70) : ∃ m', F9 (((m, ()), ()), docL m, a, ()) = some (((m', ()), ()), docL m', true, ()) ∧ LI m' (n + 100) := by
  obtain ⟨kd, id, ttl, left, now, held, these, ⟨⟩⟩ := a
  have hL' : these.length ≤ 70 := hL
  have hl := hm.len
  unfold F9
  refine bind_exM (g := fun m' => ((((m', ()), ()), docL m', true, ()) : ((TL × Unit) × Unit) × List Ls × Bool × Unit)) (C := fun m' => LI m' (n + 100))
    (fun o => ∃ (e : Int) (v : List Ls) (f : Int) (ok : Bool) (u : TL), o = Sum.inl (e, v, f, ok, (u, ()), (Tree.leaf, ()), ()) ∧ ((e = 0 ∧ ok = true ∧ f = 0 ∧ v = docL u ∧ LI u (n + 100)) ∨ (u = .leaf ∧ e ≠ 0 ∧ ((ok = true ∧ f = e) ∨ (ok = false ∧ e = 1))))) ?_ ?_
  · cases decide (intOf8 kd = intOf8 (UInt8.ofNat 0)) with
    | true =>
      obtain ⟨w, e1, e2⟩ := refGrant_eq hm (by omega) id ttl now
      simp only [cond_true, grant_eq hm (by omega), e1, Option.bind_some]
      refine ⟨_, rfl, _, _, _, _, _, rfl, ?_⟩
      rcases grantS_ok hm id ttl now with ⟨h1, h2⟩ | ⟨h1, h2⟩
      · exact .inl ⟨h1, rfl, h1, e2 h1, h2.mono (by omega)⟩
      · exact .inr ⟨h2, h1, .inl ⟨rfl, rfl⟩⟩
    | false =>
      simp only [cond_false]
      cases decide (intOf8 kd = intOf8 (UInt8.ofNat 1)) with
      | true =>
        obtain ⟨w, e1, e2⟩ := refKeep_eq hm (by omega) id now
        simp only [cond_true, keep_eq hm (by omega), e1, Option.bind_some]
        refine ⟨_, rfl, _, _, _, _, _, rfl, ?_⟩
        rcases keepS_ok hm id now with ⟨h1, h2⟩ | ⟨h1, h2⟩
        · exact .inl ⟨h1, rfl, h1, e2 h1, h2.mono (by omega)⟩
        · exact .inr ⟨h2, h1, .inl ⟨rfl, rfl⟩⟩
      | false =>
        simp only [cond_false]
        cases decide (intOf8 kd = intOf8 (UInt8.ofNat 2)) with
        | true =>
          obtain ⟨d1, d2, d3⟩ := dropS_ok hm id
          have hc : (!decide (Int.ofNat ((docL m).filter (fun e => !decide (e.1 = id))).length = Int.ofNat (docL m).length)) = (getL ltI id (toL m)).isSome := by
            rw [← d2]
            unfold dropS
            cases hs : (getL ltI id (toL m)).isSome with
            | false => simp only [cond_false, decide_true, Bool.not_true]
            | true =>
              obtain ⟨e, he, hk⟩ := (getL_some LO.int).1 hs
              have : (toL (tDel ltI id m)).length < (toL m).length := by
                rw [toL_del LO.int hm.1.1 hm.1.2.1]
                unfold delL
                refine List.length_filter_lt_length_iff_exists.2 ⟨e, he, ?_⟩
                rw [hk, LO.int.irr]; simp
              simp only [cond_true, docL_len]
              rw [decide_eq_false (by simp only [Int.ofNat_eq_natCast]; omega)]; rfl
          simp only [cond_true, drop_eq hm (show n ≤ 1000000 by omega), refDrop_eq _ id (show (docL m).length ≤ 1000000 by rw [docL_len]; omega), Option.bind_some, hc, BEq.rfl, Bool.not_true, cond_false]
          exact ⟨_, rfl, _, _, _, _, _, rfl, .inl ⟨rfl, rfl, rfl, d2.symm, d1.mono (by omega)⟩⟩
        | false =>
          simp only [cond_false]
          cases decide (intOf8 kd = intOf8 (UInt8.ofNat 3)) with
          | true =>
            obtain ⟨t, e1, e2, e3⟩ := hold_ex hm (show n ≤ 1000000 by omega) now
            simp only [cond_true, e1, refHold_eq hm (show n ≤ 1000000 by omega), Option.bind_some]
            exact ⟨_, rfl, _, _, _, _, _, rfl, .inl ⟨rfl, rfl, rfl, e3.symm, e2.mono (by omega)⟩⟩
          | false =>
            simp only [cond_false]
            cases decide (intOf8 kd = intOf8 (UInt8.ofNat 4)) with
            | true =>
              obtain ⟨t, e1, e2, e3⟩ := free_ex hm (show n ≤ 1000000 by omega) now
              simp only [cond_true, e1, refFree_eq hm (show n ≤ 1000000 by omega), Option.bind_some]
              exact ⟨_, rfl, _, _, _, _, _, rfl, .inl ⟨rfl, rfl, rfl, e3.symm, e2.mono (by omega)⟩⟩
            | false =>
              simp only [cond_false]
              cases decide (intOf8 kd = intOf8 (UInt8.ofNat 5)) with
              | true =>
                obtain ⟨o, o1, o2, e1⟩ := set_ex hm these (show n + these.length ≤ 1000000 by omega) now
                obtain ⟨w, b, e2, e3⟩ := repl_eq hm these (show n + these.length ≤ 1000000 by omega) now o o1 o2
                simp only [cond_true, e1, e2, Option.bind_some]
                cases hs : (bif decide (Tim now) then setS now these o else none) with
                | none =>
                  rw [hs] at e3
                  exact ⟨_, rfl, _, _, _, _, _, rfl, .inr ⟨rfl, (by decide : (1 : Int) ≠ 0), .inr ⟨e3, rfl⟩⟩⟩
                | some o' =>
                  rw [hs] at e3
                  have ho' : setS now these o = some o' := by
                    cases ht : decide (Tim now) with
                    | true => rw [ht] at hs; exact hs
                    | false => rw [ht] at hs; cases hs
                  exact ⟨_, rfl, _, _, _, _, _, rfl, .inl ⟨rfl, e3.1, rfl, e3.2, (setS_ok o1 ho').mono (by omega)⟩⟩
              | false =>
                simp only [cond_false, put_eq hm (show n ≤ 1000000 by omega), refPut_eq hm (show n ≤ 1000000 by omega), Option.bind_some]
                by_cases hp : OkP (id, ttl, left, ()) now
                · simp only [hp, decide_true, cond_true]
                  exact ⟨_, rfl, _, _, _, _, _, rfl, .inl ⟨rfl, rfl, rfl, rfl, (hm.put (putTm_ok hp held)).mono (by omega)⟩⟩
                · simp only [hp, decide_false, cond_false]
                  exact ⟨_, rfl, _, _, _, _, _, rfl, .inr ⟨rfl, (by decide : (1 : Int) ≠ 0), .inr ⟨rfl, rfl⟩⟩⟩
  · rintro a ⟨e, v, f, ok, u, rfl, ⟨rfl, rfl, rfl, rfl, hu⟩ | ⟨rfl, he, hok⟩⟩
    · simp only [Sum.elim_inl, Bool.not_true, cond_false, Option.bind_some, decide_true]
      exact ⟨u, rfl, hu⟩
    · have hall : F18 (((Tree.leaf, ()), ()), 0, ()) = some (allS .leaf 0, ()) := all_eq LI.leaf (by omega) 0
      have hlen : decide (Int.ofNat (allS .leaf 0).length = 0) = true := by unfold allS; cases decide (Tim 0) <;> rfl
      rcases hok with ⟨rfl, rfl⟩ | ⟨rfl, rfl⟩
      · simp only [Sum.elim_inl, Bool.not_true, cond_false, Option.bind_some, decide_true, he, decide_false, Bool.not_false, cond_true, hall, hlen]
        exact ⟨m, rfl, hm.mono (by omega)⟩
      · simp only [Sum.elim_inl, Bool.not_true, Bool.not_false, cond_true, cond_false, Option.bind_some, decide_true, show decide ((1 : Int) = 0) = false from rfl, hall, hlen]
        exact ⟨m, rfl, hm.mono (by omega)⟩
end Go.Proofs.Ytmgniagajmfhaaa
