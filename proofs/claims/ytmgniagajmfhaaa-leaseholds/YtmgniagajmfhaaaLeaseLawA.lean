/-
  lease: the program's tables and the document's lists, act by act.
-/
import Derived.Test.YtmgniagajmfhaaaLeaseTree
namespace Go.Proofs.Ytmgniagajmfhaaa
open Go.Sx Go Classical
set_option maxRecDepth 10000
abbrev Tm : Type := Int × Int × Int × Bool × Unit
abbrev TL : Type := Tree Int Tm
abbrev Ls : Type := Int × Tm
abbrev Al : Type := Int × Int × Int × Unit
abbrev En : Type := KV Int Tm
def cv (e : En) : Ls := (e.1, e.2.1)
def docL (m : TL) : List Ls := (toL m).map cv
theorem docL_len (m : TL) : (docL m).length = (toL m).length := List.length_map ..
def Tim (n : Int) : Prop := 0 ≤ n ∧ n ≤ 1099511627776
theorem times_eq (n : Int) : F35 (n, ()) = some (decide (Tim n), ()) := by
  unfold F35 Tim
  by_cases h : 0 ≤ n <;> simp [h]
theorem refTime_eq (n : Int) : F40 (n, ()) = some (decide (Tim n), ()) := by
  unfold F40 Tim
  by_cases h : 0 ≤ n <;> simp [h]
def MayP (id ttl now : Int) : Prop := (¬ id = 0 ∧ -1099511627776 ≤ id ∧ id ≤ 1099511627776 ∧ 1 ≤ ttl ∧ ttl ≤ 1000) ∧ Tim now
theorem may_eq (id ttl now : Int) : F32 (id, ttl, now, ()) = some (decide (MayP id ttl now), ()) := by
  unfold F32 MayP
  simp only [times_eq, Option.bind_some]
  by_cases h1 : id = 0 <;> by_cases h2 : -1099511627776 ≤ id <;> by_cases h3 : id ≤ 1099511627776 <;> by_cases h4 : 1 ≤ ttl <;> by_cases h5 : ttl ≤ 1000 <;> simp [h1, h2, h3, h4, h5]
theorem refMay_eq (id ttl now : Int) : F43 (id, ttl, now, ()) = some (decide (MayP id ttl now), ()) := by
  unfold F43 MayP
  simp only [refTime_eq, Option.bind_some]
  by_cases h1 : id = 0 <;> by_cases h2 : -1099511627776 ≤ id <;> by_cases h3 : id ≤ 1099511627776 <;> by_cases h4 : 1 ≤ ttl <;> by_cases h5 : ttl ≤ 1000 <;> simp [h1, h2, h3, h4, h5]
/-- what may be in a table -/
def EOk (n : Nat) (e : En) : Prop := ¬ e.1 = 0 ∧ (1 ≤ e.2.1.1 ∧ e.2.1.1 ≤ 1000) ∧ (0 ≤ e.2.1.2.1 ∧ e.2.1.2.1 ≤ ((n : Int) + 1) * 2199023255552) ∧ (0 ≤ e.2.1.2.2.1 ∧ e.2.1.2.2.1 ≤ ((n : Int) + 1) * 2199023255552)
theorem EOk.mono {n k : Nat} {e : En} (h : EOk n e) (hk : n ≤ k) : EOk k e := ⟨h.1, h.2.1, ⟨h.2.2.1.1, by have := h.2.2.1.2; omega⟩, h.2.2.2.1, by have := h.2.2.2.2; omega⟩
def LI (m : TL) (n : Nat) : Prop := MapI ltI m n ∧ ∀ e ∈ toL m, EOk n e
theorem LI.leaf : LI .leaf 0 := ⟨.leaf, fun e h => (by simp [toL] at h)⟩
theorem LI.mono {m : TL} {n k : Nat} (h : LI m n) (hk : n ≤ k) : LI m k := ⟨h.1.mono hk, fun e he => (h.2 e he).mono hk⟩
theorem LI.put {m : TL} {n : Nat} (h : LI m n) {p : En} (hp : EOk (n + 1) p) : LI (tPut ltI p m) (n + 1) := ⟨h.1.put LO.int, fun e he => by
  rw [toL_put LO.int h.1.2.1] at he
  rcases (mem_putL LO.int).1 he with rfl | ⟨h1, _⟩
  · exact hp
  · exact (h.2 e h1).mono (Nat.le_succ n)⟩
theorem LI.del {m : TL} {n : Nat} (h : LI m n) {x : Int} : LI (tDel ltI x m) n := ⟨h.1.del LO.int, fun e he => by
  rw [toL_del LO.int h.1.1 h.1.2.1] at he
  exact h.2 e (List.mem_filter.1 he).1⟩
theorem LI.len {m : TL} {n : Nat} (h : LI m n) : (toL m).length ≤ n := h.1.2.2
/-- with a lease -/
def setL (x : Ls) (l : List Ls) : List Ls := l.filter (fun e => ltI e.1 x.1) ++ x :: l.filter (fun e => ltI x.1 e.1)
theorem docL_put {m : TL} {n : Nat} (h : LI m n) (p : En) : docL (tPut ltI p m) = setL (cv p) (docL m) := by
  unfold docL setL
  rw [toL_put LO.int h.1.2.1]
  unfold putL
  rw [List.map_append, List.map_cons, List.filter_map, List.filter_map]
  rfl
theorem docL_del {m : TL} {n : Nat} (h : LI m n) (x : Int) : docL (tDel ltI x m) = (docL m).filter fun e => !decide (e.1 = x) := by
  unfold docL
  rw [toL_del LO.int h.1.1 h.1.2.1, List.filter_map]
  unfold delL
  congr 2
  funext e
  exact ne_lt LO.int e.1 x
theorem refSet_eq (l : List Ls) (x : Ls) (h : l.length ≤ 1000000) : F45 (l, x, ()) = some (setL x l, ()) := by
  unfold F45
  have hb := List.length_filter_le (fun e : Ls => ltI e.1 x.1) l
  refine Eq.trans (loop_gather (l := l) (d := []) (g := fun e => bif ltI e.1 x.1 then [e] else []) (K := fun a => Option.bind (appO a [x]) fun b => some (b ++ l.filter (fun e => ltI x.1 e.1), ())) (by omega) (fun v => by cases ltI v.1 x.1 <;> simp) (fun i a v hi ha => ?_) (fun a ha => ?_)) ?_
  · have hlt := (List.getElem?_eq_some_iff.1 hi).1
    simp only [List.length_nil, Nat.zero_add] at ha
    simp only [lt_len, hlt, decide_true, cond_true, idx_nat, hi, Option.bind_some, wrap64_nat (show i < 9223372036854775807 by omega), appO_eq (l := a) (x := [v]) (by simp only [List.length_cons, List.length_nil]; simp only [capB]; omega), show decide (v.1 < x.1) = ltI v.1 x.1 from rfl]
    cases ltI v.1 x.1 with
    | true => rfl
    | false => simp only [cond_false, List.append_nil]
  · simp only [List.length_nil, Nat.zero_add] at ha
    simp only [lt_len, Nat.lt_irrefl, decide_false, cond_false]
    congr 1
    rw [appO_eq (by simp only [List.length_cons, List.length_nil]; simp only [capB]; omega)]
    simp only [Option.bind_some]
    refine Eq.trans (loop_gather (l := l) (d := a ++ [x]) (g := fun e => bif ltI x.1 e.1 then [e] else []) (K := fun a => some (a, ())) (by omega) (fun v => by cases ltI x.1 v.1 <;> simp) (fun i b v hi hb => ?_) (fun b _ => ?_)) (by rw [flatMap_filter (fun e : Ls => ltI x.1 e.1)])
    · have hlt := (List.getElem?_eq_some_iff.1 hi).1
      simp only [List.length_append, List.length_cons, List.length_nil] at hb
      simp only [lt_len, hlt, decide_true, cond_true, idx_nat, hi, Option.bind_some, wrap64_nat (show i < 9223372036854775807 by omega), appO_eq (l := b) (x := [v]) (by simp only [List.length_cons, List.length_nil]; simp only [capB]; omega), show decide (x.1 < v.1) = ltI x.1 v.1 from rfl]
      cases ltI x.1 v.1 with
      | true => rfl
      | false => simp only [cond_false, List.append_nil]
    · simp only [lt_len, Nat.lt_irrefl, decide_false, cond_false]; rfl
  · rw [flatMap_filter (fun e : Ls => ltI e.1 x.1), List.nil_append, appO_eq (by simp only [List.length_cons, List.length_nil]; simp only [capB]; omega), Option.bind_some]
    unfold setL
    rw [List.append_assoc]
    rfl
theorem idx_ex (l : List Ls) (id : Int) (h : l.length ≤ 1000000) : ∃ r : Int, F44 (l, id, ()) = some (r, ()) ∧ ((r = -1 ∧ ∀ v ∈ l, decide (v.1 = id) = false) ∨ ∃ (k : Nat) (v : Ls), r = (k : Int) ∧ l[k]? = some v ∧ decide (v.1 = id) = true) := by
  unfold F44
  refine loop_idx (l := l) (p := fun v => decide (v.1 = id)) (by omega) (fun i v hi => ?_) (by simp only [lt_len, Nat.lt_irrefl, decide_false, cond_false])
  have hlt := (List.getElem?_eq_some_iff.1 hi).1
  simp only [lt_len, hlt, decide_true, cond_true, idx_nat, hi, Option.bind_some, wrap64_nat (show i < 9223372036854775807 by omega)]
  cases decide (v.1 = id) <;> rfl
/-- where a lease stands in the document's list -/
theorem at_ex {m : TL} {n : Nat} (h : LI m n) (hn : n ≤ 1000000) (id : Int) : ∃ r : Int, F44 (docL m, id, ()) = some (r, ()) ∧
    match getL ltI id (toL m) with
    | none => r = -1
    | some tm => ∃ k : Nat, r = (k : Int) ∧ (docL m)[k]? = some (id, tm) := by
  have hl := h.len
  obtain ⟨r, e, hr⟩ := idx_ex (docL m) id (by rw [docL_len]; omega)
  refine ⟨r, e, ?_⟩
  rcases hr with ⟨hr, h1⟩ | ⟨k, v, hr, h1, h2⟩
  · cases hg : getL ltI id (toL m) with
    | none => exact hr
    | some tm =>
      have hm := (getL_eq LO.int h.1.2.1).1 hg
      have := h1 (id, tm) (List.mem_map.2 ⟨_, hm, rfl⟩)
      rw [decide_eq_true rfl] at this
      exact Bool.noConfusion this
  · obtain ⟨vi, vt⟩ := v
    obtain rfl : vi = id := of_decide_eq_true h2
    obtain ⟨e, he, hv⟩ := List.mem_map.1 (List.mem_of_getElem? h1)
    obtain ⟨ei, et, ⟨⟩⟩ := e
    cases hv
    rw [(getL_eq LO.int h.1.2.1).2 he]
    exact ⟨k, hr, h1⟩
/-- how many leases are alike -/
def alike (id : Int) (m : TL) : Int := (((toL m).filter fun e : En => decide (0 < e.1) == decide (0 < id)).length : Int)
theorem many_eq {m : TL} {n : Nat} (h : LI m n) (hn : n ≤ 1000000) (id : Int) : F33 (((m, ()), ()), decide (0 < id), ()) = some (alike id m, ()) := by
  have hl := h.len
  have len := h.1.1.len
  have e0 : tRank ltI 0 m = (((toL m).filter (fun e : En => ltI e.1 0)).length : Int) := rankT_eq LO.int h.1.1 h.1.2.1
  unfold F33 alike
  simp only [tl_mrank m 0 h.1.1 (show (toL m).length ≤ 1000000000 by omega), e0, Option.bind_some, tl_mlen]
  have key : ∀ l : List En, (∀ e ∈ l, EOk n e) → (l.filter fun e : En => ltI e.1 0).length = (l.filter fun e : En => decide (0 < e.1) == false).length ∧ (l.filter fun e : En => ltI e.1 0).length + (l.filter fun e : En => decide (0 < e.1) == true).length = l.length := by
    intro l
    induction l with
    | nil => intro _; exact ⟨rfl, rfl⟩
    | cons e l ih =>
      intro he
      obtain ⟨i1, i2⟩ := ih fun x hx => he x (List.mem_cons_of_mem _ hx)
      have h0 := (he e (List.mem_cons_self ..)).1
      simp only [List.filter_cons]
      by_cases hp : 0 < e.1
      · have : ltI e.1 0 = false := decide_eq_false (by omega)
        simp only [this, hp, decide_true, Bool.false_eq_true, if_false, if_true, List.length_cons, show (true == false) = false from rfl, show (true == true) = true from rfl]
        omega
      · have : ltI e.1 0 = true := decide_eq_true (by omega)
        simp only [this, hp, decide_false, Bool.false_eq_true, if_false, if_true, List.length_cons, show (false == false) = true from rfl, show (false == true) = false from rfl]
        omega
  obtain ⟨k1, k2⟩ := key (toL m) h.2
  cases decide (0 < id) with
  | true =>
    simp only [cond_true, len]
    rw [wrap64_eq (by omega) (by omega)]
    congr 2
    omega
  | false =>
    simp only [cond_false]
    rw [k1]
theorem alike_doc (id : Int) (m : TL) : (((docL m).filter fun e => decide (0 < e.1) == decide (0 < id)).length : Int) = alike id m := by
  unfold docL alike
  rw [List.filter_map, List.length_map]
  rfl
noncomputable def grantS (m : TL) (id ttl now : Int) : TL × Int :=
  bif decide (MayP id ttl now) then
    bif (getL ltI id (toL m)).isSome then (.leaf, 7)
    else bif decide (64 ≤ alike id m) then (.leaf, 4) else (tPut ltI (id, (ttl, now + ttl, 0, false, ()), ()) m, 0)
  else (.leaf, 1)
theorem tget_eq {m : TL} {n : Nat} (h : LI m n) (hn : n ≤ 1000000) (id : Int) : F30 ((m, ()), id, ()) = some ((getL ltI id (toL m)).elim ((0, 0, 0, false, ()), false, ()) fun v => (v, true, ())) := by
  have hl := h.len
  rw [tl_mget m id (by omega), getT_eq LO.int h.1.2.1]
theorem grant_eq {m : TL} {n : Nat} (h : LI m n) (hn : n ≤ 1000000) (id ttl now : Int) : F11 (((m, ()), ()), id, ttl, now, ()) = some ((((grantS m id ttl now).1, ()), ()), (grantS m id ttl now).2, ()) := by
  have hl := h.len
  unfold F11 grantS
  simp only [may_eq, Option.bind_some]
  by_cases hm : MayP id ttl now
  · have ht := hm.2
    obtain ⟨t1, t2⟩ := ht
    have hm' := hm
    obtain ⟨⟨-, -, -, u1, u2⟩, -⟩ := hm'
    simp only [hm, decide_true, Bool.not_true, cond_false, cond_true, tget_eq h hn, Option.bind_some, many_eq h hn, wrap64_eq (show -9223372036854775808 ≤ now + ttl by omega) (show now + ttl ≤ 9223372036854775807 by omega), tl_mput m _ _ h.1.1 (show (toL m).length ≤ 1000000000 by omega)]
    cases getL ltI id (toL m) with
    | some v => rfl
    | none =>
      simp only [Option.elim_none, cond_false, Option.isSome_none]
      cases decide (64 ≤ alike id m) <;> rfl
  · simp only [hm, decide_false, Bool.not_false, cond_true, cond_false]
theorem grantS_ok {m : TL} {n : Nat} (h : LI m n) (id ttl now : Int) : ((grantS m id ttl now).2 = 0 ∧ LI (grantS m id ttl now).1 (n + 1)) ∨ ((grantS m id ttl now).2 ≠ 0 ∧ (grantS m id ttl now).1 = .leaf) := by
  unfold grantS
  by_cases hm : MayP id ttl now
  · have hm' := hm
    obtain ⟨⟨u0, -, -, u1, u2⟩, t1, t2⟩ := hm'
    simp only [hm, decide_true, cond_true]
    cases (getL ltI id (toL m)).isSome with
    | true => exact .inr ⟨by simp, rfl⟩
    | false =>
      simp only [cond_false]
      cases decide (64 ≤ alike id m) with
      | true => exact .inr ⟨by simp, rfl⟩
      | false => exact .inl ⟨rfl, h.put ⟨u0, ⟨u1, u2⟩, ⟨by show 0 ≤ now + ttl; omega, by show now + ttl ≤ ((n + 1 : Nat) + 1 : Int) * 2199023255552; omega⟩, (by decide : (0 : Int) ≤ 0), by show (0 : Int) ≤ ((n + 1 : Nat) + 1 : Int) * 2199023255552; omega⟩⟩
  · simp only [hm, decide_false, cond_false]
    exact .inr ⟨by simp, trivial⟩
theorem refGrant_eq {m : TL} {n : Nat} (h : LI m n) (hn : n ≤ 1000000) (id ttl now : Int) : ∃ w, F23 (docL m, id, ttl, now, ()) = some (w, (grantS m id ttl now).2, ()) ∧ ((grantS m id ttl now).2 = 0 → w = docL (grantS m id ttl now).1) := by
  have hl := h.len
  unfold F23 grantS
  simp only [refMay_eq, Option.bind_some]
  by_cases hm : MayP id ttl now
  · have hm' := hm
    obtain ⟨⟨u0, -, -, u1, u2⟩, t1, t2⟩ := hm'
    obtain ⟨r, e, hr⟩ := at_ex h hn id
    simp only [hm, decide_true, Bool.not_true, cond_false, cond_true, e, Option.bind_some]
    cases hg : getL ltI id (toL m) with
    | some tm =>
      rw [hg] at hr
      obtain ⟨k, rfl, _⟩ := hr
      simp only [decide_eq_true (show (0 : Int) ≤ (k : Int) by omega), cond_true, Option.isSome_some]
      exact ⟨_, rfl, fun h => absurd h (by simp)⟩
    | none =>
      rw [hg] at hr
      obtain rfl : r = -1 := hr
      simp only [show decide ((0 : Int) ≤ -1) = false from rfl, cond_false, Option.isSome_none]
      have hc := loop_count (R := List Ls × Int × Unit) (step := fun (x_1 : Int × Int × Unit) =>
          bif decide (x_1.snd.fst < Int.ofNat (List.length (docL m))) then
            Option.bind (idx (docL m) x_1.snd.fst) fun (b : Ls) =>
              bif decide (0 < b.fst) == decide (0 < id) then some (Sum.inl (wrap64 (x_1.fst + 1), wrap64 (x_1.snd.fst + 1), ()))
              else some (Sum.inl (x_1.fst, wrap64 (x_1.snd.fst + 1), ()))
          else Option.map Sum.inr (bif decide (64 ≤ x_1.fst) then some ([], 4, ())
            else Option.bind (F45 (docL m, (id, ttl, wrap64 (now + ttl), 0, false, ()), ())) fun (b : List Ls × Unit) => some (b.fst, 0, ()))) (l := docL m) (p := fun e => decide (0 < e.1) == decide (0 < id))
          (K := fun a => bif decide (64 ≤ a) then ([], 4, ()) else (docL (tPut ltI (id, (ttl, now + ttl, 0, false, ()), ()) m), 0, ())) (by rw [docL_len]; omega) (fun i a v hi h0 h1 => by
            have hlt := (List.getElem?_eq_some_iff.1 hi).1
            rw [docL_len] at hlt
            have hlt' : i < (docL m).length := by rw [docL_len]; exact hlt
            simp only [lt_len, hlt', decide_true, cond_true, idx_nat, hi, Option.bind_some, wrap64_nat (show i < 9223372036854775807 by omega), wrap64_eq (show -9223372036854775808 ≤ a + 1 by omega) (show a + 1 ≤ 9223372036854775807 by omega)]
            cases (decide (0 < v.1) == decide (0 < id)) <;> rfl) (fun a => by
            simp only [lt_len, Nat.lt_irrefl, decide_false, cond_false, wrap64_eq (show -9223372036854775808 ≤ now + ttl by omega) (show now + ttl ≤ 9223372036854775807 by omega), refSet_eq _ _ (show (docL m).length ≤ 1000000 by rw [docL_len]; omega), Option.bind_some]
            rw [docL_put h]
            cases decide (64 ≤ a) <;> rfl)
      rw [alike_doc] at hc
      refine ⟨_, hc.trans (?_ : _ = some ((bif decide (64 ≤ alike id m) then ([], 4, ()) else (docL (tPut ltI (id, (ttl, now + ttl, 0, false, ()), ()) m), 0, ())).1, (bif decide (64 ≤ alike id m) then ((.leaf : TL), (4 : Int)) else (tPut ltI (id, (ttl, now + ttl, 0, false, ()), ()) m, 0)).2, ())), ?_⟩
      · cases decide (64 ≤ alike id m) <;> rfl
      · cases decide (64 ≤ alike id m) with
        | true => intro h; exact absurd h (by simp)
        | false => intro _; rfl
  · simp only [hm, decide_false, Bool.not_false, cond_true, cond_false]
    exact ⟨_, rfl, fun h => absurd h (by simp)⟩
end Go.Proofs.Ytmgniagajmfhaaa
