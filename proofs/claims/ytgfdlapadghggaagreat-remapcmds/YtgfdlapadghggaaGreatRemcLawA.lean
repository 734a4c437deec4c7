/-
  remap: commands and items under another prefix.
-/
import Derived.Test.YtgfdlapadghggaaGreatRemPlain
namespace Go.Proofs.YtgfdlapadghggaaGreat
open Go.Sx Go Classical
set_option maxRecDepth 10000
/-- a loop that maps a list, or ends early -/
theorem map_loop {α T R : Type} (l : List α) (hl : l.length ≤ 9223372036854775806) (ok : α → Bool) (to : α → α) (mk : List α → Nat → T) {step : T → Option (T ⊕ R)} (rt : List α → R) (rf : R)
    (h : ∀ i v d, d.length = i → l[i]? = some v → step (mk d i) = some (bif ok v then .inl (mk (d ++ [to v]) (i + 1)) else .inr rf)) (hK : ∀ d, d.length = l.length → step (mk d l.length) = some (.inr (rt d))) :
    iter step big (mk [] 0) = some (bif l.all ok then rt (l.map to) else rf) := by
  have main : ∀ k i m d, i + k = l.length → k < m → d.length = i → iter step m (mk d i) = some (bif (l.drop i).all ok then rt (d ++ (l.drop i).map to) else rf) := by
    intro k
    induction k with
    | zero =>
      intro i m d hi hm hd
      cases m with
      | zero => omega
      | succ m =>
        rw [Nat.add_zero] at hi
        subst hi
        simp [iter, hK d hd]
    | succ k ih =>
      intro i m d hi hm hd
      cases m with
      | zero => omega
      | succ m =>
        have hlt : i < l.length := by omega
        have h0 := h i l[i] d hd (List.getElem?_eq_getElem hlt)
        rw [List.drop_eq_getElem_cons hlt]
        simp only [iter, h0, Option.bind_some, List.all_cons, List.map_cons]
        cases hv : ok l[i] with
        | false => rfl
        | true =>
          simp only [cond_true, Sum.elim_inl, Bool.true_and]
          rw [ih (i + 1) m _ (by omega) (by omega) (by simp [hd])]
          simp
  have := main l.length 0 big [] (by omega) (by rw [big_eq]; omega) rfl
  simpa using this
noncomputable def mapTo {α : Type} (ok : α → Bool) (to : α → α) (l : List α) : List α × Bool × Unit := bif l.all ok then (l.map to, true, ()) else ([], false, ())
noncomputable def cOk (p q : List UInt8) (c : T96D) : Bool := (keyTo p q c.1).2.1
noncomputable def cTo (p q : List UInt8) (c : T96D) : T96D := ((keyTo p q c.1).1, c.2)
noncomputable def oOk (p q : List UInt8) (o : T48D) : Bool := (rangeTo p q o.2.1 o.2.2.1).2.2.1
noncomputable def oTo (p q : List UInt8) (o : T48D) : T48D := (o.1, (rangeTo p q o.2.1 o.2.2.1).1, (rangeTo p q o.2.1 o.2.2.1).2.1, o.2.2.2)
noncomputable def iOk (p q : List UInt8) (x : T70D) : Bool := (keyTo p q x.1).2.1
noncomputable def iTo (p q : List UInt8) (x : T70D) : T70D := ((keyTo p q x.1).1, x.2)
theorem app_few {α : Type} {d : List α} {v : α} {n : Nat} (h : d.length = n) (hn : n < 100) : appO d [v] = some (d ++ [v]) := appO_eq (by have : capB = 34359738368 := rfl; simp only [List.length_cons, List.length_nil]; omega)
theorem cmps_to (p q : List UInt8) (l : List T96D) (hl : l.length ≤ 4) : F18 (p, q, l, ()) = some (mapTo (cOk p q) (cTo p q) l) := by
  unfold F18
  refine (map_loop l (by omega) (cOk p q) (cTo p q) (fun d i => (d, (i : Int), ())) (fun d => (d, true, ())) ([], false, ()) (fun i v d hd hv => ?_) (fun d hd => ?_)).trans rfl
  · have hi := (List.getElem?_eq_some_iff.1 hv).1
    simp only [lt_len, hi, decide_true, cond_true, idx_nat, hv, Option.bind_some, f_remap_Key, app_few hd (by omega), wrap64_nat (show i < 9223372036854775807 by omega), cOk, cTo]
    cases (keyTo p q v.1).2.1 <;> rfl
  · simp only [lt_len, Nat.lt_irrefl, decide_false, cond_false]
theorem ops_to (p q : List UInt8) (l : List T48D) (hl : l.length ≤ 4) : F19 (p, q, l, ()) = some (mapTo (oOk p q) (oTo p q) l) := by
  unfold F19
  refine (map_loop l (by omega) (oOk p q) (oTo p q) (fun d i => (d, (i : Int), ())) (fun d => (d, true, ())) ([], false, ()) (fun i v d hd hv => ?_) (fun d hd => ?_)).trans rfl
  · have hi := (List.getElem?_eq_some_iff.1 hv).1
    simp only [lt_len, hi, decide_true, cond_true, idx_nat, hv, Option.bind_some, f_remap_Range, app_few hd (by omega), wrap64_nat (show i < 9223372036854775807 by omega), oOk, oTo]
    cases (rangeTo p q v.2.1 v.2.2.1).2.2.1 <;> rfl
  · simp only [lt_len, Nat.lt_irrefl, decide_false, cond_false]
theorem rOps_to (p q : List UInt8) (hp : St p) (hq : St q) (l : List T48D) (hl : l.length ≤ 4) (hz : ∀ o ∈ l, SzOp o) : F22 (p, q, l, ()) = some (mapTo (oOk p q) (oTo p q) l) := by
  unfold F22
  refine (map_loop l (by omega) (oOk p q) (oTo p q) (fun d i => (d, (i : Int), ())) (fun d => (d, true, ())) ([], false, ()) (fun i v d hd hv => ?_) (fun d hd => ?_)).trans rfl
  · have hi := (List.getElem?_eq_some_iff.1 hv).1
    obtain ⟨z1, z2, -⟩ := hz v (List.mem_of_getElem? hv)
    simp only [lt_len, hi, decide_true, cond_true, idx_nat, hv, Option.bind_some, f_decampref18_Range p q v.2.1 v.2.2.1 hp hq z1 z2, app_few hd (by omega), wrap64_nat (show i < 9223372036854775807 by omega), oOk, oTo]
    cases (rangeTo p q v.2.1 v.2.2.1).2.2.1 <;> rfl
  · simp only [lt_len, Nat.lt_irrefl, decide_false, cond_false]
theorem app_many {α : Type} {d : List α} {v : α} {n : Nat} (h : d.length = n) (hn : n < 1000000) : appO d [v] = some (d ++ [v]) := appO_eq (by have : capB = 34359738368 := rfl; simp only [List.length_cons, List.length_nil]; omega)
theorem items_to (p q : List UInt8) (l : List T70D) (hl : l.length ≤ 1000000) : F10 (p, q, l, ()) = some (mapTo (iOk p q) (iTo p q) l) := by
  unfold F10
  refine (map_loop l (by omega) (iOk p q) (iTo p q) (fun d i => (d, (i : Int), ())) (fun d => (d, true, ())) ([], false, ()) (fun i v d hd hv => ?_) (fun d hd => ?_)).trans rfl
  · have hi := (List.getElem?_eq_some_iff.1 hv).1
    simp only [lt_len, hi, decide_true, cond_true, idx_nat, hv, Option.bind_some, f_remap_Key, app_many hd (by omega), wrap64_nat (show i < 9223372036854775807 by omega), iOk, iTo]
    cases (keyTo p q v.1).2.1 <;> rfl
  · simp only [lt_len, Nat.lt_irrefl, decide_false, cond_false]
theorem rItems_to (p q : List UInt8) (hp : St p) (hq : St q) (l : List T70D) (hl : l.length ≤ 1000000) (hz : ∀ x ∈ l, St x.1) : F11 (p, q, l, ()) = some (mapTo (iOk p q) (iTo p q) l) := by
  unfold F11
  refine (map_loop l (by omega) (iOk p q) (iTo p q) (fun d i => (d, (i : Int), ())) (fun d => (d, true, ())) ([], false, ()) (fun i v d hd hv => ?_) (fun d hd => ?_)).trans rfl
  · have hi := (List.getElem?_eq_some_iff.1 hv).1
    have z1 := hz v (List.mem_of_getElem? hv)
    simp only [lt_len, hi, decide_true, cond_true, idx_nat, hv, Option.bind_some, f_decampref18_Key p q v.1 hp hq z1, app_many hd (by omega), wrap64_nat (show i < 9223372036854775807 by omega), iOk, iTo]
    cases (keyTo p q v.1).2.1 <;> rfl
  · simp only [lt_len, Nat.lt_irrefl, decide_false, cond_false]
/-! ### what stays right -/
theorem keyTo_cases (p q k : List UInt8) : keyTo p q k = ([], false, ()) ∨ ∃ r, IsPrefix p ∧ IsPrefix q ∧ k = p ++ r ∧ IsKey (p ++ r) ∧ IsKey (q ++ r) ∧ keyTo p q k = (q ++ r, true, ()) := by
  cases h : (keyTo p q k).2.1 with
  | false =>
    left
    unfold keyTo at h ⊢
    by_cases c : Under p k ∧ IsPrefix q ∧ IsKey (q ++ k.drop p.length)
    · rw [if_pos c] at h; cases h
    · rw [if_neg c]
  | true =>
    obtain ⟨⟨k1, k2, k3⟩, k4, k5, k6⟩ := keyTo_ok h
    obtain ⟨r, rfl⟩ := begins_iff.1 k3
    have hd : (p ++ r).drop p.length = r := by simp
    rw [hd] at k5 k6
    refine .inr ⟨r, k1, k4, rfl, k2, k5, ?_⟩
    refine Prod.ext k6 (Prod.ext h rfl)
theorem keyTo_of {p q r : List UInt8} (h1 : IsPrefix p) (h2 : IsPrefix q) (h3 : IsKey (p ++ r)) (h4 : IsKey (q ++ r)) : keyTo p q (p ++ r) = (q ++ r, true, ()) := by
  have hd : (p ++ r).drop p.length = r := by simp
  unfold keyTo
  rw [if_pos ⟨⟨h1, h3, begins_app p r⟩, h2, by rw [hd]; exact h4⟩, hd]
theorem InP_moves {p q k e k' e' s : List UInt8} (h : Moves p q k e k' e') (h1 : IsKey (p ++ s)) (h2 : IsKey (q ++ s)) : InP k e (p ++ s) ↔ InP k' e' (q ++ s) := by
  obtain ⟨g1, g2, g3, g4, ⟨r, rfl, rfl⟩, g7⟩ := h
  unfold InP
  simp only [g3, g4, h1, h2, true_and, strlt_append, List.append_cancel_left_eq]
  rcases g7 with ⟨rfl, rfl⟩ | ⟨rfl, rfl⟩ | ⟨t, rfl, rfl⟩
  · simp only [strlt_nil]
  · simp only [lt_endOf g1 s, lt_endOf g2 s]
  · simp only [strlt_append]
/-- an Op, moved -/
theorem op_moves {p q : List UInt8} {o : T48D} (h : oOk p q o = true) : ∃ k' e', Moves p q o.2.1 o.2.2.1 k' e' ∧ oTo p q o = (o.1, k', e', o.2.2.2) := by
  unfold oOk oTo at *
  rcases rangeTo_cases p q o.2.1 o.2.2.1 with e | ⟨k', e', hM, e⟩
  · rw [e] at h; cases h
  · exact ⟨k', e', hM, by rw [e]⟩
theorem ends_nil {p q e e' : List UInt8} (h1 : IsPrefix p) (h : Ends p q e e') (he : e = []) : e' = [] := by
  rcases h with ⟨a, b⟩ | ⟨a, b⟩ | ⟨t, a, b⟩
  · exact b
  · exact absurd (a.symm.trans he) (endOf_ne h1)
  · exact absurd (a.symm.trans he) (prefix_ne h1 t)
theorem op_right {p q : List UInt8} {o : T48D} (h : oOk p q o = true) (ho : OpOk o) : OpOk (oTo p q o) := by
  obtain ⟨k', e', hM, e⟩ := op_moves h
  rw [e]
  rcases ho with ⟨a1, a2, a3, a4⟩ | ⟨a1, a2, a3, a4⟩
  · exact .inl ⟨a1, ends_nil hM.1 hM.2.2.2.2.2 a2, hM.2.2.2.1.1, a4⟩
  · exact .inr ⟨a1, a2, a3, hM.2.2.2.1⟩
theorem meet_moves {p q : List UInt8} {a b : T48D} (ha : oOk p q a = true) (hb : oOk p q b = true) : Meet (oTo p q a) (oTo p q b) ↔ Meet a b := by
  obtain ⟨k1, e1, hM1, x1⟩ := op_moves ha
  obtain ⟨k2, e2, hM2, x2⟩ := op_moves hb
  rw [x1, x2]
  obtain ⟨r1, y1, z1⟩ := hM1.2.2.2.2.1
  obtain ⟨r2, y2, z2⟩ := hM2.2.2.2.2.1
  have i1 := InP_moves hM1 (s := r2) (y2 ▸ hM2.2.2.1.1) (z2 ▸ hM2.2.2.2.1.1)
  have i2 := InP_moves hM2 (s := r1) (y1 ▸ hM1.2.2.1.1) (z1 ▸ hM1.2.2.2.1.1)
  unfold Meet
  dsimp only
  rw [← y2, ← z2] at i1
  rw [← y1, ← z1] at i2
  rw [i1, i2]
theorem ops_right {p q : List UInt8} {l : List T48D} (h : l.all (oOk p q) = true) (hl : OpsOk l) : OpsOk (l.map (oTo p q)) := by
  have hall : ∀ o ∈ l, oOk p q o = true := fun o ho => List.all_eq_true.1 h o ho
  refine ⟨fun i v hv => ?_, by rw [List.length_map]; exact hl.2⟩
  rw [List.getElem?_map] at hv
  obtain ⟨v0, hv0, rfl⟩ := Option.map_eq_some_iff.1 hv
  obtain ⟨h1, h2⟩ := hl.1 i v0 hv0
  have hm := hall v0 (List.mem_of_getElem? hv0)
  refine ⟨op_right hm h1, fun j w hj hw => ?_⟩
  rw [List.getElem?_map] at hw
  obtain ⟨w0, hw0, rfl⟩ := Option.map_eq_some_iff.1 hw
  exact fun hh => h2 j w0 hj hw0 ((meet_moves (hall w0 (List.mem_of_getElem? hw0)) hm).1 hh)
theorem cmp_right {p q : List UInt8} {c : T96D} (h : cOk p q c = true) (hc : CmpOk c) : CmpOk (cTo p q c) := by
  unfold cOk cTo at *
  rcases keyTo_cases p q c.1 with e | ⟨r, h1, h2, h3, h4, h5, e⟩
  · rw [e] at h; cases h
  · rw [e]; exact ⟨h5, hc.2⟩
theorem cmps_right {p q : List UInt8} {l : List T96D} (h : l.all (cOk p q) = true) (hl : CmpsOk l) : CmpsOk (l.map (cTo p q)) := by
  refine ⟨fun c hc => ?_, by rw [List.length_map]; exact hl.2⟩
  obtain ⟨c0, hc0, rfl⟩ := List.mem_map.1 hc
  exact cmp_right (List.all_eq_true.1 h c0 hc0) (hl.1 c0 hc0)
/-! ### and back -/
theorem op_back {p q : List UInt8} {o : T48D} (h : oOk p q o = true) : oOk q p (oTo p q o) = true ∧ oTo q p (oTo p q o) = o := by
  obtain ⟨k', e', hM, e⟩ := op_moves h
  rw [e]
  unfold oOk oTo
  dsimp only
  rw [rangeTo_of hM.symm]
  exact ⟨rfl, rfl⟩
theorem cmp_back {p q : List UInt8} {c : T96D} (h : cOk p q c = true) : cOk q p (cTo p q c) = true ∧ cTo q p (cTo p q c) = c := by
  unfold cOk cTo at *
  rcases keyTo_cases p q c.1 with e | ⟨r, h1, h2, h3, h4, h5, e⟩
  · rw [e] at h; cases h
  · rw [e]
    dsimp only
    rw [keyTo_of h2 h1 h5 h4]
    exact ⟨rfl, by rw [← h3]⟩
theorem map_back {α : Type} {ok ok' : α → Bool} {to to' : α → α} {l : List α} (h : l.all ok = true) (hb : ∀ v, ok v = true → ok' (to v) = true ∧ to' (to v) = v) : (l.map to).all ok' = true ∧ (l.map to).map to' = l := by
  induction l with
  | nil => exact ⟨rfl, rfl⟩
  | cons v l ih =>
    rw [List.all_cons, Bool.and_eq_true] at h
    obtain ⟨a1, a2⟩ := hb v h.1
    obtain ⟨b1, b2⟩ := ih h.2
    simp [a1, a2, b1, b2]
end Go.Proofs.YtgfdlapadghggaaGreat
