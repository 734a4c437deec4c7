/-
  lease: keeping, dropping, holding, freeing, setting, putting.
-/
import Derived.Test.YtmgniagajmfhaaaLeaseLawA
namespace Go.Proofs.Ytmgniagajmfhaaa
open Go.Sx Go Classical
set_option maxRecDepth 10000
def keepTm (tm : Tm) (now : Int) : Tm := bif tm.2.2.2.1 then (tm.1, tm.2.1, tm.1, tm.2.2.2) else (tm.1, now + tm.1, tm.2.2)
noncomputable def keepS (m : TL) (id now : Int) : TL × Int :=
  bif decide (Tim now) then
    match getL ltI id (toL m) with
    | none => (.leaf, 12)
    | some tm => (tPut ltI (id, keepTm tm now, ()) m, 0)
  else (.leaf, 1)
theorem get_ok {m : TL} {n : Nat} (h : LI m n) {id : Int} {tm : Tm} (hg : getL ltI id (toL m) = some tm) : EOk n (id, tm, ()) := h.2 _ ((getL_eq LO.int h.1.2.1).1 hg)
theorem keepTm_ok {n : Nat} {id : Int} {tm : Tm} {now : Int} (h : EOk n (id, tm, ())) (ht : Tim now) : EOk (n + 1) (id, keepTm tm now, ()) := by
  obtain ⟨a, b, c, d, ⟨⟩⟩ := tm
  obtain ⟨h0, ⟨h1, h2⟩, ⟨h3, h4⟩, h5, h6⟩ := h
  obtain ⟨t1, t2⟩ := ht
  have h1' : 1 ≤ a := h1
  have h2' : a ≤ 1000 := h2
  have h3' : 0 ≤ b := h3
  have h4' : b ≤ ((n : Int) + 1) * 2199023255552 := h4
  have h5' : 0 ≤ c := h5
  have h6' : c ≤ ((n : Int) + 1) * 2199023255552 := h6
  cases d with
  | true => exact ⟨h0, ⟨h1, h2⟩, ⟨h3, show b ≤ ((n + 1 : Nat) + 1 : Int) * 2199023255552 by omega⟩, show 0 ≤ a by omega, show a ≤ ((n + 1 : Nat) + 1 : Int) * 2199023255552 by omega⟩
  | false => exact ⟨h0, ⟨h1, h2⟩, ⟨show 0 ≤ now + a by omega, show now + a ≤ ((n + 1 : Nat) + 1 : Int) * 2199023255552 by omega⟩, h5, show c ≤ ((n + 1 : Nat) + 1 : Int) * 2199023255552 by omega⟩
theorem keep_eq {m : TL} {n : Nat} (h : LI m n) (hn : n ≤ 1000000) (id now : Int) : F12 (((m, ()), ()), id, now, ()) = some ((((keepS m id now).1, ()), ()), (keepS m id now).2, ()) := by
  have hl := h.len
  unfold F12 keepS
  simp only [times_eq, Option.bind_some]
  by_cases ht : Tim now
  · simp only [ht, decide_true, Bool.not_true, cond_false, cond_true, tget_eq h hn, Option.bind_some]
    cases hg : getL ltI id (toL m) with
    | none => rfl
    | some tm =>
      have hk := get_ok h hg
      obtain ⟨a, b, c, d, ⟨⟩⟩ := tm
      obtain ⟨h0, ⟨h1, h2⟩, -⟩ := hk
      have h1' : 1 ≤ a := h1
      have h2' : a ≤ 1000 := h2
      obtain ⟨t1, t2⟩ := ht
      simp only [Option.elim_some, Bool.not_true, cond_false, tl_mput m _ _ h.1.1 (show (toL m).length ≤ 1000000000 by omega), wrap64_eq (show -9223372036854775808 ≤ now + a by omega) (show now + a ≤ 9223372036854775807 by omega), Option.bind_some]
      cases d <;> rfl
  · simp only [ht, decide_false, Bool.not_false, cond_true, cond_false]
theorem keepS_ok {m : TL} {n : Nat} (h : LI m n) (id now : Int) : ((keepS m id now).2 = 0 ∧ LI (keepS m id now).1 (n + 1)) ∨ ((keepS m id now).2 ≠ 0 ∧ (keepS m id now).1 = .leaf) := by
  unfold keepS
  by_cases ht : Tim now
  · simp only [ht, decide_true, cond_true]
    cases hg : getL ltI id (toL m) with
    | none => exact .inr ⟨by simp, rfl⟩
    | some tm => exact .inl ⟨rfl, h.put (keepTm_ok (get_ok h hg) ht)⟩
  · simp only [ht, decide_false, cond_false]
    exact .inr ⟨by simp, trivial⟩
theorem refKeep_eq {m : TL} {n : Nat} (h : LI m n) (hn : n ≤ 1000000) (id now : Int) : ∃ w, F24 (docL m, id, now, ()) = some (w, (keepS m id now).2, ()) ∧ ((keepS m id now).2 = 0 → w = docL (keepS m id now).1) := by
  have hl := h.len
  unfold F24 keepS
  obtain ⟨r, e, hr⟩ := at_ex h hn id
  simp only [e, refTime_eq, Option.bind_some]
  by_cases ht : Tim now
  · simp only [ht, decide_true, Bool.not_true, cond_false, cond_true]
    cases hg : getL ltI id (toL m) with
    | none =>
      rw [hg] at hr
      obtain rfl : r = -1 := hr
      exact ⟨_, rfl, fun h => absurd h (by simp)⟩
    | some tm =>
      rw [hg] at hr
      obtain ⟨k, rfl, hk⟩ := hr
      have hko := get_ok h hg
      obtain ⟨a, b, c, d, ⟨⟩⟩ := tm
      obtain ⟨h0, ⟨h1, h2⟩, -⟩ := hko
      have h1' : 1 ≤ a := h1
      have h2' : a ≤ 1000 := h2
      obtain ⟨t1, t2⟩ := ht
      have hs := docL_put h (id, keepTm (a, b, c, d, ()) now, ())
      simp only [decide_eq_false (show ¬ (k : Int) < 0 by omega), cond_false, idx_nat, hk, Option.bind_some, wrap64_eq (show -9223372036854775808 ≤ now + a by omega) (show now + a ≤ 9223372036854775807 by omega), refSet_eq _ _ (show (docL m).length ≤ 1000000 by rw [docL_len]; omega)]
      cases d with
      | true => exact ⟨_, rfl, fun _ => hs.symm⟩
      | false => exact ⟨_, rfl, fun _ => hs.symm⟩
  · simp only [ht, decide_false, Bool.not_false, cond_true, cond_false]
    exact ⟨_, rfl, fun h => absurd h (by simp)⟩
noncomputable def dropS (m : TL) (id : Int) : TL := bif (getL ltI id (toL m)).isSome then tDel ltI id m else m
theorem drop_eq {m : TL} {n : Nat} (h : LI m n) (hn : n ≤ 1000000) (id : Int) : F10 (((m, ()), ()), id, ()) = some (((dropS m id, ()), ()), (getL ltI id (toL m)).isSome, ()) := by
  have hl := h.len
  unfold F10 dropS
  simp only [tget_eq h hn, Option.bind_some, tl_mdel m id h.1.1 (show (toL m).length ≤ 1000000000 by omega), getT_eq LO.int h.1.2.1]
  cases getL ltI id (toL m) <;> rfl
theorem dropS_ok {m : TL} {n : Nat} (h : LI m n) (id : Int) : LI (dropS m id) n ∧ docL (dropS m id) = (docL m).filter (fun e => !decide (e.1 = id)) ∧ (getL ltI id (toL (dropS m id))) = none := by
  unfold dropS
  have hd := docL_del h id
  have hnone : ∀ l : List En, Sorted ltI l → (∀ e ∈ l, e.1 ≠ id) → getL ltI id l = none := fun l hs hl => by
    cases hg : getL ltI id l with
    | none => rfl
    | some v => exact absurd rfl (hl _ ((getL_eq LO.int hs).1 hg))
  cases hs : (getL ltI id (toL m)).isSome with
  | true =>
    refine ⟨h.del, hd, hnone _ (h.del (x := id)).1.2.1 fun e he => ?_⟩
    rw [cond_true, toL_del LO.int h.1.1 h.1.2.1] at he
    have := (List.mem_filter.1 he).2
    rw [ne_lt LO.int] at this
    intro e'
    rw [e'] at this
    simp at this
  | false =>
    refine ⟨h, ?_, ?_⟩
    · simp only [cond_false]
      symm
      refine fil_all fun e he => ?_
      obtain ⟨x, hx, rfl⟩ := List.mem_map.1 he
      have : ¬ x.1 = id := fun e => by rw [(getL_some LO.int).2 ⟨x, hx, e⟩] at hs; exact Bool.noConfusion hs
      show (!decide (x.1 = id)) = true
      rw [decide_eq_false this]; rfl
    · simp only [cond_false]
      cases hg : getL ltI id (toL m) with
      | none => rfl
      | some v => rw [hg] at hs; exact Bool.noConfusion hs
theorem refDrop_eq (l : List Ls) (id : Int) (h : l.length ≤ 1000000) : F25 (l, id, ()) = some (l.filter (fun e => !decide (e.1 = id)), ()) := by
  unfold F25
  refine Eq.trans (loop_filter (l := l) (p := fun e => !decide (e.1 = id)) (by omega) (fun i a v hi ha => ?_) (fun a => ?_)) (by rw [List.nil_append])
  · have hlt := (List.getElem?_eq_some_iff.1 hi).1
    simp only [List.length_nil, Nat.zero_add] at ha
    simp only [lt_len, hlt, decide_true, cond_true, idx_nat, hi, Option.bind_some, wrap64_nat (show i < 9223372036854775807 by omega), appO_eq (l := a) (x := [v]) (by simp only [List.length_cons, List.length_nil]; simp only [capB]; omega)]
    cases decide (v.1 = id) <;> rfl
  · simp only [lt_len, Nat.lt_irrefl, decide_false, cond_false]
/-- as a lease is told -/
def toldL (x : Ls) (now : Int) : Al := (x.1, x.2.1, bif x.2.2.2.2.1 then x.2.2.2.1 else max (x.2.2.1 - now) 0, ())
theorem told_eq {n : Nat} (hn : n ≤ 1000000) {e : En} (h : EOk n e) {now : Int} (ht : Tim now) : F42 (e.1, e.2.1, now, ()) = some (toldL (cv e) now, ()) := by
  obtain ⟨k, ⟨a, b, c, d, ⟨⟩⟩, ⟨⟩⟩ := e
  obtain ⟨-, -, ⟨h3, h4⟩, -⟩ := h
  have h3' : 0 ≤ b := h3
  have h4' : b ≤ ((n : Int) + 1) * 2199023255552 := h4
  obtain ⟨t1, t2⟩ := ht
  unfold F42
  simp only [maxI_max, wrap64_eq (show -9223372036854775808 ≤ b - now by omega) (show b - now ≤ 9223372036854775807 by omega)]
  cases d <;> rfl
theorem refTold_eq {n : Nat} (hn : n ≤ 1000000) {e : En} (h : EOk n e) {now : Int} (ht : Tim now) : F41 (cv e, now, ()) = some (toldL (cv e) now, ()) := by
  obtain ⟨k, ⟨a, b, c, d, ⟨⟩⟩, ⟨⟩⟩ := e
  obtain ⟨-, -, ⟨h3, h4⟩, -⟩ := h
  have h3' : 0 ≤ b := h3
  have h4' : b ≤ ((n : Int) + 1) * 2199023255552 := h4
  obtain ⟨t1, t2⟩ := ht
  unfold F41 cv
  cases d with
  | true => rfl
  | false =>
    simp only [wrap64_eq (show -9223372036854775808 ≤ b - now by omega) (show b - now ≤ 9223372036854775807 by omega), cond_false]
    by_cases hb : b ≤ now
    · simp only [hb, decide_true, cond_true, toldL, cond_false]
      rw [show max (b - now) 0 = 0 by omega]
    · simp only [hb, decide_false, cond_false, toldL]
      rw [show max (b - now) 0 = b - now by omega]
/-- loops that put anew some of a table's leases -/
theorem loop_turn {R : Type} {m : TL} {n : Nat} (hm : LI m n) (hn : n ≤ 1000000) {step : Int × (TL × Unit) × Unit → Option ((Int × (TL × Unit) × Unit) ⊕ R)} {c : En → Bool} {f : En → Tm} {K : TL → R}
    (hf : ∀ e ∈ toL m, EOk n e → EOk (n + 1) (e.1, f e, ()))
    (h : ∀ (i : Nat) (e : En) (t : TL), (toL m)[i]? = some e → EOk n e → Avl t → (toL t).length ≤ 1000000000 → step ((i : Int), (t, ()), ()) = some (.inl (((i + 1 : Nat) : Int), (bif c e then tPut ltI (e.1, f e, ()) t else t, ()), ())))
    (hK : ∀ t, step (((toL m).length : Int), (t, ()), ()) = some (.inr (K t))) :
    ∃ t, iter step big (0, (m, ()), ()) = some (K t) ∧ LI t (n + 1) ∧ toL t = (toL m).map (fun e => bif c e then (e.1, f e, ()) else e) := by
  have hl := hm.len
  obtain ⟨r, h1, t, h2, h3, h4⟩ := iter_inv (step := step) (I := fun s => ∃ (i : Nat) (t : TL), i ≤ (toL m).length ∧ Avl t ∧ Sorted ltI (toL t) ∧ toL t = ((toL m).take i).map (fun e => bif c e then (e.1, f e, ()) else e) ++ (toL m).drop i ∧ s = ((i : Int), (t, ()), ())) (μ := fun s => (toL m).length - s.1.toNat)
    (Q := fun _ r => ∃ t, r = K t ∧ (Avl t ∧ Sorted ltI (toL t)) ∧ toL t = (toL m).map (fun e => bif c e then (e.1, f e, ()) else e)) (fun s hs => by
      obtain ⟨i, t, hi, ha, hso, ht, rfl⟩ := hs
      have hlen : (toL t).length = (toL m).length := by
        rw [ht, List.length_append, List.length_map, List.length_take, List.length_drop]; omega
      by_cases hlt : i < (toL m).length
      · have e := h i _ t (List.getElem?_eq_getElem hlt) (hm.2 _ (List.getElem_mem hlt)) ha (by omega)
        refine .inr ⟨_, e, ⟨i + 1, _, hlt, ?_, ?_, ?_, rfl⟩, by simp only [Int.toNat_natCast]; omega, fun _ h => h⟩
        · cases c (toL m)[i] with
          | true => exact ha.put.1
          | false => exact ha
        · cases c (toL m)[i] with
          | true => rw [cond_true, toL_put LO.int hso]; exact hso.put LO.int
          | false => exact hso
        · rw [List.take_succ_eq_append_getElem hlt, List.map_append, List.append_assoc]
          rw [List.drop_eq_getElem_cons hlt] at ht
          cases hc : c (toL m)[i] with
          | true =>
            rw [cond_true, toL_put LO.int hso, ht]
            rw [ht] at hso
            rw [putL_mid LO.int (p := (toL m)[i]) (v := f (toL m)[i]) hso]
            simp only [List.map_cons, List.map_nil, hc, cond_true, List.cons_append, List.nil_append]
          | false =>
            rw [cond_false, ht]
            simp only [List.map_cons, List.map_nil, hc, cond_false, List.cons_append, List.nil_append]
      · have : i = (toL m).length := by omega
        subst this
        refine .inl ⟨_, hK t, t, rfl, ⟨ha, hso⟩, ?_⟩
        rw [ht, List.take_length, List.drop_length, List.append_nil]) (n := big) (t := (0, (m, ()), ())) ⟨0, m, Nat.zero_le _, hm.1.1, hm.1.2.1, rfl, rfl⟩ (by rw [big_eq]; show (toL m).length - 0 < _; omega)
  refine ⟨t, by rw [h1, h2], ⟨⟨h3.1, h3.2, by rw [h4, List.length_map]; omega⟩, fun e he => ?_⟩, h4⟩
  rw [h4] at he
  obtain ⟨x, hx, rfl⟩ := List.mem_map.1 he
  cases c x with
  | true => exact hf x hx (hm.2 x hx)
  | false => exact (hm.2 x hx).mono (Nat.le_succ n)
def holdC (e : En) : Bool := decide (0 < e.1) && !e.2.1.2.2.2.1
def holdF (now : Int) (e : En) : Tm := (e.2.1.1, 0, (toldL (cv e) now).2.2.1, true, ())
def freeF (now : Int) (e : En) : Tm := (e.2.1.1, now + e.2.1.2.2.1, 0, false, ())
def holdL (now : Int) (x : Ls) : Ls := bif decide (0 < x.1) && !x.2.2.2.2.1 then (x.1, x.2.1, 0, (toldL x now).2.2.1, true, ()) else x
def freeL (now : Int) (x : Ls) : Ls := bif x.2.2.2.2.1 then (x.1, x.2.1, now + x.2.2.2.1, 0, false, ()) else x
theorem holdF_ok {n : Nat} {now : Int} (ht : Tim now) {e : En} (h : EOk n e) : EOk (n + 1) (e.1, holdF now e, ()) := by
  obtain ⟨k, ⟨a, b, c, d, ⟨⟩⟩, ⟨⟩⟩ := e
  obtain ⟨h0, h12, ⟨h3, h4⟩, h5, h6⟩ := h
  have h4' : b ≤ ((n : Int) + 1) * 2199023255552 := h4
  have h5' : 0 ≤ c := h5
  have h6' : c ≤ ((n : Int) + 1) * 2199023255552 := h6
  obtain ⟨t1, t2⟩ := ht
  refine ⟨h0, h12, ⟨Int.le_refl 0, show (0 : Int) ≤ ((n + 1 : Nat) + 1 : Int) * 2199023255552 by omega⟩, ?_⟩
  show 0 ≤ (bif d then c else max (b - now) 0) ∧ (bif d then c else max (b - now) 0) ≤ ((n + 1 : Nat) + 1 : Int) * 2199023255552
  cases d with
  | true => simp only [cond_true]; omega
  | false => simp only [cond_false]; omega
theorem freeF_ok {n : Nat} {now : Int} (ht : Tim now) {e : En} (h : EOk n e) : EOk (n + 1) (e.1, freeF now e, ()) := by
  obtain ⟨k, ⟨a, b, c, d, ⟨⟩⟩, ⟨⟩⟩ := e
  obtain ⟨h0, h12, ⟨h3, h4⟩, h5, h6⟩ := h
  have h5' : 0 ≤ c := h5
  have h6' : c ≤ ((n : Int) + 1) * 2199023255552 := h6
  obtain ⟨t1, t2⟩ := ht
  refine ⟨h0, h12, ⟨show 0 ≤ now + c by omega, show now + c ≤ ((n + 1 : Nat) + 1 : Int) * 2199023255552 by omega⟩, Int.le_refl 0, show (0 : Int) ≤ ((n + 1 : Nat) + 1 : Int) * 2199023255552 by omega⟩
theorem hold_ex {m : TL} {n : Nat} (hm : LI m n) (hn : n ≤ 1000000) (now : Int) : ∃ t, F16 (((m, ()), ()), now, ()) = some (((t, ()), ()), ()) ∧ LI t (n + 1) ∧ docL t = bif decide (Tim now) then (docL m).map (holdL now) else docL m := by
  have hl := hm.len
  unfold F16
  simp only [times_eq, Option.bind_some]
  by_cases ht : Tim now
  · simp only [ht, decide_true, Bool.not_true, cond_false, cond_true, tl_mall m (show (toL m).length ≤ 1000000000 by omega), Option.bind_some]
    obtain ⟨t, e, h1, h2⟩ := loop_turn (R := ((TL × Unit) × Unit) × Unit) hm hn (step := fun (x_1 : Int × (TL × Unit) × Unit) =>
        bif decide (x_1.fst < Int.ofNat (List.length (toL m))) then
          Option.bind (idxN (toL m) x_1.fst) fun (b_1 : Nat) =>
            Option.bind (toL m)[b_1]? fun (b : En) =>
              bif decide (0 < b.fst) then
                bif !b.snd.fst.snd.snd.snd.fst then
                  Option.bind (F42 (b.fst, b.snd.fst, now, ())) fun (b_2 : Al × Unit) =>
                    Option.bind (F34 (x_1.snd.fst, b.fst, (b.snd.fst.fst, 0, b_2.fst.snd.snd.fst, true, ()), ())) fun (b : (TL × Unit) × Unit) =>
                      some (Sum.inl (wrap64 (x_1.fst + 1), b))
                else some (Sum.inl (wrap64 (x_1.fst + 1), x_1.snd))
              else some (Sum.inl (wrap64 (x_1.fst + 1), x_1.snd))
        else some (Sum.inr (x_1.snd, ()))) (c := holdC) (f := holdF now) (K := fun t => (((t, ()), ()), ())) (fun e _ he => holdF_ok ht he) (fun i e t hi he ha hlt => by
          have hlt' := (List.getElem?_eq_some_iff.1 hi).1
          simp only [lt_len, hlt', decide_true, cond_true, idxN_nat _ _ hlt', hi, Option.bind_some, wrap64_nat (show i < 9223372036854775807 by omega), told_eq hn he ht, tl_mput t _ _ ha hlt]
          unfold holdC
          cases decide (0 < e.1) <;> cases e.2.1.2.2.2.1 <;> rfl) (fun t => by simp only [lt_len, Nat.lt_irrefl, decide_false, cond_false])
    refine ⟨t, e, h1, ?_⟩
    unfold docL
    rw [h2, List.map_map, List.map_map]
    refine List.map_congr_left fun e _ => ?_
    obtain ⟨k, ⟨a, b, c, d, ⟨⟩⟩, ⟨⟩⟩ := e
    show cv (bif holdC (k, (a, b, c, d, ()), ()) then (k, holdF now (k, (a, b, c, d, ()), ()), ()) else (k, (a, b, c, d, ()), ())) = holdL now (k, (a, b, c, d, ()))
    unfold holdC holdL
    cases (decide (0 < k) && !d) <;> rfl
  · simp only [ht, decide_false, Bool.not_false, cond_true, cond_false]
    exact ⟨m, rfl, hm.mono (Nat.le_succ n), rfl⟩
theorem free_ex {m : TL} {n : Nat} (hm : LI m n) (hn : n ≤ 1000000) (now : Int) : ∃ t, F17 (((m, ()), ()), now, ()) = some (((t, ()), ()), ()) ∧ LI t (n + 1) ∧ docL t = bif decide (Tim now) then (docL m).map (freeL now) else docL m := by
  have hl := hm.len
  unfold F17
  simp only [times_eq, Option.bind_some]
  by_cases ht : Tim now
  · simp only [ht, decide_true, Bool.not_true, cond_false, cond_true, tl_mall m (show (toL m).length ≤ 1000000000 by omega), Option.bind_some]
    obtain ⟨t, e, h1, h2⟩ := loop_turn (R := ((TL × Unit) × Unit) × Unit) hm hn (step := fun (x_1 : Int × (TL × Unit) × Unit) =>
        bif decide (x_1.fst < Int.ofNat (List.length (toL m))) then
          Option.bind (idxN (toL m) x_1.fst) fun (b_1 : Nat) =>
            Option.bind (toL m)[b_1]? fun (b : En) =>
              bif b.snd.fst.snd.snd.snd.fst then
                Option.bind (F34 (x_1.snd.fst, b.fst, (b.snd.fst.fst, wrap64 (now + b.snd.fst.snd.snd.fst), 0, false, ()), ())) fun (b : (TL × Unit) × Unit) =>
                  some (Sum.inl (wrap64 (x_1.fst + 1), b))
              else some (Sum.inl (wrap64 (x_1.fst + 1), x_1.snd))
        else some (Sum.inr (x_1.snd, ()))) (c := fun e => e.2.1.2.2.2.1) (f := freeF now) (K := fun t => (((t, ()), ()), ())) (fun e _ he => freeF_ok ht he) (fun i e t hi he ha hlt => by
          have hlt' := (List.getElem?_eq_some_iff.1 hi).1
          have hc1 := he.2.2.2.1
          have hc2 := he.2.2.2.2
          obtain ⟨t1, t2⟩ := ht
          simp only [lt_len, hlt', decide_true, cond_true, idxN_nat _ _ hlt', hi, Option.bind_some, wrap64_nat (show i < 9223372036854775807 by omega), wrap64_eq (show -9223372036854775808 ≤ now + e.2.1.2.2.1 by omega) (show now + e.2.1.2.2.1 ≤ 9223372036854775807 by omega), tl_mput t _ _ ha hlt]
          cases e.2.1.2.2.2.1 <;> rfl) (fun t => by simp only [lt_len, Nat.lt_irrefl, decide_false, cond_false])
    refine ⟨t, e, h1, ?_⟩
    unfold docL
    rw [h2, List.map_map, List.map_map]
    refine List.map_congr_left fun e _ => ?_
    obtain ⟨k, ⟨a, b, c, d, ⟨⟩⟩, ⟨⟩⟩ := e
    cases d <;> rfl
  · simp only [ht, decide_false, Bool.not_false, cond_true, cond_false]
    exact ⟨m, rfl, hm.mono (Nat.le_succ n), rfl⟩
theorem refHold_eq {m : TL} {n : Nat} (hm : LI m n) (hn : n ≤ 1000000) (now : Int) : F22 (docL m, now, ()) = some (bif decide (Tim now) then (docL m).map (holdL now) else docL m, ()) := by
  have hl := hm.len
  have hd := docL_len m
  unfold F22
  refine Eq.trans (loop_gather (l := docL m) (d := []) (g := fun e => [bif decide (Tim now) then holdL now e else e]) (K := fun a => some (a, ())) (by omega) (fun v => Nat.le_refl _) (fun i a v hi ha => ?_) (fun a _ => ?_)) ?_
  · have hlt := (List.getElem?_eq_some_iff.1 hi).1
    simp only [List.length_nil, Nat.zero_add] at ha
    have eo : ∀ x : Ls, appO a [x] = some (a ++ [x]) := fun x => appO_eq (by simp only [List.length_cons, List.length_nil]; simp only [capB]; omega)
    simp only [lt_len, hlt, decide_true, cond_true, idx_nat, hi, Option.bind_some, refTime_eq]
    by_cases ht : Tim now
    · obtain ⟨x, hx, rfl⟩ := List.mem_map.1 (List.mem_of_getElem? hi)
      simp only [ht, decide_true, cond_true, refTold_eq hn (hm.2 x hx) ht, Option.bind_some]
      unfold holdL
      cases decide (0 < (cv x).1) with
      | false => simp only [cond_false, Option.bind_some, Sum.elim_inl, eo, wrap64_nat (show i < 9223372036854775807 by omega), Bool.false_and]
      | true =>
        cases hh : (cv x).2.2.2.2.1 with
        | true => simp only [Bool.not_true, cond_true, cond_false, Option.bind_some, Sum.elim_inl, eo, wrap64_nat (show i < 9223372036854775807 by omega), Bool.and_false]
        | false => simp only [Bool.not_false, cond_true, Option.bind_some, Sum.elim_inl, eo, wrap64_nat (show i < 9223372036854775807 by omega), Bool.and_self]
    · simp only [ht, decide_false, cond_false, Option.bind_some, Sum.elim_inl, eo, wrap64_nat (show i < 9223372036854775807 by omega)]
  · simp only [lt_len, Nat.lt_irrefl, decide_false, cond_false]; rfl
  · rw [List.nil_append, flatMap_map1]
    cases decide (Tim now) with
    | true => rfl
    | false => simp
theorem refFree_eq {m : TL} {n : Nat} (hm : LI m n) (hn : n ≤ 1000000) (now : Int) : F21 (docL m, now, ()) = some (bif decide (Tim now) then (docL m).map (freeL now) else docL m, ()) := by
  have hl := hm.len
  have hd := docL_len m
  unfold F21
  refine Eq.trans (loop_gather (l := docL m) (d := []) (g := fun e => [bif decide (Tim now) then freeL now e else e]) (K := fun a => some (a, ())) (by omega) (fun v => Nat.le_refl _) (fun i a v hi ha => ?_) (fun a _ => ?_)) ?_
  · have hlt := (List.getElem?_eq_some_iff.1 hi).1
    simp only [List.length_nil, Nat.zero_add] at ha
    have eo : ∀ x : Ls, appO a [x] = some (a ++ [x]) := fun x => appO_eq (by simp only [List.length_cons, List.length_nil]; simp only [capB]; omega)
    simp only [lt_len, hlt, decide_true, cond_true, idx_nat, hi, Option.bind_some, refTime_eq]
    by_cases ht : Tim now
    · obtain ⟨x, hx, rfl⟩ := List.mem_map.1 (List.mem_of_getElem? hi)
      have hc1 := (hm.2 x hx).2.2.2.1
      have hc2 := (hm.2 x hx).2.2.2.2
      have ht' := ht
      obtain ⟨t1, t2⟩ := ht'
      have ew : wrap64 (now + (cv x).2.2.2.1) = now + (cv x).2.2.2.1 := wrap64_eq (by show _ ≤ now + x.2.1.2.2.1; omega) (by show now + x.2.1.2.2.1 ≤ _; omega)
      simp only [ht, decide_true, cond_true]
      unfold freeL
      cases hh : (cv x).2.2.2.2.1 with
      | true => simp only [cond_true, Option.bind_some, Sum.elim_inl, eo, ew, wrap64_nat (show i < 9223372036854775807 by omega)]
      | false => simp only [cond_false, Option.bind_some, Sum.elim_inl, eo, wrap64_nat (show i < 9223372036854775807 by omega)]
    · simp only [ht, decide_false, cond_false, Option.bind_some, Sum.elim_inl, eo, wrap64_nat (show i < 9223372036854775807 by omega)]
  · simp only [lt_len, Nat.lt_irrefl, decide_false, cond_false]; rfl
  · rw [List.nil_append, flatMap_map1]
    cases decide (Tim now) with
    | true => rfl
    | false => simp
end Go.Proofs.Ytmgniagajmfhaaa
