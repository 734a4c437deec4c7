/-
  index: the live keys of a range are deleted.
-/
import Derived.Test.YtphdilmnielgeaaIndexLawD
namespace Go.Proofs.Ytphdilmnielgeaa
open Go.Sx Go Classical
set_option maxRecDepth 10000
theorem live_eq {h : List VerD} (hh : IsHist h) : (atH h 1099511627776).2.1 = live h := by
  rw [atH_live hh]
  unfold live
  cases h.getLast? with
  | none => rfl
  | some w => cases hw : w.2.2.2.2.2.2.1 <;> simp [hw]
def okDel (rev mod : Int) (e : KX) : Prop := IsHist (e.2.1 ++ [delV rev mod])
def delF (rev mod : Int) (e : KX) : List VerD := e.2.1 ++ [delV rev mod]
theorem mem_setL {l : List KX} {k : List UInt8} {h : List VerD} {e : KX} (he : e ∈ l) (hk : e.1 ≠ k) : e ∈ setL k h l := by
  unfold setL
  split
  · exact List.mem_filter.2 ⟨he, by rw [ne_lt LO.str]; simp [hk]⟩
  · exact (mem_putL LO.str).2 (.inr ⟨he, hk⟩)
theorem keys_ne {l : List KX} (hs : Sorted strlt l) {i j : Nat} {e e' : KX} (hij : i < j) (hi : l[i]? = some e) (hj : l[j]? = some e') : e'.1 ≠ e.1 := by
  have h := List.pairwise_iff_getElem.1 hs i j (List.getElem?_eq_some_iff.1 hi).1 (List.getElem?_eq_some_iff.1 hj).1 hij
  rw [(List.getElem?_eq_some_iff.1 hi).2, (List.getElem?_eq_some_iff.1 hj).2] at h
  intro e0
  rw [e0, strlt_irrefl] at h
  exact Bool.noConfusion h
theorem keys_eq (l : List KX) (n : Nat) (hI : IdxL l n) (hn : n ≤ 1000) {a b : List UInt8} (ha : a.length ≤ 140737488351232) (hb : b.length ≤ 140737488351232) (hR : IsRange a b) :
    F77 (l, a, b, ()) = some ((l.filter fun e => inB a b e.1 && live e.2.1).map (·.1), ()) := by
  have hll := hI.2.1
  unfold F77
  refine Eq.trans (loop_gather (l := l) (d := []) (g := fun e => bif inB a b e.1 && live e.2.1 then [e.1] else []) (K := fun a => some (a, ())) (by omega) (fun v => by cases inB a b v.1 && live v.2.1 <;> simp) (fun i c v hi hc => ?_) (fun c _ => ?_)) ?_
  · have hlt := (List.getElem?_eq_some_iff.1 hi).1
    have hm := List.mem_of_getElem? hi
    obtain ⟨i1, i2, i3, i4⟩ := hI.2.2 v hm
    have hg : histOf l v.1 = v.2.1 := by unfold histOf; rw [(getL_eq LO.str hI.1).2 hm]; rfl
    have hL : F25 (l, v.1, ()) = some (atH v.2.1 1099511627776) := by
      unfold F25
      rw [show F55 (l, v.1, ()) = some (histOf l v.1, ()) from refGet_eq l v.1 (by omega), Option.bind_some, hg]
      refine bind_of (rAt_eq v.2.1 _ (by unfold Smal; omega)) ?_
      rw [if_pos i2]
    simp only [List.length_nil, Nat.zero_add] at hc
    simp only [lt_len, hlt, decide_true, cond_true, idx_nat, hi, Option.bind_some, wrap64_nat (show i < 9223372036854775807 by omega), hL, live_eq i2, refIn_eq ha hb i1, hR, Bool.true_and, appO_eq (l := c) (x := [v.1]) (by simp only [List.length_cons, List.length_nil]; simp only [capB]; omega)]
    cases live v.2.1 <;> cases inB a b v.1 <;> simp
  · simp only [lt_len, Nat.lt_irrefl, decide_false, cond_false]; rfl
  · rw [List.nil_append]
    have : ∀ w : List KX, (w.flatMap fun e => bif inB a b e.1 && live e.2.1 then [e.1] else []) = (w.filter fun e => inB a b e.1 && live e.2.1).map (·.1) := by
      intro w
      induction w with
      | nil => rfl
      | cons v w ih =>
        rw [List.flatMap_cons, ih, List.filter_cons]
        cases hv : (inB a b v.1 && live v.2.1) <;> simp
    rw [this]
theorem refDel_eq (l : List KX) (n : Nat) (hI : IdxL l n) (hn : n ≤ 1000) {a b : List UInt8} (ha : a.length ≤ 140737488351232) (hb : b.length ≤ 140737488351232) (hR : IsRange a b) (rev mod : Int) :
    F48 (l, a, b, rev, mod, ()) = some (if ∀ e ∈ l.filter (fun e => inB a b e.1 && live e.2.1), okDel rev mod e then ((l.filter fun e => inB a b e.1 && live e.2.1).foldl (fun o e => setL e.1 (delF rev mod e) o) l, ((l.filter fun e => inB a b e.1 && live e.2.1).length : Int), true, ()) else ([], 0, false, ())) := by
  have hll := hI.2.1
  unfold F48
  simp only [refRange_eq a b ha hb, hR, decide_true, Option.bind_some, Bool.not_true, cond_false, keys_eq l n hI hn ha hb hR]
  generalize hw : (l.filter fun e => inB a b e.1 && live e.2.1) = w
  have hws : Sorted strlt w := by rw [← hw]; exact hI.1.filter _
  have hwl : w.length ≤ l.length := by rw [← hw]; exact List.length_filter_le _ _
  have hwm : ∀ e ∈ w, e ∈ l ∧ live e.2.1 = true := fun e he => by
    rw [← hw] at he
    obtain ⟨h1, h2⟩ := List.mem_filter.1 he
    simp only [Bool.and_eq_true] at h2
    exact ⟨h1, h2.2⟩
  rw [List.length_map]
  have hml : Int.ofNat w.length = (w.length : Int) := rfl
  obtain ⟨r, h1, h2⟩ := iter_inv (T := List KX × Int × Unit) (R := List KX × Int × Bool × Unit) (step := fun (x_1 : List KX × Int × Unit) =>
      bif decide (x_1.snd.fst < Int.ofNat w.length) then
        Option.bind (idxN (w.map (·.1)) x_1.snd.fst) fun (b_1 : Nat) =>
        Option.bind (w.map (·.1))[b_1]? fun (b_2 : List UInt8) =>
        Option.bind (F55 (x_1.fst, b_2, ())) fun (b_3 : List VerD × Unit) =>
        Option.bind (F78 (b_3.fst, rev, mod, ())) fun (b_4 : List VerD × Int × Unit) =>
        bif !decide (b_4.snd.fst = 0) then some (Sum.inr ([], 0, false, ()))
        else
        Option.bind (idxN (w.map (·.1)) x_1.snd.fst) fun (b_5 : Nat) =>
        Option.bind (w.map (·.1))[b_5]? fun (b : List UInt8) =>
        Option.bind (F71 (x_1.fst, b, b_4.fst, ())) fun (b : List KX × Unit) =>
        some (Sum.inl (b.fst, wrap64 (x_1.snd.fst + 1), ()))
      else some (Sum.inr (x_1.fst, Int.ofNat w.length, true, ())))
    (I := fun t => ∃ (i : Nat) (o : List KX), i ≤ w.length ∧ Sorted strlt o ∧ o.length ≤ l.length + i ∧ (∀ j e, i ≤ j → w[j]? = some e → e ∈ o) ∧ (∀ e ∈ w.take i, okDel rev mod e) ∧ o = (w.take i).foldl (fun o e => setL e.1 (delF rev mod e) o) l ∧ t = (o, (i : Int), ()))
    (μ := fun t => w.length - t.2.1.toNat)
    (Q := fun _ r => r = (if ∀ e ∈ w, okDel rev mod e then (w.foldl (fun o e => setL e.1 (delF rev mod e) o) l, (w.length : Int), true, ()) else ([], 0, false, ()))) (fun t ht => by
      obtain ⟨i, o, hi, hos, hol, hom, hok, ho, rfl⟩ := ht
      by_cases hlt : i < w.length
      · obtain ⟨v, hi'⟩ : ∃ v, w[i]? = some v := ⟨_, List.getElem?_eq_getElem hlt⟩
        have hvm := List.mem_of_getElem? hi'
        obtain ⟨hl0, hlv⟩ := hwm v hvm
        obtain ⟨i1, i2, i3, i4⟩ := hI.2.2 _ hl0
        have hg : histOf o v.1 = v.2.1 := by unfold histOf; rw [(getL_eq LO.str hos).2 (hom i _ (Nat.le_refl _) hi')]; rfl
        have hmi : i < (w.map (·.1)).length := by rw [List.length_map]; exact hlt
        have hmg : (w.map (·.1))[i]? = some v.1 := by rw [List.getElem?_map, hi']; rfl
        have hG : F55 (o, v.1, ()) = some (v.2.1, ()) := by
          rw [← hg]; exact refGet_eq o v.1 (by omega)
        have hD := rDel_eq i2 (show Smal v.2.1 by unfold Smal; omega) rev mod
        simp only [lt_len, hlt, decide_true, cond_true, idxN_nat _ _ hmi, hmg, Option.bind_some, hG, hD, hlv, if_true]
        by_cases hx : IsHist (v.2.1 ++ [delV rev mod])
        · right
          simp only [hx, if_true, decide_true, Bool.not_true, cond_false, refSet_eq o v.1 _ (show o.length ≤ 1000000 by omega) hos, Option.bind_some, wrap64_nat (show i < 9223372036854775807 by omega)]
          refine ⟨_, rfl, ⟨i + 1, setL v.1 (delF rev mod v) o, hlt, setL_sorted hos _ _, by have := setL_len v.1 (delF rev mod v) o; omega, fun j e hj he => mem_setL (hom j e (by omega) he) (keys_ne hws (show i < j by omega) hi' he), fun e he => ?_, ?_, rfl⟩, by simp only [Int.toNat_natCast]; omega, fun r hr => hr⟩
          · rw [List.take_add_one, hi', Option.toList_some] at he
            rcases List.mem_append.1 he with he | he
            · exact hok e he
            · obtain rfl := List.mem_singleton.1 he
              exact hx
          · rw [List.take_add_one, hi', Option.toList_some, List.foldl_append, ← ho]; rfl
        · left
          simp only [hx, if_false]
          refine ⟨_, rfl, ?_⟩
          rw [if_neg (fun h => hx (h v hvm))]
      · left
        have : i = w.length := by omega
        subst this
        simp only [lt_len, Nat.lt_irrefl, decide_false, cond_false]
        refine ⟨_, rfl, ?_⟩
        rw [List.take_length] at hok ho
        rw [if_pos hok, ho]; rfl) (n := big) (t := (l, 0, ())) ⟨0, l, Nat.zero_le _, hI.1, Nat.le_refl _, fun j e _ he => (hwm e (List.mem_of_getElem? he)).1, fun e he => by simp at he, rfl, rfl⟩ (by rw [big_eq]; show w.length - 0 < _; omega)
  by_cases hok : ∀ e ∈ w, okDel rev mod e
  · rw [if_pos hok] at h2 ⊢
    rw [h2] at h1
    exact h1
  · rw [if_neg hok] at h2 ⊢
    rw [h2] at h1
    exact h1
theorem progDel_eq (m : TX) (n : Nat) (hI : Idx m n) (hn : n ≤ 1000) {a b : List UInt8} (hR : IsRange a b) (rev mod : Int) :
    (∃ m', F47 (((m, ()), ()), a, b, rev, mod, ()) = some (if ∀ e ∈ (toL m).filter (fun e => inB a b e.1 && live e.2.1), okDel rev mod e then (((m', ()), ()), (((toL m).filter fun e => inB a b e.1 && live e.2.1).length : Int), 0, ()) else (((.leaf, ()), ()), 0, 1, ())) ∧
      ((∀ e ∈ (toL m).filter (fun e => inB a b e.1 && live e.2.1), okDel rev mod e) → Avl m' ∧ toL m' = ((toL m).filter fun e => inB a b e.1 && live e.2.1).foldl (fun o e => setL e.1 (delF rev mod e) o) (toL m))) := by
  have hll := hI.2.2.1
  unfold F47
  simp only [range_eq, hR, decide_true, Option.bind_some, Bool.not_true, cond_false, within_eq m n hI.map (show n ≤ 1000000 by omega) a b, if_true]
  have hff : (toL m).filter (fun e => inB a b e.1 && live e.2.1) = ((toL m).filter fun e => inB a b e.1).filter fun e => live e.2.1 := by
    rw [List.filter_filter]
    congr 1
    funext e
    rw [Bool.and_comm]
  rw [hff]
  generalize hw : ((toL m).filter fun e => inB a b e.1) = w
  have hwl : w.length ≤ (toL m).length := by rw [← hw]; exact List.length_filter_le _ _
  have hwm : ∀ e ∈ w, e ∈ toL m := fun e he => by
    rw [← hw] at he
    exact (List.mem_filter.1 he).1
  refine Exists.imp (fun m' h => ⟨h.1, h.2⟩) (?_ : ∃ m', _ ∧ _)
  obtain ⟨r, h1, h2⟩ := iter_inv (T := Int × Int × (TX × Unit) × (TX × Unit) × Unit) (R := ((TX × Unit) × Unit) × Int × Int × Unit) (step := fun (x_1 : Int × Int × (TX × Unit) × (TX × Unit) × Unit) =>
      bif decide (x_1.snd.fst < Int.ofNat w.length) then
        Option.bind (idxN w x_1.snd.fst) fun (b_1 : Nat) =>
        Option.bind w[b_1]? fun (b : KX) =>
        Option.bind (F53 b.snd) fun (b_2 : VerD × Bool × Unit) =>
        bif !b_2.snd.fst then some (Sum.inl (x_1.fst, wrap64 (x_1.snd.fst + 1), x_1.snd.snd))
        else
        Option.bind (F76 (b.snd.fst, rev, mod, ())) fun (b_3 : List VerD × Int × Unit) =>
        bif !decide (b_3.snd.fst = 0) then some (Sum.inr (((Tree.leaf, ()), ()), 0, b_3.snd))
        else
        Option.bind (F69 (x_1.snd.snd.snd, b.fst, b_3.fst, ())) fun (b : ((TX × Unit) × Unit) × Unit) =>
        some (Sum.inl (wrap64 (x_1.fst + 1), wrap64 (x_1.snd.fst + 1), x_1.snd.snd.fst, b.fst))
      else some (Sum.inr (x_1.snd.snd.snd, x_1.fst, 0, ())))
    (I := fun t => ∃ (i : Nat) (x : TX), i ≤ w.length ∧ MapI strlt x (n + i) ∧ (∀ e ∈ (w.take i).filter (fun e => live e.2.1), okDel rev mod e) ∧ toL x = ((w.take i).filter fun e => live e.2.1).foldl (fun o e => setL e.1 (delF rev mod e) o) (toL m) ∧ t = ((((w.take i).filter fun e => live e.2.1).length : Int), (i : Int), (.leaf, ()), (x, ()), ()))
    (μ := fun t => w.length - t.2.1.toNat)
    (Q := fun _ r => ∃ m', r = (if ∀ e ∈ w.filter (fun e => live e.2.1), okDel rev mod e then (((m', ()), ()), ((w.filter fun e => live e.2.1).length : Int), 0, ()) else (((.leaf, ()), ()), 0, 1, ())) ∧
      ((∀ e ∈ w.filter (fun e => live e.2.1), okDel rev mod e) → Avl m' ∧ toL m' = (w.filter fun e => live e.2.1).foldl (fun o e => setL e.1 (delF rev mod e) o) (toL m))) (fun t ht => by
      obtain ⟨i, x, hi, hx, hok, ho, rfl⟩ := ht
      by_cases hlt : i < w.length
      · obtain ⟨v, hi'⟩ : ∃ v, w[i]? = some v := ⟨_, List.getElem?_eq_getElem hlt⟩
        have hvm := List.mem_of_getElem? hi'
        have hm0 := hwm v hvm
        obtain ⟨i1, i2, i3, i4⟩ := hI.2.2.2 _ hm0
        have hsm : Smal v.2.1 := by unfold Smal; omega
        have hL : F53 v.2 = some (atH v.2.1 1099511627776) := by
          have := hLive_eq v.2.1 hsm
          rw [if_pos i2] at this
          exact this
        have hD := hDel_eq i2 hsm rev mod
        have hcl : ((w.take i).filter fun e => live e.2.1).length ≤ i := Nat.le_trans (List.length_filter_le _ _) (by rw [List.length_take]; omega)
        have htk : w.take (i + 1) = w.take i ++ [v] := by rw [List.take_add_one, hi', Option.toList_some]
        simp only [lt_len, hlt, decide_true, cond_true, idxN_nat _ _ hlt, hi', Option.bind_some, hL, live_eq i2, hD]
        cases hlv : live v.2.1 with
        | false =>
          right
          simp only [Bool.not_false, cond_true, wrap64_nat (show i < 9223372036854775807 by omega)]
          have e1 : (w.take (i + 1)).filter (fun e => live e.2.1) = (w.take i).filter (fun e => live e.2.1) := by
            rw [htk, List.filter_append, List.filter_cons_of_neg (by rw [hlv]; exact Bool.noConfusion), List.filter_nil, List.append_nil]
          refine ⟨_, rfl, ⟨i + 1, x, hlt, hx.mono (by omega), by rw [e1]; exact hok, by rw [e1]; exact ho, by rw [e1]⟩, by simp only [Int.toNat_natCast]; omega, fun r hr => hr⟩
        | true =>
          have e1 : (w.take (i + 1)).filter (fun e => live e.2.1) = (w.take i).filter (fun e => live e.2.1) ++ [v] := by
            rw [htk, List.filter_append]; simp only [List.filter_cons, hlv, if_true, List.filter_nil]
          simp only [Bool.not_true, cond_false, if_true]
          by_cases hxx : IsHist (v.2.1 ++ [delV rev mod])
          · right
            obtain ⟨x', g1, g2, g3⟩ := mset_ex x (n + i) hx (by omega) v.1 (v.2.1 ++ [delV rev mod])
            simp only [hxx, if_true, decide_true, Bool.not_true, cond_false, g1, Option.bind_some, wrap64_nat (show i < 9223372036854775807 by omega), wrap64_nat (show ((w.take i).filter fun e => live e.2.1).length < 9223372036854775807 by omega)]
            refine ⟨_, rfl, ⟨i + 1, x', hlt, g2, fun e he => ?_, ?_, ?_⟩, by simp only [Int.toNat_natCast]; omega, fun r hr => hr⟩
            · rw [e1] at he
              rcases List.mem_append.1 he with he | he
              · exact hok e he
              · obtain rfl := List.mem_singleton.1 he
                exact hxx
            · rw [g3, e1, List.foldl_append, ← ho]; rfl
            · rw [e1, List.length_append]; rfl
          · left
            simp only [hxx, if_false]
            refine ⟨_, rfl, .leaf, ?_, fun h => absurd (h v (List.mem_filter.2 ⟨hvm, hlv⟩)) hxx⟩
            rw [if_neg (fun h => hxx (h v (List.mem_filter.2 ⟨hvm, hlv⟩)))]
      · left
        have : i = w.length := by omega
        subst this
        simp only [lt_len, Nat.lt_irrefl, decide_false, cond_false]
        rw [List.take_length] at hok ho ⊢
        exact ⟨_, rfl, x, by rw [if_pos hok], fun _ => ⟨hx.1, ho⟩⟩) (n := big) (t := (0, 0, (.leaf, ()), (m, ()), ())) ⟨0, m, Nat.zero_le _, hI.map, fun e he => by simp at he, rfl, rfl⟩ (by rw [big_eq]; show w.length - 0 < _; omega)
  obtain ⟨m', rfl, h3⟩ := h2
  exact ⟨m', h1, h3⟩
theorem view_del (a b : List UInt8) (rev mod : Int) {r : Int} (hr : r < rev) : ∀ l : List KX, view r (l.flatMap fun e => bif inB a b e.1 && live e.2.1 then oneX e.1 (delF rev mod e) else [e]) = view r l
  | [] => rfl
  | e :: l => by
    have ih := view_del a b rev mod hr l
    unfold view at ih ⊢
    rw [List.flatMap_cons, List.flatMap_cons, List.flatMap_append, ih]
    congr 1
    cases (inB a b e.1 && live e.2.1) with
    | false => simp only [cond_false, List.flatMap_cons, List.flatMap_nil, List.append_nil]
    | true =>
      unfold oneX delF
      rw [if_neg (by simp)]
      simp only [cond_true, List.flatMap_cons, List.flatMap_nil, List.append_nil, atH_snoc (show r < (delV rev mod).1 from hr)]
theorem del_ex (m : TX) (n : Nat) (hI : Idx m n) (hn : n ≤ 1000) {a b : List UInt8} (ha : a.length ≤ 140737488351232) (hb : b.length ≤ 140737488351232) (rev mod : Int) :
    (∃ m' c, Idx m' (n + 1) ∧ (∀ r, r < rev → view r (toL m') = view r (toL m)) ∧ F47 (((m, ()), ()), a, b, rev, mod, ()) = some (((m', ()), ()), c, 0, ()) ∧ F48 (toL m, a, b, rev, mod, ()) = some (toL m', c, true, ())) ∨
    (F47 (((m, ()), ()), a, b, rev, mod, ()) = some (((.leaf, ()), ()), 0, 1, ()) ∧ F48 (toL m, a, b, rev, mod, ()) = some ([], 0, false, ())) := by
  by_cases hR : IsRange a b
  case neg =>
    right
    unfold F47 F48
    simp only [range_eq, refRange_eq a b ha hb, hR, decide_false, Option.bind_some, Bool.not_false, cond_true, and_self]
  obtain ⟨m', e1, e2⟩ := progDel_eq m n hI hn hR rev mod
  have e3 := refDel_eq (toL m) n hI.2 hn ha hb hR rev mod
  by_cases hok : ∀ e ∈ (toL m).filter (fun e => inB a b e.1 && live e.2.1), okDel rev mod e
  · rw [if_pos hok] at e1 e3
    obtain ⟨g1, g2⟩ := e2 hok
    have e4 := foldSet (fun e => inB a b e.1 && live e.2.1) (delF rev mod) (toL m) [] hI.2.1
    rw [List.nil_append, List.nil_append] at e4
    have e5 := g2.trans e4
    refine .inl ⟨m', _, ⟨g1, ?_, ?_, fun e he => ?_⟩, fun r hr => by rw [e5]; exact view_del a b rev mod hr _, e1, by rw [e3, g2]⟩
    · rw [g2]; exact foldl_sorted _ _ _ hI.2.1
    · rw [e5]
      exact Nat.le_trans (flatMap_len1 (fun e : KX => by cases (inB a b e.1 && live e.2.1) with | false => simp | true => exact oneX_len _ _) (toL m)) (Nat.le_succ_of_le hI.2.2.1)
    · rw [e5] at he
      obtain ⟨e0, h0, h1⟩ := List.mem_flatMap.1 he
      obtain ⟨i1, i2, i3, i4⟩ := hI.2.2.2 e0 h0
      cases hq : (inB a b e0.1 && live e0.2.1) with
      | false =>
        rw [hq, cond_false] at h1
        obtain rfl := List.mem_singleton.1 h1
        exact ⟨i1, i2, i3, by omega⟩
      | true =>
        rw [hq, cond_true] at h1
        unfold oneX delF at h1
        rw [if_neg (by simp)] at h1
        obtain rfl := List.mem_singleton.1 h1
        exact ⟨i1, hok e0 (List.mem_filter.2 ⟨h0, hq⟩), by simp, by simp; omega⟩
  · rw [if_neg hok] at e1 e3
    exact .inr ⟨e1, e3⟩
end Go.Proofs.Ytphdilmnielgeaa
