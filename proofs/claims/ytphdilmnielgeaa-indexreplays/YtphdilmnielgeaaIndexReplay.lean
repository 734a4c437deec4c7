/-
  What a change makes of a list of items: the item of one key is set.
-/
import Derived.Test.YtphdilmnielgeaaIndexLawK
namespace Go.Proofs.Ytphdilmnielgeaa
open Go.Sx Go Classical
set_option maxRecDepth 10000
/-- an item put, or taken away -/
def replay (now : List It) (y : It) : List It := now.filter (fun x => strlt x.1 y.1) ++ ((bif !y.2.1.2.2.2.2.2.2.1 then [y] else []) ++ now.filter (fun x => strlt y.1 x.1))
/-- items by keys -/
def shown (c : Option VerD) (k : List UInt8) : List It :=
  match c with
  | some v => if v.2.2.2.2.2.2.1 = true then [] else [(k, v, ())]
  | none => []
def itemsOf (w : List KX) (c : KX → Option VerD) : List It := w.flatMap fun e => shown (c e) e.1
theorem shown_key {c : Option VerD} {k : List UInt8} {x : It} (h : x ∈ shown c k) : x.1 = k := by
  unfold shown at h
  cases c with
  | none => simp at h
  | some v =>
    simp only at h
    by_cases hg : v.2.2.2.2.2.2.1 = true
    · rw [if_pos hg] at h; simp at h
    · rw [if_neg hg] at h; rw [List.mem_singleton.1 h]
theorem itemsOf_app (a b : List KX) (c : KX → Option VerD) : itemsOf (a ++ b) c = itemsOf a c ++ itemsOf b c := by
  unfold itemsOf; rw [List.flatMap_append]
theorem itemsOf_key {w : List KX} {c : KX → Option VerD} {x : It} (h : x ∈ itemsOf w c) : ∃ e ∈ w, x.1 = e.1 := by
  unfold itemsOf at h
  obtain ⟨e, he, hx⟩ := List.mem_flatMap.1 h
  exact ⟨e, he, shown_key hx⟩
theorem itemsOf_congr {w : List KX} {c c' : KX → Option VerD} (h : ∀ e ∈ w, c e = c' e) : itemsOf w c = itemsOf w c' := by
  unfold itemsOf
  induction w with
  | nil => rfl
  | cons e w ih => rw [List.flatMap_cons, List.flatMap_cons, h e (by simp), ih fun e he => h e (by simp [he])]
def setC (c : KX → Option VerD) (k : List UInt8) (v : VerD) : KX → Option VerD := fun e => if e.1 = k then some v else c e
theorem replay_set {w : List KX} (hs : Sorted strlt w) {e : KX} (he : e ∈ w) (c : KX → Option VerD) (v : VerD) : replay (itemsOf w c) (e.1, v, ()) = itemsOf w (setC c e.1 v) := by
  obtain ⟨A, B, rfl⟩ := List.append_of_mem he
  obtain ⟨sA, sB, sAB⟩ := List.pairwise_append.1 hs
  obtain ⟨se, sB⟩ := List.pairwise_cons.1 sB
  have hA : ∀ x ∈ A, strlt x.1 e.1 = true := fun x hx => sAB x hx e (by simp)
  have hB : ∀ x ∈ B, strlt e.1 x.1 = true := se
  have nA : ∀ x ∈ A, x.1 ≠ e.1 := fun x hx h => by have := hA x hx; rw [h, strlt_irrefl] at this; exact Bool.noConfusion this
  have nB : ∀ x ∈ B, x.1 ≠ e.1 := fun x hx h => by have := hB x hx; rw [h, strlt_irrefl] at this; exact Bool.noConfusion this
  have eA : itemsOf A (setC c e.1 v) = itemsOf A c := itemsOf_congr fun x hx => by unfold setC; rw [if_neg (nA x hx)]
  have eB : itemsOf B (setC c e.1 v) = itemsOf B c := itemsOf_congr fun x hx => by unfold setC; rw [if_neg (nB x hx)]
  have split : ∀ c : KX → Option VerD, itemsOf (A ++ e :: B) c = itemsOf A c ++ (shown (c e) e.1 ++ itemsOf B c) := fun c => by
    rw [itemsOf_app]; rfl
  have kA : ∀ x ∈ itemsOf A c, strlt x.1 e.1 = true := fun x hx => by
    obtain ⟨u, hu, h⟩ := itemsOf_key hx
    rw [h]; exact hA u hu
  have kB : ∀ x ∈ itemsOf B c, strlt e.1 x.1 = true := fun x hx => by
    obtain ⟨u, hu, h⟩ := itemsOf_key hx
    rw [h]; exact hB u hu
  have kE : ∀ x ∈ shown (c e) e.1, x.1 = e.1 := fun x hx => shown_key hx
  have all : ∀ {q : It → Bool} {l : List It}, (∀ x ∈ l, q x = true) → l.filter q = l := fun h => List.filter_eq_self.2 h
  have non : ∀ {q : It → Bool} {l : List It}, (∀ x ∈ l, q x = false) → l.filter q = [] := fun h => List.filter_eq_nil_iff.2 fun x hx => by rw [h x hx]; exact Bool.false_ne_true
  have f1 : (itemsOf (A ++ e :: B) c).filter (fun x => strlt x.1 e.1) = itemsOf A c := by
    rw [split, List.filter_append, List.filter_append, all kA, non (fun x hx => by rw [kE x hx, strlt_irrefl]), non (fun x hx => strlt_asymm (kB x hx))]
    simp
  have f2 : (itemsOf (A ++ e :: B) c).filter (fun x => strlt e.1 x.1) = itemsOf B c := by
    rw [split, List.filter_append, List.filter_append, non (fun x hx => strlt_asymm (kA x hx)), non (fun x hx => by rw [kE x hx, strlt_irrefl]), all kB]
    simp
  have hne : setC c e.1 v e = some v := by unfold setC; rw [if_pos rfl]
  unfold replay
  show (itemsOf (A ++ e :: B) c).filter (fun x => strlt x.1 e.1) ++ ((bif !v.2.2.2.2.2.2.1 then [((e.1, v, ()) : It)] else []) ++ (itemsOf (A ++ e :: B) c).filter (fun x => strlt e.1 x.1)) = _
  rw [f1, f2, split, eA, eB, hne]
  congr 2
  unfold shown
  simp only
  by_cases hg : v.2.2.2.2.2.2.1 = true
  · rw [if_pos hg, hg]; rfl
  · rw [if_neg hg]
    have : v.2.2.2.2.2.2.1 = false := by simpa using hg
    rw [this]; rfl
/-- the last of a key's items, or what was -/
def lastC (c : KX → Option VerD) (ys : List It) : KX → Option VerD := fun e =>
  match (ys.filter (fun y => decide (y.1 = e.1))).getLast? with
  | some y => some y.2.1
  | none => c e
theorem replay_all {w : List KX} (hs : Sorted strlt w) : ∀ (ys : List It) (c : KX → Option VerD), (∀ y ∈ ys, ∃ e ∈ w, e.1 = y.1) → ys.foldl replay (itemsOf w c) = itemsOf w (lastC c ys)
  | [], c, _ => itemsOf_congr fun e _ => rfl
  | y :: ys, c, h => by
    obtain ⟨e, he, hk⟩ := h y (by simp)
    obtain ⟨k, v, ⟨⟩⟩ := y
    obtain rfl : e.1 = k := hk
    rw [List.foldl_cons, replay_set hs he, replay_all hs ys _ fun y hy => h y (by simp [hy])]
    refine itemsOf_congr fun x _ => ?_
    unfold lastC
    by_cases hx : e.1 = x.1
    · have : decide (((e.1, v, ()) : It).1 = x.1) = true := decide_eq_true hx
      rw [List.filter_cons (p := fun (y : It) => decide (y.1 = x.1)), if_pos this, List.getLast?_cons]
      cases hl : (ys.filter (fun y => decide (y.1 = x.1))).getLast? with
      | none => simp [setC, hx.symm]
      | some z => simp
    · have : ¬ decide (((e.1, v, ()) : It).1 = x.1) = true := by simpa using hx
      rw [List.filter_cons (p := fun (y : It) => decide (y.1 = x.1)), if_neg this]
      have hx' : ¬ x.1 = e.1 := fun h => hx h.symm
      cases hl : (ys.filter (fun y => decide (y.1 = x.1))).getLast? with
      | none => simp [setC, hx']
      | some z => rfl
/-- what a key has at a revision -/
def cAt (r : Int) : KX → Option VerD := fun e => bif (atH e.2.1 r).2.1 then some (atH e.2.1 r).1 else none
theorem atH_gone {l : List VerD} {f : Int} (h : (atH l f).2.1 = true) : (atH l f).1.2.2.2.2.2.2.1 = false := by
  unfold atH at h ⊢
  cases hl : (l.filter fun v => decide (v.1 ≤ f)).getLast? with
  | none => simp [hl] at h
  | some v =>
    rw [hl] at h
    simp only at h ⊢
    by_cases hg : v.2.2.2.2.2.2.1 = true
    · rw [if_pos hg] at h; exact Bool.noConfusion h
    · rw [if_neg hg]; simpa using hg
theorem shown_at (r : Int) (e : KX) : shown (cAt r e) e.1 = bif (atH e.2.1 r).2.1 then [(e.1, (atH e.2.1 r).1, ())] else [] := by
  unfold cAt
  cases h : (atH e.2.1 r).2.1 with
  | false => rfl
  | true =>
    have := atH_gone h
    unfold shown
    simp only [cond_true, this]
    rfl
theorem at_items {r most : Int} (p : KX → Bool) : ∀ (l : List KX) (s : List ItemD × Int), (s.1.length : Int) + l.length ≤ most → (l.foldl (atStep r most p) s).1 = s.1 ++ itemsOf (l.filter p) (cAt r)
  | [], s, _ => by simp [itemsOf]
  | e :: l, s, h => by
    rw [List.length_cons] at h
    have hl : ((atStep r most p s e).1.length : Int) + l.length ≤ most := by
      have : (atStep r most p s e).1.length ≤ s.1.length + 1 := by
        unfold atStep
        cases ((atH e.2.1 r).2.1 && p e) with
        | false => simp
        | true => cases decide (Int.ofNat s.1.length < most) <;> simp
      omega
    rw [List.foldl_cons, at_items p l _ hl]
    have e1 : (atStep r most p s e).1 = s.1 ++ (bif p e then shown (cAt r e) e.1 else []) := by
      rw [shown_at]
      unfold atStep
      have : decide (Int.ofNat s.1.length < most) = true := decide_eq_true (by rw [ofNat_len]; omega)
      rw [this]
      cases (atH e.2.1 r).2.1 <;> cases p e <;> simp
    rw [e1, List.filter_cons]
    cases hp : p e with
    | true => simp only [if_true, cond_true]; rw [List.append_assoc]; rfl
    | false => simp
/-- a key's last change is what it has -/
theorem last_shown {e : KX} (hh : IsHist e.2.1) {since : Int} : shown (match (e.2.1.filter (inR since 1099511627776)).getLast? with | some v => some v | none => cAt (since - 1) e) e.1 = shown (cAt 1099511627776 e) e.1 := by
  have hall : e.2.1.filter (fun v => decide (v.1 ≤ 1099511627776)) = e.2.1 := List.filter_eq_self.2 fun v hv => decide_eq_true (hh.1 v hv).2.1
  have hin : e.2.1.filter (inR since 1099511627776) = e.2.1.filter (fun v => decide (since ≤ v.1)) := List.filter_congr fun v hv => by
    have := (hh.1 v hv).2.1
    unfold inR
    by_cases h : since ≤ v.1 <;> simp [h, this]
  have hsp := sorted_part hh.2 (fun _ => true) (since - 1)
  cases hl : (e.2.1.filter (inR since 1099511627776)).getLast? with
  | some v =>
    have hlast : e.2.1.getLast? = some v := by
      rw [hin] at hl
      obtain ⟨A, hA⟩ := List.getLast?_eq_some_iff.1 hl
      have e2 : e.2.1 = e.2.1.filter (fun v => decide (v.1 ≤ since - 1)) ++ e.2.1.filter (fun v => decide (since ≤ v.1)) := by
        have e3 : e.2.1.filter (fun v => decide (since - 1 < v.1)) = e.2.1.filter (fun v => decide (since ≤ v.1)) := List.filter_congr fun v _ => by
          rw [decide_eq_decide]; omega
        rw [← e3]
        rw [List.filter_eq_self.2 (fun _ _ => rfl)] at hsp
        simpa using hsp
      rw [e2, hA]
      simp
    simp only
    unfold cAt atH
    rw [hall, hlast]
    simp only
    by_cases hg : v.2.2.2.2.2.2.1 = true
    · simp [shown, hg]
    · rw [if_neg hg]
      simp only [cond_true]
  | none =>
    have h0 : e.2.1.filter (inR since 1099511627776) = [] := List.getLast?_eq_none_iff.1 hl
    have hle : ∀ v ∈ e.2.1, v.1 ≤ since - 1 := fun v hv => by
      have := List.filter_eq_nil_iff.1 h0 v hv
      have h2 := (hh.1 v hv).2.1
      unfold inR at this
      simp at this
      omega
    have e4 : atH e.2.1 (since - 1) = atH e.2.1 1099511627776 := by
      unfold atH
      rw [hall, List.filter_eq_self.2 fun v hv => decide_eq_true (hle v hv)]
    simp only
    unfold cAt
    rw [e4]
end Go.Proofs.Ytphdilmnielgeaa
