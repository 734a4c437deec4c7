/-
  index: keys with their histories, changed one after the other.
-/
import Derived.Test.YtphdilmnielgeaaIndexLawA
namespace Go.Proofs.Ytphdilmnielgeaa
open Go.Sx Go Classical
set_option maxRecDepth 10000
abbrev KX : Type := KV (List UInt8) (List VerD)
def oneX (k : List UInt8) (h : List VerD) : List KX := if h = [] then [] else [(k, h, ())]
def setL (k : List UInt8) (h : List VerD) (l : List KX) : List KX := if h = [] then delL strlt k l else putL strlt (k, h, ()) l
theorem oneX_len (k : List UInt8) (h : List VerD) : (oneX k h).length ≤ 1 := by unfold oneX; split <;> simp
theorem setL_mid {A B : List KX} {p : KX} (hs : Sorted strlt (A ++ p :: B)) (h : List VerD) : setL p.1 h (A ++ p :: B) = A ++ (oneX p.1 h ++ B) := by
  unfold setL oneX
  split
  · rw [delL_mid LO.str hs]; rfl
  · rw [putL_mid LO.str hs]; rfl
theorem setL_sorted {l : List KX} (hs : Sorted strlt l) (k : List UInt8) (h : List VerD) : Sorted strlt (setL k h l) := by
  unfold setL
  split
  · exact hs.del
  · exact hs.put LO.str
theorem foldSet (p : KX → Bool) (f : KX → List VerD) : ∀ (r d : List KX), Sorted strlt (d ++ r) → (r.filter p).foldl (fun o e => setL e.1 (f e) o) (d ++ r) = d ++ r.flatMap (fun e => bif p e then oneX e.1 (f e) else [e])
  | [], d, _ => by simp
  | e :: r, d, hs => by
    rw [List.flatMap_cons]
    cases hp : p e with
    | true =>
      rw [List.filter_cons_of_pos hp, List.foldl_cons, cond_true]
      have h2 := setL_sorted hs e.1 (f e)
      rw [setL_mid hs] at h2 ⊢
      rw [← List.append_assoc] at h2 ⊢
      rw [foldSet p f r (d ++ oneX e.1 (f e)) h2, List.append_assoc]
    | false =>
      rw [List.filter_cons_of_neg (by rw [hp]; exact Bool.noConfusion), cond_false]
      have e1 : d ++ e :: r = (d ++ [e]) ++ r := by simp
      rw [e1] at hs ⊢
      rw [foldSet p f r (d ++ [e]) hs, List.append_assoc]
theorem foldl_sorted (f : KX → List VerD) : ∀ (w l : List KX), Sorted strlt l → Sorted strlt (w.foldl (fun o e => setL e.1 (f e) o) l)
  | [], _, h => h
  | e :: w, l, h => foldl_sorted f w _ (setL_sorted h _ _)
theorem delL_split {k : List UInt8} : ∀ {l : List KX}, Sorted strlt l → delL strlt k l = l.filter (fun e => strlt e.1 k) ++ l.filter (fun e => strlt k e.1)
  | [], _ => rfl
  | a :: r, h => by
    have hr : Sorted strlt r := (List.pairwise_cons.1 h).2
    have ha := (List.pairwise_cons.1 h).1
    have ih := delL_split (k := k) hr
    unfold delL at ih ⊢
    have gone : strlt a.1 k = false → r.filter (fun e => strlt e.1 k) = [] := fun h1 => fil_none fun e he => by
      cases h2 : strlt e.1 k with
      | false => rfl
      | true => rw [strlt_trans (ha e he) h2] at h1; exact Bool.noConfusion h1
    cases h1 : strlt a.1 k with
    | true =>
      have h2 := strlt_asymm h1
      simp only [List.filter_cons, h1, h2, Bool.true_or, if_true, Bool.false_eq_true, if_false, List.cons_append, ih]
    | false =>
      have h3 := gone h1
      rw [h3, List.nil_append] at ih
      cases h2 : strlt k a.1 with
      | true => simp only [List.filter_cons, h1, h2, Bool.or_true, if_true, Bool.false_eq_true, if_false, h3, ih, List.nil_append]
      | false => simp only [List.filter_cons, h1, h2, Bool.or_false, Bool.false_eq_true, if_false, h3, ih, List.nil_append]
theorem mset_ex (m : TX) (n : Nat) (hm : MapI strlt m n) (hn : n ≤ 1000000) (k : List UInt8) (h : List VerD) : ∃ m', F69 (((m, ()), ()), k, h, ()) = some (((m', ()), ()), ()) ∧ MapI strlt m' (n + 1) ∧ toL m' = setL k h (toL m) := by
  have nm := hm.2.2
  by_cases hh : h = []
  · subst hh
    unfold F69 setL
    have e0 : decide (Int.ofNat ([] : List VerD).length = 0) = true := by decide
    simp only [e0, cond_true, tx_mdel m k hm.1 (show (toL m).length ≤ 1000000000 by omega), Option.bind_some]
    have hg := getT_eq LO.str (x := k) hm.2.1
    cases hq : (tGet strlt k m).isSome with
    | true => exact ⟨tDel strlt k m, by rw [cond_true], (hm.del LO.str).mono (by omega), by rw [toL_del LO.str hm.1 hm.2.1, if_pos trivial]⟩
    | false => exact ⟨m, by rw [cond_false], hm.mono (by omega), by rw [if_pos trivial, delL_none LO.str (by rw [← hg]; exact hq)]⟩
  · exact ⟨tPut strlt (k, h, ()) m, put_eq m k h hm.1 (by omega) hh, hm.put LO.str, by unfold setL; rw [if_neg hh, toL_put LO.str hm.2.1]⟩
theorem refGet_eq (l : List KX) (k : List UInt8) (h : l.length ≤ 1000000) : F55 (l, k, ()) = some ((getL strlt k l).getD [], ()) := by
  unfold F55 getL
  refine Eq.trans (loop_find (l := l) (p := fun e => !(strlt e.1 k || strlt k e.1)) (f := fun e => e.2) (r0 := (([] : List VerD), ())) (by omega) (fun i v hi => ?_) ?_) (by cases l.find? (fun e => !(strlt e.1 k || strlt k e.1)) <;> rfl)
  · have hlt := (List.getElem?_eq_some_iff.1 hi).1
    have e := ne_lt LO.str v.1 k
    simp only [lt_len, hlt, decide_true, cond_true, idx_nat, hi, Option.bind_some, wrap64_nat (show i < 9223372036854775807 by omega), e, Bool.not_not]
    cases decide (v.1 = k) <;> rfl
  · simp only [lt_len, Nat.lt_irrefl, decide_false, cond_false]
theorem refSet_eq (l : List KX) (k : List UInt8) (h : List VerD) (hl : l.length ≤ 1000000) (hs : Sorted strlt l) : F71 (l, k, h, ()) = some (setL k h l, ()) := by
  unfold F71
  refine Eq.trans (loop_gather (l := l) (d := []) (g := fun e => bif strlt e.1 k then [e] else []) (K := fun a => some ((a ++ oneX k h) ++ l.filter (fun e => strlt k e.1), ())) (by omega) (fun v => by cases strlt v.1 k <;> simp) (fun i a v hi ha => ?_) (fun a ha => ?_)) ?_
  · have hlt := (List.getElem?_eq_some_iff.1 hi).1
    simp only [List.length_nil, Nat.zero_add] at ha
    simp only [lt_len, hlt, decide_true, cond_true, idx_nat, hi, Option.bind_some, wrap64_nat (show i < 9223372036854775807 by omega), appO_eq (l := a) (x := [v]) (by simp only [List.length_cons, List.length_nil]; simp only [capB]; omega)]
    cases strlt v.1 k <;> simp
  · simp only [List.length_nil, Nat.zero_add] at ha
    simp only [lt_len, Nat.lt_irrefl, decide_false, cond_false]
    refine congrArg (Option.map Sum.inr) ?_
    refine bind_of (a := Sum.inl (a ++ oneX k h, ())) ?_ ?_
    · unfold oneX
      cases h with
      | nil => simp
      | cons b r =>
        have e0 : decide ((0 : Int) < Int.ofNat (b :: r).length) = true := decide_eq_true (by simp)
        simp only [e0, cond_true, appO_eq (l := a) (x := [(k, b :: r, ())]) (by simp only [List.length_cons, List.length_nil]; simp only [capB]; omega), Option.bind_some]
        rfl
    · have o1 := oneX_len k h
      refine Eq.trans (loop_filter (l := l) (d := a ++ oneX k h) (p := fun e => strlt k e.1) (by omega) (fun i c v hi hc => ?_) (fun c => ?_)) rfl
      · have hlt := (List.getElem?_eq_some_iff.1 hi).1
        simp only [List.length_append] at hc
        simp only [lt_len, hlt, decide_true, cond_true, idx_nat, hi, Option.bind_some, wrap64_nat (show i < 9223372036854775807 by omega), appO_eq (l := c) (x := [v]) (by simp only [List.length_cons, List.length_nil]; simp only [capB]; omega), strlt_gt]
        cases strlt k v.1 <;> rfl
      · simp only [lt_len, Nat.lt_irrefl, decide_false, cond_false]
  · rw [List.nil_append, flatMap_filter]
    unfold setL oneX
    split
    · rw [delL_split hs, List.append_nil]
    · unfold putL; rw [List.append_assoc]; rfl
end Go.Proofs.Ytphdilmnielgeaa
