/-
  Index: of what was dropped nothing is left.
-/
import Derived.Test.YtphdilmnielgeaaIndexLawG
namespace Go.Proofs.Ytphdilmnielgeaa
open Go.Sx Go Classical
set_option maxRecDepth 10000
theorem iter_stop {T R : Type} {step : T → Option (T ⊕ R)} {t : T} {r : R} (h : step t = some (.inr r)) : iter step big t = some r := by
  obtain ⟨k, hk⟩ : ∃ k, big = k + 1 := ⟨18446744073709551615, big_eq⟩
  rw [hk]
  simp [iter, h]
theorem drop_list (l : List KX) (n : Nat) (hI : IdxL l n) (hn : n ≤ 1000) {a b : List UInt8} (ha : a.length ≤ 140737488351232) (hb : b.length ≤ 140737488351232) :
    F42 (l, a, b, ()) = some (l.filter (fun e => !(decide (IsRange a b) && inB a b e.1)), ()) := by
  have hll := hI.2.1
  unfold F42
  refine Eq.trans (loop_filter (l := l) (d := []) (p := fun e => !(decide (IsRange a b) && inB a b e.1)) (by omega) (fun i c v hi hc => ?_) (fun c => ?_)) (by rw [List.nil_append])
  · have hlt := (List.getElem?_eq_some_iff.1 hi).1
    have hk := (hI.2.2 v (List.mem_of_getElem? hi)).1
    simp only [List.length_nil, Nat.zero_add] at hc
    simp only [lt_len, hlt, decide_true, cond_true, idx_nat, hi, Option.bind_some, wrap64_nat (show i < 9223372036854775807 by omega), refIn_eq ha hb hk, appO_eq (l := c) (x := [v]) (by simp only [List.length_cons, List.length_nil]; have : capB = 34359738368 := rfl; omega)]
    cases (decide (IsRange a b) && inB a b v.1) <;> rfl
  · simp only [lt_len, Nat.lt_irrefl, decide_false, cond_false]
theorem within_none {m m' : TX} {a b : List UInt8} (h : toL m' = (toL m).filter (fun e => !(decide (IsRange a b) && inB a b e.1))) : (if IsRange a b then (toL m').filter (fun e => inB a b e.1) else []) = ([] : List KX) := by
  by_cases hR : IsRange a b
  · rw [if_pos hR, h, List.filter_filter]
    apply List.filter_eq_nil_iff.2
    intro e _
    simp only [hR, decide_true, Bool.true_and]
    cases inB a b e.1 <;> simp
  · rw [if_neg hR]
theorem lt0 {α : Type} : decide ((0 : Int) < Int.ofNat ([] : List α).length) = false := rfl
theorem at_none {m : TX} {a b : List UInt8} (h : F62 (((m, ()), ()), a, b, ()) = some ([], ())) (r most : Int) : F34 (((m, ()), ()), a, b, r, most, ()) = some ([], 0, ()) := by
  unfold F34
  refine bind_of h ?_
  refine iter_stop ?_
  simp only [lt0, cond_false]
theorem sort_none : F64a ([], ()) = some () := by
  have i0 : ∀ a : Int, 0 ≤ a → a ≤ 100 → F95a ([], a, 0, ()) = some () := fun a h1 h2 => by
    unfold F95a
    refine iter_stop ?_
    have e : wrap64 (a + 1) = a + 1 := wrap64_eq (by omega) (by omega)
    have d : decide (a + 1 < 0) = false := decide_eq_false (by omega)
    simp only [e, d, cond_false]
  unfold F64a
  refine bind_of (a := ()) ?_ rfl
  unfold F87a
  refine iter_stop ?_
  have d1 : decide ((20 : Int) ≤ Int.ofNat ([] : List ItemD).length) = false := rfl
  simp only [d1, cond_false]
  have e1 := i0 0 (by omega) (by omega)
  refine Eq.trans (congrArg (Option.map Sum.inr) (bind_of (show F95a ([], 0, Int.ofNat ([] : List ItemD).length, ()) = some () from e1) (iter_stop ?_))) rfl
  have d2 : decide ((20 : Int) < Int.ofNat ([] : List ItemD).length) = false := rfl
  simp only [d2, cond_false]
theorem changes_none {m : TX} {a b : List UInt8} (h : F62 (((m, ()), ()), a, b, ()) = some ([], ())) (since to most : Int) : F36 (((m, ()), ()), a, b, since, to, most, ()) = some ([], ()) := by
  unfold F36
  refine bind_of h ?_
  refine iter_stop ?_
  simp only [lt0, cond_false]
  have hb : F67 ([], ()) = some ([], ()) := by
    unfold F67
    refine iter_stop ?_
    simp only [lt0, cond_false]
  refine Eq.trans (congrArg (Option.map Sum.inr) (bind_of sort_none (bind_of hb (iter_stop ?_)))) rfl
  simp only [lt0, cond_false]
theorem lawDrops (x : (argTy P12).den) (hx : Fit47 (argTy P12) x) : F12 x = some (true, ()) := by
  obtain ⟨l, dfr, den, ⟨fr, en, pre, rev, since, to, most, lease, ⟨⟩⟩, ⟨⟩⟩ : List ActX × List UInt8 × List UInt8 × (List UInt8 × List UInt8 × List UInt8 × Int × Int × Int × Int × Int × Unit) × Unit := x
  obtain ⟨⟨hl, -⟩, g1, g2, ⟨h1, h2, h3, -⟩, -⟩ := hx
  have hl' : l.length ≤ 140737488351232 := hl
  have h1' : fr.length ≤ 140737488351232 := h1
  have h2' : en.length ≤ 140737488351232 := h2
  have g1' : dfr.length ≤ 140737488351232 := g1
  have g2' : den.length ≤ 140737488351232 := g2
  obtain ⟨fb, hf, hfl⟩ := few_ex l 60 (by omega) (by omega)
  have hf : F20 (l, 60, ()) = some (fb, ()) := hf
  unfold F12
  simp only [awake_eq, Option.bind_some, Bool.not_true, cond_false, hf]
  cases fb with
  | false => rfl
  | true =>
    obtain ⟨h60, hs⟩ := hfl rfl
    obtain ⟨m, hI, e⟩ := made_ex l (by omega) hs
    obtain ⟨m', hI', d1, d2⟩ := drop_ex m l.length hI (by omega) g1' g2'
    have d3 := drop_list (toL m) l.length hI.2 (by omega) g1' g2'
    have d4 : toL m' = _ := congrArg (fun z : List KX × Unit => z.1) (Option.some.inj (d2.symm.trans d3))
    have hw := within_eq m' l.length hI'.map (by omega) dfr den
    rw [within_none d4] at hw
    obtain ⟨o, c, ho, e1, e2⟩ := at_both m' l.length hI' (by omega) h1' h2' rev most
    have z : decide (Int.ofNat ([] : List ItemD).length = 0) = true := rfl
    have zb : decide (Int.ofNat ([] : List (Int × List ItemD × Unit)).length = 0) = true := rfl
    have hself := same_self (toL m) l.length hI.2 (by omega)
    simp only [Bool.not_true, cond_false, e, Option.bind_some, d1, at_none hw, changes_none hw, decide_true, z]
    refine Eq.trans (congrArg (fun z => cond _ (some (true, ())) z) ?_) (cond_same _ _)
    simp only [zb, Bool.not_true, cond_false, e1, d2, e2, Option.bind_some, decide_true, cond_true, items_self o (show o.length ≤ 1000000 by omega), of_eq m l.length hI (by omega), hself]
end Go.Proofs.Ytphdilmnielgeaa
