/-
  The document's changes, all of them.
-/
import Derived.Test.YtphdilmnielgeaaIndexDoc
namespace Go.Proofs.Ytphdilmnielgeaa
open Go.Sx Go Classical
set_option maxRecDepth 10000
def wantB (p : List UInt8 → Bool) (l : List KX) (since to : Int) (r : Int) : Bool := decide (since ≤ r) && (decide (r ≤ to) && decide (0 < (docItems p l r).length))
def docB (p : List UInt8 → Bool) (l : List KX) (r : Int) : Bt := (r, docItems p l r, ())
theorem docItems_len {p : List UInt8 → Bool} {r : Int} {n : Nat} (hn : n ≤ 1000) : ∀ {l : List KX}, (∀ e ∈ l, e.2.1.length ≤ n) → (docItems p l r).length ≤ l.length * 1000
  | [], _ => by simp [docItems]
  | e :: l, h => by
    have h1 := verItems_len p r e
    have h2 := h e (by simp)
    have h3 := docItems_len (p := p) (r := r) hn (l := l) fun e he => h e (by simp [he])
    have : docItems p (e :: l) r = verItems p r e ++ docItems p l r := by simp [docItems]
    rw [this, List.length_append, List.length_cons]
    omega
theorem dc1_ok {l : List KX} {n : Nat} (hI : IdxL l n) (hn : n ≤ 1000) {a b : List UInt8} {p : List UInt8 → Bool} (hp : ∀ e ∈ l, F19 (a, b, e.1, ()) = some (p e.1, ())) (since to most : Int) (R : List Int) (hR : R.length ≤ 10000000) :
    ∀ (d : Nat) {k m : Nat} {out : List Bt} {c : Int}, k + d = R.length → d < m → out.length ≤ k → 0 ≤ c → c ≤ (k : Int) * 1000000 →
      iter (dc1 l a b since to most R) m (out, c, (k : Int), ()) = some (takeB most out c (((R.drop k).filter (wantB p l since to)).map (docB p l)), ()) := by
  intro d
  induction d with
  | zero =>
    intro k m out c hk hm _ _ _
    obtain ⟨m, rfl⟩ : ∃ j, m = j + 1 := ⟨m - 1, by omega⟩
    have : k = R.length := by omega
    subst this
    simp only [iter, dc1, lt_len, Nat.lt_irrefl, decide_false, cond_false, Option.bind_some, Sum.elim_inr, List.drop_length, List.filter_nil, List.map_nil, takeB]
  | succ d ih =>
    intro k m out c hk hm ho h0 h1
    obtain ⟨m, rfl⟩ : ∃ j, m = j + 1 := ⟨m - 1, by omega⟩
    have hlt : k < R.length := by omega
    obtain ⟨r, hr⟩ : ∃ r, R[k]? = some r := ⟨_, List.getElem?_eq_getElem hlt⟩
    have hdrop : R.drop k = r :: R.drop (k + 1) := by
      rw [List.drop_eq_getElem_cons hlt]
      rw [List.getElem?_eq_getElem hlt] at hr
      rw [Option.some.inj hr]
    have hlen := docItems_len (p := p) (r := r) hn (l := l) fun e he => (hI.2.2 e he).2.2.2
    have hll := hI.2.1
    have w : wrap64 (c + Int.ofNat (docItems p l r).length) = c + ((docItems p l r).length : Int) := wrap64_eq (by rw [ofNat_len]; omega) (by rw [ofNat_len]; omega)
    have step : ∀ o, dcRest r since to most (out, c, (k : Int), ()) (docItems p l r, ()) = some o → dc1 l a b since to most R (out, c, (k : Int), ()) = some o := fun o h => by
      unfold dc1
      simp only [lt_len, hlt, decide_true, cond_true, idxN_nat hlt, Option.bind_some, hr]
      exact dc2_ok hI hn hp r since to most _ h
    have wk := wrap64_nat (show k < 9223372036854775807 by omega)
    have skip : wantB p l since to r = false → dcRest r since to most (out, c, (k : Int), ()) (docItems p l r, ()) = some (.inl (out, c, ((k + 1 : Nat) : Int), ())) := fun h => by
      unfold dcRest
      by_cases e1 : (docItems p l r).length = 0
      · simp only [ofNat_len, e1, wk]; rfl
      · have e1' : decide (Int.ofNat (docItems p l r).length = 0) = false := decide_eq_false (by rw [ofNat_len]; omega)
        by_cases e2 : r < since
        · simp only [e1', cond_false, decide_eq_true e2, cond_true, wk]
        · by_cases e3 : to < r
          · simp only [e1', cond_false, decide_eq_false e2, decide_eq_true e3, cond_true, wk]
          · exfalso
            have : wantB p l since to r = true := by
              unfold wantB
              rw [decide_eq_true (show since ≤ r by omega), decide_eq_true (show r ≤ to by omega), decide_eq_true (show 0 < (docItems p l r).length by omega)]
              rfl
            rw [this] at h
            exact Bool.noConfusion h
    rw [hdrop, List.filter_cons]
    cases hw : wantB p l since to r with
    | false =>
      simp only [iter, step _ (skip hw), Option.bind_some, Sum.elim_inl, Bool.false_eq_true, if_false]
      exact ih (by omega) (by omega) (by omega) h0 (by omega)
    | true =>
      have hw' := hw
      unfold wantB at hw'
      simp only [Bool.and_eq_true, decide_eq_true_eq] at hw'
      obtain ⟨q1, q2, q3⟩ := hw'
      have e1' : decide (Int.ofNat (docItems p l r).length = 0) = false := decide_eq_false (by rw [ofNat_len]; omega)
      have e2 : decide (r < since) = false := decide_eq_false (by omega)
      have e3 : decide (to < r) = false := decide_eq_false (by omega)
      have happ : appO out [(r, docItems p l r, ())] = some (out ++ [docB p l r]) := appO_small (by omega)
      simp only [if_true, List.map_cons, takeB]
      by_cases hc : most < c + ((docItems p l r).length : Int) ∧ 0 < out.length
      · have s : dcRest r since to most (out, c, (k : Int), ()) (docItems p l r, ()) = some (.inr (out, ())) := by
          unfold dcRest
          have e5 : decide ((0 : Int) < Int.ofNat out.length) = true := decide_eq_true (by rw [ofNat_len]; omega)
          simp only [e1', e2, e3, cond_false, w, decide_eq_true hc.1, cond_true, e5]
        have hc2 : most < c + ((docB p l r).2.1.length : Int) ∧ 0 < out.length := hc
        simp only [iter, step _ s, Option.bind_some, Sum.elim_inr, hc2, and_self, if_true]
      · have s : dcRest r since to most (out, c, (k : Int), ()) (docItems p l r, ()) = some (.inl (out ++ [docB p l r], c + ((docItems p l r).length : Int), ((k + 1 : Nat) : Int), ())) := by
          unfold dcRest
          simp only [e1', e2, e3, cond_false, w, happ, Option.bind_some, wk]
          by_cases e4 : most < c + ((docItems p l r).length : Int)
          · have e5 : decide ((0 : Int) < Int.ofNat out.length) = false := decide_eq_false (by rw [ofNat_len]; omega)
            simp only [decide_eq_true e4, cond_true, e5, cond_false]
          · simp only [decide_eq_false e4, cond_false]
        have hc2 : ¬ (most < c + ((docB p l r).2.1.length : Int) ∧ 0 < out.length) := hc
        simp only [iter, step _ s, Option.bind_some, Sum.elim_inl, hc2, if_false]
        exact ih (by omega) (by omega) (by simp; omega) (by omega) (by omega)
theorem insL_len {n : Nat} (hn : n ≤ 1000) : ∀ (l : List KX) {out : List Int}, (∀ e ∈ l, e.2.1.length ≤ n) → Inc out → (insL l out).length ≤ out.length + l.length * 1000
  | [], out, _, _ => by simp [insL]
  | e :: l, out, h, ho => by
    obtain ⟨i1, _, i3⟩ := insV_ok e.2.1 ho
    have := insL_len hn l (fun e he => h e (by simp [he])) i1
    have h2 := h e (by simp)
    show (insL l (insV out e.2.1)).length ≤ _
    rw [List.length_cons]
    omega
/-- what the document tells -/
theorem doc_changes {l : List KX} {n : Nat} (hI : IdxL l n) (hn : n ≤ 1000) {a b : List UInt8} (ha : a.length ≤ 140737488351232) (hb : b.length ≤ 140737488351232) (since to most : Int) :
    F38 (l, a, b, since, to, most, ()) = some (takeB most [] 0 (((insL l []).filter (wantB (fun k => decide (IsRange a b) && inB a b k) l since to)).map (docB (fun k => decide (IsRange a b) && inB a b k) l)), ()) := by
  rw [dc_eq, revs_eq l n hI hn]
  simp only [Option.bind_some]
  have hll := hI.2.1
  have hlen := insL_len hn l (out := []) (fun e he => (hI.2.2 e he).2.2.2) List.Pairwise.nil
  have hlen : (insL l []).length ≤ 0 + l.length * 1000 := hlen
  have := dc1_ok hI hn (a := a) (b := b) (p := fun k => decide (IsRange a b) && inB a b k) (fun e he => refIn_eq ha hb (hI.2.2 e he).1) since to most (insL l []) (by omega) (insL l []).length (k := 0) (m := big) (out := []) (c := 0) (by omega) (by rw [big_eq]; omega) (Nat.zero_le _) (by omega) (by omega)
  rw [List.drop_zero] at this
  exact this
end Go.Proofs.Ytphdilmnielgeaa
