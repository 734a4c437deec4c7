/-
  The program's changes, once its batches are known; they are what the document tells.
-/
import Derived.Test.YtphdilmnielgeaaIndexDocB
namespace Go.Proofs.Ytphdilmnielgeaa
open Go.Sx Go Classical
set_option maxRecDepth 10000
abbrev PgS : Type := List It × Int × Unit
abbrev PgT : Type := List Bt × Int × Int × Unit
abbrev PgR : Type := List Bt × Unit
noncomputable def pgV (e : KX) (h : List T37D) (k : Int) (x : PgS) : Option (PgS ⊕ (PgS ⊕ PgR)) :=
 bif decide (x.2.1 < Int.ofNat (List.length h)) then
 Option.bind (idxN h x.2.1) fun (b_3 : Nat) =>
 Option.bind h[b_3]? fun (b_4 : T37D) =>
 Option.bind (appO x.1 [(e.1, b_4, ())])
 fun (b : List T66D) =>
 some (Sum.inl (b, wrap64 (x.2.1 + 1), ()))
 else some (Sum.inr (Sum.inl (x.1, wrap64 (k + 1), ())))
noncomputable def pgB (most : Int) (B : List Bt) (x_2 : PgT) : Option (PgT ⊕ PgR) :=
 bif decide (x_2.2.2.1 < Int.ofNat (List.length B)) then
 Option.bind (idx B x_2.2.2.1)
 fun (b : Bt) =>
 bif decide (most < wrap64 (x_2.2.1 + Int.ofNat (List.length b.2.1))) then
 bif decide (0 < Int.ofNat (List.length x_2.1)) then some (Sum.inr (x_2.1, ()))
 else
 Option.bind (appO x_2.1 [b])
 fun (b_1 : List Bt) =>
 some (Sum.inl (b_1, wrap64 (x_2.2.1 + Int.ofNat (List.length b.2.1)), wrap64 (x_2.2.2.1 + 1), ()))
 else
 Option.bind (appO x_2.1 [b])
 fun (b_1 : List Bt) =>
 some (Sum.inl (b_1, wrap64 (x_2.2.1 + Int.ofNat (List.length b.2.1)), wrap64 (x_2.2.2.1 + 1), ()))
 else some (Sum.inr (x_2.1, ()))
noncomputable def pgRest (most : Int) (l : List It) : Option PgR :=
 Option.bind (F64a (l, ()))
 fun (b : List T66D × Unit) =>
 Option.bind (F67 b) fun (b : List Bt × Unit) => iter (pgB most b.1) big ([], 0, 0, ())
noncomputable def pg1 (w : List KX) (since to most : Int) (x_1 : PgS) : Option (PgS ⊕ PgR) :=
 bif decide (x_1.2.1 < Int.ofNat (List.length w)) then
 Option.bind (idxN w x_1.2.1) fun (b_1 : Nat) =>
 Option.bind w[b_1]?
 fun (e : KX) =>
 Option.bind (F63 (e.2.1, since, to, ()))
 fun (h : List T37D × Unit) => iter (pgV e h.1 x_1.2.1) big (x_1.1, 0, ())
 else Option.map Sum.inr (pgRest most x_1.1)
theorem pg_eq (x : T32D) (a b : List UInt8) (since to most : Int) : F36 (x, a, b, since, to, most, ()) = Option.bind (F62 (x, a, b, ())) fun (w : List KX × Unit) => iter (pg1 w.1 since to most) big ([], 0, ()) := rfl
def inVers (since to : Int) (e : KX) : List It := (e.2.1.filter (inR since to)).map (fun v => (e.1, v, ()))
def inItems (since to : Int) (w : List KX) : List It := w.flatMap (inVers since to)
theorem pgV_ok (e : KX) (h : List T37D) (k : Nat) (L : List It) (hk : k ≤ 10000000) (hh : h.length ≤ 10000000) (hL : L.length ≤ 10000000) : iter (pgV e h k) big (L, 0, ()) = some (.inl (L ++ h.map (fun v => (e.1, v, ())), ((k + 1 : Nat) : Int), ())) := by
  have hf : ∀ (h : List T37D) (L : List It), h.foldl (fun L v => L ++ [((e.1, v, ()) : It)]) L = L ++ h.map (fun v => (e.1, v, ())) := by
    intro h
    induction h with
    | nil => intro L; simp
    | cons v h ih => intro L; rw [List.foldl_cons, ih]; simp
  have := iter_fold (step := pgV e h k) (mk := fun j L => (L, (j : Int), ())) (l := h) (g := fun L v => L ++ [((e.1, v, ()) : It)]) (K := fun L => (.inl (L, ((k + 1 : Nat) : Int), ()) : PgS ⊕ PgR)) (fun j L' => L'.length ≤ L.length + j) (by omega)
    (fun j L' v hj hl => by
      have hjl : j < h.length := (List.getElem?_eq_some_iff.1 hj).1
      refine ⟨?_, by simp; omega⟩
      unfold pgV
      simp only [lt_len, hjl, decide_true, cond_true, idxN_nat hjl, Option.bind_some, hj, wrap64_nat (show j < 9223372036854775807 by omega), appO_small (show L'.length ≤ 100000000 by omega)])
    (fun L' _ => by
      unfold pgV
      simp only [lt_len, Nat.lt_irrefl, decide_false, cond_false, wrap64_nat (show k < 9223372036854775807 by omega)]) (a := L) (Nat.le_refl _)
  rw [hf] at this
  exact this
theorem pgB_ok (most : Int) (B : List Bt) (hB : B.length ≤ 10000000) (hb : ∀ x ∈ B, x.2.1.length ≤ 10000000) : ∀ (d : Nat) {k m : Nat} {out : List Bt} {c : Int}, k + d = B.length → d < m → out.length ≤ k → 0 ≤ c → c ≤ (k : Int) * 10000000 →
    iter (pgB most B) m (out, c, (k : Int), ()) = some (takeB most out c (B.drop k), ()) := by
  intro d
  induction d with
  | zero =>
    intro k m out c hk hm _ _ _
    obtain ⟨m, rfl⟩ : ∃ j, m = j + 1 := ⟨m - 1, by omega⟩
    have : k = B.length := by omega
    subst this
    simp only [iter, pgB, lt_len, Nat.lt_irrefl, decide_false, cond_false, Option.bind_some, Sum.elim_inr, List.drop_length, takeB]
  | succ d ih =>
    intro k m out c hk hm ho h0 h1
    obtain ⟨m, rfl⟩ : ∃ j, m = j + 1 := ⟨m - 1, by omega⟩
    have hlt : k < B.length := by omega
    obtain ⟨x, hx⟩ : ∃ x, B[k]? = some x := ⟨_, List.getElem?_eq_getElem hlt⟩
    have hdrop : B.drop k = x :: B.drop (k + 1) := by
      rw [List.drop_eq_getElem_cons hlt]
      rw [List.getElem?_eq_getElem hlt] at hx
      rw [Option.some.inj hx]
    have hl := hb x (List.mem_of_getElem? hx)
    have w : wrap64 (c + Int.ofNat x.2.1.length) = c + (x.2.1.length : Int) := wrap64_eq (by rw [ofNat_len]; omega) (by rw [ofNat_len]; omega)
    have happ : appO out [x] = some (out ++ [x]) := appO_small (by omega)
    have wk := wrap64_nat (show k < 9223372036854775807 by omega)
    rw [hdrop]
    simp only [takeB]
    by_cases hc : most < c + (x.2.1.length : Int) ∧ 0 < out.length
    · have s : pgB most B (out, c, (k : Int), ()) = some (.inr (out, ())) := by
        unfold pgB
        have e5 : decide ((0 : Int) < Int.ofNat out.length) = true := decide_eq_true (by rw [ofNat_len]; omega)
        simp only [lt_len, hlt, decide_true, cond_true, idx_nat, hx, Option.bind_some, w, decide_eq_true hc.1, e5]
      simp only [iter, s, Option.bind_some, Sum.elim_inr, hc, and_self, if_true]
    · have s : pgB most B (out, c, (k : Int), ()) = some (.inl (out ++ [x], c + (x.2.1.length : Int), ((k + 1 : Nat) : Int), ())) := by
        unfold pgB
        simp only [lt_len, hlt, decide_true, cond_true, idx_nat, hx, Option.bind_some, w, happ, wk]
        by_cases e4 : most < c + (x.2.1.length : Int)
        · have e5 : decide ((0 : Int) < Int.ofNat out.length) = false := decide_eq_false (by rw [ofNat_len]; omega)
          simp only [decide_eq_true e4, cond_true, e5, cond_false]
        · simp only [decide_eq_false e4, cond_false]
      simp only [iter, s, Option.bind_some, Sum.elim_inl, hc, if_false]
      exact ih (by omega) (by omega) (by simp; omega) (by omega) (by omega)
theorem inVers_len (since to : Int) (e : KX) : (inVers since to e).length ≤ e.2.1.length := by
  unfold inVers
  rw [List.length_map]
  exact List.length_filter_le _ _
theorem inItems_len {since to : Int} {n : Nat} (hn : n ≤ 1000) : ∀ {w : List KX}, (∀ e ∈ w, e.2.1.length ≤ n) → (inItems since to w).length ≤ w.length * 1000
  | [], _ => by simp [inItems]
  | e :: l, h => by
    have h1 := inVers_len since to e
    have h2 := h e (by simp)
    have h3 := inItems_len (since := since) (to := to) hn (w := l) fun e he => h e (by simp [he])
    have : inItems since to (e :: l) = inVers since to e ++ inItems since to l := by simp [inItems]
    rw [this, List.length_append, List.length_cons]
    omega
/-- the program's batches: what they are known to be -/
def BatchesOk : Prop := ∀ l : List It, l.length ≤ 10000000 → F67 (l, ()) = some (l.foldl addB [], ())
theorem pg1_ok (hB : BatchesOk) {w : List KX} {n : Nat} (hn : n ≤ 1000) (hw : w.length ≤ n) (he : ∀ e ∈ w, IsHist e.2.1 ∧ e.2.1.length ≤ n) (since to most : Int) :
    ∃ R, Inc R ∧ (∀ r, r ∈ R ↔ ∃ x ∈ inItems since to w, K x = r) ∧ iter (pg1 w since to most) big ([], 0, ()) = some (takeB most [] 0 (R.map (keyB (inItems since to w))), ()) := by
  have hL := inItems_len (since := since) (to := to) hn (w := w) fun e h => (he e h).2
  obtain ⟨l', s1, s2, s3⟩ := sort_ok (inItems since to w) (by omega)
  obtain ⟨R, r1, r2, r3⟩ := batches_ok s1 s2
  refine ⟨R, r1, r2, ?_⟩
  have hlen : l'.length = (inItems since to w).length := s2.len
  have hRl : R.length ≤ (inItems since to w).length := by
    have hsub : ∀ (R : List Int) (l : List It), Inc R → (∀ r ∈ R, ∃ x ∈ l, K x = r) → R.length ≤ l.length := by
      intro R
      induction R with
      | nil => intro l _ _; exact Nat.zero_le _
      | cons r R ih =>
        intro l hi hm
        obtain ⟨h1, h2⟩ := List.pairwise_cons.1 hi
        obtain ⟨x, hx, hxr⟩ := hm r (by simp)
        have := ih (l.filter (fun y => decide (K y ≠ r))) h2 fun q hq => by
          obtain ⟨y, hy, hyq⟩ := hm q (by simp [hq])
          exact ⟨y, List.mem_filter.2 ⟨hy, by have := h1 q hq; simp; omega⟩, hyq⟩
        have h3 : (l.filter (fun y => decide (K y ≠ r))).length < l.length := by
          refine List.length_filter_lt_length_iff_exists.2 ⟨x, hx, ?_⟩
          simp [hxr]
        simp only [List.length_cons]
        omega
    exact hsub R _ r1 fun r hr => (r2 r).1 hr
  have rest : pgRest most (inItems since to w) = some (takeB most [] 0 (R.map (keyB (inItems since to w))), ()) := by
    unfold pgRest
    rw [s3, Option.bind_some, hB l' (by omega), Option.bind_some, r3]
    have := pgB_ok most (R.map (keyB (inItems since to w))) (by rw [List.length_map]; omega) (fun x hx => by
      obtain ⟨r, hr, rfl⟩ := List.mem_map.1 hx
      have := List.length_filter_le (fun x => decide (K x = r)) (inItems since to w)
      show (List.filter _ _).length ≤ _
      omega) (R.map (keyB (inItems since to w))).length (k := 0) (m := big) (out := []) (c := 0) (by omega) (by rw [big_eq, List.length_map]; omega) (Nat.zero_le _) (by omega) (by omega)
    rw [List.drop_zero] at this
    exact this
  have hf : ∀ (m : List KX) (L : List It), m.foldl (fun L e => L ++ inVers since to e) L = L ++ inItems since to m := by
    intro m
    induction m with
    | nil => intro L; simp [inItems]
    | cons e m ih => intro L; rw [List.foldl_cons, ih]; simp [inItems]
  refine iter_find' (step := pg1 w since to most) (mk := fun i L => (L, (i : Int), ())) (l := w) (g := fun L e => L ++ inVers since to e) (fun i L => L.length ≤ i * 1000) (by omega)
    (fun i L e hi hl => ?_) (a := []) (Nat.zero_le _) ?_
  · have hil : i < w.length := (List.getElem?_eq_some_iff.1 hi).1
    obtain ⟨h1, h2⟩ := he e (List.mem_of_getElem? hi)
    have hv := inVers_len since to e
    refine ⟨?_, by simp only [List.length_append]; omega⟩
    unfold pg1
    have hs : F63 (e.2.1, since, to, ()) = some (e.2.1.filter (inR since to), ()) := by
      have := hSince_eq e.2.1 since to (by unfold Smal; omega)
      rw [if_pos h1] at this
      exact this
    simp only [lt_len, hil, decide_true, cond_true, idxN_nat hil, hi, Option.bind_some, hs]
    have hfl := List.length_filter_le (inR since to) e.2.1
    exact pgV_ok e (e.2.1.filter (inR since to)) i L (by omega) (by omega) (by omega)
  · rw [hf, List.nil_append]
    unfold pg1
    simp only [lt_len, Nat.lt_irrefl, decide_false, cond_false, rest]
    rfl
end Go.Proofs.Ytphdilmnielgeaa
