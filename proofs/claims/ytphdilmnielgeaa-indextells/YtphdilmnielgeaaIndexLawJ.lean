/-
  Index: the law of what is told of changes (once the batches are known).
-/
import Derived.Test.YtphdilmnielgeaaIndexTell
namespace Go.Proofs.Ytphdilmnielgeaa
open Go.Sx Go Classical
set_option maxRecDepth 10000
theorem batches_self (B : List Bt) (h : B.length ≤ 1000000) (hb : ∀ x ∈ B, x.2.1.length ≤ 1000000) : F37 (B, B, ()) = some (true, ()) := by
  unfold F37
  have e : (!decide (Int.ofNat B.length = Int.ofNat B.length)) = false := by simp
  simp only [e, cond_false]
  refine loop_true (fun t => ∃ i : Nat, i ≤ B.length ∧ t = ((i : Int), ())) (fun t => B.length - t.1.toNat) (fun t ht => ?_) ⟨0, Nat.zero_le _, rfl⟩ (by show B.length - 0 < _; omega)
  obtain ⟨i, hi, rfl⟩ := ht
  by_cases hlt : i < B.length
  · right
    obtain ⟨x, hx⟩ : ∃ x, B[i]? = some x := ⟨_, List.getElem?_eq_getElem hlt⟩
    have hs := items_self x.2.1 (hb x (List.mem_of_getElem? hx))
    have hs' : F33 (x.2.1, x.2) = some (true, ()) := hs
    refine ⟨(((i + 1 : Nat) : Int), ()), ?_, ⟨i + 1, hlt, rfl⟩, by show B.length - (((i + 1 : Nat) : Int)).toNat < B.length - (i : Int).toNat; omega⟩
    simp only [lt_len, hlt, decide_true, cond_true, idx_nat, hx, Option.bind_some, Bool.not_true, cond_false, hs', wrap64_nat (show i < 9223372036854775807 by omega)]
  · left
    have : i = B.length := by omega
    subst this
    simp only [lt_len, Nat.lt_irrefl, decide_false, cond_false]
def totB (B : List Bt) : Nat := (B.map fun b => b.2.1.length).sum
theorem takeB_all {most : Int} : ∀ {B out : List Bt} {c : Int}, c + (totB B : Int) ≤ most → takeB most out c B = out ++ B
  | [], out, c, _ => by simp [takeB]
  | b :: B, out, c, h => by
    have e : totB (b :: B) = b.2.1.length + totB B := by simp [totB]
    rw [e] at h
    have : ¬ (most < c + (b.2.1.length : Int) ∧ 0 < out.length) := fun h' => by omega
    rw [takeB, if_neg this, takeB_all (by omega)]
    simp
theorem takeB_pre {most : Int} : ∀ {B out : List Bt} {c : Int}, ∃ j, takeB most out c B = out ++ B.take j ∧ (out = [] → B ≠ [] → 0 < j)
  | [], out, c => ⟨0, by simp [takeB], fun _ h => absurd rfl h⟩
  | b :: B, out, c => by
    by_cases h : most < c + (b.2.1.length : Int) ∧ 0 < out.length
    · exact ⟨0, by simp [takeB, h], fun h' => by subst h'; simp at h⟩
    · obtain ⟨j, h1, _⟩ := takeB_pre (most := most) (B := B) (out := out ++ [b]) (c := c + (b.2.1.length : Int))
      exact ⟨j + 1, by rw [takeB, if_neg h, h1]; simp, fun _ _ => Nat.succ_pos j⟩
theorem tot_le : ∀ {R : List Int} {l : List It}, Inc R → totB (R.map (keyB l)) ≤ l.length
  | [], l, _ => by simp [totB]
  | r :: R, l, h => by
    obtain ⟨h1, h2⟩ := List.pairwise_cons.1 h
    have ih := tot_le (R := R) (l := l.filter (fun x => decide (K x ≠ r))) h2
    have e : R.map (keyB l) = R.map (keyB (l.filter (fun x => decide (K x ≠ r)))) := List.map_congr_left fun q hq => by
      unfold keyB
      rw [List.filter_filter]
      have : q ≠ r := fun e => by have := h1 q hq; omega
      congr 2
      apply List.filter_congr
      intro x _
      by_cases hx : K x = q
      · have : K x ≠ r := by omega
        simp [hx]; omega
      · simp [hx]
    have e2 : totB ((r :: R).map (keyB l)) = (l.filter (fun x => decide (K x = r))).length + totB (R.map (keyB l)) := by simp [totB, keyB]
    have e3 : (l.filter (fun x => decide (K x = r))).length + (l.filter (fun x => decide (K x ≠ r))).length = l.length := by
      clear ih e e2
      induction l with
      | nil => simp
      | cons x l ih => by_cases hx : K x = r <;> simp [hx] at ih ⊢ <;> omega
    rw [e2, e]
    omega
theorem appO_list {α : Type} {l x : List α} (h : l.length + x.length ≤ 100000000) : appO l x = some (l ++ x) := by
  unfold appO
  have : Nat.ble (l.length + x.length) capB = true := Nat.ble_eq_true_of_le (by simp [capB]; omega)
  rw [this]; rfl
/-- what comes next -/
theorem rest_key {l : List KX} {a b : List UInt8} {since to last : Int} (h : since ≤ last) {r : Int} (h1 : last < r) (h2 : r ≤ to) : keyB (inItems (last + 1) to (rngL a b l)) r = keyB (inItems since to (rngL a b l)) r := by
  unfold keyB
  have e1 := doc_items (p := inP a b) (since := last + 1) (to := to) (r := r) (by omega) h2 l
  have e2 := doc_items (p := inP a b) (since := since) (to := to) (r := r) (by omega) h2 l
  unfold rngL
  rw [← e1, ← e2]
theorem mem_rev {since to : Int} {w : List KX} {r : Int} : (∃ x ∈ inItems since to w, K x = r) ↔ since ≤ r ∧ r ≤ to ∧ ∃ e ∈ w, ∃ v ∈ e.2.1, v.1 = r := by
  constructor
  · rintro ⟨x, hx, hr⟩
    obtain ⟨e, he, v, hv, hin, rfl⟩ := mem_items.1 hx
    have hr' : v.1 = r := hr
    unfold inR at hin
    obtain ⟨q1, q2⟩ := of_decide_eq_true hin
    exact ⟨by omega, by omega, e, he, v, hv, hr'⟩
  · rintro ⟨h1, h2, e, he, v, hv, hr⟩
    exact ⟨(e.1, v, ()), mem_items.2 ⟨e, he, v, hv, by unfold inR; exact decide_eq_true (by omega), rfl⟩, hr⟩
theorem lawTells (hB : BatchesOk) (x : (argTy P9).den) (hx : Fit47 (argTy P9) x) : F9 x = some (true, ()) := by
  obtain ⟨l, ⟨fr, en, pre, rev, since, to, most, lease, ⟨⟩⟩, ⟨⟩⟩ : List ActX × (List UInt8 × List UInt8 × List UInt8 × Int × Int × Int × Int × Int × Unit) × Unit := x
  obtain ⟨⟨hl, -⟩, ⟨h1, h2, h3, -⟩, -⟩ := hx
  have hl' : l.length ≤ 140737488351232 := hl
  have h1' : fr.length ≤ 140737488351232 := h1
  have h2' : en.length ≤ 140737488351232 := h2
  obtain ⟨fb, hf, hfl⟩ := few_ex l 60 (by omega) (by omega)
  have hf : F20 (l, 60, ()) = some (fb, ()) := hf
  unfold F9
  simp only [awake_eq, Option.bind_some, Bool.not_true, cond_false, hf]
  cases fb with
  | false => rfl
  | true =>
    obtain ⟨h60, hs⟩ := hfl rfl
    obtain ⟨m, hI, e⟩ := made_ex l (by omega) hs
    obtain ⟨R, r1, r2, r3⟩ := changes_both hB m l.length hI (by omega) h1' h2' since to
    have hll := hI.2.2.1
    have hit : (inItems since to (rngL fr en (toL m))).length ≤ 60000 := by
      have h5 := inItems_len (since := since) (to := to) (n := l.length) (by omega) (w := rngL fr en (toL m)) fun e he => (hI.2.2.2 e (List.mem_filter.1 he).1).2.2.2
      have h6 : (rngL fr en (toL m)).length ≤ (toL m).length := List.length_filter_le _ _
      omega
    generalize hit2 : inItems since to (rngL fr en (toL m)) = items at *
    have htot : totB (R.map (keyB items)) ≤ 60000 := Nat.le_trans (tot_le r1) hit
    have hall : takeB 100000 [] 0 (R.map (keyB items)) = R.map (keyB items) := by rw [takeB_all (by omega)]; rfl
    have hRl : R.length ≤ 60000 := by
      have : ∀ (R : List Int), (∀ r ∈ R, ∃ x ∈ items, K x = r) → R.length ≤ totB (R.map (keyB items)) := by
        intro R
        induction R with
        | nil => intro _; exact Nat.zero_le _
        | cons r R ih =>
          intro h
          have := ih fun q hq => h q (by simp [hq])
          obtain ⟨x, hx, hr⟩ := h r (by simp)
          have hp : 0 < (items.filter (fun x => decide (K x = r))).length := List.length_pos_of_mem (List.mem_filter.2 ⟨hx, decide_eq_true hr⟩)
          have e2 : totB ((r :: R).map (keyB items)) = (items.filter (fun x => decide (K x = r))).length + totB (R.map (keyB items)) := by simp [totB, keyB]
          rw [e2, List.length_cons]
          omega
      exact Nat.le_trans (this R fun r hr => (r2 r).1 hr) htot
    have hlen : ∀ r, (keyB items r).2.1.length ≤ 60000 := fun r => Nat.le_trans (List.length_filter_le _ _) hit
    obtain ⟨j, j1, j2⟩ := takeB_pre (most := most) (B := R.map (keyB items)) (out := []) (c := 0)
    rw [List.nil_append, ← List.map_take] at j1
    have sb : ∀ R' : List Int, R'.length ≤ 60000 → F37 (R'.map (keyB items), R'.map (keyB items), ()) = some (true, ()) := fun R' hR' => batches_self _ (by rw [List.length_map]; omega) fun x hx => by
      obtain ⟨r, _, rfl⟩ := List.mem_map.1 hx
      have := hlen r
      omega
    have hsub := sb (R.take j) (by rw [List.length_take]; omega)
    have hsall := sb R hRl
    have q1 := (r3 most).1
    have q2 := (r3 most).2
    have q3 := (r3 100000).2
    rw [j1] at q1 q2
    rw [hall] at q3
    refine Eq.trans (congrArg (fun z => cond _ (some (true, ())) z) ?_) (cond_same _ _)
    simp only [e, Option.bind_some, Bool.not_true, cond_false, q1, q2, q3, hsub]
    by_cases hz : (R.take j).length = 0
    · have hR0 : R = [] := by
        by_cases hR : R = []
        · exact hR
        · have := j2 rfl (by simpa using hR)
          rw [List.length_take] at hz
          have := List.length_pos_iff.2 hR
          omega
      subst hR0
      simp
    · have hz' : decide (Int.ofNat ((R.take j).map (keyB items)).length = 0) = false := decide_eq_false (by rw [ofNat_len, List.length_map]; omega)
      simp only [hz', cond_false]
      have hsp : R.take j ++ R.drop j = R := List.take_append_drop _ _
      generalize R.take j = A at *
      generalize R.drop j = Z at *
      obtain ⟨A', last, rfl⟩ : ∃ A' last, A = A' ++ [last] := by
        have hne : A ≠ [] := fun e => by subst e; simp at hz
        exact ⟨A.dropLast, A.getLast hne, (List.dropLast_concat_getLast hne).symm⟩
      have hlast : since ≤ last ∧ last ≤ to ∧ ∃ e ∈ rngL fr en (toL m), ∃ v ∈ e.2.1, v.1 = last := by
        rw [← mem_rev, hit2]
        exact (r2 last).1 (by rw [← hsp]; simp)
      obtain ⟨l1, l2, e0, he0, v0, hv0, hv1⟩ := hlast
      have hver := (hI.2.2.2 e0 (List.mem_filter.1 he0).1).2.1.1 v0 hv0
      have hb1 : 1 ≤ last ∧ last ≤ 1099511627776 := by rw [← hv1]; exact ⟨hver.1, hver.2.1⟩
      have ei : ((A' ++ [last]).map (keyB items)) = A'.map (keyB items) ++ [keyB items last] := by simp
      have hAl : A'.length + 1 + Z.length ≤ 60000 := by rw [← hsp] at hRl; simp at hRl; omega
      have wi1 : wrap64 (Int.ofNat (A'.map (keyB items) ++ [keyB items last]).length - 1) = ((A'.map (keyB items)).length : Int) := wi (by rw [ofNat_len]; simp) (by rw [List.length_map]; omega)
      have w2 : wrap64 ((keyB items last).1 + 1) = last + 1 := wrap64_eq (by show _ ≤ last + 1; omega) (by show last + 1 ≤ _; omega)
      obtain ⟨R', s1, s2, s3⟩ := changes_both hB m l.length hI (by omega) h1' h2' (last + 1) to
      have hZ : R' = Z := by
        rw [← hsp] at r1
        have hZi : Inc Z := (List.pairwise_append.1 r1).2.1
        refine Inc.eq s1 hZi fun r => ?_
        rw [s2 r, mem_rev]
        have hgt : ∀ q ∈ Z, last < q := fun q hq => (List.pairwise_append.1 r1).2.2 last (by simp) q hq
        have hle : ∀ q ∈ A' ++ [last], q ≤ last := fun q hq => by
          rcases List.mem_append.1 hq with hq | hq
          · have := (List.pairwise_append.1 (List.pairwise_append.1 r1).1).2.2 q hq last (by simp)
            omega
          · rw [List.mem_singleton.1 hq]; exact Int.le_refl _
        constructor
        · rintro ⟨t1, t2, t3⟩
          have : r ∈ R := (r2 r).2 (by rw [← hit2, mem_rev]; exact ⟨by omega, t2, t3⟩)
          rw [← hsp] at this
          rcases List.mem_append.1 this with h | h
          · have := hle r h; omega
          · exact h
        · intro hr
          have h7 : r ∈ R := by rw [← hsp]; exact List.mem_append_right _ hr
          have h8 := (r2 r).1 h7
          rw [← hit2, mem_rev] at h8
          exact ⟨by have := hgt r hr; omega, h8.2.1, h8.2.2⟩
      subst hZ
      have hkey : R'.map (keyB (inItems (last + 1) to (rngL fr en (toL m)))) = R'.map (keyB items) := List.map_congr_left fun r hr => by
        have h8 := (s2 r).1 hr
        rw [mem_rev] at h8
        rw [← hit2]
        exact rest_key l1 (by omega) h8.2.1
      have q4 := (s3 100000).1
      have htot2 : totB (R'.map (keyB items)) ≤ 60000 := Nat.le_trans (tot_le s1) hit
      rw [hkey, takeB_all (by omega), List.nil_append] at q4
      have happ : appO (A'.map (keyB items) ++ [keyB items last]) (R'.map (keyB items)) = some (R.map (keyB items)) := by
        rw [appO_list (by simp; omega), ← hsp]
        simp
      rw [ei, rd_mid wi1 rfl]
      simp only [w2, q4, Option.bind_some, happ, hsall]
      exact cond_same _ _
end Go.Proofs.Ytphdilmnielgeaa
