/-
  The program tells what the document tells.
-/
import Derived.Test.YtphdilmnielgeaaIndexBatch
namespace Go.Proofs.Ytphdilmnielgeaa
open Go.Sx Go Classical
set_option maxRecDepth 10000
theorem doc_items {p : List UInt8 → Bool} {since to r : Int} (h1 : since ≤ r) (h2 : r ≤ to) : ∀ l : List KX, docItems p l r = (inItems since to (l.filter (fun e => p e.1))).filter (fun x => decide (K x = r))
  | [] => by simp [docItems, inItems]
  | e :: l => by
    have ih := doc_items (p := p) h1 h2 l
    have e1 : docItems p (e :: l) r = verItems p r e ++ docItems p l r := by simp [docItems]
    have hv : ∀ h : List T37D, ((h.filter (inR since to)).map (fun v => ((e.1, v, ()) : It))).filter (fun x => decide (K x = r)) = (h.filter (fun v => decide (v.1 = r))).map (fun v => (e.1, v, ())) := by
      intro h
      induction h with
      | nil => simp
      | cons v h ih =>
        by_cases hr : v.1 = r
        · have a1 : inR since to v = true := by unfold inR; exact decide_eq_true (by omega)
          have a2 : decide (K ((e.1, v, ()) : It) = r) = true := decide_eq_true hr
          rw [List.filter_cons (p := inR since to), if_pos a1, List.map_cons, List.filter_cons (p := fun (x : It) => decide (K x = r)), if_pos a2, ih, List.filter_cons (p := fun (v : T37D) => decide (v.1 = r)), if_pos (decide_eq_true hr), List.map_cons]
        · have a2 : ¬ decide (K ((e.1, v, ()) : It) = r) = true := fun h => hr (of_decide_eq_true h)
          rw [List.filter_cons (p := fun (v : T37D) => decide (v.1 = r)), if_neg (fun h => hr (of_decide_eq_true h))]
          cases hin : inR since to v with
          | true => rw [List.filter_cons (p := inR since to), if_pos hin, List.map_cons, List.filter_cons (p := fun (x : It) => decide (K x = r)), if_neg a2, ih]
          | false => rw [List.filter_cons (p := inR since to), if_neg (by rw [hin]; exact Bool.false_ne_true), ih]
    rw [e1, ih]
    cases hp : p e.1 with
    | true =>
      have e2 : (e :: l).filter (fun e => p e.1) = e :: l.filter (fun e => p e.1) := List.filter_cons_of_pos hp
      have e3 : inItems since to (e :: l.filter (fun e => p e.1)) = inVers since to e ++ inItems since to (l.filter (fun e => p e.1)) := by simp [inItems]
      rw [e2, e3, List.filter_append]
      congr 1
      unfold verItems inVers
      rw [hp, hv]
      rfl
    | false =>
      have e2 : (e :: l).filter (fun e => p e.1) = l.filter (fun e => p e.1) := List.filter_cons_of_neg (by simp [hp])
      rw [e2]
      unfold verItems
      rw [hp]
      rfl
theorem mem_items {since to : Int} {w : List KX} {x : It} : x ∈ inItems since to w ↔ ∃ e ∈ w, ∃ v ∈ e.2.1, inR since to v = true ∧ x = (e.1, v, ()) := by
  unfold inItems inVers
  rw [List.mem_flatMap]
  constructor
  · rintro ⟨e, he, hx⟩
    obtain ⟨v, hv, rfl⟩ := List.mem_map.1 hx
    obtain ⟨h1, h2⟩ := List.mem_filter.1 hv
    exact ⟨e, he, v, h1, h2, rfl⟩
  · rintro ⟨e, he, v, h1, h2, rfl⟩
    exact ⟨e, he, List.mem_map.2 ⟨v, List.mem_filter.2 ⟨h1, h2⟩, rfl⟩⟩
noncomputable def inP (a b k : List UInt8) : Bool := decide (IsRange a b) && inB a b k
noncomputable def rngL (a b : List UInt8) (l : List KX) : List KX := l.filter (fun e => inP a b e.1)
/-- the batches of a range between two revisions -/
theorem tells {l : List KX} {n : Nat} (hI : IdxL l n) (a b : List UInt8) (since to : Int) {R : List Int} (r1 : Inc R) (r2 : ∀ r, r ∈ R ↔ ∃ x ∈ inItems since to (rngL a b l), K x = r) :
    ((insL l []).filter (wantB (inP a b) l since to)).map (docB (inP a b) l) = R.map (keyB (inItems since to (rngL a b l))) := by
  obtain ⟨i1, i2⟩ := insL_ok l (out := []) List.Pairwise.nil
  have hm : ∀ r, r ∈ (insL l []).filter (wantB (inP a b) l since to) ↔ r ∈ R := fun r => by
    rw [r2 r, List.mem_filter, i2 r]
    constructor
    · rintro ⟨_, hw⟩
      unfold wantB at hw
      simp only [Bool.and_eq_true, decide_eq_true_eq] at hw
      obtain ⟨q1, q2, q3⟩ := hw
      rw [doc_items q1 q2] at q3
      obtain ⟨x, hx⟩ := List.exists_mem_of_length_pos q3
      obtain ⟨h1, h2⟩ := List.mem_filter.1 hx
      exact ⟨x, h1, of_decide_eq_true h2⟩
    · rintro ⟨x, hx, hr⟩
      obtain ⟨e, he, v, hv, hin, rfl⟩ := mem_items.1 hx
      have hr' : v.1 = r := hr
      unfold inR at hin
      obtain ⟨q1, q2⟩ := of_decide_eq_true hin
      refine ⟨.inr ⟨e, (List.mem_filter.1 he).1, v, hv, hr'⟩, ?_⟩
      have q3 : 0 < (docItems (inP a b) l r).length := by
        rw [doc_items (since := since) (to := to) (by omega) (by omega)]
        exact List.length_pos_of_mem (List.mem_filter.2 ⟨hx, decide_eq_true hr⟩)
      unfold wantB
      rw [decide_eq_true (show since ≤ r by omega), decide_eq_true (show r ≤ to by omega), decide_eq_true q3]
      rfl
  rw [Inc.eq (i1.filter _) r1 hm]
  refine List.map_congr_left fun r hr => ?_
  have hw := (List.mem_filter.1 ((hm r).2 hr)).2
  unfold wantB at hw
  simp only [Bool.and_eq_true, decide_eq_true_eq] at hw
  unfold docB keyB
  rw [doc_items (since := since) (to := to) hw.1 hw.2.1]
  rfl
end Go.Proofs.Ytphdilmnielgeaa
