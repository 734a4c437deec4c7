/-
  What is sorted by revisions falls into batches: one for each revision, rising; in each the items as they came.
-/
import Derived.Test.YtphdilmnielgeaaIndexSortF
namespace Go.Proofs.Ytphdilmnielgeaa
open Go.Sx Go
set_option maxRecDepth 10000
abbrev Bt : Type := Int × List It × Unit
/-- rising -/
def Inc (l : List Int) : Prop := l.Pairwise (fun a b => a < b)
theorem Inc.eq : ∀ {a b : List Int}, Inc a → Inc b → (∀ r, r ∈ a ↔ r ∈ b) → a = b
  | [], [], _, _, _ => rfl
  | [], y :: b, _, _, h => absurd ((h y).2 (by simp)) (by simp)
  | x :: a, [], _, _, h => absurd ((h x).1 (by simp)) (by simp)
  | x :: a, y :: b, ha, hb, h => by
    obtain ⟨a1, a2⟩ := List.pairwise_cons.1 ha
    obtain ⟨b1, b2⟩ := List.pairwise_cons.1 hb
    have hxy : x = y := by
      rcases List.mem_cons.1 ((h x).1 (by simp)) with e | hx
      · exact e
      · rcases List.mem_cons.1 ((h y).2 (by simp)) with e | hy
        · exact e.symm
        · have := b1 x hx
          have := a1 y hy
          omega
    subst hxy
    rw [Inc.eq a2 b2 fun r => ?_]
    constructor
    · intro hr
      rcases List.mem_cons.1 ((h r).1 (by simp [hr])) with e | h1
      · subst e; exact absurd (a1 r hr) (by omega)
      · exact h1
    · intro hr
      rcases List.mem_cons.1 ((h r).2 (by simp [hr])) with e | h1
      · subst e; exact absurd (b1 r hr) (by omega)
      · exact h1
/-- one revision more among rising ones -/
theorem Inc.ins {l : List Int} (h : Inc l) (r : Int) : Inc (l.filter (fun x => decide (x < r)) ++ r :: l.filter (fun x => decide (r < x))) ∧ ∀ x, x ∈ l.filter (fun x => decide (x < r)) ++ r :: l.filter (fun x => decide (r < x)) ↔ x = r ∨ x ∈ l := by
  refine ⟨List.pairwise_append.2 ⟨h.filter _, List.pairwise_cons.2 ⟨fun x hx => by simpa using (List.mem_filter.1 hx).2, h.filter _⟩, fun x hx y hy => ?_⟩, fun x => ?_⟩
  · have h1 : x < r := by simpa using (List.mem_filter.1 hx).2
    rcases List.mem_cons.1 hy with rfl | hy
    · exact h1
    · have h2 : r < y := by simpa using (List.mem_filter.1 hy).2
      omega
  · simp only [List.mem_append, List.mem_cons, List.mem_filter, decide_eq_true_eq]
    constructor
    · rintro (⟨h1, _⟩ | h1 | ⟨h1, _⟩)
      · exact .inr h1
      · exact .inl h1
      · exact .inr h1
    · rintro (h1 | h1)
      · exact .inr (.inl h1)
      · rcases Int.lt_trichotomy x r with h2 | h2 | h2
        · exact .inl ⟨h1, h2⟩
        · exact .inr (.inl h2)
        · exact .inr (.inr ⟨h1, h2⟩)
/-- an item into the last batch, or into a new one -/
def addB (out : List Bt) (x : It) : List Bt :=
  match out.getLast? with
  | none => [(K x, [x], ())]
  | some b => if b.1 = K x then out.dropLast ++ [(b.1, b.2.1 ++ [x], ())] else out ++ [(K x, [x], ())]
def keyB (p : List It) (r : Int) : Bt := (r, p.filter (fun x => decide (K x = r)), ())
theorem keyB_other {p : List It} {x : It} {r : Int} (h : K x ≠ r) : keyB (p ++ [x]) r = keyB p r := by
  simp [keyB, h]
theorem group_ok : ∀ (n : Nat) {p : List It}, p.length = n → Srt p → ∃ R, Inc R ∧ (∀ r, r ∈ R ↔ ∃ x ∈ p, K x = r) ∧ p.foldl addB [] = R.map (keyB p)
  | 0, p, hn, _ => by
    have : p = [] := List.eq_nil_of_length_eq_zero hn
    subst this
    exact ⟨[], List.Pairwise.nil, by simp, rfl⟩
  | n + 1, p, hn, hs => by
    obtain ⟨q, x, rfl⟩ : ∃ q x, p = q ++ [x] := by
      have hne : p ≠ [] := fun e => by subst e; simp at hn
      exact ⟨p.dropLast, p.getLast hne, (List.dropLast_concat_getLast hne).symm⟩
    obtain ⟨s1, s2, s3⟩ := Srt.app.1 hs
    obtain ⟨R, h1, h2, h3⟩ := group_ok n (p := q) (by simpa using hn) s1
    rw [List.foldl_append, List.foldl_cons, List.foldl_nil, h3]
    have hmax : ∀ r ∈ R, r ≤ K x := fun r hr => by
      obtain ⟨y, hy, rfl⟩ := (h2 r).1 hr
      exact s3 y hy x (by simp)
    have hnew : K x ∉ R → addB (R.map (keyB q)) x = R.map (keyB q) ++ [(K x, [x], ())] := fun hx => by
      unfold addB
      cases hl : (R.map (keyB q)).getLast? with
      | none => rw [List.getLast?_eq_none_iff.1 hl]; rfl
      | some b =>
        obtain ⟨r, hr, rfl⟩ := List.mem_map.1 (List.mem_of_getLast? hl)
        have : ¬ (keyB q r).1 = K x := fun e => hx (e ▸ hr)
        simp only [this, if_false]
    have hother : ∀ r ∈ R, r ≠ K x → keyB (q ++ [x]) r = keyB q r := fun r _ hr => keyB_other fun e => hr e.symm
    by_cases hx : K x ∈ R
    · obtain ⟨R0, rfl⟩ : ∃ R0, R = R0 ++ [K x] := by
        have hne : R ≠ [] := fun e => by subst e; simp at hx
        have hl := (List.dropLast_concat_getLast hne)
        refine ⟨R.dropLast, ?_⟩
        have h4 : K x = R.getLast hne := by
          have h5 := hmax _ (List.getLast_mem hne)
          rw [← hl] at hx h1
          rcases List.mem_append.1 hx with h6 | h6
          · have := (List.pairwise_append.1 h1).2.2 _ h6 _ (by simp : R.getLast hne ∈ [R.getLast hne])
            omega
          · simpa using h6
        rw [h4]; exact hl.symm
      have hlt : ∀ r ∈ R0, r ≠ K x := fun r hr => by
        have := (List.pairwise_append.1 h1).2.2 r hr (K x) (by simp)
        omega
      refine ⟨R0 ++ [K x], h1, fun r => ?_, ?_⟩
      · rw [h2 r]
        constructor
        · rintro ⟨y, hy, h⟩; exact ⟨y, by simp [hy], h⟩
        · rintro ⟨y, hy, h⟩
          rcases List.mem_append.1 hy with hy | hy
          · exact ⟨y, hy, h⟩
          · rw [List.mem_singleton.1 hy] at h
            subst h
            exact (h2 _).1 hx
      · unfold addB
        have e1 : ((R0 ++ [K x]).map (keyB q)).getLast? = some (keyB q (K x)) := by simp
        have e2 : (keyB q (K x)).1 = K x := rfl
        simp only [e1, e2, if_true]
        rw [List.map_append, List.map_append, List.map_cons, List.map_nil, List.map_cons, List.map_nil, List.dropLast_concat]
        congr 1
        · exact List.map_congr_left fun r hr => (hother r (by simp [hr]) (hlt r hr)).symm
        · simp [keyB]
    · refine ⟨R ++ [K x], List.pairwise_append.2 ⟨h1, List.pairwise_singleton _ _, fun r hr y hy => ?_⟩, fun r => ?_, ?_⟩
      · rw [List.mem_singleton.1 hy]
        have := hmax r hr
        have : r ≠ K x := fun e => hx (e ▸ hr)
        omega
      · simp only [List.mem_append, List.mem_singleton, h2 r]
        constructor
        · rintro (⟨y, hy, h⟩ | rfl)
          · exact ⟨y, .inl hy, h⟩
          · exact ⟨x, .inr rfl, rfl⟩
        · rintro ⟨y, hy | rfl, h⟩
          · exact .inl ⟨y, hy, h⟩
          · exact .inr h.symm
      · rw [hnew hx, List.map_append, List.map_cons, List.map_nil]
        congr 1
        · exact List.map_congr_left fun r hr => (hother r hr fun e => hx (e ▸ hr)).symm
        · have : q.filter (fun y => decide (K y = K x)) = [] := List.filter_eq_nil_iff.2 fun y hy => by simpa using fun e => hx ((h2 _).2 ⟨y, hy, e⟩)
          simp [keyB, this]
/-- the batches of what was sorted -/
theorem batches_ok {l l' : List It} (hs : Srt l') (hst : Stab l l') : ∃ R, Inc R ∧ (∀ r, r ∈ R ↔ ∃ x ∈ l, K x = r) ∧ l'.foldl addB [] = R.map (keyB l) := by
  obtain ⟨R, h1, h2, h3⟩ := group_ok l'.length rfl hs
  refine ⟨R, h1, fun r => ?_, ?_⟩
  · rw [h2 r]
    constructor <;> (rintro ⟨x, hx, h⟩; exact ⟨x, by first | exact hst.mem.1 hx | exact hst.mem.2 hx, h⟩)
  · rw [h3]
    exact List.map_congr_left fun r _ => by simp only [keyB, hst.2 r]
end Go.Proofs.Ytphdilmnielgeaa
