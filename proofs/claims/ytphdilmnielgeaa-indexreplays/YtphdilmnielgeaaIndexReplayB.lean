/-
  What all changes of a range make of what it was.
-/
import Derived.Test.YtphdilmnielgeaaIndexReplay
namespace Go.Proofs.Ytphdilmnielgeaa
open Go.Sx Go Classical
set_option maxRecDepth 10000
def StrK (l : List It) : Prop := l.Pairwise (fun a b => K a < K b)
theorem strK_min {r : Int} : ∀ {L : List It}, StrK L → (∀ x ∈ L, r ≤ K x) → L.filter (fun x => decide (K x = r)) ++ L.filter (fun x => decide (K x ≠ r)) = L
  | [], _, _ => rfl
  | x :: L, hs, hm => by
    obtain ⟨h1, h2⟩ := List.pairwise_cons.1 hs
    by_cases hx : K x = r
    · have ih := strK_min h2 (r := r) fun y hy => hm y (by simp [hy])
      rw [List.filter_cons, if_pos (decide_eq_true hx), List.filter_cons, if_neg (by simp [hx]), List.cons_append, ih]
    · have hlt : r < K x := by have := hm x (by simp); omega
      have e1 : (x :: L).filter (fun x => decide (K x = r)) = [] := List.filter_eq_nil_iff.2 fun y hy => by
        rcases List.mem_cons.1 hy with rfl | hy
        · simp; omega
        · have := h1 y hy; simp; omega
      have e2 : (x :: L).filter (fun x => decide (K x ≠ r)) = x :: L := List.filter_eq_self.2 fun y hy => by
        rcases List.mem_cons.1 hy with rfl | hy
        · simp; omega
        · have := h1 y hy; simp; omega
      rw [e1, e2]; rfl
theorem cover : ∀ {R : List Int} {L : List It}, Inc R → StrK L → (∀ x ∈ L, K x ∈ R) → R.flatMap (fun r => L.filter (fun x => decide (K x = r))) = L
  | [], L, _, _, h => by
    cases L with
    | nil => rfl
    | cons x L => exact absurd (h x (by simp)) (by simp)
  | r :: R, L, hi, hs, h => by
    obtain ⟨h1, h2⟩ := List.pairwise_cons.1 hi
    have ih := cover (R := R) (L := L.filter (fun x => decide (K x ≠ r))) h2 (hs.filter _) fun x hx => by
      obtain ⟨a1, a2⟩ := List.mem_filter.1 hx
      rcases List.mem_cons.1 (h x a1) with e | e
      · simp [e] at a2
      · exact e
    have e : R.flatMap (fun q => L.filter (fun x => decide (K x = q))) = R.flatMap (fun q => (L.filter (fun x => decide (K x ≠ r))).filter (fun x => decide (K x = q))) := by
      have : ∀ (R' : List Int), (∀ q ∈ R', r < q) → R'.flatMap (fun q => L.filter (fun x => decide (K x = q))) = R'.flatMap (fun q => (L.filter (fun x => decide (K x ≠ r))).filter (fun x => decide (K x = q))) := by
        intro R'
        induction R' with
        | nil => intro _; rfl
        | cons q R' ih =>
          intro hq
          rw [List.flatMap_cons, List.flatMap_cons, ih fun q hq' => hq q (by simp [hq'])]
          congr 1
          rw [List.filter_filter]
          apply List.filter_congr
          intro x _
          have := hq q (by simp)
          by_cases hx : K x = q
          · have h3 : K x ≠ r := by omega
            simp [hx]; omega
          · simp [hx]
      exact this R h1
    rw [List.flatMap_cons, e, ih]
    exact strK_min hs fun x hx => by
      rcases List.mem_cons.1 (h x hx) with e | e
      · omega
      · have := h1 _ e; omega
theorem items_key {w : List KX} (hs : Sorted strlt w) {e : KX} (he : e ∈ w) (since to : Int) : (inItems since to w).filter (fun y => decide (y.1 = e.1)) = inVers since to e := by
  obtain ⟨A, B, rfl⟩ := List.append_of_mem he
  obtain ⟨sA, sB, sAB⟩ := List.pairwise_append.1 hs
  obtain ⟨se, sB⟩ := List.pairwise_cons.1 sB
  have key : ∀ (u : KX) (x : It), x ∈ inVers since to u → x.1 = u.1 := fun u x hx => by
    unfold inVers at hx
    obtain ⟨v, _, rfl⟩ := List.mem_map.1 hx
    rfl
  have nA : (inItems since to A).filter (fun y => decide (y.1 = e.1)) = [] := List.filter_eq_nil_iff.2 fun x hx => by
    obtain ⟨u, hu, h⟩ := List.mem_flatMap.1 hx
    have h1 := sAB u hu e (by simp)
    have h2 := key u x h
    simp only [decide_eq_true_eq]
    intro h3
    rw [← h3, h2, strlt_irrefl] at h1
    exact Bool.noConfusion h1
  have nB : (inItems since to B).filter (fun y => decide (y.1 = e.1)) = [] := List.filter_eq_nil_iff.2 fun x hx => by
    obtain ⟨u, hu, h⟩ := List.mem_flatMap.1 hx
    have h1 := se u hu
    have h2 := key u x h
    simp only [decide_eq_true_eq]
    intro h3
    rw [← h3, h2, strlt_irrefl] at h1
    exact Bool.noConfusion h1
  have sp : inItems since to (A ++ e :: B) = inItems since to A ++ (inVers since to e ++ inItems since to B) := by
    unfold inItems
    rw [List.flatMap_append, List.flatMap_cons]
  rw [sp, List.filter_append, List.filter_append, nA, nB, List.nil_append, List.append_nil]
  exact List.filter_eq_self.2 fun x hx => decide_eq_true (key e x hx)
def flatB (B : List Bt) : List It := B.flatMap fun b => b.2.1
theorem changes_key {w : List KX} (hs : Sorted strlt w) {e : KX} (he : e ∈ w) (hh : IsHist e.2.1) {since to : Int} {R : List Int} (r1 : Inc R) (r2 : ∀ r, r ∈ R ↔ ∃ x ∈ inItems since to w, K x = r) :
    (flatB (R.map (keyB (inItems since to w)))).filter (fun y => decide (y.1 = e.1)) = inVers since to e := by
  have e1 : ∀ R : List Int, (flatB (R.map (keyB (inItems since to w)))).filter (fun y => decide (y.1 = e.1)) = R.flatMap (fun r => (inVers since to e).filter (fun x => decide (K x = r))) := by
    intro R
    induction R with
    | nil => rfl
    | cons r R ih =>
      unfold flatB at ih ⊢
      rw [List.map_cons, List.flatMap_cons, List.filter_append, ih, List.flatMap_cons]
      congr 1
      show ((inItems since to w).filter (fun x => decide (K x = r))).filter (fun y => decide (y.1 = e.1)) = _
      rw [← items_key hs he, List.filter_filter, List.filter_filter]
      apply List.filter_congr
      intro x _
      rw [Bool.and_comm]
  rw [e1]
  refine cover r1 ?_ fun x hx => ?_
  · unfold inVers StrK
    rw [List.pairwise_map]
    exact (hh.2.filter _).imp fun h => h.1
  · refine (r2 _).2 ⟨x, ?_, rfl⟩
    exact List.mem_flatMap.2 ⟨e, he, hx⟩
theorem itemsOf_shown {w : List KX} {c c' : KX → Option VerD} (h : ∀ e ∈ w, shown (c e) e.1 = shown (c' e) e.1) : itemsOf w c = itemsOf w c' := by
  unfold itemsOf
  induction w with
  | nil => rfl
  | cons e w ih => rw [List.flatMap_cons, List.flatMap_cons, h e (by simp), ih fun e he => h e (by simp [he])]
/-- replayed, a range is what it is -/
theorem replays {w : List KX} (hs : Sorted strlt w) (hh : ∀ e ∈ w, IsHist e.2.1) {since : Int} {R : List Int} (r1 : Inc R) (r2 : ∀ r, r ∈ R ↔ ∃ x ∈ inItems since 1099511627776 w, K x = r) :
    (flatB (R.map (keyB (inItems since 1099511627776 w)))).foldl replay (itemsOf w (cAt (since - 1))) = itemsOf w (cAt 1099511627776) := by
  rw [replay_all hs _ _ fun y hy => ?_]
  · refine itemsOf_shown fun e he => ?_
    rw [← last_shown (hh e he) (since := since)]
    unfold lastC
    rw [changes_key hs he (hh e he) r1 r2]
    unfold inVers
    rw [List.getLast?_map]
    cases (e.2.1.filter (inR since 1099511627776)).getLast? <;> rfl
  · obtain ⟨b, hb, hy⟩ := List.mem_flatMap.1 hy
    obtain ⟨r, _, rfl⟩ := List.mem_map.1 hb
    have hy := (List.mem_filter.1 hy).1
    obtain ⟨e, he, v, _, _, rfl⟩ := mem_items.1 hy
    exact ⟨e, he, rfl⟩
end Go.Proofs.Ytphdilmnielgeaa
