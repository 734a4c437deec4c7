/-
  wire: what is handed in or out is by itself.
-/
import Derived.Test.YtcbomldaooeplaaWiroTree
namespace Go.Proofs.Ytcbomldaooeplaa
open Go.Sx Go Classical
set_option maxRecDepth 10000
abbrev Pc : Type := Int × Int × List UInt8 × Unit
abbrev TW : Type := Tree Int Pc
abbrev Wi : Type := Int × Int × (TW × Unit) × Unit
theorem clone_eq (l : List UInt8) (h : l.length ≤ 140737488355000) : F22 (l, ()) = some (l, ()) := by
  unfold F22
  cases l with
  | nil =>
    simp only [List.isEmpty_nil, cond_true]
    rw [appU_eq (by simp)]
    exact both_same _
  | cons b r =>
    simp only [List.isEmpty_cons, cond_false]
    rw [appU_eq (by simpa using h)]
    rfl
def Short (p : Pc) : Prop := p.2.2.1.length ≤ 200
theorem cloneP_eq (p : Pc) (h : Short p) : F16 (p, ()) = some (p, ()) := by
  obtain ⟨a, b, c, ⟨⟩⟩ := p
  have h' : c.length ≤ 200 := h
  unfold F16
  simp only [clone_eq c (show c.length ≤ 140737488355000 by omega), Option.bind_some]
/-- what a wire has, sent in so many steps -/
def WOk (most : Int) (k : Nat) (w : Wi) (W : List Pc) : Prop :=
  ∃ (last : Int) (m : TW), w = (most, last, (m, ()), ()) ∧ MapI ltI m k ∧ (toL m).map (fun e => e.2.1) = W ∧ (∀ e ∈ toL m, e.1 ≤ last) ∧ 0 ≤ last ∧ last ≤ k ∧ ∀ p ∈ W, Short p
theorem WOk.mono {most : Int} {k n : Nat} {w : Wi} {W : List Pc} (h : WOk most k w W) (hn : k ≤ n) : WOk most n w W := by
  obtain ⟨last, m, h1, h2, h3, h4, h5, h6, h7⟩ := h
  exact ⟨last, m, h1, h2.mono hn, h3, h4, h5, by omega, h7⟩
theorem WOk.len {most : Int} {k : Nat} {w : Wi} {W : List Pc} (h : WOk most k w W) : W.length ≤ k := by
  obtain ⟨last, m, h1, h2, h3, h4, h5, h6, h7⟩ := h
  rw [← h3, List.length_map]; exact h2.2.2
theorem len_eq {most : Int} {k : Nat} {w : Wi} {W : List Pc} (h : WOk most k w W) : F13 (w, ()) = some ((W.length : Int), w, ()) := by
  obtain ⟨last, m, rfl, h2, h3, h4, h5, h6, h7⟩ := h
  unfold F13
  simp only [tw_mlen, Option.bind_some]
  rw [h2.1.len, ← h3, List.length_map]
theorem send_eq {most : Int} {k : Nat} {w : Wi} {W : List Pc} (h : WOk most k w W) (hk : k ≤ 1000) (p : Pc) (hp : Short p) :
    ∃ w', F8 (w, p, ()) = some (bif decide (most ≤ (W.length : Int)) then 4 else 0, w', ()) ∧ WOk most (k + 1) w' (bif decide (most ≤ (W.length : Int)) then W else W ++ [p]) := by
  have h0 := h
  obtain ⟨last, m, rfl, h2, h3, h4, h5, h6, h7⟩ := h
  have hc := h2.2.2
  have hl : cnt m = (W.length : Int) := by rw [h2.1.len, ← h3, List.length_map]
  unfold F8
  simp only [tw_mlen, Option.bind_some, hl]
  by_cases hm : most ≤ (W.length : Int)
  · simp only [hm, decide_true, cond_true]
    exact ⟨_, rfl, h0.mono (by omega)⟩
  · simp only [hm, decide_false, cond_false, cloneP_eq p hp, Option.bind_some]
    rw [wrap64_eq (x := last + 1) (by omega) (by omega), tw_mput m (last + 1) p h2.1 (by omega)]
    refine ⟨_, rfl, last + 1, tPut ltI (last + 1, p, ()) m, rfl, h2.put LO.int, ?_, ?_, by omega, by omega, ?_⟩
    · rw [toL_put LO.int h2.2.1, putL_end LO.int (fun e he => decide_eq_true (by have := h4 e he; show e.1 < last + 1; omega)), List.map_append, h3]
      rfl
    · intro e he
      rw [toL_put LO.int h2.2.1, putL_end LO.int (fun e he => decide_eq_true (by have := h4 e he; show e.1 < last + 1; omega))] at he
      rcases List.mem_append.1 he with he | he
      · have := h4 e he; omega
      · obtain rfl := List.mem_singleton.1 he; exact Int.le_refl _
    · intro q hq
      rcases List.mem_append.1 hq with hq | hq
      · exact h7 q hq
      · obtain rfl := List.mem_singleton.1 hq; exact hp
def noP : Pc := (0, 0, [], ())
theorem at_eq {most : Int} {k : Nat} {w : Wi} {W : List Pc} (h : WOk most k w W) (hk : k ≤ 1000) (i : Int) :
    (¬ (0 ≤ i ∧ i < (W.length : Int)) ∧ F17 (w, i, ()) = some ((0, noP, ()), 6, w, ())) ∨
    ∃ (n : Nat) (key : Int) (p : Pc), i = (n : Int) ∧ n < W.length ∧ W[n]? = some p ∧ F17 (w, i, ()) = some ((key, p, ()), 0, w, ()) ∧ ∃ last m, w = (most, last, (m, ()), ()) ∧ (toL m)[n]? = some (key, p, ()) := by
  obtain ⟨last, m, rfl, h2, h3, h4, h5, h6, h7⟩ := h
  have hc := h2.2.2
  have hl : cnt m = (W.length : Int) := by rw [h2.1.len, ← h3, List.length_map]
  unfold F17
  simp only [tw_mat m i h2.1 (show (toL m).length ≤ 1000000000 by omega), hl]
  by_cases hi : 0 ≤ i ∧ i < (W.length : Int)
  · right
    obtain ⟨n, rfl⟩ : ∃ n : Nat, i = (n : Int) := ⟨i.toNat, by omega⟩
    have hn : n < W.length := by omega
    have hn' : n < (toL m).length := by rw [← h3, List.length_map] at hn; exact hn
    refine ⟨n, (toL m)[n].1, (toL m)[n].2.1, rfl, hn, ?_, ?_, last, m, rfl, List.getElem?_eq_getElem hn'⟩
    · rw [← h3, List.getElem?_map, List.getElem?_eq_getElem hn']; rfl
    · simp only [hi, and_self, decide_true, cond_true, atT_eq n h2.1, List.getElem?_eq_getElem hn', Option.map_some, Option.bind_some, Bool.not_true, cond_false]
  · left
    refine ⟨hi, ?_⟩
    simp only [hi, decide_false, cond_false, Option.bind_some, Bool.not_false, cond_true]
    rfl
theorem take_eq {most : Int} {k : Nat} {w : Wi} {W : List Pc} (h : WOk most k w W) (hk : k ≤ 1000) (i : Int) :
    (¬ (0 ≤ i ∧ i < (W.length : Int)) ∧ F9 (w, i, ()) = some (noP, 6, w, ())) ∨
    ∃ (n : Nat) (p : Pc) (w' : Wi), i = (n : Int) ∧ n < W.length ∧ W[n]? = some p ∧ F9 (w, i, ()) = some (p, 0, w', ()) ∧ WOk most k w' (W.take n ++ W.drop (n + 1)) := by
  unfold F9
  rcases at_eq h hk i with ⟨hi, e⟩ | ⟨n, key, p, rfl, hn, hp, e, last, m, rfl, hm⟩
  · left
    refine ⟨hi, ?_⟩
    simp only [e, Option.bind_some]
    rfl
  · right
    obtain ⟨last', m', h1, h2, h3, h4, h5, h6, h7⟩ := h
    cases h1
    have hc := h2.2.2
    have hs : (tGet ltI key m).isSome = true := by
      rw [getT_eq LO.int h2.2.1]; exact getL_at LO.int hm
    have hd : toL (tDel ltI key m) = (toL m).take n ++ (toL m).drop (n + 1) := by
      rw [toL_del LO.int h2.1 h2.2.1]; exact delL_at LO.int h2.2.1 hm
    simp only [e, Option.bind_some, decide_true, Bool.not_true, cond_false, tw_mdel m key h2.1 (show (toL m).length ≤ 1000000000 by omega), hs, cond_true, cloneP_eq p (h7 p (List.mem_of_getElem? hp))]
    refine ⟨n, p, _, rfl, hn, hp, rfl, last, tDel ltI key m, rfl, h2.del LO.int, ?_, ?_, h5, h6, ?_⟩
    · rw [hd, List.map_append, List.map_take, List.map_drop, h3]
    · intro q hq
      rw [hd] at hq
      rcases List.mem_append.1 hq with hq | hq
      · exact h4 q (List.mem_of_mem_take hq)
      · exact h4 q (List.mem_of_mem_drop hq)
    · intro q hq
      rcases List.mem_append.1 hq with hq | hq
      · exact h7 q (List.mem_of_mem_take hq)
      · exact h7 q (List.mem_of_mem_drop hq)
theorem double_eq {most : Int} {k : Nat} {w : Wi} {W : List Pc} (h : WOk most k w W) (hk : k ≤ 1000) (i : Int) :
    (¬ (0 ≤ i ∧ i < (W.length : Int)) ∧ F11 (w, i, ()) = some (6, w, ())) ∨
    ∃ (n : Nat) (p : Pc) (w' : Wi), i = (n : Int) ∧ n < W.length ∧ W[n]? = some p ∧ F11 (w, i, ()) = some (bif decide (most ≤ (W.length : Int)) then 4 else 0, w', ()) ∧ WOk most (k + 1) w' (bif decide (most ≤ (W.length : Int)) then W else W ++ [p]) := by
  unfold F11
  rcases at_eq h hk i with ⟨hi, e⟩ | ⟨n, key, p, rfl, hn, hp, e, last, m, hw, hm⟩
  · left
    refine ⟨hi, ?_⟩
    simp only [e, Option.bind_some]
    rfl
  · right
    have hsh : Short p := by
      obtain ⟨_, _, _, _, _, _, _, _, h7⟩ := h
      exact h7 p (List.mem_of_getElem? hp)
    obtain ⟨w', e1, e2⟩ := send_eq h hk p hsh
    simp only [e, Option.bind_some, decide_true, Bool.not_true, cond_false, e1]
    exact ⟨n, p, w', rfl, hn, hp, rfl, e2⟩
theorem all_eq {most : Int} {k : Nat} {w : Wi} {W : List Pc} (h : WOk most k w W) (hk : k ≤ 1000) : F12 (w, ()) = some (W, w, ()) := by
  obtain ⟨last, m, rfl, h2, h3, h4, h5, h6, h7⟩ := h
  have hc := h2.2.2
  unfold F12
  simp only [tw_mall m (show (toL m).length ≤ 1000000000 by omega), Option.bind_some]
  have := iter_fold (step := fun (x_1 : (List Pc × Int) × Int × Unit) =>
      bif decide (x_1.2.1 < Int.ofNat (List.length (toL m))) then
        Option.bind (idxN (toL m) x_1.2.1) fun (b_1 : Nat) =>
          Option.bind (toL m)[b_1]? fun (b : Int × Pc × Unit) =>
            Option.bind (F16 b.2) fun (b : Pc × Unit) =>
              bif decide (Int.toNat x_1.1.2 = List.length x_1.1.1) then
                Option.bind (appO x_1.1.1 [b.1]) fun (b : List Pc) =>
                  some (Sum.inl ((b, Int.ofNat (Int.toNat x_1.1.2 + 1)), wrap64 (x_1.2.1 + 1), ()))
              else none
      else Option.map Sum.inr (bif decide (Int.toNat x_1.1.2 = List.length x_1.1.1) then some (x_1.1.1, (most, last, (m, ()), ()), ()) else none)) (mk := fun i a => ((a, Int.ofNat a.length), (i : Int), ())) (l := toL m) (g := fun a e => a ++ [e.2.1]) (K := fun a => (a, (most, last, (m, ()), ()), ())) (fun i a => a.length = i) (by omega) (fun i a e hi ha => by
        have hlt := (List.getElem?_eq_some_iff.1 hi).1
        have hs : Short e.2.1 := h7 _ (by rw [← h3]; exact List.mem_map.2 ⟨e, List.mem_of_getElem? hi, rfl⟩)
        have e0 : F16 e.2 = some (e.2.1, ()) := cloneP_eq e.2.1 hs
        have ea : (Int.ofNat a.length).toNat = a.length := rfl
        simp only [lt_len, hlt, decide_true, cond_true, idxN_nat _ _ hlt, hi, Option.bind_some, e0, ea, wrap64_nat (show i < 9223372036854775807 by omega), appO_eq (l := a) (x := [e.2.1]) (by simp only [List.length_cons, List.length_nil]; simp only [capB]; omega), List.length_append, List.length_cons, List.length_nil, ha, and_self, show (Int.ofNat i).toNat = i from rfl, Nat.zero_add]) (fun a ha => by
        have ea : (Int.ofNat a.length).toNat = a.length := rfl
        simp only [lt_len, Nat.lt_irrefl, decide_false, cond_false, ea, decide_true, cond_true, Option.map_some]) (a := []) rfl
  refine Eq.trans this ?_
  have hf : ∀ (l : List (KV Int Pc)) (a : List Pc), l.foldl (fun a e => a ++ [e.2.1]) a = a ++ l.map (fun e => e.2.1) := by
    intro l
    induction l with
    | nil => intro a; simp
    | cons e l ih => intro a; rw [List.foldl_cons, ih]; simp
  rw [hf, h3, List.nil_append]
theorem new_ok (most : Int) (h1 : 1 ≤ most) (h2 : most ≤ 256) : F7 (most, ()) = some ((true, most, 0, (Tree.leaf, ()), ()), 0, ()) := by
  unfold F7
  simp only [show decide (most < 1) = false from decide_eq_false (by omega), show decide (256 < most) = false from decide_eq_false (by omega), cond_false]
theorem WOk.new (most : Int) : WOk most 0 (most, 0, (Tree.leaf, ()), ()) [] := ⟨0, .leaf, rfl, .leaf, rfl, fun e he => (by simp [toL] at he), Int.le_refl 0, Int.le_refl 0, fun p hp => (by simp at hp)⟩
theorem awake_eq : F5 () = some (true, ()) := by
  unfold F5
  have h0 := WOk.new 2
  obtain ⟨w1, e1, h1⟩ := send_eq h0 (by omega) (1, 2, [UInt8.ofNat 97], ()) (by unfold Short; decide)
  have d1 : decide ((2 : Int) ≤ (([] : List Pc).length : Int)) = false := rfl
  rw [d1] at e1 h1
  simp only [new_ok 2 (by decide) (by decide), Option.bind_some, cond_true, decide_true, Bool.not_true, cond_false] at e1 h1 ⊢
  simp only [e1, Option.bind_some, decide_true, Bool.not_true, cond_false]
  rcases take_eq h1 (by omega) 0 with ⟨hi, _⟩ | ⟨n, p, w', hn, hlt, hp, e2, h2⟩
  · exact absurd (show (0 : Int) ≤ 0 ∧ (0 : Int) < ((([] : List Pc) ++ [(1, 2, [UInt8.ofNat 97], ())]).length : Int) from by decide) hi
  · obtain rfl : n = 0 := by omega
    obtain rfl : (1, 2, [UInt8.ofNat 97], ()) = p := by simpa using hp
    have e3 := len_eq h2
    simp only [e2, Option.bind_some, decide_true, cond_true]
    rw [e3]
    rfl
theorem takeN (k : Int) : F9a (k, ()) = some (noP, 1, ()) := rfl
theorem doubleN (k : Int) : F11a (k, ()) = some (1, ()) := rfl
theorem lawOwn (x : (argTy P4).den) (_hx : Fit47 (argTy P4) x) : F4 x = some (true, ()) := by
  obtain ⟨b, k, ⟨⟩⟩ : List UInt8 × Int × Unit := x
  unfold F4
  simp only [awake_eq, Option.bind_some, Bool.not_true, cond_false]
  by_cases l1 : Int.ofNat b.length < 1
  · simp only [l1, decide_true, cond_true]
  by_cases l2 : 200 < Int.ofNat b.length
  · simp only [l1, l2, decide_true, decide_false, cond_true, cond_false]
  have l1' : 0 < b.length := by have : (Int.ofNat b.length) = (b.length : Int) := rfl; omega
  have l2' : b.length ≤ 200 := by have : (Int.ofNat b.length) = (b.length : Int) := rfl; omega
  have hb : appU [] b = some b := by rw [appU_eq (by simp; omega)]; rfl
  obtain ⟨w1, e1, h1⟩ := send_eq (WOk.new 4) (by omega) (0, 0, b, ()) l2'
  have d1 : decide ((4 : Int) ≤ (([] : List Pc).length : Int)) = false := rfl
  rw [d1] at e1 h1
  simp only [cond_false, List.nil_append] at e1 h1
  have hdbl : ∃ w2, F11 (w1, 0, ()) = some (0, w2, ()) ∧ WOk 4 2 w2 [(0, 0, b, ()), (0, 0, b, ())] := by
    rcases double_eq h1 (by omega) 0 with ⟨hi, _⟩ | ⟨n, p, w2, hn, hlt, hp, e2, h2⟩
    · exact absurd (show (0 : Int) ≤ 0 ∧ (0 : Int) < (([(0, 0, b, ())] : List Pc).length : Int) from ⟨by decide, Int.zero_lt_one⟩) hi
    · obtain rfl : n = 0 := by omega
      obtain rfl : (0, 0, b, ()) = p := by simpa using hp
      exact ⟨w2, e2, h2⟩
  obtain ⟨w2, e2, h2⟩ := hdbl
  have hall := all_eq h2 (by omega)
  have htk : ∀ {j : Nat} {w : Wi} {q : Pc} {W : List Pc}, WOk 4 j w (q :: W) → j ≤ 1000 → ∃ w', F9 (w, 0, ()) = some (q, 0, w', ()) ∧ WOk 4 j w' W := by
    intro j w q W h hj
    rcases take_eq h hj 0 with ⟨hi, _⟩ | ⟨n, p, w', hn, hlt, hp, e3, h3⟩
    · exact absurd (show (0 : Int) ≤ 0 ∧ (0 : Int) < ((q :: W).length : Int) from ⟨by decide, by simp only [List.length_cons]; omega⟩) hi
    · obtain rfl : n = 0 := by omega
      obtain rfl : q = p := by simpa using hp
      exact ⟨w', e3, h3⟩
  obtain ⟨w3, e3, h3⟩ := htk h2 (by omega)
  obtain ⟨w4, e4, h4⟩ := htk h3 (by omega)
  have i0 : ∀ {α : Type} (l : List α), 0 < l.length → idxN l 0 = some 0 := fun l hl => idxN_nat l 0 hl
  obtain ⟨c, cs, rfl⟩ : ∃ c cs, b = c :: cs := by
    cases b with
    | nil => simp at l1'
    | cons c cs => exact ⟨c, cs, rfl⟩
  have i1 : idxN (c :: cs) 0 = some 0 := i0 _ (by simp)
  have i2 : idxN ([(0, 0, c :: cs, ()), (0, 0, c :: cs, ())] : List Pc) 0 = some 0 := i0 _ (by simp)
  have i3 : idxN (List.set ([(0, 0, c :: cs, ()), (0, 0, c :: cs, ())] : List Pc) 0 (0, 0, c :: cs, ())) 0 = some 0 := i0 _ (by simp)
  simp only [l1, l2, decide_false, cond_false, new_ok 4 (by decide) (by decide), Option.bind_some, cond_true, hb, e1, decide_true, Bool.not_true, e2, i1, List.getElem?_cons_zero, hall, i2,
    show decide (Int.ofNat ([(0, 0, c :: cs, ()), (0, 0, c :: cs, ())] : List Pc).length = 2) = true from rfl, show decide (([(0, 0, c :: cs, ()), (0, 0, c :: cs, ())] : List Pc).length ≤ 0) = false from rfl, Option.map_some, Sum.elim_inl,
    i3, List.set_cons_zero, show (Int.ofNat ([(0, 0, c :: cs, ()), (0, 0, c :: cs, ())] : List Pc).length).toNat = 2 from rfl, show decide (2 ≤ 0) = false from rfl, e3, e4, takeN, doubleN]
  rfl
end Go.Proofs.Ytcbomldaooeplaa
