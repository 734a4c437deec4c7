/-
  wire: the law of what is under way.
-/
import Derived.Test.YtcbomldaooeplaaWireTree
namespace Go.Proofs.Ytcbomldaooeplaa
open Go.Sx Go Classical
set_option maxRecDepth 10000
abbrev Pc : Type := Int × Int × List UInt8 × Unit
abbrev TW : Type := Tree Int Pc
abbrev Wi : Type := Int × Int × (TW × Unit) × Unit
theorem clone_eq (l : List UInt8) (h : l.length ≤ 140737488355000) : F22 (l, ()) = some (l, ()) := by
  unfold F22
  cases l with
  | nil =>
    simp only [List.isEmpty_nil, cond_true]
    rw [appU_eq (by simp)]
    exact both_same _
  | cons b r =>
    simp only [List.isEmpty_cons, cond_false]
    rw [appU_eq (by simpa using h)]
    rfl
def Short (p : Pc) : Prop := p.2.2.1.length ≤ 200
theorem cloneP_eq (p : Pc) (h : Short p) : F16 (p, ()) = some (p, ()) := by
  obtain ⟨a, b, c, ⟨⟩⟩ := p
  have h' : c.length ≤ 200 := h
  unfold F16
  simp only [clone_eq c (show c.length ≤ 140737488355000 by omega), Option.bind_some]
/-- what a wire has, sent in so many steps -/
def WOk (most : Int) (k : Nat) (w : Wi) (W : List Pc) : Prop :=
  ∃ (last : Int) (m : TW), w = (most, last, (m, ()), ()) ∧ MapI ltI m k ∧ (toL m).map (fun e => e.2.1) = W ∧ (∀ e ∈ toL m, e.1 ≤ last) ∧ 0 ≤ last ∧ last ≤ k ∧ ∀ p ∈ W, Short p
theorem WOk.mono {most : Int} {k n : Nat} {w : Wi} {W : List Pc} (h : WOk most k w W) (hn : k ≤ n) : WOk most n w W := by
  obtain ⟨last, m, h1, h2, h3, h4, h5, h6, h7⟩ := h
  exact ⟨last, m, h1, h2.mono hn, h3, h4, h5, by omega, h7⟩
theorem WOk.len {most : Int} {k : Nat} {w : Wi} {W : List Pc} (h : WOk most k w W) : W.length ≤ k := by
  obtain ⟨last, m, h1, h2, h3, h4, h5, h6, h7⟩ := h
  rw [← h3, List.length_map]; exact h2.2.2
theorem len_eq {most : Int} {k : Nat} {w : Wi} {W : List Pc} (h : WOk most k w W) : F13 (w, ()) = some ((W.length : Int), w, ()) := by
  obtain ⟨last, m, rfl, h2, h3, h4, h5, h6, h7⟩ := h
  unfold F13
  simp only [tw_mlen, Option.bind_some]
  rw [h2.1.len, ← h3, List.length_map]
theorem send_eq {most : Int} {k : Nat} {w : Wi} {W : List Pc} (h : WOk most k w W) (hk : k ≤ 1000) (p : Pc) (hp : Short p) :
    ∃ w', F8 (w, p, ()) = some (bif decide (most ≤ (W.length : Int)) then 4 else 0, w', ()) ∧ WOk most (k + 1) w' (bif decide (most ≤ (W.length : Int)) then W else W ++ [p]) := by
  have h0 := h
  obtain ⟨last, m, rfl, h2, h3, h4, h5, h6, h7⟩ := h
  have hc := h2.2.2
  have hl : cnt m = (W.length : Int) := by rw [h2.1.len, ← h3, List.length_map]
  unfold F8
  simp only [tw_mlen, Option.bind_some, hl]
  by_cases hm : most ≤ (W.length : Int)
  · simp only [hm, decide_true, cond_true]
    exact ⟨_, rfl, h0.mono (by omega)⟩
  · simp only [hm, decide_false, cond_false, cloneP_eq p hp, Option.bind_some]
    rw [wrap64_eq (x := last + 1) (by omega) (by omega), tw_mput m (last + 1) p h2.1 (by omega)]
    refine ⟨_, rfl, last + 1, tPut ltI (last + 1, p, ()) m, rfl, h2.put LO.int, ?_, ?_, by omega, by omega, ?_⟩
    · rw [toL_put LO.int h2.2.1, putL_end LO.int (fun e he => decide_eq_true (by have := h4 e he; show e.1 < last + 1; omega)), List.map_append, h3]
      rfl
    · intro e he
      rw [toL_put LO.int h2.2.1, putL_end LO.int (fun e he => decide_eq_true (by have := h4 e he; show e.1 < last + 1; omega))] at he
      rcases List.mem_append.1 he with he | he
      · have := h4 e he; omega
      · obtain rfl := List.mem_singleton.1 he; exact Int.le_refl _
    · intro q hq
      rcases List.mem_append.1 hq with hq | hq
      · exact h7 q hq
      · obtain rfl := List.mem_singleton.1 hq; exact hp
def noP : Pc := (0, 0, [], ())
theorem at_eq {most : Int} {k : Nat} {w : Wi} {W : List Pc} (h : WOk most k w W) (hk : k ≤ 1000) (i : Int) :
    (¬ (0 ≤ i ∧ i < (W.length : Int)) ∧ F17 (w, i, ()) = some ((0, noP, ()), 6, w, ())) ∨
    ∃ (n : Nat) (key : Int) (p : Pc), i = (n : Int) ∧ n < W.length ∧ W[n]? = some p ∧ F17 (w, i, ()) = some ((key, p, ()), 0, w, ()) ∧ ∃ last m, w = (most, last, (m, ()), ()) ∧ (toL m)[n]? = some (key, p, ()) := by
  obtain ⟨last, m, rfl, h2, h3, h4, h5, h6, h7⟩ := h
  have hc := h2.2.2
  have hl : cnt m = (W.length : Int) := by rw [h2.1.len, ← h3, List.length_map]
  unfold F17
  simp only [tw_mat m i h2.1 (show (toL m).length ≤ 1000000000 by omega), hl]
  by_cases hi : 0 ≤ i ∧ i < (W.length : Int)
  · right
    obtain ⟨n, rfl⟩ : ∃ n : Nat, i = (n : Int) := ⟨i.toNat, by omega⟩
    have hn : n < W.length := by omega
    have hn' : n < (toL m).length := by rw [← h3, List.length_map] at hn; exact hn
    refine ⟨n, (toL m)[n].1, (toL m)[n].2.1, rfl, hn, ?_, ?_, last, m, rfl, List.getElem?_eq_getElem hn'⟩
    · rw [← h3, List.getElem?_map, List.getElem?_eq_getElem hn']; rfl
    · simp only [hi, and_self, decide_true, cond_true, atT_eq n h2.1, List.getElem?_eq_getElem hn', Option.map_some, Option.bind_some, Bool.not_true, cond_false]
  · left
    refine ⟨hi, ?_⟩
    simp only [hi, decide_false, cond_false, Option.bind_some, Bool.not_false, cond_true]
    rfl
theorem take_eq {most : Int} {k : Nat} {w : Wi} {W : List Pc} (h : WOk most k w W) (hk : k ≤ 1000) (i : Int) :
    (¬ (0 ≤ i ∧ i < (W.length : Int)) ∧ F9 (w, i, ()) = some (noP, 6, w, ())) ∨
    ∃ (n : Nat) (p : Pc) (w' : Wi), i = (n : Int) ∧ n < W.length ∧ W[n]? = some p ∧ F9 (w, i, ()) = some (p, 0, w', ()) ∧ WOk most k w' (W.take n ++ W.drop (n + 1)) := by
  unfold F9
  rcases at_eq h hk i with ⟨hi, e⟩ | ⟨n, key, p, rfl, hn, hp, e, last, m, rfl, hm⟩
  · left
    refine ⟨hi, ?_⟩
    simp only [e, Option.bind_some]
    rfl
  · right
    obtain ⟨last', m', h1, h2, h3, h4, h5, h6, h7⟩ := h
    cases h1
    have hc := h2.2.2
    have hs : (tGet ltI key m).isSome = true := by
      rw [getT_eq LO.int h2.2.1]; exact getL_at LO.int hm
    have hd : toL (tDel ltI key m) = (toL m).take n ++ (toL m).drop (n + 1) := by
      rw [toL_del LO.int h2.1 h2.2.1]; exact delL_at LO.int h2.2.1 hm
    simp only [e, Option.bind_some, decide_true, Bool.not_true, cond_false, tw_mdel m key h2.1 (show (toL m).length ≤ 1000000000 by omega), hs, cond_true, cloneP_eq p (h7 p (List.mem_of_getElem? hp))]
    refine ⟨n, p, _, rfl, hn, hp, rfl, last, tDel ltI key m, rfl, h2.del LO.int, ?_, ?_, h5, h6, ?_⟩
    · rw [hd, List.map_append, List.map_take, List.map_drop, h3]
    · intro q hq
      rw [hd] at hq
      rcases List.mem_append.1 hq with hq | hq
      · exact h4 q (List.mem_of_mem_take hq)
      · exact h4 q (List.mem_of_mem_drop hq)
    · intro q hq
      rcases List.mem_append.1 hq with hq | hq
      · exact h7 q (List.mem_of_mem_take hq)
      · exact h7 q (List.mem_of_mem_drop hq)
theorem double_eq {most : Int} {k : Nat} {w : Wi} {W : List Pc} (h : WOk most k w W) (hk : k ≤ 1000) (i : Int) :
    (¬ (0 ≤ i ∧ i < (W.length : Int)) ∧ F11 (w, i, ()) = some (6, w, ())) ∨
    ∃ (n : Nat) (p : Pc) (w' : Wi), i = (n : Int) ∧ n < W.length ∧ W[n]? = some p ∧ F11 (w, i, ()) = some (bif decide (most ≤ (W.length : Int)) then 4 else 0, w', ()) ∧ WOk most (k + 1) w' (bif decide (most ≤ (W.length : Int)) then W else W ++ [p]) := by
  unfold F11
  rcases at_eq h hk i with ⟨hi, e⟩ | ⟨n, key, p, rfl, hn, hp, e, last, m, hw, hm⟩
  · left
    refine ⟨hi, ?_⟩
    simp only [e, Option.bind_some]
    rfl
  · right
    have hsh : Short p := by
      obtain ⟨_, _, _, _, _, _, _, _, h7⟩ := h
      exact h7 p (List.mem_of_getElem? hp)
    obtain ⟨w', e1, e2⟩ := send_eq h hk p hsh
    simp only [e, Option.bind_some, decide_true, Bool.not_true, cond_false, e1]
    exact ⟨n, p, w', rfl, hn, hp, rfl, e2⟩
theorem all_eq {most : Int} {k : Nat} {w : Wi} {W : List Pc} (h : WOk most k w W) (hk : k ≤ 1000) : F12 (w, ()) = some (W, w, ()) := by
  obtain ⟨last, m, rfl, h2, h3, h4, h5, h6, h7⟩ := h
  have hc := h2.2.2
  unfold F12
  simp only [tw_mall m (show (toL m).length ≤ 1000000000 by omega), Option.bind_some]
  have := iter_fold (step := fun (x_1 : List Pc × Int × Unit) =>
      bif decide (x_1.snd.fst < Int.ofNat (List.length (toL m))) then
        Option.bind (idxN (toL m) x_1.snd.fst) fun (b_1 : Nat) =>
          Option.bind (toL m)[b_1]? fun (b : Int × Pc × Unit) =>
            Option.bind (F16 b.snd) fun (b : Pc × Unit) =>
              Option.bind (appO x_1.fst [b.fst]) fun (b : List Pc) =>
                some (Sum.inl (b, wrap64 (x_1.snd.fst + 1), ()))
      else some (Sum.inr (x_1.fst, (most, last, (m, ()), ()), ()))) (mk := fun i a => (a, (i : Int), ())) (l := toL m) (g := fun a e => a ++ [e.2.1]) (K := fun a => (a, (most, last, (m, ()), ()), ())) (fun i a => a.length = i) (by omega) (fun i a e hi ha => by
        have hlt := (List.getElem?_eq_some_iff.1 hi).1
        have hs : Short e.2.1 := h7 _ (by rw [← h3]; exact List.mem_map.2 ⟨e, List.mem_of_getElem? hi, rfl⟩)
        have e0 : F16 e.2 = some (e.2.1, ()) := cloneP_eq e.2.1 hs
        simp only [lt_len, hlt, decide_true, cond_true, idxN_nat _ _ hlt, hi, Option.bind_some, e0, wrap64_nat (show i < 9223372036854775807 by omega), appO_eq (l := a) (x := [e.2.1]) (by simp only [List.length_cons, List.length_nil]; simp only [capB]; omega), List.length_append, List.length_cons, List.length_nil, ha, and_self]) (fun a _ => by simp only [lt_len, Nat.lt_irrefl, decide_false, cond_false]) (a := []) rfl
  refine Eq.trans this ?_
  have hf : ∀ (l : List (KV Int Pc)) (a : List Pc), l.foldl (fun a e => a ++ [e.2.1]) a = a ++ l.map (fun e => e.2.1) := by
    intro l
    induction l with
    | nil => intro a; simp
    | cons e l ih => intro a; rw [List.foldl_cons, ih]; simp
  rw [hf, h3, List.nil_append]
theorem same_self (p : Pc) : F10 (p, p, ()) = some (true, ()) := by
  unfold F10
  simp only [decide_true, cond_true]
theorem new_ok (most : Int) (h1 : 1 ≤ most) (h2 : most ≤ 256) : F7 (most, ()) = some ((true, most, 0, (Tree.leaf, ()), ()), 0, ()) := by
  unfold F7
  simp only [show decide (most < 1) = false from decide_eq_false (by omega), show decide (256 < most) = false from decide_eq_false (by omega), cond_false]
theorem WOk.new (most : Int) : WOk most 0 (most, 0, (Tree.leaf, ()), ()) [] := ⟨0, .leaf, rfl, .leaf, rfl, fun e he => (by simp [toL] at he), Int.le_refl 0, Int.le_refl 0, fun p hp => (by simp at hp)⟩
theorem awake_eq : F5 () = some (true, ()) := by
  unfold F5
  have h0 := WOk.new 2
  obtain ⟨w1, e1, h1⟩ := send_eq h0 (by omega) (1, 2, [UInt8.ofNat 97], ()) (by unfold Short; decide)
  have d1 : decide ((2 : Int) ≤ (([] : List Pc).length : Int)) = false := rfl
  rw [d1] at e1 h1
  simp only [new_ok 2 (by decide) (by decide), Option.bind_some, cond_true, decide_true, Bool.not_true, cond_false] at e1 h1 ⊢
  simp only [e1, Option.bind_some, decide_true, Bool.not_true, cond_false]
  rcases take_eq h1 (by omega) 0 with ⟨hi, _⟩ | ⟨n, p, w', hn, hlt, hp, e2, h2⟩
  · exact absurd (show (0 : Int) ≤ 0 ∧ (0 : Int) < ((([] : List Pc) ++ [(1, 2, [UInt8.ofNat 97], ())]).length : Int) from by decide) hi
  · obtain rfl : n = 0 := by omega
    obtain rfl : (1, 2, [UInt8.ofNat 97], ()) = p := by simpa using hp
    have e3 := len_eq h2
    simp only [e2, Option.bind_some, decide_true, cond_true]
    rw [e3]
    rfl
abbrev Ac : Type := UInt8 × Pc × Int × Unit
theorem few_ex (l : List Ac) (hl : l.length ≤ 9223372036854775806) : ∃ b, F6 (l, ()) = some (b, ()) ∧ (b = true → l.length ≤ 200 ∧ ∀ i (h : i < l.length), Short l[i].2.1) := by
  unfold F6
  obtain ⟨r, h, hq⟩ := iter_inv (T := Int × Unit) (R := Bool × Unit) (step := fun (x_1 : Int × Unit) =>
      bif decide (x_1.fst < Int.ofNat (List.length l)) then
        bif decide (200 ≤ x_1.fst) then some (Sum.inr (false, ()))
        else
          Option.bind (idx l x_1.fst) fun (b : Ac) =>
            bif decide (200 < Int.ofNat (List.length b.snd.fst.snd.snd.fst)) then some (Sum.inr (false, ()))
            else some (Sum.inl (wrap64 (x_1.fst + 1), ()))
      else some (Sum.inr (true, ()))) (I := fun t => ∃ (i : Nat), i ≤ l.length ∧ i ≤ 200 ∧ (∀ j (h : j < l.length), j < i → Short l[j].2.1) ∧ t = ((i : Int), ())) (μ := fun t => l.length - t.1.toNat) (Q := fun _ r => r.1 = true → l.length ≤ 200 ∧ ∀ i (h : i < l.length), Short l[i].2.1) (fun t ht => by
        obtain ⟨i, hi, h3, h4, rfl⟩ := ht
        by_cases h : i < l.length
        · simp only [lt_len, h, decide_true, cond_true, idx_nat, List.getElem?_eq_getElem h, Option.bind_some]
          by_cases hn : (200 : Int) ≤ (i : Int)
          · simp only [hn, decide_true, cond_true]
            exact .inl ⟨_, rfl, fun h => Bool.noConfusion h⟩
          · simp only [hn, decide_false, cond_false]
            by_cases hb : (200 : Int) < Int.ofNat (l[i].2.1.2.2.1).length
            · simp only [hb, decide_true, cond_true]
              exact .inl ⟨_, rfl, fun h => Bool.noConfusion h⟩
            · simp only [hb, decide_false, cond_false]
              right
              rw [wrap64_nat (show i < 9223372036854775807 by omega)]
              refine ⟨_, rfl, ⟨i + 1, h, by omega, fun j hj hji => ?_, rfl⟩, by simp only [Int.toNat_natCast]; omega, fun _ h => h⟩
              by_cases hje : j = i
              · subst hje; rw [ofNat_len] at hb; unfold Short; omega
              · exact h4 j hj (by omega)
        · left
          have : i = l.length := by omega
          subst this
          exact ⟨(true, ()), by simp [lt_len], fun _ => ⟨h3, fun j hj => h4 j hj hj⟩⟩) (n := big) (t := (0, ())) ⟨0, Nat.zero_le _, Nat.zero_le _, fun j _ h => absurd h (Nat.not_lt_zero _), rfl⟩ (by rw [big_eq]; simp; omega)
  obtain ⟨b, ⟨⟩⟩ := r
  exact ⟨b, h, hq⟩
theorem lawPlays (x : (argTy P3).den) (hx : Fit47 (argTy P3) x) : F3 x = some (true, ()) := by
  obtain ⟨most, l, ⟨⟩⟩ : Int × List Ac × Unit := x
  obtain ⟨-, ⟨hl, -⟩, -⟩ := hx
  have hl' : l.length ≤ 140737488351232 := hl
  obtain ⟨fb, hf, hfl⟩ := few_ex l (by omega)
  unfold F3
  simp only [awake_eq, Option.bind_some, Bool.not_true, cond_false, hf]
  cases fb with
  | false => rfl
  | true =>
    obtain ⟨h200, hsh⟩ := hfl rfl
    simp only [Bool.not_true, cond_false]
    by_cases m1 : most < 1
    · unfold F7
      simp only [m1, decide_true, cond_true, Option.bind_some, cond_false]
    by_cases m2 : 256 < most
    · unfold F7
      simp only [m1, m2, decide_true, decide_false, cond_true, Option.bind_some, cond_false]
    simp only [new_ok most (by omega) (by omega), Option.bind_some, cond_true, m1, m2, decide_false, cond_false, decide_true]
    refine loop_ex (fun t => ∃ (k : Nat) (W : List Pc) (w : Wi), k ≤ l.length ∧ WOk most k w W ∧ t = (W, (k : Int), w)) (fun t => l.length - t.2.1.toNat) (fun t ht => ?_) ⟨0, [], _, Nat.zero_le _, WOk.new most, rfl⟩ (by show l.length - 0 < _; omega)
    obtain ⟨k, W, w, hk, hw, rfl⟩ := ht
    have hW := hw.len
    by_cases h : k < l.length
    · have hp := hsh k h
      simp only [lt_len, h, decide_true, cond_true, idx_nat, List.getElem?_eq_getElem h, Option.bind_some]
      generalize l[k] = lk at hp ⊢
      obtain ⟨kd, p, i, ⟨⟩⟩ := lk
      have hp' : Short p := hp
      have hin : (bif decide (0 ≤ i) then some (Sum.inl (β := List Pc × Int × Wi ⊕ Bool × Unit) (decide (i < Int.ofNat W.length), ())) else some (Sum.inl (false, ()))) = some (Sum.inl (decide (0 ≤ i ∧ i < (W.length : Int)), ())) := by
        by_cases h1 : 0 ≤ i
        · have : decide (i < Int.ofNat W.length) = decide (0 ≤ i ∧ i < (W.length : Int)) := by rw [decide_eq_decide]; exact ⟨fun h => ⟨h1, h⟩, fun h => h.2⟩
          rw [decide_eq_true h1, this]; rfl
        · rw [decide_eq_false h1, decide_eq_false (show ¬ (0 ≤ i ∧ i < (W.length : Int)) from fun h => h1 h.1)]; rfl
      refine bind_ex (fun o => o = Sum.inl (decide (0 ≤ i ∧ i < (W.length : Int)), ())) ⟨_, hin, rfl⟩ ?_
      rintro a rfl
      simp only [Sum.elim_inl]
      refine bind_ex (fun o => ∃ W' w', o = Sum.inl (W', w') ∧ WOk most (k + 1) w' W') ?_ ?_
      · have e1 : ∀ z : Int, decide (most ≤ Int.ofNat W.length) = decide (most ≤ (W.length : Int)) := fun _ => rfl
        have e2 : decide (Int.ofNat W.length < most) = !decide (most ≤ (W.length : Int)) := by
          by_cases h1 : most ≤ (W.length : Int)
          · rw [decide_eq_true h1]; exact decide_eq_false (by rw [ofNat_len]; omega)
          · rw [decide_eq_false h1]; exact decide_eq_true (by rw [ofNat_len]; omega)
        have eo : ∀ q : Pc, appO W [q] = some (W ++ [q]) := fun q => appO_eq (by simp only [List.length_cons, List.length_nil]; simp only [capB]; omega)
        have hsend : ∃ a, (Option.bind (F8 (w, p, ())) fun (b_1 : Int × Wi × Unit) =>
            Option.bind
              (bif decide (most ≤ Int.ofNat W.length) then
                bif !decide (b_1.fst = 4) then some (Sum.inr (α := Unit) (Sum.inr (α := List Pc × Wi) (Sum.inr (α := List Pc × Int × Wi) (false, ()))))
                else
                  bif decide (Int.ofNat W.length < most) then
                    bif !decide (b_1.fst = 0) then some (Sum.inr (Sum.inr (Sum.inr (false, ())))) else some (Sum.inl ())
                  else some (Sum.inl ())
              else
                bif decide (Int.ofNat W.length < most) then
                  bif !decide (b_1.fst = 0) then some (Sum.inr (Sum.inr (Sum.inr (false, ())))) else some (Sum.inl ())
                else some (Sum.inl ()))
              fun o => Sum.elim (fun (_z : Unit) =>
                bif decide (b_1.fst = 0) then Option.bind (appO W [p]) fun (b : List Pc) => some (Sum.inl (b, b_1.snd.fst))
                else some (Sum.inl (W, b_1.snd.fst))) (fun val => some val) o) = some a ∧ ∃ W' w', a = Sum.inl (W', w') ∧ WOk most (k + 1) w' W' := by
          obtain ⟨w', s1, s2⟩ := send_eq hw (by omega) p hp'
          simp only [s1, Option.bind_some, e1 0, e2, eo]
          cases hd : decide (most ≤ (W.length : Int)) with
          | true => rw [hd] at s2; exact ⟨_, rfl, _, _, rfl, s2⟩
          | false => rw [hd] at s2; exact ⟨_, rfl, _, _, rfl, s2⟩
        have hnone : ∃ a, some (Sum.inl (β := List Pc × Int × Wi ⊕ Bool × Unit) (W, w)) = some a ∧ ∃ W' w', a = Sum.inl (W', w') ∧ WOk most (k + 1) w' W' := ⟨_, rfl, W, w, rfl, hw.mono (by omega)⟩
        cases decide (intOf8 kd = intOf8 (UInt8.ofNat 0)) with
        | true => simp only [cond_true]; exact hsend
        | false =>
          simp only [cond_false]
          cases decide (intOf8 kd = intOf8 (UInt8.ofNat 1)) with
          | true => simp only [cond_true]; exact hsend
          | false =>
            simp only [cond_false]
            cases decide (intOf8 kd = intOf8 (UInt8.ofNat 2)) with
            | true =>
              simp only [cond_true]
              rcases take_eq hw (by omega) i with ⟨hi, e⟩ | ⟨n, q, w', rfl, hn, hq, e, h2⟩
              · simp only [e, Option.bind_some, hi, decide_false, Bool.not_false, cond_true, decide_true, Bool.not_true, cond_false, show F10 (noP, (0, 0, [], ()), ()) = some (true, ()) from same_self noP, Sum.elim_inl]
                exact hnone
              · have hi : (0 : Int) ≤ (n : Int) ∧ (n : Int) < (W.length : Int) := by omega
                have e5 : sliceO W 0 (n : Int) = some (W.take n) := sliceO_take (by omega)
                have e6 : wrap64 ((n : Int) + 1) = Int.ofNat (n + 1) := wrap64_nat (by omega)
                have e7 : sliceO W (Int.ofNat (n + 1)) (W.length : Int) = some (W.drop (n + 1)) := sliceO_drop (by omega)
                have e8 : appO ([] : List Pc) (W.take n) = some (W.take n) := appO_eq (by simp only [List.length_nil, List.length_take]; simp only [capB]; omega)
                have e9 : appO (W.take n) (W.drop (n + 1)) = some (W.take n ++ W.drop (n + 1)) := appO_eq (by simp only [List.length_take, List.length_drop]; simp only [capB]; omega)
                simp only [e, Option.bind_some, hi, and_self, decide_true, Bool.not_true, cond_false, cond_true, idxN_nat _ _ hn, hq, same_self, Sum.elim_inl, e5, e6, e7, e8, e9]
                exact ⟨_, rfl, _, _, rfl, h2.mono (by omega)⟩
            | false =>
              simp only [cond_false]
              cases decide (intOf8 kd = intOf8 (UInt8.ofNat 3)) with
              | true =>
                simp only [cond_true]
                rcases double_eq hw (by omega) i with ⟨hi, e⟩ | ⟨n, q, w', rfl, hn, hq, e, h2⟩
                · simp only [e, Option.bind_some, hi, decide_false, Bool.not_false, cond_true, decide_true, Bool.not_true, cond_false, Sum.elim_inl]
                  exact hnone
                · have hi : (0 : Int) ≤ (n : Int) ∧ (n : Int) < (W.length : Int) := by omega
                  simp only [e, Option.bind_some, hi, and_self, decide_true, Bool.not_true, cond_false, cond_true, e1 0, e2, idxN_nat _ _ hn, hq, eo]
                  cases hd : decide (most ≤ (W.length : Int)) with
                  | true => rw [hd] at h2; exact ⟨_, rfl, _, _, rfl, h2⟩
                  | false => rw [hd] at h2; exact ⟨_, rfl, _, _, rfl, h2⟩
              | false => simp only [cond_false]; exact hnone
      · rintro a ⟨W', w', rfl, hw'⟩
        have hW' := hw'.len
        simp only [Sum.elim_inl, all_eq hw' (by omega), Option.bind_some, decide_true, Bool.not_true, cond_false, len_eq hw', ofNat_len]
        refine ⟨_, loop_true (r0 := Sum.inl (W', wrap64 ((k : Int) + 1), w')) (fun t => ∃ (j : Nat), j ≤ W'.length ∧ t = ((j : Int), ())) (fun t => W'.length - t.1.toNat) (fun t ht => ?_) ⟨0, Nat.zero_le _, rfl⟩ (by show W'.length - 0 < _; omega), .inr ⟨_, rfl, ⟨k + 1, W', w', h, hw', by rw [wrap64_nat (by omega)]⟩, ?_⟩⟩
        · obtain ⟨j, hj, rfl⟩ := ht
          by_cases hh : j < W'.length
          · right
            refine ⟨(((j + 1 : Nat) : Int), ()), ?_, ⟨j + 1, hh, rfl⟩, by show W'.length - (((j + 1 : Nat) : Int)).toNat < W'.length - (j : Int).toNat; omega⟩
            simp only [show decide ((j : Int) < (W'.length : Int)) = true from decide_eq_true (by omega), cond_true, idxN_nat _ _ hh, List.getElem?_eq_getElem hh, Option.bind_some, same_self, Bool.not_true, cond_false, wrap64_nat (show j < 9223372036854775807 by omega)]
          · left
            simp only [show decide ((j : Int) < (W'.length : Int)) = false from decide_eq_false (by omega), cond_false]
        · show l.length - (wrap64 ((k : Int) + 1)).toNat < l.length - (k : Int).toNat
          rw [wrap64_nat (by omega)]
          omega
    · have : k = l.length := by omega
      subst this
      simp only [lt_len, Nat.lt_irrefl, decide_false, cond_false]
      exact ⟨_, rfl, .inl rfl⟩
end Go.Proofs.Ytcbomldaooeplaa
