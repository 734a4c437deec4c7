/-
  The program's search trees (int64 to decamp/wire.Parcel): each function computes what the plain one does.
-/
import Derived.Test.YtcbomldaooeplaaWiroOk
import Derived.Test.YtcbomldaooeplaaSxS
namespace Go.Proofs.Ytcbomldaooeplaa
open Go.Sx Go Classical
set_option maxRecDepth 10000
theorem tw_open (k : Int) (v : T32D) (l h : Tree Int T32D) (n d : Int) : openN (Ty.int IntKind.i64) T32 (@Tree.node Int T32D k v l h n d) = some ((k, v, ()), l, h, n, d, ()) := rfl
theorem tw_leafN (k : Int) (v : T32D) (l h : Tree Int T32D) (n d : Int) : isLeaf (Tree.node k v l h n d) = false := rfl
theorem tw_leafL : isLeaf (Tree.leaf : Tree Int T32D) = true := rfl
theorem tw_cmp (a b : Int) : F29 (a, b, ()) = some (cmp3 ltI a b, ()) := by
  unfold F29 F33 cmp3
  simp only [Option.bind_some, decide_true, Bool.not_true, cond_false, show decide (a < b) = ltI a b from rfl, show decide (b < a) = ltI b a from rfl]
  cases ltI a b <;> cases ltI b a <;> rfl
theorem tw_size (t : Tree Int T32D) : F20 (t, ()) = some (cnt t, ()) := by cases t <;> rfl
theorem tw_depth (t : Tree Int T32D) : F32 (t, ()) = some (dep t, ()) := by cases t <;> rfl
theorem tw_tree (p : KV Int T32D) (l h : Tree Int T32D) (g1 : Sm l) (g2 : Sm h) (hc : cnt l + cnt h ≤ 1000000000000) : F28 (p, l, h, ()) = some (mkT p l h, ()) := by
  unfold F28
  obtain ⟨a1, a2, a3⟩ := g1
  obtain ⟨b1, b2, b3⟩ := g2
  simp only [tw_size, tw_depth, Option.bind_some, maxI_max]
  rw [wrap64_eq (x := cnt l + cnt h) (by omega) (by omega), wrap64_eq (x := cnt l + cnt h + 1) (by omega) (by omega), wrap64_eq (x := max (dep l) (dep h) + 1) (by omega) (by omega)]
  rfl
theorem tw_even (p : KV Int T32D) (l h : Tree Int T32D) (g1 : Avl l) (g2 : Avl h) (hc : cnt l + cnt h ≤ 100000000000) : F30 (p, l, h, ()) = some (evenT p l h, ()) := by
  have z1 := g1.sm
  have z2 := g2.sm
  obtain ⟨a1, a2, a3⟩ := z1
  obtain ⟨b1, b2, b3⟩ := z2
  unfold F30 evenT
  have e1 : wrap64 (dep h + 1) = dep h + 1 := wrap64_eq (by omega) (by omega)
  have e2 : wrap64 (dep l + 1) = dep l + 1 := wrap64_eq (by omega) (by omega)
  simp only [tw_depth, Option.bind_some, e1, e2]
  by_cases hl : dep h + 1 < dep l
  · simp only [hl, decide_true, cond_true]
    cases l with
    | leaf => simp only [dep_leaf] at hl; omega
    | node k v ll lh n d =>
      obtain ⟨c1, c2, c3, c4, c5, c6⟩ := g1
      have s1 := c1.sm
      have s2 := c2.sm
      have t1 := s1.1
      have t2 := s2.1
      simp only [cnt_node] at hc
      simp only [tw_open, tw_depth, Option.bind_some]
      by_cases hd : dep lh ≤ dep ll
      · simp only [hd, decide_true, cond_true]
        rw [tw_tree p lh h s2 g2.sm (by omega)]
        simp only [Option.bind_some]
        rw [tw_tree (k, v, ()) ll _ s1 (.mk s2 g2.sm) (by rw [cnt_mk]; omega)]
        rfl
      · simp only [hd, decide_false, cond_false]
        cases lh with
        | leaf => have := s1.2.1; simp only [dep_leaf] at hd; omega
        | node mk mv ml mh n' d' =>
          obtain ⟨f1, f2, f3, f4, f5, f6⟩ := c2
          have u1 := f1.sm.1
          have u2 := f2.sm.1
          simp only [cnt_node] at c3 t2
          simp only [tw_open, Option.bind_some]
          rw [tw_tree (k, v, ()) ll ml s1 f1.sm (by omega)]
          simp only [Option.bind_some]
          rw [tw_tree p mh h f2.sm g2.sm (by omega)]
          simp only [Option.bind_some]
          rw [tw_tree (mk, mv, ()) _ _ (.mk s1 f1.sm) (.mk f2.sm g2.sm) (by simp only [cnt_mk]; omega)]
          rfl
  · simp only [hl, decide_false, cond_false]
    by_cases hr : dep l + 1 < dep h
    · simp only [hr, decide_true, cond_true]
      cases h with
      | leaf => simp only [dep_leaf] at hr; omega
      | node k v hl' hh n d =>
        obtain ⟨c1, c2, c3, c4, c5, c6⟩ := g2
        have s1 := c1.sm
        have s2 := c2.sm
        have t1 := s1.1
        have t2 := s2.1
        simp only [cnt_node] at hc
        simp only [tw_open, tw_depth, Option.bind_some]
        by_cases hd : dep hl' ≤ dep hh
        · simp only [hd, decide_true, cond_true]
          rw [tw_tree p l hl' g1.sm s1 (by omega)]
          simp only [Option.bind_some]
          rw [tw_tree (k, v, ()) _ hh (.mk g1.sm s1) s2 (by rw [cnt_mk]; omega)]
          rfl
        · simp only [hd, decide_false, cond_false]
          cases hl' with
          | leaf => have := s2.2.1; simp only [dep_leaf] at hd; omega
          | node mk mv ml mh n' d' =>
            obtain ⟨f1, f2, f3, f4, f5, f6⟩ := c1
            have u1 := f1.sm.1
            have u2 := f2.sm.1
            simp only [cnt_node] at c3 t1
            simp only [tw_open, Option.bind_some]
            rw [tw_tree p l ml g1.sm f1.sm (by omega)]
            simp only [Option.bind_some]
            rw [tw_tree (k, v, ()) mh hh f2.sm s2 (by omega)]
            simp only [Option.bind_some]
            rw [tw_tree (mk, mv, ()) _ _ (.mk g1.sm f1.sm) (.mk f2.sm s2) (by simp only [cnt_mk]; omega)]
            rfl
    · simp only [hr, decide_false, cond_false]
      rw [tw_tree p l h g1.sm g2.sm (by omega)]
      rfl
theorem tw_putN (p : KV Int T32D) : ∀ (t : Tree Int T32D) (n : Nat), (toL t).length < n → Avl t → (toL t).length ≤ 1000000000 → recF F21s n (t, p, ()) = some (tPut ltI p t, ())
  | _, 0, h, _, _ => by omega
  | .leaf, n + 1, _, _, _ => by
    simp only [recF]
    unfold F21s
    simp only [tw_leafL, cond_true]
    rw [tw_tree p .leaf .leaf ⟨Int.le_refl 0, Int.le_refl 0, Int.le_refl 0⟩ ⟨Int.le_refl 0, Int.le_refl 0, Int.le_refl 0⟩ (by simp only [cnt_leaf]; omega)]
    rfl
  | .node k v l h c d, n + 1, hn, hg, hc => by
    obtain ⟨g1, g2, h3, h4, h5, h6⟩ := hg
    simp only [toL, List.length_append, List.length_cons] at hn hc
    have a := tw_putN p l n (by omega) g1 (by omega)
    have b := tw_putN p h n (by omega) g2 (by omega)
    have ga := (g1.put (lt := ltI) (p := p)).1
    have gb := (g2.put (lt := ltI) (p := p)).1
    have la := tPut_len (lt := ltI) (p := p) l
    have lb := tPut_len (lt := ltI) (p := p) h
    have e1 := ga.len
    have e2 := gb.len
    have e3 := g1.len
    have e4 := g2.len
    obtain ⟨pk, pv, ⟨⟩⟩ := p
    simp only [recF]
    generalize recF F21s n = G at a b ⊢
    unfold F21s tPut
    simp only [tw_leafN, cond_false, tw_open, Option.bind_some, tw_cmp, cmp3_lss LO.int, cmp3_gtr LO.int, a, b]
    cases ltI pk k with
    | true =>
      simp only [cond_true]
      rw [tw_even _ _ _ ga g2 (by omega)]
      rfl
    | false =>
      simp only [cond_false]
      cases ltI k pk with
      | true =>
        simp only [cond_true]
        rw [tw_even _ _ _ g1 gb (by omega)]
        rfl
      | false =>
        simp only [cond_false]
        rw [tw_tree _ _ _ g1.sm g2.sm (by omega)]
        rfl
theorem tw_mput (t : Tree Int T32D) (k : Int) (v : T32D) (g : Avl t) (h : (toL t).length ≤ 1000000000) : F15 ((t, ()), k, v, ()) = some ((tPut ltI (k, v, ()) t, ()), ()) := by
  unfold F15 F21
  have := tw_putN (k, v, ()) t big (by rw [big_eq]; omega) g h
  simp only [this, Option.bind_some]
theorem tw_mget (t : Tree Int T32D) (x : Int) (h : (toL t).length ≤ 1000000000) : F24 ((t, ()), x, ()) = some ((tGet ltI x t).elim ((0, 0, [], ()), false, ()) fun v => (v, true, ())) := by
  unfold F24
  refine loop_get (lt := ltI) (x := x) (z := (0, 0, [], ())) (f := fun v => (v, true, ())) ?_ ?_ t big (by rw [big_eq]; omega)
  · rfl
  · intro k v l h n d
    simp only [tw_leafN, Bool.not_false, cond_true, tw_open, Option.bind_some, tw_cmp, cmp3_lss LO.int, cmp3_gtr LO.int]
    cases ltI x k with
    | true => rfl
    | false => cases ltI k x <;> rfl
theorem tw_mlen (t : Tree Int T32D) : F14 ((t, ()), ()) = some (cnt t, ()) := by
  unfold F14
  simp only [tw_size, Option.bind_some]
theorem tw_leastN : ∀ (t : Tree Int T32D) (n : Nat) (z : KV Int T32D), (toL t).length < n → Avl t → isLeaf t = false → (toL t).length ≤ 1000000000 → recF F31s n (t, ()) = some ((tLeast t z).1, (tLeast t z).2, ())
  | _, 0, _, h, _, _, _ => by omega
  | .leaf, n + 1, _, _, _, h, _ => Bool.noConfusion h
  | .node k v l h c d, n + 1, z, hn, hg, _, hc => by
    obtain ⟨g1, g2, h3, h4, h5, h6⟩ := hg
    simp only [toL, List.length_append, List.length_cons] at hn hc
    have key : isLeaf l = false → recF F31s n (l, ()) = some ((tLeast l (k, v, ())).1, (tLeast l (k, v, ())).2, ()) := fun hl => tw_leastN l n (k, v, ()) (by omega) g1 hl (by omega)
    simp only [recF]
    generalize recF F31s n = G at key ⊢
    unfold F31s tLeast
    simp only [tw_open, Option.bind_some]
    cases hl : isLeaf l with
    | true => simp only [cond_true]
    | false =>
      have a := key hl
      obtain ⟨b1, b2, b3, b4⟩ := g1.least (k, v, ()) hl
      have e1 := b1.len
      have e2 := g2.len
      have e3 := congrArg List.length b4
      simp only [List.length_cons] at e3
      simp only [cond_false, a, Option.bind_some]
      rw [tw_even _ _ _ b1 g2 (by omega)]
      rfl
theorem tw_delN (x : Int) : ∀ (t : Tree Int T32D) (n : Nat), (toL t).length < n → Avl t → (tGet ltI x t).isSome = true → (toL t).length ≤ 1000000000 → recF F25s n (t, x, ()) = some (tDel ltI x t, ())
  | _, 0, h, _, _, _ => by omega
  | .leaf, n + 1, _, _, h, _ => Bool.noConfusion h
  | .node k v l h c d, n + 1, hn, hg, hx, hc => by
    obtain ⟨g1, g2, h3, h4, h5, h6⟩ := hg
    simp only [toL, List.length_append, List.length_cons] at hn hc
    have ga := (g1.del (lt := ltI) (x := x)).1
    have gb := (g2.del (lt := ltI) (x := x)).1
    have la := tDel_len (lt := ltI) (x := x) g1
    have lb := tDel_len (lt := ltI) (x := x) g2
    have e1 := ga.len
    have e2 := gb.len
    have e3 := g1.len
    have e4 := g2.len
    have k1 : (tGet ltI x l).isSome = true → recF F25s n (l, x, ()) = some (tDel ltI x l, ()) := fun hx => tw_delN x l n (by omega) g1 hx (by omega)
    have k2 : (tGet ltI x h).isSome = true → recF F25s n (h, x, ()) = some (tDel ltI x h, ()) := fun hx => tw_delN x h n (by omega) g2 hx (by omega)
    simp only [recF]
    generalize recF F25s n = G at k1 k2 ⊢
    unfold F25s tDel
    simp only [tw_open, Option.bind_some, tw_cmp, cmp3_lss LO.int, cmp3_gtr LO.int]
    simp only [tGet] at hx
    cases h1 : ltI x k with
    | true =>
      rw [h1] at hx
      have a := k1 hx
      simp only [cond_true, a, Option.bind_some]
      rw [tw_even _ _ _ ga g2 (by omega)]
      rfl
    | false =>
      rw [h1] at hx
      simp only [cond_false] at hx ⊢
      cases h2 : ltI k x with
      | true =>
        rw [h2] at hx
        have b := k2 hx
        simp only [cond_true, b, Option.bind_some]
        rw [tw_even _ _ _ g1 gb (by omega)]
        rfl
      | false =>
        simp only [cond_false]
        cases hl : isLeaf h with
        | true => simp only [cond_true]
        | false =>
          have b := tw_leastN h big (k, v, ()) (by rw [big_eq]; omega) g2 hl (by omega)
          have b' : F31 (h, ()) = _ := b
          obtain ⟨b1, b2, b3, b4⟩ := g2.least (k, v, ()) hl
          have f1 := b1.len
          have f3 := congrArg List.length b4
          simp only [List.length_cons] at f3
          simp only [cond_false, b', Option.bind_some]
          rw [tw_even _ _ _ g1 b1 (by omega)]
          rfl
theorem tw_mdel (t : Tree Int T32D) (x : Int) (g : Avl t) (h : (toL t).length ≤ 1000000000) : F18 ((t, ()), x, ()) = some ((bif (tGet ltI x t).isSome then tDel ltI x t else t, ()), ()) := by
  unfold F18 F25
  simp only [tw_mget t x h, Option.bind_some]
  cases hx : tGet ltI x t with
  | none => rfl
  | some v =>
    have := tw_delN x t big (by rw [big_eq]; omega) g (by rw [hx]; rfl) h
    simp only [Option.elim_some, Bool.not_true, cond_false, this, Option.bind_some, Option.isSome_some, cond_true]
theorem tw_eachN : ∀ (t : Tree Int T32D) (n : Nat) (a : List (KV Int T32D)), (toL t).length < n → a.length + (toL t).length ≤ 1000000000 → recF F26as n (t, (a, ()), ()) = some ((a ++ toL t, ()), ())
  | _, 0, _, h, _ => by omega
  | .leaf, n + 1, a, _, _ => by
    simp only [recF]
    unfold F26as
    simp only [tw_leafL, Bool.not_true, cond_false, toL, List.append_nil]
  | .node k v l h c d, n + 1, a, hn, hc => by
    simp only [toL, List.length_append, List.length_cons] at hn hc
    have b := tw_eachN l n a (by omega) (by omega)
    have e := tw_eachN h n (a ++ toL l ++ [(k, v, ())]) (by omega) (by simp only [List.length_append, List.length_cons, List.length_nil]; omega)
    simp only [recF]
    generalize recF F26as n = G at b e ⊢
    unfold F26as F27a
    simp only [tw_leafN, Bool.not_false, cond_true, tw_open, Option.bind_some, b]
    rw [appO_eq (by simp only [List.length_append, List.length_cons, List.length_nil]; simp only [capB]; omega)]
    simp only [Option.bind_some, e]
    simp only [toL, List.append_assoc, List.cons_append, List.nil_append]
theorem tw_mall (t : Tree Int T32D) (h : (toL t).length ≤ 1000000000) : F19 ((t, ()), ()) = some (toL t, ()) := by
  unfold F19 F26a
  have := tw_eachN t big [] (by rw [big_eq]; omega) (by simp only [List.length_nil]; omega)
  simp only [this, Option.bind_some, List.nil_append]
theorem tw_mat (t : Tree Int T32D) (i : Int) (g : Avl t) (h : (toL t).length ≤ 1000000000) : F23 ((t, ()), i, ()) = bif decide (0 ≤ i ∧ i < cnt t) then (tAt i t).map (fun p => (p, true, ())) else some ((0, (0, 0, [], ()), ()), false, ()) := by
  unfold F23
  have e := g.len
  simp only [tw_mlen, Option.bind_some]
  by_cases h0 : i < 0
  · have : ¬ (0 ≤ i ∧ i < cnt t) := by omega
    simp only [h0, this, decide_true, decide_false, cond_true, cond_false]
  · by_cases h1 : cnt t ≤ i
    · have : ¬ (0 ≤ i ∧ i < cnt t) := by omega
      simp only [h0, h1, this, decide_true, decide_false, cond_true, cond_false]
    · have : (0 ≤ i ∧ i < cnt t) := by omega
      simp only [h0, h1, this, decide_false, cond_false, decide_true, cond_true, and_self]
      refine loop_at (f := fun p => (p, true, ())) ?_ t big i (0, (0, 0, [], ()), ()) (by rw [big_eq]; omega) g (by omega) (by omega) (by omega)
      intro i k v l h n d z hg h0 h1 h2
      obtain ⟨g1, g2, g3, _⟩ := hg
      have s1 := g1.sm.1
      have s2 := g2.sm.1
      simp only [tw_open, Option.bind_some, tw_size]
      rw [wrap64_eq (x := i - cnt l) (by omega) (by omega), wrap64_eq (x := i - cnt l - 1) (by omega) (by omega)]
      cases decide (i < cnt l) with
      | true => rfl
      | false => cases decide (cnt l < i) <;> rfl
end Go.Proofs.Ytcbomldaooeplaa
