/-
  The program's search trees (string to int64): each function computes what the plain one does.
-/
import Derived.Test.YtgbmnillcdjdeaaOrderOk
import Derived.Test.YtgbmnillcdjdeaaSxR
namespace Go.Proofs.Ytgbmnillcdjdeaa
open Go.Sx Go Classical
set_option maxRecDepth 10000
theorem ts_open (k : List UInt8) (v : Int) (l h : Tree (List UInt8) Int) (n d : Int) : openN Ty.str (Ty.int IntKind.i64) (@Tree.node (List UInt8) Int k v l h n d) = some ((k, v, ()), l, h, n, d, ()) := rfl
theorem ts_leafN (k : List UInt8) (v : Int) (l h : Tree (List UInt8) Int) (n d : Int) : isLeaf (Tree.node k v l h n d) = false := rfl
theorem ts_leafL : isLeaf (Tree.leaf : Tree (List UInt8) Int) = true := rfl
theorem ts_cmp (a b : List UInt8) : F48 (a, b, ()) = some (cmp3 strlt a b, ()) := by
  unfold F48 F62 cmp3
  simp only [Option.bind_some, decide_true, Bool.not_true, cond_false, strlt_gt]
  cases strlt a b <;> cases strlt b a <;> rfl
theorem ts_size (t : Tree (List UInt8) Int) : F45 (t, ()) = some (cnt t, ()) := by cases t <;> rfl
theorem ts_depth (t : Tree (List UInt8) Int) : F67 (t, ()) = some (dep t, ()) := by cases t <;> rfl
theorem ts_tree (p : KV (List UInt8) Int) (l h : Tree (List UInt8) Int) (g1 : Sm l) (g2 : Sm h) (hc : cnt l + cnt h ≤ 1000000000000) : F55 (p, l, h, ()) = some (mkT p l h, ()) := by
  unfold F55
  obtain ⟨a1, a2, a3⟩ := g1
  obtain ⟨b1, b2, b3⟩ := g2
  simp only [ts_size, ts_depth, Option.bind_some, maxI_max]
  rw [wrap64_eq (x := cnt l + cnt h) (by omega) (by omega), wrap64_eq (x := cnt l + cnt h + 1) (by omega) (by omega), wrap64_eq (x := max (dep l) (dep h) + 1) (by omega) (by omega)]
  rfl
theorem ts_even (p : KV (List UInt8) Int) (l h : Tree (List UInt8) Int) (g1 : Avl l) (g2 : Avl h) (hc : cnt l + cnt h ≤ 100000000000) : F56 (p, l, h, ()) = some (evenT p l h, ()) := by
  have z1 := g1.sm
  have z2 := g2.sm
  obtain ⟨a1, a2, a3⟩ := z1
  obtain ⟨b1, b2, b3⟩ := z2
  unfold F56 evenT
  have e1 : wrap64 (dep h + 1) = dep h + 1 := wrap64_eq (by omega) (by omega)
  have e2 : wrap64 (dep l + 1) = dep l + 1 := wrap64_eq (by omega) (by omega)
  simp only [ts_depth, Option.bind_some, e1, e2]
  by_cases hl : dep h + 1 < dep l
  · simp only [hl, decide_true, cond_true]
    cases l with
    | leaf => simp only [dep_leaf] at hl; omega
    | node k v ll lh n d =>
      obtain ⟨c1, c2, c3, c4, c5, c6⟩ := g1
      have s1 := c1.sm
      have s2 := c2.sm
      have t1 := s1.1
      have t2 := s2.1
      simp only [cnt_node] at hc
      simp only [ts_open, ts_depth, Option.bind_some]
      by_cases hd : dep lh ≤ dep ll
      · simp only [hd, decide_true, cond_true]
        rw [ts_tree p lh h s2 g2.sm (by omega)]
        simp only [Option.bind_some]
        rw [ts_tree (k, v, ()) ll _ s1 (.mk s2 g2.sm) (by rw [cnt_mk]; omega)]
        rfl
      · simp only [hd, decide_false, cond_false]
        cases lh with
        | leaf => have := s1.2.1; simp only [dep_leaf] at hd; omega
        | node mk mv ml mh n' d' =>
          obtain ⟨f1, f2, f3, f4, f5, f6⟩ := c2
          have u1 := f1.sm.1
          have u2 := f2.sm.1
          simp only [cnt_node] at c3 t2
          simp only [ts_open, Option.bind_some]
          rw [ts_tree (k, v, ()) ll ml s1 f1.sm (by omega)]
          simp only [Option.bind_some]
          rw [ts_tree p mh h f2.sm g2.sm (by omega)]
          simp only [Option.bind_some]
          rw [ts_tree (mk, mv, ()) _ _ (.mk s1 f1.sm) (.mk f2.sm g2.sm) (by simp only [cnt_mk]; omega)]
          rfl
  · simp only [hl, decide_false, cond_false]
    by_cases hr : dep l + 1 < dep h
    · simp only [hr, decide_true, cond_true]
      cases h with
      | leaf => simp only [dep_leaf] at hr; omega
      | node k v hl' hh n d =>
        obtain ⟨c1, c2, c3, c4, c5, c6⟩ := g2
        have s1 := c1.sm
        have s2 := c2.sm
        have t1 := s1.1
        have t2 := s2.1
        simp only [cnt_node] at hc
        simp only [ts_open, ts_depth, Option.bind_some]
        by_cases hd : dep hl' ≤ dep hh
        · simp only [hd, decide_true, cond_true]
          rw [ts_tree p l hl' g1.sm s1 (by omega)]
          simp only [Option.bind_some]
          rw [ts_tree (k, v, ()) _ hh (.mk g1.sm s1) s2 (by rw [cnt_mk]; omega)]
          rfl
        · simp only [hd, decide_false, cond_false]
          cases hl' with
          | leaf => have := s2.2.1; simp only [dep_leaf] at hd; omega
          | node mk mv ml mh n' d' =>
            obtain ⟨f1, f2, f3, f4, f5, f6⟩ := c1
            have u1 := f1.sm.1
            have u2 := f2.sm.1
            simp only [cnt_node] at c3 t1
            simp only [ts_open, Option.bind_some]
            rw [ts_tree p l ml g1.sm f1.sm (by omega)]
            simp only [Option.bind_some]
            rw [ts_tree (k, v, ()) mh hh f2.sm s2 (by omega)]
            simp only [Option.bind_some]
            rw [ts_tree (mk, mv, ()) _ _ (.mk g1.sm f1.sm) (.mk f2.sm s2) (by simp only [cnt_mk]; omega)]
            rfl
    · simp only [hr, decide_false, cond_false]
      rw [ts_tree p l h g1.sm g2.sm (by omega)]
      rfl
theorem ts_putN (p : KV (List UInt8) Int) : ∀ (t : Tree (List UInt8) Int) (n : Nat), (toL t).length < n → Avl t → (toL t).length ≤ 1000000000 → recF F34s n (t, p, ()) = some (tPut strlt p t, ())
  | _, 0, h, _, _ => by omega
  | .leaf, n + 1, _, _, _ => by
    simp only [recF]
    unfold F34s
    simp only [ts_leafL, cond_true]
    rw [ts_tree p .leaf .leaf ⟨Int.le_refl 0, Int.le_refl 0, Int.le_refl 0⟩ ⟨Int.le_refl 0, Int.le_refl 0, Int.le_refl 0⟩ (by simp only [cnt_leaf]; omega)]
    rfl
  | .node k v l h c d, n + 1, hn, hg, hc => by
    obtain ⟨g1, g2, h3, h4, h5, h6⟩ := hg
    simp only [toL, List.length_append, List.length_cons] at hn hc
    have a := ts_putN p l n (by omega) g1 (by omega)
    have b := ts_putN p h n (by omega) g2 (by omega)
    have ga := (g1.put (lt := strlt) (p := p)).1
    have gb := (g2.put (lt := strlt) (p := p)).1
    have la := tPut_len (lt := strlt) (p := p) l
    have lb := tPut_len (lt := strlt) (p := p) h
    have e1 := ga.len
    have e2 := gb.len
    have e3 := g1.len
    have e4 := g2.len
    obtain ⟨pk, pv, ⟨⟩⟩ := p
    simp only [recF]
    generalize recF F34s n = G at a b ⊢
    unfold F34s tPut
    simp only [ts_leafN, cond_false, ts_open, Option.bind_some, ts_cmp, cmp3_lss LO.str, cmp3_gtr LO.str, a, b]
    cases strlt pk k with
    | true =>
      simp only [cond_true]
      rw [ts_even _ _ _ ga g2 (by omega)]
      rfl
    | false =>
      simp only [cond_false]
      cases strlt k pk with
      | true =>
        simp only [cond_true]
        rw [ts_even _ _ _ g1 gb (by omega)]
        rfl
      | false =>
        simp only [cond_false]
        rw [ts_tree _ _ _ g1.sm g2.sm (by omega)]
        rfl
theorem ts_mput (t : Tree (List UInt8) Int) (k : List UInt8) (v : Int) (g : Avl t) (h : (toL t).length ≤ 1000000000) : F10 ((t, ()), k, v, ()) = some ((tPut strlt (k, v, ()) t, ()), ()) := by
  unfold F10 F34
  have := ts_putN (k, v, ()) t big (by rw [big_eq]; omega) g h
  simp only [this, Option.bind_some]
theorem ts_mget (t : Tree (List UInt8) Int) (x : List UInt8) (h : (toL t).length ≤ 1000000000) : F30 ((t, ()), x, ()) = some ((tGet strlt x t).elim (0, false, ()) fun v => (v, true, ())) := by
  unfold F30
  refine loop_get (lt := strlt) (x := x) (f := fun v => (v, true, ())) ?_ ?_ t big (by rw [big_eq]; omega)
  · rfl
  · intro k v l h n d
    simp only [ts_leafN, Bool.not_false, cond_true, ts_open, Option.bind_some, ts_cmp, cmp3_lss LO.str, cmp3_gtr LO.str]
    cases strlt x k with
    | true => rfl
    | false => cases strlt k x <;> rfl
theorem ts_mlen (t : Tree (List UInt8) Int) : F21 ((t, ()), ()) = some (cnt t, ()) := by
  unfold F21
  simp only [ts_size, Option.bind_some]
theorem ts_leastN : ∀ (t : Tree (List UInt8) Int) (n : Nat) (z : KV (List UInt8) Int), (toL t).length < n → Avl t → isLeaf t = false → (toL t).length ≤ 1000000000 → recF F69s n (t, ()) = some ((tLeast t z).1, (tLeast t z).2, ())
  | _, 0, _, h, _, _, _ => by omega
  | .leaf, n + 1, _, _, _, h, _ => Bool.noConfusion h
  | .node k v l h c d, n + 1, z, hn, hg, _, hc => by
    obtain ⟨g1, g2, h3, h4, h5, h6⟩ := hg
    simp only [toL, List.length_append, List.length_cons] at hn hc
    have key : isLeaf l = false → recF F69s n (l, ()) = some ((tLeast l (k, v, ())).1, (tLeast l (k, v, ())).2, ()) := fun hl => ts_leastN l n (k, v, ()) (by omega) g1 hl (by omega)
    simp only [recF]
    generalize recF F69s n = G at key ⊢
    unfold F69s tLeast
    simp only [ts_open, Option.bind_some]
    cases hl : isLeaf l with
    | true => simp only [cond_true]
    | false =>
      have a := key hl
      obtain ⟨b1, b2, b3, b4⟩ := g1.least (k, v, ()) hl
      have e1 := b1.len
      have e2 := g2.len
      have e3 := congrArg List.length b4
      simp only [List.length_cons] at e3
      simp only [cond_false, a, Option.bind_some]
      rw [ts_even _ _ _ b1 g2 (by omega)]
      rfl
theorem ts_delN (x : List UInt8) : ∀ (t : Tree (List UInt8) Int) (n : Nat), (toL t).length < n → Avl t → (tGet strlt x t).isSome = true → (toL t).length ≤ 1000000000 → recF F61s n (t, x, ()) = some (tDel strlt x t, ())
  | _, 0, h, _, _, _ => by omega
  | .leaf, n + 1, _, _, h, _ => Bool.noConfusion h
  | .node k v l h c d, n + 1, hn, hg, hx, hc => by
    obtain ⟨g1, g2, h3, h4, h5, h6⟩ := hg
    simp only [toL, List.length_append, List.length_cons] at hn hc
    have ga := (g1.del (lt := strlt) (x := x)).1
    have gb := (g2.del (lt := strlt) (x := x)).1
    have la := tDel_len (lt := strlt) (x := x) g1
    have lb := tDel_len (lt := strlt) (x := x) g2
    have e1 := ga.len
    have e2 := gb.len
    have e3 := g1.len
    have e4 := g2.len
    have k1 : (tGet strlt x l).isSome = true → recF F61s n (l, x, ()) = some (tDel strlt x l, ()) := fun hx => ts_delN x l n (by omega) g1 hx (by omega)
    have k2 : (tGet strlt x h).isSome = true → recF F61s n (h, x, ()) = some (tDel strlt x h, ()) := fun hx => ts_delN x h n (by omega) g2 hx (by omega)
    simp only [recF]
    generalize recF F61s n = G at k1 k2 ⊢
    unfold F61s tDel
    simp only [ts_open, Option.bind_some, ts_cmp, cmp3_lss LO.str, cmp3_gtr LO.str]
    simp only [tGet] at hx
    cases h1 : strlt x k with
    | true =>
      rw [h1] at hx
      have a := k1 hx
      simp only [cond_true, a, Option.bind_some]
      rw [ts_even _ _ _ ga g2 (by omega)]
      rfl
    | false =>
      rw [h1] at hx
      simp only [cond_false] at hx ⊢
      cases h2 : strlt k x with
      | true =>
        rw [h2] at hx
        have b := k2 hx
        simp only [cond_true, b, Option.bind_some]
        rw [ts_even _ _ _ g1 gb (by omega)]
        rfl
      | false =>
        simp only [cond_false]
        cases hl : isLeaf h with
        | true => simp only [cond_true]
        | false =>
          have b := ts_leastN h big (k, v, ()) (by rw [big_eq]; omega) g2 hl (by omega)
          have b' : F69 (h, ()) = _ := b
          obtain ⟨b1, b2, b3, b4⟩ := g2.least (k, v, ()) hl
          have f1 := b1.len
          have f3 := congrArg List.length b4
          simp only [List.length_cons] at f3
          simp only [cond_false, b', Option.bind_some]
          rw [ts_even _ _ _ g1 b1 (by omega)]
          rfl
theorem ts_mdel (t : Tree (List UInt8) Int) (x : List UInt8) (g : Avl t) (h : (toL t).length ≤ 1000000000) : F42 ((t, ()), x, ()) = some ((bif (tGet strlt x t).isSome then tDel strlt x t else t, ()), ()) := by
  unfold F42 F61
  simp only [ts_mget t x h, Option.bind_some]
  cases hx : tGet strlt x t with
  | none => rfl
  | some v =>
    have := ts_delN x t big (by rw [big_eq]; omega) g (by rw [hx]; rfl) h
    simp only [Option.elim_some, Bool.not_true, cond_false, this, Option.bind_some, Option.isSome_some, cond_true]
theorem ts_eachN : ∀ (t : Tree (List UInt8) Int) (n : Nat) (a : List (KV (List UInt8) Int)), (toL t).length < n → a.length + (toL t).length ≤ 1000000000 → recF F35as n (t, (a, ()), ()) = some ((a ++ toL t, ()), ())
  | _, 0, _, h, _ => by omega
  | .leaf, n + 1, a, _, _ => by
    simp only [recF]
    unfold F35as
    simp only [ts_leafL, Bool.not_true, cond_false, toL, List.append_nil]
  | .node k v l h c d, n + 1, a, hn, hc => by
    simp only [toL, List.length_append, List.length_cons] at hn hc
    have b := ts_eachN l n a (by omega) (by omega)
    have e := ts_eachN h n (a ++ toL l ++ [(k, v, ())]) (by omega) (by simp only [List.length_append, List.length_cons, List.length_nil]; omega)
    simp only [recF]
    generalize recF F35as n = G at b e ⊢
    unfold F35as F36a
    simp only [ts_leafN, Bool.not_false, cond_true, ts_open, Option.bind_some, b]
    rw [appO_eq (by simp only [List.length_append, List.length_cons, List.length_nil]; simp only [capB]; omega)]
    simp only [Option.bind_some, e]
    simp only [toL, List.append_assoc, List.cons_append, List.nil_append]
theorem ts_mall (t : Tree (List UInt8) Int) (h : (toL t).length ≤ 1000000000) : F11 ((t, ()), ()) = some (toL t, ()) := by
  unfold F11 F35a
  have := ts_eachN t big [] (by rw [big_eq]; omega) (by simp only [List.length_nil]; omega)
  simp only [this, Option.bind_some, List.nil_append]
theorem ts_mrank (t : Tree (List UInt8) Int) (x : List UInt8) (g : Avl t) (h : (toL t).length ≤ 1000000000) : F23 ((t, ()), x, ()) = some (tRank strlt x t, ()) := by
  unfold F23
  have e := g.len
  refine Eq.trans (loop_rank (lt := strlt) (x := x) ?_ ?_ t big 0 (by rw [big_eq]; omega) g (Int.le_refl 0) (by omega)) (by rw [Int.zero_add])
  · intro a; rfl
  · intro a k v l h n d hg h0 ha
    obtain ⟨g1, g2, g3, _⟩ := hg
    have s1 := g1.sm.1
    have s2 := g2.sm.1
    simp only [ts_leafN, Bool.not_false, cond_true, ts_open, Option.bind_some, ts_cmp, cmp3_leq LO.str, ts_size]
    rw [wrap64_eq (x := cnt l + 1) (by omega) (by omega), wrap64_eq (x := a + (cnt l + 1)) (by omega) (by omega)]
    cases strlt k x <;> rfl
theorem ts_mat (t : Tree (List UInt8) Int) (i : Int) (g : Avl t) (h : (toL t).length ≤ 1000000000) : F20 ((t, ()), i, ()) = bif decide (0 ≤ i ∧ i < cnt t) then (tAt i t).map (fun p => (p, true, ())) else some (([], 0, ()), false, ()) := by
  unfold F20
  have e := g.len
  simp only [ts_mlen, Option.bind_some]
  by_cases h0 : i < 0
  · have : ¬ (0 ≤ i ∧ i < cnt t) := by omega
    simp only [h0, this, decide_true, decide_false, cond_true, cond_false]
  · by_cases h1 : cnt t ≤ i
    · have : ¬ (0 ≤ i ∧ i < cnt t) := by omega
      simp only [h0, h1, this, decide_true, decide_false, cond_true, cond_false]
    · have : (0 ≤ i ∧ i < cnt t) := by omega
      simp only [h0, h1, this, decide_false, cond_false, decide_true, cond_true, and_self]
      refine loop_at (f := fun p => (p, true, ())) ?_ t big i ([], 0, ()) (by rw [big_eq]; omega) g (by omega) (by omega) (by omega)
      intro i k v l h n d z hg h0 h1 h2
      obtain ⟨g1, g2, g3, _⟩ := hg
      have s1 := g1.sm.1
      have s2 := g2.sm.1
      simp only [ts_open, Option.bind_some, ts_size]
      rw [wrap64_eq (x := i - cnt l) (by omega) (by omega), wrap64_eq (x := i - cnt l - 1) (by omega) (by omega)]
      cases decide (i < cnt l) with
      | true => rfl
      | false => cases decide (cnt l < i) <;> rfl
theorem ts_walkN (a b : List UInt8) : ∀ (t : Tree (List UInt8) Int) (n : Nat) (o : List (KV (List UInt8) Int)), (toL t).length < n → o.length + (toL t).length ≤ 1000000000 → recF F46as n (t, a, b, (o, ()), ()) = some ((o ++ tWalk strlt a b t, ()), ()) ∧ (tWalk strlt a b t).length ≤ (toL t).length
  | _, 0, _, h, _ => by omega
  | .leaf, n + 1, o, _, _ => by
    simp only [recF]
    unfold F46as
    simp only [ts_leafL, cond_true, tWalk, List.append_nil, toL, List.length_nil, Nat.le_refl, and_self]
  | .node k v l h c d, n + 1, o, hn, hc => by
    simp only [toL, List.length_append, List.length_cons] at hn hc
    obtain ⟨e1, e2⟩ := ts_walkN a b l n o (by omega) (by omega)
    obtain ⟨f1, f2⟩ := ts_walkN a b h n o (by omega) (by omega)
    have q1 := (ts_walkN a b h n (o ++ tWalk strlt a b l ++ [(k, v, ())]) (by omega) (by simp only [List.length_append, List.length_cons, List.length_nil]; omega)).1
    simp only [recF]
    generalize recF F46as n = G at e1 f1 q1 ⊢
    unfold F46as F47a
    simp only [ts_leafN, cond_false, ts_open, Option.bind_some, ts_cmp, cmp3_geq LO.str, cmp3_lss LO.str, e1, tWalk]
    cases h1 : strlt k a with
    | true =>
      simp only [Bool.not_true, cond_false, Option.bind_some, Sum.elim_inl, Bool.false_and, List.nil_append, toL, List.length_append, List.length_cons]
      cases h2 : strlt k b with
      | true => simp only [cond_true, f1, Option.bind_some]; exact ⟨trivial, by omega⟩
      | false => simp only [cond_false, List.append_nil, List.length_nil]; exact ⟨trivial, by omega⟩
    | false =>
      simp only [Bool.not_false, cond_true, Option.bind_some, Sum.elim_inl, Bool.true_and, toL, List.length_append, List.length_cons]
      cases h2 : strlt k b with
      | true =>
        simp only [cond_true]
        rw [appO_eq (by simp only [List.length_append, List.length_cons, List.length_nil]; simp only [capB]; omega)]
        simp only [Option.bind_some, Sum.elim_inl, q1]
        simp only [List.append_assoc, List.length_cons, List.length_nil]
        exact ⟨trivial, by omega⟩
      | false => simp only [cond_false, Option.bind_some, Sum.elim_inl, List.append_nil, List.length_nil]; exact ⟨trivial, by omega⟩
theorem ts_mbetween (t : Tree (List UInt8) Int) (a b : List UInt8) (h : (toL t).length ≤ 1000000000) : F22 ((t, ()), a, b, ()) = some (tWalk strlt a b t, ()) := by
  unfold F22 F46a
  have := (ts_walkN a b t big [] (by rw [big_eq]; omega) (by simp only [List.length_nil]; omega)).1
  simp only [this, Option.bind_some, List.nil_append]
end Go.Proofs.Ytgbmnillcdjdeaa
