/-
  The program's search trees (string to []decamp/api.Ver): each function computes what the plain one does.
-/
import Derived.Test.YtphdilmnielgeaaHstPlain
import Derived.Test.YtphdilmnielgeaaSxS
namespace Go.Proofs.Ytphdilmnielgeaa
open Go.Sx Go Classical
set_option maxRecDepth 10000
theorem tx_open (k : List UInt8) (v : List VerD) (l h : Tree (List UInt8) (List VerD)) (n d : Int) : openN Ty.str (Ty.slice T37) (@Tree.node (List UInt8) (List VerD) k v l h n d) = some ((k, v, ()), l, h, n, d, ()) := rfl
theorem tx_leafN (k : List UInt8) (v : List VerD) (l h : Tree (List UInt8) (List VerD)) (n d : Int) : isLeaf (Tree.node k v l h n d) = false := rfl
theorem tx_leafL : isLeaf (Tree.leaf : Tree (List UInt8) (List VerD)) = true := rfl
theorem tx_cmp (a b : List UInt8) : F81 (a, b, ()) = some (cmp3 strlt a b, ()) := by
  unfold F81 F91 cmp3
  simp only [Option.bind_some, decide_true, Bool.not_true, cond_false, strlt_gt]
  cases strlt a b <;> cases strlt b a <;> rfl
theorem tx_size (t : Tree (List UInt8) (List VerD)) : F106 (t, ()) = some (cnt t, ()) := by cases t <;> rfl
theorem tx_depth (t : Tree (List UInt8) (List VerD)) : F105 (t, ()) = some (dep t, ()) := by cases t <;> rfl
theorem tx_tree (p : KV (List UInt8) (List VerD)) (l h : Tree (List UInt8) (List VerD)) (g1 : Sm l) (g2 : Sm h) (hc : cnt l + cnt h ≤ 1000000000000) : F103 (p, l, h, ()) = some (mkT p l h, ()) := by
  unfold F103
  obtain ⟨a1, a2, a3⟩ := g1
  obtain ⟨b1, b2, b3⟩ := g2
  simp only [tx_size, tx_depth, Option.bind_some, maxI_max]
  rw [wrap64_eq (x := cnt l + cnt h) (by omega) (by omega), wrap64_eq (x := cnt l + cnt h + 1) (by omega) (by omega), wrap64_eq (x := max (dep l) (dep h) + 1) (by omega) (by omega)]
  rfl
theorem tx_even (p : KV (List UInt8) (List VerD)) (l h : Tree (List UInt8) (List VerD)) (g1 : Avl l) (g2 : Avl h) (hc : cnt l + cnt h ≤ 100000000000) : F101 (p, l, h, ()) = some (evenT p l h, ()) := by
  have z1 := g1.sm
  have z2 := g2.sm
  obtain ⟨a1, a2, a3⟩ := z1
  obtain ⟨b1, b2, b3⟩ := z2
  unfold F101 evenT
  have e1 : wrap64 (dep h + 1) = dep h + 1 := wrap64_eq (by omega) (by omega)
  have e2 : wrap64 (dep l + 1) = dep l + 1 := wrap64_eq (by omega) (by omega)
  simp only [tx_depth, Option.bind_some, e1, e2]
  by_cases hl : dep h + 1 < dep l
  · simp only [hl, decide_true, cond_true]
    cases l with
    | leaf => simp only [dep_leaf] at hl; omega
    | node k v ll lh n d =>
      obtain ⟨c1, c2, c3, c4, c5, c6⟩ := g1
      have s1 := c1.sm
      have s2 := c2.sm
      have t1 := s1.1
      have t2 := s2.1
      simp only [cnt_node] at hc
      simp only [tx_open, tx_depth, Option.bind_some]
      by_cases hd : dep lh ≤ dep ll
      · simp only [hd, decide_true, cond_true]
        rw [tx_tree p lh h s2 g2.sm (by omega)]
        simp only [Option.bind_some]
        rw [tx_tree (k, v, ()) ll _ s1 (.mk s2 g2.sm) (by rw [cnt_mk]; omega)]
        rfl
      · simp only [hd, decide_false, cond_false]
        cases lh with
        | leaf => have := s1.2.1; simp only [dep_leaf] at hd; omega
        | node mk mv ml mh n' d' =>
          obtain ⟨f1, f2, f3, f4, f5, f6⟩ := c2
          have u1 := f1.sm.1
          have u2 := f2.sm.1
          simp only [cnt_node] at c3 t2
          simp only [tx_open, Option.bind_some]
          rw [tx_tree (k, v, ()) ll ml s1 f1.sm (by omega)]
          simp only [Option.bind_some]
          rw [tx_tree p mh h f2.sm g2.sm (by omega)]
          simp only [Option.bind_some]
          rw [tx_tree (mk, mv, ()) _ _ (.mk s1 f1.sm) (.mk f2.sm g2.sm) (by simp only [cnt_mk]; omega)]
          rfl
  · simp only [hl, decide_false, cond_false]
    by_cases hr : dep l + 1 < dep h
    · simp only [hr, decide_true, cond_true]
      cases h with
      | leaf => simp only [dep_leaf] at hr; omega
      | node k v hl' hh n d =>
        obtain ⟨c1, c2, c3, c4, c5, c6⟩ := g2
        have s1 := c1.sm
        have s2 := c2.sm
        have t1 := s1.1
        have t2 := s2.1
        simp only [cnt_node] at hc
        simp only [tx_open, tx_depth, Option.bind_some]
        by_cases hd : dep hl' ≤ dep hh
        · simp only [hd, decide_true, cond_true]
          rw [tx_tree p l hl' g1.sm s1 (by omega)]
          simp only [Option.bind_some]
          rw [tx_tree (k, v, ()) _ hh (.mk g1.sm s1) s2 (by rw [cnt_mk]; omega)]
          rfl
        · simp only [hd, decide_false, cond_false]
          cases hl' with
          | leaf => have := s2.2.1; simp only [dep_leaf] at hd; omega
          | node mk mv ml mh n' d' =>
            obtain ⟨f1, f2, f3, f4, f5, f6⟩ := c1
            have u1 := f1.sm.1
            have u2 := f2.sm.1
            simp only [cnt_node] at c3 t1
            simp only [tx_open, Option.bind_some]
            rw [tx_tree p l ml g1.sm f1.sm (by omega)]
            simp only [Option.bind_some]
            rw [tx_tree (k, v, ()) mh hh f2.sm s2 (by omega)]
            simp only [Option.bind_some]
            rw [tx_tree (mk, mv, ()) _ _ (.mk g1.sm f1.sm) (.mk f2.sm s2) (by simp only [cnt_mk]; omega)]
            rfl
    · simp only [hr, decide_false, cond_false]
      rw [tx_tree p l h g1.sm g2.sm (by omega)]
      rfl
theorem tx_putN (p : KV (List UInt8) (List VerD)) : ∀ (t : Tree (List UInt8) (List VerD)) (n : Nat), (toL t).length < n → Avl t → (toL t).length ≤ 1000000000 → recF F98s n (t, p, ()) = some (tPut strlt p t, ())
  | _, 0, h, _, _ => by omega
  | .leaf, n + 1, _, _, _ => by
    simp only [recF]
    unfold F98s
    simp only [tx_leafL, cond_true]
    rw [tx_tree p .leaf .leaf ⟨Int.le_refl 0, Int.le_refl 0, Int.le_refl 0⟩ ⟨Int.le_refl 0, Int.le_refl 0, Int.le_refl 0⟩ (by simp only [cnt_leaf]; omega)]
    rfl
  | .node k v l h c d, n + 1, hn, hg, hc => by
    obtain ⟨g1, g2, h3, h4, h5, h6⟩ := hg
    simp only [toL, List.length_append, List.length_cons] at hn hc
    have a := tx_putN p l n (by omega) g1 (by omega)
    have b := tx_putN p h n (by omega) g2 (by omega)
    have ga := (g1.put (lt := strlt) (p := p)).1
    have gb := (g2.put (lt := strlt) (p := p)).1
    have la := tPut_len (lt := strlt) (p := p) l
    have lb := tPut_len (lt := strlt) (p := p) h
    have e1 := ga.len
    have e2 := gb.len
    have e3 := g1.len
    have e4 := g2.len
    obtain ⟨pk, pv, ⟨⟩⟩ := p
    simp only [recF]
    generalize recF F98s n = G at a b ⊢
    unfold F98s tPut
    simp only [tx_leafN, cond_false, tx_open, Option.bind_some, tx_cmp, cmp3_lss LO.str, cmp3_gtr LO.str, a, b]
    cases strlt pk k with
    | true =>
      simp only [cond_true]
      rw [tx_even _ _ _ ga g2 (by omega)]
      rfl
    | false =>
      simp only [cond_false]
      cases strlt k pk with
      | true =>
        simp only [cond_true]
        rw [tx_even _ _ _ g1 gb (by omega)]
        rfl
      | false =>
        simp only [cond_false]
        rw [tx_tree _ _ _ g1.sm g2.sm (by omega)]
        rfl
theorem tx_mput (t : Tree (List UInt8) (List VerD)) (k : List UInt8) (v : List VerD) (g : Avl t) (h : (toL t).length ≤ 1000000000) : F90 ((t, ()), k, v, ()) = some ((tPut strlt (k, v, ()) t, ()), ()) := by
  unfold F90 F98
  have := tx_putN (k, v, ()) t big (by rw [big_eq]; omega) g h
  simp only [this, Option.bind_some]
theorem tx_mget (t : Tree (List UInt8) (List VerD)) (x : List UInt8) (h : (toL t).length ≤ 1000000000) : F52 ((t, ()), x, ()) = some ((tGet strlt x t).elim ([], false, ()) fun v => (v, true, ())) := by
  unfold F52
  refine loop_get (lt := strlt) (x := x) (z := ()) (f := fun v => (v, true, ())) ?_ ?_ t big (by rw [big_eq]; omega)
  · rfl
  · intro k v l h n d
    simp only [tx_leafN, Bool.not_false, cond_true, tx_open, Option.bind_some, tx_cmp, cmp3_lss LO.str, cmp3_gtr LO.str]
    cases strlt x k with
    | true => rfl
    | false => cases strlt k x <;> rfl
theorem tx_leastN : ∀ (t : Tree (List UInt8) (List VerD)) (n : Nat) (z : KV (List UInt8) (List VerD)), (toL t).length < n → Avl t → isLeaf t = false → (toL t).length ≤ 1000000000 → recF F102s n (t, ()) = some ((tLeast t z).1, (tLeast t z).2, ())
  | _, 0, _, h, _, _, _ => by omega
  | .leaf, n + 1, _, _, _, h, _ => Bool.noConfusion h
  | .node k v l h c d, n + 1, z, hn, hg, _, hc => by
    obtain ⟨g1, g2, h3, h4, h5, h6⟩ := hg
    simp only [toL, List.length_append, List.length_cons] at hn hc
    have key : isLeaf l = false → recF F102s n (l, ()) = some ((tLeast l (k, v, ())).1, (tLeast l (k, v, ())).2, ()) := fun hl => tx_leastN l n (k, v, ()) (by omega) g1 hl (by omega)
    simp only [recF]
    generalize recF F102s n = G at key ⊢
    unfold F102s tLeast
    simp only [tx_open, Option.bind_some]
    cases hl : isLeaf l with
    | true => simp only [cond_true]
    | false =>
      have a := key hl
      obtain ⟨b1, b2, b3, b4⟩ := g1.least (k, v, ()) hl
      have e1 := b1.len
      have e2 := g2.len
      have e3 := congrArg List.length b4
      simp only [List.length_cons] at e3
      simp only [cond_false, a, Option.bind_some]
      rw [tx_even _ _ _ b1 g2 (by omega)]
      rfl
theorem tx_delN (x : List UInt8) : ∀ (t : Tree (List UInt8) (List VerD)) (n : Nat), (toL t).length < n → Avl t → (tGet strlt x t).isSome = true → (toL t).length ≤ 1000000000 → recF F97s n (t, x, ()) = some (tDel strlt x t, ())
  | _, 0, h, _, _, _ => by omega
  | .leaf, n + 1, _, _, h, _ => Bool.noConfusion h
  | .node k v l h c d, n + 1, hn, hg, hx, hc => by
    obtain ⟨g1, g2, h3, h4, h5, h6⟩ := hg
    simp only [toL, List.length_append, List.length_cons] at hn hc
    have ga := (g1.del (lt := strlt) (x := x)).1
    have gb := (g2.del (lt := strlt) (x := x)).1
    have la := tDel_len (lt := strlt) (x := x) g1
    have lb := tDel_len (lt := strlt) (x := x) g2
    have e1 := ga.len
    have e2 := gb.len
    have e3 := g1.len
    have e4 := g2.len
    have k1 : (tGet strlt x l).isSome = true → recF F97s n (l, x, ()) = some (tDel strlt x l, ()) := fun hx => tx_delN x l n (by omega) g1 hx (by omega)
    have k2 : (tGet strlt x h).isSome = true → recF F97s n (h, x, ()) = some (tDel strlt x h, ()) := fun hx => tx_delN x h n (by omega) g2 hx (by omega)
    simp only [recF]
    generalize recF F97s n = G at k1 k2 ⊢
    unfold F97s tDel
    simp only [tx_open, Option.bind_some, tx_cmp, cmp3_lss LO.str, cmp3_gtr LO.str]
    simp only [tGet] at hx
    cases h1 : strlt x k with
    | true =>
      rw [h1] at hx
      have a := k1 hx
      simp only [cond_true, a, Option.bind_some]
      rw [tx_even _ _ _ ga g2 (by omega)]
      rfl
    | false =>
      rw [h1] at hx
      simp only [cond_false] at hx ⊢
      cases h2 : strlt k x with
      | true =>
        rw [h2] at hx
        have b := k2 hx
        simp only [cond_true, b, Option.bind_some]
        rw [tx_even _ _ _ g1 gb (by omega)]
        rfl
      | false =>
        simp only [cond_false]
        cases hl : isLeaf h with
        | true => simp only [cond_true]
        | false =>
          have b := tx_leastN h big (k, v, ()) (by rw [big_eq]; omega) g2 hl (by omega)
          have b' : F102 (h, ()) = _ := b
          obtain ⟨b1, b2, b3, b4⟩ := g2.least (k, v, ()) hl
          have f1 := b1.len
          have f3 := congrArg List.length b4
          simp only [List.length_cons] at f3
          simp only [cond_false, b', Option.bind_some]
          rw [tx_even _ _ _ g1 b1 (by omega)]
          rfl
theorem tx_mdel (t : Tree (List UInt8) (List VerD)) (x : List UInt8) (g : Avl t) (h : (toL t).length ≤ 1000000000) : F89 ((t, ()), x, ()) = some ((bif (tGet strlt x t).isSome then tDel strlt x t else t, ()), ()) := by
  unfold F89 F97
  simp only [tx_mget t x h, Option.bind_some]
  cases hx : tGet strlt x t with
  | none => rfl
  | some v =>
    have := tx_delN x t big (by rw [big_eq]; omega) g (by rw [hx]; rfl) h
    simp only [Option.elim_some, Bool.not_true, cond_false, this, Option.bind_some, Option.isSome_some, cond_true]
theorem tx_eachN : ∀ (t : Tree (List UInt8) (List VerD)) (n : Nat) (a : List (KV (List UInt8) (List VerD))), (toL t).length < n → a.length + (toL t).length ≤ 1000000000 → recF F82as n (t, (a, ()), ()) = some ((a ++ toL t, ()), ())
  | _, 0, _, h, _ => by omega
  | .leaf, n + 1, a, _, _ => by
    simp only [recF]
    unfold F82as
    simp only [tx_leafL, Bool.not_true, cond_false, toL, List.append_nil]
  | .node k v l h c d, n + 1, a, hn, hc => by
    simp only [toL, List.length_append, List.length_cons] at hn hc
    have b := tx_eachN l n a (by omega) (by omega)
    have e := tx_eachN h n (a ++ toL l ++ [(k, v, ())]) (by omega) (by simp only [List.length_append, List.length_cons, List.length_nil]; omega)
    simp only [recF]
    generalize recF F82as n = G at b e ⊢
    unfold F82as F83a
    simp only [tx_leafN, Bool.not_false, cond_true, tx_open, Option.bind_some, b]
    rw [appO_eq (by simp only [List.length_append, List.length_cons, List.length_nil]; simp only [capB]; omega)]
    simp only [Option.bind_some, e]
    simp only [toL, List.append_assoc, List.cons_append, List.nil_append]
theorem tx_mall (t : Tree (List UInt8) (List VerD)) (h : (toL t).length ≤ 1000000000) : F56 ((t, ()), ()) = some (toL t, ()) := by
  unfold F56 F82a
  have := tx_eachN t big [] (by rw [big_eq]; omega) (by simp only [List.length_nil]; omega)
  simp only [this, Option.bind_some, List.nil_append]
theorem tx_walkN (a b : List UInt8) : ∀ (t : Tree (List UInt8) (List VerD)) (n : Nat) (o : List (KV (List UInt8) (List VerD))), (toL t).length < n → o.length + (toL t).length ≤ 1000000000 → recF F93as n (t, a, b, (o, ()), ()) = some ((o ++ tWalk strlt a b t, ()), ()) ∧ (tWalk strlt a b t).length ≤ (toL t).length
  | _, 0, _, h, _ => by omega
  | .leaf, n + 1, o, _, _ => by
    simp only [recF]
    unfold F93as
    simp only [tx_leafL, cond_true, tWalk, List.append_nil, toL, List.length_nil, Nat.le_refl, and_self]
  | .node k v l h c d, n + 1, o, hn, hc => by
    simp only [toL, List.length_append, List.length_cons] at hn hc
    obtain ⟨e1, e2⟩ := tx_walkN a b l n o (by omega) (by omega)
    obtain ⟨f1, f2⟩ := tx_walkN a b h n o (by omega) (by omega)
    have q1 := (tx_walkN a b h n (o ++ tWalk strlt a b l ++ [(k, v, ())]) (by omega) (by simp only [List.length_append, List.length_cons, List.length_nil]; omega)).1
    simp only [recF]
    generalize recF F93as n = G at e1 f1 q1 ⊢
    unfold F93as F94a
    simp only [tx_leafN, cond_false, tx_open, Option.bind_some, tx_cmp, cmp3_geq LO.str, cmp3_lss LO.str, e1, tWalk]
    cases h1 : strlt k a with
    | true =>
      simp only [Bool.not_true, cond_false, Option.bind_some, Sum.elim_inl, Bool.false_and, List.nil_append, toL, List.length_append, List.length_cons]
      cases h2 : strlt k b with
      | true => simp only [cond_true, f1, Option.bind_some]; exact ⟨trivial, by omega⟩
      | false => simp only [cond_false, List.append_nil, List.length_nil]; exact ⟨trivial, by omega⟩
    | false =>
      simp only [Bool.not_false, cond_true, Option.bind_some, Sum.elim_inl, Bool.true_and, toL, List.length_append, List.length_cons]
      cases h2 : strlt k b with
      | true =>
        simp only [cond_true]
        rw [appO_eq (by simp only [List.length_append, List.length_cons, List.length_nil]; simp only [capB]; omega)]
        simp only [Option.bind_some, Sum.elim_inl, q1]
        simp only [List.append_assoc, List.length_cons, List.length_nil]
        exact ⟨trivial, by omega⟩
      | false => simp only [cond_false, Option.bind_some, Sum.elim_inl, List.append_nil, List.length_nil]; exact ⟨trivial, by omega⟩
theorem tx_mbetween (t : Tree (List UInt8) (List VerD)) (a b : List UInt8) (h : (toL t).length ≤ 1000000000) : F86 ((t, ()), a, b, ()) = some (tWalk strlt a b t, ()) := by
  unfold F86 F93a
  have := (tx_walkN a b t big [] (by rw [big_eq]; omega) (by simp only [List.length_nil]; omega)).1
  simp only [this, Option.bind_some, List.nil_append]
end Go.Proofs.Ytphdilmnielgeaa
