/-
  The program's search trees (int64 to string): each function computes what the plain one does.
-/
import Derived.Test.YtgbmnillcdjdeaaOrderTreeU
import Derived.Test.YtgbmnillcdjdeaaSxR
namespace Go.Proofs.Ytgbmnillcdjdeaa
open Go.Sx Go Classical
set_option maxRecDepth 10000
theorem ti_open (k : Int) (v : List UInt8) (l h : Tree Int (List UInt8)) (n d : Int) : openN (Ty.int IntKind.i64) Ty.str (@Tree.node Int (List UInt8) k v l h n d) = some ((k, v, ()), l, h, n, d, ()) := rfl
theorem ti_leafN (k : Int) (v : List UInt8) (l h : Tree Int (List UInt8)) (n d : Int) : isLeaf (Tree.node k v l h n d) = false := rfl
theorem ti_leafL : isLeaf (Tree.leaf : Tree Int (List UInt8)) = true := rfl
theorem ti_cmp (a b : Int) : F49 (a, b, ()) = some (cmp3 ltI a b, ()) := by
  unfold F49 F63 cmp3
  simp only [Option.bind_some, decide_true, Bool.not_true, cond_false, show decide (a < b) = ltI a b from rfl, show decide (b < a) = ltI b a from rfl]
  cases ltI a b <;> cases ltI b a <;> rfl
theorem ti_size (t : Tree Int (List UInt8)) : F53 (t, ()) = some (cnt t, ()) := by cases t <;> rfl
theorem ti_depth (t : Tree Int (List UInt8)) : F70 (t, ()) = some (dep t, ()) := by cases t <;> rfl
theorem ti_tree (p : KV Int (List UInt8)) (l h : Tree Int (List UInt8)) (g1 : Sm l) (g2 : Sm h) (hc : cnt l + cnt h ≤ 1000000000000) : F64 (p, l, h, ()) = some (mkT p l h, ()) := by
  unfold F64
  obtain ⟨a1, a2, a3⟩ := g1
  obtain ⟨b1, b2, b3⟩ := g2
  simp only [ti_size, ti_depth, Option.bind_some, maxI_max]
  rw [wrap64_eq (x := cnt l + cnt h) (by omega) (by omega), wrap64_eq (x := cnt l + cnt h + 1) (by omega) (by omega), wrap64_eq (x := max (dep l) (dep h) + 1) (by omega) (by omega)]
  rfl
theorem ti_even (p : KV Int (List UInt8)) (l h : Tree Int (List UInt8)) (g1 : Avl l) (g2 : Avl h) (hc : cnt l + cnt h ≤ 100000000000) : F65 (p, l, h, ()) = some (evenT p l h, ()) := by
  have z1 := g1.sm
  have z2 := g2.sm
  obtain ⟨a1, a2, a3⟩ := z1
  obtain ⟨b1, b2, b3⟩ := z2
  unfold F65 evenT
  have e1 : wrap64 (dep h + 1) = dep h + 1 := wrap64_eq (by omega) (by omega)
  have e2 : wrap64 (dep l + 1) = dep l + 1 := wrap64_eq (by omega) (by omega)
  simp only [ti_depth, Option.bind_some, e1, e2]
  by_cases hl : dep h + 1 < dep l
  · simp only [hl, decide_true, cond_true]
    cases l with
    | leaf => simp only [dep_leaf] at hl; omega
    | node k v ll lh n d =>
      obtain ⟨c1, c2, c3, c4, c5, c6⟩ := g1
      have s1 := c1.sm
      have s2 := c2.sm
      have t1 := s1.1
      have t2 := s2.1
      simp only [cnt_node] at hc
      simp only [ti_open, ti_depth, Option.bind_some]
      by_cases hd : dep lh ≤ dep ll
      · simp only [hd, decide_true, cond_true]
        rw [ti_tree p lh h s2 g2.sm (by omega)]
        simp only [Option.bind_some]
        rw [ti_tree (k, v, ()) ll _ s1 (.mk s2 g2.sm) (by rw [cnt_mk]; omega)]
        rfl
      · simp only [hd, decide_false, cond_false]
        cases lh with
        | leaf => have := s1.2.1; simp only [dep_leaf] at hd; omega
        | node mk mv ml mh n' d' =>
          obtain ⟨f1, f2, f3, f4, f5, f6⟩ := c2
          have u1 := f1.sm.1
          have u2 := f2.sm.1
          simp only [cnt_node] at c3 t2
          simp only [ti_open, Option.bind_some]
          rw [ti_tree (k, v, ()) ll ml s1 f1.sm (by omega)]
          simp only [Option.bind_some]
          rw [ti_tree p mh h f2.sm g2.sm (by omega)]
          simp only [Option.bind_some]
          rw [ti_tree (mk, mv, ()) _ _ (.mk s1 f1.sm) (.mk f2.sm g2.sm) (by simp only [cnt_mk]; omega)]
          rfl
  · simp only [hl, decide_false, cond_false]
    by_cases hr : dep l + 1 < dep h
    · simp only [hr, decide_true, cond_true]
      cases h with
      | leaf => simp only [dep_leaf] at hr; omega
      | node k v hl' hh n d =>
        obtain ⟨c1, c2, c3, c4, c5, c6⟩ := g2
        have s1 := c1.sm
        have s2 := c2.sm
        have t1 := s1.1
        have t2 := s2.1
        simp only [cnt_node] at hc
        simp only [ti_open, ti_depth, Option.bind_some]
        by_cases hd : dep hl' ≤ dep hh
        · simp only [hd, decide_true, cond_true]
          rw [ti_tree p l hl' g1.sm s1 (by omega)]
          simp only [Option.bind_some]
          rw [ti_tree (k, v, ()) _ hh (.mk g1.sm s1) s2 (by rw [cnt_mk]; omega)]
          rfl
        · simp only [hd, decide_false, cond_false]
          cases hl' with
          | leaf => have := s2.2.1; simp only [dep_leaf] at hd; omega
          | node mk mv ml mh n' d' =>
            obtain ⟨f1, f2, f3, f4, f5, f6⟩ := c1
            have u1 := f1.sm.1
            have u2 := f2.sm.1
            simp only [cnt_node] at c3 t1
            simp only [ti_open, Option.bind_some]
            rw [ti_tree p l ml g1.sm f1.sm (by omega)]
            simp only [Option.bind_some]
            rw [ti_tree (k, v, ()) mh hh f2.sm s2 (by omega)]
            simp only [Option.bind_some]
            rw [ti_tree (mk, mv, ()) _ _ (.mk g1.sm f1.sm) (.mk f2.sm s2) (by simp only [cnt_mk]; omega)]
            rfl
    · simp only [hr, decide_false, cond_false]
      rw [ti_tree p l h g1.sm g2.sm (by omega)]
      rfl
theorem ti_putN (p : KV Int (List UInt8)) : ∀ (t : Tree Int (List UInt8)) (n : Nat), (toL t).length < n → Avl t → (toL t).length ≤ 1000000000 → recF F50s n (t, p, ()) = some (tPut ltI p t, ())
  | _, 0, h, _, _ => by omega
  | .leaf, n + 1, _, _, _ => by
    simp only [recF]
    unfold F50s
    simp only [ti_leafL, cond_true]
    rw [ti_tree p .leaf .leaf ⟨Int.le_refl 0, Int.le_refl 0, Int.le_refl 0⟩ ⟨Int.le_refl 0, Int.le_refl 0, Int.le_refl 0⟩ (by simp only [cnt_leaf]; omega)]
    rfl
  | .node k v l h c d, n + 1, hn, hg, hc => by
    obtain ⟨g1, g2, h3, h4, h5, h6⟩ := hg
    simp only [toL, List.length_append, List.length_cons] at hn hc
    have a := ti_putN p l n (by omega) g1 (by omega)
    have b := ti_putN p h n (by omega) g2 (by omega)
    have ga := (g1.put (lt := ltI) (p := p)).1
    have gb := (g2.put (lt := ltI) (p := p)).1
    have la := tPut_len (lt := ltI) (p := p) l
    have lb := tPut_len (lt := ltI) (p := p) h
    have e1 := ga.len
    have e2 := gb.len
    have e3 := g1.len
    have e4 := g2.len
    obtain ⟨pk, pv, ⟨⟩⟩ := p
    simp only [recF]
    generalize recF F50s n = G at a b ⊢
    unfold F50s tPut
    simp only [ti_leafN, cond_false, ti_open, Option.bind_some, ti_cmp, cmp3_lss LO.int, cmp3_gtr LO.int, a, b]
    cases ltI pk k with
    | true =>
      simp only [cond_true]
      rw [ti_even _ _ _ ga g2 (by omega)]
      rfl
    | false =>
      simp only [cond_false]
      cases ltI k pk with
      | true =>
        simp only [cond_true]
        rw [ti_even _ _ _ g1 gb (by omega)]
        rfl
      | false =>
        simp only [cond_false]
        rw [ti_tree _ _ _ g1.sm g2.sm (by omega)]
        rfl
theorem ti_mput (t : Tree Int (List UInt8)) (k : Int) (v : List UInt8) (g : Avl t) (h : (toL t).length ≤ 1000000000) : F25 ((t, ()), k, v, ()) = some ((tPut ltI (k, v, ()) t, ()), ()) := by
  unfold F25 F50
  have := ti_putN (k, v, ()) t big (by rw [big_eq]; omega) g h
  simp only [this, Option.bind_some]
theorem ti_mget (t : Tree Int (List UInt8)) (x : Int) (h : (toL t).length ≤ 1000000000) : F24 ((t, ()), x, ()) = some ((tGet ltI x t).elim ([], false, ()) fun v => (v, true, ())) := by
  unfold F24
  refine loop_get (lt := ltI) (x := x) (f := fun v => (v, true, ())) ?_ ?_ t big (by rw [big_eq]; omega)
  · rfl
  · intro k v l h n d
    simp only [ti_leafN, Bool.not_false, cond_true, ti_open, Option.bind_some, ti_cmp, cmp3_lss LO.int, cmp3_gtr LO.int]
    cases ltI x k with
    | true => rfl
    | false => cases ltI k x <;> rfl
theorem ti_mlen (t : Tree Int (List UInt8)) : F29 ((t, ()), ()) = some (cnt t, ()) := by
  unfold F29
  simp only [ti_size, Option.bind_some]
theorem ti_leastN : ∀ (t : Tree Int (List UInt8)) (n : Nat) (z : KV Int (List UInt8)), (toL t).length < n → Avl t → isLeaf t = false → (toL t).length ≤ 1000000000 → recF F66s n (t, ()) = some ((tLeast t z).1, (tLeast t z).2, ())
  | _, 0, _, h, _, _, _ => by omega
  | .leaf, n + 1, _, _, _, h, _ => Bool.noConfusion h
  | .node k v l h c d, n + 1, z, hn, hg, _, hc => by
    obtain ⟨g1, g2, h3, h4, h5, h6⟩ := hg
    simp only [toL, List.length_append, List.length_cons] at hn hc
    have key : isLeaf l = false → recF F66s n (l, ()) = some ((tLeast l (k, v, ())).1, (tLeast l (k, v, ())).2, ()) := fun hl => ti_leastN l n (k, v, ()) (by omega) g1 hl (by omega)
    simp only [recF]
    generalize recF F66s n = G at key ⊢
    unfold F66s tLeast
    simp only [ti_open, Option.bind_some]
    cases hl : isLeaf l with
    | true => simp only [cond_true]
    | false =>
      have a := key hl
      obtain ⟨b1, b2, b3, b4⟩ := g1.least (k, v, ()) hl
      have e1 := b1.len
      have e2 := g2.len
      have e3 := congrArg List.length b4
      simp only [List.length_cons] at e3
      simp only [cond_false, a, Option.bind_some]
      rw [ti_even _ _ _ b1 g2 (by omega)]
      rfl
theorem ti_delN (x : Int) : ∀ (t : Tree Int (List UInt8)) (n : Nat), (toL t).length < n → Avl t → (tGet ltI x t).isSome = true → (toL t).length ≤ 1000000000 → recF F54s n (t, x, ()) = some (tDel ltI x t, ())
  | _, 0, h, _, _, _ => by omega
  | .leaf, n + 1, _, _, h, _ => Bool.noConfusion h
  | .node k v l h c d, n + 1, hn, hg, hx, hc => by
    obtain ⟨g1, g2, h3, h4, h5, h6⟩ := hg
    simp only [toL, List.length_append, List.length_cons] at hn hc
    have ga := (g1.del (lt := ltI) (x := x)).1
    have gb := (g2.del (lt := ltI) (x := x)).1
    have la := tDel_len (lt := ltI) (x := x) g1
    have lb := tDel_len (lt := ltI) (x := x) g2
    have e1 := ga.len
    have e2 := gb.len
    have e3 := g1.len
    have e4 := g2.len
    have k1 : (tGet ltI x l).isSome = true → recF F54s n (l, x, ()) = some (tDel ltI x l, ()) := fun hx => ti_delN x l n (by omega) g1 hx (by omega)
    have k2 : (tGet ltI x h).isSome = true → recF F54s n (h, x, ()) = some (tDel ltI x h, ()) := fun hx => ti_delN x h n (by omega) g2 hx (by omega)
    simp only [recF]
    generalize recF F54s n = G at k1 k2 ⊢
    unfold F54s tDel
    simp only [ti_open, Option.bind_some, ti_cmp, cmp3_lss LO.int, cmp3_gtr LO.int]
    simp only [tGet] at hx
    cases h1 : ltI x k with
    | true =>
      rw [h1] at hx
      have a := k1 hx
      simp only [cond_true, a, Option.bind_some]
      rw [ti_even _ _ _ ga g2 (by omega)]
      rfl
    | false =>
      rw [h1] at hx
      simp only [cond_false] at hx ⊢
      cases h2 : ltI k x with
      | true =>
        rw [h2] at hx
        have b := k2 hx
        simp only [cond_true, b, Option.bind_some]
        rw [ti_even _ _ _ g1 gb (by omega)]
        rfl
      | false =>
        simp only [cond_false]
        cases hl : isLeaf h with
        | true => simp only [cond_true]
        | false =>
          have b := ti_leastN h big (k, v, ()) (by rw [big_eq]; omega) g2 hl (by omega)
          have b' : F66 (h, ()) = _ := b
          obtain ⟨b1, b2, b3, b4⟩ := g2.least (k, v, ()) hl
          have f1 := b1.len
          have f3 := congrArg List.length b4
          simp only [List.length_cons] at f3
          simp only [cond_false, b', Option.bind_some]
          rw [ti_even _ _ _ g1 b1 (by omega)]
          rfl
theorem ti_mdel (t : Tree Int (List UInt8)) (x : Int) (g : Avl t) (h : (toL t).length ≤ 1000000000) : F28 ((t, ()), x, ()) = some ((bif (tGet ltI x t).isSome then tDel ltI x t else t, ()), ()) := by
  unfold F28 F54
  simp only [ti_mget t x h, Option.bind_some]
  cases hx : tGet ltI x t with
  | none => rfl
  | some v =>
    have := ti_delN x t big (by rw [big_eq]; omega) g (by rw [hx]; rfl) h
    simp only [Option.elim_some, Bool.not_true, cond_false, this, Option.bind_some, Option.isSome_some, cond_true]
theorem ti_eachN : ∀ (t : Tree Int (List UInt8)) (n : Nat) (a : List (KV Int (List UInt8))), (toL t).length < n → a.length + (toL t).length ≤ 1000000000 → recF F51as n (t, (a, ()), ()) = some ((a ++ toL t, ()), ())
  | _, 0, _, h, _ => by omega
  | .leaf, n + 1, a, _, _ => by
    simp only [recF]
    unfold F51as
    simp only [ti_leafL, Bool.not_true, cond_false, toL, List.append_nil]
  | .node k v l h c d, n + 1, a, hn, hc => by
    simp only [toL, List.length_append, List.length_cons] at hn hc
    have b := ti_eachN l n a (by omega) (by omega)
    have e := ti_eachN h n (a ++ toL l ++ [(k, v, ())]) (by omega) (by simp only [List.length_append, List.length_cons, List.length_nil]; omega)
    simp only [recF]
    generalize recF F51as n = G at b e ⊢
    unfold F51as F52a
    simp only [ti_leafN, Bool.not_false, cond_true, ti_open, Option.bind_some, b]
    rw [appO_eq (by simp only [List.length_append, List.length_cons, List.length_nil]; simp only [capB]; omega)]
    simp only [Option.bind_some, e]
    simp only [toL, List.append_assoc, List.cons_append, List.nil_append]
theorem ti_mall (t : Tree Int (List UInt8)) (h : (toL t).length ≤ 1000000000) : F26 ((t, ()), ()) = some (toL t, ()) := by
  unfold F26 F51a
  have := ti_eachN t big [] (by rw [big_eq]; omega) (by simp only [List.length_nil]; omega)
  simp only [this, Option.bind_some, List.nil_append]
theorem ti_mrank (t : Tree Int (List UInt8)) (x : Int) (g : Avl t) (h : (toL t).length ≤ 1000000000) : F27 ((t, ()), x, ()) = some (tRank ltI x t, ()) := by
  unfold F27
  have e := g.len
  refine Eq.trans (loop_rank (lt := ltI) (x := x) ?_ ?_ t big 0 (by rw [big_eq]; omega) g (Int.le_refl 0) (by omega)) (by rw [Int.zero_add])
  · intro a; rfl
  · intro a k v l h n d hg h0 ha
    obtain ⟨g1, g2, g3, _⟩ := hg
    have s1 := g1.sm.1
    have s2 := g2.sm.1
    simp only [ti_leafN, Bool.not_false, cond_true, ti_open, Option.bind_some, ti_cmp, cmp3_leq LO.int, ti_size]
    rw [wrap64_eq (x := cnt l + 1) (by omega) (by omega), wrap64_eq (x := a + (cnt l + 1)) (by omega) (by omega)]
    cases ltI k x <;> rfl
end Go.Proofs.Ytgbmnillcdjdeaa
