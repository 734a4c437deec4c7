/-
  The program's search trees (uint16 to bool): each function computes what the plain one does.
-/
import Derived.Test.YtgbmnillcdjdeaaOrderTreeS
import Derived.Test.YtgbmnillcdjdeaaSxR
namespace Go.Proofs.Ytgbmnillcdjdeaa
open Go.Sx Go Classical
set_option maxRecDepth 10000
theorem tu_open (k : Int) (v : Bool) (l h : Tree Int Bool) (n d : Int) : openN (Ty.int IntKind.u16) Ty.bool (@Tree.node Int Bool k v l h n d) = some ((k, v, ()), l, h, n, d, ()) := rfl
theorem tu_leafN (k : Int) (v : Bool) (l h : Tree Int Bool) (n d : Int) : isLeaf (Tree.node k v l h n d) = false := rfl
theorem tu_leafL : isLeaf (Tree.leaf : Tree Int Bool) = true := rfl
theorem tu_cmp (a b : Int) : F58 (a, b, ()) = some (cmp3 ltI a b, ()) := by
  unfold F58 F68 cmp3
  simp only [Option.bind_some, decide_true, Bool.not_true, cond_false, show decide (a < b) = ltI a b from rfl, show decide (b < a) = ltI b a from rfl]
  cases ltI a b <;> cases ltI b a <;> rfl
theorem tu_size (t : Tree Int Bool) : F41 (t, ()) = some (cnt t, ()) := by cases t <;> rfl
theorem tu_depth (t : Tree Int Bool) : F40 (t, ()) = some (dep t, ()) := by cases t <;> rfl
theorem tu_tree (p : KV Int Bool) (l h : Tree Int Bool) (g1 : Sm l) (g2 : Sm h) (hc : cnt l + cnt h ≤ 1000000000000) : F57 (p, l, h, ()) = some (mkT p l h, ()) := by
  unfold F57
  obtain ⟨a1, a2, a3⟩ := g1
  obtain ⟨b1, b2, b3⟩ := g2
  simp only [tu_size, tu_depth, Option.bind_some, maxI_max]
  rw [wrap64_eq (x := cnt l + cnt h) (by omega) (by omega), wrap64_eq (x := cnt l + cnt h + 1) (by omega) (by omega), wrap64_eq (x := max (dep l) (dep h) + 1) (by omega) (by omega)]
  rfl
theorem tu_even (p : KV Int Bool) (l h : Tree Int Bool) (g1 : Avl l) (g2 : Avl h) (hc : cnt l + cnt h ≤ 100000000000) : F59 (p, l, h, ()) = some (evenT p l h, ()) := by
  have z1 := g1.sm
  have z2 := g2.sm
  obtain ⟨a1, a2, a3⟩ := z1
  obtain ⟨b1, b2, b3⟩ := z2
  unfold F59 evenT
  have e1 : wrap64 (dep h + 1) = dep h + 1 := wrap64_eq (by omega) (by omega)
  have e2 : wrap64 (dep l + 1) = dep l + 1 := wrap64_eq (by omega) (by omega)
  simp only [tu_depth, Option.bind_some, e1, e2]
  by_cases hl : dep h + 1 < dep l
  · simp only [hl, decide_true, cond_true]
    cases l with
    | leaf => simp only [dep_leaf] at hl; omega
    | node k v ll lh n d =>
      obtain ⟨c1, c2, c3, c4, c5, c6⟩ := g1
      have s1 := c1.sm
      have s2 := c2.sm
      have t1 := s1.1
      have t2 := s2.1
      simp only [cnt_node] at hc
      simp only [tu_open, tu_depth, Option.bind_some]
      by_cases hd : dep lh ≤ dep ll
      · simp only [hd, decide_true, cond_true]
        rw [tu_tree p lh h s2 g2.sm (by omega)]
        simp only [Option.bind_some]
        rw [tu_tree (k, v, ()) ll _ s1 (.mk s2 g2.sm) (by rw [cnt_mk]; omega)]
        rfl
      · simp only [hd, decide_false, cond_false]
        cases lh with
        | leaf => have := s1.2.1; simp only [dep_leaf] at hd; omega
        | node mk mv ml mh n' d' =>
          obtain ⟨f1, f2, f3, f4, f5, f6⟩ := c2
          have u1 := f1.sm.1
          have u2 := f2.sm.1
          simp only [cnt_node] at c3 t2
          simp only [tu_open, Option.bind_some]
          rw [tu_tree (k, v, ()) ll ml s1 f1.sm (by omega)]
          simp only [Option.bind_some]
          rw [tu_tree p mh h f2.sm g2.sm (by omega)]
          simp only [Option.bind_some]
          rw [tu_tree (mk, mv, ()) _ _ (.mk s1 f1.sm) (.mk f2.sm g2.sm) (by simp only [cnt_mk]; omega)]
          rfl
  · simp only [hl, decide_false, cond_false]
    by_cases hr : dep l + 1 < dep h
    · simp only [hr, decide_true, cond_true]
      cases h with
      | leaf => simp only [dep_leaf] at hr; omega
      | node k v hl' hh n d =>
        obtain ⟨c1, c2, c3, c4, c5, c6⟩ := g2
        have s1 := c1.sm
        have s2 := c2.sm
        have t1 := s1.1
        have t2 := s2.1
        simp only [cnt_node] at hc
        simp only [tu_open, tu_depth, Option.bind_some]
        by_cases hd : dep hl' ≤ dep hh
        · simp only [hd, decide_true, cond_true]
          rw [tu_tree p l hl' g1.sm s1 (by omega)]
          simp only [Option.bind_some]
          rw [tu_tree (k, v, ()) _ hh (.mk g1.sm s1) s2 (by rw [cnt_mk]; omega)]
          rfl
        · simp only [hd, decide_false, cond_false]
          cases hl' with
          | leaf => have := s2.2.1; simp only [dep_leaf] at hd; omega
          | node mk mv ml mh n' d' =>
            obtain ⟨f1, f2, f3, f4, f5, f6⟩ := c1
            have u1 := f1.sm.1
            have u2 := f2.sm.1
            simp only [cnt_node] at c3 t1
            simp only [tu_open, Option.bind_some]
            rw [tu_tree p l ml g1.sm f1.sm (by omega)]
            simp only [Option.bind_some]
            rw [tu_tree (k, v, ()) mh hh f2.sm s2 (by omega)]
            simp only [Option.bind_some]
            rw [tu_tree (mk, mv, ()) _ _ (.mk g1.sm f1.sm) (.mk f2.sm s2) (by simp only [cnt_mk]; omega)]
            rfl
    · simp only [hr, decide_false, cond_false]
      rw [tu_tree p l h g1.sm g2.sm (by omega)]
      rfl
theorem tu_putN (p : KV Int Bool) : ∀ (t : Tree Int Bool) (n : Nat), (toL t).length < n → Avl t → (toL t).length ≤ 1000000000 → recF F37s n (t, p, ()) = some (tPut ltI p t, ())
  | _, 0, h, _, _ => by omega
  | .leaf, n + 1, _, _, _ => by
    simp only [recF]
    unfold F37s
    simp only [tu_leafL, cond_true]
    rw [tu_tree p .leaf .leaf ⟨Int.le_refl 0, Int.le_refl 0, Int.le_refl 0⟩ ⟨Int.le_refl 0, Int.le_refl 0, Int.le_refl 0⟩ (by simp only [cnt_leaf]; omega)]
    rfl
  | .node k v l h c d, n + 1, hn, hg, hc => by
    obtain ⟨g1, g2, h3, h4, h5, h6⟩ := hg
    simp only [toL, List.length_append, List.length_cons] at hn hc
    have a := tu_putN p l n (by omega) g1 (by omega)
    have b := tu_putN p h n (by omega) g2 (by omega)
    have ga := (g1.put (lt := ltI) (p := p)).1
    have gb := (g2.put (lt := ltI) (p := p)).1
    have la := tPut_len (lt := ltI) (p := p) l
    have lb := tPut_len (lt := ltI) (p := p) h
    have e1 := ga.len
    have e2 := gb.len
    have e3 := g1.len
    have e4 := g2.len
    obtain ⟨pk, pv, ⟨⟩⟩ := p
    simp only [recF]
    generalize recF F37s n = G at a b ⊢
    unfold F37s tPut
    simp only [tu_leafN, cond_false, tu_open, Option.bind_some, tu_cmp, cmp3_lss LO.int, cmp3_gtr LO.int, a, b]
    cases ltI pk k with
    | true =>
      simp only [cond_true]
      rw [tu_even _ _ _ ga g2 (by omega)]
      rfl
    | false =>
      simp only [cond_false]
      cases ltI k pk with
      | true =>
        simp only [cond_true]
        rw [tu_even _ _ _ g1 gb (by omega)]
        rfl
      | false =>
        simp only [cond_false]
        rw [tu_tree _ _ _ g1.sm g2.sm (by omega)]
        rfl
theorem tu_mput (t : Tree Int Bool) (k : Int) (v : Bool) (g : Avl t) (h : (toL t).length ≤ 1000000000) : F12 ((t, ()), k, v, ()) = some ((tPut ltI (k, v, ()) t, ()), ()) := by
  unfold F12 F37
  have := tu_putN (k, v, ()) t big (by rw [big_eq]; omega) g h
  simp only [this, Option.bind_some]
theorem tu_mget (t : Tree Int Bool) (x : Int) (h : (toL t).length ≤ 1000000000) : F38 ((t, ()), x, ()) = some ((tGet ltI x t).elim (false, false, ()) fun v => (v, true, ())) := by
  unfold F38
  refine loop_get (lt := ltI) (x := x) (f := fun v => (v, true, ())) ?_ ?_ t big (by rw [big_eq]; omega)
  · rfl
  · intro k v l h n d
    simp only [tu_leafN, Bool.not_false, cond_true, tu_open, Option.bind_some, tu_cmp, cmp3_lss LO.int, cmp3_gtr LO.int]
    cases ltI x k with
    | true => rfl
    | false => cases ltI k x <;> rfl
theorem tu_mlen (t : Tree Int Bool) : F16 ((t, ()), ()) = some (cnt t, ()) := by
  unfold F16
  simp only [tu_size, Option.bind_some]
theorem tu_mdeep (t : Tree Int Bool) : F14 ((t, ()), ()) = some (dep t, ()) := by
  unfold F14
  simp only [tu_depth, Option.bind_some]
theorem tu_leastN : ∀ (t : Tree Int Bool) (n : Nat) (z : KV Int Bool), (toL t).length < n → Avl t → isLeaf t = false → (toL t).length ≤ 1000000000 → recF F60s n (t, ()) = some ((tLeast t z).1, (tLeast t z).2, ())
  | _, 0, _, h, _, _, _ => by omega
  | .leaf, n + 1, _, _, _, h, _ => Bool.noConfusion h
  | .node k v l h c d, n + 1, z, hn, hg, _, hc => by
    obtain ⟨g1, g2, h3, h4, h5, h6⟩ := hg
    simp only [toL, List.length_append, List.length_cons] at hn hc
    have key : isLeaf l = false → recF F60s n (l, ()) = some ((tLeast l (k, v, ())).1, (tLeast l (k, v, ())).2, ()) := fun hl => tu_leastN l n (k, v, ()) (by omega) g1 hl (by omega)
    simp only [recF]
    generalize recF F60s n = G at key ⊢
    unfold F60s tLeast
    simp only [tu_open, Option.bind_some]
    cases hl : isLeaf l with
    | true => simp only [cond_true]
    | false =>
      have a := key hl
      obtain ⟨b1, b2, b3, b4⟩ := g1.least (k, v, ()) hl
      have e1 := b1.len
      have e2 := g2.len
      have e3 := congrArg List.length b4
      simp only [List.length_cons] at e3
      simp only [cond_false, a, Option.bind_some]
      rw [tu_even _ _ _ b1 g2 (by omega)]
      rfl
theorem tu_delN (x : Int) : ∀ (t : Tree Int Bool) (n : Nat), (toL t).length < n → Avl t → (tGet ltI x t).isSome = true → (toL t).length ≤ 1000000000 → recF F39s n (t, x, ()) = some (tDel ltI x t, ())
  | _, 0, h, _, _, _ => by omega
  | .leaf, n + 1, _, _, h, _ => Bool.noConfusion h
  | .node k v l h c d, n + 1, hn, hg, hx, hc => by
    obtain ⟨g1, g2, h3, h4, h5, h6⟩ := hg
    simp only [toL, List.length_append, List.length_cons] at hn hc
    have ga := (g1.del (lt := ltI) (x := x)).1
    have gb := (g2.del (lt := ltI) (x := x)).1
    have la := tDel_len (lt := ltI) (x := x) g1
    have lb := tDel_len (lt := ltI) (x := x) g2
    have e1 := ga.len
    have e2 := gb.len
    have e3 := g1.len
    have e4 := g2.len
    have k1 : (tGet ltI x l).isSome = true → recF F39s n (l, x, ()) = some (tDel ltI x l, ()) := fun hx => tu_delN x l n (by omega) g1 hx (by omega)
    have k2 : (tGet ltI x h).isSome = true → recF F39s n (h, x, ()) = some (tDel ltI x h, ()) := fun hx => tu_delN x h n (by omega) g2 hx (by omega)
    simp only [recF]
    generalize recF F39s n = G at k1 k2 ⊢
    unfold F39s tDel
    simp only [tu_open, Option.bind_some, tu_cmp, cmp3_lss LO.int, cmp3_gtr LO.int]
    simp only [tGet] at hx
    cases h1 : ltI x k with
    | true =>
      rw [h1] at hx
      have a := k1 hx
      simp only [cond_true, a, Option.bind_some]
      rw [tu_even _ _ _ ga g2 (by omega)]
      rfl
    | false =>
      rw [h1] at hx
      simp only [cond_false] at hx ⊢
      cases h2 : ltI k x with
      | true =>
        rw [h2] at hx
        have b := k2 hx
        simp only [cond_true, b, Option.bind_some]
        rw [tu_even _ _ _ g1 gb (by omega)]
        rfl
      | false =>
        simp only [cond_false]
        cases hl : isLeaf h with
        | true => simp only [cond_true]
        | false =>
          have b := tu_leastN h big (k, v, ()) (by rw [big_eq]; omega) g2 hl (by omega)
          have b' : F60 (h, ()) = _ := b
          obtain ⟨b1, b2, b3, b4⟩ := g2.least (k, v, ()) hl
          have f1 := b1.len
          have f3 := congrArg List.length b4
          simp only [List.length_cons] at f3
          simp only [cond_false, b', Option.bind_some]
          rw [tu_even _ _ _ g1 b1 (by omega)]
          rfl
theorem tu_mdel (t : Tree Int Bool) (x : Int) (g : Avl t) (h : (toL t).length ≤ 1000000000) : F13 ((t, ()), x, ()) = some ((bif (tGet ltI x t).isSome then tDel ltI x t else t, ()), ()) := by
  unfold F13 F39
  simp only [tu_mget t x h, Option.bind_some]
  cases hx : tGet ltI x t with
  | none => rfl
  | some v =>
    have := tu_delN x t big (by rw [big_eq]; omega) g (by rw [hx]; rfl) h
    simp only [Option.elim_some, Bool.not_true, cond_false, this, Option.bind_some, Option.isSome_some, cond_true]
end Go.Proofs.Ytgbmnillcdjdeaa
