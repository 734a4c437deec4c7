/-
  index: the law of pages.
-/
import Derived.Test.YtphdilmnielgeaaIndexLawG
namespace Go.Proofs.Ytphdilmnielgeaa
open Go.Sx Go Classical
set_option maxRecDepth 10000
theorem view_sorted (r : Int) : ∀ {l : List KX}, Sorted strlt l → Sorted strlt (view r l) ∧ ∀ it ∈ view r l, ∃ e ∈ l, e.1 = it.1
  | [], _ => ⟨List.Pairwise.nil, fun it h => absurd h (by simp [view])⟩
  | e :: l, h => by
    have ha := (List.pairwise_cons.1 h).1
    obtain ⟨h1, h2⟩ := view_sorted r (List.pairwise_cons.1 h).2
    have e0 : view r (e :: l) = (bif (atH e.2.1 r).2.1 then [(e.1, (atH e.2.1 r).1, ())] else []) ++ view r l := rfl
    rw [e0]
    cases (atH e.2.1 r).2.1 with
    | false =>
      rw [cond_false, List.nil_append]
      refine ⟨h1, fun it hi => ?_⟩
      obtain ⟨e', h3, h4⟩ := h2 it hi
      exact ⟨e', List.mem_cons_of_mem _ h3, h4⟩
    | true =>
      rw [cond_true, List.singleton_append]
      refine ⟨List.pairwise_cons.2 ⟨fun it hi => ?_, h1⟩, fun it hi => ?_⟩
      · obtain ⟨e', h3, h4⟩ := h2 it hi
        rw [← h4]
        exact ha e' h3
      · rcases List.mem_cons.1 hi with rfl | hi
        · exact ⟨e, List.mem_cons_self .., rfl⟩
        · obtain ⟨e', h3, h4⟩ := h2 it hi
          exact ⟨e', List.mem_cons_of_mem _ h3, h4⟩
theorem behG_view (pre after : List UInt8) (r : Int) : ∀ l : List KX, l.flatMap (behG pre after r) = (view r l).filter fun it => behQ pre after it.1
  | [] => rfl
  | e :: l => by
    have e0 : view r (e :: l) = (bif (atH e.2.1 r).2.1 then [(e.1, (atH e.2.1 r).1, ())] else []) ++ view r l := rfl
    rw [e0, List.filter_append, List.flatMap_cons, behG_view pre after r l]
    congr 1
    unfold behG
    cases (atH e.2.1 r).2.1 with
    | false => rfl
    | true =>
      rw [Bool.true_and, cond_true, List.filter_cons, List.filter_nil]
      cases behQ pre after e.1 <;> rfl
theorem filter_above {V : Type} {l : List (KV (List UInt8) V)} (hs : Sorted strlt l) {i : Nat} {p : KV (List UInt8) V} (hi : l[i]? = some p) : l.filter (fun e => strlt p.1 e.1) = l.drop (i + 1) := by
  have hlt := (List.getElem?_eq_some_iff.1 hi).1
  have hd : l = l.take i ++ (p :: l.drop (i + 1)) := by
    have h0 := List.drop_eq_getElem_cons hlt
    rw [(List.getElem?_eq_some_iff.1 hi).2] at h0
    rw [← h0, List.take_append_drop]
  have hs2 := hs
  rw [hd] at hs2
  obtain ⟨-, -, h1, h2, -⟩ := Sorted.split.1 hs2
  conv => lhs; rw [hd]
  rw [List.filter_append, List.filter_cons, fil_none (fun a ha => strlt_asymm (h1 a ha)), fil_all h2, strlt_irrefl]
  simp
theorem page_next {W : List ItemD} (hs : Sorted strlt W) (pre after : List UInt8) {k : Nat} {p : ItemD} (hp : (W.filter fun it => behQ pre after it.1)[k]? = some p) :
    (W.filter fun it => behQ pre p.1 it.1) = (W.filter fun it => behQ pre after it.1).drop (k + 1) := by
  rw [← filter_above (hs.filter _) hp, List.filter_filter]
  have hm := List.mem_of_getElem? hp
  have hq := (List.mem_filter.1 hm).2
  have ha : strlt after p.1 = true := by
    unfold behQ at hq
    rw [Bool.and_eq_true] at hq
    rw [← strlt_gt]
    exact hq.2
  congr 1
  funext it
  unfold behQ
  rw [strlt_gt, strlt_gt]
  cases h1 : strlt p.1 it.1 with
  | false => simp
  | true => rw [strlt_trans ha h1]; simp
theorem law7 (x : (argTy P7).den) (hx : Fit47 (argTy P7) x) : F7 x = some (true, ()) := by
  obtain ⟨l, later, pre, most, ⟨⟩⟩ : List ActX × List ActX × List UInt8 × UInt8 × Unit := x
  obtain ⟨⟨hl, -⟩, ⟨hla, -⟩, -⟩ := hx
  have hl' : l.length ≤ 140737488351232 := hl
  have hla' : later.length ≤ 140737488351232 := hla
  obtain ⟨fb, hf, hfl⟩ := few_ex l 40 (by omega) (by omega)
  have hf : F20 (l, 40, ()) = some (fb, ()) := hf
  obtain ⟨gb, hg, hgl⟩ := few_ex later 20 (by omega) (by omega)
  have hg : F20 (later, 20, ()) = some (gb, ()) := hg
  unfold F7
  simp only [awake_eq, Option.bind_some, Bool.not_true, cond_false, hf]
  cases fb with
  | false => rfl
  | true =>
  simp only [Bool.not_true, cond_false, hg, Option.bind_some]
  cases gb with
  | false => rfl
  | true =>
  simp only [Bool.not_true, cond_false]
  refine Eq.trans (congrArg (fun z => cond _ (some (true, ())) z) ?_) (cond_same _ _)
  obtain ⟨h40, hs⟩ := hfl rfl
  obtain ⟨h20, hs2⟩ := hgl rfl
  obtain ⟨m, hI, e⟩ := made_ex l (by omega) hs
  simp only [e, Option.bind_some, Bool.not_true, cond_false]
  have hll := hI.2.2.1
  refine loop_true (fun t => ∃ (i : Nat) (rev : Int), i ≤ (toL m).length ∧ t = (rev, (i : Int), ())) (fun t => (toL m).length - t.2.1.toNat) (fun t ht => ?_) ⟨0, 0, Nat.zero_le _, rfl⟩ (by show (toL m).length - 0 < _; omega)
  obtain ⟨i, rev, hi, rfl⟩ := ht
  by_cases hlt : i < (toL m).length
  · right
    obtain ⟨v, hi'⟩ : ∃ v, (toL m)[i]? = some v := ⟨_, List.getElem?_eq_getElem hlt⟩
    obtain ⟨-, -, i3, i4⟩ := hI.2.2.2 v (List.mem_of_getElem? hi')
    have hpos : 0 < v.2.1.length := List.length_pos_iff.2 i3
    obtain ⟨z, hz⟩ : ∃ z, v.2.1.getLast? = some z := by
      cases h0 : v.2.1.getLast? with
      | none => exact absurd (List.getLast?_eq_none_iff.1 h0) i3
      | some z => exact ⟨z, rfl⟩
    simp only [lt_len, hlt, decide_true, cond_true, idx_nat, hi', Option.bind_some, last_idx v.2.1 hpos (show v.2.1.length ≤ 1000000 by omega), hz, wrap64_nat (show i < 9223372036854775807 by omega)]
    exact ⟨_, rfl, ⟨i + 1, _, hlt, rfl⟩, by show (toL m).length - (((i + 1 : Nat) : Int)).toNat < (toL m).length - (i : Int).toNat; omega⟩
  left
  have : i = (toL m).length := by omega
  subst this
  simp only [lt_len, Nat.lt_irrefl, decide_false, cond_false]
  apply map_inr
  have hW := view_sorted rev hI.2.1
  have hvl : (view rev (toL m)).length ≤ (toL m).length := flatMap_len1 (fun e => by cases (atH e.2.1 rev).2.1 <;> simp) _
  have hdoc := behind_doc (toL m) l.length hI.2 (by omega) pre [] rev 1000
  rw [behG_view] at hdoc
  generalize hWe : view rev (toL m) = W at *
  have hpl : ∀ a, (W.filter fun it => behQ pre a it.1).length ≤ 40 := fun a => by
    have := List.length_filter_le (fun it : ItemD => behQ pre a it.1) W
    omega
  rw [List.take_of_length_le (show (W.filter fun it => behQ pre [] it.1).length ≤ (1000 : Int).toNat by have := hpl []; show _ ≤ 1000; omega)] at hdoc
  simp only [hdoc, Option.bind_some]
  generalize hwant : (W.filter fun it => behQ pre [] it.1) = want
  have hwl : want.length ≤ 40 := by rw [← hwant]; exact hpl []
  obtain ⟨q, hq0, hq⟩ : ∃ q : Int, remO (intOf8 most) (intOf8 (UInt8.ofNat 8)) = some q ∧ True := ⟨(intOf8 most).tmod 8, rfl, trivial⟩
  obtain ⟨M, hM, hM1⟩ : ∃ M : Nat, wrap64 (1 + wrap64 (intOf8 (Sx.byteOf q))) = (M : Int) ∧ 1 ≤ M := by
    have h1 : 0 ≤ intOf8 (Sx.byteOf q) ∧ intOf8 (Sx.byteOf q) ≤ 255 := by
      unfold intOf8
      have := (Sx.byteOf q).toNat_lt
      omega
    refine ⟨(1 + intOf8 (Sx.byteOf q)).toNat, ?_, by omega⟩
    rw [wrap64_eq (x := intOf8 (Sx.byteOf q)) (by omega) (by omega), wrap64_eq (by omega) (by omega)]
    omega
  refine loop_true (fun t => ∃ (k : Nat) (x : TX) (got : List ItemD) (after : List UInt8), Idx x (l.length + k) ∧ view rev (toL x) = W ∧ got ++ (W.filter fun it => behQ pre after it.1) = want ∧ (W.filter fun it => behQ pre after it.1).length + k ≤ 40 ∧ t = (toL x, want, got, after, (k : Int), (x, ()), ())) (fun t => 100 - t.2.2.2.2.1.toNat) (fun t ht => ?_) ⟨0, m, [], [], hI, hWe, by rw [List.nil_append, hwant], by rw [hwant]; omega, rfl⟩ (by show 100 - 0 < _; omega)
  obtain ⟨k, x, got, after, hx, hv, hgot, hk, rfl⟩ := ht
  have hbp := behind_prog x (l.length + k) hx (by omega) pre after rev (M : Int)
  rw [behG_view, hv, Int.toNat_natCast] at hbp
  generalize hP : (W.filter fun it => behQ pre after it.1) = P at *
  have hgl : got.length ≤ 40 := by
    have := congrArg List.length hgot
    rw [List.length_append] at this
    omega
  have hk100 : decide ((k : Int) < 100) = true := decide_eq_true (by omega)
  have hap : appO got (P.take M) = some (got ++ P.take M) := appO_eq (by rw [List.length_take]; simp only [capB]; omega)
  simp only [hk100, cond_true, hq0, Option.bind_some, hM, hbp, hap]
  by_cases hd : P.length ≤ M
  · left
    simp only [hd, decide_true, cond_true]
    rw [List.take_of_length_le hd, hgot]
    exact bind_of (items_self want (by omega)) rfl
  · right
    have hpg : (P.take M).length = M := by rw [List.length_take]; omega
    have e0 : decide (Int.ofNat (P.take M).length = 0) = false := decide_eq_false (by rw [hpg]; simp; omega)
    have e1 : wrap64 (Int.ofNat (P.take M).length - 1) = ((M - 1 : Nat) : Int) := by
      rw [hpg, show Int.ofNat M = (M : Int) from rfl, wrap64_eq (by omega) (by omega)]
      omega
    have hlt1 : M - 1 < (P.take M).length := by omega
    obtain ⟨p, hp⟩ : ∃ p, P[M - 1]? = some p := ⟨_, List.getElem?_eq_getElem (show M - 1 < P.length by omega)⟩
    have hp2 : (P.take M)[M - 1]? = some p := by rw [List.getElem?_take, if_pos (by omega)]; exact hp
    have hnext : (W.filter fun it => behQ pre p.1 it.1) = P.drop M := by
      have h0 := page_next hW.1 pre after (k := M - 1) (p := p) (by rw [hP]; exact hp)
      rw [hP, show M - 1 + 1 = M by omega] at h0
      exact h0
    have hkn : decide ((k : Int) + 1 ≤ 100) = true := decide_eq_true (by omega)
    simp only [hd, decide_false, cond_false, e0, e1, idxN_nat _ _ hlt1, hp2, Option.bind_some, wrap64_nat (show k < 9223372036854775807 by omega)]
    have good : ∀ y : TX, Idx y (l.length + (k + 1)) → view rev (toL y) = W → ∃ t', (some (Sum.inl (toL y, want, got ++ P.take M, p.1, ((k + 1 : Nat) : Int), (y, ()), ())) : Option ((List KX × List ItemD × List ItemD × List UInt8 × Int × (TX × Unit) × Unit) ⊕ (Bool × Unit))) = some (Sum.inl t') ∧
        (∃ (k : Nat) (x : TX) (got : List ItemD) (after : List UInt8), Idx x (l.length + k) ∧ view rev (toL x) = W ∧ got ++ (W.filter fun it => behQ pre after it.1) = want ∧ (W.filter fun it => behQ pre after it.1).length + k ≤ 40 ∧ t' = (toL x, want, got, after, (k : Int), (x, ()), ())) ∧ 100 - t'.2.2.2.2.1.toNat < 100 - (k : Int).toNat := fun y hy hvy =>
      ⟨_, rfl, ⟨k + 1, y, got ++ P.take M, p.1, hy, hvy, by rw [hnext, List.append_assoc, List.take_append_drop, hgot], by rw [hnext, List.length_drop]; omega, rfl⟩, by show 100 - (((k + 1 : Nat) : Int)).toNat < 100 - (k : Int).toNat; omega⟩
    have keep := good x ⟨hx.1, hx.2.mono (by omega)⟩ hv
    by_cases hkl : k < later.length
    · obtain ⟨a, ha⟩ : ∃ a, later[k]? = some a := ⟨_, List.getElem?_eq_getElem hkl⟩
      simp only [lt_len, hkl, decide_true, cond_true, idx_nat, ha, Option.bind_some]
      by_cases c1 : intOf8 a.1 < intOf8 (UInt8.ofNat 2)
      · simp only [c1, decide_true, cond_true]
        by_cases c2 : rev < a.2.2.2.1
        · obtain ⟨d1, d2⟩ := hs2 a (List.mem_of_getElem? ha)
          obtain ⟨y, g1, g2, g3⟩ := do_ex x (l.length + k) hx (by omega) a d1 d2
          simp only [c2, decide_true, cond_true, g3, Option.bind_some, Bool.not_true, cond_false]
          exact good y g1 (by rw [g2 c1 rev c2, hv])
        · simp only [c2, decide_false, cond_false]
          exact keep
      · simp only [c1, decide_false, cond_false]
        exact keep
    · simp only [lt_len, hkl, decide_false, cond_false]
      exact keep
end Go.Proofs.Ytphdilmnielgeaa
