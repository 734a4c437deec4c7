/-
  order: the laws of ranks, of whichever order of putting.
-/
import Derived.Test.YtgbmnillcdjdeaaOrderTreeI
namespace Go.Proofs.Ytgbmnillcdjdeaa
open Go.Sx Go Classical
set_option maxRecDepth 10000
abbrev TS : Type := Tree (List UInt8) Int
theorem awake_eq : F9 () = some (true, ()) := by
  unfold F9
  have e1 := ts_mput Tree.leaf [98] 2 trivial (by simp [toL])
  have m1 := (MapI.leaf (lt := strlt) (K := List UInt8) (V := Int)).put LO.str (p := ([98], 2, ()))
  have e2 := ts_mput _ [97] 1 m1.1 (by have := m1.2.2; omega)
  have m2 := m1.put LO.str (p := ([97], 1, ()))
  have e3 := ts_mget _ [98] (show (toL (tPut strlt ([97], 1, ()) (tPut strlt ([98], 2, ()) (Tree.leaf : TS)))).length ≤ 1000000000 by have := m2.2.2; omega)
  have e4 : tGet strlt [98] (tPut strlt ([97], 1, ()) (tPut strlt ([98], 2, ()) (Tree.leaf : TS))) = some 2 := rfl
  have e5 : cnt (tPut strlt ([97], 1, ()) (tPut strlt ([98], 2, ()) (Tree.leaf : TS))) = 2 := rfl
  rw [e4] at e3
  simp only [e1, e2, e3, ts_mlen, e5, Option.bind_some, Option.elim_some, decide_true, cond_true]
  rfl
theorem law6 (x : (argTy P6).den) : F6 x = some (true, ()) := by
  obtain ⟨l, i, j, ⟨⟩⟩ : List (List UInt8) × UInt8 × UInt8 × Unit := x
  unfold F6
  simp only [awake_eq, Option.bind_some, Bool.not_true, cond_false]
  by_cases h200 : (200 : Int) < Int.ofNat l.length
  · simp only [h200, decide_true, cond_true]
  have hl : l.length ≤ 200 := by rw [ofNat_len] at h200; omega
  simp only [h200, decide_false, cond_false]
  refine loop_true (fun t => ∃ (k : Nat) (m : TS), k ≤ l.length ∧ MapI strlt m k ∧ t = ((k : Int), m, ())) (fun t => l.length - t.1.toNat) (fun t ht => ?_) ⟨0, .leaf, Nat.zero_le _, .leaf, rfl⟩ (by simp; omega)
  obtain ⟨k, m, hk, hm, rfl⟩ := ht
  have hc := hm.2.2
  by_cases h : k < l.length
  · right
    simp only [lt_len, h, decide_true, cond_true, idx_nat, List.getElem?_eq_getElem h, Option.bind_some, wrap64_nat (show k < 9223372036854775807 by omega), ts_mput m l[k] 1 hm.1 (by omega)]
    exact ⟨_, rfl, ⟨k + 1, _, h, hm.put LO.str, rfl⟩, by simp only [Int.toNat_natCast]; omega⟩
  · left
    have : k = l.length := by omega
    subst this
    simp only [lt_len, Nat.lt_irrefl, decide_false, cond_false]
    apply map_inr
    have hi := i.toNat_lt
    have hj := j.toNat_lt
    have ei : wrap64 (intOf8 i) = (i.toNat : Int) := wrap64_eq (by unfold intOf8; omega) (by unfold intOf8; omega)
    have ej : wrap64 (intOf8 j) = (j.toNat : Int) := wrap64_eq (by unfold intOf8; omega) (by unfold intOf8; omega)
    have eji : wrap64 ((j.toNat : Int) - (i.toNat : Int)) = (j.toNat : Int) - (i.toNat : Int) := wrap64_eq (by omega) (by omega)
    have elt : decide (intOf8 i < intOf8 j) = decide (i.toNat < j.toNat) := by rw [decide_eq_decide]; unfold intOf8; omega
    have en := hm.1.len
    have mat : ∀ n : Nat, F20 ((m, ()), (n : Int), ()) = some (((toL m)[n]?).elim (([], 0, ()), false, ()) (fun p => (p, true, ()))) := fun n => by
      rw [ts_mat m n hm.1 (by omega), atT_eq n hm.1]
      by_cases hn : n < (toL m).length
      · rw [decide_eq_true (show (0 : Int) ≤ (n : Int) ∧ (n : Int) < cnt m by omega), List.getElem?_eq_getElem hn]
        rfl
      · rw [decide_eq_false (show ¬ ((0 : Int) ≤ (n : Int) ∧ (n : Int) < cnt m) by omega), List.getElem?_eq_none (by omega)]
        rfl
    have ltc : ∀ n : Nat, decide ((n : Int) < cnt m) = ((toL m)[n]?).isSome := fun n => by
      rw [en]
      by_cases hn : n < (toL m).length
      · rw [List.getElem?_eq_getElem hn]; exact decide_eq_true (by omega)
      · rw [List.getElem?_eq_none (by omega)]; exact decide_eq_false (by omega)
    have rk : ∀ (n : Nat) (p : KV (List UInt8) Int), (toL m)[n]? = some p → F23 ((m, ()), p.1, ()) = some ((n : Int), ()) := fun n p hp => by
      rw [ts_mrank m p.1 hm.1 (by omega), rankT_eq LO.str hm.1 hm.2.1, filter_below LO.str hm.2.1 hp, List.length_take]
      have := (List.getElem?_eq_some_iff.1 hp).1
      rw [Nat.min_eq_left (by omega)]
    simp only [ei, ej, eji, elt, mat, ts_mlen, ltc, Option.bind_some]
    cases hp : (toL m)[i.toNat]? with
    | none =>
      cases hq : (toL m)[j.toNat]? with
      | none => rfl
      | some q => rfl
    | some p =>
      cases hq : (toL m)[j.toNat]? with
      | none => rfl
      | some q =>
        have b := between_len LO.str hm.2.1 hp hq
        have c := hm.2.1.at LO.str hp hq
        simp only [Option.elim_some, Option.isSome_some, BEq.rfl, Bool.not_true, cond_false, ts_mbetween m _ _ (show (toL m).length ≤ 1000000000 by omega), Option.bind_some, rk _ _ hp, rk _ _ hq, decide_true, cond_true, walkT_eq LO.str hm.2.1, b, c, maxI_max]
        rw [decide_eq_true (show Int.ofNat (j.toNat - i.toNat) = max ((j.toNat : Int) - (i.toNat : Int)) 0 by rw [Int.ofNat_eq_natCast]; omega)]
        rfl
/-- what a map of lengths has -/
def LenOf (m : TS) (s : List (List UInt8)) : Prop := ∀ e, e ∈ toL m ↔ ∃ k ∈ s, e = (k, (k.length : Int), ())
theorem LenOf.put {m : TS} {n : Nat} {s : List (List UInt8)} (hm : MapI strlt m n) (h : LenOf m s) (k : List UInt8) : LenOf (tPut strlt (k, (k.length : Int), ()) m) (k :: s) := fun e => by
  rw [toL_put LO.str hm.2.1, mem_putL LO.str, h e]
  constructor
  · rintro (rfl | ⟨⟨q, hq, rfl⟩, h2⟩)
    · exact ⟨k, List.mem_cons_self .., rfl⟩
    · exact ⟨q, List.mem_cons_of_mem _ hq, rfl⟩
  · rintro ⟨q, hq, rfl⟩
    by_cases hk : q = k
    · subst hk; exact .inl rfl
    · rcases List.mem_cons.1 hq with rfl | hq
      · exact absurd rfl hk
      · exact .inr ⟨⟨q, hq, rfl⟩, hk⟩
theorem LenOf.leaf : LenOf .leaf [] := fun e => by simp [toL]
theorem LenOf.eq {a b : TS} {n m : Nat} {s t : List (List UInt8)} (ha : MapI strlt a n) (hb : MapI strlt b m) (h1 : LenOf a s) (h2 : LenOf b t) (h : ∀ k, k ∈ s ↔ k ∈ t) : toL a = toL b :=
  Sorted.ext LO.str ha.2.1 hb.2.1 fun e => by rw [h1 e, h2 e]; exact exists_congr fun k => and_congr_left fun _ => h k
theorem law3 (x : (argTy P3).den) (hx : Fit47 (argTy P3) x) : F3 x = some (true, ()) := by
  obtain ⟨l, tn, ⟨⟩⟩ : List (List UInt8) × UInt8 × Unit := x
  obtain ⟨⟨-, hls⟩, -⟩ := hx
  unfold F3
  simp only [awake_eq, Option.bind_some, Bool.not_true, cond_false]
  by_cases h200 : (200 : Int) < Int.ofNat l.length
  · simp only [h200, decide_true, cond_true]
  have hl : l.length ≤ 200 := by rw [ofNat_len] at h200; omega
  simp only [h200, decide_false, cond_false]
  have ht := tn.toNat_lt
  have et : wrap64 (intOf8 tn) = (tn.toNat : Int) := wrap64_eq (by unfold intOf8; omega) (by unfold intOf8; omega)
  refine loop_true (fun t => ∃ (k : Nat) (c b a : TS), k ≤ l.length ∧ MapI strlt a k ∧ MapI strlt b k ∧ MapI strlt c k ∧ (∃ s, LenOf a s ∧ ∀ q, q ∈ s ↔ ∃ j, j < k ∧ l[j]? = some q) ∧ (∃ s, LenOf b s ∧ ∀ q, q ∈ s ↔ ∃ j, j < k ∧ l[(j + tn.toNat) % l.length]? = some q) ∧ (∃ s, LenOf c s ∧ ∀ q, q ∈ s ↔ ∃ j, j < k ∧ l[l.length - 1 - j]? = some q) ∧ t = ((k : Int), c, b, a, ())) (fun t => l.length - t.1.toNat) (fun t ht => ?_) ⟨0, .leaf, .leaf, .leaf, Nat.zero_le _, .leaf, .leaf, .leaf, ⟨[], .leaf, fun q => by simp⟩, ⟨[], .leaf, fun q => by simp⟩, ⟨[], .leaf, fun q => by simp⟩, rfl⟩ (by simp; omega)
  obtain ⟨k, c, b, a, hk, ma, mb, mc, ⟨sa, la, qa⟩, ⟨sb, lb, qb⟩, ⟨sc, lc, qc⟩, rfl⟩ := ht
  have na := ma.2.2
  have nb := mb.2.2
  have nc := mc.2.2
  by_cases h : k < l.length
  · right
    have e1 : wrap64 ((k : Int) + (tn.toNat : Int)) = ((k + tn.toNat : Nat) : Int) := wrap64_eq (by omega) (by omega)
    have e2 : remO ((k + tn.toNat : Nat) : Int) (Int.ofNat l.length) = some (((k + tn.toNat) % l.length : Nat) : Int) := by
      unfold remO
      rw [decide_eq_false (show ¬ (Int.ofNat l.length = 0) by rw [ofNat_len]; omega)]
      rfl
    have h2 : (k + tn.toNat) % l.length < l.length := Nat.mod_lt _ (by omega)
    have e3 : wrap64 (wrap64 (Int.ofNat l.length - 1) - (k : Int)) = ((l.length - 1 - k : Nat) : Int) := by
      rw [ofNat_len, wrap64_eq (x := (l.length : Int) - 1) (by omega) (by omega), wrap64_eq (by omega) (by omega)]; omega
    have h3 : l.length - 1 - k < l.length := by omega
    simp only [lt_len, h, decide_true, cond_true, idx_nat, List.getElem?_eq_getElem h, Option.bind_some, wrap64_nat (show k < 9223372036854775807 by omega), et, e1, e2, e3, List.getElem?_eq_getElem h2, List.getElem?_eq_getElem h3,
      ts_mput a _ _ ma.1 (show (toL a).length ≤ 1000000000 by omega), ts_mput b _ _ mb.1 (show (toL b).length ≤ 1000000000 by omega), ts_mput c _ _ mc.1 (show (toL c).length ≤ 1000000000 by omega)]
    refine ⟨_, rfl, ⟨k + 1, _, _, _, h, ma.put LO.str, mb.put LO.str, mc.put LO.str, ⟨_, la.put ma l[k], fun q => ?_⟩, ⟨_, lb.put mb l[(k + tn.toNat) % l.length], fun q => ?_⟩, ⟨_, lc.put mc l[l.length - 1 - k], fun q => ?_⟩, rfl⟩, by simp only [Int.toNat_natCast]; omega⟩
    · rw [List.mem_cons, qa]
      constructor
      · rintro (rfl | ⟨j, hj, e⟩)
        · exact ⟨k, by omega, List.getElem?_eq_getElem h⟩
        · exact ⟨j, by omega, e⟩
      · rintro ⟨j, hj, e⟩
        by_cases hjk : j = k
        · subst hjk; rw [List.getElem?_eq_getElem h] at e; exact .inl (Option.some.inj e).symm
        · exact .inr ⟨j, by omega, e⟩
    · rw [List.mem_cons, qb]
      constructor
      · rintro (rfl | ⟨j, hj, e⟩)
        · exact ⟨k, by omega, List.getElem?_eq_getElem h2⟩
        · exact ⟨j, by omega, e⟩
      · rintro ⟨j, hj, e⟩
        by_cases hjk : j = k
        · subst hjk; rw [List.getElem?_eq_getElem h2] at e; exact .inl (Option.some.inj e).symm
        · exact .inr ⟨j, by omega, e⟩
    · rw [List.mem_cons, qc]
      constructor
      · rintro (rfl | ⟨j, hj, e⟩)
        · exact ⟨k, by omega, List.getElem?_eq_getElem h3⟩
        · exact ⟨j, by omega, e⟩
      · rintro ⟨j, hj, e⟩
        by_cases hjk : j = k
        · subst hjk; rw [List.getElem?_eq_getElem h3] at e; exact .inl (Option.some.inj e).symm
        · exact .inr ⟨j, by omega, e⟩
  · left
    have : k = l.length := by omega
    subst this
    simp only [lt_len, Nat.lt_irrefl, decide_false, cond_false]
    apply map_inr
    have eab : toL a = toL b := LenOf.eq ma mb la lb fun q => by
      rw [qa, qb]
      constructor
      · rintro ⟨j, hj, e⟩
        refine ⟨(j + (l.length - tn.toNat % l.length)) % l.length, Nat.mod_lt _ (by omega), ?_⟩
        have hm : tn.toNat % l.length < l.length := Nat.mod_lt _ (by omega)
        have hd := Nat.div_add_mod tn.toNat l.length
        rw [Nat.mod_add_mod, show j + (l.length - tn.toNat % l.length) + tn.toNat = j + l.length * (tn.toNat / l.length + 1) by rw [Nat.mul_add, Nat.mul_one]; omega, Nat.add_mul_mod_self_left, Nat.mod_eq_of_lt hj]
        exact e
      · rintro ⟨j, hj, e⟩
        exact ⟨_, Nat.mod_lt _ (by omega), e⟩
    have eac : toL a = toL c := LenOf.eq ma mc la lc fun q => by
      rw [qa, qc]
      constructor
      · rintro ⟨j, hj, e⟩
        refine ⟨l.length - 1 - j, by omega, ?_⟩
        rw [show l.length - 1 - (l.length - 1 - j) = j by omega]; exact e
      · rintro ⟨j, hj, e⟩
        exact ⟨_, by omega, e⟩
    simp only [ts_mall a (show (toL a).length ≤ 1000000000 by omega), ts_mall b (show (toL b).length ≤ 1000000000 by omega), ts_mall c (show (toL c).length ≤ 1000000000 by omega), Option.bind_some, ← eab, ← eac, decide_true, Bool.not_true, cond_false]
    refine loop_true (fun t => ∃ (k : Nat), k ≤ (toL a).length ∧ t = ((k : Int), ())) (fun t => (toL a).length - t.1.toNat) (fun t ht => ?_) ⟨0, Nat.zero_le _, rfl⟩ (by simp; omega)
    obtain ⟨k, hk, rfl⟩ := ht
    by_cases h : k < (toL a).length
    · right
      simp only [lt_len, h, decide_true, cond_true, idxN_nat _ _ h, List.getElem?_eq_getElem h, Option.bind_some, Bool.and_self, Bool.not_true, cond_false, wrap64_nat (show k < 9223372036854775807 by omega)]
      exact ⟨_, rfl, ⟨k + 1, h, rfl⟩, by simp only [Int.toNat_natCast]; omega⟩
    · left
      have : k = (toL a).length := by omega
      subst this
      simp only [lt_len, Nat.lt_irrefl, decide_false, cond_false]
end Go.Proofs.Ytgbmnillcdjdeaa
