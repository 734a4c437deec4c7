/-
  lease: who lives, and who is held.
-/
import Derived.Test.YtmgniagajmfhaaaLeaseLawE
namespace Go.Proofs.Ytmgniagajmfhaaa
open Go.Sx Go Classical
set_option maxRecDepth 10000
theorem get_of_doc {m : TL} {n : Nat} (hm : LI m n) {x : Ls} (hx : x ∈ docL m) : getL ltI x.1 (toL m) = some x.2 := by
  obtain ⟨e, he, rfl⟩ := List.mem_map.1 hx
  obtain ⟨k, t, ⟨⟩⟩ := e
  exact (getL_eq LO.int hm.1.2.1).2 he
theorem doc_of_get {m : TL} {n : Nat} (hm : LI m n) {id : Int} {tm : Tm} (h : getL ltI id (toL m) = some tm) : (id, tm) ∈ docL m := List.mem_map.2 ⟨_, (getL_eq LO.int hm.1.2.1).1 h, rfl⟩
theorem mem_due {m : TL} {now id : Int} : id ∈ dueS m now ↔ ∃ x ∈ docL m, x.1 = id ∧ Tim now ∧ dueC now x = true := by
  unfold dueS
  rw [List.mem_flatMap]
  constructor
  · rintro ⟨x, hx, h⟩
    cases hc : (decide (Tim now) && dueC now x) with
    | false => rw [hc] at h; cases h
    | true =>
      rw [hc] at h
      rw [Bool.and_eq_true, decide_eq_true_iff] at hc
      exact ⟨x, hx, (List.mem_singleton.1 h).symm, hc.1, hc.2⟩
  · rintro ⟨x, hx, rfl, h1, h2⟩
    exact ⟨x, hx, by rw [decide_eq_true h1, h2]; exact List.mem_singleton.2 rfl⟩
theorem due_get {m : TL} {n : Nat} (hm : LI m n) {id now : Int} {tm : Tm} (h : getL ltI id (toL m) = some tm) (ht : Tim now) : decide (id ∈ dueS m now) = dueC now (id, tm) := by
  rw [Bool.eq_iff_iff, decide_eq_true_iff, mem_due]
  constructor
  · rintro ⟨x, hx, rfl, -, h2⟩
    have := get_of_doc hm hx
    rw [h] at this
    obtain ⟨xi, xt⟩ := x
    cases this
    exact h2
  · intro h2
    exact ⟨_, doc_of_get hm h, rfl, ht, h2⟩
theorem has_eq (l : List Int) (id : Int) (h : l.length ≤ 1000000000) : F13 (l, id, ()) = some (decide (id ∈ l), ()) := by
  unfold F13
  refine Eq.trans (loop_find (l := l) (p := fun e => decide (e = id)) (f := fun _ => (true, ())) (r0 := (false, ())) (by omega) (fun i v hi => ?_) ?_) ?_
  · have hlt := (List.getElem?_eq_some_iff.1 hi).1
    simp only [lt_len, hlt, decide_true, cond_true, idx_nat, hi, Option.bind_some, wrap64_nat (show i < 9223372036854775807 by omega)]
    cases decide (v = id) <;> rfl
  · simp only [lt_len, Nat.lt_irrefl, decide_false, cond_false]
  · by_cases hm : id ∈ l
    · rw [decide_eq_true hm]
      cases hf : l.find? (fun e => decide (e = id)) with
      | some v => rfl
      | none => have := List.find?_eq_none.1 hf id hm; simp at this
    · rw [decide_eq_false hm]
      cases hf : l.find? (fun e => decide (e = id)) with
      | none => rfl
      | some v =>
        have h1 := List.find?_some hf
        have h2 := List.mem_of_find?_eq_some hf
        rw [of_decide_eq_true h1] at h2
        exact absurd h2 hm
theorem getL_put {m : TL} {n : Nat} (hm : LI m n) (id : Int) (tm : Tm) : getL ltI id (toL (tPut ltI (id, tm, ()) m)) = some tm := by
  refine (getL_eq LO.int (hm.1.put LO.int).2.1).2 ?_
  rw [toL_put LO.int hm.1.2.1]
  exact (mem_putL LO.int).2 (.inl rfl)
theorem lawLives (x : (argTy P3).den) (hx : Fit47 (argTy P3) x) : F3 x = some (true, ()) := by
  obtain ⟨l, id, ttl, now, more, ⟨⟩⟩ : List Act × Int × Int × Int × Int × Unit := x
  obtain ⟨⟨hl, -⟩, -, -, -, ⟨hq0, hq1⟩, -⟩ := hx
  have hl' : l.length ≤ 140737488351232 := hl
  have q0 : 0 ≤ more := hq0
  have q1 : more ≤ 65535 := hq1
  obtain ⟨fb, hf, hfl⟩ := few_ex l 60 (by omega)
  have hf' : F8 (l, 60, ()) = some (fb, ()) := hf
  unfold F3
  simp only [awake_eq, Option.bind_some, Bool.not_true, cond_false, hf']
  cases fb with
  | false => rfl
  | true =>
    obtain ⟨h60, hsh⟩ := hfl rfl
    simp only [Bool.not_true, cond_false]
    by_cases g1 : id = 0
    · simp only [g1, decide_true, cond_true]
    by_cases g2 : id < -1099511627776
    · simp only [g1, g2, decide_true, decide_false, cond_true, cond_false]
    by_cases g3 : 1099511627776 < id
    · simp only [g1, g2, g3, decide_true, decide_false, cond_true, cond_false]
    by_cases g4 : ttl < 1
    · simp only [g1, g2, g3, g4, decide_true, decide_false, cond_true, cond_false]
    by_cases g5 : 1000 < ttl
    · simp only [g1, g2, g3, g4, g5, decide_true, decide_false, cond_true, cond_false]
    by_cases g6 : now < 0
    · simp only [g1, g2, g3, g4, g5, g6, decide_true, decide_false, cond_true, cond_false]
    by_cases g7 : 549755813888 < now
    · simp only [g1, g2, g3, g4, g5, g6, g7, decide_true, decide_false, cond_true, cond_false]
    simp only [g1, g2, g3, g4, g5, g6, g7, decide_false, cond_false]
    refine loop_true (At 0 l) (fun t => l.length - t.2.1.toNat) (fun t ht => ?_) ⟨0, .leaf, Nat.zero_le _, LI.leaf, rfl⟩ (by show l.length - 0 < _; omega)
    obtain ⟨k, m, hk, hm, rfl⟩ := ht
    by_cases h : k < l.length
    · right
      obtain ⟨m', e, hm'⟩ := do_ex hm (by omega) l[k] (hsh k h)
      simp only [lt_len, h, decide_true, cond_true, idx_nat, List.getElem?_eq_getElem h, Option.bind_some, e, Bool.not_true, cond_false, wrap64_nat (show k < 9223372036854775807 by omega)]
      exact ⟨_, rfl, ⟨k + 1, m', h, hm'.mono (by omega), rfl⟩, by show l.length - (((k + 1 : Nat) : Int)).toNat < l.length - (k : Int).toNat; omega⟩
    · left
      have : k = l.length := by omega
      subst this
      have hn : 0 + l.length * 100 ≤ 900000 := by omega
      obtain ⟨d1, d2, d3⟩ := dropS_ok hm id
      have hmay : MayP id ttl now := ⟨⟨g1, by omega, by omega, by omega, by omega⟩, by omega, by omega⟩
      have w1 : wrap64 more = more := wrap64_eq (by omega) (by omega)
      have w2 : wrap64 (2 * more) = 2 * more := wrap64_eq (by omega) (by omega)
      have w3 : wrap64 (now + more) = now + more := wrap64_eq (by omega) (by omega)
      have w4 : wrap64 (now + 2 * more) = now + 2 * more := wrap64_eq (by omega) (by omega)
      simp only [lt_len, Nat.lt_irrefl, decide_false, cond_false, drop_eq hm (show 0 + l.length * 100 ≤ 1000000 by omega), Option.bind_some, grant_eq d1 (show 0 + l.length * 100 ≤ 1000000 by omega), w1, w2, w3, w4]
      apply map_inr
      by_cases ha : 64 ≤ alike id (dropS m id)
      · have hg : grantS (dropS m id) id ttl now = (.leaf, 4) := by
          unfold grantS
          simp only [hmay, decide_true, cond_true, d3, Option.isSome_none, cond_false, ha]
        rw [hg]
        simp only [decide_true, cond_true]
        rw [← alike_doc, d2] at ha
        have h1 := List.length_filter_le (fun e : Ls => decide (0 < e.1) == decide (0 < id)) ((docL m).filter fun e => !decide (e.1 = id))
        have h2 := List.length_filter_le (fun e : Ls => !decide (e.1 = id)) (docL m)
        rw [decide_eq_true (show (64 : Int) ≤ Int.ofNat (docL m).length by rw [ofNat_len]; omega)]
      · have hg := grantS_of (m := dropS m id) hmay d3 (by omega)
        have hok := grantS_ok d1 id ttl now
        rw [hg] at hok ⊢
        have hm2 : LI (tPut ltI (id, (ttl, now + ttl, 0, false, ()), ()) (dropS m id)) (0 + l.length * 100 + 1) := by
          rcases hok with h | h
          · exact h.2
          · exact absurd rfl h.1
        have hgp := getL_put d1 id (ttl, now + ttl, 0, false, ())
        have t1 : Tim (now + more) := ⟨by omega, by omega⟩
        have t2 : Tim (now + 2 * more) := ⟨by omega, by omega⟩
        have hk2 : keepS (tPut ltI (id, (ttl, now + ttl, 0, false, ()), ()) (dropS m id)) id (now + more) = (tPut ltI (id, (ttl, now + more + ttl, 0, false, ()), ()) (tPut ltI (id, (ttl, now + ttl, 0, false, ()), ()) (dropS m id)), 0) := by
          unfold keepS
          rw [decide_eq_true t1, hgp]
          rfl
        have hok2 := keepS_ok hm2 id (now + more)
        rw [hk2] at hok2
        have hm3 : LI (tPut ltI (id, (ttl, now + more + ttl, 0, false, ()), ()) (tPut ltI (id, (ttl, now + ttl, 0, false, ()), ()) (dropS m id))) (0 + l.length * 100 + 1 + 1) := by
          rcases hok2 with h | h
          · exact h.2
          · exact absurd rfl h.1
        have hgp2 := getL_put hm2 id (ttl, now + more + ttl, 0, false, ())
        have e1 := due_get hm2 hgp t1
        have e2 := due_get hm3 hgp2 t2
        have l2 := dueS_len (tPut ltI (id, (ttl, now + ttl, 0, false, ()), ()) (dropS m id)) (now + more)
        have l3 := dueS_len (tPut ltI (id, (ttl, now + more + ttl, 0, false, ()), ()) (tPut ltI (id, (ttl, now + ttl, 0, false, ()), ()) (dropS m id))) (now + 2 * more)
        have l2' := hm2.len
        have l3' := hm3.len
        have c1 : dueC (now + more) (id, (ttl, now + ttl, 0, false, ())) = decide (ttl ≤ more) := by
          show (true && decide (now + ttl ≤ now + more)) = _
          rw [Bool.true_and, decide_eq_decide]; omega
        have c2 : dueC (now + 2 * more) (id, (ttl, now + more + ttl, 0, false, ())) = decide (ttl ≤ more) := by
          show (true && decide (now + more + ttl ≤ now + 2 * more)) = _
          rw [Bool.true_and, decide_eq_decide]; omega
        simp only [show decide ((0 : Int) = 4) = false from rfl, cond_false, keep_eq hm2 (show 0 + l.length * 100 + 1 ≤ 1000000 by omega), hk2, Option.bind_some, decide_true, Bool.not_true, due_eq hm2 (show 0 + l.length * 100 + 1 ≤ 1000000 by omega), due_eq hm3 (show 0 + l.length * 100 + 1 + 1 ≤ 1000000 by omega), has_eq _ id (show (dueS (tPut ltI (id, (ttl, now + ttl, 0, false, ()), ()) (dropS m id)) (now + more)).length ≤ 1000000000 by omega),
          has_eq _ id (show (dueS (tPut ltI (id, (ttl, now + more + ttl, 0, false, ()), ()) (tPut ltI (id, (ttl, now + ttl, 0, false, ()), ()) (dropS m id))) (now + 2 * more)).length ≤ 1000000000 by omega), e1, e2, c1, c2, BEq.rfl, cond_true]
theorem lawHolds (x : (argTy P5).den) (hx : Fit47 (argTy P5) x) : F5 x = some (true, ()) := by
  obtain ⟨l, now, thn, ⟨⟩⟩ : List Act × Int × Int × Unit := x
  obtain ⟨⟨hl, -⟩, -⟩ := hx
  have hl' : l.length ≤ 140737488351232 := hl
  obtain ⟨fb, hf, hfl⟩ := few_ex l 60 (by omega)
  have hf' : F8 (l, 60, ()) = some (fb, ()) := hf
  unfold F5
  simp only [awake_eq, Option.bind_some, Bool.not_true, cond_false, hf']
  cases fb with
  | false => rfl
  | true =>
    obtain ⟨h60, hsh⟩ := hfl rfl
    simp only [Bool.not_true, cond_false]
    by_cases g1 : now < 0
    · simp only [g1, decide_true, cond_true]
    by_cases g2 : 549755813888 < now
    · simp only [g1, g2, decide_true, decide_false, cond_true, cond_false]
    by_cases g3 : thn < now
    · simp only [g1, g2, g3, decide_true, decide_false, cond_true, cond_false]
    by_cases g4 : 549755813888 < thn
    · simp only [g1, g2, g3, g4, decide_true, decide_false, cond_true, cond_false]
    simp only [g1, g2, g3, g4, decide_false, cond_false]
    have t1 : Tim now := ⟨by omega, by omega⟩
    have t2 : Tim thn := ⟨by omega, by omega⟩
    refine loop_true (At 0 l) (fun t => l.length - t.2.1.toNat) (fun t ht => ?_) ⟨0, .leaf, Nat.zero_le _, LI.leaf, rfl⟩ (by show l.length - 0 < _; omega)
    obtain ⟨k, m, hk, hm, rfl⟩ := ht
    by_cases h : k < l.length
    · right
      obtain ⟨m', e, hm'⟩ := do_ex hm (by omega) l[k] (hsh k h)
      simp only [lt_len, h, decide_true, cond_true, idx_nat, List.getElem?_eq_getElem h, Option.bind_some, e, Bool.not_true, cond_false, wrap64_nat (show k < 9223372036854775807 by omega)]
      exact ⟨_, rfl, ⟨k + 1, m', h, hm'.mono (by omega), rfl⟩, by show l.length - (((k + 1 : Nat) : Int)).toNat < l.length - (k : Int).toNat; omega⟩
    · left
      have : k = l.length := by omega
      subst this
      have hn : 0 + l.length * 100 ≤ 900000 := by omega
      obtain ⟨t, eh, ht, hd⟩ := hold_ex hm (show 0 + l.length * 100 ≤ 1000000 by omega) now
      obtain ⟨f, ef, hf2, hd2⟩ := free_ex ht (show 0 + l.length * 100 + 1 ≤ 1000000 by omega) thn
      rw [decide_eq_true t1, cond_true] at hd
      rw [decide_eq_true t2, cond_true] at hd2
      have lt := ht.len
      have lm := hm.len
      have lf := hf2.len
      have lmd := docL_len m
      have ld := dueS_len t thn
      have la := allS_len m now
      have hall : allS m now = (docL m).map (fun x => toldL x now) := by unfold allS; rw [decide_eq_true t1]; rfl
      have hlen : (allS f thn).length = (allS m now).length := by
        rw [hall]
        unfold allS
        rw [decide_eq_true t2, cond_true, hd2, hd, List.length_map, List.length_map, List.length_map, List.length_map]
      simp only [lt_len, Nat.lt_irrefl, decide_false, cond_false, eh, Option.bind_some, due_eq ht (show 0 + l.length * 100 + 1 ≤ 1000000 by omega)]
      apply map_inr
      refine loop_true (fun t' => ∃ (j : Nat), j ≤ (dueS t thn).length ∧ t' = ((j : Int), ())) (fun t' => (dueS t thn).length - t'.1.toNat) (fun t' ht' => ?_) ⟨0, Nat.zero_le _, rfl⟩ (by show (dueS t thn).length - 0 < _; omega)
      obtain ⟨j, hj, rfl⟩ := ht'
      by_cases h : j < (dueS t thn).length
      · right
        have hneg : ¬ 0 < (dueS t thn)[j] := fun hp => by
          obtain ⟨x, hx, h1, -, h3⟩ := mem_due.1 (List.getElem_mem h)
          rw [hd] at hx
          obtain ⟨y, hy, rfl⟩ := List.mem_map.1 hx
          obtain ⟨yi, a, b, c, d, ⟨⟩⟩ := y
          unfold holdL at h1 h3
          cases d with
          | true =>
            simp only [Bool.not_true, Bool.and_false, cond_false] at h3
            simp [dueC] at h3
          | false =>
            by_cases hp2 : 0 < yi
            · rw [decide_eq_true hp2] at h3
              simp [dueC] at h3
            · rw [decide_eq_false hp2] at h1
              simp only [Bool.false_and, cond_false] at h1
              omega
        simp only [lt_len, h, decide_true, cond_true, idxN_nat _ _ h, List.getElem?_eq_getElem h, Option.bind_some, hneg, decide_false, cond_false, wrap64_nat (show j < 9223372036854775807 by omega)]
        exact ⟨_, rfl, ⟨j + 1, h, rfl⟩, by show (dueS t thn).length - (((j + 1 : Nat) : Int)).toNat < (dueS t thn).length - (j : Int).toNat; omega⟩
      · left
        have : j = (dueS t thn).length := by omega
        subst this
        simp only [lt_len, Nat.lt_irrefl, decide_false, cond_false, ef, Option.bind_some, all_eq hm (show 0 + l.length * 100 ≤ 1000000 by omega)]
        apply map_inr
        refine loop_true (fun t' => ∃ (j : Nat), j ≤ (allS m now).length ∧ t' = ((j : Int), ())) (fun t' => (allS m now).length - t'.1.toNat) (fun t' ht' => ?_) ⟨0, Nat.zero_le _, rfl⟩ (by show (allS m now).length - 0 < _; omega)
        obtain ⟨j, hj, rfl⟩ := ht'
        by_cases h : j < (allS m now).length
        · right
          refine ⟨(((j + 1 : Nat) : Int), ()), ?_, ⟨j + 1, h, rfl⟩, by show (allS m now).length - (((j + 1 : Nat) : Int)).toNat < (allS m now).length - (j : Int).toNat; omega⟩
          have hmem : (allS m now)[j] ∈ (docL m).map (fun x => toldL x now) := by rw [← hall]; exact List.getElem_mem h
          obtain ⟨x, hx, hxe⟩ := List.mem_map.1 hmem
          have hxf : freeL thn (holdL now x) ∈ docL f := by
            rw [hd2, hd]
            exact List.mem_map.2 ⟨_, List.mem_map.2 ⟨x, hx, rfl⟩, rfl⟩
          have hgf := get_of_doc hf2 hxf
          obtain ⟨xe, hxe1, hxe2⟩ := List.mem_map.1 hx
          have hok := hm.2 xe hxe1
          obtain ⟨xi, ⟨a, b, c, d, ⟨⟩⟩, ⟨⟩⟩ := xe
          obtain rfl : (xi, a, b, c, d, ()) = x := hxe2
          have hc0 : 0 ≤ c := hok.2.2.2.1
          have q1 : (freeL thn (holdL now (xi, a, b, c, d, ()))).1 = xi := by
            unfold freeL holdL
            cases d <;> cases decide (0 < xi) <;> rfl
          have q2 : (freeL thn (holdL now (xi, a, b, c, d, ()))).2.1 = a := by
            unfold freeL holdL
            cases d <;> cases decide (0 < xi) <;> rfl
          have q3 : (freeL thn (holdL now (xi, a, b, c, d, ()))).2.2.2.2.1 = false := by
            unfold freeL holdL
            cases d <;> cases decide (0 < xi) <;> rfl
          have q4 : 0 < xi → (toldL (xi, (freeL thn (holdL now (xi, a, b, c, d, ()))).2) thn) = toldL (xi, a, b, c, d, ()) now := fun hp => by
            unfold freeL holdL toldL
            rw [decide_eq_true hp]
            cases d with
            | true =>
              show (xi, a, max (thn + c - thn) 0, ()) = (xi, a, c, ())
              rw [show max (thn + c - thn) 0 = c by omega]
            | false =>
              show (xi, a, max (thn + max (b - now) 0 - thn) 0, ()) = (xi, a, max (b - now) 0, ())
              rw [show max (thn + max (b - now) 0 - thn) 0 = max (b - now) 0 by omega]
          rw [q1] at hgf
          have e1 : (allS m now)[j] = toldL (xi, a, b, c, d, ()) now := hxe.symm
          have e2 : ((allS m now)[j]).1 = xi := by rw [e1]; rfl
          have e3 : ((allS m now)[j]).2.1 = a := by rw [e1]; rfl
          have e4 : (toldL (xi, (freeL thn (holdL now (xi, a, b, c, d, ()))).2) thn).2.1 = a := q2
          have e5 : (toldL (xi, (freeL thn (holdL now (xi, a, b, c, d, ()))).2) thn).1 = xi := rfl
          simp only [lt_len, h, decide_true, cond_true, idxN_nat _ _ h, List.getElem?_eq_getElem h, Option.bind_some, e2, e3, get_eq hf2 (show 0 + l.length * 100 + 1 + 1 ≤ 1000000 by omega), t2, hgf, Option.elim_some, Bool.not_true, cond_false, held_eq hf2 (show 0 + l.length * 100 + 1 + 1 ≤ 1000000 by omega), q3, e4, e5, wrap64_nat (show j < 9223372036854775807 by omega)]
          by_cases hp : 0 < xi
          · have e6 : (toldL (xi, (freeL thn (holdL now (xi, a, b, c, d, ()))).2) thn).2.2.1 = ((allS m now)[j]).2.2.1 := by rw [q4 hp, e1]
            simp only [hp, decide_true, cond_true, e6, Bool.and_self, Bool.not_true, cond_false]
          · simp only [hp, decide_false, cond_false]
        · left
          have : j = (allS m now).length := by omega
          subst this
          have r1 := refHold_eq hm (show 0 + l.length * 100 ≤ 1000000 by omega) now
          rw [decide_eq_true t1, cond_true, ← hd] at r1
          have r2 := refFree_eq ht (show 0 + l.length * 100 + 1 ≤ 1000000 by omega) thn
          rw [decide_eq_true t2, cond_true, ← hd2] at r2
          simp only [lt_len, Nat.lt_irrefl, decide_false, cond_false]
          apply map_inr
          simp only [all_eq hf2 (show 0 + l.length * 100 + 1 + 1 ≤ 1000000 by omega), Option.bind_some, ofNat_len, hlen, decide_true, cond_true, r1, r2, is_eq hf2 (show 0 + l.length * 100 + 1 + 1 ≤ 1000000 by omega)]
end Go.Proofs.Ytmgniagajmfhaaa
