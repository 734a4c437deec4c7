/-
  The stable sort in place: two sorted neighbours made one, whatever their lengths.
-/
import Derived.Test.YtphdilmnielgeaaIndexSortD
namespace Go.Proofs.Ytphdilmnielgeaa
open Go.Sx Go
set_option maxRecDepth 10000
theorem len_pos_of {X : List It} (h : 0 < X.length) : X ≠ [] := fun e => by subst e; simp at h
theorem nil_of {X : List It} (h : ¬ 0 < X.length) : X = [] := List.eq_nil_of_length_eq_zero (by omega)
/-- how the two are parted: a place in the one, its mirror in the other -/
theorem sym_parts {P X Y S : List It} (hX : Srt X) (hY : Srt Y) {i e lo hi mid : Nat} (hmid : mid = (P.length + (P.length + X.length + Y.length)) / 2) (he : e + i = mid + (P.length + X.length)) (h1 : P.length ≤ i) (h2 : i ≤ P.length + X.length) (h3 : P.length + X.length ≤ e) (h4 : e ≤ P.length + X.length + Y.length)
    (hlo : i = lo → i = P.length ∨ e = P.length + X.length + Y.length) (hhi : i = hi → i = P.length + X.length ∨ e = P.length + X.length) (b1 : lo ≤ i) (b2 : i ≤ hi)
    (hp : ∀ j, lo ≤ j → j < i → Kat (P ++ X ++ Y ++ S) j ≤ Kat (P ++ X ++ Y ++ S) (mid + (P.length + X.length) - 1 - j))
    (hq : ∀ j, i ≤ j → j < hi → Kat (P ++ X ++ Y ++ S) (mid + (P.length + X.length) - 1 - j) < Kat (P ++ X ++ Y ++ S) j) :
    (∀ x ∈ X.take (i - P.length), ∀ y ∈ Y.drop (e - (P.length + X.length)), K x ≤ K y) ∧ (∀ x ∈ X.drop (i - P.length), ∀ y ∈ Y.take (e - (P.length + X.length)), K y < K x) := by
  have eX : P ++ X ++ Y ++ S = P ++ X ++ (Y ++ S) := by simp
  have lPX : (P ++ X).length = P.length + X.length := by simp
  have sX := fun i j h1 h2 h3 => srt_at (P := P) (Y := X) (S := Y ++ S) hX (i := i) (j := j) h1 h2 h3
  rw [← eX] at sX
  have sY := fun i j h1 h2 h3 => srt_at (P := P ++ X) (Y := Y) (S := S) hY (i := i) (j := j) h1 h2 h3
  rw [lPX] at sY
  refine ⟨?_, ?_⟩
  · have := at_mem (P := P) (Y := X) (S := Y ++ S) (n := i - P.length) (q := fun x => ∀ y ∈ Y.drop (e - (P.length + X.length)), K x ≤ K y) (by omega) fun j v j1 j2 hj => ?_
    · exact this
    · rw [← eX] at hj
      refine at_mem' (P := P ++ X) (S := S) fun k u k1 k2 hk => ?_
      rw [lPX] at k1 k2
      have hle : lo ≠ i := fun h => by
        rcases hlo h.symm with h | h <;> omega
      have := hp (i - 1) (by omega) (by omega)
      have a1 := sX j (i - 1) j1 (by omega) (by omega)
      have a2 := sY (mid + (P.length + X.length) - 1 - (i - 1)) k (by omega) (by omega) (by omega)
      rw [kat_some hj] at a1
      rw [kat_some hk] at a2
      omega
  · have := at_mem' (P := P) (Y := X) (S := Y ++ S) (n := i - P.length) (q := fun x => ∀ y ∈ Y.take (e - (P.length + X.length)), K y < K x) fun j v j1 j2 hj => ?_
    · exact this
    · rw [← eX] at hj
      refine at_mem (P := P ++ X) (S := S) (by omega) fun k u k1 k2 hk => ?_
      rw [lPX] at k1 k2
      have hne : i ≠ hi := fun h => by
        rcases hhi h with h | h <;> omega
      have := hq i (Nat.le_refl _) (by omega)
      have a1 := sX i j (by omega) (by omega) (by omega)
      have a2 := sY k (mid + (P.length + X.length) - 1 - i) (by omega) (by omega) (by omega)
      rw [kat_some hj] at a1
      rw [kat_some hk] at a2
      omega
theorem sym_half {G : SortG} {P X Y S : List It} {i1 i2 i3 : Int} (h1 : i1 = (P.length : Int)) (h2 : i2 = ((P.length + X.length : Nat) : Int)) (h3 : i3 = ((P.length + X.length + Y.length : Nat) : Int)) (sX : Srt X) (sY : Srt Y)
    (hG : X ≠ [] → Y ≠ [] → SymOk (X ++ Y) P S (G (P ++ X ++ Y ++ S, i1, i2, i3, ()))) :
    SymOk (X ++ Y) P S (bif decide (i1 < i2) then bif decide (i2 < i3) then G (P ++ X ++ Y ++ S, i1, i2, i3, ()) else some (P ++ X ++ Y ++ S, ()) else some (P ++ X ++ Y ++ S, ())) := by
  by_cases g1 : i1 < i2
  · rw [decide_eq_true g1, cond_true]
    by_cases g2 : i2 < i3
    · rw [decide_eq_true g2, cond_true]
      exact hG (len_pos_of (by omega)) (len_pos_of (by omega))
    · rw [decide_eq_false g2, cond_false]
      have : Y = [] := nil_of (by omega)
      subst this
      exact ⟨X, ⟨sX, by simpa using Stab.refl X⟩, by simp⟩
  · rw [decide_eq_false g1, cond_false]
    have : X = [] := nil_of (by omega)
    subst this
    exact ⟨Y, ⟨sY, Stab.refl Y⟩, by simp⟩
/-- a way that is taken or not, then a step -/
theorem half_bind {G : SortG} {i1 i2 i3 : Int} {l : List It} {r : List It × Unit} (h : (bif decide (i1 < i2) then bif decide (i2 < i3) then G (l, i1, i2, i3, ()) else some (l, ()) else some (l, ())) = some r) :
    (bif decide (i1 < i2) then bif decide (i2 < i3) then Option.bind (G (l, i1, i2, i3, ())) fun b => some (Sum.inl b) else some (Sum.inl (l, ())) else some (Sum.inl (l, ())) : Option ((List It × Unit) ⊕ (List It × Unit))) = some (Sum.inl r) := by
  generalize decide (i1 < i2) = c1 at h ⊢
  generalize decide (i2 < i3) = c2 at h ⊢
  cases c1 <;> cases c2 <;> simp only [cond_true, cond_false] at h ⊢
  · rw [Option.some.inj h]
  · rw [Option.some.inj h]
  · rw [Option.some.inj h]
  · rw [h]; rfl
set_option maxHeartbeats 1000000 in
theorem sym_many {G : SortG} {P X Y S : List It} (hX : Srt X) (hY : Srt Y) (h2 : 2 ≤ X.length) (h3 : 2 ≤ Y.length) (hl : (P ++ X ++ Y ++ S).length ≤ 100000000)
    (hG : ∀ {P' X' Y' S' : List It}, X'.length + Y'.length < X.length + Y.length → X' ≠ [] → Y' ≠ [] → Srt X' → Srt Y' → (P' ++ X' ++ Y' ++ S').length ≤ 100000000 →
      SymOk (X' ++ Y') P' S' (G (P' ++ X' ++ Y' ++ S', (P'.length : Int), ((P'.length + X'.length : Nat) : Int), ((P'.length + X'.length + Y'.length : Nat) : Int), ()))) :
    SymOk (X ++ Y) P S (F96as G (P ++ X ++ Y ++ S, (P.length : Int), ((P.length + X.length : Nat) : Int), ((P.length + X.length + Y.length : Nat) : Int), ())) := by
  have hl' := hl
  simp only [List.length_append] at hl'
  obtain ⟨mid, hmid⟩ : ∃ mid, mid = (P.length + (P.length + X.length + Y.length)) / 2 := ⟨_, rfl⟩
  obtain ⟨m, hm⟩ : ∃ m, m = P.length + X.length := ⟨_, rfl⟩
  obtain ⟨b, hb⟩ : ∃ b, b = P.length + X.length + Y.length := ⟨_, rfl⟩
  have parts := fun i e lo hi => sym_parts (P := P) (S := S) hX hY (i := i) (e := e) (lo := lo) (hi := hi) hmid
  have eX : P ++ X ++ Y ++ S = P ++ X ++ (Y ++ S) := by simp
  have lPX : (P ++ X).length = P.length + X.length := by simp
  have sX := fun i j h1 h2 h3 => srt_at (P := P) (Y := X) (S := Y ++ S) hX (i := i) (j := j) h1 h2 h3
  rw [← eX] at sX
  have sY := fun i j h1 h2 h3 => srt_at (P := P ++ X) (Y := Y) (S := S) hY (i := i) (j := j) h1 h2 h3
  rw [lPX] at sY
  obtain ⟨l, hL⟩ : ∃ l, l = P ++ X ++ Y ++ S := ⟨_, rfl⟩
  have hlen : l.length = b + S.length := by rw [hL]; simp; omega
  rw [← hL] at sX sY parts ⊢
  rw [← hb, ← hm]
  have w : wrap64 ((m : Int) - (P.length : Int)) = ((X.length : Nat) : Int) := wi (by omega) (by omega)
  have c : decide (((X.length : Nat) : Int) = 1) = false := decide_eq_false (by omega)
  have w' : wrap64 ((b : Int) - (m : Int)) = ((Y.length : Nat) : Int) := wi (by omega) (by omega)
  have c' : decide (((Y.length : Nat) : Int) = 1) = false := decide_eq_false (by omega)
  have hh := half (i := P.length) (j := b) (by omega)
  rw [show (P.length + b) / 2 = mid from by omega] at hh
  have wm : wrap64 (mid : Int) = (mid : Int) := wn (by omega)
  have wn' : wrap64 ((mid : Int) + (m : Int)) = ((mid + m : Nat) : Int) := wi (by omega) (by omega)
  have wp : wrap64 (((mid + m : Nat) : Int) - 1) = ((mid + m - 1 : Nat) : Int) := wi (by omega) (by omega)
  unfold F96as
  simp only [w, c, w', c', cond_false, hh, Option.bind_some, wm, wn', wp]
  obtain ⟨lo, hi, hst, q1, q2, q3, q4, q5, q6⟩ : ∃ lo hi : Nat, (bif decide ((mid : Int) < (m : Int)) then some (Sum.inl (wrap64 (((mid + m : Nat) : Int) - (b : Int)), (mid : Int), ())) else some (Sum.inl ((P.length : Int), (m : Int), ())) : Option ((Int × Int × Unit) ⊕ (List It × Unit))) = some (Sum.inl ((lo : Int), (hi : Int), ())) ∧
      P.length ≤ lo ∧ lo ≤ hi ∧ hi ≤ m ∧ hi ≤ mid + m - m ∧ mid + m - b ≤ lo ∧
      ((lo = P.length ∨ mid + m = b + lo) ∧ (hi = m ∨ hi = mid)) := by
    by_cases hc : mid < m
    · have c1 : decide ((mid : Int) < (m : Int)) = true := decide_eq_true (by omega)
      have w1 : wrap64 (((mid + m : Nat) : Int) - (b : Int)) = ((mid + m - b : Nat) : Int) := wi (by omega) (by omega)
      refine ⟨mid + m - b, mid, by simp only [c1, cond_true, w1], ?_⟩
      omega
    · have c1 : decide ((mid : Int) < (m : Int)) = false := decide_eq_false (by omega)
      refine ⟨P.length, m, by simp only [c1, cond_false], ?_⟩
      omega
  refine Eq.subst (motive := fun z => SymOk (X ++ Y) P S (Option.bind z _)) hst.symm ?_
  simp only [Option.bind_some, Sum.elim_inl]
  refine bs_ex' (lo := lo) (hi := hi) (p := fun h => decide (Kat l h ≤ Kat l (mid + (P.length + X.length) - 1 - h))) rfl rfl (by omega) (by omega) (fun i j h1 h2 h3 hp => ?_) (fun i j h1 h2 h3 => ?_) (fun i h1 h2 h3 h4 => ?_)
  · have a1 := sX i j (by omega) h2 (by omega)
    have a2 := sY (mid + (P.length + X.length) - 1 - j) (mid + (P.length + X.length) - 1 - i) (by omega) (by omega) (by omega)
    have hp := of_decide_eq_true hp
    exact decide_eq_true (by omega)
  · have hlt : (i + j) / 2 < l.length := by omega
    have hlt2 : mid + (P.length + X.length) - 1 - (i + j) / 2 < l.length := by omega
    obtain ⟨v, hv⟩ : ∃ v, l[(i + j) / 2]? = some v := ⟨_, List.getElem?_eq_getElem hlt⟩
    obtain ⟨u, hu⟩ : ∃ u, l[mid + (P.length + X.length) - 1 - (i + j) / 2]? = some u := ⟨_, List.getElem?_eq_getElem hlt2⟩
    obtain ⟨q, hq, hq2⟩ := cmp_ex u v
    have c1 : decide ((i : Int) < (j : Int)) = true := decide_eq_true (by omega)
    have w1 : wrap64 ((((i + j) / 2 : Nat) : Int) + 1) = (((i + j) / 2 + 1 : Nat) : Int) := wrap64_nat (by omega)
    have w2 : wrap64 (((mid + m - 1 : Nat) : Int) - (((i + j) / 2 : Nat) : Int)) = ((mid + (P.length + X.length) - 1 - (i + j) / 2 : Nat) : Int) := wi (by omega) (by omega)
    simp only [c1, cond_true, half (show i + j < 4000000000 by omega), Option.bind_some, wn (show (i + j) / 2 < 9223372036854775807 by omega), w2, idxN_nat hlt, hv, idxN_nat hlt2, hu, hq, hq2, w1, kat_some hv, kat_some hu]
    by_cases hc : K u < K v
    · have c2 : decide (K v ≤ K u) = false := decide_eq_false (by omega)
      simp only [decide_eq_true hc, c2, Bool.not_true, cond_false]
    · have c2 : decide (K v ≤ K u) = true := decide_eq_true (by omega)
      simp only [decide_eq_false hc, c2, Bool.not_false, cond_true]
  · obtain ⟨e, he⟩ : ∃ e, e + i = mid + m := ⟨mid + m - i, by omega⟩
    obtain ⟨p1, p2⟩ := parts i e lo hi (by omega) (by omega) (by omega) (by omega) (by omega) (fun h => by omega) (fun h => by omega) h1 h2
      (fun j j1 j2 => of_decide_eq_true (h3 j j1 j2)) (fun j j1 j2 => by have := of_decide_eq_false (h4 j j1 j2); omega)
    have spX : X.take (i - P.length) ++ X.drop (i - P.length) = X := List.take_append_drop _ _
    have spY : Y.take (e - (P.length + X.length)) ++ Y.drop (e - (P.length + X.length)) = Y := List.take_append_drop _ _
    have lX : (X.take (i - P.length)).length = i - P.length := by rw [List.length_take]; omega
    have lY : (Y.take (e - (P.length + X.length))).length = e - (P.length + X.length) := by rw [List.length_take]; omega
    generalize X.take (i - P.length) = X1 at p1 spX lX
    generalize X.drop (i - P.length) = X2 at p2 spX
    generalize Y.take (e - (P.length + X.length)) = Y1 at p2 spY lY
    generalize Y.drop (e - (P.length + X.length)) = Y2 at p1 spY
    subst spX spY
    obtain ⟨s1, s2, s3⟩ := Srt.app.1 hX
    obtain ⟨t1, t2, t3⟩ := Srt.app.1 hY
    have ge1 : m ≤ e := by omega
    have ge2 : e ≤ b := by omega
    have gi1 : P.length ≤ i := by omega
    have gi2 : i ≤ m := by omega
    clear sX sY parts h3 h4 q1 q2 q3 q4 q5 q6 hst hh w w' c c' wp
    simp only [List.length_append] at *
    have c1 : decide ((i : Int) < (i : Int)) = false := decide_eq_false (by omega)
    have we : wrap64 (((mid + m : Nat) : Int) - (i : Int)) = (e : Int) := wi (by omega) (by omega)
    -- the first half
    obtain ⟨M1, ⟨u1, u2⟩, u3⟩ := sym_half (G := G) (P := P) (X := X1) (Y := Y1) (S := X2 ++ Y2 ++ S) (i1 := (P.length : Int)) (i2 := (i : Int)) (i3 := (mid : Int)) rfl (by omega) (by omega) s1 t1 fun n1 n2 => by
      have := hG (P' := P) (X' := X1) (Y' := Y1) (S' := X2 ++ Y2 ++ S) (by omega) n1 n2 s1 t1 (by simp; omega)
      rw [show P.length + X1.length = i from by omega, show i + Y1.length = mid from by omega] at this
      exact this
    have uL := u2.len
    simp only [List.length_append] at uL
    -- the other half
    obtain ⟨M2, ⟨v1, v2⟩, v3⟩ := sym_half (G := G) (P := P ++ M1) (X := X2) (Y := Y2) (S := S) (i1 := (mid : Int)) (i2 := (e : Int)) (i3 := (b : Int)) (by simp; omega) (by simp; omega) (by simp; omega) s2 t2 fun n1 n2 => by
      have := hG (P' := P ++ M1) (X' := X2) (Y' := Y2) (S' := S) (by omega) n1 n2 s2 t2 (by simp; omega)
      rw [show (P ++ M1).length = mid from by simp; omega, show mid + X2.length = e from by omega, show e + Y2.length = b from by omega] at this
      exact this
    -- all
    refine ⟨some (P ++ (M1 ++ M2) ++ S, ()), ?_, M1 ++ M2, ⟨?_, ?_⟩, rfl⟩
    · simp only [c1, cond_false, we]
      refine congrArg (Option.map Sum.inr) ?_
      refine bind_of (a := Sum.inl (P ++ X1 ++ Y1 ++ (X2 ++ Y2 ++ S), ())) ?_ ?_
      · by_cases g1 : i < m
        · simp only [decide_eq_true (show (i : Int) < (m : Int) by omega), cond_true]
          by_cases g2 : m < e
          · simp only [decide_eq_true (show (m : Int) < (e : Int) by omega), cond_true]
            have := rotate (P := P ++ X1) (X := X2) (Y := Y1) (S := Y2 ++ S) (len_pos_of (by omega)) (len_pos_of (by omega)) (by simp; omega) (a := (i : Int)) (m := (m : Int)) (b := (e : Int)) (by simp; omega) (by simp; omega) (by simp; omega)
            rw [hL, show P ++ (X1 ++ X2) ++ (Y1 ++ Y2) ++ S = P ++ X1 ++ X2 ++ Y1 ++ (Y2 ++ S) from by simp, this]
            simp
          · simp only [decide_eq_false (show ¬ (m : Int) < (e : Int) by omega), cond_false]
            have : Y1 = [] := nil_of (by omega)
            subst this
            rw [hL]; simp
        · simp only [decide_eq_false (show ¬ (i : Int) < (m : Int) by omega), cond_false]
          have : X2 = [] := nil_of (by omega)
          subst this
          rw [hL]; simp
      · simp only [Sum.elim_inl]
        refine bind_of (a := Sum.inl (P ++ M1 ++ X2 ++ Y2 ++ S, ())) ?_ ?_
        · have e3 : P ++ M1 ++ X2 ++ Y2 ++ S = P ++ M1 ++ (X2 ++ Y2 ++ S) := by simp
          rw [e3]
          exact half_bind u3
        · simp only [Sum.elim_inl]
          have e4 : P ++ (M1 ++ M2) ++ S = P ++ M1 ++ M2 ++ S := by simp
          rw [e4, ← v3]
          cases G (P ++ M1 ++ X2 ++ Y2 ++ S, (mid : Int), (e : Int), (b : Int), ()) <;> rfl
    · refine Srt.app.2 ⟨u1, v1, fun x hx y hy => ?_⟩
      rcases List.mem_append.1 (u2.mem.1 hx) with hx | hx <;> rcases List.mem_append.1 (v2.mem.1 hy) with hy | hy
      · exact s3 x hx y hy
      · exact p1 x hx y hy
      · exact Int.le_of_lt (p2 y hy x hx)
      · exact t3 x hx y hy
    · have h1 : Stab (X1 ++ X2 ++ (Y1 ++ Y2)) (X1 ++ Y1 ++ (X2 ++ Y2)) := by
        have := ((Stab.refl X1).app (Stab.swap (X := X2) (Y := Y1) fun x hx y hy e => by have := p2 x hx y hy; omega)).app (Stab.refl Y2)
        simpa using this
      exact h1.trans (u2.app v2)
theorem sym_ok : ∀ (d : Nat) {P X Y S : List It} {k : Nat}, X.length + Y.length ≤ d → X ≠ [] → Y ≠ [] → Srt X → Srt Y → (P ++ X ++ Y ++ S).length ≤ 100000000 → d < k →
    SymOk (X ++ Y) P S (recF F96as k (P ++ X ++ Y ++ S, (P.length : Int), ((P.length + X.length : Nat) : Int), ((P.length + X.length + Y.length : Nat) : Int), ()))
  | d, P, X, Y, S, 0, _, _, _, _, _, _, h => by omega
  | d, P, X, Y, S, k + 1, h1, h2, h3, h4, h5, h6, h7 => by
    have p1 : 0 < X.length := List.length_pos_iff.2 h2
    have p2 : 0 < Y.length := List.length_pos_iff.2 h3
    simp only [recF]
    by_cases c1 : X.length = 1
    · obtain ⟨x, rfl⟩ := List.length_eq_one_iff.1 c1
      exact sym_one h5 h6
    · by_cases c2 : Y.length = 1
      · obtain ⟨y, rfl⟩ := List.length_eq_one_iff.1 c2
        exact sym_last h4 (by omega) h6
      · obtain ⟨d', rfl⟩ : ∃ d', d = d' + 1 := ⟨d - 1, by omega⟩
        exact sym_many h4 h5 (by omega) (by omega) h6 fun q1 q2 q3 q4 q5 q6 => sym_ok d' (by omega) q2 q3 q4 q5 q6 (by omega)
theorem symmerge {P X Y S : List It} (h2 : X ≠ []) (h3 : Y ≠ []) (h4 : Srt X) (h5 : Srt Y) (hl : (P ++ X ++ Y ++ S).length ≤ 100000000) {a m b : Int} (ha : a = (P.length : Int)) (hm : m = ((P.length + X.length : Nat) : Int)) (hb : b = ((P.length + X.length + Y.length : Nat) : Int)) :
    SymOk (X ++ Y) P S (F96a (P ++ X ++ Y ++ S, a, m, b, ())) := by
  subst ha hm hb
  unfold F96a
  refine sym_ok (X.length + Y.length) (Nat.le_refl _) h2 h3 h4 h5 hl ?_
  rw [big_eq]
  simp only [List.length_append] at hl
  omega
end Go.Proofs.Ytphdilmnielgeaa
