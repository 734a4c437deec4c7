/-
  Call: the law of whatever becomes of a caller.
-/
import Derived.Test.YtkiakaokgoodhaaGreatCallLawC
namespace Go.Proofs.YtkiakaokgoodhaaGreat
open Go.Sx Go Classical
set_option maxRecDepth 10000
theorem rAskOpen (self site n pat rid tgt wt : Int) (now : Bool) (c m : TMD) : F21 ((self, site, n, pat, rid, tgt, wt, true, now, c, ()), m, ()) = some ((self, site, n, pat, rid, tgt, wt, true, now, c, ()), NoP, 7, ()) := rfl
theorem rAskNo (self site n pat rid tgt wt : Int) (now : Bool) (c m : TMD) (hz : SzT m) (h : ¬ (2 ≤ m.1 ∧ m.1 ≤ 7 ∧ RightT (m.1, wrap64 (rid + 1), m.2.2))) : F21 ((self, site, n, pat, rid, tgt, wt, false, now, c, ()), m, ()) = some ((self, site, n, pat, rid, tgt, wt, false, now, c, ()), NoP, 1, ()) := by
  have hr := rTright_eq (m.1, wrap64 (rid + 1), m.2.2) hz
  unfold F21
  by_cases h2 : m.1 < 2
  · simp only [cond_false, h2, decide_true, cond_true]
  by_cases h7 : 7 < m.1
  · simp only [cond_false, h2, h7, decide_true, decide_false, cond_true]
  rw [dec_false fun hR => h ⟨by omega, by omega, hR⟩] at hr
  simp only [cond_false, h2, h7, decide_false]
  refine bind_of hr ?_
  rfl
theorem rAskYes (self site n pat rid tgt wt : Int) (now : Bool) (c m : TMD) (hz : SzT m) (h : 2 ≤ m.1 ∧ m.1 ≤ 7 ∧ RightT (m.1, wrap64 (rid + 1), m.2.2)) : F21 ((self, site, n, pat, rid, tgt, wt, false, now, c, ()), m, ()) =
    some ((self, site, n, pat, wrap64 (rid + 1), tgt, 0, true, false, (m.1, wrap64 (rid + 1), m.2.2), ()), (self, wrap64 (wrap64 (4 * site) + tgt), (m.1, wrap64 (rid + 1), m.2.2), ()), 0, ()) := by
  have hr := rTright_eq (m.1, wrap64 (rid + 1), m.2.2) hz
  rw [dec_true h.2.2] at hr
  have h2 : ¬ m.1 < 2 := by omega
  have h7 : ¬ 7 < m.1 := by omega
  unfold F21
  simp only [cond_false, h2, h7, decide_false]
  refine bind_of hr ?_
  rfl
theorem rTickShut (self site n pat rid tgt wt : Int) (now : Bool) (c : TMD) : F23 ((self, site, n, pat, rid, tgt, wt, false, now, c, ()), ()) = some ((self, site, n, pat, rid, tgt, wt, false, now, c, ()), [], ()) := rfl
theorem rTickWait (self site n pat rid tgt wt : Int) (c : TMD) (h : wrap64 (wt + 1) < pat) : F23 ((self, site, n, pat, rid, tgt, wt, true, false, c, ()), ()) = some ((self, site, n, pat, rid, tgt, wrap64 (wt + 1), true, false, c, ()), [], ()) := by
  unfold F23
  simp only [Bool.not_true, Bool.not_false, cond_false, cond_true, decide_eq_true h, Option.bind_some, Sum.elim_inr]
theorem rTickTurn (self site n pat rid tgt wt : Int) (c : TMD) (hn : 1 ≤ n ∧ n ≤ 3) (ht : 0 ≤ tgt ∧ tgt < n) (h : ¬ wrap64 (wt + 1) < pat) : F23 ((self, site, n, pat, rid, tgt, wt, true, false, c, ()), ()) =
    some ((self, site, n, pat, rid, (tgt + 1) % n, 0, true, false, c, ()), [(self, wrap64 (wrap64 (4 * site) + (tgt + 1) % n), c, ())], ()) := by
  have hr := turn_rem (n := n) ht.1 (by omega) hn.1
  unfold F23
  simp only [Bool.not_true, Bool.not_false, cond_false, cond_true, decide_eq_false h, Option.bind_some, Sum.elim_inl, hr]
  rfl
theorem rTickNow (self site n pat rid tgt wt : Int) (c : TMD) : F23 ((self, site, n, pat, rid, tgt, wt, true, true, c, ()), ()) =
    some ((self, site, n, pat, rid, tgt, 0, true, false, c, ()), [(self, wrap64 (wrap64 (4 * site) + tgt), c, ())], ()) := rfl
theorem rHearShut (self site n pat rid tgt wt fr : Int) (now : Bool) (c m : TMD) : F24 ((self, site, n, pat, rid, tgt, wt, false, now, c, ()), fr, m, ()) = some ((self, site, n, pat, rid, tgt, wt, false, now, c, ()), false, ()) := rfl
theorem rHearNo (self site n pat rid tgt wt fr : Int) (now : Bool) (c m : TMD) (hs : 0 ≤ site ∧ site ≤ 1) (hn : 1 ≤ n ∧ n ≤ 3) (hz : SzT m) (h : ¬ HearC site n rid c.1 fr m) : F24 ((self, site, n, pat, rid, tgt, wt, true, now, c, ()), fr, m, ()) = some ((self, site, n, pat, rid, tgt, wt, true, now, c, ()), false, ()) := by
  have w1 : wrap64 (4 * site) = 4 * site := wrap64_eq (by omega) (by omega)
  have w2 : wrap64 (4 * site + n) = 4 * site + n := wrap64_eq (by omega) (by omega)
  unfold F24
  simp only [Bool.not_true, cond_false, w1, w2]
  by_cases h1 : fr < 4 * site
  · simp only [h1, decide_true, cond_true]
  by_cases h2 : 4 * site + n ≤ fr
  · simp only [h1, h2, decide_true, decide_false, cond_true, cond_false]
  have hr := rTright_eq m hz
  simp only [h1, h2, decide_false, cond_false]
  refine bind_of hr ?_
  by_cases h5 : RightT m
  case neg =>
    rw [dec_false h5]; rfl
  simp only [dec_true h5, Bool.not_true, cond_false, rAns_eq, Option.bind_some]
  by_cases h3 : m.2.1 = rid
  case neg =>
    simp only [h3, decide_false, Bool.not_false, cond_true]
  by_cases h4 : m.1 = ansT c.1
  case neg =>
    simp only [h3, h4, decide_true, decide_false, Bool.not_true, Bool.not_false, cond_true, cond_false]
  exact absurd ⟨by omega, by omega, h3, h4, h5⟩ h
theorem rHearAway (self site n pat rid tgt wt fr : Int) (now : Bool) (c m : TMD) (hs : 0 ≤ site ∧ site ≤ 1) (hn : 1 ≤ n ∧ n ≤ 3) (ht : 0 ≤ tgt ∧ tgt < n) (hz : SzT m) (h : HearC site n rid c.1 fr m) (h8 : m.1 = 8) (h14 : m.2.2.2.2.2.2.2.2.2.1 = 14) :
    F24 ((self, site, n, pat, rid, tgt, wt, true, now, c, ()), fr, m, ()) = some ((self, site, n, pat, rid, nextT n tgt m.2.2.2.2.2.2.2.2.2.2.1, wt, true, true, c, ()), false, ()) := by
  have w1 : wrap64 (4 * site) = 4 * site := wrap64_eq (by omega) (by omega)
  have w2 : wrap64 (4 * site + n) = 4 * site + n := wrap64_eq (by omega) (by omega)
  obtain ⟨h1, h2, h3, h4, h5⟩ := h
  have h1 : ¬ fr < 4 * site := by omega
  have h2 : ¬ 4 * site + n ≤ fr := by omega
  have hr := rTright_eq m hz
  rw [dec_true h5] at hr
  have hrem := turn_rem (n := n) ht.1 (by omega) hn.1
  have d4 : decide (m.1 = ansT c.1) = true := decide_eq_true h4
  have d8 : decide (m.1 = 8) = true := decide_eq_true h8
  have d14 : decide (m.2.2.2.2.2.2.2.2.2.1 = 14) = true := decide_eq_true h14
  have d3 : decide (m.2.1 = rid) = true := decide_eq_true h3
  unfold F24
  simp only [Bool.not_true, cond_false, w1, w2, h1, h2, decide_false]
  refine bind_of hr ?_
  simp only [d3, rAns_eq, Option.bind_some, d4, d8, d14, Bool.not_true, cond_true, cond_false, hrem]
  unfold nextT
  generalize m.2.2.2.2.2.2.2.2.2.2.1 = q
  by_cases k1 : 0 ≤ q
  · by_cases k2 : q < n
    · simp only [k1, k2, decide_true, cond_true, Option.bind_some, Sum.elim_inl, and_self, if_true]
    · simp only [k1, k2, decide_true, decide_false, cond_true, cond_false, Option.bind_some, Sum.elim_inl, and_false, if_false]
  · simp only [k1, decide_false, cond_false, Option.bind_some, Sum.elim_inl, false_and, if_false]
theorem rHearYes (self site n pat rid tgt wt fr : Int) (now : Bool) (c m : TMD) (hs : 0 ≤ site ∧ site ≤ 1) (hn : 1 ≤ n ∧ n ≤ 3) (hz : SzT m) (h : HearC site n rid c.1 fr m) (h8 : ¬ (m.1 = 8 ∧ m.2.2.2.2.2.2.2.2.2.1 = 14)) :
    F24 ((self, site, n, pat, rid, tgt, wt, true, now, c, ()), fr, m, ()) = some ((self, site, n, pat, rid, tgt, wt, false, now, c, ()), true, ()) := by
  have w1 : wrap64 (4 * site) = 4 * site := wrap64_eq (by omega) (by omega)
  have w2 : wrap64 (4 * site + n) = 4 * site + n := wrap64_eq (by omega) (by omega)
  obtain ⟨h1, h2, h3, h4, h5⟩ := h
  have h1 : ¬ fr < 4 * site := by omega
  have h2 : ¬ 4 * site + n ≤ fr := by omega
  have hr := rTright_eq m hz
  rw [dec_true h5] at hr
  have d4 : decide (m.1 = ansT c.1) = true := decide_eq_true h4
  have d3 : decide (m.2.1 = rid) = true := decide_eq_true h3
  unfold F24
  simp only [Bool.not_true, cond_false, w1, w2, h1, h2, decide_false]
  refine bind_of hr ?_
  simp only [d3, rAns_eq, Option.bind_some, d4, Bool.not_true, cond_false]
  by_cases k1 : m.1 = 8
  · have k2 : ¬ m.2.2.2.2.2.2.2.2.2.1 = 14 := fun e => h8 ⟨k1, e⟩
    simp only [decide_eq_true k1, k2, decide_false, cond_true, cond_false]
  · simp only [k1, decide_false, cond_false]
theorem sameNo : F25 (NoT, NoT, ()) = some (true, ()) := by
  have h := msg_same NoT NoT shNoT
  rw [dec_true rfl] at h
  exact h
theorem sent_one (f t : Int) (m : TMD) (hm : ShT m) : F55 ([(f, t, m, ())], [(f, t, m, ())], ()) = some (true, ()) := by
  have hS := rMsg_same m m hm
  rw [dec_true rfl] at hS
  have i0 : idx [((f, t, m, ()) : PD)] ((0 : Nat) : Int) = some (f, t, m, ()) := rfl
  unfold F55
  simp only [decide_true, Bool.not_true, cond_false]
  refine iter_count (mk := fun i => ((i : Int), ())) (n := 1) (by omega) (fun i hi => ?_) ?_
  · obtain rfl : i = 0 := by omega
    have d : decide (((0 : Nat) : Int) < Int.ofNat [((f, t, m, ()) : PD)].length) = true := rfl
    simp only [d, cond_true, i0, Option.bind_some, decide_true, Bool.not_true, cond_false, ofT_eq]
    refine bind_of hS ?_
    rfl
  · rfl
theorem oneNo : F22 (NoP, false, [], ()) = some (true, ()) := by
  unfold F22
  have d : decide (Int.ofNat ([] : List PD).length = 0) = true := by decide
  simp only [Bool.not_false, cond_true, d]
  refine bind_of sameNo ?_
  rfl
theorem oneYes (f t : Int) (m : TMD) (hm : ShT m) : F22 ((f, t, m, ()), true, [(f, t, m, ())], ()) = some (true, ()) := by
  unfold F22
  simp only [Bool.not_true, cond_false]
  exact bind_of (sent_one f t m hm) rfl
theorem bind_ex {α β : Type} {A : Option α} {f : α → Option β} (P : α → Prop) {Q : β → Prop} (h : ∃ a, A = some a ∧ P a) (h2 : ∀ a, P a → ∃ b, f a = some b ∧ Q b) : ∃ b, Option.bind A f = some b ∧ Q b := by
  obtain ⟨a, h, hp⟩ := h
  obtain ⟨b, hb, hq⟩ := h2 a hp
  exact ⟨b, by rw [h]; exact hb, hq⟩
theorem nextT_in {n tgt q : Int} (hn : 1 ≤ n) : 0 ≤ nextT n tgt q ∧ nextT n tgt q < n := by
  unfold nextT
  by_cases h : 0 ≤ q ∧ q < n
  · rw [if_pos h]; exact h
  · rw [if_neg h]; exact ⟨Int.emod_nonneg _ (by omega), Int.emod_lt_of_pos _ (by omega)⟩
abbrev ActD : Type := UInt8 × Int × TMD × Unit
def SmallT (m : TMD) : Prop := SzT m ∧ Bnd m
theorem fewAct (l : List ActD) (hz : ∀ v ∈ l, SzT v.2.2.1) (hM : ∀ v ∈ l, v.2.2.1.2.2.2.2.2.2.2.2.2.2.2.2.2.2.2.1.2.2.1.length ≤ 1800000000000) (hl : l.length ≤ 9223372036854775806) : ∃ z, F20 (l, 80, ()) = some (z, ()) ∧ (z = true → ∀ v ∈ l, SmallT v.2.2.1) := by
  let p : Nat → Bool := fun i => cond (decide ((80 : Int) ≤ (i : Int))) false (match l[i]? with
    | some v => cond (dec' (F8 (v.2.2.1, ()) = some (true, ()))) true false
    | none => true)
  have h := iter_all (T := Int × Unit) (R := Bool × Unit) (step := fun (x_1 : Int × Unit) =>
     bif decide (x_1.fst < Int.ofNat (List.length l)) then
       bif decide (80 ≤ x_1.fst) then some (Sum.inr (false, ()))
       else
         Option.bind (idx l x_1.fst)
           fun b =>
           Option.bind (F8 b.snd.snd) fun b =>
           bif !b.fst then some (Sum.inr (false, ()))
           else some (Sum.inl (wrap64 (x_1.fst + 1), ()))
     else some (Sum.inr (true, ()))) (mk := fun i => ((i : Int), ())) (n := l.length) p (rt := (true, ())) (rf := (false, ())) (by omega) (fun i hi => by
      obtain ⟨v, hv⟩ : ∃ v, l[i]? = some v := ⟨_, List.getElem?_eq_getElem hi⟩
      have hmem := List.mem_of_getElem? hv
      obtain ⟨b, e1, -⟩ := fewT_ex v.2.2.1 (hz v hmem).1 (hM v hmem)
      have e1' : F8 v.2.2 = some (b, ()) := e1
      have wi : wrap64 ((i : Int) + 1) = ((i + 1 : Nat) : Int) := wrap64_nat (by omega)
      simp only [lt_len, hi, decide_true, cond_true, idx_nat, hv, Option.bind_some, e1', wi, p]
      by_cases h80 : (80 : Int) ≤ (i : Int)
      · simp only [h80, decide_true, cond_true, cond_false]
      · simp only [h80, decide_false, cond_false]
        cases b with
        | true => rw [dec_true (p := (some (true, ()) : Option (Bool × Unit)) = some (true, ())) rfl]; rfl
        | false => rw [dec_false (p := (some (false, ()) : Option (Bool × Unit)) = some (true, ())) (by simp)]; rfl)
      (by simp only [lt_len, Nat.lt_irrefl, decide_false, cond_false])
  refine ⟨(List.range l.length).all p, ?_, fun hall v hv => ?_⟩
  · have e : cond ((List.range l.length).all p) (true, ()) (false, ()) = ((List.range l.length).all p, ()) := by cases (List.range l.length).all p <;> rfl
    rw [← e]
    exact h
  · obtain ⟨i, hi, rfl⟩ := List.mem_iff_getElem.1 hv
    have hp := List.all_eq_true.1 hall i (List.mem_range.2 hi)
    have hv' : l[i]? = some l[i] := List.getElem?_eq_getElem hi
    simp only [p, hv'] at hp
    have hmem := List.getElem_mem hi
    obtain ⟨b, e1, g1⟩ := fewT_ex l[i].2.2.1 (hz _ hmem).1 (hM _ hmem)
    have hb : b = true := by
      cases b with
      | true => rfl
      | false =>
        exfalso
        rw [dec_false (show ¬ F8 (l[i].2.2.1, ()) = some (true, ()) from fun h => by rw [show F8 (l[i].2.2.1, ()) = some (false, ()) from e1] at h; cases h)] at hp
        cases hd : decide ((80 : Int) ≤ (i : Int)) <;> rw [hd] at hp <;> exact Bool.noConfusion hp
    obtain ⟨s1, s2⟩ := g1 hb
    exact ⟨hz _ hmem, (hz _ hmem).1, by omega, by omega⟩
abbrev PlD : Type := Int × Int × Int × Int × Int × Int × Int × Bool × Bool × TMD × CD
def PlayX (self site n pat : Int) (t : PlD) : Prop := ∃ rid tgt wt wt' op now c c', t = (self, site, n, pat, rid, tgt, wt', op, now, c', (self, site, n, pat, rid, tgt, wt, op, c, ())) ∧ (0 ≤ tgt ∧ tgt < n) ∧
  (op = true → c = c' ∧ ShT c ∧ CapT c ∧ (now = true → wt = pat) ∧ (now = false → wt = wt' ∧ 0 ≤ wt ∧ wt < pat))
theorem lawPlays (x : (argTy P5).den) (hx : Fit47 (argTy P5) x) (hm : FitM (argTy P5) x) : F5 x = some (true, ()) := by
  obtain ⟨self, site, n, pat, rid, l, ⟨⟩⟩ : Int × Int × Int × Int × Int × List ActD × Unit := x
  have hl : l.length ≤ 140737488351232 := hx.2.2.2.2.2.1.1
  obtain ⟨z, ez, hsm⟩ := fewAct l (fun v hv => szT (hx.2.2.2.2.2.1.2 v hv).2.2.1) (fun v hv => handT_many (hm.2.2.2.2.2.1.2 v hv).2.2.1) (by omega)
  unfold F5
  simp only [awakeC_eq, Option.bind_some, Bool.not_true, cond_false]
  refine bind_of ez ?_
  cases z with
  | false => rfl
  | true =>
    have hsm := hsm rfl
    simp only [Bool.not_true, cond_false]
    by_cases hM : MayC self site n pat rid
    case neg =>
      refine bind_of (new_no hM) ?_
      simp only [cond_false, may_eq, Option.bind_some, dec_false hM, Bool.not_false, cond_true, decide_true]
    refine bind_of (new_yes hM) ?_
    simp only [cond_true, may_eq, Option.bind_some, dec_true hM, Bool.not_true, cond_false]
    unfold MayC at hM
    have hs : 0 ≤ site ∧ site ≤ 1 := by omega
    have hn : 1 ≤ n ∧ n ≤ 3 := by omega
    refine iter_rel (I := fun k t => ∃ u, t = ((k : Int), u) ∧ PlayX self site n pat u) (n := l.length) (r := (true, ())) (by omega) ?_ ?_ ⟨_, rfl, rid, 0, 0, 0, false, false, NoT, NoT, rfl, by omega, fun h => by cases h⟩
    · rintro k t hk ⟨u, rfl, rid, tgt, wt, wt', op, now, c, c', rfl, ht, hI⟩
      right
      obtain ⟨⟨kd, fr, m, ⟨⟩⟩, hv⟩ : ∃ v, l[k]? = some v := ⟨_, List.getElem?_eq_getElem hk⟩
      obtain ⟨zm, hB⟩ : SmallT m := hsm _ (List.mem_of_getElem? hv)
      have wk : wrap64 ((k : Int) + 1) = ((k + 1 : Nat) : Int) := wrap64_nat (by omega)
      have hA0 : ∀ p : PD, appO ([] : List PD) [p] = some [p] := fun p => appO_eq (by have : capB = 34359738368 := rfl; simp only [List.length_cons, List.length_nil]; omega)
      simp only [lt_len, hk, decide_true, cond_true, idx_nat, hv, Option.bind_some]
      have fin : ∀ {A : Option (PlD ⊕ (PlD ⊕ (Bool × Unit)))}, True := fun {_} => trivial
      refine Exists.elim (bind_ex (fun o => ∃ u, o = Sum.inl u ∧ PlayX self site n pat u) (Q := fun o => ∃ t', o = Sum.inl t' ∧ ∃ u, t' = (((k + 1 : Nat) : Int), u) ∧ PlayX self site n pat u) ?_ ?_) (fun b hb => by
        obtain ⟨hb, t', rfl, hu⟩ := hb
        exact ⟨t', hb, hu⟩)
      · generalize decide (intOf8 kd = intOf8 (UInt8.ofNat 0)) = d0
        generalize decide (intOf8 kd = intOf8 (UInt8.ofNat 1)) = d1
        generalize decide (intOf8 kd = intOf8 (UInt8.ofNat 2)) = d2
        generalize decide (intOf8 kd = intOf8 (UInt8.ofNat 3)) = d3
        cases d0 with
        | true =>
          simp only [cond_true, toT_eq, Option.bind_some]
          cases op with
          | true =>
            obtain ⟨rfl, h1, h2, h3, h4⟩ := hI rfl
            have e : decide ((7 : Int) = 0) = false := rfl
            simp only [askOpen_eq, rAskOpen, Option.bind_some, e, cond_false, Sum.elim_inl, decide_true, Bool.not_true, oneNo]
            exact ⟨_, rfl, _, rfl, rid, tgt, wt, wt', true, now, c, c, rfl, ht, hI⟩
          | false =>
            by_cases h : 2 ≤ m.1 ∧ m.1 ≤ 7 ∧ RightT (m.1, wrap64 (rid + 1), m.2.2)
            · have a1 := askYes_eq self site n pat rid tgt wt c m hB h
              have a2 := rAskYes self site n pat rid tgt wt' now c' m zm h
              have sM : ShT (m.1, wrap64 (rid + 1), m.2.2) := zm.1
              have cM := right_cap (m := (m.1, wrap64 (rid + 1), m.2.2)) zm.1 h.2.2 hB.2.1 hB.2.2
              have a3 := oneYes self (wrap64 (wrap64 (4 * site) + tgt)) (m.1, wrap64 (rid + 1), m.2.2) sM
              simp only [a1, a2, Option.bind_some, decide_true, cond_true, hA0, Sum.elim_inl, Bool.not_true, cond_false, a3]
              exact ⟨_, rfl, _, rfl, wrap64 (rid + 1), tgt, 0, 0, true, false, _, _, rfl, ht, fun _ => ⟨rfl, sM, cM, (fun h => by cases h), fun _ => ⟨rfl, by omega, by omega⟩⟩⟩
            · have a1 := askNo_eq self site n pat rid tgt wt c m hB h
              have a2 := rAskNo self site n pat rid tgt wt' now c' m zm h
              have e : decide ((1 : Int) = 0) = false := rfl
              simp only [a1, a2, Option.bind_some, e, cond_false, Sum.elim_inl, decide_true, Bool.not_true, oneNo]
              exact ⟨_, rfl, _, rfl, rid, tgt, wt, wt', false, now, c, c', rfl, ht, fun h => by cases h⟩
        | false =>
          cases d1 with
          | true =>
            simp only [cond_true, cond_false]
            cases op with
            | false =>
              simp only [tickShut, rTickShut, Option.bind_some, oneNo, Bool.not_true, cond_false]
              exact ⟨_, rfl, _, rfl, rid, tgt, wt, wt', false, now, c, c', rfl, ht, fun h => by cases h⟩
            | true =>
              obtain ⟨rfl, h1, h2, h3, h4⟩ := hI rfl
              cases now with
              | true =>
                obtain rfl := h3 rfl
                have w1 : wrap64 (wt + 1) = wt + 1 := wrap64_eq (by omega) (by omega)
                have a1 := tickAgain self site n wt rid tgt wt c (by rw [w1]; omega) h2
                simp only [a1, rTickNow, Option.bind_some, oneYes _ _ _ h1, Bool.not_true, cond_false]
                exact ⟨_, rfl, _, rfl, rid, tgt, 0, 0, true, false, c, c, rfl, ht, fun _ => ⟨rfl, h1, h2, (fun h => by cases h), fun _ => ⟨rfl, by omega, by omega⟩⟩⟩
              | false =>
                obtain ⟨rfl, h5, h6⟩ := h4 rfl
                have w1 : wrap64 (wt + 1) = wt + 1 := wrap64_eq (by omega) (by omega)
                by_cases h7 : wt + 1 < pat
                · have a1 := tickWait self site n pat rid tgt wt c (by rw [w1]; exact h7)
                  have a2 := rTickWait self site n pat rid tgt wt c (by rw [w1]; exact h7)
                  simp only [a1, a2, Option.bind_some, oneNo, Bool.not_true, cond_false]
                  exact ⟨_, rfl, _, rfl, rid, tgt, wrap64 (wt + 1), wrap64 (wt + 1), true, false, c, c, rfl, ht, fun _ => ⟨rfl, h1, h2, (fun h => by cases h), fun _ => ⟨rfl, by rw [w1]; omega, by rw [w1]; omega⟩⟩⟩
                · have a1 := tickTurn self site n pat rid tgt wt c hn ht (by rw [w1]; omega) h2
                  have a2 := rTickTurn self site n pat rid tgt wt c hn ht (by rw [w1]; exact h7)
                  simp only [a1, a2, Option.bind_some, oneYes _ _ _ h1, Bool.not_true, cond_false]
                  exact ⟨_, rfl, _, rfl, rid, (tgt + 1) % n, 0, 0, true, false, c, c, rfl, ⟨Int.emod_nonneg _ (by omega), Int.emod_lt_of_pos _ (by omega)⟩, fun _ => ⟨rfl, h1, h2, (fun h => by cases h), fun _ => ⟨rfl, by omega, by omega⟩⟩⟩
          | false =>
            have hz' : SzT (m.1, rid, m.2.2) := zm
            have hB' : Bnd (m.1, rid, m.2.2) := hB
            have drop : ∀ (c : TMD), F26 ((self, site, n, pat, rid, tgt, wt, op, c, ()), ()) = some ((self, site, n, pat, rid, tgt, wt, false, c, ()), ()) := fun c => rfl
            have hq : ∀ {X : Type} (d : Bool), ∃ fr' m', (bif d then some (Sum.inl (wrap64 (wrap64 (4 * site) + tgt), (m.1, rid, m.2.2), ())) else some (Sum.inl (fr, m, ())) : Option ((Int × TMD × Unit) ⊕ X)) = some (Sum.inl (fr', m', ())) ∧ SzT m' ∧ Bnd m' := fun {X} d => by
              cases d
              · exact ⟨_, _, rfl, zm, hB⟩
              · exact ⟨_, _, rfl, hz', hB'⟩
            clear zm hB hz' hB'
            cases d2 with
            | true =>
              simp only [cond_true, cond_false]
              obtain ⟨fr', m', he, zm, hB⟩ := hq (X := _) d3
              refine bind_ex (fun o => o = Sum.inl (fr', m', ())) ⟨_, he, rfl⟩ ?_
              rintro o rfl
              simp only [Sum.elim_inl, toT_eq, Option.bind_some]
              cases op with
              | false =>
                simp only [hearShut, rHearShut, Option.bind_some, BEq.rfl, Bool.not_true, Bool.not_false, cond_false, cond_true, sameNo]
                exact ⟨_, rfl, _, rfl, rid, tgt, wt, wt', false, now, c, c', rfl, ht, fun h => by cases h⟩
              | true =>
                obtain ⟨rfl, h1, h2, h3, h4⟩ := hI rfl
                by_cases hH : HearC site n rid c.1 fr' m'
                · by_cases h8 : m'.1 = 8 ∧ m'.2.2.2.2.2.2.2.2.2.1 = 14
                  · have a1 := hearAway self site n pat rid tgt wt fr' c m' hs hn ht zm.1 hH h8.1 h8.2
                    have a2 := rHearAway self site n pat rid tgt wt' fr' now c m' hs hn ht zm hH h8.1 h8.2
                    simp only [a1, a2, Option.bind_some, BEq.rfl, Bool.not_true, Bool.not_false, cond_false, cond_true, sameNo]
                    exact ⟨_, rfl, _, rfl, rid, _, pat, wt', true, true, c, c, rfl, nextT_in hn.1, fun _ => ⟨rfl, h1, h2, fun _ => rfl, fun h => by cases h⟩⟩
                  · have a1 := hearYes self site n pat rid tgt wt fr' c m' hs hn hB hH h8
                    have a2 := rHearYes self site n pat rid tgt wt' fr' now c m' hs hn zm hH h8
                    have a3 := rMsg_same m' m' zm.1
                    rw [dec_true rfl] at a3
                    simp only [a1, a2, Option.bind_some, BEq.rfl, Bool.not_true, cond_false, cond_true, ofT_eq, a3]
                    exact ⟨_, rfl, _, rfl, rid, tgt, wt, wt', false, now, c, c, rfl, ht, fun h => by cases h⟩
                · have a1 := hearNo self site n pat rid tgt wt fr' c m' hs hn zm.1 hH
                  have a2 := rHearNo self site n pat rid tgt wt' fr' now c m' hs hn zm hH
                  simp only [a1, a2, Option.bind_some, BEq.rfl, Bool.not_true, Bool.not_false, cond_false, cond_true, sameNo]
                  exact ⟨_, rfl, _, rfl, rid, tgt, wt, wt', true, now, c, c, rfl, ht, hI⟩
            | false =>
              cases d3 with
              | true =>
                simp only [cond_true, cond_false]
                obtain ⟨fr', m', he, zm, hB⟩ := hq (X := _) true
                refine bind_ex (fun o => o = Sum.inl (fr', m', ())) ⟨_, he, rfl⟩ ?_
                rintro o rfl
                simp only [Sum.elim_inl, toT_eq, Option.bind_some]
                cases op with
                | false =>
                  simp only [hearShut, rHearShut, Option.bind_some, BEq.rfl, Bool.not_true, Bool.not_false, cond_false, cond_true, sameNo]
                  exact ⟨_, rfl, _, rfl, rid, tgt, wt, wt', false, now, c, c', rfl, ht, fun h => by cases h⟩
                | true =>
                  obtain ⟨rfl, h1, h2, h3, h4⟩ := hI rfl
                  by_cases hH : HearC site n rid c.1 fr' m'
                  · by_cases h8 : m'.1 = 8 ∧ m'.2.2.2.2.2.2.2.2.2.1 = 14
                    · have a1 := hearAway self site n pat rid tgt wt fr' c m' hs hn ht zm.1 hH h8.1 h8.2
                      have a2 := rHearAway self site n pat rid tgt wt' fr' now c m' hs hn ht zm hH h8.1 h8.2
                      simp only [a1, a2, Option.bind_some, BEq.rfl, Bool.not_true, Bool.not_false, cond_false, cond_true, sameNo]
                      exact ⟨_, rfl, _, rfl, rid, _, pat, wt', true, true, c, c, rfl, nextT_in hn.1, fun _ => ⟨rfl, h1, h2, fun _ => rfl, fun h => by cases h⟩⟩
                    · have a1 := hearYes self site n pat rid tgt wt fr' c m' hs hn hB hH h8
                      have a2 := rHearYes self site n pat rid tgt wt' fr' now c m' hs hn zm hH h8
                      have a3 := rMsg_same m' m' zm.1
                      rw [dec_true rfl] at a3
                      simp only [a1, a2, Option.bind_some, BEq.rfl, Bool.not_true, cond_false, cond_true, ofT_eq, a3]
                      exact ⟨_, rfl, _, rfl, rid, tgt, wt, wt', false, now, c, c, rfl, ht, fun h => by cases h⟩
                  · have a1 := hearNo self site n pat rid tgt wt fr' c m' hs hn zm.1 hH
                    have a2 := rHearNo self site n pat rid tgt wt' fr' now c m' hs hn zm hH
                    simp only [a1, a2, Option.bind_some, BEq.rfl, Bool.not_true, Bool.not_false, cond_false, cond_true, sameNo]
                    exact ⟨_, rfl, _, rfl, rid, tgt, wt, wt', true, now, c, c, rfl, ht, hI⟩
              | false =>
                simp only [cond_false, drop, Option.bind_some]
                exact ⟨_, rfl, _, rfl, rid, tgt, wt, wt', false, now, c, c', rfl, ht, fun h => by cases h⟩
      · rintro o ⟨u, rfl, rid, tgt, wt, wt', op, now, c, c', rfl, ht, hI⟩
        have e1 : F19 ((self, site, n, pat, rid, tgt, wt, op, c, ()), ()) = some (op, (self, site, n, pat, rid, tgt, wt, op, c, ()), ()) := rfl
        have e2 : F27 ((self, site, n, pat, rid, tgt, wt, op, c, ()), ()) = some (tgt, (self, site, n, pat, rid, tgt, wt, op, c, ()), ()) := rfl
        simp only [Sum.elim_inl, e1, e2, Option.bind_some, BEq.rfl, Bool.not_true, cond_false, decide_true, wk]
        exact ⟨_, rfl, _, rfl, _, rfl, rid, tgt, wt, wt', op, now, c, c', rfl, ht, hI⟩
    · rintro t ⟨u, rfl, -⟩
      simp only [lt_len, Nat.lt_irrefl, decide_false, cond_false]
end Go.Proofs.YtkiakaokgoodhaaGreat
