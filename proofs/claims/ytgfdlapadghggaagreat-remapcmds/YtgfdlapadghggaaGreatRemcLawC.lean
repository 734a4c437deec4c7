/-
  remap: commands there and back: the law.
-/
import Derived.Test.YtgfdlapadghggaaGreatRemcLawB
namespace Go.Proofs.YtgfdlapadghggaaGreat
open Go.Sx Go Classical
set_option maxRecDepth 10000
theorem few_long (l : List T70D) (h : 80 < l.length) : F5 ((0, [], [], [], 0, 0, 0, [], [], [], 0, 0, 0, false, l, [], [], ()), ()) = some (false, ()) := by
  have e : decide ((80 : Int) < Int.ofNat l.length) = true := decide_eq_true (by simp only [Int.ofNat_eq_natCast]; omega)
  have z : ∀ {α : Type}, decide ((10 : Int) < Int.ofNat ([] : List α).length) = false := fun {_} => rfl
  unfold F5
  simp only [z, e, cond_false, cond_true]
theorem sh_cmdTo {p q : List UInt8} {c : T28D} (hc : ShC c) : ShC (cmdTo p q c).1 := by
  have hN : ShC NoCmd := by
    refine ⟨?_, ?_, ?_, ?_, ⟨?_, fun s hs => by simp at hs⟩, ?_⟩ <;> simp [Sh]
  unfold cmdTo
  cases dec' (RightC c ∧ c.1 ≤ 7) with
  | false => exact hN
  | true =>
    simp only [cond_true]
    cases decide (c.1 ≤ 2) with
    | true =>
      simp only [cond_true]
      cases (rangeTo p q c.2.1 c.2.2.1).2.2.1 with
      | true => exact hc
      | false => exact hN
    | false =>
      simp only [cond_false]
      cases decide (c.1 = 3) with
      | false => exact hc
      | true =>
        simp only [cond_true]
        cases c.2.2.2.2.2.2.2.1.all (cOk p q) with
        | false => exact hN
        | true =>
          cases c.2.2.2.2.2.2.2.2.1.all (oOk p q) with
          | false => exact hN
          | true =>
            cases c.2.2.2.2.2.2.2.2.2.1.all (oOk p q) with
            | false => exact hN
            | true => exact ⟨map_sh _ hc.1, map_sh _ hc.2.1, map_sh _ hc.2.2.1, hc.2.2.2⟩
theorem range_small {p q k e : List UInt8} (hq : St q) (hk : St k) (he : St e) : St (rangeTo p q k e).1 ∧ St (rangeTo p q k e).2.1 := by
  rcases rangeTo_cases p q k e with h | ⟨k', e', hM, h⟩
  · rw [h]; exact ⟨by simp, by simp⟩
  · rw [h]
    have h1 := hM.2.2.2.1.1.len
    have h2 := hM.2.2.2.1.len
    exact ⟨by show k'.length ≤ _; omega, by show e'.length ≤ _; omega⟩
theorem sz_cmdTo {p q : List UInt8} (hq : St q) {c : T28D} (hz : SzCmd c) : SzCmd (cmdTo p q c).1 := by
  have hN : SzCmd NoCmd := szCmd (by simp [Fit47, IntKind.min, IntKind.max, IntKind.bits, IntKind.signed])
  have hs := sh_cmdTo (p := p) (q := q) hz.1
  by_cases hR : RightC c ∧ c.1 ≤ 7
  case neg =>
    have e : cmdTo p q c = (NoCmd, false, ()) := by unfold cmdTo; rw [dec_false hR]; rfl
    rw [e]; exact hN
  have hkk := right_kind hR.1
  obtain ⟨z1, ⟨n1, n2, n3, n4⟩, z2, z3, zc, z9, z10, zr⟩ := hz
  obtain ⟨s1, s2, s3⟩ := range_small (p := p) hq z2 z3 |>.imp id (fun h => (⟨h, trivial⟩ : _ ∧ True))
  by_cases h2 : c.1 ≤ 2
  · have e : cmdTo p q c = bif (rangeTo p q c.2.1 c.2.2.1).2.2.1 then ((c.1, (rangeTo p q c.2.1 c.2.2.1).1, (rangeTo p q c.2.1 c.2.2.1).2.1, c.2.2.2), true, ()) else (NoCmd, false, ()) := by
      unfold cmdTo; rw [dec_true hR, decide_eq_true h2]; rfl
    rw [e]
    cases (rangeTo p q c.2.1 c.2.2.1).2.2.1 with
    | false => exact hN
    | true => exact ⟨z1, ⟨n1, n2, n3, n4⟩, s1, s2, zc, z9, z10, zr⟩
  · by_cases h3 : c.1 = 3
    · cases a1 : c.2.2.2.2.2.2.2.1.all (cOk p q) with
      | false =>
        have e : cmdTo p q c = (NoCmd, false, ()) := by unfold cmdTo; rw [dec_true hR, decide_eq_false h2, decide_eq_true h3, a1]; rfl
        rw [e]; exact hN
      | true =>
        cases a2 : c.2.2.2.2.2.2.2.2.1.all (oOk p q) with
        | false =>
          have e : cmdTo p q c = (NoCmd, false, ()) := by unfold cmdTo; rw [dec_true hR, decide_eq_false h2, decide_eq_true h3, a1, a2]; rfl
          rw [e]; exact hN
        | true =>
          cases a3 : c.2.2.2.2.2.2.2.2.2.1.all (oOk p q) with
          | false =>
            have e : cmdTo p q c = (NoCmd, false, ()) := by unfold cmdTo; rw [dec_true hR, decide_eq_false h2, decide_eq_true h3, a1, a2, a3]; rfl
            rw [e]; exact hN
          | true =>
            have e : cmdTo p q c = ((c.1, c.2.1, c.2.2.1, c.2.2.2.1, c.2.2.2.2.1, c.2.2.2.2.2.1, c.2.2.2.2.2.2.1, c.2.2.2.2.2.2.2.1.map (cTo p q), c.2.2.2.2.2.2.2.2.1.map (oTo p q), c.2.2.2.2.2.2.2.2.2.1.map (oTo p q), c.2.2.2.2.2.2.2.2.2.2), true, ()) := by
              unfold cmdTo; rw [dec_true hR, decide_eq_false h2, decide_eq_true h3, a1, a2, a3]; rfl
            rw [e] at hs ⊢
            have op : ∀ {l : List T48D}, (∀ o ∈ l, SzOp o) → ∀ o ∈ l.map (oTo p q), SzOp o := fun hl o ho => by
              obtain ⟨o0, ho0, rfl⟩ := List.mem_map.1 ho
              obtain ⟨w1, w2, w3⟩ := hl o0 ho0
              obtain ⟨v1, v2⟩ := range_small (p := p) hq w1 w2
              exact ⟨v1, v2, w3⟩
            refine ⟨hs, ⟨by simpa using n1, by simpa using n2, by simpa using n3, n4⟩, z2, z3, fun x hx => ?_, op z9, op z10, zr⟩
            obtain ⟨x0, hx0, rfl⟩ := List.mem_map.1 hx
            unfold cTo
            rcases keyTo_cases p q x0.1 with e | ⟨r, g1, g2, g3, g4, g5, e⟩
            · rw [e]; simp
            · rw [e]; have := g5.len; show (q ++ r).length ≤ _; omega
    · have e : cmdTo p q c = (c, true, ()) := by unfold cmdTo; rw [dec_true hR, decide_eq_false h2, decide_eq_false h3]; rfl
      rw [e]; exact ⟨z1, ⟨n1, n2, n3, n4⟩, z2, z3, zc, z9, z10, zr⟩
theorem sh_mapTo {α : Type} {ok : α → Bool} {to : α → α} {l : List α} (h : Sh l) : Sh (mapTo ok to l).1 := by
  unfold mapTo
  cases l.all ok with
  | true => exact map_sh to h
  | false => simp [Sh]
theorem lawCmds (x : (argTy P3).den) (hx : Fit47 (argTy P3) x) : F3 x = some (true, ()) := by
  obtain ⟨p, q, c, l, ⟨⟩⟩ : List UInt8 × List UInt8 × T28D × List T70D × Unit := x
  obtain ⟨hp, hq, hc, hl, -⟩ := hx
  have hp : St p := hp
  have hq : St q := hq
  have zc := szCmd hc
  have hl0 : l.length ≤ 140737488351232 := hl.1
  have z : ∀ {α : Type}, Sh ([] : List α) := fun {_} => by simp [Sh]
  obtain ⟨f1, e1, -⟩ := few_ex c zc.1
  obtain ⟨f2, e2, -⟩ := few_ex (0, [], [], [], 0, 0, 0, [], [], [], 0, 0, 0, false, l, [], [], ()) ⟨z, z, z, by show l.length ≤ 9223372036854775806; omega, ⟨z, fun s hs => by simp at hs⟩, z⟩
  unfold F3
  simp only [f_decamplaw18_awake, Option.bind_some, Bool.not_true, cond_false]
  refine Eq.trans (congrArg (fun z => cond _ (some (true, ())) z) ?_) (same_cond _ _)
  refine bind_of e1 ?_
  cases f1 with
  | false => rfl
  | true =>
    simp only [Bool.not_true, cond_false]
    refine bind_of e2 ?_
    cases f2 with
    | false => rfl
    | true =>
      have hl8 : l.length ≤ 80 := by
        by_cases h : 80 < l.length
        · rw [few_long l h] at e2; cases e2
        · omega
      have hS := cmd_to p q c zc.1
      have hS2 := rCmd_to p q hp hq c zc
      have hsh := sh_cmdTo (p := p) (q := q) zc.1
      have hsame := rCmd_same (cmdTo p q c).1 (cmdTo p q c).1 hsh
      rw [dec_true rfl] at hsame
      have hi := items_to p q l (by omega)
      have hi2 := rItems_to p q hp hq l (by omega) (fun x hx => (hl.2 x hx).1)
      have hisame := rItems_same (mapTo (iOk p q) (iTo p q) l).1 (mapTo (iOk p q) (iTo p q) l).1 (sh_mapTo (by show l.length ≤ 9223372036854775806; omega))
      rw [dec_true rfl] at hisame
      have fin : (Option.bind (F10 (p, q, l, ())) fun b => Option.bind (F11 (p, q, l, ())) fun b_3 => bif b.2.1 == b_3.2.1 then Option.bind (F12 (b.1, b_3.1, ())) fun b => some b else some (false, ())) = some (true, ()) := by
        rw [hi, hi2]
        simp only [Option.bind_some, BEq.rfl, cond_true]
        exact bind_of hisame rfl
      simp only [Bool.not_true, cond_false, hS, hS2, Option.bind_some, BEq.rfl, hsame]
      cases hk : (cmdTo p q c).2.1 with
      | false =>
        simp only [cond_false, Option.bind_some, Sum.elim_inl]
        exact fin
      | true =>
        obtain ⟨b1, b2⟩ := cmd_back p q c hk
        have g1 := cmd_to q p (cmdTo p q c).1 hsh
        rw [b2] at g1
        have g2 := rRight_eq (cmdTo p q c).1 (sz_cmdTo hq zc)
        rw [dec_true b1] at g2
        have g3 := rCmd_same c c zc.1
        rw [dec_true rfl] at g3
        simp only [cond_true, g1, g2, g3, Option.bind_some, Bool.not_true, cond_false, Sum.elim_inl]
        exact fin
end Go.Proofs.YtgfdlapadghggaaGreat
