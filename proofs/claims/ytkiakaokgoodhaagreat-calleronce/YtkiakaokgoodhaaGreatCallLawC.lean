/-
  Call: the law of answers that are taken once.
-/
import Derived.Test.YtkiakaokgoodhaaGreatCallLawB
namespace Go.Proofs.YtkiakaokgoodhaaGreat
open Go.Sx Go Classical
set_option maxRecDepth 10000
theorem hearRid (self site n pat rid tgt wt fr : Int) (c m : TMD) (hs : 0 ≤ site ∧ site ≤ 1) (hn : 1 ≤ n ∧ n ≤ 3) (hm : ShT m) (h : m.2.1 ≠ rid) : F17 ((self, site, n, pat, rid, tgt, wt, true, c, ()), fr, m, ()) = some (NoT, false, (self, site, n, pat, rid, tgt, wt, true, c, ()), ()) :=
  hearNo self site n pat rid tgt wt fr c m hs hn hm fun hh => h hh.2.2.1
/-- the answers so far: each to an earlier question -/
def OldT (old : List TMD) (rid : Int) : Prop := ∀ a ∈ old, Bnd a ∧ a.2.1 ≤ rid
def OnceI (k : Nat) (t : List TMD × Int × CD) : Prop := ∃ old rid wt c, t = (old, (k : Int), (9, 0, 3, 4, rid, 0, wt, false, c, ())) ∧ 0 ≤ rid ∧ rid ≤ (k : Int) ∧ old.length ≤ k ∧ OldT old rid
theorem lawOnce (x : (argTy P4).den) (hx : Fit47 (argTy P4) x) (hm : FitM (argTy P4) x) : F4 x = some (true, ()) := by
  obtain ⟨l, fb, ⟨⟩⟩ : List TMD × UInt8 × Unit := x
  have hxl : ∀ m ∈ l, SzT m := fun m h => szT (hx.1.2 m h)
  have hml : ∀ m ∈ l, m.2.2.2.2.2.2.2.2.2.2.2.2.2.2.2.1.2.2.1.length ≤ 1800000000000 := fun m h => handT_many (hm.1.2 m h)
  obtain ⟨q, q0, q3, hq⟩ := rem3 fb
  have h3 : ∀ n : Int, remO n (intOf8 (UInt8.ofNat 3)) = some (n.tmod (intOf8 (UInt8.ofNat 3))) := fun n => rfl
  unfold F4
  simp only [awakeC_eq, Option.bind_some, Bool.not_true, cond_false]
  by_cases h12 : (12 : Int) < Int.ofNat l.length
  · simp only [h12, decide_true, cond_true]
  have hlen : l.length ≤ 12 := by simp only [Int.ofNat_eq_natCast] at h12; omega
  simp only [h12, decide_false, cond_false]
  refine bind_of (new_yes (by unfold MayC; omega)) ?_
  simp only [cond_true]
  refine iter_rel (I := OnceI) (n := l.length) (r := (true, ())) (by omega) ?_ ?_ ⟨[], 0, 0, NoT, rfl, by omega, by omega, by simp, fun a ha => by simp at ha⟩
  · rintro k t hk ⟨old, rid, wt, c, rfl, r0, rk, ho, hold⟩
    obtain ⟨m, hmk⟩ : ∃ m, l[k]? = some m := ⟨_, List.getElem?_eq_getElem hk⟩
    have hmem := List.mem_of_getElem? hmk
    obtain ⟨b, e1, g1⟩ := fewT_ex m (hxl m hmem).1 (hml m hmem)
    have wk : wrap64 ((k : Int) + 1) = ((k + 1 : Nat) : Int) := wrap64_nat (by omega)
    simp only [lt_len, hk, decide_true, cond_true, idx_nat, hmk, Option.bind_some]
    rw [show F8 (m, ()) = some (b, ()) from e1]
    simp only [Option.bind_some]
    cases b with
    | false => exact .inl rfl
    | true =>
      obtain ⟨s1, s2⟩ := g1 rfl
      simp only [Bool.not_true, cond_false]
      by_cases h2 : m.1 < 2
      · simp only [h2, decide_true, cond_true]; exact .inl trivial
      by_cases h7 : 7 < m.1
      · simp only [h2, h7, decide_true, decide_false, cond_true, cond_false]; exact .inl trivial
      simp only [h2, h7, decide_false, cond_false, toT_eq, Option.bind_some]
      have hB : Bnd m := ⟨(hxl m hmem).1, by omega, by omega⟩
      by_cases hR : RightT (m.1, wrap64 (rid + 1), m.2.2)
      · have ha := askYes_eq 9 0 3 4 rid 0 wt c m hB ⟨by omega, by omega, hR⟩
        have wr : wrap64 (rid + 1) = rid + 1 := wrap64_eq (by omega) (by omega)
        rw [wr] at ha
        simp only [ha, Option.bind_some, decide_true, Bool.not_true, cond_false]
        have hAB := ansBnd (ansT m.1) (rid + 1)
        have hAR : RightT (AnsT (ansT m.1) (rid + 1)) := ansRight (ans_of ⟨by omega, by omega⟩) (by unfold Pos40; omega)
        have hnew : ∀ M : TMD, M.1 = m.1 → F17 ((9, 0, 3, 4, rid + 1, 0, 0, true, M, ()), q, AnsT (ansT m.1) (rid + 1), ()) = some (AnsT (ansT m.1) (rid + 1), true, (9, 0, 3, 4, rid + 1, 0, 0, false, M, ()), ()) := fun M hM =>
          hearYes 9 0 3 4 (rid + 1) 0 0 q M _ (by omega) (by omega) hAB ⟨by omega, by omega, rfl, by rw [hM], hAR⟩ fun ⟨_, e⟩ => absurd (show (0 : Int) = 14 from e) (by decide)
        refine .inr ⟨(old ++ [AnsT (ansT m.1) (rid + 1)], ((k + 1 : Nat) : Int), (9, 0, 3, 4, rid + 1, 0, 0, false, (m.1, rid + 1, m.2.2), ())), ?_, old ++ [AnsT (ansT m.1) (rid + 1)], rid + 1, 0, (m.1, rid + 1, m.2.2), rfl, by omega, by omega, by simp; omega, ?_⟩
        · refine iter_count (mk := fun i => ((i : Int), (9, 0, 3, 4, rid + 1, 0, 0, true, (m.1, rid + 1, m.2.2), ()))) (n := old.length) (by omega) (fun i hi => ?_) ?_
          · obtain ⟨a, hai⟩ : ∃ a, old[i]? = some a := ⟨_, List.getElem?_eq_getElem hi⟩
            obtain ⟨a1, a2⟩ := hold a (List.mem_of_getElem? hai)
            have hh := hearRid 9 0 3 4 (rid + 1) 0 0 q (m.1, rid + 1, m.2.2) a (by omega) (by omega) a1.1 (by omega)
            have wi : wrap64 ((i : Int) + 1) = ((i + 1 : Nat) : Int) := wrap64_nat (by omega)
            simp only [lt_len, hi, decide_true, cond_true, h3, Option.bind_some, idxN_nat hi, hai, hq]
            refine bind_of hh ?_
            simp only [cond_false, wi]
          · simp only [lt_len, Nat.lt_irrefl, decide_false, cond_false]
            refine map_of ?_
            simp only [ans_eq, h3, Option.bind_some, hq]
            refine bind_of (hnew (m.1, rid + 1, m.2.2) rfl) ?_
            refine bind_of (hearShut 9 0 3 4 (rid + 1) 0 0 q (m.1, rid + 1, m.2.2) _) ?_
            simp only [Bool.not_true, cond_false]
            refine bind_of (show F19 ((9, 0, 3, 4, rid + 1, 0, 0, false, (m.1, rid + 1, m.2.2), ()), ()) = some (false, (9, 0, 3, 4, rid + 1, 0, 0, false, (m.1, rid + 1, m.2.2), ()), ()) from rfl) ?_
            simp only [cond_false]
            refine bind_of (appO_eq (by have : capB = 34359738368 := rfl; simp only [List.length_cons, List.length_nil]; omega)) ?_
            simp only [wk]
        · intro a ha
          rcases List.mem_append.1 ha with ha | ha
          · obtain ⟨a1, a2⟩ := hold a ha
            exact ⟨a1, by omega⟩
          · rw [List.mem_singleton.1 ha]
            exact ⟨hAB, Int.le_refl _⟩
      · have ha := askNo_eq 9 0 3 4 rid 0 wt c m hB fun h => hR h.2.2
        simp only [ha, Option.bind_some, wk]
        have e10 : decide ((1 : Int) = 0) = false := rfl
        simp only [e10, Bool.not_false, cond_true]
        exact .inr ⟨_, rfl, old, rid, wt, c, rfl, r0, by omega, by omega, hold⟩
  · rintro t ⟨old, rid, wt, c, rfl, -⟩
    simp only [lt_len, Nat.lt_irrefl, decide_false, cond_false]
end Go.Proofs.YtkiakaokgoodhaaGreat
