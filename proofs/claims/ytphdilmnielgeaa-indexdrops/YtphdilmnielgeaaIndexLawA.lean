/-
  index: the law of keys.
-/
import Derived.Test.YtphdilmnielgeaaIndexTree
import Derived.Test.YtphdilmnielgeaaKeyPlain
namespace Go.Proofs.Ytphdilmnielgeaa
open Go.Sx Go Classical
set_option maxRecDepth 10000
abbrev TX : Type := Tree (List UInt8) (List VerD)
theorem put_eq (m : TX) (k : List UInt8) (h : List VerD) (g : Avl m) (hl : (toL m).length ≤ 1000000000) (hh : h ≠ []) : F69 (((m, ()), ()), k, h, ()) = some (((tPut strlt (k, h, ()) m, ()), ()), ()) := by
  unfold F69
  have : decide (Int.ofNat h.length = 0) = false := decide_eq_false (by
    cases h with
    | nil => exact absurd rfl hh
    | cons a r => simp; omega)
  simp only [this, cond_false, tx_mput m k h g hl, Option.bind_some]
theorem awake_eq : F13 () = some (true, ()) := by
  have hk1 : IsKey [97] := ⟨by decide, by decide, by decide⟩
  have hk2 : ¬ IsKey [97, 32, 98] := fun h => absurd (h.2.2 32 (by decide)).1 (by decide)
  have hv : VerOk (5, 5, 5, 1, [118], 0, false, ()) := by unfold VerOk; decide
  have hh : IsHist [(5, 5, 5, 1, [118], 0, false, ())] := ⟨fun v h => by obtain rfl := List.mem_singleton.1 h; exact hv, by simp⟩
  have hp := hPut_eq isHist_nil (show Smal ([] : List VerD) by simp [Smal]) 5 5 [118] 0
  have hpv : putV [] 5 5 [118] 0 = (5, 5, 5, 1, [118], 0, false, ()) := rfl
  rw [hpv, List.nil_append] at hp
  simp only [hh, if_true] at hp
  have hg0 := tx_mget (.leaf : TX) [97] (by simp [toL])
  have e1 := put_eq .leaf [97] [(5, 5, 5, 1, [118], 0, false, ())] trivial (by simp [toL]) (by simp)
  have m1 := (MapI.leaf (lt := strlt) (K := List UInt8) (V := List VerD)).put LO.str (p := ([97], [(5, 5, 5, 1, [118], 0, false, ())], ()))
  have hg1 := tx_mget _ [97] (Nat.le_trans m1.2.2 (by decide))
  have hg2 : tGet strlt [97] (tPut strlt ([97], [(5, 5, 5, 1, [118], 0, false, ())], ()) (.leaf : TX)) = some [(5, 5, 5, 1, [118], 0, false, ())] := rfl
  rw [hg2] at hg1
  have hl := hLive_eq [(5, 5, 5, 1, [118], 0, false, ())] (show Smal _ by simp [Smal])
  have hat : atH [(5, 5, 5, 1, [118], 0, false, ())] 1099511627776 = ((5, 5, 5, 1, [118], 0, false, ()), true, ()) := rfl
  simp only [hh, if_true, hat] at hl
  unfold F13 F43 F24 F74
  simp only [hg0, tGet, Option.elim_none, Option.bind_some, hp, key_eq, hk1, hk2, decide_true, decide_false, Bool.not_true, Bool.not_false, cond_false, cond_true, Sum.elim_inl, e1, hg1, Option.elim_some, hl]
theorem in_eq (a b k : List UInt8) (ha : a.length ≤ 140737488351232) (hb : b.length ≤ 140737488351232) (hk : k.length ≤ 140737488351232) : ∃ z, F18 (a, b, k, ()) = some (z, ()) ∧ F19 (a, b, k, ()) = some (z, ()) := by
  unfold F18 F19
  simp only [range_eq, refRange_eq a b ha hb, key_eq, refKey_eq k hk, Option.bind_some]
  by_cases h1 : IsRange a b
  case neg => exact ⟨false, by simp only [h1, decide_false, Bool.not_false, cond_true, and_self]⟩
  by_cases h2 : IsKey k
  case neg => exact ⟨false, by simp only [h1, h2, decide_true, decide_false, Bool.not_true, Bool.not_false, cond_true, cond_false, and_self]⟩
  simp only [h1, h2, decide_true, Bool.not_true, cond_false, strlt_gt]
  have hbl : ∀ b : List UInt8, decide (Int.ofNat b.length = 0) = decide (b = []) := fun b => by
    rw [decide_eq_decide]
    cases b with
    | nil => simp
    | cons x r => simp; omega
  simp only [hbl]
  rcases h1.2 with rfl | ⟨hb1, hb2⟩
  · simp only [decide_true, cond_true, strlt_nil]
    by_cases he : k = a
    · exact ⟨true, by simp only [he, decide_true, cond_true, and_self]⟩
    · refine ⟨false, ?_, ?_⟩
      · simp only [he, decide_false, cond_false]
        cases strlt a k <;> rfl
      · simp only [he, decide_false]
  · have hbn : ¬ b = [] := fun e => by rw [e] at hb2; rw [strlt_nil] at hb2; exact Bool.noConfusion hb2
    simp only [hbn, decide_false, cond_false]
    by_cases he : k = a
    · subst he
      exact ⟨true, by simp only [decide_true, cond_true, strlt_irrefl, Bool.not_false, hb2, and_self]⟩
    · simp only [he, decide_false, cond_false]
      rcases strlt_tri a k with h | h | h
      · simp only [h, strlt_asymm h, cond_true, Bool.not_false]
        exact ⟨_, rfl, rfl⟩
      · exact absurd h.symm he
      · simp only [h, strlt_asymm h, cond_false, Bool.not_true]
        exact ⟨_, rfl, rfl⟩
theorem law3 (x : (argTy P3).den) (hx : Fit47 (argTy P3) x) : F3 x = some (true, ()) := by
  obtain ⟨a, b, k, ⟨⟩⟩ : List UInt8 × List UInt8 × List UInt8 × Unit := x
  obtain ⟨ha, hb, hk, -⟩ := hx
  have ha' : a.length ≤ 140737488351232 := ha
  have hb' : b.length ≤ 140737488351232 := hb
  have hk' : k.length ≤ 140737488351232 := hk
  obtain ⟨z, e1, e2⟩ := in_eq a b k ha' hb' hk'
  unfold F3
  simp only [awake_eq, Option.bind_some, Bool.not_true, cond_false, key_eq, refKey_eq k hk', range_eq, refRange_eq a b ha' hb', e1, e2, BEq.rfl, cond_true]
  exact cond_same _ _
end Go.Proofs.Ytphdilmnielgeaa
