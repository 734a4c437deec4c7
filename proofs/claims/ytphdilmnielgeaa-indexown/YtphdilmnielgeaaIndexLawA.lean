/-
  index: the law of keys.
-/
import Derived.Test.YtphdilmnielgeaaIndexTree
import Derived.Test.YtphdilmnielgeaaKeyPlain
namespace Go.Proofs.Ytphdilmnielgeaa
open Go.Sx Go Classical
set_option maxRecDepth 10000
abbrev TX : Type := Tree (List UInt8) (List VerD)
theorem put_eq (m : TX) (k : List UInt8) (h : List VerD) (g : Avl m) (hl : (toL m).length ≤ 1000000000) (hh : h ≠ []) : F69 (((m, ()), ()), k, h, ()) = some (((tPut strlt (k, h, ()) m, ()), ()), ()) := by
  unfold F69
  have : decide (Int.ofNat h.length = 0) = false := decide_eq_false (by
    cases h with
    | nil => exact absurd rfl hh
    | cons a r => simp; omega)
  simp only [this, cond_false, tx_mput m k h g hl, Option.bind_some]
theorem awake_eq : F13 () = some (true, ()) := by
  have hk1 : IsKey [97] := ⟨by decide, by decide, by decide⟩
  have hk2 : ¬ IsKey [97, 32, 98] := fun h => absurd (h.2.2 32 (by decide)).1 (by decide)
  have hv : VerOk (5, 5, 5, 1, [118], 0, false, ()) := by unfold VerOk; decide
  have hh : IsHist [(5, 5, 5, 1, [118], 0, false, ())] := ⟨fun v h => by obtain rfl := List.mem_singleton.1 h; exact hv, by simp⟩
  have hp := hPut_eq isHist_nil (show Smal ([] : List VerD) by simp [Smal]) 5 5 [118] 0
  have hpv : putV [] 5 5 [118] 0 = (5, 5, 5, 1, [118], 0, false, ()) := rfl
  rw [hpv, List.nil_append] at hp
  simp only [hh, if_true] at hp
  have hg0 := tx_mget (.leaf : TX) [97] (by simp [toL])
  have e1 := put_eq .leaf [97] [(5, 5, 5, 1, [118], 0, false, ())] trivial (by simp [toL]) (by simp)
  have m1 := (MapI.leaf (lt := strlt) (K := List UInt8) (V := List VerD)).put LO.str (p := ([97], [(5, 5, 5, 1, [118], 0, false, ())], ()))
  have hg1 := tx_mget _ [97] (Nat.le_trans m1.2.2 (by decide))
  have hg2 : tGet strlt [97] (tPut strlt ([97], [(5, 5, 5, 1, [118], 0, false, ())], ()) (.leaf : TX)) = some [(5, 5, 5, 1, [118], 0, false, ())] := rfl
  rw [hg2] at hg1
  have hl := hLive_eq [(5, 5, 5, 1, [118], 0, false, ())] (show Smal _ by simp [Smal])
  have hat : atH [(5, 5, 5, 1, [118], 0, false, ())] 1099511627776 = ((5, 5, 5, 1, [118], 0, false, ()), true, ()) := rfl
  simp only [hh, if_true, hat] at hl
  unfold F13 F43 F24 F74
  simp only [hg0, tGet, Option.elim_none, Option.bind_some, hp, key_eq, hk1, hk2, decide_true, decide_false, Bool.not_true, Bool.not_false, cond_false, cond_true, Sum.elim_inl, e1, hg1, Option.elim_some, hl]
end Go.Proofs.Ytphdilmnielgeaa
