/-
  Plain laws of what lies below, as this seat reaches them (by a program of the bench: port.py).
-/
import Derived.Test.YteebpcpkhojfkaaGreatCodec
import Derived.Test.YteebpcpkhojfkaaGreatSxR
namespace Go.Proofs.YteebpcpkhojfkaaGreat
open Go.Sx Go Classical
set_option maxRecDepth 10000
abbrev Sh {α : Type} (l : List α) : Prop := l.length ≤ 9223372036854775806
def Sm (s : In) : Prop := s.1.length ≤ 1000000000
theorem inNumG (s : In) : F50 (s, ()) = some ((numG s).1, (numG s).2, ()) := inNum_eq s
theorem inByteG (s : In) : F48 (s, ()) = some ((byteG s).1, (byteG s).2, ()) := by
  unfold F48
  have hw : F120 (s, 1, ()) = _ := inWide_eq s 1 (by omega)
  simp only [hw, Option.bind_some]
  rfl
def kindB (n : Int) : List UInt8 := byteB (Sx.byteOf (IntKind.wrap .u8 n))
def kindG (s : In) : Int × In := (wrap64 (intOf8 (byteG s).1), (byteG s).2)
def Ok8 (n : Int) : Prop := 0 ≤ n ∧ n ≤ 255
theorem kindC : Codec kindB kindG Ok8 :=
  byteC.map (fun b => wrap64 (intOf8 b)) (fun n => Sx.byteOf (IntKind.wrap .u8 n)) Ok8
    (fun b _ => by
      have hb := b.toNat_lt
      have e : wrap64 (intOf8 b) = (b.toNat : Int) := wrap64_eq (by unfold intOf8; omega) (by unfold intOf8; omega)
      rw [e]
      refine ⟨?_, by unfold Ok8; omega⟩
      rw [wrapU8]
      unfold Sx.byteOf
      have : ((b.toNat : Int) % 256).toNat = b.toNat := by omega
      rw [this]; simp)
    (fun n h => by
      refine ⟨trivial, ?_⟩
      unfold Ok8 at h
      rw [wrapU8]
      have e : intOf8 (Sx.byteOf (n % 256)) = n := by
        unfold intOf8 Sx.byteOf
        have : (UInt8.ofNat (n % 256).toNat).toNat = (n % 256).toNat := by simp; omega
        rw [this]; omega
      rw [e]; exact wrap64_eq (by omega) (by omega))
theorem appM_eq {α : Type} {l x : List α} (h : l.length + x.length ≤ 2000000000000) : appM l x = some (l ++ x) := by
  unfold appM
  have : Nat.ble (l.length + x.length) capM = true := Nat.ble_eq_true_of_le h
  rw [this]; rfl
abbrev Big : Nat := 140737488355000
theorem kindB_len (n : Int) : (kindB n).length = 1 := rfl
theorem outNumG (b : List UInt8) (n : Int) (h : b.length + (numB n).length ≤ Big) : F28 ((b, ()), n, ()) = some ((b ++ numB n, ()), ()) := outNum_eq b n (by rw [numB_len] at h; exact h)
theorem outKindG (b : List UInt8) (n : Int) (h : b.length + (kindB n).length ≤ Big) : F25 ((b, ()), Sx.byteOf (IntKind.wrap IntKind.u8 n), ()) = some ((b ++ kindB n, ()), ()) := outByte_eq b _ h
end Go.Proofs.YteebpcpkhojfkaaGreat
