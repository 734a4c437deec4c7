/-
  Remc: what a command of a kind hasn't (the document's), kind by kind.
-/
import Derived.Test.YtgfdlapadghggaaGreatRemcRaw
namespace Go.Proofs.YtgfdlapadghggaaGreat
open Go.Sx Go
set_option maxRecDepth 100000
theorem hand27_eq : ∀ (k : Int) (r : List UInt8 × List UInt8 × List UInt8 × Int × Int × Int × List T96D × List T48D × List T48D × Int × Int × Int × Bool × List T70D × List T94D × List T113D × Unit),
    afun E27 Tryz.f27 P27 R27 ((k, r), ()) = F27 ((k, r), ())
  | Int.ofNat 0, r => by kernel_rfl
  | Int.ofNat 1, r => by kernel_rfl
  | Int.ofNat 2, r => by kernel_rfl
  | Int.ofNat 3, r => by kernel_rfl
  | Int.ofNat 4, r => by kernel_rfl
  | Int.ofNat 5, r => by kernel_rfl
  | Int.ofNat 6, r => by kernel_rfl
  | Int.ofNat 7, r => by kernel_rfl
  | Int.ofNat 8, r => by kernel_rfl
  | Int.ofNat 9, r => by kernel_rfl
  | Int.ofNat 10, r => by kernel_rfl
  | Int.ofNat 11, r => by kernel_rfl
  | Int.ofNat 12, r => by kernel_rfl
  | Int.ofNat 13, r => by kernel_rfl
  | Int.ofNat 14, r => by kernel_rfl
  | Int.ofNat 15, r => by kernel_rfl
  | Int.ofNat 16, r => by kernel_rfl
  | Int.ofNat (n + 17), r => by kernel_rfl
  | Int.negSucc n, r => by kernel_rfl
theorem hand27 (x : T28D × Unit) (y : Bool × Unit) (h : F27 x = some y) : afun E27 Tryz.f27 P27 R27 x = some y := by
  obtain ⟨⟨k, r⟩, ⟨⟩⟩ := x
  exact (hand27_eq k r).trans h
end Go.Proofs.YtgfdlapadghggaaGreat
