/-
 Mirr: what a command and a message of a kind hasn't (the document's),kind by kind.
-/
import Derived.Test.YtpfjaaofpcbejaaGreatMirrRaw
namespace Go.Proofs.YtpfjaaofpcbejaaGreat
open Go.Sx Go
set_option maxRecDepth 100000
theorem zb3:∀ (k:Int) (r:List UInt8×List UInt8×List UInt8×Int×Int×Int×List aN×List ax×List ax×Int×Int×Int×Bool×List ae×List dJ×List ay×Unit),
  aj Ju Tryz.f162 Jn Jl ((k,r),())=zO ((k,r),())
 | Int.ofNat 0,r=>by kernel_rfl
 | Int.ofNat 1,r=>by kernel_rfl
 | Int.ofNat 2,r=>by kernel_rfl
 | Int.ofNat 3,r=>by kernel_rfl
 | Int.ofNat 4,r=>by kernel_rfl
 | Int.ofNat 5,r=>by kernel_rfl
 | Int.ofNat 6,r=>by kernel_rfl
 | Int.ofNat 7,r=>by kernel_rfl
 | Int.ofNat 8,r=>by kernel_rfl
 | Int.ofNat 9,r=>by kernel_rfl
 | Int.ofNat 10,r=>by kernel_rfl
 | Int.ofNat 11,r=>by kernel_rfl
 | Int.ofNat 12,r=>by kernel_rfl
 | Int.ofNat 13,r=>by kernel_rfl
 | Int.ofNat 14,r=>by kernel_rfl
 | Int.ofNat 15,r=>by kernel_rfl
 | Int.ofNat 16,r=>by kernel_rfl
 | Int.ofNat (n+17),r=>by kernel_rfl
 | Int.negSucc n,r=>by kernel_rfl
theorem zh9 (x:bH×Unit) (y:Bool×Unit) (h:zO x=some y):aj Ju Tryz.f162 Jn Jl x=some y:=by
 obtain⟨⟨k,r⟩,⟨⟩⟩:=x
 exact (zb3 k r).trans h
theorem zg5:∀ (k:Int) (r:Int×Int×Int×Int×Int×Int×Int×Bool×List az×az×Unit),aj Jv Tryz.f122 Jo Jm ((k,r),())=Af ((k,r),())
 | Int.ofNat 0,r=>by kernel_rfl
 | Int.ofNat 1,r=>by kernel_rfl
 | Int.ofNat 2,r=>by kernel_rfl
 | Int.ofNat 3,r=>by kernel_rfl
 | Int.ofNat 4,r=>by kernel_rfl
 | Int.ofNat 5,r=>by kernel_rfl
 | Int.ofNat 6,r=>by kernel_rfl
 | Int.ofNat 7,r=>by kernel_rfl
 | Int.ofNat (n+8),r=>by kernel_rfl
 | Int.negSucc n,r=>by kernel_rfl
theorem zia (x:iO×Unit) (y:Bool×Unit) (h:Af x=some y):aj Jv Tryz.f122 Jo Jm x=some y:=by
 obtain⟨⟨k,r⟩,⟨⟩⟩:=x
 exact (zg5 k r).trans h
end Go.Proofs.YtpfjaaofpcbejaaGreat
