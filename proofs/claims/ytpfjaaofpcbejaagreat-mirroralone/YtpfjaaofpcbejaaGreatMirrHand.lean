/-
 Mirr: what a command and a message of a kind hasn't (the document's),kind by kind.
-/
import Derived.Test.YtpfjaaofpcbejaaGreatMirrRaw
namespace Go.Proofs.YtpfjaaofpcbejaaGreat
open Go.Sx Go
set_option maxRecDepth 100000
theorem zmX:∀ (k:Int) (r:List UInt8×List UInt8×List UInt8×Int×Int×Int×List T96D×List T48D×List T48D×Int×Int×Int×Bool×List T70D×List T94D×List zai×Unit),
  afun E162 Tryz.f162 P162 R162 ((k,r),())=F162 ((k,r),())
 | Int.ofNat 0,r=>by kernel_rfl
 | Int.ofNat 1,r=>by kernel_rfl
 | Int.ofNat 2,r=>by kernel_rfl
 | Int.ofNat 3,r=>by kernel_rfl
 | Int.ofNat 4,r=>by kernel_rfl
 | Int.ofNat 5,r=>by kernel_rfl
 | Int.ofNat 6,r=>by kernel_rfl
 | Int.ofNat 7,r=>by kernel_rfl
 | Int.ofNat 8,r=>by kernel_rfl
 | Int.ofNat 9,r=>by kernel_rfl
 | Int.ofNat 10,r=>by kernel_rfl
 | Int.ofNat 11,r=>by kernel_rfl
 | Int.ofNat 12,r=>by kernel_rfl
 | Int.ofNat 13,r=>by kernel_rfl
 | Int.ofNat 14,r=>by kernel_rfl
 | Int.ofNat 15,r=>by kernel_rfl
 | Int.ofNat 16,r=>by kernel_rfl
 | Int.ofNat (n+17),r=>by kernel_rfl
 | Int.negSucc n,r=>by kernel_rfl
theorem zvG (x:T28D×Unit) (y:Bool×Unit) (h:F162 x=some y):afun E162 Tryz.f162 P162 R162 x=some y:=by
 obtain⟨⟨k,r⟩,⟨⟩⟩:=x
 exact (zmX k r).trans h
theorem ztE:∀ (k:Int) (r:Int×Int×Int×Int×Int×Int×Int×Bool×List T25D×T25D×Unit),afun E122 Tryz.f122 P122 R122 ((k,r),())=F122 ((k,r),())
 | Int.ofNat 0,r=>by kernel_rfl
 | Int.ofNat 1,r=>by kernel_rfl
 | Int.ofNat 2,r=>by kernel_rfl
 | Int.ofNat 3,r=>by kernel_rfl
 | Int.ofNat 4,r=>by kernel_rfl
 | Int.ofNat 5,r=>by kernel_rfl
 | Int.ofNat 6,r=>by kernel_rfl
 | Int.ofNat 7,r=>by kernel_rfl
 | Int.ofNat (n+8),r=>by kernel_rfl
 | Int.negSucc n,r=>by kernel_rfl
theorem zvH (x:T27D×Unit) (y:Bool×Unit) (h:F122 x=some y):afun E122 Tryz.f122 P122 R122 x=some y:=by
 obtain⟨⟨k,r⟩,⟨⟩⟩:=x
 exact (ztE k r).trans h
end Go.Proofs.YtpfjaaofpcbejaaGreat
