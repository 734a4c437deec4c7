/-
 Prox: what a command and a message of a kind hasn't (the document's),kind by kind.
-/
import Derived.Test.YtlegpimppfabgaaGreatProxRaw
namespace Go.Proofs.YtlegpimppfabgaaGreat
open Go.Sx Go
set_option maxRecDepth 100000
theorem Y3:∀ (k:Int) (r:List UInt8×List UInt8×List UInt8×Int×Int×Int×List dm×List aK×List aK×Int×Int×Int×Bool×List aX×List dw×List fQ×Unit),
  uK Nr Tryz.f123 MW MS ((k,r),())=Bh ((k,r),())
 | Int.ofNat 0,r=>by kernel_rfl
 | Int.ofNat 1,r=>by kernel_rfl
 | Int.ofNat 2,r=>by kernel_rfl
 | Int.ofNat 3,r=>by kernel_rfl
 | Int.ofNat 4,r=>by kernel_rfl
 | Int.ofNat 5,r=>by kernel_rfl
 | Int.ofNat 6,r=>by kernel_rfl
 | Int.ofNat 7,r=>by kernel_rfl
 | Int.ofNat 8,r=>by kernel_rfl
 | Int.ofNat 9,r=>by kernel_rfl
 | Int.ofNat 10,r=>by kernel_rfl
 | Int.ofNat 11,r=>by kernel_rfl
 | Int.ofNat 12,r=>by kernel_rfl
 | Int.ofNat 13,r=>by kernel_rfl
 | Int.ofNat 14,r=>by kernel_rfl
 | Int.ofNat 15,r=>by kernel_rfl
 | Int.ofNat 16,r=>by kernel_rfl
 | Int.ofNat (n+17),r=>by kernel_rfl
 | Int.negSucc n,r=>by kernel_rfl
theorem zci (x:aJ×Unit) (y:Bool×Unit) (h:Bh x=some y):uK Nr Tryz.f123 MW MS x=some y:=by
 obtain⟨⟨k,r⟩,⟨⟩⟩:=x;exact(Y3 k r).trans h
theorem zbp:∀ (k:Int) (r:Int×Int×Int×Int×Int×Int×Int×Bool×List dN×dN×Unit),uK Nq Tryz.f163 MV MR ((k,r),())=AZ ((k,r),())
 | Int.ofNat 0,r=>by kernel_rfl
 | Int.ofNat 1,r=>by kernel_rfl
 | Int.ofNat 2,r=>by kernel_rfl
 | Int.ofNat 3,r=>by kernel_rfl
 | Int.ofNat 4,r=>by kernel_rfl
 | Int.ofNat 5,r=>by kernel_rfl
 | Int.ofNat 6,r=>by kernel_rfl
 | Int.ofNat 7,r=>by kernel_rfl
 | Int.ofNat (n+8),r=>by kernel_rfl
 | Int.negSucc n,r=>by kernel_rfl
theorem zch (x:iI×Unit) (y:Bool×Unit) (h:AZ x=some y):uK Nq Tryz.f163 MV MR x=some y:=by
 obtain⟨⟨k,r⟩,⟨⟩⟩:=x;exact(zbp k r).trans h
end Go.Proofs.YtlegpimppfabgaaGreat
