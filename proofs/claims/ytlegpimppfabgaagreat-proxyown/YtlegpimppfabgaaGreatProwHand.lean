/-
 Prox: what a command and a message of a kind hasn't (the document's),kind by kind.
-/
import Derived.Test.YtlegpimppfabgaaGreatProwRaw
open Int (ofNat)
namespace Go.Proofs.YtlegpimppfabgaaGreat
open Go.Sx Go
set_option maxRecDepth 100000
theorem Zv:∀ (k:Int) (r:List UInt8×List UInt8×List UInt8×Int×Int×Int×List dC×List aP×List aP×Int×Int×Int×Bool×List aT×List dh×List fE×Unit),
  uP NT Tryz.f123 NE NC ((k,r),())=BC ((k,r),())
 | ofNat 0,r=>by kernel_rfl
 | ofNat 1,r=>by kernel_rfl
 | ofNat 2,r=>by kernel_rfl
 | ofNat 3,r=>by kernel_rfl
 | ofNat 4,r=>by kernel_rfl
 | ofNat 5,r=>by kernel_rfl
 | ofNat 6,r=>by kernel_rfl
 | ofNat 7,r=>by kernel_rfl
 | ofNat 8,r=>by kernel_rfl
 | ofNat 9,r=>by kernel_rfl
 | ofNat 10,r=>by kernel_rfl
 | ofNat 11,r=>by kernel_rfl
 | ofNat 12,r=>by kernel_rfl
 | ofNat 13,r=>by kernel_rfl
 | ofNat 14,r=>by kernel_rfl
 | ofNat 15,r=>by kernel_rfl
 | ofNat 16,r=>by kernel_rfl
 | ofNat (n+17),r=>by kernel_rfl
 | Int.negSucc n,r=>by kernel_rfl
theorem zcK (x:aQ×Unit) (y:Bool×Unit) (h:BC x=some y):uP NT Tryz.f123 NE NC x=some y:=by
 obtain⟨⟨k,r⟩,⟨⟩⟩:=x;exact(Zv k r).trans h
theorem zbN:∀ (k:Int) (r:Int×Int×Int×Int×Int×Int×Int×Bool×List dP×dP×Unit),uP NS Tryz.f163 ND Nz ((k,r),())=Bi ((k,r),())
 | ofNat 0,r=>by kernel_rfl
 | ofNat 1,r=>by kernel_rfl
 | ofNat 2,r=>by kernel_rfl
 | ofNat 3,r=>by kernel_rfl
 | ofNat 4,r=>by kernel_rfl
 | ofNat 5,r=>by kernel_rfl
 | ofNat 6,r=>by kernel_rfl
 | ofNat 7,r=>by kernel_rfl
 | ofNat (n+8),r=>by kernel_rfl
 | Int.negSucc n,r=>by kernel_rfl
theorem zcJ (x:ji×Unit) (y:Bool×Unit) (h:Bi x=some y):uP NS Tryz.f163 ND Nz x=some y:=by
 obtain⟨⟨k,r⟩,⟨⟩⟩:=x;exact(zbN k r).trans h
end Go.Proofs.YtlegpimppfabgaaGreat
