/-
 Talk: what a command and a message of a kind hasn't (the document's),kind by kind.
-/
import Derived.Test.YteebpcpkhojfkaaGreatTalcRaw
namespace Go.Proofs.YteebpcpkhojfkaaGreat
open Go.Sx Go
set_option maxRecDepth 100000
theorem zaF:∀ (k:Int) (r:List UInt8×List UInt8×List UInt8×Int×Int×Int×List dJ×List aV×List aV×Int×Int×Int×Bool×List aO×List aW×List dm×Unit),
  vY OB Tryz.f185 N9 N7 ((k,r),())=BX ((k,r),())
 | Int.ofNat 0,r=>by kernel_rfl
 | Int.ofNat 1,r=>by kernel_rfl
 | Int.ofNat 2,r=>by kernel_rfl
 | Int.ofNat 3,r=>by kernel_rfl
 | Int.ofNat 4,r=>by kernel_rfl
 | Int.ofNat 5,r=>by kernel_rfl
 | Int.ofNat 6,r=>by kernel_rfl
 | Int.ofNat 7,r=>by kernel_rfl
 | Int.ofNat 8,r=>by kernel_rfl
 | Int.ofNat 9,r=>by kernel_rfl
 | Int.ofNat 10,r=>by kernel_rfl
 | Int.ofNat 11,r=>by kernel_rfl
 | Int.ofNat 12,r=>by kernel_rfl
 | Int.ofNat 13,r=>by kernel_rfl
 | Int.ofNat 14,r=>by kernel_rfl
 | Int.ofNat 15,r=>by kernel_rfl
 | Int.ofNat 16,r=>by kernel_rfl
 | Int.ofNat (n+17),r=>by kernel_rfl
 | Int.negSucc n,r=>by kernel_rfl
theorem zdB (x:bn×Unit) (y:Bool×Unit) (h:BX x=some y):vY OB Tryz.f185 N9 N7 x=some y:=by
 obtain⟨⟨k,r⟩,⟨⟩⟩:=x;exact(zaF k r).trans h
theorem zcO:∀ (k:Int) (r:Int×Int×Int×Int×Int×Int×Int×Bool×List bF×bF×Unit),vY OC Tryz.f105 Oa N8 ((k,r),())=CQ ((k,r),())
 | Int.ofNat 0,r=>by kernel_rfl
 | Int.ofNat 1,r=>by kernel_rfl
 | Int.ofNat 2,r=>by kernel_rfl
 | Int.ofNat 3,r=>by kernel_rfl
 | Int.ofNat 4,r=>by kernel_rfl
 | Int.ofNat 5,r=>by kernel_rfl
 | Int.ofNat 6,r=>by kernel_rfl
 | Int.ofNat 7,r=>by kernel_rfl
 | Int.ofNat (n+8),r=>by kernel_rfl
 | Int.negSucc n,r=>by kernel_rfl
theorem zdC (x:gI×Unit) (y:Bool×Unit) (h:CQ x=some y):vY OC Tryz.f105 Oa N8 x=some y:=by
 obtain⟨⟨k,r⟩,⟨⟩⟩:=x;exact(zcO k r).trans h
end Go.Proofs.YteebpcpkhojfkaaGreat
