/-
 Talc: by a program of the bench (seat.py).
-/
import Derived.Test.YteebpcpkhojfkaaGreatRows
import Derived.Test.YteebpcpkhojfkaaGreatSxS
namespace Go.Proofs.YteebpcpkhojfkaaGreat
open Go.Sx Go
abbrev T83:Ty:=(.pair (.slice .u8) .unit)
abbrev T25:Ty:=(.pair (.int .i64) (.pair (.int .i64) T83))
abbrev T27:Ty:=(.pair (.int .i64) (.pair (.int .i64) (.pair (.int .i64) (.pair (.int .i64) (.pair (.int .i64) (.pair (.int .i64) (.pair (.int .i64) (.pair (.int .i64) (.pair .bool (.pair (.slice T25) (.pair T25 .unit)))))))))))
abbrev T96:Ty:=(.pair .str (.pair (.int .i64) (.pair (.int .i64) (.pair (.int .i64) (.pair .str .unit)))))
abbrev T48:Ty:=(.pair (.int .i64) (.pair .str (.pair .str (.pair .str (.pair (.int .i64) .unit)))))
abbrev T66:Ty:=(.pair (.int .i64) (.pair (.int .i64) (.pair (.int .i64) (.pair (.int .i64) (.pair .str (.pair (.int .i64) (.pair .bool .unit)))))))
abbrev T70:Ty:=(.pair .str (.pair T66 .unit))
abbrev T51:Ty:=(.pair (.int .i64) (.pair (.int .i64) (.pair .bool (.pair (.int .i64) (.pair (.slice T70) (.pair (.int .i64) (.pair (.int .i64) .unit)))))))
abbrev T94:Ty:=(.pair (.int .i64) (.pair (.int .i64) (.pair T51 .unit)))
abbrev fM:Ty:=(.pair (.int .i64) (.pair (.int .i64) (.pair (.int .i64) .unit)))
abbrev T28:Ty:=(.pair (.int .i64) (.pair .str (.pair .str (.pair .str (.pair (.int .i64) (.pair (.int .i64) (.pair (.int .i64) (.pair (.slice T96) (.pair (.slice T48) (.pair (.slice T48) (.pair (.int .i64) (.pair (.int .i64) (.pair (.int .i64) (.pair .bool (.pair (.slice T70) (.pair (.slice T94) (.pair (.slice fM) .unit)))))))))))))))))
abbrev T33:Ty:=(.pair (.int .i64) (.pair (.int .i64) (.pair T28 .unit)))
abbrev T55:Ty:=(.pair (.int .i64) (.pair (.int .i64) (.pair (.slice T94) (.pair (.slice fM) .unit))))
abbrev T53:Ty:=(.pair (.int .i64) (.pair (.int .i64) (.pair (.int .i64) (.pair .str (.pair .str (.pair (.int .i64) (.pair .str fM)))))))
abbrev TB:Ty:=(.pair (.int .i64) (.pair (.slice T70) .unit))
abbrev TM:Ty:=(.pair (.int .i64) (.pair (.int .i64) (.pair T27 (.pair T33 (.pair (.int .i64) (.pair .str (.pair .str (.pair (.int .i64) (.pair (.int .i64) (.pair (.int .i64) (.pair (.int .i64) (.pair T51 (.pair (.slice TB) (.pair (.slice T70) (.pair .bool (.pair T55 (.pair T53 .unit)))))))))))))))))
abbrev dY:Ty:=(.pair (.slice .u8) (.pair .bool .unit))
abbrev L51:Ty:=(.pair (.int .i64) (.pair (.int .i64) (.pair (.int .i64) (.pair (.int .i64) (.pair (.int .i64) (.pair (.int .i64) (.pair (.int .i64) (.pair (.int .i64) (.pair .bool (.pair (.slice T25) T25))))))))))
abbrev L54:Ty:=(.pair (.int .i64) (.pair (.int .i64) (.pair (.int .i64) (.pair (.int .i64) (.pair (.int .i64) (.pair (.int .i64) (.pair (.int .i64) (.pair (.int .i64) (.pair (.int .i64) (.pair (.int .i64) (.pair .bool (.pair (.slice T25) (.pair (.int .i64) (.pair (.int .i64) (.pair (.slice .u8) (.pair (.int .i64) (.pair (.int .i64) (.pair (.int .i64) (.pair .str (.pair .str (.pair .str (.pair (.int .i64) (.pair (.int .i64) (.pair (.int .i64) (.pair (.slice T96) (.pair (.slice T48) (.pair (.slice T48) (.pair (.int .i64) (.pair (.int .i64) (.pair (.int .i64) (.pair .bool (.pair (.slice T70) (.pair (.slice T94) (.pair (.slice fM) (.pair (.int .i64) (.pair .str (.pair .str (.pair (.int .i64) (.pair (.int .i64) (.pair (.int .i64) (.pair (.int .i64) (.pair (.int .i64) (.pair (.int .i64) (.pair .bool (.pair (.int .i64) (.pair (.slice T70) (.pair (.int .i64) (.pair (.int .i64) (.pair (.slice TB) (.pair (.slice T70) (.pair .bool (.pair (.int .i64) (.pair (.int .i64) (.pair (.slice T94) (.pair (.slice fM) T53)))))))))))))))))))))))))))))))))))))))))))))))))))))))
def tab:Tab:={ tys:=[(2,(.int .i64)),(3,(.int .i64)),(4,.bool),(5,.u8),(9,.str),(22,(.slice T25)),(23,(.slice .u8)),(25,T25),(27,T27),(28,(.slice T96)),(29,(.slice T48)),(30,(.slice T70)),(31,(.slice T94)),(32,(.slice fM)),(34,T28),(36,T33),(37,(.int .i64)),(39,T51),(40,(.slice TB)),(42,T55),(44,T53),(46,TM),(51,T27),(52,T33),(54,TM),(69,TB),(73,T94),(75,T83),(123,T66),(125,T70),(135,fM),(136,T25),(138,T48),(140,T96),(143,(.int .u64)),(144,(.slice (.int .i64))),(145,(.slice (.int .i64))),(169,dY),(181,(.slice (.slice .u8))),(206,(.slice .str)),(225,(.slice T66))],ptrs:=[78,96],arrs:=[(182,2,5)] }
theorem ah:TabOk Tryz.prog tab:=zbc (.cons (by kernel_rfl) (by kernel_rfl) (by kernel_rfl) (.cons (by kernel_rfl) (by kernel_rfl) (by kernel_rfl) (.cons (by kernel_rfl) (by kernel_rfl) (by kernel_rfl) (.cons (by kernel_rfl) (by kernel_rfl) (by kernel_rfl) (.cons (by kernel_rfl) (by kernel_rfl) (by kernel_rfl) (.cons (by kernel_rfl) (by kernel_rfl) (by kernel_rfl) (.cons (by kernel_rfl) (by kernel_rfl) (by kernel_rfl) (.cons (by kernel_rfl) (by kernel_rfl) (by kernel_rfl) (.cons (by kernel_rfl) (by kernel_rfl) (by kernel_rfl) (.cons (by kernel_rfl) (by kernel_rfl) (by kernel_rfl) (.cons (by kernel_rfl) (by kernel_rfl) (by kernel_rfl) (.cons (by kernel_rfl) (by kernel_rfl) (by kernel_rfl) (.cons (by kernel_rfl) (by kernel_rfl) (by kernel_rfl) (.cons (by kernel_rfl) (by kernel_rfl) (by kernel_rfl) (.cons (by kernel_rfl) (by kernel_rfl) (by kernel_rfl) (.cons (by kernel_rfl) (by kernel_rfl) (by kernel_rfl) (.cons (by kernel_rfl) (by kernel_rfl) (by kernel_rfl) (.cons (by kernel_rfl) (by kernel_rfl) (by kernel_rfl) (.cons (by kernel_rfl) (by kernel_rfl) (by kernel_rfl) (.cons (by kernel_rfl) (by kernel_rfl) (by kernel_rfl) (.cons (by kernel_rfl) (by kernel_rfl) (by kernel_rfl) (.cons (by kernel_rfl) (by kernel_rfl) (by kernel_rfl) (.cons (by kernel_rfl) (by kernel_rfl) (by kernel_rfl) (.cons (by kernel_rfl) (by kernel_rfl) (by kernel_rfl) (.cons (by kernel_rfl) (by kernel_rfl) (by kernel_rfl) (.cons (by kernel_rfl) (by kernel_rfl) (by kernel_rfl) (.cons (by kernel_rfl) (by kernel_rfl) (by kernel_rfl) (.cons (by kernel_rfl) (by kernel_rfl) (by kernel_rfl) (.cons (by kernel_rfl) (by kernel_rfl) (by kernel_rfl) (.cons (by kernel_rfl) (by kernel_rfl) (by kernel_rfl) (.cons (by kernel_rfl) (by kernel_rfl) (by kernel_rfl) (.cons (by kernel_rfl) (by kernel_rfl) (by kernel_rfl) (.cons (by kernel_rfl) (by kernel_rfl) (by kernel_rfl) (.cons (by kernel_rfl) (by kernel_rfl) (by kernel_rfl) (.cons (by kernel_rfl) (by kernel_rfl) (by kernel_rfl) (.cons (by kernel_rfl) (by kernel_rfl) (by kernel_rfl) (.cons (by kernel_rfl) (by kernel_rfl) (by kernel_rfl) (.cons (by kernel_rfl) (by kernel_rfl) (by kernel_rfl) (.cons (by kernel_rfl) (by kernel_rfl) (by kernel_rfl) (.cons (by kernel_rfl) (by kernel_rfl) (by kernel_rfl) (.cons (by kernel_rfl) (by kernel_rfl) (by kernel_rfl) (trivial)))))))))))))))))))))))))))))))))))))))))) (.cons (by kernel_rfl) (by kernel_rfl) (.cons (by kernel_rfl) (by kernel_rfl) (trivial))) (.cons (.int .i64) (by kernel_rfl) (by kernel_rfl) (by kernel_rfl) (trivial))
abbrev aA:=List UInt8×Unit
abbrev bF:=Int×Int×aA
abbrev gI:=Int×Int×Int×Int×Int×Int×Int×Int×Bool×List bF×bF×Unit
abbrev dJ:=List UInt8×Int×Int×Int×List UInt8×Unit
abbrev aV:=Int×List UInt8×List UInt8×List UInt8×Int×Unit
abbrev oz:=Int×Int×Int×Int×List UInt8×Int×Bool×Unit
abbrev aO:=List UInt8×oz×Unit
abbrev dG:=Int×Int×Bool×Int×List aO×Int×Int×Unit
abbrev aW:=Int×Int×dG×Unit
abbrev dm:=Int×Int×Int×Unit
abbrev bn:=Int×List UInt8×List UInt8×List UInt8×Int×Int×Int×List dJ×List aV×List aV×Int×Int×Int×Bool×List aO×List aW×List dm×Unit
abbrev ji:=Int×Int×bn×Unit
abbrev dD:=Int×Int×List aW×List dm×Unit
abbrev eX:=Int×Int×Int×List UInt8×List UInt8×Int×List UInt8×dm
abbrev TBD:=Int×List aO×Unit
abbrev TMD:=Int×Int×gI×ji×Int×List UInt8×List UInt8×Int×Int×Int×Int×dG×List TBD×List aO×Bool×dD×eX×Unit
abbrev aQ:=List UInt8×Bool×Unit
abbrev Ob:=Int×Int×Int×Int×Int×Int×Int×Int×Bool×List bF×bF
abbrev Bv:=Int×Int×Int×Int×Int×Int×Int×Int×Int×Int×Bool×List bF×Int×Int×List UInt8×Int×Int×Int×List UInt8×List UInt8×List UInt8×Int×Int×Int×List dJ×List aV×List aV×Int×Int×Int×Bool×List aO×List aW×List dm×Int×List UInt8×List UInt8×Int×Int×Int×Int×Int×Int×Bool×Int×List aO×Int×Int×List TBD×List aO×Bool×Int×Int×List aW×List dm×eX
abbrev Oa:List PS:=[.pure T27]
abbrev N8:List RS:=[.pure .bool]
abbrev N9:List PS:=[.pure T28]
abbrev N7:List RS:=[.pure .bool]
abbrev P6:List PS:=[.pure TM]
abbrev R6:List RS:=[.pure .bool]
end Go.Proofs.YteebpcpkhojfkaaGreat
