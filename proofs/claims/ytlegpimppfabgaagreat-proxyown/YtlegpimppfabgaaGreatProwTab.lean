/-
 Prow: by a program of the bench (seat.py).
-/
import Derived.Test.YtlegpimppfabgaaGreatRows
import Derived.Test.YtlegpimppfabgaaGreatSxS
namespace Go.Proofs.YtlegpimppfabgaaGreat
open Go.Sx Go
abbrev Y22:Ty:=(.pair (.int .i64) (.pair (.int .i64) .unit))
abbrev Y24:Ty:=(.pair (.int .i64) (.pair .str (.pair .str (.pair Y22 .unit))))
abbrev T96:Ty:=(.pair .str (.pair (.int .i64) (.pair (.int .i64) (.pair (.int .i64) (.pair .str .unit)))))
abbrev T48:Ty:=(.pair (.int .i64) (.pair .str (.pair .str (.pair .str (.pair (.int .i64) .unit)))))
abbrev T66:Ty:=(.pair (.int .i64) (.pair (.int .i64) (.pair (.int .i64) (.pair (.int .i64) (.pair .str (.pair (.int .i64) (.pair .bool .unit)))))))
abbrev T70:Ty:=(.pair .str (.pair T66 .unit))
abbrev T51:Ty:=(.pair (.int .i64) (.pair (.int .i64) (.pair .bool (.pair (.int .i64) (.pair (.slice T70) Y22)))))
abbrev T94:Ty:=(.pair (.int .i64) (.pair (.int .i64) (.pair T51 .unit)))
abbrev iY:Ty:=(.pair (.int .i64) Y22)
abbrev T28:Ty:=(.pair (.int .i64) (.pair .str (.pair .str (.pair .str (.pair (.int .i64) (.pair (.int .i64) (.pair (.int .i64) (.pair (.slice T96) (.pair (.slice T48) (.pair (.slice T48) (.pair (.int .i64) (.pair (.int .i64) (.pair (.int .i64) (.pair .bool (.pair (.slice T70) (.pair (.slice T94) (.pair (.slice iY) .unit)))))))))))))))))
abbrev Y41:Ty:=(.pair .bool (.pair T28 (.pair .str (.pair .str Y22))))
abbrev T25:Ty:=(.pair (.int .i64) (.pair (.int .i64) (.pair (.slice .u8) .unit)))
abbrev T27:Ty:=(.pair (.int .i64) (.pair (.int .i64) (.pair (.int .i64) (.pair (.int .i64) (.pair (.int .i64) (.pair (.int .i64) (.pair (.int .i64) (.pair (.int .i64) (.pair .bool (.pair (.slice T25) (.pair T25 .unit)))))))))))
abbrev T33:Ty:=(.pair (.int .i64) (.pair (.int .i64) (.pair T28 .unit)))
abbrev T55:Ty:=(.pair (.int .i64) (.pair (.int .i64) (.pair (.slice T94) (.pair (.slice iY) .unit))))
abbrev T53:Ty:=(.pair (.int .i64) (.pair (.int .i64) (.pair (.int .i64) (.pair .str (.pair .str (.pair (.int .i64) (.pair .str iY)))))))
abbrev TB:Ty:=(.pair (.int .i64) (.pair (.slice T70) .unit))
abbrev TM:Ty:=(.pair (.int .i64) (.pair (.int .i64) (.pair T27 (.pair T33 (.pair (.int .i64) (.pair .str (.pair .str (.pair (.int .i64) (.pair (.int .i64) (.pair (.int .i64) (.pair (.int .i64) (.pair T51 (.pair (.slice TB) (.pair (.slice T70) (.pair .bool (.pair T55 (.pair T53 .unit)))))))))))))))))
abbrev Y60:Ty:=(.pair (.int .i64) (.pair (.int .i64) (.pair (.int .i64) (.pair (.int .i64) (.pair (.int .i64) (.pair (.int .i64) (.pair (.int .i64) (.pair .bool (.pair .bool (.pair TM .unit))))))))))
abbrev Y61:Ty:=(.pair Y60 (.pair Y60 .unit))
abbrev Y63:Ty:=(.pair (.int .i64) (.pair .str (.pair .str (.pair (.int .i64) (.pair (.int .i64) (.pair (.int .i64) (.pair .bool (.pair .bool (.pair (.int .i64) (.pair Y41 (.pair Y61 (.pair Y60 (.pair Y61 (.pair .bool (.pair (.int .i64) (.pair (.int .i64) (.pair (.slice TB) (.pair (.int .i64) (.pair .bool .unit)))))))))))))))))))
abbrev iL:Ty:=(.pair (.int .i64) (.pair (.int .i64) (.pair TM .unit)))
abbrev Y70:Ty:=(.pair .u8 (.pair Y41 iL))
abbrev Y98:Ty:=(.pair (.int .i64) (.pair .bool (.pair .bool (.pair (.int .i64) (.pair (.int .i64) (.pair Y22 .unit))))))
abbrev bQ:Ty:=(.pair (.int .i64) (.pair (.int .i64) (.pair (.int .i64) (.pair (.int .i64) (.pair (.int .i64) (.pair (.int .i64) (.pair (.int .i64) (.pair .bool (.pair TM .unit)))))))))
abbrev MJ:Ty:=(.pair (.ptr bQ) (.pair (.ptr bQ) .unit))
abbrev pg:Ty:=(.pair (.int .i64) (.pair (.slice TB) (.pair (.int .i64) .unit)))
abbrev Y119:Ty:=(.pair Y24 (.pair Y98 (.pair Y41 (.pair MJ (.pair (.ptr bQ) (.pair MJ (.pair (.ptr pg) (.pair .bool .unit))))))))
abbrev jl:Ty:=(.pair Y24 (.pair Y98 (.pair Y41 (.pair (.ptr bQ) (.pair (.ptr bQ) (.pair (.ptr bQ) (.pair (.ptr bQ) (.pair (.ptr bQ) (.pair (.ptr pg) (.pair .bool .unit))))))))))
abbrev L83:Ty:=(.pair (.int .i64) (.pair (.int .i64) (.pair (.int .i64) (.pair (.int .i64) (.pair (.int .i64) (.pair (.int .i64) (.pair (.int .i64) (.pair (.int .i64) (.pair .bool (.pair (.slice T25) T25))))))))))
abbrev L86:Ty:=(.pair (.int .i64) (.pair (.int .i64) (.pair (.int .i64) (.pair (.int .i64) (.pair (.int .i64) (.pair (.int .i64) (.pair (.int .i64) (.pair (.int .i64) (.pair (.int .i64) (.pair (.int .i64) (.pair .bool (.pair (.slice T25) (.pair (.int .i64) (.pair (.int .i64) (.pair (.slice .u8) (.pair (.int .i64) (.pair (.int .i64) (.pair (.int .i64) (.pair .str (.pair .str (.pair .str (.pair (.int .i64) (.pair (.int .i64) (.pair (.int .i64) (.pair (.slice T96) (.pair (.slice T48) (.pair (.slice T48) (.pair (.int .i64) (.pair (.int .i64) (.pair (.int .i64) (.pair .bool (.pair (.slice T70) (.pair (.slice T94) (.pair (.slice iY) (.pair (.int .i64) (.pair .str (.pair .str (.pair (.int .i64) (.pair (.int .i64) (.pair (.int .i64) (.pair (.int .i64) (.pair (.int .i64) (.pair (.int .i64) (.pair .bool (.pair (.int .i64) (.pair (.slice T70) (.pair (.int .i64) (.pair (.int .i64) (.pair (.slice TB) (.pair (.slice T70) (.pair .bool (.pair (.int .i64) (.pair (.int .i64) (.pair (.slice T94) (.pair (.slice iY) T53)))))))))))))))))))))))))))))))))))))))))))))))))))))))
def tab:Tab:={ tys:=[(2,(.int .i64)),(3,(.int .i64)),(4,.bool),(5,.u8),(9,.str),(22,Y22),(24,Y24),(25,(.slice Y70)),(30,(.int .i64)),(33,(.slice T96)),(34,(.slice T48)),(35,(.slice T70)),(36,(.slice T94)),(37,(.slice iY)),(39,T28),(41,Y41),(42,(.slice T25)),(43,(.slice .u8)),(45,T25),(47,T27),(49,T33),(51,T51),(52,(.slice TB)),(54,T55),(56,T53),(58,TM),(60,Y60),(61,Y61),(63,Y63),(68,Y41),(70,Y70),(71,(.slice iL)),(73,(.slice iL)),(83,T27),(84,T33),(86,TM),(93,TB),(96,Y22),(98,Y98),(103,T66),(105,T70),(110,iL),(115,(.ptr bQ)),(116,MJ),(117,(.ptr pg)),(119,Y119),(120,(.ptr (.ptr bQ))),(121,(.slice (.ptr (.ptr bQ)))),(125,pg),(140,T96),(143,T48),(166,iY),(170,T94),(173,bQ),(180,iL),(194,T25),(242,(.slice (.int .i64))),(252,(.slice T66))],ptrs:=[29,115,117],arrs:=[(22,3,2),(61,60,2),(116,115,2),(145,3,5),(187,9,2),(189,3,13)] }
theorem zdT:TabOk Tryz.prog tab:=Z4 (.cons (by kernel_rfl) (by kernel_rfl) (by kernel_rfl) (.cons (by kernel_rfl) (by kernel_rfl) (by kernel_rfl) (.cons (by kernel_rfl) (by kernel_rfl) (by kernel_rfl) (.cons (by kernel_rfl) (by kernel_rfl) (by kernel_rfl) (.cons (by kernel_rfl) (by kernel_rfl) (by kernel_rfl) (.cons (by kernel_rfl) (by kernel_rfl) (by kernel_rfl) (.cons (by kernel_rfl) (by kernel_rfl) (by kernel_rfl) (.cons (by kernel_rfl) (by kernel_rfl) (by kernel_rfl) (.cons (by kernel_rfl) (by kernel_rfl) (by kernel_rfl) (.cons (by kernel_rfl) (by kernel_rfl) (by kernel_rfl) (.cons (by kernel_rfl) (by kernel_rfl) (by kernel_rfl) (.cons (by kernel_rfl) (by kernel_rfl) (by kernel_rfl) (.cons (by kernel_rfl) (by kernel_rfl) (by kernel_rfl) (.cons (by kernel_rfl) (by kernel_rfl) (by kernel_rfl) (.cons (by kernel_rfl) (by kernel_rfl) (by kernel_rfl) (.cons (by kernel_rfl) (by kernel_rfl) (by kernel_rfl) (.cons (by kernel_rfl) (by kernel_rfl) (by kernel_rfl) (.cons (by kernel_rfl) (by kernel_rfl) (by kernel_rfl) (.cons (by kernel_rfl) (by kernel_rfl) (by kernel_rfl) (.cons (by kernel_rfl) (by kernel_rfl) (by kernel_rfl) (.cons (by kernel_rfl) (by kernel_rfl) (by kernel_rfl) (.cons (by kernel_rfl) (by kernel_rfl) (by kernel_rfl) (.cons (by kernel_rfl) (by kernel_rfl) (by kernel_rfl) (.cons (by kernel_rfl) (by kernel_rfl) (by kernel_rfl) (.cons (by kernel_rfl) (by kernel_rfl) (by kernel_rfl) (.cons (by kernel_rfl) (by kernel_rfl) (by kernel_rfl) (.cons (by kernel_rfl) (by kernel_rfl) (by kernel_rfl) (.cons (by kernel_rfl) (by kernel_rfl) (by kernel_rfl) (.cons (by kernel_rfl) (by kernel_rfl) (by kernel_rfl) (.cons (by kernel_rfl) (by kernel_rfl) (by kernel_rfl) (.cons (by kernel_rfl) (by kernel_rfl) (by kernel_rfl) (.cons (by kernel_rfl) (by kernel_rfl) (by kernel_rfl) (.cons (by kernel_rfl) (by kernel_rfl) (by kernel_rfl) (.cons (by kernel_rfl) (by kernel_rfl) (by kernel_rfl) (.cons (by kernel_rfl) (by kernel_rfl) (by kernel_rfl) (.cons (by kernel_rfl) (by kernel_rfl) (by kernel_rfl) (.cons (by kernel_rfl) (by kernel_rfl) (by kernel_rfl) (.cons (by kernel_rfl) (by kernel_rfl) (by kernel_rfl) (.cons (by kernel_rfl) (by kernel_rfl) (by kernel_rfl) (.cons (by kernel_rfl) (by kernel_rfl) (by kernel_rfl) (.cons (by kernel_rfl) (by kernel_rfl) (by kernel_rfl) (.cons (by kernel_rfl) (by kernel_rfl) (by kernel_rfl) (.cons (by kernel_rfl) (by kernel_rfl) (by kernel_rfl) (.cons (by kernel_rfl) (by kernel_rfl) (by kernel_rfl) (.cons (by kernel_rfl) (by kernel_rfl) (by kernel_rfl) (.cons (by kernel_rfl) (by kernel_rfl) (by kernel_rfl) (.cons (by kernel_rfl) (by kernel_rfl) (by kernel_rfl) (.cons (by kernel_rfl) (by kernel_rfl) (by kernel_rfl) (.cons (by kernel_rfl) (by kernel_rfl) (by kernel_rfl) (.cons (by kernel_rfl) (by kernel_rfl) (by kernel_rfl) (.cons (by kernel_rfl) (by kernel_rfl) (by kernel_rfl) (.cons (by kernel_rfl) (by kernel_rfl) (by kernel_rfl) (.cons (by kernel_rfl) (by kernel_rfl) (by kernel_rfl) (.cons (by kernel_rfl) (by kernel_rfl) (by kernel_rfl) (.cons (by kernel_rfl) (by kernel_rfl) (by kernel_rfl) (.cons (by kernel_rfl) (by kernel_rfl) (by kernel_rfl) (.cons (by kernel_rfl) (by kernel_rfl) (by kernel_rfl) (.cons (by kernel_rfl) (by kernel_rfl) (by kernel_rfl) (trivial))))))))))))))))))))))))))))))))))))))))))))))))))))))))))) (.cons (by kernel_rfl) (by kernel_rfl) (.cons (by kernel_rfl) (by kernel_rfl) (.cons (by kernel_rfl) (by kernel_rfl) (trivial)))) (.cons (.int .i64) (by kernel_rfl) (by kernel_rfl) (by kernel_rfl) (.cons Y60 (by kernel_rfl) (by kernel_rfl) (by kernel_rfl) (.cons (.ptr bQ) (by kernel_rfl) (by kernel_rfl) (by kernel_rfl) (.cons (.int .i64) (by kernel_rfl) (by kernel_rfl) (by kernel_rfl) (.cons .str (by kernel_rfl) (by kernel_rfl) (by kernel_rfl) (.cons (.int .i64) (by kernel_rfl) (by kernel_rfl) (by kernel_rfl) (trivial)))))))
abbrev dM:=Int×Int×Unit
abbrev bV:=Int×List UInt8×List UInt8×dM×Unit
abbrev dC:=List UInt8×Int×Int×Int×List UInt8×Unit
abbrev aP:=Int×List UInt8×List UInt8×List UInt8×Int×Unit
abbrev Au:=Int×Int×Int×Int×List UInt8×Int×Bool×Unit
abbrev aT:=List UInt8×Au×Unit
abbrev dD:=Int×Int×Bool×Int×List aT×dM
abbrev dh:=Int×Int×dD×Unit
abbrev fE:=Int×dM
abbrev aQ:=Int×List UInt8×List UInt8×List UInt8×Int×Int×Int×List dC×List aP×List aP×Int×Int×Int×Bool×List aT×List dh×List fE×Unit
abbrev aI:=Bool×aQ×List UInt8×List UInt8×dM
abbrev dP:=Int×Int×List UInt8×Unit
abbrev ji:=Int×Int×Int×Int×Int×Int×Int×Int×Bool×List dP×dP×Unit
abbrev lT:=Int×Int×aQ×Unit
abbrev gG:=Int×Int×List dh×List fE×Unit
abbrev jh:=Int×Int×Int×List UInt8×List UInt8×Int×List UInt8×fE
abbrev TBD:=Int×List aT×Unit
abbrev TMD:=Int×Int×ji×lT×Int×List UInt8×List UInt8×Int×Int×Int×Int×dD×List TBD×List aT×Bool×gG×jh×Unit
abbrev di:=Int×Int×Int×Int×Int×Int×Int×Bool×Bool×TMD×Unit
abbrev aW:=di×di×Unit
abbrev bG:=Int×List UInt8×List UInt8×Int×Int×Int×Bool×Bool×Int×aI×aW×di×aW×Bool×Int×Int×List TBD×Int×Bool×Unit
abbrev bz:=Int×Int×TMD×Unit
abbrev gV:=UInt8×aI×bz
abbrev dL:=Int×Bool×Bool×Int×Int×dM×Unit
abbrev ax:=Int×Int×Int×Int×Int×Int×Int×Bool×TMD×Unit
abbrev U6:=List ax×List ax×Unit
abbrev dJ:=Int×List TBD×Int×Unit
abbrev bD:=bV×dL×aI×List ax×List ax×List ax×List ax×List ax×List dJ×Bool×Unit
abbrev NF:=Int×Int×Int×Int×Int×Int×Int×Int×Bool×List dP×dP
abbrev E5:=Int×Int×Int×Int×Int×Int×Int×Int×Int×Int×Bool×List dP×Int×Int×List UInt8×Int×Int×Int×List UInt8×List UInt8×List UInt8×Int×Int×Int×List dC×List aP×List aP×Int×Int×Int×Bool×List aT×List dh×List fE×Int×List UInt8×List UInt8×Int×Int×Int×Int×Int×Int×Bool×Int×List aT×Int×Int×List TBD×List aT×Bool×Int×Int×List dh×List fE×jh
abbrev ND:List PS:=[.pure T27]
abbrev Nz:List RS:=[.pure .bool]
abbrev NE:List PS:=[.pure T28]
abbrev NC:List RS:=[.pure .bool]
abbrev P5:List PS:=[.pure Y24,.pure (.slice Y70)]
abbrev R5:List RS:=[.pure .bool]
end Go.Proofs.YtlegpimppfabgaaGreat
