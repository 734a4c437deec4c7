/-
 Prox: by a program of the bench (seat.py).
-/
import Derived.Test.YtlegpimppfabgaaGreatRows
import Derived.Test.YtlegpimppfabgaaGreatSxS
namespace Go.Proofs.YtlegpimppfabgaaGreat
open Go.Sx Go
abbrev Y22:Ty:=(.pair (.int .i64) (.pair (.int .i64) .unit))
abbrev Y24:Ty:=(.pair (.int .i64) (.pair .str (.pair .str (.pair Y22 .unit))))
abbrev T96:Ty:=(.pair .str (.pair (.int .i64) (.pair (.int .i64) (.pair (.int .i64) (.pair .str .unit)))))
abbrev T48:Ty:=(.pair (.int .i64) (.pair .str (.pair .str (.pair .str (.pair (.int .i64) .unit)))))
abbrev T66:Ty:=(.pair (.int .i64) (.pair (.int .i64) (.pair (.int .i64) (.pair (.int .i64) (.pair .str (.pair (.int .i64) (.pair .bool .unit)))))))
abbrev T70:Ty:=(.pair .str (.pair T66 .unit))
abbrev T51:Ty:=(.pair (.int .i64) (.pair (.int .i64) (.pair .bool (.pair (.int .i64) (.pair (.slice T70) Y22)))))
abbrev T94:Ty:=(.pair (.int .i64) (.pair (.int .i64) (.pair T51 .unit)))
abbrev jr:Ty:=(.pair (.int .i64) Y22)
abbrev T28:Ty:=(.pair (.int .i64) (.pair .str (.pair .str (.pair .str (.pair (.int .i64) (.pair (.int .i64) (.pair (.int .i64) (.pair (.slice T96) (.pair (.slice T48) (.pair (.slice T48) (.pair (.int .i64) (.pair (.int .i64) (.pair (.int .i64) (.pair .bool (.pair (.slice T70) (.pair (.slice T94) (.pair (.slice jr) .unit)))))))))))))))))
abbrev Y41:Ty:=(.pair .bool (.pair T28 (.pair .str (.pair .str Y22))))
abbrev T25:Ty:=(.pair (.int .i64) (.pair (.int .i64) (.pair (.slice .u8) .unit)))
abbrev T27:Ty:=(.pair (.int .i64) (.pair (.int .i64) (.pair (.int .i64) (.pair (.int .i64) (.pair (.int .i64) (.pair (.int .i64) (.pair (.int .i64) (.pair (.int .i64) (.pair .bool (.pair (.slice T25) (.pair T25 .unit)))))))))))
abbrev T33:Ty:=(.pair (.int .i64) (.pair (.int .i64) (.pair T28 .unit)))
abbrev T55:Ty:=(.pair (.int .i64) (.pair (.int .i64) (.pair (.slice T94) (.pair (.slice jr) .unit))))
abbrev T53:Ty:=(.pair (.int .i64) (.pair (.int .i64) (.pair (.int .i64) (.pair .str (.pair .str (.pair (.int .i64) (.pair .str jr)))))))
abbrev TB:Ty:=(.pair (.int .i64) (.pair (.slice T70) .unit))
abbrev TM:Ty:=(.pair (.int .i64) (.pair (.int .i64) (.pair T27 (.pair T33 (.pair (.int .i64) (.pair .str (.pair .str (.pair (.int .i64) (.pair (.int .i64) (.pair (.int .i64) (.pair (.int .i64) (.pair T51 (.pair (.slice TB) (.pair (.slice T70) (.pair .bool (.pair T55 (.pair T53 .unit)))))))))))))))))
abbrev Y60:Ty:=(.pair (.int .i64) (.pair (.int .i64) (.pair (.int .i64) (.pair (.int .i64) (.pair (.int .i64) (.pair (.int .i64) (.pair (.int .i64) (.pair .bool (.pair .bool (.pair TM .unit))))))))))
abbrev Y61:Ty:=(.pair Y60 (.pair Y60 .unit))
abbrev Y63:Ty:=(.pair (.int .i64) (.pair .str (.pair .str (.pair (.int .i64) (.pair (.int .i64) (.pair (.int .i64) (.pair .bool (.pair .bool (.pair (.int .i64) (.pair Y41 (.pair Y61 (.pair Y60 (.pair Y61 (.pair .bool (.pair (.int .i64) (.pair (.int .i64) (.pair (.slice TB) (.pair (.int .i64) (.pair .bool .unit)))))))))))))))))))
abbrev iH:Ty:=(.pair (.int .i64) (.pair (.int .i64) (.pair TM .unit)))
abbrev Y70:Ty:=(.pair .u8 (.pair Y41 iH))
abbrev Y98:Ty:=(.pair (.int .i64) (.pair .bool (.pair .bool (.pair (.int .i64) (.pair (.int .i64) (.pair Y22 .unit))))))
abbrev cO:Ty:=(.pair (.int .i64) (.pair (.int .i64) (.pair (.int .i64) (.pair (.int .i64) (.pair (.int .i64) (.pair (.int .i64) (.pair (.int .i64) (.pair .bool (.pair TM .unit)))))))))
abbrev LM:Ty:=(.pair (.ptr cO) (.pair (.ptr cO) .unit))
abbrev qx:Ty:=(.pair (.int .i64) (.pair (.slice TB) (.pair (.int .i64) .unit)))
abbrev Y119:Ty:=(.pair Y24 (.pair Y98 (.pair Y41 (.pair LM (.pair (.ptr cO) (.pair LM (.pair (.ptr qx) (.pair .bool .unit))))))))
abbrev lM:Ty:=(.pair Y24 (.pair Y98 (.pair Y41 (.pair (.ptr cO) (.pair (.ptr cO) (.pair (.ptr cO) (.pair (.ptr cO) (.pair (.ptr cO) (.pair (.ptr qx) (.pair .bool .unit))))))))))
def tab:Tab:={ tys:=[(2,(.int .i64)),(3,(.int .i64)),(4,.bool),(5,.u8),(9,.str),(22,Y22),(24,Y24),(25,(.slice Y70)),(30,(.int .i64)),(33,(.slice T96)),(34,(.slice T48)),(35,(.slice T70)),(36,(.slice T94)),(37,(.slice jr)),(39,T28),(41,Y41),(42,(.slice T25)),(43,(.slice .u8)),(45,T25),(47,T27),(49,T33),(51,T51),(52,(.slice TB)),(54,T55),(56,T53),(58,TM),(60,Y60),(61,Y61),(63,Y63),(68,Y41),(70,Y70),(71,(.slice iH)),(73,(.slice iH)),(83,T27),(84,T33),(86,TM),(93,TB),(96,Y22),(98,Y98),(103,T66),(105,T70),(110,iH),(115,(.ptr cO)),(116,LM),(117,(.ptr qx)),(119,Y119),(120,(.ptr (.ptr cO))),(121,(.slice (.ptr (.ptr cO)))),(125,qx),(140,T96),(143,T48),(166,jr),(170,T94),(173,cO),(180,iH),(194,T25),(242,(.slice (.int .i64))),(252,(.slice T66))],ptrs:=[29,115,117],arrs:=[(22,3,2),(61,60,2),(116,115,2),(145,3,5),(187,9,2),(189,3,13)] }
theorem zdu:TabOk Tryz.prog tab:=Zv (.cons (by kernel_rfl) (by kernel_rfl) (by kernel_rfl) (.cons (by kernel_rfl) (by kernel_rfl) (by kernel_rfl) (.cons (by kernel_rfl) (by kernel_rfl) (by kernel_rfl) (.cons (by kernel_rfl) (by kernel_rfl) (by kernel_rfl) (.cons (by kernel_rfl) (by kernel_rfl) (by kernel_rfl) (.cons (by kernel_rfl) (by kernel_rfl) (by kernel_rfl) (.cons (by kernel_rfl) (by kernel_rfl) (by kernel_rfl) (.cons (by kernel_rfl) (by kernel_rfl) (by kernel_rfl) (.cons (by kernel_rfl) (by kernel_rfl) (by kernel_rfl) (.cons (by kernel_rfl) (by kernel_rfl) (by kernel_rfl) (.cons (by kernel_rfl) (by kernel_rfl) (by kernel_rfl) (.cons (by kernel_rfl) (by kernel_rfl) (by kernel_rfl) (.cons (by kernel_rfl) (by kernel_rfl) (by kernel_rfl) (.cons (by kernel_rfl) (by kernel_rfl) (by kernel_rfl) (.cons (by kernel_rfl) (by kernel_rfl) (by kernel_rfl) (.cons (by kernel_rfl) (by kernel_rfl) (by kernel_rfl) (.cons (by kernel_rfl) (by kernel_rfl) (by kernel_rfl) (.cons (by kernel_rfl) (by kernel_rfl) (by kernel_rfl) (.cons (by kernel_rfl) (by kernel_rfl) (by kernel_rfl) (.cons (by kernel_rfl) (by kernel_rfl) (by kernel_rfl) (.cons (by kernel_rfl) (by kernel_rfl) (by kernel_rfl) (.cons (by kernel_rfl) (by kernel_rfl) (by kernel_rfl) (.cons (by kernel_rfl) (by kernel_rfl) (by kernel_rfl) (.cons (by kernel_rfl) (by kernel_rfl) (by kernel_rfl) (.cons (by kernel_rfl) (by kernel_rfl) (by kernel_rfl) (.cons (by kernel_rfl) (by kernel_rfl) (by kernel_rfl) (.cons (by kernel_rfl) (by kernel_rfl) (by kernel_rfl) (.cons (by kernel_rfl) (by kernel_rfl) (by kernel_rfl) (.cons (by kernel_rfl) (by kernel_rfl) (by kernel_rfl) (.cons (by kernel_rfl) (by kernel_rfl) (by kernel_rfl) (.cons (by kernel_rfl) (by kernel_rfl) (by kernel_rfl) (.cons (by kernel_rfl) (by kernel_rfl) (by kernel_rfl) (.cons (by kernel_rfl) (by kernel_rfl) (by kernel_rfl) (.cons (by kernel_rfl) (by kernel_rfl) (by kernel_rfl) (.cons (by kernel_rfl) (by kernel_rfl) (by kernel_rfl) (.cons (by kernel_rfl) (by kernel_rfl) (by kernel_rfl) (.cons (by kernel_rfl) (by kernel_rfl) (by kernel_rfl) (.cons (by kernel_rfl) (by kernel_rfl) (by kernel_rfl) (.cons (by kernel_rfl) (by kernel_rfl) (by kernel_rfl) (.cons (by kernel_rfl) (by kernel_rfl) (by kernel_rfl) (.cons (by kernel_rfl) (by kernel_rfl) (by kernel_rfl) (.cons (by kernel_rfl) (by kernel_rfl) (by kernel_rfl) (.cons (by kernel_rfl) (by kernel_rfl) (by kernel_rfl) (.cons (by kernel_rfl) (by kernel_rfl) (by kernel_rfl) (.cons (by kernel_rfl) (by kernel_rfl) (by kernel_rfl) (.cons (by kernel_rfl) (by kernel_rfl) (by kernel_rfl) (.cons (by kernel_rfl) (by kernel_rfl) (by kernel_rfl) (.cons (by kernel_rfl) (by kernel_rfl) (by kernel_rfl) (.cons (by kernel_rfl) (by kernel_rfl) (by kernel_rfl) (.cons (by kernel_rfl) (by kernel_rfl) (by kernel_rfl) (.cons (by kernel_rfl) (by kernel_rfl) (by kernel_rfl) (.cons (by kernel_rfl) (by kernel_rfl) (by kernel_rfl) (.cons (by kernel_rfl) (by kernel_rfl) (by kernel_rfl) (.cons (by kernel_rfl) (by kernel_rfl) (by kernel_rfl) (.cons (by kernel_rfl) (by kernel_rfl) (by kernel_rfl) (.cons (by kernel_rfl) (by kernel_rfl) (by kernel_rfl) (.cons (by kernel_rfl) (by kernel_rfl) (by kernel_rfl) (.cons (by kernel_rfl) (by kernel_rfl) (by kernel_rfl) (trivial))))))))))))))))))))))))))))))))))))))))))))))))))))))))))) (.cons (by kernel_rfl) (by kernel_rfl) (.cons (by kernel_rfl) (by kernel_rfl) (.cons (by kernel_rfl) (by kernel_rfl) (trivial)))) (.cons (.int .i64) (by kernel_rfl) (by kernel_rfl) (by kernel_rfl) (.cons Y60 (by kernel_rfl) (by kernel_rfl) (by kernel_rfl) (.cons (.ptr cO) (by kernel_rfl) (by kernel_rfl) (by kernel_rfl) (.cons (.int .i64) (by kernel_rfl) (by kernel_rfl) (by kernel_rfl) (.cons .str (by kernel_rfl) (by kernel_rfl) (by kernel_rfl) (.cons (.int .i64) (by kernel_rfl) (by kernel_rfl) (by kernel_rfl) (trivial)))))))
abbrev dI:=Int×Int×Unit
abbrev eQ:=Int×List UInt8×List UInt8×dI×Unit
abbrev dm:=List UInt8×Int×Int×Int×List UInt8×Unit
abbrev aK:=Int×List UInt8×List UInt8×List UInt8×Int×Unit
abbrev Af:=Int×Int×Int×Int×List UInt8×Int×Bool×Unit
abbrev aX:=List UInt8×Af×Unit
abbrev dh:=Int×Int×Bool×Int×List aX×dI
abbrev dw:=Int×Int×dh×Unit
abbrev fQ:=Int×dI
abbrev aJ:=Int×List UInt8×List UInt8×List UInt8×Int×Int×Int×List dm×List aK×List aK×Int×Int×Int×Bool×List aX×List dw×List fQ×Unit
abbrev aT:=Bool×aJ×List UInt8×List UInt8×dI
abbrev dN:=Int×Int×List UInt8×Unit
abbrev iI:=Int×Int×Int×Int×Int×Int×Int×Int×Bool×List dN×dN×Unit
abbrev lK:=Int×Int×aJ×Unit
abbrev gz:=Int×Int×List dw×List fQ×Unit
abbrev jo:=Int×Int×Int×List UInt8×List UInt8×Int×List UInt8×fQ
abbrev TBD:=Int×List aX×Unit
abbrev TMD:=Int×Int×iI×lK×Int×List UInt8×List UInt8×Int×Int×Int×Int×dh×List TBD×List aX×Bool×gz×jo×Unit
abbrev ed:=Int×Int×Int×Int×Int×Int×Int×Bool×Bool×TMD×Unit
abbrev cu:=ed×ed×Unit
abbrev bD:=Int×List UInt8×List UInt8×Int×Int×Int×Bool×Bool×Int×aT×cu×ed×cu×Bool×Int×Int×List TBD×Int×Bool×Unit
abbrev bg:=Int×Int×TMD×Unit
abbrev jc:=UInt8×aT×bg
abbrev iw:=Int×Bool×Bool×Int×Int×dI×Unit
abbrev aW:=Int×Int×Int×Int×Int×Int×Int×Bool×TMD×Unit
abbrev UD:=List aW×List aW×Unit
abbrev fD:=Int×List TBD×Int×Unit
abbrev bC:=eQ×iw×aT×List aW×List aW×List aW×List aW×List aW×List fD×Bool×Unit
abbrev MV:List PS:=[.pure T27]
abbrev MR:List RS:=[.pure .bool]
abbrev MW:List PS:=[.pure T28]
abbrev MS:List RS:=[.pure .bool]
abbrev P3:List PS:=[.pure Y24,.pure (.int .i64),.pure (.slice Y70)]
abbrev R3:List RS:=[.pure .bool]
end Go.Proofs.YtlegpimppfabgaaGreat
