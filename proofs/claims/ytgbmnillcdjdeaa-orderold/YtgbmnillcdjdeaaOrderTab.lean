/-
  Order: by a program of the bench (seat.py).
-/
import Derived.Test.YtgbmnillcdjdeaaRows
import Derived.Test.YtgbmnillcdjdeaaSxR
namespace Go.Proofs.Ytgbmnillcdjdeaa
open Go.Sx Go
abbrev T24 : Ty := (.tree .str (.int .i64))
abbrev T26 : Ty := (.pair T24 .unit)
abbrev T31 : Ty := (.pair .str (.pair (.int .i64) .unit))
abbrev T34 : Ty := (.tree (.int .u16) .bool)
abbrev T36 : Ty := (.pair T34 .unit)
abbrev T48 : Ty := (.pair .bool T31)
abbrev T57 : Ty := (.tree (.int .i64) .str)
abbrev T59 : Ty := (.pair T57 .unit)
abbrev T66 : Ty := (.pair (.int .i64) (.pair .str .unit))
abbrev T83 : Ty := (.pair (.int .u16) (.pair .bool .unit))
abbrev T90 : Ty := (.pair T31 (.pair T24 (.pair T24 (.pair (.int .i64) (.pair (.int .i64) .unit)))))
abbrev T95 : Ty := (.pair T66 (.pair T57 (.pair T57 (.pair (.int .i64) (.pair (.int .i64) .unit)))))
abbrev T104 : Ty := (.pair T83 (.pair T34 (.pair T34 (.pair (.int .i64) (.pair (.int .i64) .unit)))))
def tab : Tab := { tys := [(2, (.int .i64)), (3, (.int .i64)), (4, .bool), (5, .u8), (9, .str), (22, (.slice .str)), (24, T24), (26, T26), (28, (.slice T31)), (31, T31), (33, (.int .u16)), (34, T34), (36, T36), (42, (.slice T48)), (44, (.slice T31)), (48, T48), (56, (.slice (.int .i64))), (57, T57), (59, T59), (63, (.slice T66)), (66, T66), (76, T31), (83, T83), (90, T90), (95, T95), (104, T104)], ptrs := [24, 34, 57] }
theorem tabOk : TabOk Try.prog tab := tabOk_of (.cons (by kernel_rfl) (by kernel_rfl) (by kernel_rfl) (.cons (by kernel_rfl) (by kernel_rfl) (by kernel_rfl) (.cons (by kernel_rfl) (by kernel_rfl) (by kernel_rfl) (.cons (by kernel_rfl) (by kernel_rfl) (by kernel_rfl) (.cons (by kernel_rfl) (by kernel_rfl) (by kernel_rfl) (.cons (by kernel_rfl) (by kernel_rfl) (by kernel_rfl) (.cons (by kernel_rfl) (by kernel_rfl) (by kernel_rfl) (.cons (by kernel_rfl) (by kernel_rfl) (by kernel_rfl) (.cons (by kernel_rfl) (by kernel_rfl) (by kernel_rfl) (.cons (by kernel_rfl) (by kernel_rfl) (by kernel_rfl) (.cons (by kernel_rfl) (by kernel_rfl) (by kernel_rfl) (.cons (by kernel_rfl) (by kernel_rfl) (by kernel_rfl) (.cons (by kernel_rfl) (by kernel_rfl) (by kernel_rfl) (.cons (by kernel_rfl) (by kernel_rfl) (by kernel_rfl) (.cons (by kernel_rfl) (by kernel_rfl) (by kernel_rfl) (.cons (by kernel_rfl) (by kernel_rfl) (by kernel_rfl) (.cons (by kernel_rfl) (by kernel_rfl) (by kernel_rfl) (.cons (by kernel_rfl) (by kernel_rfl) (by kernel_rfl) (.cons (by kernel_rfl) (by kernel_rfl) (by kernel_rfl) (.cons (by kernel_rfl) (by kernel_rfl) (by kernel_rfl) (.cons (by kernel_rfl) (by kernel_rfl) (by kernel_rfl) (.cons (by kernel_rfl) (by kernel_rfl) (by kernel_rfl) (.cons (by kernel_rfl) (by kernel_rfl) (by kernel_rfl) (.cons (by kernel_rfl) (by kernel_rfl) (by kernel_rfl) (.cons (by kernel_rfl) (by kernel_rfl) (by kernel_rfl) (.cons (by kernel_rfl) (by kernel_rfl) (by kernel_rfl) (trivial))))))))))))))))))))))))))) (.cons (by kernel_rfl) (.cons (by kernel_rfl) (.cons (by kernel_rfl) (trivial))))
abbrev T24D := Tree (List UInt8) Int
abbrev T26D := T24D × Unit
abbrev T31D := List UInt8 × Int × Unit
abbrev T34D := Tree Int Bool
abbrev T36D := T34D × Unit
abbrev T48D := Bool × T31D
abbrev T57D := Tree Int (List UInt8)
abbrev T59D := T57D × Unit
abbrev T66D := Int × List UInt8 × Unit
abbrev T83D := Int × Bool × Unit
abbrev T90D := T31D × T24D × T24D × Int × Int × Unit
abbrev T95D := T66D × T57D × T57D × Int × Int × Unit
abbrev T104D := T83D × T34D × T34D × Int × Int × Unit
-- cmp.isNaN[string]
abbrev P62 : List PS := [.pure .str]
abbrev R62 : List RS := [.pure .bool]
-- cmp.Compare[string]
abbrev P48 : List PS := [.pure .str, .pure .str]
abbrev R48 : List RS := [.pure (.int .i64)]
-- (*decamp/order.node[string, int64]).size
abbrev P45 : List PS := [.pure T24]
abbrev R45 : List RS := [.pure (.int .i64)]
-- (*decamp/order.node[string, int64]).depth
abbrev P67 : List PS := [.pure T24]
abbrev R67 : List RS := [.pure (.int .i64)]
-- decamp/order.tree[string,int64]
abbrev P55 : List PS := [.pure T31, .pure T24, .pure T24]
abbrev R55 : List RS := [.pure T24]
-- decamp/order.even[string,int64]
abbrev P56 : List PS := [.pure T31, .pure T24, .pure T24]
abbrev R56 : List RS := [.pure T24]
-- (*decamp/order.node[string, int64]).put
abbrev P34 : List PS := [.pure T24, .pure T31]
abbrev R34 : List RS := [.pure T24]
-- (decamp/order.Map[string, int64]).Put
abbrev P10 : List PS := [.pure T26, .pure .str, .pure (.int .i64)]
abbrev R10 : List RS := [.pure T26]
-- (decamp/order.Map[string, int64]).Len
abbrev P21 : List PS := [.pure T26]
abbrev R21 : List RS := [.pure (.int .i64)]
-- (decamp/order.Map[string, int64]).Get
abbrev P30 : List PS := [.pure T26, .pure .str]
abbrev R30 : List RS := [.pure (.int .i64), .pure .bool]
-- decamp/decamplaw01.awake
abbrev P9 : List PS := []
abbrev R9 : List RS := [.pure .bool]
-- (decamp/order.Map[string, int64]).All$1
abbrev P36 : List PS := [.pure T31]
abbrev R36 : List RS := []
-- (decamp/order.Map[string, int64]).All$1
abbrev P36a : List PS := [.pure T31, .obj (.slice T31) [true, true]]
abbrev R36a : List RS := []
-- (*decamp/order.node[string, int64]).each
abbrev P35a : List PS := [.pure T24, .fnc 36 1, .obj (.slice T31) [true, true]]
abbrev R35a : List RS := []
-- (decamp/order.Map[string, int64]).All
abbrev P11 : List PS := [.pure T26]
abbrev R11 : List RS := [.own false T31]
-- decamp/decamplaw01.OrderSame
abbrev P3 : List PS := [.pure (.slice .str), .pure .u8]
abbrev R3 : List RS := [.pure .bool]
-- (*decamp/order.node[uint16, bool]).depth
abbrev P40 : List PS := [.pure T34]
abbrev R40 : List RS := [.pure (.int .i64)]
-- (*decamp/order.node[uint16, bool]).size
abbrev P41 : List PS := [.pure T34]
abbrev R41 : List RS := [.pure (.int .i64)]
-- decamp/order.tree[uint16,bool]
abbrev P57 : List PS := [.pure T83, .pure T34, .pure T34]
abbrev R57 : List RS := [.pure T34]
-- cmp.isNaN[uint16]
abbrev P68 : List PS := [.pure (.int .u16)]
abbrev R68 : List RS := [.pure .bool]
-- cmp.Compare[uint16]
abbrev P58 : List PS := [.pure (.int .u16), .pure (.int .u16)]
abbrev R58 : List RS := [.pure (.int .i64)]
-- decamp/order.even[uint16,bool]
abbrev P59 : List PS := [.pure T83, .pure T34, .pure T34]
abbrev R59 : List RS := [.pure T34]
-- (*decamp/order.node[uint16, bool]).put
abbrev P37 : List PS := [.pure T34, .pure T83]
abbrev R37 : List RS := [.pure T34]
-- (decamp/order.Map[uint16, bool]).Put
abbrev P12 : List PS := [.pure T36, .pure (.int .u16), .pure .bool]
abbrev R12 : List RS := [.pure T36]
-- (decamp/order.Map[uint16, bool]).Get
abbrev P38 : List PS := [.pure T36, .pure (.int .u16)]
abbrev R38 : List RS := [.pure .bool, .pure .bool]
-- (*decamp/order.node[uint16, bool]).least
abbrev P60 : List PS := [.pure T34]
abbrev R60 : List RS := [.pure T83, .pure T34]
-- (*decamp/order.node[uint16, bool]).del
abbrev P39 : List PS := [.pure T34, .pure (.int .u16)]
abbrev R39 : List RS := [.pure T34]
-- (decamp/order.Map[uint16, bool]).Del
abbrev P13 : List PS := [.pure T36, .pure (.int .u16)]
abbrev R13 : List RS := [.pure T36]
-- (decamp/order.Map[uint16, bool]).Deep
abbrev P14 : List PS := [.pure T36]
abbrev R14 : List RS := [.pure (.int .i64)]
-- decamp/decampref01.Digits
abbrev P15 : List PS := [.pure (.int .i64)]
abbrev R15 : List RS := [.pure (.int .i64)]
-- (decamp/order.Map[uint16, bool]).Len
abbrev P16 : List PS := [.pure T36]
abbrev R16 : List RS := [.pure (.int .i64)]
-- decamp/decamplaw01.OrderDeep
abbrev P4 : List PS := [.pure (.int .u16), .pure (.int .u16), .pure (.int .u16)]
abbrev R4 : List RS := [.pure .bool]
-- decamp/decamplaw01.few
abbrev P17 : List PS := [.pure (.slice T48)]
abbrev R17 : List RS := [.pure .bool]
-- (*decamp/order.node[string, int64]).least
abbrev P69 : List PS := [.pure T24]
abbrev R69 : List RS := [.pure T31, .pure T24]
-- (*decamp/order.node[string, int64]).del
abbrev P61 : List PS := [.pure T24, .pure .str]
abbrev R61 : List RS := [.pure T24]
-- (decamp/order.Map[string, int64]).Del
abbrev P42 : List PS := [.pure T26, .pure .str]
abbrev R42 : List RS := [.pure T26]
-- decamp/decampref01.Del
abbrev P43 : List PS := [.pure (.slice T31), .pure .str]
abbrev R43 : List RS := [.own false T31]
-- decamp/decampref01.Below
abbrev P32 : List PS := [.pure (.slice T31), .pure .str]
abbrev R32 : List RS := [.own false T31]
-- decamp/decampref01.Put
abbrev P44 : List PS := [.pure (.slice T31), .pure .str, .pure (.int .i64)]
abbrev R44 : List RS := [.own false T31]
-- decamp/decamplaw01.act
abbrev P18 : List PS := [.pure T26, .pure (.slice T31), .pure T48]
abbrev R18 : List RS := [.pure T26, .own false T31]
-- decamp/decamplaw01.same
abbrev P19 : List PS := [.pure (.slice T31), .pure (.slice T31)]
abbrev R19 : List RS := [.pure .bool]
-- decamp/decamplaw01.OrderOld
abbrev P5 : List PS := [.pure (.slice T48), .pure (.slice T48)]
abbrev R5 : List RS := [.pure .bool]
-- (decamp/order.Map[string, int64]).At
abbrev P20 : List PS := [.pure T26, .pure (.int .i64)]
abbrev R20 : List RS := [.pure T31, .pure .bool]
-- (decamp/order.Map[string, int64]).Between$1
abbrev P47 : List PS := [.pure T31]
abbrev R47 : List RS := []
-- (decamp/order.Map[string, int64]).Between$1
abbrev P47a : List PS := [.pure T31, .obj (.slice T31) [true, true]]
abbrev R47a : List RS := []
-- (*decamp/order.node[string, int64]).walk
abbrev P46a : List PS := [.pure T24, .pure .str, .pure .str, .fnc 47 1, .obj (.slice T31) [true, true]]
abbrev R46a : List RS := []
-- (decamp/order.Map[string, int64]).Between
abbrev P22 : List PS := [.pure T26, .pure .str, .pure .str]
abbrev R22 : List RS := [.own false T31]
-- (decamp/order.Map[string, int64]).Rank
abbrev P23 : List PS := [.pure T26, .pure .str]
abbrev R23 : List RS := [.pure (.int .i64)]
-- decamp/decamplaw01.OrderRanks
abbrev P6 : List PS := [.pure (.slice .str), .pure .u8, .pure .u8]
abbrev R6 : List RS := [.pure .bool]
-- cmp.isNaN[int64]
abbrev P63 : List PS := [.pure (.int .i64)]
abbrev R63 : List RS := [.pure .bool]
-- cmp.Compare[int64]
abbrev P49 : List PS := [.pure (.int .i64), .pure (.int .i64)]
abbrev R49 : List RS := [.pure (.int .i64)]
-- (decamp/order.Map[int64, string]).Get
abbrev P24 : List PS := [.pure T59, .pure (.int .i64)]
abbrev R24 : List RS := [.pure .str, .pure .bool]
-- (*decamp/order.node[int64, string]).size
abbrev P53 : List PS := [.pure T57]
abbrev R53 : List RS := [.pure (.int .i64)]
-- (*decamp/order.node[int64, string]).depth
abbrev P70 : List PS := [.pure T57]
abbrev R70 : List RS := [.pure (.int .i64)]
-- decamp/order.tree[int64,string]
abbrev P64 : List PS := [.pure T66, .pure T57, .pure T57]
abbrev R64 : List RS := [.pure T57]
-- decamp/order.even[int64,string]
abbrev P65 : List PS := [.pure T66, .pure T57, .pure T57]
abbrev R65 : List RS := [.pure T57]
-- (*decamp/order.node[int64, string]).put
abbrev P50 : List PS := [.pure T57, .pure T66]
abbrev R50 : List RS := [.pure T57]
-- (decamp/order.Map[int64, string]).Put
abbrev P25 : List PS := [.pure T59, .pure (.int .i64), .pure .str]
abbrev R25 : List RS := [.pure T59]
-- (decamp/order.Map[int64, string]).All$1
abbrev P52 : List PS := [.pure T66]
abbrev R52 : List RS := []
-- (decamp/order.Map[int64, string]).All$1
abbrev P52a : List PS := [.pure T66, .obj (.slice T66) [true, true]]
abbrev R52a : List RS := []
-- (*decamp/order.node[int64, string]).each
abbrev P51a : List PS := [.pure T57, .fnc 52 1, .obj (.slice T66) [true, true]]
abbrev R51a : List RS := []
-- (decamp/order.Map[int64, string]).All
abbrev P26 : List PS := [.pure T59]
abbrev R26 : List RS := [.own false T66]
-- (decamp/order.Map[int64, string]).Rank
abbrev P27 : List PS := [.pure T59, .pure (.int .i64)]
abbrev R27 : List RS := [.pure (.int .i64)]
-- (*decamp/order.node[int64, string]).least
abbrev P66 : List PS := [.pure T57]
abbrev R66 : List RS := [.pure T66, .pure T57]
-- (*decamp/order.node[int64, string]).del
abbrev P54 : List PS := [.pure T57, .pure (.int .i64)]
abbrev R54 : List RS := [.pure T57]
-- (decamp/order.Map[int64, string]).Del
abbrev P28 : List PS := [.pure T59, .pure (.int .i64)]
abbrev R28 : List RS := [.pure T59]
-- (decamp/order.Map[int64, string]).Len
abbrev P29 : List PS := [.pure T59]
abbrev R29 : List RS := [.pure (.int .i64)]
-- decamp/decamplaw01.OrderNumbers
abbrev P7 : List PS := [.pure (.slice (.int .i64)), .pure (.int .i64)]
abbrev R7 : List RS := [.pure .bool]
-- decamp/decampref01.Get
abbrev P31 : List PS := [.pure (.slice T31), .pure .str]
abbrev R31 : List RS := [.pure (.int .i64), .pure .bool]
-- decamp/decampref01.Between
abbrev P33 : List PS := [.pure (.slice T31), .pure .str, .pure .str]
abbrev R33 : List RS := [.own false T31]
-- decamp/decamplaw01.OrderPlays
abbrev P8 : List PS := [.pure (.slice T48), .pure .str, .pure .str, .pure (.int .i64)]
abbrev R8 : List RS := [.pure .bool]
end Go.Proofs.Ytgbmnillcdjdeaa
