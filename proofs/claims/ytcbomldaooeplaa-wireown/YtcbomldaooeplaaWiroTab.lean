/-
  Wiro: by a program of the bench (seat.py).
-/
import Derived.Test.YtcbomldaooeplaaRows
import Derived.Test.YtcbomldaooeplaaSxS
namespace Go.Proofs.Ytcbomldaooeplaa
open Go.Sx Go
abbrev T32 : Ty := (.pair (.int .i64) (.pair (.int .i64) (.pair (.slice .u8) .unit)))
abbrev T44 : Ty := (.tree (.int .i64) T32)
abbrev T46 : Ty := (.pair T44 .unit)
abbrev T48 : Ty := (.pair (.int .i64) (.pair (.int .i64) (.pair T46 .unit)))
abbrev T52 : Ty := (.pair (.int .i64) (.pair T32 .unit))
abbrev T68 : Ty := (.pair T52 (.pair T44 (.pair T44 (.pair (.int .i64) (.pair (.int .i64) .unit)))))
def tab : Tab := { tys := [(2, (.int .i64)), (3, (.int .i64)), (4, .bool), (5, .u8), (9, .str), (26, (.int .i64)), (29, (.slice T32)), (30, (.slice .u8)), (32, T32), (44, T44), (46, T46), (48, T48), (52, T52), (56, (.slice T52)), (68, T68)], ptrs := [25, 44] }
theorem tabOk : TabOk Try.prog tab := tabOk_of (.cons (by kernel_rfl) (by kernel_rfl) (by kernel_rfl) (.cons (by kernel_rfl) (by kernel_rfl) (by kernel_rfl) (.cons (by kernel_rfl) (by kernel_rfl) (by kernel_rfl) (.cons (by kernel_rfl) (by kernel_rfl) (by kernel_rfl) (.cons (by kernel_rfl) (by kernel_rfl) (by kernel_rfl) (.cons (by kernel_rfl) (by kernel_rfl) (by kernel_rfl) (.cons (by kernel_rfl) (by kernel_rfl) (by kernel_rfl) (.cons (by kernel_rfl) (by kernel_rfl) (by kernel_rfl) (.cons (by kernel_rfl) (by kernel_rfl) (by kernel_rfl) (.cons (by kernel_rfl) (by kernel_rfl) (by kernel_rfl) (.cons (by kernel_rfl) (by kernel_rfl) (by kernel_rfl) (.cons (by kernel_rfl) (by kernel_rfl) (by kernel_rfl) (.cons (by kernel_rfl) (by kernel_rfl) (by kernel_rfl) (.cons (by kernel_rfl) (by kernel_rfl) (by kernel_rfl) (.cons (by kernel_rfl) (by kernel_rfl) (by kernel_rfl) (trivial)))))))))))))))) (.cons (by kernel_rfl) (by kernel_rfl) (.cons (by kernel_rfl) (by kernel_rfl) (trivial)))
abbrev T32D := Int × Int × List UInt8 × Unit
abbrev T44D := Tree Int T32D
abbrev T46D := T44D × Unit
abbrev T48D := Int × Int × T46D × Unit
abbrev T52D := Int × T32D × Unit
-- decamp/wire.New
abbrev P7 : List PS := [.pure (.int .i64)]
abbrev R7 : List RS := [.maybe T48 [false, false, false], .pure (.int .i64)]
-- (*decamp/order.node[int64, decamp/wire.Parcel]).size
abbrev P20 : List PS := [.pure T44]
abbrev R20 : List RS := [.pure (.int .i64)]
-- (decamp/order.Map[int64, decamp/wire.Parcel]).Len
abbrev P14 : List PS := [.pure T46]
abbrev R14 : List RS := [.pure (.int .i64)]
-- (*decamp/order.node[int64, decamp/wire.Parcel]).depth
abbrev P32 : List PS := [.pure T44]
abbrev R32 : List RS := [.pure (.int .i64)]
-- decamp/order.tree[int64,decamp/wire.Parcel]
abbrev P28 : List PS := [.pure T52, .pure T44, .pure T44]
abbrev R28 : List RS := [.pure T44]
-- cmp.isNaN[int64]
abbrev P33 : List PS := [.pure (.int .i64)]
abbrev R33 : List RS := [.pure .bool]
-- cmp.Compare[int64]
abbrev P29 : List PS := [.pure (.int .i64), .pure (.int .i64)]
abbrev R29 : List RS := [.pure (.int .i64)]
-- decamp/order.even[int64,decamp/wire.Parcel]
abbrev P30 : List PS := [.pure T52, .pure T44, .pure T44]
abbrev R30 : List RS := [.pure T44]
-- (*decamp/order.node[int64, decamp/wire.Parcel]).put
abbrev P21 : List PS := [.pure T44, .pure T52]
abbrev R21 : List RS := [.pure T44]
-- (decamp/order.Map[int64, decamp/wire.Parcel]).Put
abbrev P15 : List PS := [.pure T46, .pure (.int .i64), .pure T32]
abbrev R15 : List RS := [.pure T46]
-- bytes.Clone
abbrev P22 : List PS := [.lent (.slice .u8)]
abbrev R22 : List RS := [.own false .u8]
-- decamp/wire.clone
abbrev P16 : List PS := [.lent T32]
abbrev R16 : List RS := [.agg T32 [false, false, true, true]]
-- (*decamp/wire.Wire).Send
abbrev P8 : List PS := [.obj T48 [], .lent T32]
abbrev R8 : List RS := [.pure (.int .i64)]
-- (*decamp/wire.Wire).Send
abbrev P8a : List PS := [.nilp, .lent T32]
abbrev R8a : List RS := [.pure (.int .i64)]
-- (decamp/order.Map[int64, decamp/wire.Parcel]).At
abbrev P23 : List PS := [.pure T46, .pure (.int .i64)]
abbrev R23 : List RS := [.pure T52, .pure .bool]
-- (*decamp/wire.Wire).at
abbrev P17 : List PS := [.obj T48 [], .pure (.int .i64)]
abbrev R17 : List RS := [.pure T52, .pure (.int .i64)]
-- (*decamp/wire.Wire).at
abbrev P17a : List PS := [.nilp, .pure (.int .i64)]
abbrev R17a : List RS := [.pure T52, .pure (.int .i64)]
-- (decamp/order.Map[int64, decamp/wire.Parcel]).Get
abbrev P24 : List PS := [.pure T46, .pure (.int .i64)]
abbrev R24 : List RS := [.pure T32, .pure .bool]
-- (*decamp/order.node[int64, decamp/wire.Parcel]).least
abbrev P31 : List PS := [.pure T44]
abbrev R31 : List RS := [.pure T52, .pure T44]
-- (*decamp/order.node[int64, decamp/wire.Parcel]).del
abbrev P25 : List PS := [.pure T44, .pure (.int .i64)]
abbrev R25 : List RS := [.pure T44]
-- (decamp/order.Map[int64, decamp/wire.Parcel]).Del
abbrev P18 : List PS := [.pure T46, .pure (.int .i64)]
abbrev R18 : List RS := [.pure T46]
-- (*decamp/wire.Wire).Take
abbrev P9 : List PS := [.obj T48 [], .pure (.int .i64)]
abbrev R9 : List RS := [.agg T32 [false, false, true, true], .pure (.int .i64)]
-- (*decamp/wire.Wire).Take
abbrev P9a : List PS := [.nilp, .pure (.int .i64)]
abbrev R9a : List RS := [.agg T32 [false, false, true, true], .pure (.int .i64)]
-- (*decamp/wire.Wire).Len
abbrev P13 : List PS := [.obj T48 []]
abbrev R13 : List RS := [.pure (.int .i64)]
-- (*decamp/wire.Wire).Len
abbrev P13a : List PS := [.nilp]
abbrev R13a : List RS := [.pure (.int .i64)]
-- decamp/decamplaw27.awake
abbrev P5 : List PS := []
abbrev R5 : List RS := [.pure .bool]
-- (*decamp/wire.Wire).Double
abbrev P11 : List PS := [.obj T48 [], .pure (.int .i64)]
abbrev R11 : List RS := [.pure (.int .i64)]
-- (*decamp/wire.Wire).Double
abbrev P11a : List PS := [.nilp, .pure (.int .i64)]
abbrev R11a : List RS := [.pure (.int .i64)]
-- (decamp/order.Map[int64, decamp/wire.Parcel]).All$1
abbrev P27 : List PS := [.pure T52]
abbrev R27 : List RS := []
-- (decamp/order.Map[int64, decamp/wire.Parcel]).All$1
abbrev P27a : List PS := [.pure T52, .obj (.slice T52) [true, true]]
abbrev R27a : List RS := []
-- (*decamp/order.node[int64, decamp/wire.Parcel]).each
abbrev P26a : List PS := [.pure T44, .fnc 27 1, .obj (.slice T52) [true, true]]
abbrev R26a : List RS := []
-- (decamp/order.Map[int64, decamp/wire.Parcel]).All
abbrev P19 : List PS := [.pure T46]
abbrev R19 : List RS := [.own false T52]
-- (*decamp/wire.Wire).All
abbrev P12 : List PS := [.obj T48 []]
abbrev R12 : List RS := [.deep T32]
-- (*decamp/wire.Wire).All
abbrev P12a : List PS := [.nilp]
abbrev R12a : List RS := [.pure (.slice T32)]
-- decamp/decamplaw27.WireOwn
abbrev P4 : List PS := [.pure (.slice .u8), .pure (.int .i64)]
abbrev R4 : List RS := [.pure .bool]
end Go.Proofs.Ytcbomldaooeplaa
