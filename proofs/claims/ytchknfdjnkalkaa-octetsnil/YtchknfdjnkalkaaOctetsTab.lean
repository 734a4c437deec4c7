/-
  Octets: by a program of the bench (seat.py).
-/
import Derived.Test.YtchknfdjnkalkaaRows
import Derived.Test.YtchknfdjnkalkaaSxR
namespace Go.Proofs.Ytchknfdjnkalkaa
open Go.Sx Go
abbrev T26 : Ty := (.pair (.slice .u8) .unit)
abbrev T38 : Ty := (.pair (.slice .u8) (.pair .bool .unit))
abbrev T42 : Ty := (.pair .u8 (.pair (.int .i64) .unit))
abbrev T46 : Ty := (.pair .u8 (.pair (.int .i64) (.pair .str .unit)))
def tab : Tab := { tys := [(2, (.int .i64)), (3, (.int .i64)), (4, .bool), (5, .u8), (9, .str), (22, (.int .u16)), (24, (.slice .u8)), (26, T26), (28, (.int .i64)), (36, (.slice T42)), (38, T38), (42, T42), (44, (.slice T46)), (46, T46), (59, T38), (77, (.int .u64))], ptrs := [31, 48] }
theorem tabOk : TabOk Try.prog tab := tabOk_of (.cons (by kernel_rfl) (by kernel_rfl) (by kernel_rfl) (.cons (by kernel_rfl) (by kernel_rfl) (by kernel_rfl) (.cons (by kernel_rfl) (by kernel_rfl) (by kernel_rfl) (.cons (by kernel_rfl) (by kernel_rfl) (by kernel_rfl) (.cons (by kernel_rfl) (by kernel_rfl) (by kernel_rfl) (.cons (by kernel_rfl) (by kernel_rfl) (by kernel_rfl) (.cons (by kernel_rfl) (by kernel_rfl) (by kernel_rfl) (.cons (by kernel_rfl) (by kernel_rfl) (by kernel_rfl) (.cons (by kernel_rfl) (by kernel_rfl) (by kernel_rfl) (.cons (by kernel_rfl) (by kernel_rfl) (by kernel_rfl) (.cons (by kernel_rfl) (by kernel_rfl) (by kernel_rfl) (.cons (by kernel_rfl) (by kernel_rfl) (by kernel_rfl) (.cons (by kernel_rfl) (by kernel_rfl) (by kernel_rfl) (.cons (by kernel_rfl) (by kernel_rfl) (by kernel_rfl) (.cons (by kernel_rfl) (by kernel_rfl) (by kernel_rfl) (.cons (by kernel_rfl) (by kernel_rfl) (by kernel_rfl) (trivial))))))))))))))))) (.cons (by kernel_rfl) (by kernel_rfl) (.cons (by kernel_rfl) (by kernel_rfl) (trivial)))
abbrev T26D := List UInt8 × Unit
abbrev T38D := List UInt8 × Bool × Unit
abbrev T42D := UInt8 × Int × Unit
abbrev T46D := UInt8 × Int × List UInt8 × Unit
-- (*decamp/octets.Out).wide
abbrev P43 : List PS := [.obj T26 [true], .pure (.int .u64), .pure (.int .i64)]
abbrev R43 : List RS := []
-- (*decamp/octets.Out).wide
abbrev P43a : List PS := [.nilp, .pure (.int .u64), .pure (.int .i64)]
abbrev R43a : List RS := []
-- (*decamp/octets.Out).Count
abbrev P26 : List PS := [.obj T26 [true], .pure (.int .i64)]
abbrev R26 : List RS := []
-- (*decamp/octets.Out).Count
abbrev P26a : List PS := [.nilp, .pure (.int .i64)]
abbrev R26a : List RS := []
-- (*decamp/octets.Out).Text
abbrev P9 : List PS := [.obj T26 [true], .pure .str]
abbrev R9 : List RS := []
-- (*decamp/octets.Out).Text
abbrev P9a : List PS := [.nilp, .pure .str]
abbrev R9a : List RS := []
-- bytes.Clone
abbrev P27 : List PS := [.pure (.slice .u8)]
abbrev R27 : List RS := [.own false .u8]
-- (*decamp/octets.Out).End
abbrev P10 : List PS := [.obj T26 [true]]
abbrev R10 : List RS := [.own false .u8, .pure (.int .i64)]
-- (*decamp/octets.Out).End
abbrev P10a : List PS := [.nilp]
abbrev R10a : List RS := [.pure (.slice .u8), .pure (.int .i64)]
-- decamp/octets.NewIn
abbrev P11 : List PS := [.pure (.slice .u8)]
abbrev R11 : List RS := [.newobj T38 [true, false]]
-- (*decamp/octets.In).Left
abbrev P14 : List PS := [.obj T38 []]
abbrev R14 : List RS := [.pure (.int .i64)]
-- (*decamp/octets.In).Left
abbrev P14a : List PS := [.nilp]
abbrev R14a : List RS := [.pure (.int .i64)]
-- (*decamp/octets.In).Fail
abbrev P24 : List PS := [.obj T38 []]
abbrev R24 : List RS := []
-- (*decamp/octets.In).Fail
abbrev P24a : List PS := [.nilp]
abbrev R24a : List RS := []
-- (*decamp/octets.In).take
abbrev P28 : List PS := [.obj T38 [], .pure (.int .i64)]
abbrev R28 : List RS := [.pure (.slice .u8)]
-- (*decamp/octets.In).take
abbrev P28a : List PS := [.nilp, .pure (.int .i64)]
abbrev R28a : List RS := [.pure (.slice .u8)]
-- (*decamp/octets.In).wide
abbrev P42 : List PS := [.obj T38 [], .pure (.int .i64)]
abbrev R42 : List RS := [.pure (.int .u64)]
-- (*decamp/octets.In).wide
abbrev P42a : List PS := [.nilp, .pure (.int .i64)]
abbrev R42a : List RS := [.pure (.int .u64)]
-- (*decamp/octets.In).Count
abbrev P25 : List PS := [.obj T38 [], .pure (.int .i64)]
abbrev R25 : List RS := [.pure (.int .i64)]
-- (*decamp/octets.In).Count
abbrev P25a : List PS := [.nilp, .pure (.int .i64)]
abbrev R25a : List RS := [.pure (.int .i64)]
-- (*decamp/octets.In).Text
abbrev P12 : List PS := [.obj T38 [], .pure (.int .i64)]
abbrev R12 : List RS := [.pure .str]
-- (*decamp/octets.In).Text
abbrev P12a : List PS := [.nilp, .pure (.int .i64)]
abbrev R12a : List RS := [.pure .str]
-- decamp/decamplaw03.awake
abbrev P8 : List PS := []
abbrev R8 : List RS := [.pure .bool]
-- (*decamp/octets.In).Bad
abbrev P13 : List PS := [.obj T38 []]
abbrev R13 : List RS := [.pure .bool]
-- (*decamp/octets.In).Bad
abbrev P13a : List PS := [.nilp]
abbrev R13a : List RS := [.pure .bool]
-- decamp/decamplaw03.OctetsCut
abbrev P3 : List PS := [.pure .str, .pure (.int .u16), .pure (.int .u16)]
abbrev R3 : List RS := [.pure .bool]
-- (*decamp/octets.In).Byte
abbrev P20 : List PS := [.obj T38 []]
abbrev R20 : List RS := [.pure .u8]
-- (*decamp/octets.In).Byte
abbrev P20a : List PS := [.nilp]
abbrev R20a : List RS := [.pure .u8]
-- (*decamp/octets.In).Flag
abbrev P21 : List PS := [.obj T38 []]
abbrev R21 : List RS := [.pure .bool]
-- (*decamp/octets.In).Flag
abbrev P21a : List PS := [.nilp]
abbrev R21a : List RS := [.pure .bool]
-- (*decamp/octets.In).Num
abbrev P22 : List PS := [.obj T38 []]
abbrev R22 : List RS := [.pure (.int .i64)]
-- (*decamp/octets.In).Num
abbrev P22a : List PS := [.nilp]
abbrev R22a : List RS := [.pure (.int .i64)]
-- (*decamp/octets.In).Bytes
abbrev P23 : List PS := [.obj T38 [], .pure (.int .i64)]
abbrev R23 : List RS := [.pure (.slice .u8)]
-- (*decamp/octets.In).Bytes
abbrev P23a : List PS := [.nilp, .pure (.int .i64)]
abbrev R23a : List RS := [.pure (.slice .u8)]
-- (decamp/decampref03.In).Bytes
abbrev P45 : List PS := [.pure T38, .pure (.int .i64)]
abbrev R45 : List RS := [.pure (.slice .u8), .pure T38]
-- (decamp/decampref03.In).Number
abbrev P44 : List PS := [.pure T38, .pure (.int .i64)]
abbrev R44 : List RS := [.pure (.int .u64), .pure T38]
-- (decamp/decampref03.In).Byte
abbrev P29 : List PS := [.pure T38]
abbrev R29 : List RS := [.pure .u8, .pure T38]
-- (decamp/decampref03.In).Flag
abbrev P30 : List PS := [.pure T38]
abbrev R30 : List RS := [.pure .bool, .pure T38]
-- (decamp/decampref03.In).Count
abbrev P31 : List PS := [.pure T38, .pure (.int .i64)]
abbrev R31 : List RS := [.pure (.int .i64), .pure T38]
-- (decamp/decampref03.In).Num
abbrev P32 : List PS := [.pure T38]
abbrev R32 : List RS := [.pure (.int .i64), .pure T38]
-- (decamp/decampref03.In).Text
abbrev P33 : List PS := [.pure T38, .pure (.int .i64)]
abbrev R33 : List RS := [.pure .str, .pure T38]
-- decamp/decamplaw03.alike
abbrev P15 : List PS := [.obj T38 [], .pure T38, .pure T42]
abbrev R15 : List RS := [.pure T38, .pure .bool]
-- (*decamp/octets.In).Done
abbrev P16 : List PS := [.obj T38 []]
abbrev R16 : List RS := [.pure .bool]
-- (*decamp/octets.In).Done
abbrev P16a : List PS := [.nilp]
abbrev R16a : List RS := [.pure .bool]
-- (decamp/decampref03.In).Done
abbrev P17 : List PS := [.pure T38]
abbrev R17 : List RS := [.pure .bool]
-- decamp/decamplaw03.OctetsTakes
abbrev P4 : List PS := [.pure (.slice .u8), .pure (.slice T42)]
abbrev R4 : List RS := [.pure .bool]
-- (*decamp/octets.Out).Byte
abbrev P34 : List PS := [.obj T26 [true], .pure .u8]
abbrev R34 : List RS := []
-- (*decamp/octets.Out).Byte
abbrev P34a : List PS := [.nilp, .pure .u8]
abbrev R34a : List RS := []
-- (*decamp/octets.Out).Flag
abbrev P35 : List PS := [.obj T26 [true], .pure .bool]
abbrev R35 : List RS := []
-- (*decamp/octets.Out).Flag
abbrev P35a : List PS := [.nilp, .pure .bool]
abbrev R35a : List RS := []
-- (*decamp/octets.Out).Num
abbrev P36 : List PS := [.obj T26 [true], .pure (.int .i64)]
abbrev R36 : List RS := []
-- (*decamp/octets.Out).Num
abbrev P36a : List PS := [.nilp, .pure (.int .i64)]
abbrev R36a : List RS := []
-- (*decamp/octets.Out).Bytes
abbrev P37 : List PS := [.obj T26 [true], .pure (.slice .u8)]
abbrev R37 : List RS := []
-- (*decamp/octets.Out).Bytes
abbrev P37a : List PS := [.nilp, .pure (.slice .u8)]
abbrev R37a : List RS := []
-- decamp/decamplaw03.put
abbrev P18 : List PS := [.obj T26 [true], .pure T46]
abbrev R18 : List RS := []
-- decamp/decamplaw03.put
abbrev P18a : List PS := [.nilp, .pure T46]
abbrev R18a : List RS := []
-- decamp/decampref03.Flag
abbrev P38 : List PS := [.pure .bool]
abbrev R38 : List RS := [.own false .u8]
-- decamp/decampref03.Wide
abbrev P46 : List PS := [.pure (.int .u64), .pure (.int .i64)]
abbrev R46 : List RS := [.own false .u8]
-- decamp/decampref03.Count
abbrev P39 : List PS := [.pure (.int .i64)]
abbrev R39 : List RS := [.own false .u8]
-- decamp/decampref03.Num
abbrev P40 : List PS := [.pure (.int .i64)]
abbrev R40 : List RS := [.own false .u8]
-- decamp/decampref03.Text
abbrev P41 : List PS := [.pure .str]
abbrev R41 : List RS := [.own false .u8]
-- decamp/decampref03.Put
abbrev P19 : List PS := [.pure T46]
abbrev R19 : List RS := [.own false .u8]
-- decamp/decamplaw03.OctetsPuts
abbrev P5 : List PS := [.pure (.slice T46)]
abbrev R5 : List RS := [.pure .bool]
-- decamp/decamplaw03.OctetsBack
abbrev P6 : List PS := [.pure (.slice T46)]
abbrev R6 : List RS := [.pure .bool]
-- decamp/decamplaw03.OctetsNil
abbrev P7 : List PS := [.pure (.slice T46), .pure (.slice .u8), .pure (.int .i64)]
abbrev R7 : List RS := [.pure .bool]
end Go.Proofs.Ytchknfdjnkalkaa
