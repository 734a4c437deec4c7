/-
  Rmsg: by a program of the bench (seat.py).
-/
import Derived.Test.YtnlcgekolgldcaaRows
import Derived.Test.YtnlcgekolgldcaaSxR
namespace Go.Proofs.Ytnlcgekolgldcaa
open Go.Sx Go
abbrev T47 : Ty := (.pair (.slice .u8) .unit)
abbrev T25 : Ty := (.pair (.int .i64) (.pair (.int .i64) T47))
abbrev T27 : Ty := (.pair (.int .i64) (.pair (.int .i64) (.pair (.int .i64) (.pair (.int .i64) (.pair (.int .i64) (.pair (.int .i64) (.pair (.int .i64) (.pair (.int .i64) (.pair .bool (.pair (.slice T25) (.pair T25 .unit)))))))))))
abbrev T40 : Ty := (.pair (.slice .u8) (.pair .bool .unit))
def tab : Tab := { tys := [(2, (.int .i64)), (3, (.int .i64)), (4, .bool), (5, .u8), (9, .str), (22, (.slice T25)), (23, (.slice .u8)), (25, T25), (27, T27), (30, T27), (40, T40), (47, T47), (50, (.int .i64)), (60, T25), (68, T40), (89, (.slice (.int .i64))), (90, (.slice (.int .i64))), (104, (.int .u64))], ptrs := [36, 49], arrs := [(74, 5, 3), (77, 2, 5)] }
theorem tabOk : TabOk Try.prog tab := tabOkA_of (.cons (by kernel_rfl) (by kernel_rfl) (by kernel_rfl) (.cons (by kernel_rfl) (by kernel_rfl) (by kernel_rfl) (.cons (by kernel_rfl) (by kernel_rfl) (by kernel_rfl) (.cons (by kernel_rfl) (by kernel_rfl) (by kernel_rfl) (.cons (by kernel_rfl) (by kernel_rfl) (by kernel_rfl) (.cons (by kernel_rfl) (by kernel_rfl) (by kernel_rfl) (.cons (by kernel_rfl) (by kernel_rfl) (by kernel_rfl) (.cons (by kernel_rfl) (by kernel_rfl) (by kernel_rfl) (.cons (by kernel_rfl) (by kernel_rfl) (by kernel_rfl) (.cons (by kernel_rfl) (by kernel_rfl) (by kernel_rfl) (.cons (by kernel_rfl) (by kernel_rfl) (by kernel_rfl) (.cons (by kernel_rfl) (by kernel_rfl) (by kernel_rfl) (.cons (by kernel_rfl) (by kernel_rfl) (by kernel_rfl) (.cons (by kernel_rfl) (by kernel_rfl) (by kernel_rfl) (.cons (by kernel_rfl) (by kernel_rfl) (by kernel_rfl) (.cons (by kernel_rfl) (by kernel_rfl) (by kernel_rfl) (.cons (by kernel_rfl) (by kernel_rfl) (by kernel_rfl) (.cons (by kernel_rfl) (by kernel_rfl) (by kernel_rfl) (trivial))))))))))))))))))) (.cons (by kernel_rfl) (.cons (by kernel_rfl) (trivial))) (.cons .u8 (by kernel_rfl) (by kernel_rfl) (by kernel_rfl) (.cons (.int .i64) (by kernel_rfl) (by kernel_rfl) (by kernel_rfl) (trivial)))
abbrev T47D := List UInt8 × Unit
abbrev T25D := Int × Int × T47D
abbrev T27D := Int × Int × Int × Int × Int × Int × Int × Int × Bool × List T25D × T25D × Unit
abbrev T40D := List UInt8 × Bool × Unit
-- bytes.Equal
abbrev P35 : List PS := [.pure (.slice .u8), .pure (.slice .u8)]
abbrev R35 : List RS := [.pure .bool]
-- decamp/entry.Same$1
abbrev P68 : List PS := [.pure T25, .pure T25]
abbrev R68 : List RS := [.pure .bool]
-- slices.EqualFunc[[]decamp/api.Entry,[]decamp/api.Entry,decamp/api.Entry,decamp/api.Entry]
abbrev P67a : List PS := [.pure (.slice T25), .pure (.slice T25), .fnc 68 0]
abbrev R67a : List RS := [.pure .bool]
-- decamp/entry.Same
abbrev P34 : List PS := [.pure (.slice T25), .pure (.slice T25)]
abbrev R34 : List RS := [.pure .bool]
-- decamp/rmsg.Same
abbrev P12 : List PS := [.pure T27, .pure T27]
abbrev R12 : List RS := [.pure .bool]
-- decamp/rmsg.keep
abbrev P25 : List PS := [.pure T27]
abbrev R25 : List RS := [.pure T27, .pure .bool]
-- decamp/rmsg.node
abbrev P26 : List PS := [.pure (.int .i64)]
abbrev R26 : List RS := [.pure .bool]
-- decamp/rmsg.numbers
abbrev P27 : List PS := [.pure (.slice (.int .i64))]
abbrev R27 : List RS := [.pure .bool]
-- decamp/entry.number
abbrev P64 : List PS := [.pure (.int .i64)]
abbrev R64 : List RS := [.pure .bool]
-- decamp/entry.Right
abbrev P63 : List PS := [.pure T25]
abbrev R63 : List RS := [.pure .bool]
-- decamp/entry.Run
abbrev P28 : List PS := [.pure (.int .i64), .pure (.int .i64), .pure (.slice T25)]
abbrev R28 : List RS := [.pure .bool]
-- decamp/entry.RightSnap
abbrev P29 : List PS := [.pure T25]
abbrev R29 : List RS := [.pure .bool]
-- decamp/rmsg.Right
abbrev P10 : List PS := [.pure T27]
abbrev R10 : List RS := [.pure .bool]
-- decamp/decamplaw11.awake
abbrev P7 : List PS := []
abbrev R7 : List RS := [.pure .bool]
-- decamp/decampref07.Few
abbrev P24 : List PS := [.pure (.slice T25), .pure (.int .i64)]
abbrev R24 : List RS := [.pure .bool]
-- decamp/decampref11.Few
abbrev P8 : List PS := [.pure T27]
abbrev R8 : List RS := [.pure .bool]
-- decamp/decamplaw11.To
abbrev P9 : List PS := [.pure T27]
abbrev R9 : List RS := [.pure T27]
-- decamp/decampref11.number
abbrev P30 : List PS := [.pure (.int .i64)]
abbrev R30 : List RS := [.pure .bool]
-- decamp/decampref11.bare
abbrev P31 : List PS := [.pure T27]
abbrev R31 : List RS := [.pure .bool]
-- decamp/decampref07.number
abbrev P66 : List PS := [.pure (.int .i64)]
abbrev R66 : List RS := [.pure .bool]
-- decamp/decampref07.Right
abbrev P65 : List PS := [.pure T25]
abbrev R65 : List RS := [.pure .bool]
-- decamp/decampref07.Run
abbrev P32 : List PS := [.pure (.int .i64), .pure (.int .i64), .pure (.slice T25)]
abbrev R32 : List RS := [.pure .bool]
-- decamp/decampref07.Snap
abbrev P33 : List PS := [.pure T25]
abbrev R33 : List RS := [.pure .bool]
-- decamp/decampref11.Right
abbrev P11 : List PS := [.pure T27]
abbrev R11 : List RS := [.pure .bool]
-- decamp/decampref07.One
abbrev P69 : List PS := [.pure T25, .pure T25]
abbrev R69 : List RS := [.pure .bool]
-- decamp/decampref07.Same
abbrev P36 : List PS := [.pure (.slice T25), .pure (.slice T25)]
abbrev R36 : List RS := [.pure .bool]
-- decamp/decampref07.SameSnap
abbrev P37 : List PS := [.pure T25, .pure T25]
abbrev R37 : List RS := [.pure .bool]
-- decamp/decampref11.Same
abbrev P13 : List PS := [.pure T27, .pure T27]
abbrev R13 : List RS := [.pure .bool]
-- decamp/decamplaw11.RmsgRight
abbrev P3 : List PS := [.pure T27, .pure T27]
abbrev R3 : List RS := [.pure .bool]
-- decamp/decamplaw11.RmsgBare
abbrev P4 : List PS := [.pure T27, .pure .u8, .pure (.int .i64)]
abbrev R4 : List RS := [.pure .bool]
-- bytes.Clone
abbrev P38 : List PS := [.pure (.slice .u8)]
abbrev R38 : List RS := [.own false .u8]
-- decamp/octets.NewIn
abbrev P14 : List PS := [.pure (.slice .u8)]
abbrev R14 : List RS := [.newobj T40 [true, false]]
-- (*decamp/octets.In).Bad
abbrev P18 : List PS := [.obj T40 []]
abbrev R18 : List RS := [.pure .bool]
-- (*decamp/octets.In).Fail
abbrev P45 : List PS := [.obj T40 []]
abbrev R45 : List RS := []
-- (*decamp/octets.In).take
abbrev P78 : List PS := [.obj T40 [], .pure (.int .i64)]
abbrev R78 : List RS := [.pure (.slice .u8)]
-- (*decamp/octets.In).wide
abbrev P70 : List PS := [.obj T40 [], .pure (.int .i64)]
abbrev R70 : List RS := [.pure (.int .u64)]
-- (*decamp/octets.In).Byte
abbrev P39 : List PS := [.obj T40 []]
abbrev R39 : List RS := [.pure .u8]
-- (*decamp/octets.In).Num
abbrev P40 : List PS := [.obj T40 []]
abbrev R40 : List RS := [.pure (.int .i64)]
-- (*decamp/octets.In).Flag
abbrev P41 : List PS := [.obj T40 []]
abbrev R41 : List RS := [.pure .bool]
-- (*decamp/octets.In).Left
abbrev P19 : List PS := [.obj T40 []]
abbrev R19 : List RS := [.pure (.int .i64)]
-- (*decamp/octets.In).Count
abbrev P42 : List PS := [.obj T40 [], .pure (.int .i64)]
abbrev R42 : List RS := [.pure (.int .i64)]
-- (*decamp/octets.In).Bytes
abbrev P71 : List PS := [.obj T40 [], .pure (.int .i64)]
abbrev R71 : List RS := [.pure (.slice .u8)]
-- decamp/entry.Get
abbrev P43 : List PS := [.obj T40 []]
abbrev R43 : List RS := [.pure T25]
-- decamp/entry.GetSnap
abbrev P44 : List PS := [.obj T40 []]
abbrev R44 : List RS := [.pure T25]
-- decamp/rmsg.Get
abbrev P15 : List PS := [.obj T40 []]
abbrev R15 : List RS := [.pure T27]
-- (decamp/decampref03.In).Bytes
abbrev P79 : List PS := [.pure T40, .pure (.int .i64)]
abbrev R79 : List RS := [.pure (.slice .u8), .pure T40]
-- (decamp/decampref03.In).Number
abbrev P72 : List PS := [.pure T40, .pure (.int .i64)]
abbrev R72 : List RS := [.pure (.int .u64), .pure T40]
-- (decamp/decampref03.In).Byte
abbrev P46 : List PS := [.pure T40]
abbrev R46 : List RS := [.pure .u8, .pure T40]
-- (decamp/decampref03.In).Num
abbrev P47 : List PS := [.pure T40]
abbrev R47 : List RS := [.pure (.int .i64), .pure T40]
-- (decamp/decampref03.In).Flag
abbrev P48 : List PS := [.pure T40]
abbrev R48 : List RS := [.pure .bool, .pure T40]
-- (decamp/decampref03.In).Count
abbrev P49 : List PS := [.pure T40, .pure (.int .i64)]
abbrev R49 : List RS := [.pure (.int .i64), .pure T40]
-- (decamp/decampref03.In).Text
abbrev P80 : List PS := [.pure T40, .pure (.int .i64)]
abbrev R80 : List RS := [.pure .str, .pure T40]
-- decamp/decampref07.taken
abbrev P73 : List PS := [.pure T40, .pure (.int .i64)]
abbrev R73 : List RS := [.pure (.int .i64), .pure (.int .i64), .pure .str, .pure T40]
-- decamp/decampref07.From
abbrev P50 : List PS := [.pure T40]
abbrev R50 : List RS := [.pure T25, .pure T40]
-- decamp/decampref07.SnapFrom
abbrev P51 : List PS := [.pure T40]
abbrev R51 : List RS := [.pure T25, .pure T40]
-- decamp/decampref11.From
abbrev P16 : List PS := [.pure T40]
abbrev R16 : List RS := [.pure T27, .pure T40]
-- decamp/decamplaw11.Of
abbrev P17 : List PS := [.pure T27]
abbrev R17 : List RS := [.pure T27]
-- decamp/decamplaw11.RmsgGets
abbrev P5 : List PS := [.pure (.slice .u8)]
abbrev R5 : List RS := [.pure .bool]
-- (*decamp/octets.Out).wide
abbrev P74 : List PS := [.obj T47 [true], .pure (.int .u64), .pure (.int .i64)]
abbrev R74 : List RS := []
-- (*decamp/octets.Out).Byte
abbrev P52 : List PS := [.obj T47 [true], .pure .u8]
abbrev R52 : List RS := []
-- (*decamp/octets.Out).Num
abbrev P53 : List PS := [.obj T47 [true], .pure (.int .i64)]
abbrev R53 : List RS := []
-- (*decamp/octets.Out).Flag
abbrev P54 : List PS := [.obj T47 [true], .pure .bool]
abbrev R54 : List RS := []
-- (*decamp/octets.Out).Count
abbrev P55 : List PS := [.obj T47 [true], .pure (.int .i64)]
abbrev R55 : List RS := []
-- (*decamp/octets.Out).Bytes
abbrev P81 : List PS := [.obj T47 [true], .pure (.slice .u8)]
abbrev R81 : List RS := []
-- decamp/entry.put
abbrev P75 : List PS := [.obj T47 [true], .pure (.int .i64), .pure (.int .i64), .pure (.slice .u8)]
abbrev R75 : List RS := []
-- decamp/entry.Put
abbrev P56 : List PS := [.obj T47 [true], .pure T25]
abbrev R56 : List RS := []
-- decamp/entry.PutSnap
abbrev P57 : List PS := [.obj T47 [true], .pure T25]
abbrev R57 : List RS := []
-- decamp/rmsg.Put
abbrev P20 : List PS := [.obj T47 [true], .pure T27]
abbrev R20 : List RS := []
-- (*decamp/octets.Out).End
abbrev P21 : List PS := [.obj T47 [true]]
abbrev R21 : List RS := [.own false .u8, .pure (.int .i64)]
-- decamp/decampref03.Wide
abbrev P76 : List PS := [.pure (.int .u64), .pure (.int .i64)]
abbrev R76 : List RS := [.own false .u8]
-- decamp/decampref03.Num
abbrev P58 : List PS := [.pure (.int .i64)]
abbrev R58 : List RS := [.own false .u8]
-- decamp/decampref03.Flag
abbrev P59 : List PS := [.pure .bool]
abbrev R59 : List RS := [.own false .u8]
-- decamp/decampref03.Count
abbrev P60 : List PS := [.pure (.int .i64)]
abbrev R60 : List RS := [.own false .u8]
-- decamp/decampref03.Text
abbrev P82 : List PS := [.pure .str]
abbrev R82 : List RS := [.own false .u8]
-- decamp/decampref07.three
abbrev P77 : List PS := [.pure (.int .i64), .pure (.int .i64), .pure (.slice .u8)]
abbrev R77 : List RS := [.own false .u8]
-- decamp/decampref07.Bytes
abbrev P61 : List PS := [.pure T25]
abbrev R61 : List RS := [.own false .u8]
-- decamp/decampref07.SnapBytes
abbrev P62 : List PS := [.pure T25]
abbrev R62 : List RS := [.own false .u8]
-- decamp/decampref11.Bytes
abbrev P22 : List PS := [.pure T27]
abbrev R22 : List RS := [.own false .u8]
-- (*decamp/octets.In).Done
abbrev P23 : List PS := [.obj T40 []]
abbrev R23 : List RS := [.pure .bool]
-- decamp/decamplaw11.RmsgPuts
abbrev P6 : List PS := [.pure T27]
abbrev R6 : List RS := [.pure .bool]
end Go.Proofs.Ytnlcgekolgldcaa
