/-
  Entry: by a program of the bench (seat.py).
-/
import Derived.Test.YtlcckfcjchghbaaRows
import Derived.Test.YtlcckfcjchghbaaSxR
namespace Go.Proofs.Ytlcckfcjchghbaa
open Go.Sx Go
abbrev T24 : Ty := (.pair (.int .i64) (.pair (.int .i64) .unit))
abbrev T56 : Ty := (.pair (.slice .u8) .unit)
abbrev T27 : Ty := (.pair (.int .i64) (.pair (.int .i64) T56))
abbrev T41 : Ty := (.pair (.slice .u8) (.pair .bool .unit))
def tab : Tab := { tys := [(2, (.int .i64)), (3, (.int .i64)), (4, .bool), (5, .u8), (9, .str), (22, (.slice T27)), (24, T24), (25, (.slice .u8)), (27, T27), (31, T27), (41, T41), (56, T56), (61, (.int .i64)), (72, T41), (85, (.int .u64))], ptrs := [38, 58] }
theorem tabOk : TabOk Try.prog tab := tabOk_of (.cons (by kernel_rfl) (by kernel_rfl) (by kernel_rfl) (.cons (by kernel_rfl) (by kernel_rfl) (by kernel_rfl) (.cons (by kernel_rfl) (by kernel_rfl) (by kernel_rfl) (.cons (by kernel_rfl) (by kernel_rfl) (by kernel_rfl) (.cons (by kernel_rfl) (by kernel_rfl) (by kernel_rfl) (.cons (by kernel_rfl) (by kernel_rfl) (by kernel_rfl) (.cons (by kernel_rfl) (by kernel_rfl) (by kernel_rfl) (.cons (by kernel_rfl) (by kernel_rfl) (by kernel_rfl) (.cons (by kernel_rfl) (by kernel_rfl) (by kernel_rfl) (.cons (by kernel_rfl) (by kernel_rfl) (by kernel_rfl) (.cons (by kernel_rfl) (by kernel_rfl) (by kernel_rfl) (.cons (by kernel_rfl) (by kernel_rfl) (by kernel_rfl) (.cons (by kernel_rfl) (by kernel_rfl) (by kernel_rfl) (.cons (by kernel_rfl) (by kernel_rfl) (by kernel_rfl) (.cons (by kernel_rfl) (by kernel_rfl) (by kernel_rfl) (trivial)))))))))))))))) (.cons (by kernel_rfl) (.cons (by kernel_rfl) (trivial)))
abbrev T24D := Int × Int × Unit
abbrev T56D := List UInt8 × Unit
abbrev T27D := Int × Int × T56D
abbrev T41D := List UInt8 × Bool × Unit
-- decamp/entry.number
abbrev P38 : List PS := [.pure (.int .i64)]
abbrev R38 : List RS := [.pure .bool]
-- decamp/entry.Right
abbrev P9 : List PS := [.pure T27]
abbrev R9 : List RS := [.pure .bool]
-- decamp/entry.Run
abbrev P11 : List PS := [.pure (.int .i64), .pure (.int .i64), .pure (.slice T27)]
abbrev R11 : List RS := [.pure .bool]
-- (*decamp/octets.Out).wide
abbrev P59 : List PS := [.obj T56 [true], .pure (.int .u64), .pure (.int .i64)]
abbrev R59 : List RS := []
-- (*decamp/octets.Out).Num
abbrev P50 : List PS := [.obj T56 [true], .pure (.int .i64)]
abbrev R50 : List RS := []
-- (*decamp/octets.Out).Count
abbrev P64 : List PS := [.obj T56 [true], .pure (.int .i64)]
abbrev R64 : List RS := []
-- (*decamp/octets.Out).Bytes
abbrev P58 : List PS := [.obj T56 [true], .pure (.slice .u8)]
abbrev R58 : List RS := []
-- decamp/entry.put
abbrev P49 : List PS := [.obj T56 [true], .pure (.int .i64), .pure (.int .i64), .pure (.slice .u8)]
abbrev R49 : List RS := []
-- decamp/entry.Put
abbrev P30 : List PS := [.obj T56 [true], .pure T27]
abbrev R30 : List RS := []
-- bytes.Clone
abbrev P43 : List PS := [.pure (.slice .u8)]
abbrev R43 : List RS := [.own false .u8]
-- (*decamp/octets.Out).End
abbrev P33 : List PS := [.obj T56 [true]]
abbrev R33 : List RS := [.own false .u8, .pure (.int .i64)]
-- decamp/decamplaw07.awake
abbrev P7 : List PS := []
abbrev R7 : List RS := [.pure .bool]
-- decamp/decampref07.Few
abbrev P8 : List PS := [.pure (.slice T27), .pure (.int .i64)]
abbrev R8 : List RS := [.pure .bool]
-- decamp/decampref07.number
abbrev P39 : List PS := [.pure (.int .i64)]
abbrev R39 : List RS := [.pure .bool]
-- decamp/decampref07.Right
abbrev P10 : List PS := [.pure T27]
abbrev R10 : List RS := [.pure .bool]
-- decamp/decampref07.Run
abbrev P12 : List PS := [.pure (.int .i64), .pure (.int .i64), .pure (.slice T27)]
abbrev R12 : List RS := [.pure .bool]
-- decamp/entry.RightHard
abbrev P13 : List PS := [.pure T24]
abbrev R13 : List RS := [.pure .bool]
-- decamp/decampref07.Hard
abbrev P14 : List PS := [.pure T24]
abbrev R14 : List RS := [.pure .bool]
-- decamp/entry.RightSnap
abbrev P15 : List PS := [.pure T27]
abbrev R15 : List RS := [.pure .bool]
-- decamp/decampref07.Snap
abbrev P16 : List PS := [.pure T27]
abbrev R16 : List RS := [.pure .bool]
-- decamp/decamplaw07.EntryRight
abbrev P3 : List PS := [.pure (.slice T27), .pure (.int .i64), .pure (.int .i64), .pure T24, .pure T27]
abbrev R3 : List RS := [.pure .bool]
-- bytes.Equal
abbrev P42 : List PS := [.pure (.slice .u8), .pure (.slice .u8)]
abbrev R42 : List RS := [.pure .bool]
-- decamp/entry.Same$1
abbrev P41 : List PS := [.pure T27, .pure T27]
abbrev R41 : List RS := [.pure .bool]
-- slices.EqualFunc[[]decamp/api.Entry,[]decamp/api.Entry,decamp/api.Entry,decamp/api.Entry]
abbrev P40a : List PS := [.pure (.slice T27), .pure (.slice T27), .fnc 41 0]
abbrev R40a : List RS := [.pure .bool]
-- decamp/entry.Same
abbrev P17 : List PS := [.pure (.slice T27), .pure (.slice T27)]
abbrev R17 : List RS := [.pure .bool]
-- decamp/decampref07.One
abbrev P21 : List PS := [.pure T27, .pure T27]
abbrev R21 : List RS := [.pure .bool]
-- decamp/decampref07.Same
abbrev P18 : List PS := [.pure (.slice T27), .pure (.slice T27)]
abbrev R18 : List RS := [.pure .bool]
-- decamp/decamplaw07.EntrySame
abbrev P4 : List PS := [.pure (.slice T27), .pure (.slice T27), .pure .u8]
abbrev R4 : List RS := [.pure .bool]
-- decamp/octets.NewIn
abbrev P19 : List PS := [.pure (.slice .u8)]
abbrev R19 : List RS := [.newobj T41 [true, false]]
-- (decamp/decampref03.In).Bytes
abbrev P63 : List PS := [.pure T41, .pure (.int .i64)]
abbrev R63 : List RS := [.pure (.slice .u8), .pure T41]
-- (decamp/decampref03.In).Number
abbrev P57 : List PS := [.pure T41, .pure (.int .i64)]
abbrev R57 : List RS := [.pure (.int .u64), .pure T41]
-- (decamp/decampref03.In).Num
abbrev P48 : List PS := [.pure T41]
abbrev R48 : List RS := [.pure (.int .i64), .pure T41]
-- (decamp/decampref03.In).Count
abbrev P62 : List PS := [.pure T41, .pure (.int .i64)]
abbrev R62 : List RS := [.pure (.int .i64), .pure T41]
-- (decamp/decampref03.In).Text
abbrev P53 : List PS := [.pure T41, .pure (.int .i64)]
abbrev R53 : List RS := [.pure .str, .pure T41]
-- decamp/decampref07.taken
abbrev P44 : List PS := [.pure T41, .pure (.int .i64)]
abbrev R44 : List RS := [.pure (.int .i64), .pure (.int .i64), .pure .str, .pure T41]
-- decamp/decampref07.From
abbrev P20 : List PS := [.pure T41]
abbrev R20 : List RS := [.pure T27, .pure T41]
-- (*decamp/octets.In).Bad
abbrev P28 : List PS := [.obj T41 []]
abbrev R28 : List RS := [.pure .bool]
-- (*decamp/octets.In).Fail
abbrev P47 : List PS := [.obj T41 []]
abbrev R47 : List RS := []
-- (*decamp/octets.In).take
abbrev P55 : List PS := [.obj T41 [], .pure (.int .i64)]
abbrev R55 : List RS := [.pure (.slice .u8)]
-- (*decamp/octets.In).wide
abbrev P54 : List PS := [.obj T41 [], .pure (.int .i64)]
abbrev R54 : List RS := [.pure (.int .u64)]
-- (*decamp/octets.In).Num
abbrev P45 : List PS := [.obj T41 []]
abbrev R45 : List RS := [.pure (.int .i64)]
-- (*decamp/octets.In).Left
abbrev P29 : List PS := [.obj T41 []]
abbrev R29 : List RS := [.pure (.int .i64)]
-- (*decamp/octets.In).Count
abbrev P56 : List PS := [.obj T41 [], .pure (.int .i64)]
abbrev R56 : List RS := [.pure (.int .i64)]
-- (*decamp/octets.In).Bytes
abbrev P46 : List PS := [.obj T41 [], .pure (.int .i64)]
abbrev R46 : List RS := [.pure (.slice .u8)]
-- decamp/entry.Get
abbrev P22 : List PS := [.obj T41 []]
abbrev R22 : List RS := [.pure T27]
-- decamp/decampref07.HardFrom
abbrev P23 : List PS := [.pure T41]
abbrev R23 : List RS := [.pure T24, .pure T41]
-- decamp/entry.GetHard
abbrev P24 : List PS := [.obj T41 []]
abbrev R24 : List RS := [.pure T24]
-- decamp/decampref07.SnapFrom
abbrev P25 : List PS := [.pure T41]
abbrev R25 : List RS := [.pure T27, .pure T41]
-- decamp/decampref07.SameSnap
abbrev P26 : List PS := [.pure T27, .pure T27]
abbrev R26 : List RS := [.pure .bool]
-- decamp/entry.GetSnap
abbrev P27 : List PS := [.obj T41 []]
abbrev R27 : List RS := [.pure T27]
-- decamp/decamplaw07.EntryGets
abbrev P5 : List PS := [.pure (.slice .u8), .pure (.slice .u8)]
abbrev R5 : List RS := [.pure .bool]
-- decamp/entry.PutHard
abbrev P31 : List PS := [.obj T56 [true], .pure T24]
abbrev R31 : List RS := []
-- decamp/entry.PutSnap
abbrev P32 : List PS := [.obj T56 [true], .pure T27]
abbrev R32 : List RS := []
-- decamp/decampref03.Wide
abbrev P61 : List PS := [.pure (.int .u64), .pure (.int .i64)]
abbrev R61 : List RS := [.own false .u8]
-- decamp/decampref03.Num
abbrev P52 : List PS := [.pure (.int .i64)]
abbrev R52 : List RS := [.own false .u8]
-- decamp/decampref03.Count
abbrev P65 : List PS := [.pure (.int .i64)]
abbrev R65 : List RS := [.own false .u8]
-- decamp/decampref03.Text
abbrev P60 : List PS := [.pure .str]
abbrev R60 : List RS := [.own false .u8]
-- decamp/decampref07.three
abbrev P51 : List PS := [.pure (.int .i64), .pure (.int .i64), .pure (.slice .u8)]
abbrev R51 : List RS := [.own false .u8]
-- decamp/decampref07.Bytes
abbrev P34 : List PS := [.pure T27]
abbrev R34 : List RS := [.own false .u8]
-- decamp/decampref07.HardBytes
abbrev P35 : List PS := [.pure T24]
abbrev R35 : List RS := [.own false .u8]
-- decamp/decampref07.SnapBytes
abbrev P36 : List PS := [.pure T27]
abbrev R36 : List RS := [.own false .u8]
-- (*decamp/octets.In).Done
abbrev P37 : List PS := [.obj T41 []]
abbrev R37 : List RS := [.pure .bool]
-- decamp/decamplaw07.EntryPuts
abbrev P6 : List PS := [.pure T27, .pure T24, .pure T27]
abbrev R6 : List RS := [.pure .bool]
end Go.Proofs.Ytlcckfcjchghbaa
