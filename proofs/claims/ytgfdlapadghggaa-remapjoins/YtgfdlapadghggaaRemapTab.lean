/-
  Remap: by a program of the bench (seat.py).
-/
import Derived.Test.YtgfdlapadghggaaRows
import Derived.Test.YtgfdlapadghggaaSxR
namespace Go.Proofs.Ytgfdlapadghggaa
open Go.Sx Go
abbrev T24 : Ty := (.pair (.int .i64) (.pair (.int .i64) .unit))
def tab : Tab := { tys := [(2, (.int .i64)), (4, .bool), (5, .u8), (9, .str), (24, T24), (40, (.slice .u8))], ptrs := [] }
theorem tabOk : TabOk Try.prog tab := tabOk_of (.cons (by kernel_rfl) (by kernel_rfl) (by kernel_rfl) (.cons (by kernel_rfl) (by kernel_rfl) (by kernel_rfl) (.cons (by kernel_rfl) (by kernel_rfl) (by kernel_rfl) (.cons (by kernel_rfl) (by kernel_rfl) (by kernel_rfl) (.cons (by kernel_rfl) (by kernel_rfl) (by kernel_rfl) (.cons (by kernel_rfl) (by kernel_rfl) (by kernel_rfl) (trivial))))))) (trivial)
abbrev T24D := Int × Int × Unit
-- decamp/remap.number
abbrev P21 : List PS := [.pure (.int .i64)]
abbrev R21 : List RS := [.pure .bool]
-- (decamp/remap.Count).Right
abbrev P11 : List PS := [.pure T24]
abbrev R11 : List RS := [.pure .bool]
-- (decamp/remap.Count).Client
abbrev P8 : List PS := [.pure T24, .pure (.int .i64)]
abbrev R8 : List RS := [.pure (.int .i64), .pure .bool]
-- decamp/index.text
abbrev P31 : List PS := [.pure .str, .pure .u8]
abbrev R31 : List RS := [.pure .bool]
-- decamp/index.Key
abbrev P24 : List PS := [.pure .str]
abbrev R24 : List RS := [.pure .bool]
-- decamp/cmd.Prefix
abbrev P23 : List PS := [.pure .str]
abbrev R23 : List RS := [.pure .bool]
-- internal/stringslite.HasPrefix
abbrev P33 : List PS := [.pure .str, .pure .str]
abbrev R33 : List RS := [.pure .bool]
-- strings.HasPrefix
abbrev P28 : List PS := [.pure .str, .pure .str]
abbrev R28 : List RS := [.pure .bool]
-- decamp/remap.Under
abbrev P18 : List PS := [.pure .str, .pure .str]
abbrev R18 : List RS := [.pure .bool]
-- decamp/remap.Key
abbrev P12 : List PS := [.pure .str, .pure .str, .pure .str]
abbrev R12 : List RS := [.pure .str, .pure .bool]
-- decamp/remap.End
abbrev P16 : List PS := [.pure .str]
abbrev R16 : List RS := [.pure .str]
-- decamp/decamplaw18.awake
abbrev P7 : List PS := []
abbrev R7 : List RS := [.pure .bool]
-- decamp/decampref18.one
abbrev P22 : List PS := [.pure (.int .i64)]
abbrev R22 : List RS := [.pure .bool]
-- decamp/decampref18.Goes
abbrev P9 : List PS := [.pure (.int .i64), .pure (.int .i64), .pure (.int .i64)]
abbrev R9 : List RS := [.pure (.int .i64), .pure .bool]
-- (decamp/remap.Count).Here
abbrev P10 : List PS := [.pure T24, .pure (.int .i64)]
abbrev R10 : List RS := [.pure (.int .i64), .pure .bool]
-- decamp/decamplaw18.RemapCounts
abbrev P3 : List PS := [.pure (.int .i64), .pure (.int .i64), .pure (.int .i64), .pure (.int .i64)]
abbrev R3 : List RS := [.pure .bool]
-- decamp/decampref15.text
abbrev P32 : List PS := [.pure .str, .pure .u8]
abbrev R32 : List RS := [.pure .bool]
-- decamp/decampref15.Key
abbrev P26 : List PS := [.pure .str]
abbrev R26 : List RS := [.pure .bool]
-- decamp/decampref17.Prefix
abbrev P25 : List PS := [.pure .str]
abbrev R25 : List RS := [.pure .bool]
-- decamp/decampref18.begins
abbrev P30 : List PS := [.pure .str, .pure .str]
abbrev R30 : List RS := [.pure .bool]
-- decamp/decampref18.Under
abbrev P19 : List PS := [.pure .str, .pure .str]
abbrev R19 : List RS := [.pure .bool]
-- decamp/decampref18.Key
abbrev P13 : List PS := [.pure .str, .pure .str, .pure .str]
abbrev R13 : List RS := [.pure .str, .pure .bool]
-- decamp/index.Range
abbrev P27 : List PS := [.pure .str, .pure .str]
abbrev R27 : List RS := [.pure .bool]
-- decamp/remap.Range
abbrev P14 : List PS := [.pure .str, .pure .str, .pure .str, .pure .str]
abbrev R14 : List RS := [.pure .str, .pure .str, .pure .bool]
-- decamp/decampref18.End
abbrev P17 : List PS := [.pure .str]
abbrev R17 : List RS := [.pure .str]
-- decamp/decampref15.Range
abbrev P29 : List PS := [.pure .str, .pure .str]
abbrev R29 : List RS := [.pure .bool]
-- decamp/decampref18.Range
abbrev P15 : List PS := [.pure .str, .pure .str, .pure .str, .pure .str]
abbrev R15 : List RS := [.pure .str, .pure .str, .pure .bool]
-- decamp/decamplaw18.RemapKeys
abbrev P4 : List PS := [.pure .str, .pure .str, .pure .str, .pure .str]
abbrev R4 : List RS := [.pure .bool]
-- decamp/decampref15.In
abbrev P20 : List PS := [.pure .str, .pure .str, .pure .str]
abbrev R20 : List RS := [.pure .bool]
-- decamp/decamplaw18.RemapBack
abbrev P5 : List PS := [.pure .str, .pure .str, .pure .str, .pure .str, .pure .str]
abbrev R5 : List RS := [.pure .bool]
-- decamp/decamplaw18.RemapJoins
abbrev P6 : List PS := [.pure .str, .pure .str, .pure .str, .pure .str, .pure .str]
abbrev R6 : List RS := [.pure .bool]
end Go.Proofs.Ytgfdlapadghggaa
