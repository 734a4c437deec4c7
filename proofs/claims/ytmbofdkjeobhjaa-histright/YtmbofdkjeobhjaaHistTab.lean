/-
  Hist: by a program of the bench (seat.py).
-/
import Derived.Test.YtmbofdkjeobhjaaRows
import Derived.Test.YtmbofdkjeobhjaaSxR
namespace Go.Proofs.Ytmbofdkjeobhjaa
open Go.Sx Go
abbrev Ver : Ty := (.pair (.int .i64) (.pair (.int .i64) (.pair (.int .i64) (.pair (.int .i64) (.pair .str (.pair (.int .i64) (.pair .bool .unit)))))))
abbrev Act : Ty := (.pair .u8 (.pair (.int .i64) (.pair (.int .i64) (.pair .str (.pair (.int .i64) (.pair Ver .unit))))))
def tab : Tab := { tys := [(2, (.int .i64)), (3, (.int .i64)), (4, .bool), (5, .u8), (9, .str), (22, (.slice Act)), (25, (.slice Ver)), (29, Ver), (31, Act), (33, (.int .i64))], ptrs := [] }
theorem tabOk : TabOk Try.prog tab := tabOk_of (.cons (by kernel_rfl) (by kernel_rfl) (by kernel_rfl) (.cons (by kernel_rfl) (by kernel_rfl) (by kernel_rfl) (.cons (by kernel_rfl) (by kernel_rfl) (by kernel_rfl) (.cons (by kernel_rfl) (by kernel_rfl) (by kernel_rfl) (.cons (by kernel_rfl) (by kernel_rfl) (by kernel_rfl) (.cons (by kernel_rfl) (by kernel_rfl) (by kernel_rfl) (.cons (by kernel_rfl) (by kernel_rfl) (by kernel_rfl) (.cons (by kernel_rfl) (by kernel_rfl) (by kernel_rfl) (.cons (by kernel_rfl) (by kernel_rfl) (by kernel_rfl) (.cons (by kernel_rfl) (by kernel_rfl) (by kernel_rfl) (trivial))))))))))) (trivial)
abbrev VerD := Int × Int × Int × Int × List UInt8 × Int × Bool × Unit
abbrev ActD := UInt8 × Int × Int × List UInt8 × Int × VerD × Unit
-- decamp/hist.number
abbrev P32 : List PS := [.pure (.int .i64)]
abbrev R32 : List RS := [.pure .bool]
-- decamp/decampref14.Ver
abbrev P30 : List PS := [.pure Ver]
abbrev R30 : List RS := [.pure .bool]
-- decamp/hist.right
abbrev P29 : List PS := [.pure Ver]
abbrev R29 : List RS := [.pure .bool]
-- slices.Clone[[]decamp/api.Ver,decamp/api.Ver]
abbrev P31 : List PS := [.pure (.slice Ver)]
abbrev R31 : List RS := [.own false Ver]
-- decamp/decampref14.Few
abbrev P22 : List PS := [.pure (.slice Ver)]
abbrev R22 : List RS := [.pure .bool]
-- decamp/decampref14.Same
abbrev P14 : List PS := [.pure (.slice Ver), .pure (.slice Ver)]
abbrev R14 : List RS := [.pure .bool]
-- decamp/hist.Right
abbrev P12 : List PS := [.pure (.slice Ver)]
abbrev R12 : List RS := [.pure .bool]
-- decamp/hist.Add
abbrev P27 : List PS := [.pure (.slice Ver), .pure Ver]
abbrev R27 : List RS := [.own true Ver, .pure (.int .i64)]
-- decamp/hist.At
abbrev P15 : List PS := [.pure (.slice Ver), .pure (.int .i64)]
abbrev R15 : List RS := [.pure Ver, .pure .bool]
-- decamp/hist.Live
abbrev P17 : List PS := [.pure (.slice Ver)]
abbrev R17 : List RS := [.pure Ver, .pure .bool]
-- decamp/hist.Put
abbrev P13 : List PS := [.pure (.slice Ver), .pure (.int .i64), .pure (.int .i64), .pure .str, .pure (.int .i64)]
abbrev R13 : List RS := [.own true Ver, .pure (.int .i64)]
-- decamp/hist.Del
abbrev P25 : List PS := [.pure (.slice Ver), .pure (.int .i64), .pure (.int .i64)]
abbrev R25 : List RS := [.own true Ver, .pure (.int .i64)]
-- decamp/hist.Since
abbrev P18 : List PS := [.pure (.slice Ver), .pure (.int .i64), .pure (.int .i64)]
abbrev R18 : List RS := [.own false Ver]
-- decamp/hist.Trim
abbrev P20 : List PS := [.pure (.slice Ver), .pure (.int .i64)]
abbrev R20 : List RS := [.own false Ver]
-- decamp/decampref14.Right
abbrev P23 : List PS := [.pure (.slice Ver)]
abbrev R23 : List RS := [.pure .bool]
-- decamp/decampref14.Add
abbrev P28 : List PS := [.pure (.slice Ver), .pure Ver]
abbrev R28 : List RS := [.own true Ver, .pure .bool]
-- decamp/decampref14.Put
abbrev P24 : List PS := [.pure (.slice Ver), .pure (.int .i64), .pure (.int .i64), .pure .str, .pure (.int .i64)]
abbrev R24 : List RS := [.own true Ver, .pure .bool]
-- decamp/decampref14.Del
abbrev P26 : List PS := [.pure (.slice Ver), .pure (.int .i64), .pure (.int .i64)]
abbrev R26 : List RS := [.own true Ver, .pure (.int .i64)]
-- decamp/decampref14.At
abbrev P16 : List PS := [.pure (.slice Ver), .pure (.int .i64)]
abbrev R16 : List RS := [.pure Ver, .pure .bool]
-- decamp/decampref14.Since
abbrev P19 : List PS := [.pure (.slice Ver), .pure (.int .i64), .pure (.int .i64)]
abbrev R19 : List RS := [.own false Ver]
-- decamp/decampref14.Trim
abbrev P21 : List PS := [.pure (.slice Ver), .pure (.int .i64)]
abbrev R21 : List RS := [.own false Ver]
-- decamp/decamplaw14.awake
abbrev P9 : List PS := []
abbrev R9 : List RS := [.pure .bool]
-- decamp/decamplaw14.few
abbrev P10 : List PS := [.pure (.slice Act)]
abbrev R10 : List RS := [.pure .bool]
-- decamp/decamplaw14.do
abbrev P11 : List PS := [.pure (.slice Ver), .pure Act]
abbrev R11 : List RS := [.pure (.slice Ver), .pure .bool]
-- decamp/decamplaw14.HistRight
abbrev P8 : List PS := [.pure (.slice Ver), .pure (.int .i64)]
abbrev R8 : List RS := [.pure .bool]
-- decamp/decamplaw14.HistGrows
abbrev P3 : List PS := [.pure (.slice Act)]
abbrev R3 : List RS := [.pure .bool]
-- decamp/decamplaw14.HistOwn
abbrev P4 : List PS := [.pure (.slice Act), .pure Act, .pure Act]
abbrev R4 : List RS := [.pure .bool]
-- decamp/decamplaw14.HistReads
abbrev P5 : List PS := [.pure (.slice Act), .pure (.int .i64), .pure (.int .i64), .pure (.int .i64)]
abbrev R5 : List RS := [.pure .bool]
-- decamp/decamplaw14.HistParts
abbrev P6 : List PS := [.pure (.slice Act), .pure (.int .i64), .pure (.int .i64), .pure (.int .i64)]
abbrev R6 : List RS := [.pure .bool]
-- decamp/decamplaw14.HistTrims
abbrev P7 : List PS := [.pure (.slice Act), .pure (.int .i64), .pure (.int .i64), .pure (.int .i64)]
abbrev R7 : List RS := [.pure .bool]
end Go.Proofs.Ytmbofdkjeobhjaa
