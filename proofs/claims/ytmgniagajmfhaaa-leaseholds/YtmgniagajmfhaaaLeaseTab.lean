/-
  Lease: by a program of the bench (seat.py).
-/
import Derived.Test.YtmgniagajmfhaaaRows
import Derived.Test.YtmgniagajmfhaaaSxR
namespace Go.Proofs.Ytmgniagajmfhaaa
open Go.Sx Go
abbrev T68 : Ty := (.pair (.int .i64) (.pair (.int .i64) (.pair (.int .i64) (.pair .bool .unit))))
abbrev T26 : Ty := (.tree (.int .i64) T68)
abbrev T28 : Ty := (.pair T26 .unit)
abbrev T30 : Ty := (.pair T28 .unit)
abbrev T52 : Ty := (.pair (.int .i64) (.pair (.int .i64) (.pair (.int .i64) .unit)))
abbrev T36 : Ty := (.pair .u8 (.pair (.int .i64) (.pair (.int .i64) (.pair (.int .i64) (.pair (.int .i64) (.pair .bool (.pair (.slice T52) .unit)))))))
abbrev T78 : Ty := (.pair (.int .i64) (.pair T68 .unit))
abbrev T83 : Ty := (.pair (.int .i64) T68)
abbrev T90 : Ty := (.pair T78 (.pair T26 (.pair T26 (.pair (.int .i64) (.pair (.int .i64) .unit)))))
def tab : Tab := { tys := [(2, (.int .i64)), (3, (.int .i64)), (4, .bool), (5, .u8), (22, (.slice T36)), (23, (.int .u16)), (26, T26), (28, T28), (30, T30), (31, (.slice T83)), (34, (.slice T52)), (36, T36), (39, (.int .i64)), (44, (.slice (.int .i64))), (52, T52), (68, T68), (75, (.slice T78)), (78, T78), (83, T83), (90, T90)], ptrs := [26] }
theorem tabOk : TabOk Try.prog tab := tabOk_of (.cons (by kernel_rfl) (by kernel_rfl) (by kernel_rfl) (.cons (by kernel_rfl) (by kernel_rfl) (by kernel_rfl) (.cons (by kernel_rfl) (by kernel_rfl) (by kernel_rfl) (.cons (by kernel_rfl) (by kernel_rfl) (by kernel_rfl) (.cons (by kernel_rfl) (by kernel_rfl) (by kernel_rfl) (.cons (by kernel_rfl) (by kernel_rfl) (by kernel_rfl) (.cons (by kernel_rfl) (by kernel_rfl) (by kernel_rfl) (.cons (by kernel_rfl) (by kernel_rfl) (by kernel_rfl) (.cons (by kernel_rfl) (by kernel_rfl) (by kernel_rfl) (.cons (by kernel_rfl) (by kernel_rfl) (by kernel_rfl) (.cons (by kernel_rfl) (by kernel_rfl) (by kernel_rfl) (.cons (by kernel_rfl) (by kernel_rfl) (by kernel_rfl) (.cons (by kernel_rfl) (by kernel_rfl) (by kernel_rfl) (.cons (by kernel_rfl) (by kernel_rfl) (by kernel_rfl) (.cons (by kernel_rfl) (by kernel_rfl) (by kernel_rfl) (.cons (by kernel_rfl) (by kernel_rfl) (by kernel_rfl) (.cons (by kernel_rfl) (by kernel_rfl) (by kernel_rfl) (.cons (by kernel_rfl) (by kernel_rfl) (by kernel_rfl) (.cons (by kernel_rfl) (by kernel_rfl) (by kernel_rfl) (.cons (by kernel_rfl) (by kernel_rfl) (by kernel_rfl) (trivial))))))))))))))))))))) (.cons (by kernel_rfl) (trivial))
abbrev T68D := Int × Int × Int × Bool × Unit
abbrev T26D := Tree Int T68D
abbrev T28D := T26D × Unit
abbrev T30D := T28D × Unit
abbrev T52D := Int × Int × Int × Unit
abbrev T36D := UInt8 × Int × Int × Int × Int × Bool × List T52D × Unit
abbrev T78D := Int × T68D × Unit
abbrev T83D := Int × T68D
abbrev T90D := T78D × T26D × T26D × Int × Int × Unit
-- cmp.isNaN[int64]
abbrev P53 : List PS := [.pure (.int .i64)]
abbrev R53 : List RS := [.pure .bool]
-- cmp.Compare[int64]
abbrev P46 : List PS := [.pure (.int .i64), .pure (.int .i64)]
abbrev R46 : List RS := [.pure (.int .i64)]
-- (decamp/order.Map[int64, decamp/lease.term]).Get
abbrev P30 : List PS := [.pure T28, .pure (.int .i64)]
abbrev R30 : List RS := [.pure T68, .pure .bool]
-- decamp/lease.times
abbrev P35 : List PS := [.pure (.int .i64)]
abbrev R35 : List RS := [.pure .bool]
-- decamp/lease.may
abbrev P32 : List PS := [.pure (.int .i64), .pure (.int .i64), .pure (.int .i64)]
abbrev R32 : List RS := [.pure .bool]
-- (*decamp/order.node[int64, decamp/lease.term]).size
abbrev P56 : List PS := [.pure T26]
abbrev R56 : List RS := [.pure (.int .i64)]
-- (decamp/order.Map[int64, decamp/lease.term]).Rank
abbrev P48 : List PS := [.pure T28, .pure (.int .i64)]
abbrev R48 : List RS := [.pure (.int .i64)]
-- (decamp/order.Map[int64, decamp/lease.term]).Len
abbrev P49 : List PS := [.pure T28]
abbrev R49 : List RS := [.pure (.int .i64)]
-- (decamp/lease.Table).many
abbrev P33 : List PS := [.pure T30, .pure .bool]
abbrev R33 : List RS := [.pure (.int .i64)]
-- (*decamp/order.node[int64, decamp/lease.term]).depth
abbrev P58 : List PS := [.pure T26]
abbrev R58 : List RS := [.pure (.int .i64)]
-- decamp/order.tree[int64,decamp/lease.term]
abbrev P57 : List PS := [.pure T78, .pure T26, .pure T26]
abbrev R57 : List RS := [.pure T26]
-- decamp/order.even[int64,decamp/lease.term]
abbrev P54 : List PS := [.pure T78, .pure T26, .pure T26]
abbrev R54 : List RS := [.pure T26]
-- (*decamp/order.node[int64, decamp/lease.term]).put
abbrev P50 : List PS := [.pure T26, .pure T78]
abbrev R50 : List RS := [.pure T26]
-- (decamp/order.Map[int64, decamp/lease.term]).Put
abbrev P34 : List PS := [.pure T28, .pure (.int .i64), .pure T68]
abbrev R34 : List RS := [.pure T28]
-- (decamp/lease.Table).Grant
abbrev P11 : List PS := [.pure T30, .pure (.int .i64), .pure (.int .i64), .pure (.int .i64)]
abbrev R11 : List RS := [.pure T30, .pure (.int .i64)]
-- (decamp/order.Map[int64, decamp/lease.term]).All$1
abbrev P52 : List PS := [.pure T78]
abbrev R52 : List RS := []
-- (decamp/order.Map[int64, decamp/lease.term]).All$1
abbrev P52a : List PS := [.pure T78, .obj (.slice T78) [true]]
abbrev R52a : List RS := []
-- (*decamp/order.node[int64, decamp/lease.term]).each
abbrev P51a : List PS := [.pure T26, .fnc 52 1, .obj (.slice T78) [true]]
abbrev R51a : List RS := []
-- (decamp/order.Map[int64, decamp/lease.term]).All
abbrev P36 : List PS := [.pure T28]
abbrev R36 : List RS := [.own true T78]
-- (decamp/lease.Table).Due
abbrev P14 : List PS := [.pure T30, .pure (.int .i64)]
abbrev R14 : List RS := [.own false (.int .i64)]
-- decamp/lease.told
abbrev P42 : List PS := [.pure (.int .i64), .pure T68, .pure (.int .i64)]
abbrev R42 : List RS := [.pure T52]
-- (decamp/lease.Table).Get
abbrev P19 : List PS := [.pure T30, .pure (.int .i64), .pure (.int .i64)]
abbrev R19 : List RS := [.pure T52, .pure .bool]
-- decamp/decamplaw16.awake
abbrev P7 : List PS := []
abbrev R7 : List RS := [.pure .bool]
-- decamp/decamplaw16.few
abbrev P8 : List PS := [.pure (.slice T36), .pure (.int .i64)]
abbrev R8 : List RS := [.pure .bool]
-- (*decamp/order.node[int64, decamp/lease.term]).least
abbrev P55 : List PS := [.pure T26]
abbrev R55 : List RS := [.pure T78, .pure T26]
-- (*decamp/order.node[int64, decamp/lease.term]).del
abbrev P47 : List PS := [.pure T26, .pure (.int .i64)]
abbrev R47 : List RS := [.pure T26]
-- (decamp/order.Map[int64, decamp/lease.term]).Del
abbrev P31 : List PS := [.pure T28, .pure (.int .i64)]
abbrev R31 : List RS := [.pure T28]
-- (decamp/lease.Table).Drop
abbrev P10 : List PS := [.pure T30, .pure (.int .i64)]
abbrev R10 : List RS := [.pure T30, .pure .bool]
-- (decamp/lease.Table).Keep
abbrev P12 : List PS := [.pure T30, .pure (.int .i64), .pure (.int .i64)]
abbrev R12 : List RS := [.pure T30, .pure (.int .i64)]
-- (decamp/lease.Table).Hold
abbrev P16 : List PS := [.pure T30, .pure (.int .i64)]
abbrev R16 : List RS := [.pure T30]
-- (decamp/lease.Table).Free
abbrev P17 : List PS := [.pure T30, .pure (.int .i64)]
abbrev R17 : List RS := [.pure T30]
-- (decamp/lease.Table).All
abbrev P18 : List PS := [.pure T30, .pure (.int .i64)]
abbrev R18 : List RS := [.own false T52]
-- decamp/decampref16.Time
abbrev P40 : List PS := [.pure (.int .i64)]
abbrev R40 : List RS := [.pure .bool]
-- decamp/decampref16.Free
abbrev P21 : List PS := [.pure (.slice T83), .pure (.int .i64)]
abbrev R21 : List RS := [.own false T83]
-- decamp/decampref16.Told
abbrev P41 : List PS := [.pure T83, .pure (.int .i64)]
abbrev R41 : List RS := [.pure T52]
-- decamp/decampref16.Hold
abbrev P22 : List PS := [.pure (.slice T83), .pure (.int .i64)]
abbrev R22 : List RS := [.own false T83]
-- decamp/decampref16.May
abbrev P43 : List PS := [.pure (.int .i64), .pure (.int .i64), .pure (.int .i64)]
abbrev R43 : List RS := [.pure .bool]
-- decamp/decampref16.At
abbrev P44 : List PS := [.pure (.slice T83), .pure (.int .i64)]
abbrev R44 : List RS := [.pure (.int .i64)]
-- decamp/decampref16.Set
abbrev P45 : List PS := [.pure (.slice T83), .pure T83]
abbrev R45 : List RS := [.own false T83]
-- decamp/decampref16.Grant
abbrev P23 : List PS := [.pure (.slice T83), .pure (.int .i64), .pure (.int .i64), .pure (.int .i64)]
abbrev R23 : List RS := [.own false T83, .pure (.int .i64)]
-- decamp/decampref16.Keep
abbrev P24 : List PS := [.pure (.slice T83), .pure (.int .i64), .pure (.int .i64)]
abbrev R24 : List RS := [.own false T83, .pure (.int .i64)]
-- decamp/decampref16.Drop
abbrev P25 : List PS := [.pure (.slice T83), .pure (.int .i64)]
abbrev R25 : List RS := [.own false T83]
-- (decamp/lease.Table).Set
abbrev P26 : List PS := [.pure T30, .pure (.slice T52), .pure (.int .i64)]
abbrev R26 : List RS := [.pure T30, .pure (.int .i64)]
-- decamp/decampref16.Replace
abbrev P27 : List PS := [.pure (.slice T83), .pure (.slice T52), .pure (.int .i64)]
abbrev R27 : List RS := [.own false T83, .pure .bool]
-- (decamp/lease.Table).Put
abbrev P28 : List PS := [.pure T30, .pure T52, .pure .bool, .pure (.int .i64)]
abbrev R28 : List RS := [.pure T30, .pure (.int .i64)]
-- decamp/decampref16.Put
abbrev P29 : List PS := [.pure (.slice T83), .pure T52, .pure .bool, .pure (.int .i64)]
abbrev R29 : List RS := [.own false T83, .pure .bool]
-- decamp/decamplaw16.do
abbrev P9 : List PS := [.pure T30, .pure (.slice T83), .pure T36]
abbrev R9 : List RS := [.pure T30, .pure (.slice T83), .pure .bool]
-- decamp/decamplaw16.has
abbrev P13 : List PS := [.pure (.slice (.int .i64)), .pure (.int .i64)]
abbrev R13 : List RS := [.pure .bool]
-- decamp/decamplaw16.LeaseLives
abbrev P3 : List PS := [.pure (.slice T36), .pure (.int .i64), .pure (.int .i64), .pure (.int .i64), .pure (.int .u16)]
abbrev R3 : List RS := [.pure .bool]
-- (decamp/lease.Table).Held
abbrev P20 : List PS := [.pure T30, .pure (.int .i64)]
abbrev R20 : List RS := [.pure .bool]
-- decamp/decampref16.Same
abbrev P37 : List PS := [.pure (.slice T52), .pure (.slice T52)]
abbrev R37 : List RS := [.pure .bool]
-- decamp/decampref16.All
abbrev P38 : List PS := [.pure (.slice T83), .pure (.int .i64)]
abbrev R38 : List RS := [.own false T52]
-- decamp/decampref16.Due
abbrev P39 : List PS := [.pure (.slice T83), .pure (.int .i64)]
abbrev R39 : List RS := [.own false (.int .i64)]
-- decamp/decamplaw16.Is
abbrev P15 : List PS := [.pure T30, .pure (.slice T83), .pure (.int .i64)]
abbrev R15 : List RS := [.pure .bool]
-- decamp/decamplaw16.LeasePlays
abbrev P4 : List PS := [.pure (.slice T36), .pure (.int .i64)]
abbrev R4 : List RS := [.pure .bool]
-- decamp/decamplaw16.LeaseHolds
abbrev P5 : List PS := [.pure (.slice T36), .pure (.int .i64), .pure (.int .i64)]
abbrev R5 : List RS := [.pure .bool]
-- decamp/decamplaw16.LeaseOwn
abbrev P6 : List PS := [.pure (.slice T36), .pure (.slice T36), .pure (.int .i64)]
abbrev R6 : List RS := [.pure .bool]
end Go.Proofs.Ytmgniagajmfhaaa
