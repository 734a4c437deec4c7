/-
  Remc: by a program of the bench (seat.py).
-/
import Derived.Test.YtgfdlapadghggaaGreatRows
import Derived.Test.YtgfdlapadghggaaGreatSxR
namespace Go.Proofs.YtgfdlapadghggaaGreat
open Go.Sx Go
abbrev T96 : Ty := (.pair .str (.pair (.int .i64) (.pair (.int .i64) (.pair (.int .i64) (.pair .str .unit)))))
abbrev T48 : Ty := (.pair (.int .i64) (.pair .str (.pair .str (.pair .str (.pair (.int .i64) .unit)))))
abbrev T66 : Ty := (.pair (.int .i64) (.pair (.int .i64) (.pair (.int .i64) (.pair (.int .i64) (.pair .str (.pair (.int .i64) (.pair .bool .unit)))))))
abbrev T70 : Ty := (.pair .str (.pair T66 .unit))
abbrev Y42 : Ty := (.pair (.int .i64) (.pair (.int .i64) .unit))
abbrev T51 : Ty := (.pair (.int .i64) (.pair (.int .i64) (.pair .bool (.pair (.int .i64) (.pair (.slice T70) Y42)))))
abbrev T94 : Ty := (.pair (.int .i64) (.pair (.int .i64) (.pair T51 .unit)))
abbrev T113 : Ty := (.pair (.int .i64) Y42)
abbrev T28 : Ty := (.pair (.int .i64) (.pair .str (.pair .str (.pair .str (.pair (.int .i64) (.pair (.int .i64) (.pair (.int .i64) (.pair (.slice T96) (.pair (.slice T48) (.pair (.slice T48) (.pair (.int .i64) (.pair (.int .i64) (.pair (.int .i64) (.pair .bool (.pair (.slice T70) (.pair (.slice T94) (.pair (.slice T113) .unit)))))))))))))))))
def tab : Tab := { tys := [(2, (.int .i64)), (3, (.int .i64)), (4, .bool), (5, .u8), (9, .str), (22, (.slice T96)), (23, (.slice T48)), (24, (.slice T70)), (25, (.slice T94)), (26, (.slice T113)), (28, T28), (42, Y42), (46, T66), (48, T70), (49, (.int .i64)), (51, T51), (53, T94), (55, T48), (57, T96), (76, (.slice .u8)), (82, T113), (89, (.slice (.int .i64))), (98, (.slice T66))], ptrs := [] }
theorem tabOk : TabOk Tryz.prog tab := tabOk_of (.cons (by kernel_rfl) (by kernel_rfl) (by kernel_rfl) (.cons (by kernel_rfl) (by kernel_rfl) (by kernel_rfl) (.cons (by kernel_rfl) (by kernel_rfl) (by kernel_rfl) (.cons (by kernel_rfl) (by kernel_rfl) (by kernel_rfl) (.cons (by kernel_rfl) (by kernel_rfl) (by kernel_rfl) (.cons (by kernel_rfl) (by kernel_rfl) (by kernel_rfl) (.cons (by kernel_rfl) (by kernel_rfl) (by kernel_rfl) (.cons (by kernel_rfl) (by kernel_rfl) (by kernel_rfl) (.cons (by kernel_rfl) (by kernel_rfl) (by kernel_rfl) (.cons (by kernel_rfl) (by kernel_rfl) (by kernel_rfl) (.cons (by kernel_rfl) (by kernel_rfl) (by kernel_rfl) (.cons (by kernel_rfl) (by kernel_rfl) (by kernel_rfl) (.cons (by kernel_rfl) (by kernel_rfl) (by kernel_rfl) (.cons (by kernel_rfl) (by kernel_rfl) (by kernel_rfl) (.cons (by kernel_rfl) (by kernel_rfl) (by kernel_rfl) (.cons (by kernel_rfl) (by kernel_rfl) (by kernel_rfl) (.cons (by kernel_rfl) (by kernel_rfl) (by kernel_rfl) (.cons (by kernel_rfl) (by kernel_rfl) (by kernel_rfl) (.cons (by kernel_rfl) (by kernel_rfl) (by kernel_rfl) (.cons (by kernel_rfl) (by kernel_rfl) (by kernel_rfl) (.cons (by kernel_rfl) (by kernel_rfl) (by kernel_rfl) (.cons (by kernel_rfl) (by kernel_rfl) (by kernel_rfl) (.cons (by kernel_rfl) (by kernel_rfl) (by kernel_rfl) (trivial)))))))))))))))))))))))) (trivial)
abbrev T96D := List UInt8 × Int × Int × Int × List UInt8 × Unit
abbrev T48D := Int × List UInt8 × List UInt8 × List UInt8 × Int × Unit
abbrev T66D := Int × Int × Int × Int × List UInt8 × Int × Bool × Unit
abbrev T70D := List UInt8 × T66D × Unit
abbrev Y42D := Int × Int × Unit
abbrev T51D := Int × Int × Bool × Int × List T70D × Y42D
abbrev T94D := Int × Int × T51D × Unit
abbrev T113D := Int × Y42D
abbrev T28D := Int × List UInt8 × List UInt8 × List UInt8 × Int × Int × Int × List T96D × List T48D × List T48D × Int × Int × Int × Bool × List T70D × List T94D × List T113D × Unit
-- decamp/index.text
abbrev P63 : List PS := [.pure .str, .pure .u8]
abbrev R63 : List RS := [.pure .bool]
-- decamp/index.Key
abbrev P42 : List PS := [.pure .str]
abbrev R42 : List RS := [.pure .bool]
-- decamp/cmd.Prefix
abbrev P41 : List PS := [.pure .str]
abbrev R41 : List RS := [.pure .bool]
-- internal/stringslite.HasPrefix
abbrev P78 : List PS := [.pure .str, .pure .str]
abbrev R78 : List RS := [.pure .bool]
-- strings.HasPrefix
abbrev P53 : List PS := [.pure .str, .pure .str]
abbrev R53 : List RS := [.pure .bool]
-- decamp/remap.Under
abbrev P40 : List PS := [.pure .str, .pure .str]
abbrev R40 : List RS := [.pure .bool]
-- decamp/remap.Key
abbrev P13 : List PS := [.pure .str, .pure .str, .pure .str]
abbrev R13 : List RS := [.pure .str, .pure .bool]
-- decamp/remap.number
abbrev P44 : List PS := [.pure (.int .i64)]
abbrev R44 : List RS := [.pure .bool]
-- (decamp/remap.Count).Right
abbrev P43 : List PS := [.pure Y42]
abbrev R43 : List RS := [.pure .bool]
-- (decamp/remap.Count).Client
abbrev P14 : List PS := [.pure Y42, .pure (.int .i64)]
abbrev R14 : List RS := [.pure (.int .i64), .pure .bool]
-- decamp/remap.End
abbrev P15 : List PS := [.pure .str]
abbrev R15 : List RS := [.pure .str]
-- decamp/decamplaw18.awake
abbrev P4 : List PS := []
abbrev R4 : List RS := [.pure .bool]
-- decamp/decampref17.Few
abbrev P5 : List PS := [.pure T28]
abbrev R5 : List RS := [.pure .bool]
-- slices.Equal[[]decamp/api.Cmp,decamp/api.Cmp]
abbrev P64 : List PS := [.pure (.slice T96), .pure (.slice T96)]
abbrev R64 : List RS := [.pure .bool]
-- slices.Equal[[]decamp/api.Op,decamp/api.Op]
abbrev P65 : List PS := [.pure (.slice T48), .pure (.slice T48)]
abbrev R65 : List RS := [.pure .bool]
-- slices.Equal[[]decamp/api.Item,decamp/api.Item]
abbrev P80 : List PS := [.pure (.slice T70), .pure (.slice T70)]
abbrev R80 : List RS := [.pure .bool]
-- decamp/cmd.sameItems
abbrev P66 : List PS := [.pure (.slice T70), .pure (.slice T70)]
abbrev R66 : List RS := [.pure .bool]
-- decamp/cmd.SameReply
abbrev P83 : List PS := [.pure T51, .pure T51]
abbrev R83 : List RS := [.pure .bool]
-- decamp/cmd.sameSess$1
abbrev P82 : List PS := [.pure T94, .pure T94]
abbrev R82 : List RS := [.pure .bool]
-- slices.EqualFunc[[]decamp/api.Sess,[]decamp/api.Sess,decamp/api.Sess,decamp/api.Sess]
abbrev P81a : List PS := [.pure (.slice T94), .pure (.slice T94), .fnc 82 0]
abbrev R81a : List RS := [.pure .bool]
-- decamp/cmd.sameSess
abbrev P67 : List PS := [.pure (.slice T94), .pure (.slice T94)]
abbrev R67 : List RS := [.pure .bool]
-- slices.Equal[[]decamp/api.Lease,decamp/api.Lease]
abbrev P68 : List PS := [.pure (.slice T113), .pure (.slice T113)]
abbrev R68 : List RS := [.pure .bool]
-- decamp/cmd.Same
abbrev P45 : List PS := [.pure T28, .pure T28]
abbrev R45 : List RS := [.pure .bool]
-- decamp/cmd.keepClient
abbrev P69 : List PS := [.pure T28]
abbrev R69 : List RS := [.pure T28]
-- decamp/cmd.keep
abbrev P46 : List PS := [.pure T28]
abbrev R46 : List RS := [.pure T28]
-- decamp/cmd.within
abbrev P72 : List PS := [.pure (.int .i64), .pure (.int .i64), .pure (.int .i64)]
abbrev R72 : List RS := [.pure .bool]
-- decamp/cmd.positive$1
abbrev P74 : List PS := [.pure (.int .i64)]
abbrev R74 : List RS := [.pure .bool]
-- slices.IndexFunc[[]int64,int64]
abbrev P89a : List PS := [.pure (.slice (.int .i64)), .fnc 74 0]
abbrev R89a : List RS := [.pure (.int .i64)]
-- slices.ContainsFunc[[]int64,int64]
abbrev P73a : List PS := [.pure (.slice (.int .i64)), .fnc 74 0]
abbrev R73a : List RS := [.pure .bool]
-- decamp/cmd.positive
abbrev P48 : List PS := [.pure (.slice (.int .i64))]
abbrev R48 : List RS := [.pure .bool]
-- decamp/index.Range
abbrev P52 : List PS := [.pure .str, .pure .str]
abbrev R52 : List RS := [.pure .bool]
-- decamp/cmd.natural$1
abbrev P92 : List PS := [.pure (.int .i64)]
abbrev R92 : List RS := [.pure .bool]
-- slices.IndexFunc[[]int64,int64]
abbrev P89b : List PS := [.pure (.slice (.int .i64)), .fnc 92 0]
abbrev R89b : List RS := [.pure (.int .i64)]
-- slices.ContainsFunc[[]int64,int64]
abbrev P73b : List PS := [.pure (.slice (.int .i64)), .fnc 92 0]
abbrev R73b : List RS := [.pure .bool]
-- decamp/cmd.natural
abbrev P84 : List PS := [.pure (.slice (.int .i64))]
abbrev R84 : List RS := [.pure .bool]
-- decamp/cmd.put
abbrev P70 : List PS := [.pure .str, .pure .str, .pure (.int .i64)]
abbrev R70 : List RS := [.pure .bool]
-- decamp/cmd.rightCmp
abbrev P87 : List PS := [.pure T96]
abbrev R87 : List RS := [.pure .bool]
-- decamp/cmd.rightTxn$1
abbrev P86 : List PS := [.pure T96]
abbrev R86 : List RS := [.pure .bool]
-- slices.IndexFunc[[]decamp/api.Cmp,decamp/api.Cmp]
abbrev P93a : List PS := [.pure (.slice T96), .fnc 86 0]
abbrev R93a : List RS := [.pure (.int .i64)]
-- slices.ContainsFunc[[]decamp/api.Cmp,decamp/api.Cmp]
abbrev P85a : List PS := [.pure (.slice T96), .fnc 86 0]
abbrev R85a : List RS := [.pure .bool]
-- decamp/cmd.rightOp
abbrev P94 : List PS := [.pure T48]
abbrev R94 : List RS := [.pure .bool]
-- decamp/index.In
abbrev P102 : List PS := [.pure .str, .pure .str, .pure .str]
abbrev R102 : List RS := [.pure .bool]
-- decamp/cmd.meet
abbrev P97 : List PS := [.pure T48, .pure T48]
abbrev R97 : List RS := [.pure .bool]
-- decamp/cmd.rightOps$1
abbrev P96 : List PS := [.pure T48]
abbrev R96 : List RS := [.pure .bool]
-- decamp/cmd.rightOps$1
abbrev P96a : List PS := [.pure T48, .obj T48 [false, false, false, false, false]]
abbrev R96a : List RS := [.pure .bool]
-- slices.IndexFunc[[]decamp/api.Op,decamp/api.Op]
abbrev P101a : List PS := [.pure (.slice T48), .fnc 96 1, .obj T48 [false, false, false, false, false]]
abbrev R101a : List RS := [.pure (.int .i64)]
-- slices.ContainsFunc[[]decamp/api.Op,decamp/api.Op]
abbrev P95a : List PS := [.pure (.slice T48), .fnc 96 1, .obj T48 [false, false, false, false, false]]
abbrev R95a : List RS := [.pure .bool]
-- decamp/cmd.rightOps
abbrev P88 : List PS := [.pure (.slice T48)]
abbrev R88 : List RS := [.pure .bool]
-- decamp/cmd.rightTxn
abbrev P71 : List PS := [.pure T28]
abbrev R71 : List RS := [.pure .bool]
-- decamp/cmd.rightClient
abbrev P47 : List PS := [.pure T28]
abbrev R47 : List RS := [.pure .bool]
-- decamp/hist.number
abbrev P103 : List PS := [.pure (.int .i64)]
abbrev R103 : List RS := [.pure .bool]
-- decamp/hist.right
abbrev P98 : List PS := [.pure T66]
abbrev R98 : List RS := [.pure .bool]
-- decamp/hist.Right
abbrev P90 : List PS := [.pure (.slice T66)]
abbrev R90 : List RS := [.pure .bool]
-- decamp/cmd.version
abbrev P75 : List PS := [.pure T66]
abbrev R75 : List RS := [.pure .bool]
-- decamp/cmd.rightPage
abbrev P49 : List PS := [.pure T28]
abbrev R49 : List RS := [.pure .bool]
-- decamp/cmd.rightTail
abbrev P50 : List PS := [.pure T28]
abbrev R50 : List RS := [.pure .bool]
-- decamp/cmd.RightReply$1
abbrev P100 : List PS := [.pure T70]
abbrev R100 : List RS := [.pure .bool]
-- slices.IndexFunc[[]decamp/api.Item,decamp/api.Item]
abbrev P104a : List PS := [.pure (.slice T70), .fnc 100 0]
abbrev R104a : List RS := [.pure (.int .i64)]
-- slices.ContainsFunc[[]decamp/api.Item,decamp/api.Item]
abbrev P99a : List PS := [.pure (.slice T70), .fnc 100 0]
abbrev R99a : List RS := [.pure .bool]
-- decamp/cmd.RightReply
abbrev P91 : List PS := [.pure T51]
abbrev R91 : List RS := [.pure .bool]
-- decamp/cmd.rightSess
abbrev P76 : List PS := [.pure (.slice T94), .pure (.int .i64)]
abbrev R76 : List RS := [.pure .bool]
-- decamp/cmd.rightLeases
abbrev P77 : List PS := [.pure (.slice T113)]
abbrev R77 : List RS := [.pure .bool]
-- decamp/cmd.handed
abbrev P51 : List PS := [.pure (.slice T94), .pure (.slice T113)]
abbrev R51 : List RS := [.pure .bool]
-- decamp/cmd.Right
abbrev P16 : List PS := [.pure T28]
abbrev R16 : List RS := [.pure .bool]
-- decamp/remap.Range
abbrev P17 : List PS := [.pure .str, .pure .str, .pure .str, .pure .str]
abbrev R17 : List RS := [.pure .str, .pure .str, .pure .bool]
-- decamp/remap.cmps
abbrev P18 : List PS := [.pure .str, .pure .str, .pure (.slice T96)]
abbrev R18 : List RS := [.own false T96, .pure .bool]
-- decamp/remap.ops
abbrev P19 : List PS := [.pure .str, .pure .str, .pure (.slice T48)]
abbrev R19 : List RS := [.own false T48, .pure .bool]
-- decamp/remap.Cmd
abbrev P6 : List PS := [.pure .str, .pure .str, .pure T28]
abbrev R6 : List RS := [.pure T28, .pure .bool]
-- decamp/decampref17.bare
abbrev P27 : List PS := [.pure T28]
abbrev R27 : List RS := [.pure .bool]
-- decamp/decampref17.within
abbrev P34 : List PS := [.pure (.int .i64), .pure (.int .i64), .pure (.int .i64)]
abbrev R34 : List RS := [.pure .bool]
-- decamp/decampref17.one
abbrev P28 : List PS := [.pure (.int .i64)]
abbrev R28 : List RS := [.pure .bool]
-- decamp/decampref15.text
abbrev P58 : List PS := [.pure .str, .pure .u8]
abbrev R58 : List RS := [.pure .bool]
-- decamp/decampref15.Key
abbrev P29 : List PS := [.pure .str]
abbrev R29 : List RS := [.pure .bool]
-- decamp/decampref17.natural
abbrev P30 : List PS := [.pure (.int .i64)]
abbrev R30 : List RS := [.pure .bool]
-- decamp/decampref15.Range
abbrev P31 : List PS := [.pure .str, .pure .str]
abbrev R31 : List RS := [.pure .bool]
-- decamp/decampref17.cmps
abbrev P32 : List PS := [.pure (.slice T96)]
abbrev R32 : List RS := [.pure .bool]
-- decamp/decampref17.op
abbrev P59 : List PS := [.pure T48]
abbrev R59 : List RS := [.pure .bool]
-- decamp/decampref15.In
abbrev P79 : List PS := [.pure .str, .pure .str, .pure .str]
abbrev R79 : List RS := [.pure .bool]
-- decamp/decampref17.meet
abbrev P60 : List PS := [.pure T48, .pure T48]
abbrev R60 : List RS := [.pure .bool]
-- decamp/decampref17.ops
abbrev P33 : List PS := [.pure (.slice T48)]
abbrev R33 : List RS := [.pure .bool]
-- decamp/decampref17.Prefix
abbrev P35 : List PS := [.pure .str]
abbrev R35 : List RS := [.pure .bool]
-- decamp/decampref14.Ver
abbrev P61 : List PS := [.pure T66]
abbrev R61 : List RS := [.pure .bool]
-- decamp/decampref17.page
abbrev P36 : List PS := [.pure T28]
abbrev R36 : List RS := [.pure .bool]
-- decamp/decampref17.tail
abbrev P37 : List PS := [.pure T28]
abbrev R37 : List RS := [.pure .bool]
-- decamp/decampref17.Reply
abbrev P62 : List PS := [.pure T51]
abbrev R62 : List RS := [.pure .bool]
-- decamp/decampref17.Sess
abbrev P38 : List PS := [.pure (.slice T94), .pure (.int .i64)]
abbrev R38 : List RS := [.pure .bool]
-- decamp/decampref17.leases
abbrev P39 : List PS := [.pure (.slice T113)]
abbrev R39 : List RS := [.pure .bool]
-- decamp/decampref17.Right
abbrev P9 : List PS := [.pure T28]
abbrev R9 : List RS := [.pure .bool]
-- decamp/decampref18.begins
abbrev P55 : List PS := [.pure .str, .pure .str]
abbrev R55 : List RS := [.pure .bool]
-- decamp/decampref18.Under
abbrev P56 : List PS := [.pure .str, .pure .str]
abbrev R56 : List RS := [.pure .bool]
-- decamp/decampref18.Key
abbrev P21 : List PS := [.pure .str, .pure .str, .pure .str]
abbrev R21 : List RS := [.pure .str, .pure .bool]
-- decamp/decampref18.End
abbrev P54 : List PS := [.pure .str]
abbrev R54 : List RS := [.pure .str]
-- decamp/decampref18.Range
abbrev P20 : List PS := [.pure .str, .pure .str, .pure .str, .pure .str]
abbrev R20 : List RS := [.pure .str, .pure .str, .pure .bool]
-- decamp/decampref18.ops
abbrev P22 : List PS := [.pure .str, .pure .str, .pure (.slice T48)]
abbrev R22 : List RS := [.own false T48, .pure .bool]
-- decamp/decampref18.Cmd
abbrev P7 : List PS := [.pure .str, .pure .str, .pure T28]
abbrev R7 : List RS := [.pure T28, .pure .bool]
-- decamp/decampref15.SameItems
abbrev P12 : List PS := [.pure (.slice T70), .pure (.slice T70)]
abbrev R12 : List RS := [.pure .bool]
-- decamp/decampref17.sameCmps
abbrev P23 : List PS := [.pure (.slice T96), .pure (.slice T96)]
abbrev R23 : List RS := [.pure .bool]
-- decamp/decampref17.sameOps
abbrev P24 : List PS := [.pure (.slice T48), .pure (.slice T48)]
abbrev R24 : List RS := [.pure .bool]
-- decamp/decampref17.SameReply
abbrev P57 : List PS := [.pure T51, .pure T51]
abbrev R57 : List RS := [.pure .bool]
-- decamp/decampref17.SameSess
abbrev P25 : List PS := [.pure (.slice T94), .pure (.slice T94)]
abbrev R25 : List RS := [.pure .bool]
-- decamp/decampref17.SameLeases
abbrev P26 : List PS := [.pure (.slice T113), .pure (.slice T113)]
abbrev R26 : List RS := [.pure .bool]
-- decamp/decampref17.Same
abbrev P8 : List PS := [.pure T28, .pure T28]
abbrev R8 : List RS := [.pure .bool]
-- decamp/remap.Items
abbrev P10 : List PS := [.pure .str, .pure .str, .pure (.slice T70)]
abbrev R10 : List RS := [.own false T70, .pure .bool]
-- decamp/decampref18.Items
abbrev P11 : List PS := [.pure .str, .pure .str, .pure (.slice T70)]
abbrev R11 : List RS := [.own false T70, .pure .bool]
-- decamp/decamplaw18.RemapCmds
abbrev P3 : List PS := [.pure .str, .pure .str, .pure T28, .pure (.slice T70)]
abbrev R3 : List RS := [.pure .bool]
end Go.Proofs.YtgfdlapadghggaaGreat
