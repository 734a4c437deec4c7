/-
  Cmd: by a program of the bench (seat.py).
-/
import Derived.Test.YthafmmjfijpalaaGreatRows
import Derived.Test.YthafmmjfijpalaaGreatSxR
namespace Go.Proofs.YthafmmjfijpalaaGreat
open Go.Sx Go
abbrev T96 : Ty := (.pair .str (.pair (.int .i64) (.pair (.int .i64) (.pair (.int .i64) (.pair .str .unit)))))
abbrev T48 : Ty := (.pair (.int .i64) (.pair .str (.pair .str (.pair .str (.pair (.int .i64) .unit)))))
abbrev T66 : Ty := (.pair (.int .i64) (.pair (.int .i64) (.pair (.int .i64) (.pair (.int .i64) (.pair .str (.pair (.int .i64) (.pair .bool .unit)))))))
abbrev T70 : Ty := (.pair .str (.pair T66 .unit))
abbrev T51 : Ty := (.pair (.int .i64) (.pair (.int .i64) (.pair .bool (.pair (.int .i64) (.pair (.slice T70) (.pair (.int .i64) (.pair (.int .i64) .unit)))))))
abbrev T94 : Ty := (.pair (.int .i64) (.pair (.int .i64) (.pair T51 .unit)))
abbrev T113 : Ty := (.pair (.int .i64) (.pair (.int .i64) (.pair (.int .i64) .unit)))
abbrev T28 : Ty := (.pair (.int .i64) (.pair .str (.pair .str (.pair .str (.pair (.int .i64) (.pair (.int .i64) (.pair (.int .i64) (.pair (.slice T96) (.pair (.slice T48) (.pair (.slice T48) (.pair (.int .i64) (.pair (.int .i64) (.pair (.int .i64) (.pair .bool (.pair (.slice T70) (.pair (.slice T94) (.pair (.slice T113) .unit)))))))))))))))))
abbrev T33 : Ty := (.pair (.int .i64) (.pair (.int .i64) (.pair T28 .unit)))
abbrev T53 : Ty := (.pair (.int .i64) (.pair (.int .i64) (.pair (.int .i64) (.pair .str (.pair .str (.pair (.int .i64) (.pair .str T113)))))))
abbrev T55 : Ty := (.pair (.int .i64) (.pair (.int .i64) (.pair (.slice T94) (.pair (.slice T113) .unit))))
abbrev T83 : Ty := (.pair (.slice .u8) .unit)
abbrev T131 : Ty := (.pair (.slice .u8) (.pair .bool .unit))
def tab : Tab := { tys := [(2, (.int .i64)), (3, (.int .i64)), (4, .bool), (5, .u8), (9, .str), (22, (.slice T96)), (23, (.slice T48)), (24, (.slice T70)), (25, (.slice T94)), (26, (.slice T113)), (28, T28), (33, T33), (35, T33), (38, (.slice .u8)), (39, (.int .i64)), (48, T48), (51, T51), (53, T53), (55, T55), (66, T66), (70, T70), (83, T83), (94, T94), (96, T96), (113, T113), (131, T131), (137, (.slice (.int .i64))), (151, (.int .u64)), (152, (.slice .str)), (155, (.slice (.slice .u8))), (163, (.slice T66))], ptrs := [63, 85] }
theorem tabOk : TabOk Tryz.prog tab := tabOk_of (.cons (by kernel_rfl) (by kernel_rfl) (by kernel_rfl) (.cons (by kernel_rfl) (by kernel_rfl) (by kernel_rfl) (.cons (by kernel_rfl) (by kernel_rfl) (by kernel_rfl) (.cons (by kernel_rfl) (by kernel_rfl) (by kernel_rfl) (.cons (by kernel_rfl) (by kernel_rfl) (by kernel_rfl) (.cons (by kernel_rfl) (by kernel_rfl) (by kernel_rfl) (.cons (by kernel_rfl) (by kernel_rfl) (by kernel_rfl) (.cons (by kernel_rfl) (by kernel_rfl) (by kernel_rfl) (.cons (by kernel_rfl) (by kernel_rfl) (by kernel_rfl) (.cons (by kernel_rfl) (by kernel_rfl) (by kernel_rfl) (.cons (by kernel_rfl) (by kernel_rfl) (by kernel_rfl) (.cons (by kernel_rfl) (by kernel_rfl) (by kernel_rfl) (.cons (by kernel_rfl) (by kernel_rfl) (by kernel_rfl) (.cons (by kernel_rfl) (by kernel_rfl) (by kernel_rfl) (.cons (by kernel_rfl) (by kernel_rfl) (by kernel_rfl) (.cons (by kernel_rfl) (by kernel_rfl) (by kernel_rfl) (.cons (by kernel_rfl) (by kernel_rfl) (by kernel_rfl) (.cons (by kernel_rfl) (by kernel_rfl) (by kernel_rfl) (.cons (by kernel_rfl) (by kernel_rfl) (by kernel_rfl) (.cons (by kernel_rfl) (by kernel_rfl) (by kernel_rfl) (.cons (by kernel_rfl) (by kernel_rfl) (by kernel_rfl) (.cons (by kernel_rfl) (by kernel_rfl) (by kernel_rfl) (.cons (by kernel_rfl) (by kernel_rfl) (by kernel_rfl) (.cons (by kernel_rfl) (by kernel_rfl) (by kernel_rfl) (.cons (by kernel_rfl) (by kernel_rfl) (by kernel_rfl) (.cons (by kernel_rfl) (by kernel_rfl) (by kernel_rfl) (.cons (by kernel_rfl) (by kernel_rfl) (by kernel_rfl) (.cons (by kernel_rfl) (by kernel_rfl) (by kernel_rfl) (.cons (by kernel_rfl) (by kernel_rfl) (by kernel_rfl) (.cons (by kernel_rfl) (by kernel_rfl) (by kernel_rfl) (.cons (by kernel_rfl) (by kernel_rfl) (by kernel_rfl) (trivial)))))))))))))))))))))))))))))))) (.cons (by kernel_rfl) (.cons (by kernel_rfl) (trivial)))
abbrev T96D := List UInt8 × Int × Int × Int × List UInt8 × Unit
abbrev T48D := Int × List UInt8 × List UInt8 × List UInt8 × Int × Unit
abbrev T66D := Int × Int × Int × Int × List UInt8 × Int × Bool × Unit
abbrev T70D := List UInt8 × T66D × Unit
abbrev T51D := Int × Int × Bool × Int × List T70D × Int × Int × Unit
abbrev T94D := Int × Int × T51D × Unit
abbrev T113D := Int × Int × Int × Unit
abbrev T28D := Int × List UInt8 × List UInt8 × List UInt8 × Int × Int × Int × List T96D × List T48D × List T48D × Int × Int × Int × Bool × List T70D × List T94D × List T113D × Unit
abbrev T33D := Int × Int × T28D × Unit
abbrev T53D := Int × Int × Int × List UInt8 × List UInt8 × Int × List UInt8 × T113D
abbrev T55D := Int × Int × List T94D × List T113D × Unit
abbrev T83D := List UInt8 × Unit
abbrev T131D := List UInt8 × Bool × Unit
-- slices.Equal[[]decamp/api.Cmp,decamp/api.Cmp]
abbrev P73 : List PS := [.pure (.slice T96), .pure (.slice T96)]
abbrev R73 : List RS := [.pure .bool]
-- slices.Equal[[]decamp/api.Op,decamp/api.Op]
abbrev P74 : List PS := [.pure (.slice T48), .pure (.slice T48)]
abbrev R74 : List RS := [.pure .bool]
-- slices.Equal[[]decamp/api.Item,decamp/api.Item]
abbrev P126 : List PS := [.pure (.slice T70), .pure (.slice T70)]
abbrev R126 : List RS := [.pure .bool]
-- decamp/cmd.sameItems
abbrev P75 : List PS := [.pure (.slice T70), .pure (.slice T70)]
abbrev R75 : List RS := [.pure .bool]
-- decamp/cmd.SameReply
abbrev P26 : List PS := [.pure T51, .pure T51]
abbrev R26 : List RS := [.pure .bool]
-- decamp/cmd.sameSess$1
abbrev P128 : List PS := [.pure T94, .pure T94]
abbrev R128 : List RS := [.pure .bool]
-- slices.EqualFunc[[]decamp/api.Sess,[]decamp/api.Sess,decamp/api.Sess,decamp/api.Sess]
abbrev P127a : List PS := [.pure (.slice T94), .pure (.slice T94), .fnc 128 0]
abbrev R127a : List RS := [.pure .bool]
-- decamp/cmd.sameSess
abbrev P76 : List PS := [.pure (.slice T94), .pure (.slice T94)]
abbrev R76 : List RS := [.pure .bool]
-- slices.Equal[[]decamp/api.Lease,decamp/api.Lease]
abbrev P77 : List PS := [.pure (.slice T113), .pure (.slice T113)]
abbrev R77 : List RS := [.pure .bool]
-- decamp/cmd.Same
abbrev P16 : List PS := [.pure T28, .pure T28]
abbrev R16 : List RS := [.pure .bool]
-- decamp/index.text
abbrev P137 : List PS := [.pure .str, .pure .u8]
abbrev R137 : List RS := [.pure .bool]
-- decamp/index.Key
abbrev P95 : List PS := [.pure .str]
abbrev R95 : List RS := [.pure .bool]
-- decamp/cmd.Prefix
abbrev P22 : List PS := [.pure .str]
abbrev R22 : List RS := [.pure .bool]
-- decamp/cmd.keepClient
abbrev P116 : List PS := [.pure T28]
abbrev R116 : List RS := [.pure T28]
-- decamp/cmd.keep
abbrev P55 : List PS := [.pure T28]
abbrev R55 : List RS := [.pure T28]
-- decamp/cmd.within
abbrev P72 : List PS := [.pure (.int .i64), .pure (.int .i64), .pure (.int .i64)]
abbrev R72 : List RS := [.pure .bool]
-- decamp/cmd.positive$1
abbrev P121 : List PS := [.pure (.int .i64)]
abbrev R121 : List RS := [.pure .bool]
-- slices.IndexFunc[[]int64,int64]
abbrev P148a : List PS := [.pure (.slice (.int .i64)), .fnc 121 0]
abbrev R148a : List RS := [.pure (.int .i64)]
-- slices.ContainsFunc[[]int64,int64]
abbrev P120a : List PS := [.pure (.slice (.int .i64)), .fnc 121 0]
abbrev R120a : List RS := [.pure .bool]
-- decamp/cmd.positive
abbrev P57 : List PS := [.pure (.slice (.int .i64))]
abbrev R57 : List RS := [.pure .bool]
-- decamp/cmd.natural$1
abbrev P138 : List PS := [.pure (.int .i64)]
abbrev R138 : List RS := [.pure .bool]
-- slices.IndexFunc[[]int64,int64]
abbrev P148b : List PS := [.pure (.slice (.int .i64)), .fnc 138 0]
abbrev R148b : List RS := [.pure (.int .i64)]
-- slices.ContainsFunc[[]int64,int64]
abbrev P120b : List PS := [.pure (.slice (.int .i64)), .fnc 138 0]
abbrev R120b : List RS := [.pure .bool]
-- decamp/cmd.natural
abbrev P96 : List PS := [.pure (.slice (.int .i64))]
abbrev R96 : List RS := [.pure .bool]
-- decamp/cmd.put
abbrev P117 : List PS := [.pure .str, .pure .str, .pure (.int .i64)]
abbrev R117 : List RS := [.pure .bool]
-- decamp/index.Range
abbrev P118 : List PS := [.pure .str, .pure .str]
abbrev R118 : List RS := [.pure .bool]
-- decamp/cmd.rightCmp
abbrev P146 : List PS := [.pure T96]
abbrev R146 : List RS := [.pure .bool]
-- decamp/cmd.rightTxn$1
abbrev P145 : List PS := [.pure T96]
abbrev R145 : List RS := [.pure .bool]
-- slices.IndexFunc[[]decamp/api.Cmp,decamp/api.Cmp]
abbrev P151a : List PS := [.pure (.slice T96), .fnc 145 0]
abbrev R151a : List RS := [.pure (.int .i64)]
-- slices.ContainsFunc[[]decamp/api.Cmp,decamp/api.Cmp]
abbrev P144a : List PS := [.pure (.slice T96), .fnc 145 0]
abbrev R144a : List RS := [.pure .bool]
-- decamp/cmd.rightOp
abbrev P152 : List PS := [.pure T48]
abbrev R152 : List RS := [.pure .bool]
-- decamp/index.In
abbrev P158 : List PS := [.pure .str, .pure .str, .pure .str]
abbrev R158 : List RS := [.pure .bool]
-- decamp/cmd.meet
abbrev P155 : List PS := [.pure T48, .pure T48]
abbrev R155 : List RS := [.pure .bool]
-- decamp/cmd.rightOps$1
abbrev P154 : List PS := [.pure T48]
abbrev R154 : List RS := [.pure .bool]
-- decamp/cmd.rightOps$1
abbrev P154a : List PS := [.pure T48, .obj T48 [false, false, false, false, false]]
abbrev R154a : List RS := [.pure .bool]
-- slices.IndexFunc[[]decamp/api.Op,decamp/api.Op]
abbrev P157a : List PS := [.pure (.slice T48), .fnc 154 1, .obj T48 [false, false, false, false, false]]
abbrev R157a : List RS := [.pure (.int .i64)]
-- slices.ContainsFunc[[]decamp/api.Op,decamp/api.Op]
abbrev P153a : List PS := [.pure (.slice T48), .fnc 154 1, .obj T48 [false, false, false, false, false]]
abbrev R153a : List RS := [.pure .bool]
-- decamp/cmd.rightOps
abbrev P147 : List PS := [.pure (.slice T48)]
abbrev R147 : List RS := [.pure .bool]
-- decamp/cmd.rightTxn
abbrev P119 : List PS := [.pure T28]
abbrev R119 : List RS := [.pure .bool]
-- decamp/cmd.rightClient
abbrev P56 : List PS := [.pure T28]
abbrev R56 : List RS := [.pure .bool]
-- decamp/hist.number
abbrev P156 : List PS := [.pure (.int .i64)]
abbrev R156 : List RS := [.pure .bool]
-- decamp/hist.right
abbrev P150 : List PS := [.pure T66]
abbrev R150 : List RS := [.pure .bool]
-- decamp/hist.Right
abbrev P140 : List PS := [.pure (.slice T66)]
abbrev R140 : List RS := [.pure .bool]
-- decamp/cmd.version
abbrev P99 : List PS := [.pure T66]
abbrev R99 : List RS := [.pure .bool]
-- decamp/cmd.rightPage
abbrev P58 : List PS := [.pure T28]
abbrev R58 : List RS := [.pure .bool]
-- decamp/cmd.rightTail
abbrev P59 : List PS := [.pure T28]
abbrev R59 : List RS := [.pure .bool]
-- decamp/cmd.RightReply$1
abbrev P98 : List PS := [.pure T70]
abbrev R98 : List RS := [.pure .bool]
-- slices.IndexFunc[[]decamp/api.Item,decamp/api.Item]
abbrev P139a : List PS := [.pure (.slice T70), .fnc 98 0]
abbrev R139a : List RS := [.pure (.int .i64)]
-- slices.ContainsFunc[[]decamp/api.Item,decamp/api.Item]
abbrev P97a : List PS := [.pure (.slice T70), .fnc 98 0]
abbrev R97a : List RS := [.pure .bool]
-- decamp/cmd.RightReply
abbrev P24 : List PS := [.pure T51]
abbrev R24 : List RS := [.pure .bool]
-- decamp/cmd.rightSess
abbrev P122 : List PS := [.pure (.slice T94), .pure (.int .i64)]
abbrev R122 : List RS := [.pure .bool]
-- decamp/cmd.rightLeases
abbrev P123 : List PS := [.pure (.slice T113)]
abbrev R123 : List RS := [.pure .bool]
-- decamp/cmd.handed
abbrev P60 : List PS := [.pure (.slice T94), .pure (.slice T113)]
abbrev R60 : List RS := [.pure .bool]
-- decamp/cmd.Right
abbrev P12 : List PS := [.pure T28]
abbrev R12 : List RS := [.pure .bool]
-- decamp/cmd.RightJob
abbrev P14 : List PS := [.pure T33]
abbrev R14 : List RS := [.pure .bool]
-- bytes.Clone
abbrev P101 : List PS := [.pure (.slice .u8)]
abbrev R101 : List RS := [.own false .u8]
-- (*decamp/octets.Out).End
abbrev P51 : List PS := [.obj T83 [true]]
abbrev R51 : List RS := [.own false .u8, .pure (.int .i64)]
-- (*decamp/octets.Out).wide
abbrev P129 : List PS := [.obj T83 [true], .pure (.int .u64), .pure (.int .i64)]
abbrev R129 : List RS := []
-- (*decamp/octets.Out).Num
abbrev P83 : List PS := [.obj T83 [true], .pure (.int .i64)]
abbrev R83 : List RS := []
-- (*decamp/octets.Out).Count
abbrev P143 : List PS := [.obj T83 [true], .pure (.int .i64)]
abbrev R143 : List RS := []
-- (*decamp/octets.Out).Text
abbrev P110 : List PS := [.obj T83 [true], .pure .str]
abbrev R110 : List RS := []
-- (*decamp/octets.Out).Byte
abbrev P112 : List PS := [.obj T83 [true], .pure .u8]
abbrev R112 : List RS := []
-- (*decamp/octets.Out).Flag
abbrev P111 : List PS := [.obj T83 [true], .pure .bool]
abbrev R111 : List RS := []
-- decamp/cmd.mayVer
abbrev P104 : List PS := [.pure T66]
abbrev R104 : List RS := [.pure .bool]
-- decamp/cmd.PutVer
abbrev P46 : List PS := [.obj T83 [true], .pure T66]
abbrev R46 : List RS := []
-- decamp/cmd.rightItem
abbrev P106 : List PS := [.pure T70]
abbrev R106 : List RS := [.pure .bool]
-- decamp/cmd.PutItem
abbrev P47 : List PS := [.obj T83 [true], .pure T70]
abbrev R47 : List RS := []
-- decamp/cmd.putItems
abbrev P113 : List PS := [.obj T83 [true], .pure (.slice T70)]
abbrev R113 : List RS := []
-- decamp/cmd.PutReply
abbrev P48 : List PS := [.obj T83 [true], .pure T51]
abbrev R48 : List RS := []
-- decamp/cmd.putHanded
abbrev P114 : List PS := [.obj T83 [true], .pure (.slice T94), .pure (.slice T113)]
abbrev R114 : List RS := []
-- decamp/cmd.putCmps
abbrev P130 : List PS := [.obj T83 [true], .pure (.slice T96)]
abbrev R130 : List RS := []
-- decamp/cmd.putOps
abbrev P131 : List PS := [.obj T83 [true], .pure (.slice T48)]
abbrev R131 : List RS := []
-- decamp/cmd.putCmd
abbrev P84 : List PS := [.obj T83 [true], .pure T28]
abbrev R84 : List RS := []
-- decamp/cmd.Encode
abbrev P18 : List PS := [.pure T33]
abbrev R18 : List RS := [.own false .u8, .pure (.int .i64)]
-- decamp/octets.NewIn
abbrev P32 : List PS := [.pure (.slice .u8)]
abbrev R32 : List RS := [.newobj T131 [true, false]]
-- (*decamp/octets.In).Done
abbrev P54 : List PS := [.obj T131 []]
abbrev R54 : List RS := [.pure .bool]
-- (*decamp/octets.In).Fail
abbrev P105 : List PS := [.obj T131 []]
abbrev R105 : List RS := []
-- (*decamp/octets.In).take
abbrev P141 : List PS := [.obj T131 [], .pure (.int .i64)]
abbrev R141 : List RS := [.pure (.slice .u8)]
-- (*decamp/octets.In).wide
abbrev P134 : List PS := [.obj T131 [], .pure (.int .i64)]
abbrev R134 : List RS := [.pure (.int .u64)]
-- (*decamp/octets.In).Num
abbrev P93 : List PS := [.obj T131 []]
abbrev R93 : List RS := [.pure (.int .i64)]
-- (*decamp/octets.In).Left
abbrev P45 : List PS := [.obj T131 []]
abbrev R45 : List RS := [.pure (.int .i64)]
-- (*decamp/octets.In).Count
abbrev P142 : List PS := [.obj T131 [], .pure (.int .i64)]
abbrev R142 : List RS := [.pure (.int .i64)]
-- (*decamp/octets.In).Text
abbrev P102 : List PS := [.obj T131 [], .pure (.int .i64)]
abbrev R102 : List RS := [.pure .str]
-- (*decamp/octets.In).Byte
abbrev P107 : List PS := [.obj T131 []]
abbrev R107 : List RS := [.pure .u8]
-- (*decamp/octets.In).Flag
abbrev P103 : List PS := [.obj T131 []]
abbrev R103 : List RS := [.pure .bool]
-- (*decamp/octets.In).Bad
abbrev P44 : List PS := [.obj T131 []]
abbrev R44 : List RS := [.pure .bool]
-- decamp/cmd.GetVer
abbrev P33 : List PS := [.obj T131 []]
abbrev R33 : List RS := [.pure T66]
-- decamp/cmd.GetItem
abbrev P35 : List PS := [.obj T131 []]
abbrev R35 : List RS := [.pure T70]
-- decamp/cmd.getItems
abbrev P108 : List PS := [.obj T131 []]
abbrev R108 : List RS := [.own false T70]
-- decamp/cmd.GetReply
abbrev P37 : List PS := [.obj T131 []]
abbrev R37 : List RS := [.pure T51]
-- decamp/cmd.getHanded
abbrev P109 : List PS := [.obj T131 []]
abbrev R109 : List RS := [.own false T94, .own false T113]
-- decamp/cmd.getCmps
abbrev P135 : List PS := [.obj T131 []]
abbrev R135 : List RS := [.own false T96]
-- decamp/cmd.getOps
abbrev P136 : List PS := [.obj T131 []]
abbrev R136 : List RS := [.own false T48]
-- decamp/cmd.getCmd
abbrev P94 : List PS := [.obj T131 []]
abbrev R94 : List RS := [.pure T28]
-- decamp/cmd.Decode
abbrev P20 : List PS := [.pure (.slice .u8)]
abbrev R20 : List RS := [.pure T33, .pure (.int .i64)]
-- decamp/decamplaw17.awake
abbrev P10 : List PS := []
abbrev R10 : List RS := [.pure .bool]
-- decamp/decampref17.Few
abbrev P11 : List PS := [.pure T28]
abbrev R11 : List RS := [.pure .bool]
-- decamp/decampref15.text
abbrev P115 : List PS := [.pure .str, .pure .u8]
abbrev R115 : List RS := [.pure .bool]
-- decamp/decampref15.Key
abbrev P53 : List PS := [.pure .str]
abbrev R53 : List RS := [.pure .bool]
-- decamp/decampref17.Prefix
abbrev P23 : List PS := [.pure .str]
abbrev R23 : List RS := [.pure .bool]
-- decamp/decampref17.bare
abbrev P61 : List PS := [.pure T28]
abbrev R61 : List RS := [.pure .bool]
-- decamp/decampref17.within
abbrev P67 : List PS := [.pure (.int .i64), .pure (.int .i64), .pure (.int .i64)]
abbrev R67 : List RS := [.pure .bool]
-- decamp/decampref17.one
abbrev P62 : List PS := [.pure (.int .i64)]
abbrev R62 : List RS := [.pure .bool]
-- decamp/decampref17.natural
abbrev P63 : List PS := [.pure (.int .i64)]
abbrev R63 : List RS := [.pure .bool]
-- decamp/decampref15.Range
abbrev P64 : List PS := [.pure .str, .pure .str]
abbrev R64 : List RS := [.pure .bool]
-- decamp/decampref17.cmps
abbrev P65 : List PS := [.pure (.slice T96)]
abbrev R65 : List RS := [.pure .bool]
-- decamp/decampref17.op
abbrev P124 : List PS := [.pure T48]
abbrev R124 : List RS := [.pure .bool]
-- decamp/decampref15.In
abbrev P149 : List PS := [.pure .str, .pure .str, .pure .str]
abbrev R149 : List RS := [.pure .bool]
-- decamp/decampref17.meet
abbrev P125 : List PS := [.pure T48, .pure T48]
abbrev R125 : List RS := [.pure .bool]
-- decamp/decampref17.ops
abbrev P66 : List PS := [.pure (.slice T48)]
abbrev R66 : List RS := [.pure .bool]
-- decamp/decampref14.Ver
abbrev P52 : List PS := [.pure T66]
abbrev R52 : List RS := [.pure .bool]
-- decamp/decampref17.page
abbrev P68 : List PS := [.pure T28]
abbrev R68 : List RS := [.pure .bool]
-- decamp/decampref17.tail
abbrev P69 : List PS := [.pure T28]
abbrev R69 : List RS := [.pure .bool]
-- decamp/decampref17.Reply
abbrev P25 : List PS := [.pure T51]
abbrev R25 : List RS := [.pure .bool]
-- decamp/decampref17.Sess
abbrev P70 : List PS := [.pure (.slice T94), .pure (.int .i64)]
abbrev R70 : List RS := [.pure .bool]
-- decamp/decampref17.leases
abbrev P71 : List PS := [.pure (.slice T113)]
abbrev R71 : List RS := [.pure .bool]
-- decamp/decampref17.Right
abbrev P13 : List PS := [.pure T28]
abbrev R13 : List RS := [.pure .bool]
-- decamp/decampref17.RightJob
abbrev P15 : List PS := [.pure T33]
abbrev R15 : List RS := [.pure .bool]
-- decamp/decampref17.sameCmps
abbrev P78 : List PS := [.pure (.slice T96), .pure (.slice T96)]
abbrev R78 : List RS := [.pure .bool]
-- decamp/decampref17.sameOps
abbrev P79 : List PS := [.pure (.slice T48), .pure (.slice T48)]
abbrev R79 : List RS := [.pure .bool]
-- decamp/decampref15.SameItems
abbrev P80 : List PS := [.pure (.slice T70), .pure (.slice T70)]
abbrev R80 : List RS := [.pure .bool]
-- decamp/decampref17.SameReply
abbrev P27 : List PS := [.pure T51, .pure T51]
abbrev R27 : List RS := [.pure .bool]
-- decamp/decampref17.SameSess
abbrev P81 : List PS := [.pure (.slice T94), .pure (.slice T94)]
abbrev R81 : List RS := [.pure .bool]
-- decamp/decampref17.SameLeases
abbrev P82 : List PS := [.pure (.slice T113), .pure (.slice T113)]
abbrev R82 : List RS := [.pure .bool]
-- decamp/decampref17.Same
abbrev P17 : List PS := [.pure T28, .pure T28]
abbrev R17 : List RS := [.pure .bool]
-- decamp/decamplaw17.CmdRight
abbrev P3 : List PS := [.pure T28, .pure T28, .pure (.int .i64), .pure (.int .i64)]
abbrev R3 : List RS := [.pure .bool]
-- decamp/decampref17.join
abbrev P85 : List PS := [.pure (.slice (.slice .u8))]
abbrev R85 : List RS := [.own false .u8]
-- decamp/decampref03.Wide
abbrev P133 : List PS := [.pure (.int .u64), .pure (.int .i64)]
abbrev R133 : List RS := [.own false .u8]
-- decamp/decampref03.Num
abbrev P132 : List PS := [.pure (.int .i64)]
abbrev R132 : List RS := [.own false .u8]
-- decamp/decampref17.Nums
abbrev P86 : List PS := [.pure (.slice (.int .i64))]
abbrev R86 : List RS := [.own false .u8]
-- decamp/decampref03.Count
abbrev P88 : List PS := [.pure (.int .i64)]
abbrev R88 : List RS := [.own false .u8]
-- decamp/decampref03.Text
abbrev P87 : List PS := [.pure .str]
abbrev R87 : List RS := [.own false .u8]
-- decamp/decampref17.opsBytes
abbrev P89 : List PS := [.pure (.slice T48)]
abbrev R89 : List RS := [.own false .u8]
-- decamp/decampref03.Flag
abbrev P90 : List PS := [.pure .bool]
abbrev R90 : List RS := [.own false .u8]
-- decamp/decampref17.VerBytes
abbrev P34 : List PS := [.pure T66]
abbrev R34 : List RS := [.own false .u8]
-- decamp/decampref17.ItemBytes
abbrev P36 : List PS := [.pure T70]
abbrev R36 : List RS := [.own false .u8]
-- decamp/decampref17.itemsBytes
abbrev P91 : List PS := [.pure (.slice T70)]
abbrev R91 : List RS := [.own false .u8]
-- decamp/decampref17.ReplyBytes
abbrev P38 : List PS := [.pure T51]
abbrev R38 : List RS := [.own false .u8]
-- decamp/decampref17.handedBytes
abbrev P92 : List PS := [.pure (.slice T94), .pure (.slice T113)]
abbrev R92 : List RS := [.own false .u8]
-- decamp/decampref17.Bytes
abbrev P19 : List PS := [.pure T33]
abbrev R19 : List RS := [.own false .u8]
-- decamp/decamplaw17.CmdEncodes
abbrev P4 : List PS := [.pure (.int .i64), .pure (.int .i64), .pure T28]
abbrev R4 : List RS := [.pure .bool]
-- decamp/decamplaw17.CmdDecodes
abbrev P5 : List PS := [.pure (.slice .u8)]
abbrev R5 : List RS := [.pure .bool]
-- decamp/decamplaw17.CmdMeets
abbrev P6 : List PS := [.pure (.slice T48), .pure .u8, .pure .u8]
abbrev R6 : List RS := [.pure .bool]
-- decamp/decamplaw17.few
abbrev P21 : List PS := [.pure T51, .pure T55]
abbrev R21 : List RS := [.pure .bool]
-- decamp/cmd.RightMove$1
abbrev P100a : List PS := [.pure .str, .fnc 22 0]
abbrev R100a : List RS := [.pure .bool]
-- decamp/cmd.RightMove$1
abbrev P100b : List PS := [.pure .str, .fnc 95 0]
abbrev R100b : List RS := [.pure .bool]
-- decamp/cmd.RightMove
abbrev P28 : List PS := [.pure T53]
abbrev R28 : List RS := [.pure .bool]
-- decamp/decampref17.Move
abbrev P29 : List PS := [.pure T53]
abbrev R29 : List RS := [.pure .bool]
-- decamp/cmd.RightHand
abbrev P30 : List PS := [.pure T55]
abbrev R30 : List RS := [.pure .bool]
-- decamp/decampref17.Hand
abbrev P31 : List PS := [.pure T55]
abbrev R31 : List RS := [.pure .bool]
-- decamp/decamplaw17.CmdOthers
abbrev P7 : List PS := [.pure .str, .pure T51, .pure T51, .pure T53, .pure T55]
abbrev R7 : List RS := [.pure .bool]
-- decamp/cmd.GetMove
abbrev P39 : List PS := [.obj T131 []]
abbrev R39 : List RS := [.pure T53]
-- decamp/decampref17.MoveBytes
abbrev P40 : List PS := [.pure T53]
abbrev R40 : List RS := [.own false .u8]
-- decamp/cmd.GetHand
abbrev P41 : List PS := [.obj T131 []]
abbrev R41 : List RS := [.pure T55]
-- decamp/decampref17.HandBytes
abbrev P42 : List PS := [.pure T55]
abbrev R42 : List RS := [.own false .u8]
-- decamp/decampref17.SameHand
abbrev P43 : List PS := [.pure T55, .pure T55]
abbrev R43 : List RS := [.pure .bool]
-- decamp/decamplaw17.CmdGets
abbrev P8 : List PS := [.pure (.slice .u8), .pure (.slice .u8)]
abbrev R8 : List RS := [.pure .bool]
-- decamp/cmd.PutMove
abbrev P49 : List PS := [.obj T83 [true], .pure T53]
abbrev R49 : List RS := []
-- decamp/cmd.PutHand
abbrev P50 : List PS := [.obj T83 [true], .pure T55]
abbrev R50 : List RS := []
-- decamp/decamplaw17.CmdPuts
abbrev P9 : List PS := [.pure T70, .pure T51, .pure T53, .pure T55]
abbrev R9 : List RS := [.pure .bool]
end Go.Proofs.YthafmmjfijpalaaGreat
