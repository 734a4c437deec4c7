/-
  Call: by a program of the bench (seat.py).
-/
import Derived.Test.YtkiakaokgoodhaaGreatRows
import Derived.Test.YtkiakaokgoodhaaGreatSxR
namespace Go.Proofs.YtkiakaokgoodhaaGreat
open Go.Sx Go
abbrev T25 : Ty := (.pair (.int .i64) (.pair (.int .i64) (.pair (.slice .u8) .unit)))
abbrev T27 : Ty := (.pair (.int .i64) (.pair (.int .i64) (.pair (.int .i64) (.pair (.int .i64) (.pair (.int .i64) (.pair (.int .i64) (.pair (.int .i64) (.pair (.int .i64) (.pair .bool (.pair (.slice T25) (.pair T25 .unit)))))))))))
abbrev T96 : Ty := (.pair .str (.pair (.int .i64) (.pair (.int .i64) (.pair (.int .i64) (.pair .str .unit)))))
abbrev T48 : Ty := (.pair (.int .i64) (.pair .str (.pair .str (.pair .str (.pair (.int .i64) .unit)))))
abbrev T66 : Ty := (.pair (.int .i64) (.pair (.int .i64) (.pair (.int .i64) (.pair (.int .i64) (.pair .str (.pair (.int .i64) (.pair .bool .unit)))))))
abbrev T70 : Ty := (.pair .str (.pair T66 .unit))
abbrev T51 : Ty := (.pair (.int .i64) (.pair (.int .i64) (.pair .bool (.pair (.int .i64) (.pair (.slice T70) (.pair (.int .i64) (.pair (.int .i64) .unit)))))))
abbrev T94 : Ty := (.pair (.int .i64) (.pair (.int .i64) (.pair T51 .unit)))
abbrev T113 : Ty := (.pair (.int .i64) (.pair (.int .i64) (.pair (.int .i64) .unit)))
abbrev T28 : Ty := (.pair (.int .i64) (.pair .str (.pair .str (.pair .str (.pair (.int .i64) (.pair (.int .i64) (.pair (.int .i64) (.pair (.slice T96) (.pair (.slice T48) (.pair (.slice T48) (.pair (.int .i64) (.pair (.int .i64) (.pair (.int .i64) (.pair .bool (.pair (.slice T70) (.pair (.slice T94) (.pair (.slice T113) .unit)))))))))))))))))
abbrev T33 : Ty := (.pair (.int .i64) (.pair (.int .i64) (.pair T28 .unit)))
abbrev T55 : Ty := (.pair (.int .i64) (.pair (.int .i64) (.pair (.slice T94) (.pair (.slice T113) .unit))))
abbrev T53 : Ty := (.pair (.int .i64) (.pair (.int .i64) (.pair (.int .i64) (.pair .str (.pair .str (.pair (.int .i64) (.pair .str T113)))))))
abbrev TB : Ty := (.pair (.int .i64) (.pair (.slice T70) .unit))
abbrev TM : Ty := (.pair (.int .i64) (.pair (.int .i64) (.pair T27 (.pair T33 (.pair (.int .i64) (.pair .str (.pair .str (.pair (.int .i64) (.pair (.int .i64) (.pair (.int .i64) (.pair (.int .i64) (.pair T51 (.pair (.slice TB) (.pair (.slice T70) (.pair .bool (.pair T55 (.pair T53 .unit)))))))))))))))))
abbrev Y58 : Ty := (.pair (.int .i64) (.pair (.int .i64) (.pair TM .unit)))
abbrev Y76 : Ty := (.pair (.int .i64) (.pair (.int .i64) (.pair (.int .i64) (.pair (.int .i64) (.pair (.int .i64) (.pair (.int .i64) (.pair (.int .i64) (.pair .bool (.pair .bool (.pair TM .unit))))))))))
abbrev Y78 : Ty := (.pair .u8 (.pair (.int .i64) (.pair TM .unit)))
abbrev Y100 : Ty := (.pair (.int .i64) (.pair (.int .i64) (.pair (.int .i64) (.pair (.int .i64) (.pair (.int .i64) (.pair (.int .i64) (.pair (.int .i64) (.pair .bool (.pair TM .unit)))))))))
def tab : Tab := { tys := [(2, (.int .i64)), (3, (.int .i64)), (4, .bool), (5, .u8), (9, .str), (22, (.slice T25)), (23, (.slice .u8)), (25, T25), (27, T27), (28, (.slice T96)), (29, (.slice T48)), (30, (.slice T70)), (31, (.slice T94)), (32, (.slice T113)), (34, T28), (36, T33), (37, (.int .i64)), (39, T51), (40, (.slice TB)), (42, T55), (44, T53), (46, TM), (53, T27), (54, T33), (56, TM), (58, Y58), (67, (.slice TM)), (68, (.slice TM)), (73, (.slice Y78)), (76, Y76), (78, Y78), (80, Y58), (83, (.slice Y58)), (94, TB), (98, T94), (100, Y100), (124, (.slice Y58)), (127, T66), (129, T70), (131, T48), (133, T96), (137, T25), (152, T113), (181, (.slice (.int .i64))), (185, (.slice T66))], ptrs := [50], arrs := [(159, 3, 13)] }
theorem tabOk : TabOk Tryz.prog tab := tabOkA_of (.cons (by kernel_rfl) (by kernel_rfl) (by kernel_rfl) (.cons (by kernel_rfl) (by kernel_rfl) (by kernel_rfl) (.cons (by kernel_rfl) (by kernel_rfl) (by kernel_rfl) (.cons (by kernel_rfl) (by kernel_rfl) (by kernel_rfl) (.cons (by kernel_rfl) (by kernel_rfl) (by kernel_rfl) (.cons (by kernel_rfl) (by kernel_rfl) (by kernel_rfl) (.cons (by kernel_rfl) (by kernel_rfl) (by kernel_rfl) (.cons (by kernel_rfl) (by kernel_rfl) (by kernel_rfl) (.cons (by kernel_rfl) (by kernel_rfl) (by kernel_rfl) (.cons (by kernel_rfl) (by kernel_rfl) (by kernel_rfl) (.cons (by kernel_rfl) (by kernel_rfl) (by kernel_rfl) (.cons (by kernel_rfl) (by kernel_rfl) (by kernel_rfl) (.cons (by kernel_rfl) (by kernel_rfl) (by kernel_rfl) (.cons (by kernel_rfl) (by kernel_rfl) (by kernel_rfl) (.cons (by kernel_rfl) (by kernel_rfl) (by kernel_rfl) (.cons (by kernel_rfl) (by kernel_rfl) (by kernel_rfl) (.cons (by kernel_rfl) (by kernel_rfl) (by kernel_rfl) (.cons (by kernel_rfl) (by kernel_rfl) (by kernel_rfl) (.cons (by kernel_rfl) (by kernel_rfl) (by kernel_rfl) (.cons (by kernel_rfl) (by kernel_rfl) (by kernel_rfl) (.cons (by kernel_rfl) (by kernel_rfl) (by kernel_rfl) (.cons (by kernel_rfl) (by kernel_rfl) (by kernel_rfl) (.cons (by kernel_rfl) (by kernel_rfl) (by kernel_rfl) (.cons (by kernel_rfl) (by kernel_rfl) (by kernel_rfl) (.cons (by kernel_rfl) (by kernel_rfl) (by kernel_rfl) (.cons (by kernel_rfl) (by kernel_rfl) (by kernel_rfl) (.cons (by kernel_rfl) (by kernel_rfl) (by kernel_rfl) (.cons (by kernel_rfl) (by kernel_rfl) (by kernel_rfl) (.cons (by kernel_rfl) (by kernel_rfl) (by kernel_rfl) (.cons (by kernel_rfl) (by kernel_rfl) (by kernel_rfl) (.cons (by kernel_rfl) (by kernel_rfl) (by kernel_rfl) (.cons (by kernel_rfl) (by kernel_rfl) (by kernel_rfl) (.cons (by kernel_rfl) (by kernel_rfl) (by kernel_rfl) (.cons (by kernel_rfl) (by kernel_rfl) (by kernel_rfl) (.cons (by kernel_rfl) (by kernel_rfl) (by kernel_rfl) (.cons (by kernel_rfl) (by kernel_rfl) (by kernel_rfl) (.cons (by kernel_rfl) (by kernel_rfl) (by kernel_rfl) (.cons (by kernel_rfl) (by kernel_rfl) (by kernel_rfl) (.cons (by kernel_rfl) (by kernel_rfl) (by kernel_rfl) (.cons (by kernel_rfl) (by kernel_rfl) (by kernel_rfl) (.cons (by kernel_rfl) (by kernel_rfl) (by kernel_rfl) (.cons (by kernel_rfl) (by kernel_rfl) (by kernel_rfl) (.cons (by kernel_rfl) (by kernel_rfl) (by kernel_rfl) (.cons (by kernel_rfl) (by kernel_rfl) (by kernel_rfl) (.cons (by kernel_rfl) (by kernel_rfl) (by kernel_rfl) (trivial)))))))))))))))))))))))))))))))))))))))))))))) (.cons (by kernel_rfl) (by kernel_rfl) (trivial)) (.cons (.int .i64) (by kernel_rfl) (by kernel_rfl) (by kernel_rfl) (trivial))
abbrev T25D := Int × Int × List UInt8 × Unit
abbrev T27D := Int × Int × Int × Int × Int × Int × Int × Int × Bool × List T25D × T25D × Unit
abbrev T96D := List UInt8 × Int × Int × Int × List UInt8 × Unit
abbrev T48D := Int × List UInt8 × List UInt8 × List UInt8 × Int × Unit
abbrev T66D := Int × Int × Int × Int × List UInt8 × Int × Bool × Unit
abbrev T70D := List UInt8 × T66D × Unit
abbrev T51D := Int × Int × Bool × Int × List T70D × Int × Int × Unit
abbrev T94D := Int × Int × T51D × Unit
abbrev T113D := Int × Int × Int × Unit
abbrev T28D := Int × List UInt8 × List UInt8 × List UInt8 × Int × Int × Int × List T96D × List T48D × List T48D × Int × Int × Int × Bool × List T70D × List T94D × List T113D × Unit
abbrev T33D := Int × Int × T28D × Unit
abbrev T55D := Int × Int × List T94D × List T113D × Unit
abbrev T53D := Int × Int × Int × List UInt8 × List UInt8 × Int × List UInt8 × T113D
abbrev TBD := Int × List T70D × Unit
abbrev TMD := Int × Int × T27D × T33D × Int × List UInt8 × List UInt8 × Int × Int × Int × Int × T51D × List TBD × List T70D × Bool × T55D × T53D × Unit
abbrev Y58D := Int × Int × TMD × Unit
abbrev Y76D := Int × Int × Int × Int × Int × Int × Int × Bool × Bool × TMD × Unit
abbrev Y78D := UInt8 × Int × TMD × Unit
abbrev Y100D := Int × Int × Int × Int × Int × Int × Int × Bool × TMD × Unit
-- decamp/caller.New
abbrev P10 : List PS := [.pure (.int .i64), .pure (.int .i64), .pure (.int .i64), .pure (.int .i64), .pure (.int .i64)]
abbrev R10 : List RS := [.maybe Y100 [false, false, false, false, false, false, false, false, false], .pure (.int .i64)]
-- decamp/talk.Answer
abbrev P18 : List PS := [.pure (.int .i64)]
abbrev R18 : List RS := [.pure (.int .i64)]
-- bytes.Equal
abbrev P95 : List PS := [.pure (.slice .u8), .pure (.slice .u8)]
abbrev R95 : List RS := [.pure .bool]
-- decamp/entry.Same$1
abbrev P132 : List PS := [.pure T25, .pure T25]
abbrev R132 : List RS := [.pure .bool]
-- slices.EqualFunc[[]decamp/api.Entry,[]decamp/api.Entry,decamp/api.Entry,decamp/api.Entry]
abbrev P131a : List PS := [.pure (.slice T25), .pure (.slice T25), .fnc 132 0]
abbrev R131a : List RS := [.pure .bool]
-- decamp/entry.Same
abbrev P94 : List PS := [.pure (.slice T25), .pure (.slice T25)]
abbrev R94 : List RS := [.pure .bool]
-- decamp/rmsg.Same
abbrev P57 : List PS := [.pure T27, .pure T27]
abbrev R57 : List RS := [.pure .bool]
-- slices.Equal[[]decamp/api.Cmp,decamp/api.Cmp]
abbrev P96 : List PS := [.pure (.slice T96), .pure (.slice T96)]
abbrev R96 : List RS := [.pure .bool]
-- slices.Equal[[]decamp/api.Op,decamp/api.Op]
abbrev P97 : List PS := [.pure (.slice T48), .pure (.slice T48)]
abbrev R97 : List RS := [.pure .bool]
-- slices.Equal[[]decamp/api.Item,decamp/api.Item]
abbrev P61 : List PS := [.pure (.slice T70), .pure (.slice T70)]
abbrev R61 : List RS := [.pure .bool]
-- decamp/cmd.sameItems
abbrev P98 : List PS := [.pure (.slice T70), .pure (.slice T70)]
abbrev R98 : List RS := [.pure .bool]
-- decamp/cmd.SameReply
abbrev P59 : List PS := [.pure T51, .pure T51]
abbrev R59 : List RS := [.pure .bool]
-- decamp/cmd.sameSess$1
abbrev P134 : List PS := [.pure T94, .pure T94]
abbrev R134 : List RS := [.pure .bool]
-- slices.EqualFunc[[]decamp/api.Sess,[]decamp/api.Sess,decamp/api.Sess,decamp/api.Sess]
abbrev P133a : List PS := [.pure (.slice T94), .pure (.slice T94), .fnc 134 0]
abbrev R133a : List RS := [.pure .bool]
-- decamp/cmd.sameSess
abbrev P99 : List PS := [.pure (.slice T94), .pure (.slice T94)]
abbrev R99 : List RS := [.pure .bool]
-- slices.Equal[[]decamp/api.Lease,decamp/api.Lease]
abbrev P100 : List PS := [.pure (.slice T113), .pure (.slice T113)]
abbrev R100 : List RS := [.pure .bool]
-- decamp/cmd.Same
abbrev P58 : List PS := [.pure T28, .pure T28]
abbrev R58 : List RS := [.pure .bool]
-- decamp/talk.sameBatches$1
abbrev P102 : List PS := [.pure TB, .pure TB]
abbrev R102 : List RS := [.pure .bool]
-- slices.EqualFunc[[]decamp/api.Batch,[]decamp/api.Batch,decamp/api.Batch,decamp/api.Batch]
abbrev P101a : List PS := [.pure (.slice TB), .pure (.slice TB), .fnc 102 0]
abbrev R101a : List RS := [.pure .bool]
-- decamp/talk.sameBatches
abbrev P60 : List PS := [.pure (.slice TB), .pure (.slice TB)]
abbrev R60 : List RS := [.pure .bool]
-- decamp/talk.sameHand
abbrev P62 : List PS := [.pure T55, .pure T55]
abbrev R62 : List RS := [.pure .bool]
-- decamp/talk.Same
abbrev P25 : List PS := [.pure TM, .pure TM]
abbrev R25 : List RS := [.pure .bool]
-- decamp/talk.keep
abbrev P76 : List PS := [.pure TM]
abbrev R76 : List RS := [.pure TM]
-- decamp/rmsg.keep
abbrev P110 : List PS := [.pure T27]
abbrev R110 : List RS := [.pure T27, .pure .bool]
-- decamp/rmsg.node
abbrev P111 : List PS := [.pure (.int .i64)]
abbrev R111 : List RS := [.pure .bool]
-- decamp/rmsg.numbers
abbrev P112 : List PS := [.pure (.slice (.int .i64))]
abbrev R112 : List RS := [.pure .bool]
-- decamp/entry.number
abbrev P138 : List PS := [.pure (.int .i64)]
abbrev R138 : List RS := [.pure .bool]
-- decamp/entry.Right
abbrev P137 : List PS := [.pure T25]
abbrev R137 : List RS := [.pure .bool]
-- decamp/entry.Run
abbrev P113 : List PS := [.pure (.int .i64), .pure (.int .i64), .pure (.slice T25)]
abbrev R113 : List RS := [.pure .bool]
-- decamp/entry.RightSnap
abbrev P114 : List PS := [.pure T25]
abbrev R114 : List RS := [.pure .bool]
-- decamp/rmsg.Right
abbrev P77 : List PS := [.pure T27]
abbrev R77 : List RS := [.pure .bool]
-- decamp/talk.within
abbrev P78 : List PS := [.pure (.int .i64), .pure (.int .i64), .pure (.int .i64)]
abbrev R78 : List RS := [.pure .bool]
-- decamp/index.text
abbrev P142 : List PS := [.pure .str, .pure .u8]
abbrev R142 : List RS := [.pure .bool]
-- decamp/index.Key
abbrev P118 : List PS := [.pure .str]
abbrev R118 : List RS := [.pure .bool]
-- decamp/cmd.Prefix
abbrev P117 : List PS := [.pure .str]
abbrev R117 : List RS := [.pure .bool]
-- decamp/cmd.within
abbrev P140 : List PS := [.pure (.int .i64), .pure (.int .i64), .pure (.int .i64)]
abbrev R140 : List RS := [.pure .bool]
-- decamp/cmd.positive$1
abbrev P157 : List PS := [.pure (.int .i64)]
abbrev R157 : List RS := [.pure .bool]
-- slices.IndexFunc[[]int64,int64]
abbrev P166a : List PS := [.pure (.slice (.int .i64)), .fnc 157 0]
abbrev R166a : List RS := [.pure (.int .i64)]
-- slices.ContainsFunc[[]int64,int64]
abbrev P156a : List PS := [.pure (.slice (.int .i64)), .fnc 157 0]
abbrev R156a : List RS := [.pure .bool]
-- decamp/cmd.positive
abbrev P141 : List PS := [.pure (.slice (.int .i64))]
abbrev R141 : List RS := [.pure .bool]
-- decamp/cmd.natural$1
abbrev P158 : List PS := [.pure (.int .i64)]
abbrev R158 : List RS := [.pure .bool]
-- slices.IndexFunc[[]int64,int64]
abbrev P166b : List PS := [.pure (.slice (.int .i64)), .fnc 158 0]
abbrev R166b : List RS := [.pure (.int .i64)]
-- slices.ContainsFunc[[]int64,int64]
abbrev P156b : List PS := [.pure (.slice (.int .i64)), .fnc 158 0]
abbrev R156b : List RS := [.pure .bool]
-- decamp/cmd.natural
abbrev P143 : List PS := [.pure (.slice (.int .i64))]
abbrev R143 : List RS := [.pure .bool]
-- decamp/hist.number
abbrev P167 : List PS := [.pure (.int .i64)]
abbrev R167 : List RS := [.pure .bool]
-- decamp/hist.right
abbrev P160 : List PS := [.pure T66]
abbrev R160 : List RS := [.pure .bool]
-- decamp/hist.Right
abbrev P148 : List PS := [.pure (.slice T66)]
abbrev R148 : List RS := [.pure .bool]
-- decamp/cmd.version
abbrev P146 : List PS := [.pure T66]
abbrev R146 : List RS := [.pure .bool]
-- decamp/cmd.RightReply$1
abbrev P145 : List PS := [.pure T70]
abbrev R145 : List RS := [.pure .bool]
-- slices.IndexFunc[[]decamp/api.Item,decamp/api.Item]
abbrev P159a : List PS := [.pure (.slice T70), .fnc 145 0]
abbrev R159a : List RS := [.pure (.int .i64)]
-- slices.ContainsFunc[[]decamp/api.Item,decamp/api.Item]
abbrev P144a : List PS := [.pure (.slice T70), .fnc 145 0]
abbrev R144a : List RS := [.pure .bool]
-- decamp/cmd.RightReply
abbrev P119 : List PS := [.pure T51]
abbrev R119 : List RS := [.pure .bool]
-- decamp/cmd.rightSess
abbrev P161 : List PS := [.pure (.slice T94), .pure (.int .i64)]
abbrev R161 : List RS := [.pure .bool]
-- decamp/cmd.rightLeases
abbrev P162 : List PS := [.pure (.slice T113)]
abbrev R162 : List RS := [.pure .bool]
-- decamp/cmd.handed
abbrev P149 : List PS := [.pure (.slice T94), .pure (.slice T113)]
abbrev R149 : List RS := [.pure .bool]
-- decamp/cmd.keepClient
abbrev P163 : List PS := [.pure T28]
abbrev R163 : List RS := [.pure T28]
-- decamp/cmd.keep
abbrev P152 : List PS := [.pure T28]
abbrev R152 : List RS := [.pure T28]
-- decamp/index.Range
abbrev P116 : List PS := [.pure .str, .pure .str]
abbrev R116 : List RS := [.pure .bool]
-- decamp/cmd.put
abbrev P164 : List PS := [.pure .str, .pure .str, .pure (.int .i64)]
abbrev R164 : List RS := [.pure .bool]
-- decamp/cmd.rightCmp
abbrev P170 : List PS := [.pure T96]
abbrev R170 : List RS := [.pure .bool]
-- decamp/cmd.rightTxn$1
abbrev P169 : List PS := [.pure T96]
abbrev R169 : List RS := [.pure .bool]
-- slices.IndexFunc[[]decamp/api.Cmp,decamp/api.Cmp]
abbrev P172a : List PS := [.pure (.slice T96), .fnc 169 0]
abbrev R172a : List RS := [.pure (.int .i64)]
-- slices.ContainsFunc[[]decamp/api.Cmp,decamp/api.Cmp]
abbrev P168a : List PS := [.pure (.slice T96), .fnc 169 0]
abbrev R168a : List RS := [.pure .bool]
-- decamp/cmd.rightOp
abbrev P173 : List PS := [.pure T48]
abbrev R173 : List RS := [.pure .bool]
-- decamp/index.In
abbrev P178 : List PS := [.pure .str, .pure .str, .pure .str]
abbrev R178 : List RS := [.pure .bool]
-- decamp/cmd.meet
abbrev P176 : List PS := [.pure T48, .pure T48]
abbrev R176 : List RS := [.pure .bool]
-- decamp/cmd.rightOps$1
abbrev P175 : List PS := [.pure T48]
abbrev R175 : List RS := [.pure .bool]
-- decamp/cmd.rightOps$1
abbrev P175a : List PS := [.pure T48, .obj T48 [false, false, false, false, false]]
abbrev R175a : List RS := [.pure .bool]
-- slices.IndexFunc[[]decamp/api.Op,decamp/api.Op]
abbrev P177a : List PS := [.pure (.slice T48), .fnc 175 1, .obj T48 [false, false, false, false, false]]
abbrev R177a : List RS := [.pure (.int .i64)]
-- slices.ContainsFunc[[]decamp/api.Op,decamp/api.Op]
abbrev P174a : List PS := [.pure (.slice T48), .fnc 175 1, .obj T48 [false, false, false, false, false]]
abbrev R174a : List RS := [.pure .bool]
-- decamp/cmd.rightOps
abbrev P171 : List PS := [.pure (.slice T48)]
abbrev R171 : List RS := [.pure .bool]
-- decamp/cmd.rightTxn
abbrev P165 : List PS := [.pure T28]
abbrev R165 : List RS := [.pure .bool]
-- decamp/cmd.rightClient
abbrev P153 : List PS := [.pure T28]
abbrev R153 : List RS := [.pure .bool]
-- decamp/cmd.rightPage
abbrev P154 : List PS := [.pure T28]
abbrev R154 : List RS := [.pure .bool]
-- decamp/cmd.rightTail
abbrev P155 : List PS := [.pure T28]
abbrev R155 : List RS := [.pure .bool]
-- decamp/cmd.Right
abbrev P139 : List PS := [.pure T28]
abbrev R139 : List RS := [.pure .bool]
-- decamp/cmd.RightJob
abbrev P115 : List PS := [.pure T33]
abbrev R115 : List RS := [.pure .bool]
-- decamp/talk.asks
abbrev P79 : List PS := [.pure TM]
abbrev R79 : List RS := [.pure .bool]
-- decamp/talk.items$1
abbrev P147 : List PS := [.pure T70]
abbrev R147 : List RS := [.pure .bool]
-- slices.IndexFunc[[]decamp/api.Item,decamp/api.Item]
abbrev P159b : List PS := [.pure (.slice T70), .fnc 147 0]
abbrev R159b : List RS := [.pure (.int .i64)]
-- slices.ContainsFunc[[]decamp/api.Item,decamp/api.Item]
abbrev P144b : List PS := [.pure (.slice T70), .fnc 147 0]
abbrev R144b : List RS := [.pure .bool]
-- decamp/talk.items
abbrev P121 : List PS := [.pure (.slice T70), .pure (.int .i64)]
abbrev R121 : List RS := [.pure .bool]
-- decamp/talk.batches
abbrev P120 : List PS := [.pure (.slice TB)]
abbrev R120 : List RS := [.pure .bool]
-- decamp/talk.noHand
abbrev P122 : List PS := [.pure T55]
abbrev R122 : List RS := [.pure .bool]
-- decamp/cmd.RightHand
abbrev P123 : List PS := [.pure T55]
abbrev R123 : List RS := [.pure .bool]
-- decamp/cmd.RightMove$1
abbrev P150a : List PS := [.pure .str, .fnc 117 0]
abbrev R150a : List RS := [.pure .bool]
-- decamp/cmd.RightMove$1
abbrev P150b : List PS := [.pure .str, .fnc 118 0]
abbrev R150b : List RS := [.pure .bool]
-- decamp/cmd.RightMove
abbrev P124 : List PS := [.pure T53]
abbrev R124 : List RS := [.pure .bool]
-- decamp/talk.answers
abbrev P80 : List PS := [.pure TM]
abbrev R80 : List RS := [.pure .bool]
-- decamp/talk.Right
abbrev P43 : List PS := [.pure TM]
abbrev R43 : List RS := [.pure .bool]
-- slices.Clone[[]decamp/api.Entry,decamp/api.Entry]
abbrev P125 : List PS := [.pure (.slice T25)]
abbrev R125 : List RS := [.own false T25]
-- slices.Clone[[]byte,byte]
abbrev P126 : List PS := [.pure (.slice .u8)]
abbrev R126 : List RS := [.own false .u8]
-- decamp/talk.cloneRaft
abbrev P81 : List PS := [.pure T27]
abbrev R81 : List RS := [.pure T27]
-- slices.Clone[[]decamp/api.Item,decamp/api.Item]
abbrev P84 : List PS := [.pure (.slice T70)]
abbrev R84 : List RS := [.own false T70]
-- decamp/talk.cloneReply
abbrev P83 : List PS := [.pure T51]
abbrev R83 : List RS := [.pure T51]
-- slices.Clone[[]decamp/api.Sess,decamp/api.Sess]
abbrev P129 : List PS := [.pure (.slice T94)]
abbrev R129 : List RS := [.own false T94]
-- decamp/talk.cloneSess
abbrev P86 : List PS := [.pure (.slice T94)]
abbrev R86 : List RS := [.own false T94]
-- slices.Clone[[]decamp/api.Lease,decamp/api.Lease]
abbrev P87 : List PS := [.pure (.slice T113)]
abbrev R87 : List RS := [.own false T113]
-- slices.Clone[[]decamp/api.Cmp,decamp/api.Cmp]
abbrev P127 : List PS := [.pure (.slice T96)]
abbrev R127 : List RS := [.own false T96]
-- slices.Clone[[]decamp/api.Op,decamp/api.Op]
abbrev P128 : List PS := [.pure (.slice T48)]
abbrev R128 : List RS := [.own false T48]
-- decamp/talk.cloneCmd
abbrev P82 : List PS := [.pure T28]
abbrev R82 : List RS := [.pure T28]
-- slices.Clone[[]decamp/api.Batch,decamp/api.Batch]
abbrev P85 : List PS := [.pure (.slice TB)]
abbrev R85 : List RS := [.own false TB]
-- decamp/talk.Clone
abbrev P44 : List PS := [.pure TM]
abbrev R44 : List RS := [.pure TM]
-- (*decamp/caller.Caller).parcel
abbrev P45 : List PS := [.obj Y100 []]
abbrev R45 : List RS := [.pure Y58]
-- (*decamp/caller.Caller).Ask
abbrev P12 : List PS := [.obj Y100 [], .pure TM]
abbrev R12 : List RS := [.pure Y58, .pure (.int .i64)]
-- (*decamp/caller.Caller).Ask
abbrev P12a : List PS := [.nilp, .pure TM]
abbrev R12a : List RS := [.pure Y58, .pure (.int .i64)]
-- (*decamp/caller.Caller).Open
abbrev P19 : List PS := [.obj Y100 []]
abbrev R19 : List RS := [.pure .bool]
-- (*decamp/caller.Caller).Open
abbrev P19a : List PS := [.nilp]
abbrev R19a : List RS := [.pure .bool]
-- decamp/decamplaw24.awake
abbrev P7 : List PS := []
abbrev R7 : List RS := [.pure .bool]
-- decamp/decampref17.Few
abbrev P28 : List PS := [.pure T28]
abbrev R28 : List RS := [.pure .bool]
-- decamp/decampref07.Few
abbrev P63 : List PS := [.pure (.slice T25), .pure (.int .i64)]
abbrev R63 : List RS := [.pure .bool]
-- decamp/decampref11.Few
abbrev P29 : List PS := [.pure T27]
abbrev R29 : List RS := [.pure .bool]
-- decamp/decampref22.Few
abbrev P8 : List PS := [.pure TM]
abbrev R8 : List RS := [.pure .bool]
-- decamp/decampref24.May
abbrev P9 : List PS := [.pure (.int .i64), .pure (.int .i64), .pure (.int .i64), .pure (.int .i64), .pure (.int .i64)]
abbrev R9 : List RS := [.pure .bool]
-- decamp/decampref07.One
abbrev P130 : List PS := [.pure T25, .pure T25]
abbrev R130 : List RS := [.pure .bool]
-- decamp/decampref07.Same
abbrev P88 : List PS := [.pure (.slice T25), .pure (.slice T25)]
abbrev R88 : List RS := [.pure .bool]
-- decamp/decampref07.SameSnap
abbrev P89 : List PS := [.pure T25, .pure T25]
abbrev R89 : List RS := [.pure .bool]
-- decamp/decampref11.Same
abbrev P47 : List PS := [.pure T27, .pure T27]
abbrev R47 : List RS := [.pure .bool]
-- decamp/decampref15.SameItems
abbrev P51 : List PS := [.pure (.slice T70), .pure (.slice T70)]
abbrev R51 : List RS := [.pure .bool]
-- decamp/decampref17.sameCmps
abbrev P90 : List PS := [.pure (.slice T96), .pure (.slice T96)]
abbrev R90 : List RS := [.pure .bool]
-- decamp/decampref17.sameOps
abbrev P91 : List PS := [.pure (.slice T48), .pure (.slice T48)]
abbrev R91 : List RS := [.pure .bool]
-- decamp/decampref17.SameReply
abbrev P49 : List PS := [.pure T51, .pure T51]
abbrev R49 : List RS := [.pure .bool]
-- decamp/decampref17.SameSess
abbrev P92 : List PS := [.pure (.slice T94), .pure (.slice T94)]
abbrev R92 : List RS := [.pure .bool]
-- decamp/decampref17.SameLeases
abbrev P93 : List PS := [.pure (.slice T113), .pure (.slice T113)]
abbrev R93 : List RS := [.pure .bool]
-- decamp/decampref17.Same
abbrev P48 : List PS := [.pure T28, .pure T28]
abbrev R48 : List RS := [.pure .bool]
-- decamp/decampref15.SameBatches
abbrev P50 : List PS := [.pure (.slice TB), .pure (.slice TB)]
abbrev R50 : List RS := [.pure .bool]
-- decamp/decampref17.SameHand
abbrev P52 : List PS := [.pure T55, .pure T55]
abbrev R52 : List RS := [.pure .bool]
-- decamp/decampref22.Same
abbrev P15 : List PS := [.pure TM, .pure TM]
abbrev R15 : List RS := [.pure .bool]
-- decamp/decampref22.bare
abbrev P30 : List PS := [.pure TM]
abbrev R30 : List RS := [.pure TM]
-- decamp/decampref11.number
abbrev P64 : List PS := [.pure (.int .i64)]
abbrev R64 : List RS := [.pure .bool]
-- decamp/decampref11.bare
abbrev P65 : List PS := [.pure T27]
abbrev R65 : List RS := [.pure .bool]
-- decamp/decampref07.number
abbrev P104 : List PS := [.pure (.int .i64)]
abbrev R104 : List RS := [.pure .bool]
-- decamp/decampref07.Right
abbrev P103 : List PS := [.pure T25]
abbrev R103 : List RS := [.pure .bool]
-- decamp/decampref07.Run
abbrev P66 : List PS := [.pure (.int .i64), .pure (.int .i64), .pure (.slice T25)]
abbrev R66 : List RS := [.pure .bool]
-- decamp/decampref07.Snap
abbrev P67 : List PS := [.pure T25]
abbrev R67 : List RS := [.pure .bool]
-- decamp/decampref11.Right
abbrev P31 : List PS := [.pure T27]
abbrev R31 : List RS := [.pure .bool]
-- decamp/decampref22.within
abbrev P32 : List PS := [.pure (.int .i64), .pure (.int .i64), .pure (.int .i64)]
abbrev R32 : List RS := [.pure .bool]
-- decamp/decampref15.text
abbrev P71 : List PS := [.pure .str, .pure .u8]
abbrev R71 : List RS := [.pure .bool]
-- decamp/decampref15.Key
abbrev P36 : List PS := [.pure .str]
abbrev R36 : List RS := [.pure .bool]
-- decamp/decampref15.Range
abbrev P34 : List PS := [.pure .str, .pure .str]
abbrev R34 : List RS := [.pure .bool]
-- decamp/decampref17.Prefix
abbrev P35 : List PS := [.pure .str]
abbrev R35 : List RS := [.pure .bool]
-- decamp/decampref17.within
abbrev P69 : List PS := [.pure (.int .i64), .pure (.int .i64), .pure (.int .i64)]
abbrev R69 : List RS := [.pure .bool]
-- decamp/decampref17.one
abbrev P70 : List PS := [.pure (.int .i64)]
abbrev R70 : List RS := [.pure .bool]
-- decamp/decampref17.natural
abbrev P73 : List PS := [.pure (.int .i64)]
abbrev R73 : List RS := [.pure .bool]
-- decamp/decampref14.Ver
abbrev P72 : List PS := [.pure T66]
abbrev R72 : List RS := [.pure .bool]
-- decamp/decampref17.Reply
abbrev P37 : List PS := [.pure T51]
abbrev R37 : List RS := [.pure .bool]
-- decamp/decampref17.Sess
abbrev P74 : List PS := [.pure (.slice T94), .pure (.int .i64)]
abbrev R74 : List RS := [.pure .bool]
-- decamp/decampref17.leases
abbrev P75 : List PS := [.pure (.slice T113)]
abbrev R75 : List RS := [.pure .bool]
-- decamp/decampref17.bare
abbrev P105 : List PS := [.pure T28]
abbrev R105 : List RS := [.pure .bool]
-- decamp/decampref17.cmps
abbrev P106 : List PS := [.pure (.slice T96)]
abbrev R106 : List RS := [.pure .bool]
-- decamp/decampref17.op
abbrev P135 : List PS := [.pure T48]
abbrev R135 : List RS := [.pure .bool]
-- decamp/decampref15.In
abbrev P151 : List PS := [.pure .str, .pure .str, .pure .str]
abbrev R151 : List RS := [.pure .bool]
-- decamp/decampref17.meet
abbrev P136 : List PS := [.pure T48, .pure T48]
abbrev R136 : List RS := [.pure .bool]
-- decamp/decampref17.ops
abbrev P107 : List PS := [.pure (.slice T48)]
abbrev R107 : List RS := [.pure .bool]
-- decamp/decampref17.page
abbrev P108 : List PS := [.pure T28]
abbrev R108 : List RS := [.pure .bool]
-- decamp/decampref17.tail
abbrev P109 : List PS := [.pure T28]
abbrev R109 : List RS := [.pure .bool]
-- decamp/decampref17.Right
abbrev P68 : List PS := [.pure T28]
abbrev R68 : List RS := [.pure .bool]
-- decamp/decampref17.RightJob
abbrev P33 : List PS := [.pure T33]
abbrev R33 : List RS := [.pure .bool]
-- decamp/decampref22.items
abbrev P39 : List PS := [.pure (.slice T70), .pure (.int .i64)]
abbrev R39 : List RS := [.pure .bool]
-- decamp/decampref22.batches
abbrev P38 : List PS := [.pure (.slice TB)]
abbrev R38 : List RS := [.pure .bool]
-- decamp/decampref22.None
abbrev P40 : List PS := [.pure T55]
abbrev R40 : List RS := [.pure .bool]
-- decamp/decampref17.Hand
abbrev P41 : List PS := [.pure T55]
abbrev R41 : List RS := [.pure .bool]
-- decamp/decampref17.Move
abbrev P42 : List PS := [.pure T53]
abbrev R42 : List RS := [.pure .bool]
-- decamp/decampref22.Right
abbrev P11 : List PS := [.pure TM]
abbrev R11 : List RS := [.pure .bool]
-- decamp/decamplaw11.To
abbrev P46 : List PS := [.pure T27]
abbrev R46 : List RS := [.pure T27]
-- decamp/decamplaw22.To
abbrev P13 : List PS := [.pure TM]
abbrev R13 : List RS := [.pure TM]
-- (*decamp/caller.Caller).Tick
abbrev P14 : List PS := [.obj Y100 []]
abbrev R14 : List RS := [.pure Y58, .pure .bool]
-- (*decamp/caller.Caller).Tick
abbrev P14a : List PS := [.nilp]
abbrev R14a : List RS := [.pure Y58, .pure .bool]
-- decamp/decamplaw11.Of
abbrev P53 : List PS := [.pure T27]
abbrev R53 : List RS := [.pure T27]
-- decamp/decamplaw22.Of
abbrev P16 : List PS := [.pure TM]
abbrev R16 : List RS := [.pure TM]
-- decamp/decamplaw24.CallerTurns
abbrev P3 : List PS := [.pure (.int .i64), .pure (.int .i64), .pure (.int .i64), .pure (.int .i64), .pure (.int .i64), .pure TM]
abbrev R3 : List RS := [.pure .bool]
-- (*decamp/caller.Caller).Hear
abbrev P17 : List PS := [.obj Y100 [], .pure (.int .i64), .pure TM]
abbrev R17 : List RS := [.pure TM, .pure .bool]
-- (*decamp/caller.Caller).Hear
abbrev P17a : List PS := [.nilp, .pure (.int .i64), .pure TM]
abbrev R17a : List RS := [.pure TM, .pure .bool]
-- decamp/decamplaw24.CallerOnce
-- decamp/decamplaw24.few
abbrev P20 : List PS := [.pure (.slice Y78), .pure (.int .i64)]
abbrev R20 : List RS := [.pure .bool]
-- (decamp/decampref24.Caller).parcel
abbrev P54 : List PS := [.pure Y76]
abbrev R54 : List RS := [.pure Y58]
-- (decamp/decampref24.Caller).Ask
abbrev P21 : List PS := [.pure Y76, .pure TM]
abbrev R21 : List RS := [.pure Y76, .pure Y58, .pure (.int .i64)]
-- decamp/decamplaw22.Sent
abbrev P55 : List PS := [.pure (.slice Y58), .pure (.slice Y58)]
abbrev R55 : List RS := [.pure .bool]
-- decamp/decamplaw24.one
abbrev P22 : List PS := [.pure Y58, .pure .bool, .pure (.slice Y58)]
abbrev R22 : List RS := [.pure .bool]
-- (decamp/decampref24.Caller).Tick
abbrev P23 : List PS := [.pure Y76]
abbrev R23 : List RS := [.pure Y76, .own false Y58]
-- decamp/decampref22.Answer
abbrev P56 : List PS := [.pure (.int .i64)]
abbrev R56 : List RS := [.pure (.int .i64)]
-- (decamp/decampref24.Caller).Hear
abbrev P24 : List PS := [.pure Y76, .pure (.int .i64), .pure TM]
abbrev R24 : List RS := [.pure Y76, .pure .bool]
-- (*decamp/caller.Caller).Drop
abbrev P26 : List PS := [.obj Y100 []]
abbrev R26 : List RS := []
-- (*decamp/caller.Caller).Drop
abbrev P26a : List PS := [.nilp]
abbrev R26a : List RS := []
-- (*decamp/caller.Caller).Target
abbrev P27 : List PS := [.obj Y100 []]
abbrev R27 : List RS := [.pure (.int .i64)]
-- (*decamp/caller.Caller).Target
abbrev P27a : List PS := [.nilp]
abbrev R27a : List RS := [.pure (.int .i64)]
-- decamp/decamplaw24.CallerPlays
abbrev P5 : List PS := [.pure (.int .i64), .pure (.int .i64), .pure (.int .i64), .pure (.int .i64), .pure (.int .i64), .pure (.slice Y78)]
abbrev R5 : List RS := [.pure .bool]
-- decamp/decamplaw24.CallerNil
end Go.Proofs.YtkiakaokgoodhaaGreat
