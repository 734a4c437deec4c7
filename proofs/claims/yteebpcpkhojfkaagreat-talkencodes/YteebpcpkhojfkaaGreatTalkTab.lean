/-
  Talk: by a program of the bench (seat.py).
-/
import Derived.Test.YteebpcpkhojfkaaGreatRows
import Derived.Test.YteebpcpkhojfkaaGreatSxR
namespace Go.Proofs.YteebpcpkhojfkaaGreat
open Go.Sx Go
abbrev T83 : Ty := (.pair (.slice .u8) .unit)
abbrev T25 : Ty := (.pair (.int .i64) (.pair (.int .i64) T83))
abbrev T27 : Ty := (.pair (.int .i64) (.pair (.int .i64) (.pair (.int .i64) (.pair (.int .i64) (.pair (.int .i64) (.pair (.int .i64) (.pair (.int .i64) (.pair (.int .i64) (.pair .bool (.pair (.slice T25) (.pair T25 .unit)))))))))))
abbrev T96 : Ty := (.pair .str (.pair (.int .i64) (.pair (.int .i64) (.pair (.int .i64) (.pair .str .unit)))))
abbrev T48 : Ty := (.pair (.int .i64) (.pair .str (.pair .str (.pair .str (.pair (.int .i64) .unit)))))
abbrev T66 : Ty := (.pair (.int .i64) (.pair (.int .i64) (.pair (.int .i64) (.pair (.int .i64) (.pair .str (.pair (.int .i64) (.pair .bool .unit)))))))
abbrev T70 : Ty := (.pair .str (.pair T66 .unit))
abbrev T51 : Ty := (.pair (.int .i64) (.pair (.int .i64) (.pair .bool (.pair (.int .i64) (.pair (.slice T70) (.pair (.int .i64) (.pair (.int .i64) .unit)))))))
abbrev T94 : Ty := (.pair (.int .i64) (.pair (.int .i64) (.pair T51 .unit)))
abbrev T113 : Ty := (.pair (.int .i64) (.pair (.int .i64) (.pair (.int .i64) .unit)))
abbrev T28 : Ty := (.pair (.int .i64) (.pair .str (.pair .str (.pair .str (.pair (.int .i64) (.pair (.int .i64) (.pair (.int .i64) (.pair (.slice T96) (.pair (.slice T48) (.pair (.slice T48) (.pair (.int .i64) (.pair (.int .i64) (.pair (.int .i64) (.pair .bool (.pair (.slice T70) (.pair (.slice T94) (.pair (.slice T113) .unit)))))))))))))))))
abbrev T33 : Ty := (.pair (.int .i64) (.pair (.int .i64) (.pair T28 .unit)))
abbrev T55 : Ty := (.pair (.int .i64) (.pair (.int .i64) (.pair (.slice T94) (.pair (.slice T113) .unit))))
abbrev T53 : Ty := (.pair (.int .i64) (.pair (.int .i64) (.pair (.int .i64) (.pair .str (.pair .str (.pair (.int .i64) (.pair .str T113)))))))
abbrev TB : Ty := (.pair (.int .i64) (.pair (.slice T70) .unit))
abbrev TM : Ty := (.pair (.int .i64) (.pair (.int .i64) (.pair T27 (.pair T33 (.pair (.int .i64) (.pair .str (.pair .str (.pair (.int .i64) (.pair (.int .i64) (.pair (.int .i64) (.pair (.int .i64) (.pair T51 (.pair (.slice TB) (.pair (.slice T70) (.pair .bool (.pair T55 (.pair T53 .unit)))))))))))))))))
abbrev T131 : Ty := (.pair (.slice .u8) (.pair .bool .unit))
def tab : Tab := { tys := [(2, (.int .i64)), (3, (.int .i64)), (4, .bool), (5, .u8), (9, .str), (22, (.slice T25)), (23, (.slice .u8)), (25, T25), (27, T27), (28, (.slice T96)), (29, (.slice T48)), (30, (.slice T70)), (31, (.slice T94)), (32, (.slice T113)), (34, T28), (36, T33), (37, (.int .i64)), (39, T51), (40, (.slice TB)), (42, T55), (44, T53), (46, TM), (51, T27), (52, T33), (54, TM), (69, TB), (73, T94), (75, T83), (123, T66), (125, T70), (135, T113), (136, T25), (138, T48), (140, T96), (143, (.int .u64)), (144, (.slice (.int .i64))), (145, (.slice (.int .i64))), (169, T131), (181, (.slice (.slice .u8))), (206, (.slice .str)), (225, (.slice T66))], ptrs := [78, 96], arrs := [(126, 3, 13), (182, 2, 5)] }
theorem tabOk : TabOk Tryz.prog tab := tabOkA_of (.cons (by kernel_rfl) (by kernel_rfl) (by kernel_rfl) (.cons (by kernel_rfl) (by kernel_rfl) (by kernel_rfl) (.cons (by kernel_rfl) (by kernel_rfl) (by kernel_rfl) (.cons (by kernel_rfl) (by kernel_rfl) (by kernel_rfl) (.cons (by kernel_rfl) (by kernel_rfl) (by kernel_rfl) (.cons (by kernel_rfl) (by kernel_rfl) (by kernel_rfl) (.cons (by kernel_rfl) (by kernel_rfl) (by kernel_rfl) (.cons (by kernel_rfl) (by kernel_rfl) (by kernel_rfl) (.cons (by kernel_rfl) (by kernel_rfl) (by kernel_rfl) (.cons (by kernel_rfl) (by kernel_rfl) (by kernel_rfl) (.cons (by kernel_rfl) (by kernel_rfl) (by kernel_rfl) (.cons (by kernel_rfl) (by kernel_rfl) (by kernel_rfl) (.cons (by kernel_rfl) (by kernel_rfl) (by kernel_rfl) (.cons (by kernel_rfl) (by kernel_rfl) (by kernel_rfl) (.cons (by kernel_rfl) (by kernel_rfl) (by kernel_rfl) (.cons (by kernel_rfl) (by kernel_rfl) (by kernel_rfl) (.cons (by kernel_rfl) (by kernel_rfl) (by kernel_rfl) (.cons (by kernel_rfl) (by kernel_rfl) (by kernel_rfl) (.cons (by kernel_rfl) (by kernel_rfl) (by kernel_rfl) (.cons (by kernel_rfl) (by kernel_rfl) (by kernel_rfl) (.cons (by kernel_rfl) (by kernel_rfl) (by kernel_rfl) (.cons (by kernel_rfl) (by kernel_rfl) (by kernel_rfl) (.cons (by kernel_rfl) (by kernel_rfl) (by kernel_rfl) (.cons (by kernel_rfl) (by kernel_rfl) (by kernel_rfl) (.cons (by kernel_rfl) (by kernel_rfl) (by kernel_rfl) (.cons (by kernel_rfl) (by kernel_rfl) (by kernel_rfl) (.cons (by kernel_rfl) (by kernel_rfl) (by kernel_rfl) (.cons (by kernel_rfl) (by kernel_rfl) (by kernel_rfl) (.cons (by kernel_rfl) (by kernel_rfl) (by kernel_rfl) (.cons (by kernel_rfl) (by kernel_rfl) (by kernel_rfl) (.cons (by kernel_rfl) (by kernel_rfl) (by kernel_rfl) (.cons (by kernel_rfl) (by kernel_rfl) (by kernel_rfl) (.cons (by kernel_rfl) (by kernel_rfl) (by kernel_rfl) (.cons (by kernel_rfl) (by kernel_rfl) (by kernel_rfl) (.cons (by kernel_rfl) (by kernel_rfl) (by kernel_rfl) (.cons (by kernel_rfl) (by kernel_rfl) (by kernel_rfl) (.cons (by kernel_rfl) (by kernel_rfl) (by kernel_rfl) (.cons (by kernel_rfl) (by kernel_rfl) (by kernel_rfl) (.cons (by kernel_rfl) (by kernel_rfl) (by kernel_rfl) (.cons (by kernel_rfl) (by kernel_rfl) (by kernel_rfl) (.cons (by kernel_rfl) (by kernel_rfl) (by kernel_rfl) (trivial)))))))))))))))))))))))))))))))))))))))))) (.cons (by kernel_rfl) (by kernel_rfl) (.cons (by kernel_rfl) (by kernel_rfl) (trivial))) (.cons (.int .i64) (by kernel_rfl) (by kernel_rfl) (by kernel_rfl) (.cons (.int .i64) (by kernel_rfl) (by kernel_rfl) (by kernel_rfl) (trivial)))
abbrev T83D := List UInt8 × Unit
abbrev T25D := Int × Int × T83D
abbrev T27D := Int × Int × Int × Int × Int × Int × Int × Int × Bool × List T25D × T25D × Unit
abbrev T96D := List UInt8 × Int × Int × Int × List UInt8 × Unit
abbrev T48D := Int × List UInt8 × List UInt8 × List UInt8 × Int × Unit
abbrev T66D := Int × Int × Int × Int × List UInt8 × Int × Bool × Unit
abbrev T70D := List UInt8 × T66D × Unit
abbrev T51D := Int × Int × Bool × Int × List T70D × Int × Int × Unit
abbrev T94D := Int × Int × T51D × Unit
abbrev T113D := Int × Int × Int × Unit
abbrev T28D := Int × List UInt8 × List UInt8 × List UInt8 × Int × Int × Int × List T96D × List T48D × List T48D × Int × Int × Int × Bool × List T70D × List T94D × List T113D × Unit
abbrev T33D := Int × Int × T28D × Unit
abbrev T55D := Int × Int × List T94D × List T113D × Unit
abbrev T53D := Int × Int × Int × List UInt8 × List UInt8 × Int × List UInt8 × T113D
abbrev TBD := Int × List T70D × Unit
abbrev TMD := Int × Int × T27D × T33D × Int × List UInt8 × List UInt8 × Int × Int × Int × Int × T51D × List TBD × List T70D × Bool × T55D × T53D × Unit
abbrev T131D := List UInt8 × Bool × Unit
-- bytes.Equal
abbrev P160 : List PS := [.pure (.slice .u8), .pure (.slice .u8)]
abbrev R160 : List RS := [.pure .bool]
-- decamp/entry.Same$1
abbrev P210 : List PS := [.pure T25, .pure T25]
abbrev R210 : List RS := [.pure .bool]
-- slices.EqualFunc[[]decamp/api.Entry,[]decamp/api.Entry,decamp/api.Entry,decamp/api.Entry]
abbrev P209a : List PS := [.pure (.slice T25), .pure (.slice T25), .fnc 210 0]
abbrev R209a : List RS := [.pure .bool]
-- decamp/entry.Same
abbrev P159 : List PS := [.pure (.slice T25), .pure (.slice T25)]
abbrev R159 : List RS := [.pure .bool]
-- decamp/rmsg.Same
abbrev P75 : List PS := [.pure T27, .pure T27]
abbrev R75 : List RS := [.pure .bool]
-- slices.Equal[[]decamp/api.Cmp,decamp/api.Cmp]
abbrev P161 : List PS := [.pure (.slice T96), .pure (.slice T96)]
abbrev R161 : List RS := [.pure .bool]
-- slices.Equal[[]decamp/api.Op,decamp/api.Op]
abbrev P162 : List PS := [.pure (.slice T48), .pure (.slice T48)]
abbrev R162 : List RS := [.pure .bool]
-- slices.Equal[[]decamp/api.Item,decamp/api.Item]
abbrev P79 : List PS := [.pure (.slice T70), .pure (.slice T70)]
abbrev R79 : List RS := [.pure .bool]
-- decamp/cmd.sameItems
abbrev P163 : List PS := [.pure (.slice T70), .pure (.slice T70)]
abbrev R163 : List RS := [.pure .bool]
-- decamp/cmd.SameReply
abbrev P77 : List PS := [.pure T51, .pure T51]
abbrev R77 : List RS := [.pure .bool]
-- decamp/cmd.sameSess$1
abbrev P212 : List PS := [.pure T94, .pure T94]
abbrev R212 : List RS := [.pure .bool]
-- slices.EqualFunc[[]decamp/api.Sess,[]decamp/api.Sess,decamp/api.Sess,decamp/api.Sess]
abbrev P211a : List PS := [.pure (.slice T94), .pure (.slice T94), .fnc 212 0]
abbrev R211a : List RS := [.pure .bool]
-- decamp/cmd.sameSess
abbrev P164 : List PS := [.pure (.slice T94), .pure (.slice T94)]
abbrev R164 : List RS := [.pure .bool]
-- slices.Equal[[]decamp/api.Lease,decamp/api.Lease]
abbrev P165 : List PS := [.pure (.slice T113), .pure (.slice T113)]
abbrev R165 : List RS := [.pure .bool]
-- decamp/cmd.Same
abbrev P76 : List PS := [.pure T28, .pure T28]
abbrev R76 : List RS := [.pure .bool]
-- decamp/talk.sameBatches$1
abbrev P167 : List PS := [.pure TB, .pure TB]
abbrev R167 : List RS := [.pure .bool]
-- slices.EqualFunc[[]decamp/api.Batch,[]decamp/api.Batch,decamp/api.Batch,decamp/api.Batch]
abbrev P166a : List PS := [.pure (.slice TB), .pure (.slice TB), .fnc 167 0]
abbrev R166a : List RS := [.pure .bool]
-- decamp/talk.sameBatches
abbrev P78 : List PS := [.pure (.slice TB), .pure (.slice TB)]
abbrev R78 : List RS := [.pure .bool]
-- decamp/talk.sameHand
abbrev P80 : List PS := [.pure T55, .pure T55]
abbrev R80 : List RS := [.pure .bool]
-- decamp/talk.Same
abbrev P18 : List PS := [.pure TM, .pure TM]
abbrev R18 : List RS := [.pure .bool]
-- decamp/talk.keep
abbrev P70 : List PS := [.pure TM]
abbrev R70 : List RS := [.pure TM]
-- decamp/rmsg.keep
abbrev P146 : List PS := [.pure T27]
abbrev R146 : List RS := [.pure T27, .pure .bool]
-- decamp/rmsg.node
abbrev P147 : List PS := [.pure (.int .i64)]
abbrev R147 : List RS := [.pure .bool]
-- decamp/rmsg.numbers
abbrev P148 : List PS := [.pure (.slice (.int .i64))]
abbrev R148 : List RS := [.pure .bool]
-- decamp/entry.number
abbrev P199 : List PS := [.pure (.int .i64)]
abbrev R199 : List RS := [.pure .bool]
-- decamp/entry.Right
abbrev P173 : List PS := [.pure T25]
abbrev R173 : List RS := [.pure .bool]
-- decamp/entry.Run
abbrev P149 : List PS := [.pure (.int .i64), .pure (.int .i64), .pure (.slice T25)]
abbrev R149 : List RS := [.pure .bool]
-- decamp/entry.RightSnap
abbrev P150 : List PS := [.pure T25]
abbrev R150 : List RS := [.pure .bool]
-- decamp/rmsg.Right
abbrev P71 : List PS := [.pure T27]
abbrev R71 : List RS := [.pure .bool]
-- decamp/talk.within
abbrev P72 : List PS := [.pure (.int .i64), .pure (.int .i64), .pure (.int .i64)]
abbrev R72 : List RS := [.pure .bool]
-- decamp/index.text
abbrev P200 : List PS := [.pure .str, .pure .u8]
abbrev R200 : List RS := [.pure .bool]
-- decamp/index.Key
abbrev P153 : List PS := [.pure .str]
abbrev R153 : List RS := [.pure .bool]
-- decamp/cmd.Prefix
abbrev P152 : List PS := [.pure .str]
abbrev R152 : List RS := [.pure .bool]
-- decamp/cmd.within
abbrev P176 : List PS := [.pure (.int .i64), .pure (.int .i64), .pure (.int .i64)]
abbrev R176 : List RS := [.pure .bool]
-- decamp/cmd.positive$1
abbrev P218 : List PS := [.pure (.int .i64)]
abbrev R218 : List RS := [.pure .bool]
-- slices.IndexFunc[[]int64,int64]
abbrev P234a : List PS := [.pure (.slice (.int .i64)), .fnc 218 0]
abbrev R234a : List RS := [.pure (.int .i64)]
-- slices.ContainsFunc[[]int64,int64]
abbrev P217a : List PS := [.pure (.slice (.int .i64)), .fnc 218 0]
abbrev R217a : List RS := [.pure .bool]
-- decamp/cmd.positive
abbrev P177 : List PS := [.pure (.slice (.int .i64))]
abbrev R177 : List RS := [.pure .bool]
-- decamp/cmd.natural$1
abbrev P226 : List PS := [.pure (.int .i64)]
abbrev R226 : List RS := [.pure .bool]
-- slices.IndexFunc[[]int64,int64]
abbrev P234b : List PS := [.pure (.slice (.int .i64)), .fnc 226 0]
abbrev R234b : List RS := [.pure (.int .i64)]
-- slices.ContainsFunc[[]int64,int64]
abbrev P217b : List PS := [.pure (.slice (.int .i64)), .fnc 226 0]
abbrev R217b : List RS := [.pure .bool]
-- decamp/cmd.natural
abbrev P201 : List PS := [.pure (.slice (.int .i64))]
abbrev R201 : List RS := [.pure .bool]
-- decamp/hist.number
abbrev P237 : List PS := [.pure (.int .i64)]
abbrev R237 : List RS := [.pure .bool]
-- decamp/hist.right
abbrev P228 : List PS := [.pure T66]
abbrev R228 : List RS := [.pure .bool]
-- decamp/hist.Right
abbrev P206 : List PS := [.pure (.slice T66)]
abbrev R206 : List RS := [.pure .bool]
-- decamp/cmd.version
abbrev P204 : List PS := [.pure T66]
abbrev R204 : List RS := [.pure .bool]
-- decamp/cmd.RightReply$1
abbrev P203 : List PS := [.pure T70]
abbrev R203 : List RS := [.pure .bool]
-- slices.IndexFunc[[]decamp/api.Item,decamp/api.Item]
abbrev P227a : List PS := [.pure (.slice T70), .fnc 203 0]
abbrev R227a : List RS := [.pure (.int .i64)]
-- slices.ContainsFunc[[]decamp/api.Item,decamp/api.Item]
abbrev P202a : List PS := [.pure (.slice T70), .fnc 203 0]
abbrev R202a : List RS := [.pure .bool]
-- decamp/cmd.RightReply
abbrev P154 : List PS := [.pure T51]
abbrev R154 : List RS := [.pure .bool]
-- decamp/cmd.rightSess
abbrev P229 : List PS := [.pure (.slice T94), .pure (.int .i64)]
abbrev R229 : List RS := [.pure .bool]
-- decamp/cmd.rightLeases
abbrev P230 : List PS := [.pure (.slice T113)]
abbrev R230 : List RS := [.pure .bool]
-- decamp/cmd.handed
abbrev P207 : List PS := [.pure (.slice T94), .pure (.slice T113)]
abbrev R207 : List RS := [.pure .bool]
-- decamp/cmd.keepClient
abbrev P231 : List PS := [.pure T28]
abbrev R231 : List RS := [.pure T28]
-- decamp/cmd.keep
abbrev P213 : List PS := [.pure T28]
abbrev R213 : List RS := [.pure T28]
-- decamp/index.Range
abbrev P151 : List PS := [.pure .str, .pure .str]
abbrev R151 : List RS := [.pure .bool]
-- decamp/cmd.put
abbrev P232 : List PS := [.pure .str, .pure .str, .pure (.int .i64)]
abbrev R232 : List RS := [.pure .bool]
-- decamp/cmd.rightCmp
abbrev P240 : List PS := [.pure T96]
abbrev R240 : List RS := [.pure .bool]
-- decamp/cmd.rightTxn$1
abbrev P239 : List PS := [.pure T96]
abbrev R239 : List RS := [.pure .bool]
-- slices.IndexFunc[[]decamp/api.Cmp,decamp/api.Cmp]
abbrev P242a : List PS := [.pure (.slice T96), .fnc 239 0]
abbrev R242a : List RS := [.pure (.int .i64)]
-- slices.ContainsFunc[[]decamp/api.Cmp,decamp/api.Cmp]
abbrev P238a : List PS := [.pure (.slice T96), .fnc 239 0]
abbrev R238a : List RS := [.pure .bool]
-- decamp/cmd.rightOp
abbrev P243 : List PS := [.pure T48]
abbrev R243 : List RS := [.pure .bool]
-- decamp/index.In
abbrev P248 : List PS := [.pure .str, .pure .str, .pure .str]
abbrev R248 : List RS := [.pure .bool]
-- decamp/cmd.meet
abbrev P246 : List PS := [.pure T48, .pure T48]
abbrev R246 : List RS := [.pure .bool]
-- decamp/cmd.rightOps$1
abbrev P245 : List PS := [.pure T48]
abbrev R245 : List RS := [.pure .bool]
-- decamp/cmd.rightOps$1
abbrev P245a : List PS := [.pure T48, .obj T48 [false, false, false, false, false]]
abbrev R245a : List RS := [.pure .bool]
-- slices.IndexFunc[[]decamp/api.Op,decamp/api.Op]
abbrev P247a : List PS := [.pure (.slice T48), .fnc 245 1, .obj T48 [false, false, false, false, false]]
abbrev R247a : List RS := [.pure (.int .i64)]
-- slices.ContainsFunc[[]decamp/api.Op,decamp/api.Op]
abbrev P244a : List PS := [.pure (.slice T48), .fnc 245 1, .obj T48 [false, false, false, false, false]]
abbrev R244a : List RS := [.pure .bool]
-- decamp/cmd.rightOps
abbrev P241 : List PS := [.pure (.slice T48)]
abbrev R241 : List RS := [.pure .bool]
-- decamp/cmd.rightTxn
abbrev P233 : List PS := [.pure T28]
abbrev R233 : List RS := [.pure .bool]
-- decamp/cmd.rightClient
abbrev P214 : List PS := [.pure T28]
abbrev R214 : List RS := [.pure .bool]
-- decamp/cmd.rightPage
abbrev P215 : List PS := [.pure T28]
abbrev R215 : List RS := [.pure .bool]
-- decamp/cmd.rightTail
abbrev P216 : List PS := [.pure T28]
abbrev R216 : List RS := [.pure .bool]
-- decamp/cmd.Right
abbrev P175 : List PS := [.pure T28]
abbrev R175 : List RS := [.pure .bool]
-- decamp/cmd.RightJob
abbrev P94 : List PS := [.pure T33]
abbrev R94 : List RS := [.pure .bool]
-- decamp/talk.asks
abbrev P73 : List PS := [.pure TM]
abbrev R73 : List RS := [.pure .bool]
-- decamp/talk.noHand
abbrev P100 : List PS := [.pure T55]
abbrev R100 : List RS := [.pure .bool]
-- decamp/talk.items$1
abbrev P205 : List PS := [.pure T70]
abbrev R205 : List RS := [.pure .bool]
-- slices.IndexFunc[[]decamp/api.Item,decamp/api.Item]
abbrev P227b : List PS := [.pure (.slice T70), .fnc 205 0]
abbrev R227b : List RS := [.pure (.int .i64)]
-- slices.ContainsFunc[[]decamp/api.Item,decamp/api.Item]
abbrev P202b : List PS := [.pure (.slice T70), .fnc 205 0]
abbrev R202b : List RS := [.pure .bool]
-- decamp/talk.items
abbrev P156 : List PS := [.pure (.slice T70), .pure (.int .i64)]
abbrev R156 : List RS := [.pure .bool]
-- decamp/talk.batches
abbrev P155 : List PS := [.pure (.slice TB)]
abbrev R155 : List RS := [.pure .bool]
-- decamp/cmd.RightHand
abbrev P157 : List PS := [.pure T55]
abbrev R157 : List RS := [.pure .bool]
-- decamp/cmd.RightMove$1
abbrev P208a : List PS := [.pure .str, .fnc 152 0]
abbrev R208a : List RS := [.pure .bool]
-- decamp/cmd.RightMove$1
abbrev P208b : List PS := [.pure .str, .fnc 153 0]
abbrev R208b : List RS := [.pure .bool]
-- decamp/cmd.RightMove
abbrev P158 : List PS := [.pure T53]
abbrev R158 : List RS := [.pure .bool]
-- decamp/talk.answers
abbrev P74 : List PS := [.pure TM]
abbrev R74 : List RS := [.pure .bool]
-- decamp/talk.Right
abbrev P17 : List PS := [.pure TM]
abbrev R17 : List RS := [.pure .bool]
-- (*decamp/octets.Out).wide
abbrev P89 : List PS := [.obj T83 [true], .pure (.int .u64), .pure (.int .i64)]
abbrev R89 : List RS := []
-- (*decamp/octets.Out).Byte
abbrev P25 : List PS := [.obj T83 [true], .pure .u8]
abbrev R25 : List RS := []
-- (*decamp/octets.Out).Num
abbrev P28 : List PS := [.obj T83 [true], .pure (.int .i64)]
abbrev R28 : List RS := []
-- (*decamp/octets.Out).Flag
abbrev P90 : List PS := [.obj T83 [true], .pure .bool]
abbrev R90 : List RS := []
-- (*decamp/octets.Out).Count
abbrev P91 : List PS := [.obj T83 [true], .pure (.int .i64)]
abbrev R91 : List RS := []
-- (*decamp/octets.Out).Bytes
abbrev P29 : List PS := [.obj T83 [true], .pure (.slice .u8)]
abbrev R29 : List RS := []
-- decamp/entry.put
abbrev P174 : List PS := [.obj T83 [true], .pure (.int .i64), .pure (.int .i64), .pure (.slice .u8)]
abbrev R174 : List RS := []
-- decamp/entry.Put
abbrev P92 : List PS := [.obj T83 [true], .pure T25]
abbrev R92 : List RS := []
-- decamp/entry.PutSnap
abbrev P93 : List PS := [.obj T83 [true], .pure T25]
abbrev R93 : List RS := []
-- decamp/rmsg.Put
abbrev P26 : List PS := [.obj T83 [true], .pure T27]
abbrev R26 : List RS := []
-- bytes.Clone
abbrev P103 : List PS := [.pure (.slice .u8)]
abbrev R103 : List RS := [.own false .u8]
-- (*decamp/octets.Out).End
abbrev P31 : List PS := [.obj T83 [true]]
abbrev R31 : List RS := [.own false .u8, .pure (.int .i64)]
-- (*decamp/octets.Out).Text
abbrev P97 : List PS := [.obj T83 [true], .pure .str]
abbrev R97 : List RS := []
-- decamp/cmd.putCmps
abbrev P178 : List PS := [.obj T83 [true], .pure (.slice T96)]
abbrev R178 : List RS := []
-- decamp/cmd.putOps
abbrev P179 : List PS := [.obj T83 [true], .pure (.slice T48)]
abbrev R179 : List RS := []
-- decamp/cmd.mayVer
abbrev P235 : List PS := [.pure T66]
abbrev R235 : List RS := [.pure .bool]
-- decamp/cmd.rightItem
abbrev P219 : List PS := [.pure T70]
abbrev R219 : List RS := [.pure .bool]
-- decamp/cmd.PutVer
abbrev P220 : List PS := [.obj T83 [true], .pure T66]
abbrev R220 : List RS := []
-- decamp/cmd.PutItem
abbrev P182 : List PS := [.obj T83 [true], .pure T70]
abbrev R182 : List RS := []
-- decamp/cmd.putItems
abbrev P180 : List PS := [.obj T83 [true], .pure (.slice T70)]
abbrev R180 : List RS := []
-- decamp/cmd.PutReply
abbrev P98 : List PS := [.obj T83 [true], .pure T51]
abbrev R98 : List RS := []
-- decamp/cmd.putHanded
abbrev P181 : List PS := [.obj T83 [true], .pure (.slice T94), .pure (.slice T113)]
abbrev R181 : List RS := []
-- decamp/cmd.putCmd
abbrev P95 : List PS := [.obj T83 [true], .pure T28]
abbrev R95 : List RS := []
-- decamp/cmd.Encode
abbrev P27 : List PS := [.pure T33]
abbrev R27 : List RS := [.own false .u8, .pure (.int .i64)]
-- decamp/talk.put$1
abbrev P96 : List PS := [.pure (.slice (.int .i64))]
abbrev R96 : List RS := []
-- decamp/talk.put$1
abbrev P96a : List PS := [.pure (.slice (.int .i64)), .box, .obj T83 [true]]
abbrev R96a : List RS := []
-- decamp/talk.putItems
abbrev P99 : List PS := [.obj T83 [true], .pure (.slice T70)]
abbrev R99 : List RS := []
-- decamp/cmd.PutHand
abbrev P101 : List PS := [.obj T83 [true], .pure T55]
abbrev R101 : List RS := []
-- decamp/cmd.PutMove
abbrev P102 : List PS := [.obj T83 [true], .pure T53]
abbrev R102 : List RS := []
-- decamp/talk.put
abbrev P30 : List PS := [.obj T83 [true], .pure TM]
abbrev R30 : List RS := []
-- decamp/talk.Encode
abbrev P9 : List PS := [.pure TM]
abbrev R9 : List RS := [.own false .u8, .pure (.int .i64)]
-- decamp/octets.NewIn
abbrev P47 : List PS := [.pure (.slice .u8)]
abbrev R47 : List RS := [.newobj T131 [true, false]]
-- (*decamp/octets.In).Fail
abbrev P126 : List PS := [.obj T131 []]
abbrev R126 : List RS := []
-- (*decamp/octets.In).take
abbrev P190 : List PS := [.obj T131 [], .pure (.int .i64)]
abbrev R190 : List RS := [.pure (.slice .u8)]
-- (*decamp/octets.In).wide
abbrev P120 : List PS := [.obj T131 [], .pure (.int .i64)]
abbrev R120 : List RS := [.pure (.int .u64)]
-- (*decamp/octets.In).Byte
abbrev P48 : List PS := [.obj T131 []]
abbrev R48 : List RS := [.pure .u8]
-- (*decamp/octets.In).Num
abbrev P50 : List PS := [.obj T131 []]
abbrev R50 : List RS := [.pure (.int .i64)]
-- (*decamp/octets.In).Flag
abbrev P121 : List PS := [.obj T131 []]
abbrev R121 : List RS := [.pure .bool]
-- (*decamp/octets.In).Left
abbrev P191 : List PS := [.obj T131 []]
abbrev R191 : List RS := [.pure (.int .i64)]
-- (*decamp/octets.In).Count
abbrev P122 : List PS := [.obj T131 [], .pure (.int .i64)]
abbrev R122 : List RS := [.pure (.int .i64)]
-- (*decamp/octets.In).Bad
abbrev P125 : List PS := [.obj T131 []]
abbrev R125 : List RS := [.pure .bool]
-- (*decamp/octets.In).Bytes
abbrev P129 : List PS := [.obj T131 [], .pure (.int .i64)]
abbrev R129 : List RS := [.pure (.slice .u8)]
-- decamp/entry.Get
abbrev P123 : List PS := [.obj T131 []]
abbrev R123 : List RS := [.pure T25]
-- decamp/entry.GetSnap
abbrev P124 : List PS := [.obj T131 []]
abbrev R124 : List RS := [.pure T25]
-- decamp/rmsg.Get
abbrev P49 : List PS := [.obj T131 []]
abbrev R49 : List RS := [.pure T27]
-- decamp/talk.get$1
abbrev P127 : List PS := []
abbrev R127 : List RS := [.pure (.int .i64)]
-- decamp/talk.get$1
abbrev P127a : List PS := [.box, .obj T131 []]
abbrev R127a : List RS := [.pure (.int .i64)]
-- (*decamp/octets.In).Done
abbrev P52 : List PS := [.obj T131 []]
abbrev R52 : List RS := [.pure .bool]
-- (*decamp/octets.In).Text
abbrev P130 : List PS := [.obj T131 [], .pure (.int .i64)]
abbrev R130 : List RS := [.pure .str]
-- decamp/cmd.GetVer
abbrev P225 : List PS := [.obj T131 []]
abbrev R225 : List RS := [.pure T66]
-- decamp/cmd.GetItem
abbrev P194 : List PS := [.obj T131 []]
abbrev R194 : List RS := [.pure T70]
-- decamp/cmd.getItems
abbrev P193 : List PS := [.obj T131 []]
abbrev R193 : List RS := [.own false T70]
-- decamp/cmd.GetReply
abbrev P131 : List PS := [.obj T131 []]
abbrev R131 : List RS := [.pure T51]
-- decamp/cmd.getHanded
abbrev P195 : List PS := [.obj T131 []]
abbrev R195 : List RS := [.own false T94, .own false T113]
-- decamp/cmd.getCmps
abbrev P223 : List PS := [.obj T131 []]
abbrev R223 : List RS := [.own false T96]
-- decamp/cmd.getOps
abbrev P224 : List PS := [.obj T131 []]
abbrev R224 : List RS := [.own false T48]
-- decamp/cmd.getCmd
abbrev P192 : List PS := [.obj T131 []]
abbrev R192 : List RS := [.pure T28]
-- decamp/cmd.Decode
abbrev P128 : List PS := [.pure (.slice .u8)]
abbrev R128 : List RS := [.pure T33, .pure (.int .i64)]
-- decamp/talk.getItems
abbrev P132 : List PS := [.obj T131 []]
abbrev R132 : List RS := [.own false T70]
-- decamp/cmd.GetHand
abbrev P133 : List PS := [.obj T131 []]
abbrev R133 : List RS := [.pure T55]
-- decamp/cmd.GetMove
abbrev P134 : List PS := [.obj T131 []]
abbrev R134 : List RS := [.pure T53]
-- decamp/talk.get
abbrev P51 : List PS := [.obj T131 [], .obj TM [false, false, false, false, false, false, false, false, false, false, false, false, true, false, false, false, false]]
abbrev R51 : List RS := []
-- decamp/talk.Decode
abbrev P13 : List PS := [.pure (.slice .u8)]
abbrev R13 : List RS := [.pure TM, .pure (.int .i64)]
-- decamp/decamplaw22.awake
abbrev P7 : List PS := []
abbrev R7 : List RS := [.pure .bool]
-- decamp/decampref17.Few
abbrev P23 : List PS := [.pure T28]
abbrev R23 : List RS := [.pure .bool]
-- decamp/decampref07.Few
abbrev P88 : List PS := [.pure (.slice T25), .pure (.int .i64)]
abbrev R88 : List RS := [.pure .bool]
-- decamp/decampref11.Few
abbrev P24 : List PS := [.pure T27]
abbrev R24 : List RS := [.pure .bool]
-- decamp/decampref22.Few
abbrev P8 : List PS := [.pure TM]
abbrev R8 : List RS := [.pure .bool]
-- decamp/decamplaw11.To
abbrev P32 : List PS := [.pure T27]
abbrev R32 : List RS := [.pure T27]
-- decamp/decamplaw22.To
abbrev P10 : List PS := [.pure TM]
abbrev R10 : List RS := [.pure TM]
-- decamp/decampref07.One
abbrev P198 : List PS := [.pure T25, .pure T25]
abbrev R198 : List RS := [.pure .bool]
-- decamp/decampref07.Same
abbrev P140 : List PS := [.pure (.slice T25), .pure (.slice T25)]
abbrev R140 : List RS := [.pure .bool]
-- decamp/decampref07.SameSnap
abbrev P141 : List PS := [.pure T25, .pure T25]
abbrev R141 : List RS := [.pure .bool]
-- decamp/decampref11.Same
abbrev P63 : List PS := [.pure T27, .pure T27]
abbrev R63 : List RS := [.pure .bool]
-- decamp/decampref15.SameItems
abbrev P67 : List PS := [.pure (.slice T70), .pure (.slice T70)]
abbrev R67 : List RS := [.pure .bool]
-- decamp/decampref17.sameCmps
abbrev P142 : List PS := [.pure (.slice T96), .pure (.slice T96)]
abbrev R142 : List RS := [.pure .bool]
-- decamp/decampref17.sameOps
abbrev P143 : List PS := [.pure (.slice T48), .pure (.slice T48)]
abbrev R143 : List RS := [.pure .bool]
-- decamp/decampref17.SameReply
abbrev P65 : List PS := [.pure T51, .pure T51]
abbrev R65 : List RS := [.pure .bool]
-- decamp/decampref17.SameSess
abbrev P144 : List PS := [.pure (.slice T94), .pure (.slice T94)]
abbrev R144 : List RS := [.pure .bool]
-- decamp/decampref17.SameLeases
abbrev P145 : List PS := [.pure (.slice T113), .pure (.slice T113)]
abbrev R145 : List RS := [.pure .bool]
-- decamp/decampref17.Same
abbrev P64 : List PS := [.pure T28, .pure T28]
abbrev R64 : List RS := [.pure .bool]
-- decamp/decampref15.SameBatches
abbrev P66 : List PS := [.pure (.slice TB), .pure (.slice TB)]
abbrev R66 : List RS := [.pure .bool]
-- decamp/decampref17.SameHand
abbrev P68 : List PS := [.pure T55, .pure T55]
abbrev R68 : List RS := [.pure .bool]
-- decamp/decampref22.Same
abbrev P15 : List PS := [.pure TM, .pure TM]
abbrev R15 : List RS := [.pure .bool]
-- decamp/decampref22.bare
abbrev P33 : List PS := [.pure TM]
abbrev R33 : List RS := [.pure TM]
-- decamp/decampref11.number
abbrev P104 : List PS := [.pure (.int .i64)]
abbrev R104 : List RS := [.pure .bool]
-- decamp/decampref11.bare
abbrev P105 : List PS := [.pure T27]
abbrev R105 : List RS := [.pure .bool]
-- decamp/decampref07.number
abbrev P184 : List PS := [.pure (.int .i64)]
abbrev R184 : List RS := [.pure .bool]
-- decamp/decampref07.Right
abbrev P183 : List PS := [.pure T25]
abbrev R183 : List RS := [.pure .bool]
-- decamp/decampref07.Run
abbrev P106 : List PS := [.pure (.int .i64), .pure (.int .i64), .pure (.slice T25)]
abbrev R106 : List RS := [.pure .bool]
-- decamp/decampref07.Snap
abbrev P107 : List PS := [.pure T25]
abbrev R107 : List RS := [.pure .bool]
-- decamp/decampref11.Right
abbrev P34 : List PS := [.pure T27]
abbrev R34 : List RS := [.pure .bool]
-- decamp/decampref22.within
abbrev P35 : List PS := [.pure (.int .i64), .pure (.int .i64), .pure (.int .i64)]
abbrev R35 : List RS := [.pure .bool]
-- decamp/decampref15.text
abbrev P111 : List PS := [.pure .str, .pure .u8]
abbrev R111 : List RS := [.pure .bool]
-- decamp/decampref15.Key
abbrev P39 : List PS := [.pure .str]
abbrev R39 : List RS := [.pure .bool]
-- decamp/decampref15.Range
abbrev P37 : List PS := [.pure .str, .pure .str]
abbrev R37 : List RS := [.pure .bool]
-- decamp/decampref17.Prefix
abbrev P38 : List PS := [.pure .str]
abbrev R38 : List RS := [.pure .bool]
-- decamp/decampref17.within
abbrev P109 : List PS := [.pure (.int .i64), .pure (.int .i64), .pure (.int .i64)]
abbrev R109 : List RS := [.pure .bool]
-- decamp/decampref17.one
abbrev P110 : List PS := [.pure (.int .i64)]
abbrev R110 : List RS := [.pure .bool]
-- decamp/decampref17.natural
abbrev P113 : List PS := [.pure (.int .i64)]
abbrev R113 : List RS := [.pure .bool]
-- decamp/decampref14.Ver
abbrev P112 : List PS := [.pure T66]
abbrev R112 : List RS := [.pure .bool]
-- decamp/decampref17.Reply
abbrev P40 : List PS := [.pure T51]
abbrev R40 : List RS := [.pure .bool]
-- decamp/decampref17.Sess
abbrev P114 : List PS := [.pure (.slice T94), .pure (.int .i64)]
abbrev R114 : List RS := [.pure .bool]
-- decamp/decampref17.leases
abbrev P115 : List PS := [.pure (.slice T113)]
abbrev R115 : List RS := [.pure .bool]
-- decamp/decampref17.bare
abbrev P185 : List PS := [.pure T28]
abbrev R185 : List RS := [.pure .bool]
-- decamp/decampref17.cmps
abbrev P186 : List PS := [.pure (.slice T96)]
abbrev R186 : List RS := [.pure .bool]
-- decamp/decampref17.op
abbrev P221 : List PS := [.pure T48]
abbrev R221 : List RS := [.pure .bool]
-- decamp/decampref15.In
abbrev P236 : List PS := [.pure .str, .pure .str, .pure .str]
abbrev R236 : List RS := [.pure .bool]
-- decamp/decampref17.meet
abbrev P222 : List PS := [.pure T48, .pure T48]
abbrev R222 : List RS := [.pure .bool]
-- decamp/decampref17.ops
abbrev P187 : List PS := [.pure (.slice T48)]
abbrev R187 : List RS := [.pure .bool]
-- decamp/decampref17.page
abbrev P188 : List PS := [.pure T28]
abbrev R188 : List RS := [.pure .bool]
-- decamp/decampref17.tail
abbrev P189 : List PS := [.pure T28]
abbrev R189 : List RS := [.pure .bool]
-- decamp/decampref17.Right
abbrev P108 : List PS := [.pure T28]
abbrev R108 : List RS := [.pure .bool]
-- decamp/decampref17.RightJob
abbrev P36 : List PS := [.pure T33]
abbrev R36 : List RS := [.pure .bool]
-- decamp/decampref22.items
abbrev P42 : List PS := [.pure (.slice T70), .pure (.int .i64)]
abbrev R42 : List RS := [.pure .bool]
-- decamp/decampref22.batches
abbrev P41 : List PS := [.pure (.slice TB)]
abbrev R41 : List RS := [.pure .bool]
-- decamp/decampref22.None
abbrev P43 : List PS := [.pure T55]
abbrev R43 : List RS := [.pure .bool]
-- decamp/decampref17.Hand
abbrev P44 : List PS := [.pure T55]
abbrev R44 : List RS := [.pure .bool]
-- decamp/decampref17.Move
abbrev P45 : List PS := [.pure T53]
abbrev R45 : List RS := [.pure .bool]
-- decamp/decampref22.Right
abbrev P11 : List PS := [.pure TM]
abbrev R11 : List RS := [.pure .bool]
-- decamp/decampref03.Wide
abbrev P138 : List PS := [.pure (.int .u64), .pure (.int .i64)]
abbrev R138 : List RS := [.own false .u8]
-- decamp/decampref03.Num
abbrev P135 : List PS := [.pure (.int .i64)]
abbrev R135 : List RS := [.own false .u8]
-- decamp/decampref17.Nums
abbrev P55 : List PS := [.pure (.slice (.int .i64))]
abbrev R55 : List RS := [.own false .u8]
-- decamp/decampref03.Count
abbrev P58 : List PS := [.pure (.int .i64)]
abbrev R58 : List RS := [.own false .u8]
-- decamp/decampref03.Text
abbrev P56 : List PS := [.pure .str]
abbrev R56 : List RS := [.own false .u8]
-- decamp/decampref03.Flag
abbrev P60 : List PS := [.pure .bool]
abbrev R60 : List RS := [.own false .u8]
-- decamp/decampref17.join
abbrev P116 : List PS := [.pure (.slice (.slice .u8))]
abbrev R116 : List RS := [.own false .u8]
-- decamp/decampref17.opsBytes
abbrev P117 : List PS := [.pure (.slice T48)]
abbrev R117 : List RS := [.own false .u8]
-- decamp/decampref17.VerBytes
abbrev P197 : List PS := [.pure T66]
abbrev R197 : List RS := [.own false .u8]
-- decamp/decampref17.ItemBytes
abbrev P139 : List PS := [.pure T70]
abbrev R139 : List RS := [.own false .u8]
-- decamp/decampref17.itemsBytes
abbrev P118 : List PS := [.pure (.slice T70)]
abbrev R118 : List RS := [.own false .u8]
-- decamp/decampref17.ReplyBytes
abbrev P57 : List PS := [.pure T51]
abbrev R57 : List RS := [.own false .u8]
-- decamp/decampref17.handedBytes
abbrev P119 : List PS := [.pure (.slice T94), .pure (.slice T113)]
abbrev R119 : List RS := [.own false .u8]
-- decamp/decampref17.Bytes
abbrev P46 : List PS := [.pure T33]
abbrev R46 : List RS := [.own false .u8]
-- decamp/decampref22.join
abbrev P53 : List PS := [.pure (.slice (.slice .u8))]
abbrev R53 : List RS := [.own false .u8]
-- decamp/decampref07.three
abbrev P196 : List PS := [.pure (.int .i64), .pure (.int .i64), .pure (.slice .u8)]
abbrev R196 : List RS := [.own false .u8]
-- decamp/decampref07.Bytes
abbrev P136 : List PS := [.pure T25]
abbrev R136 : List RS := [.own false .u8]
-- decamp/decampref07.SnapBytes
abbrev P137 : List PS := [.pure T25]
abbrev R137 : List RS := [.own false .u8]
-- decamp/decampref11.Bytes
abbrev P54 : List PS := [.pure T27]
abbrev R54 : List RS := [.own false .u8]
-- decamp/decampref22.itemsBytes
abbrev P59 : List PS := [.pure (.slice T70)]
abbrev R59 : List RS := [.own false .u8]
-- decamp/decampref17.HandBytes
abbrev P61 : List PS := [.pure T55]
abbrev R61 : List RS := [.own false .u8]
-- decamp/decampref17.MoveBytes
abbrev P62 : List PS := [.pure T53]
abbrev R62 : List RS := [.own false .u8]
-- decamp/decampref22.Bytes
abbrev P14 : List PS := [.pure TM]
abbrev R14 : List RS := [.own false .u8]
-- decamp/decampref22.Long
abbrev P12 : List PS := [.pure TM]
abbrev R12 : List RS := [.pure .bool]
-- decamp/decamplaw11.Of
abbrev P69 : List PS := [.pure T27]
abbrev R69 : List RS := [.pure T27]
-- decamp/decamplaw22.Of
abbrev P16 : List PS := [.pure TM]
abbrev R16 : List RS := [.pure TM]
-- decamp/decamplaw22.TalkEncodes
abbrev P3 : List PS := [.pure TM]
abbrev R3 : List RS := [.pure .bool]
-- decamp/decamplaw22.TalkDecodes
-- decamp/talk.Answer
-- decamp/decampref22.Answer
-- decamp/decamplaw22.TalkRight
-- slices.Clone[[]decamp/api.Entry,decamp/api.Entry]
-- slices.Clone[[]byte,byte]
-- decamp/talk.cloneRaft
-- slices.Clone[[]decamp/api.Item,decamp/api.Item]
-- decamp/talk.cloneReply
-- slices.Clone[[]decamp/api.Sess,decamp/api.Sess]
-- decamp/talk.cloneSess
-- slices.Clone[[]decamp/api.Lease,decamp/api.Lease]
-- slices.Clone[[]decamp/api.Cmp,decamp/api.Cmp]
-- slices.Clone[[]decamp/api.Op,decamp/api.Op]
-- decamp/talk.cloneCmd
-- slices.Clone[[]decamp/api.Batch,decamp/api.Batch]
-- decamp/talk.Clone
-- decamp/decamplaw22.spoil
-- decamp/decamplaw22.TalkClones
end Go.Proofs.YteebpcpkhojfkaaGreat
