/-
  Index: by a program of the bench (seat.py).
-/
import Derived.Test.YtphdilmnielgeaaRows
import Derived.Test.YtphdilmnielgeaaSxS
namespace Go.Proofs.Ytphdilmnielgeaa
open Go.Sx Go
abbrev T37 : Ty := (.pair (.int .i64) (.pair (.int .i64) (.pair (.int .i64) (.pair (.int .i64) (.pair .str (.pair (.int .i64) (.pair .bool .unit)))))))
abbrev T28 : Ty := (.tree .str (.slice T37))
abbrev T30 : Ty := (.pair T28 .unit)
abbrev T32 : Ty := (.pair T30 .unit)
abbrev T39 : Ty := (.pair .u8 (.pair .str (.pair .str (.pair (.int .i64) (.pair (.int .i64) (.pair .str (.pair (.int .i64) (.pair T37 .unit))))))))
abbrev T51 : Ty := (.pair .str (.pair (.slice T37) .unit))
abbrev T66 : Ty := (.pair .str (.pair T37 .unit))
abbrev T69 : Ty := (.pair .str (.pair .str (.pair .str (.pair (.int .i64) (.pair (.int .i64) (.pair (.int .i64) (.pair (.int .i64) (.pair (.int .i64) .unit))))))))
abbrev T79 : Ty := (.pair (.int .i64) (.pair (.slice T66) .unit))
abbrev T130 : Ty := (.pair T51 (.pair T28 (.pair T28 (.pair (.int .i64) (.pair (.int .i64) .unit)))))
def tab : Tab := { tys := [(2, (.int .i64)), (3, (.int .i64)), (4, .bool), (5, .u8), (9, .str), (26, (.slice T39)), (28, T28), (30, T30), (32, T32), (33, (.slice T51)), (37, T37), (39, T39), (47, (.slice T51)), (49, (.slice T37)), (51, T51), (54, T51), (56, (.slice .str)), (60, (.slice T66)), (66, T66), (69, T69), (74, (.slice T79)), (79, T79), (87, (.int .i64)), (113, (.slice (.int .i64))), (130, T130), (143, (.int .u64))], ptrs := [28] }
theorem tabOk : TabOk Try.prog tab := tabOk_of (.cons (by kernel_rfl) (by kernel_rfl) (by kernel_rfl) (.cons (by kernel_rfl) (by kernel_rfl) (by kernel_rfl) (.cons (by kernel_rfl) (by kernel_rfl) (by kernel_rfl) (.cons (by kernel_rfl) (by kernel_rfl) (by kernel_rfl) (.cons (by kernel_rfl) (by kernel_rfl) (by kernel_rfl) (.cons (by kernel_rfl) (by kernel_rfl) (by kernel_rfl) (.cons (by kernel_rfl) (by kernel_rfl) (by kernel_rfl) (.cons (by kernel_rfl) (by kernel_rfl) (by kernel_rfl) (.cons (by kernel_rfl) (by kernel_rfl) (by kernel_rfl) (.cons (by kernel_rfl) (by kernel_rfl) (by kernel_rfl) (.cons (by kernel_rfl) (by kernel_rfl) (by kernel_rfl) (.cons (by kernel_rfl) (by kernel_rfl) (by kernel_rfl) (.cons (by kernel_rfl) (by kernel_rfl) (by kernel_rfl) (.cons (by kernel_rfl) (by kernel_rfl) (by kernel_rfl) (.cons (by kernel_rfl) (by kernel_rfl) (by kernel_rfl) (.cons (by kernel_rfl) (by kernel_rfl) (by kernel_rfl) (.cons (by kernel_rfl) (by kernel_rfl) (by kernel_rfl) (.cons (by kernel_rfl) (by kernel_rfl) (by kernel_rfl) (.cons (by kernel_rfl) (by kernel_rfl) (by kernel_rfl) (.cons (by kernel_rfl) (by kernel_rfl) (by kernel_rfl) (.cons (by kernel_rfl) (by kernel_rfl) (by kernel_rfl) (.cons (by kernel_rfl) (by kernel_rfl) (by kernel_rfl) (.cons (by kernel_rfl) (by kernel_rfl) (by kernel_rfl) (.cons (by kernel_rfl) (by kernel_rfl) (by kernel_rfl) (.cons (by kernel_rfl) (by kernel_rfl) (by kernel_rfl) (.cons (by kernel_rfl) (by kernel_rfl) (by kernel_rfl) (trivial))))))))))))))))))))))))))) (.cons (by kernel_rfl) (by kernel_rfl) (trivial))
abbrev T37D := Int × Int × Int × Int × List UInt8 × Int × Bool × Unit
abbrev T28D := Tree (List UInt8) (List T37D)
abbrev T30D := T28D × Unit
abbrev T32D := T30D × Unit
abbrev T39D := UInt8 × List UInt8 × List UInt8 × Int × Int × List UInt8 × Int × T37D × Unit
abbrev T51D := List UInt8 × List T37D × Unit
abbrev T66D := List UInt8 × T37D × Unit
-- decamp/index.text
abbrev P44 : List PS := [.pure .str, .pure .u8]
abbrev R44 : List RS := [.pure .bool]
-- decamp/index.Key
abbrev P14 : List PS := [.pure .str]
abbrev R14 : List RS := [.pure .bool]
-- cmp.isNaN[string]
abbrev P91 : List PS := [.pure .str]
abbrev R91 : List RS := [.pure .bool]
-- cmp.Compare[string]
abbrev P81 : List PS := [.pure .str, .pure .str]
abbrev R81 : List RS := [.pure (.int .i64)]
-- (decamp/order.Map[string, []decamp/api.Ver]).Get
abbrev P52 : List PS := [.pure T30, .pure .str]
abbrev R52 : List RS := [.pure (.slice T37), .pure .bool]
-- decamp/hist.number
abbrev P99 : List PS := [.pure (.int .i64)]
abbrev R99 : List RS := [.pure .bool]
-- decamp/hist.right
abbrev P92 : List PS := [.pure T37]
abbrev R92 : List RS := [.pure .bool]
-- decamp/hist.Right
abbrev P84 : List PS := [.pure (.slice T37)]
abbrev R84 : List RS := [.pure .bool]
-- decamp/hist.At
abbrev P60 : List PS := [.pure (.slice T37), .pure (.int .i64)]
abbrev R60 : List RS := [.pure T37, .pure .bool]
-- decamp/hist.Live
abbrev P53 : List PS := [.pure (.slice T37)]
abbrev R53 : List RS := [.pure T37, .pure .bool]
-- (decamp/index.Index).Live
abbrev P24 : List PS := [.pure T32, .pure .str]
abbrev R24 : List RS := [.pure T37, .pure .bool]
-- slices.Clone[[]decamp/api.Ver,decamp/api.Ver]
abbrev P57 : List PS := [.pure (.slice T37)]
abbrev R57 : List RS := [.own false T37]
-- decamp/hist.Add
abbrev P79 : List PS := [.pure (.slice T37), .pure T37]
abbrev R79 : List RS := [.own false T37, .pure (.int .i64)]
-- decamp/hist.Put
abbrev P73 : List PS := [.pure (.slice T37), .pure (.int .i64), .pure (.int .i64), .pure .str, .pure (.int .i64)]
abbrev R73 : List RS := [.own false T37, .pure (.int .i64)]
-- (*decamp/order.node[string, []decamp/api.Ver]).depth
abbrev P105 : List PS := [.pure T28]
abbrev R105 : List RS := [.pure (.int .i64)]
-- (*decamp/order.node[string, []decamp/api.Ver]).size
abbrev P106 : List PS := [.pure T28]
abbrev R106 : List RS := [.pure (.int .i64)]
-- decamp/order.tree[string,[]decamp/api.Ver]
abbrev P103 : List PS := [.pure T51, .pure T28, .pure T28]
abbrev R103 : List RS := [.pure T28]
-- decamp/order.even[string,[]decamp/api.Ver]
abbrev P101 : List PS := [.pure T51, .pure T28, .pure T28]
abbrev R101 : List RS := [.pure T28]
-- (*decamp/order.node[string, []decamp/api.Ver]).least
abbrev P102 : List PS := [.pure T28]
abbrev R102 : List RS := [.pure T51, .pure T28]
-- (*decamp/order.node[string, []decamp/api.Ver]).del
abbrev P97 : List PS := [.pure T28, .pure .str]
abbrev R97 : List RS := [.pure T28]
-- (decamp/order.Map[string, []decamp/api.Ver]).Del
abbrev P89 : List PS := [.pure T30, .pure .str]
abbrev R89 : List RS := [.pure T30]
-- (*decamp/order.node[string, []decamp/api.Ver]).put
abbrev P98 : List PS := [.pure T28, .pure T51]
abbrev R98 : List RS := [.pure T28]
-- (decamp/order.Map[string, []decamp/api.Ver]).Put
abbrev P90 : List PS := [.pure T30, .pure .str, .pure (.slice T37)]
abbrev R90 : List RS := [.pure T30]
-- (decamp/index.Index).put
abbrev P69 : List PS := [.pure T32, .pure .str, .pure (.slice T37)]
abbrev R69 : List RS := [.pure T32]
-- (decamp/index.Index).changed
abbrev P74 : List PS := [.pure T32, .pure .str, .pure (.slice T37), .pure (.int .i64)]
abbrev R74 : List RS := [.pure T32, .pure (.int .i64)]
-- (decamp/index.Index).Put
abbrev P43 : List PS := [.pure T32, .pure .str, .pure (.int .i64), .pure (.int .i64), .pure .str, .pure (.int .i64)]
abbrev R43 : List RS := [.pure T32, .pure (.int .i64)]
-- decamp/decamplaw15.awake
abbrev P13 : List PS := []
abbrev R13 : List RS := [.pure .bool]
-- decamp/decampref15.text
abbrev P45 : List PS := [.pure .str, .pure .u8]
abbrev R45 : List RS := [.pure .bool]
-- decamp/decampref15.Key
abbrev P15 : List PS := [.pure .str]
abbrev R15 : List RS := [.pure .bool]
-- decamp/index.Range
abbrev P16 : List PS := [.pure .str, .pure .str]
abbrev R16 : List RS := [.pure .bool]
-- decamp/decampref15.Range
abbrev P17 : List PS := [.pure .str, .pure .str]
abbrev R17 : List RS := [.pure .bool]
-- decamp/index.In
-- decamp/decampref15.In
abbrev P19 : List PS := [.pure .str, .pure .str, .pure .str]
abbrev R19 : List RS := [.pure .bool]
-- decamp/decamplaw15.IndexKeys
abbrev P3 : List PS := [.pure .str, .pure .str, .pure .str]
abbrev R3 : List RS := [.pure .bool]
-- decamp/decamplaw15.few
abbrev P20 : List PS := [.pure (.slice T39), .pure (.int .i64)]
abbrev R20 : List RS := [.pure .bool]
-- (decamp/order.Map[string, []decamp/api.Ver]).All$1
abbrev P83 : List PS := [.pure T51]
abbrev R83 : List RS := []
-- (decamp/order.Map[string, []decamp/api.Ver]).All$1
abbrev P83a : List PS := [.pure T51, .obj (.slice T51) [true, true]]
abbrev R83a : List RS := []
-- (*decamp/order.node[string, []decamp/api.Ver]).each
abbrev P82a : List PS := [.pure T28, .fnc 83 1, .obj (.slice T51) [true, true]]
abbrev R82a : List RS := []
-- (decamp/order.Map[string, []decamp/api.Ver]).All
abbrev P56 : List PS := [.pure T30]
abbrev R56 : List RS := [.own false T51]
-- (decamp/index.Index).All
abbrev P27 : List PS := [.pure T32]
abbrev R27 : List RS := [.own false T51]
-- (decamp/index.Index).All
abbrev P27z : List PS := [.pure T32]
abbrev R27z : List RS := [.deep T51]
-- decamp/hist.Trim
abbrev P70 : List PS := [.pure (.slice T37), .pure (.int .i64)]
abbrev R70 : List RS := [.own false T37]
-- (decamp/index.Index).Trim
abbrev P39 : List PS := [.pure T32, .pure (.int .i64)]
abbrev R39 : List RS := [.pure T32]
-- decamp/decampref15.Set
abbrev P71 : List PS := [.pure (.slice T51), .pure .str, .pure (.slice T37)]
abbrev R71 : List RS := [.own false T51]
-- decamp/decampref14.Ver
abbrev P58 : List PS := [.pure T37]
abbrev R58 : List RS := [.pure .bool]
-- decamp/decampref14.Right
abbrev P28 : List PS := [.pure (.slice T37)]
abbrev R28 : List RS := [.pure .bool]
-- decamp/decampref14.At
abbrev P54 : List PS := [.pure (.slice T37), .pure (.int .i64)]
abbrev R54 : List RS := [.pure T37, .pure .bool]
-- decamp/decampref14.Trim
abbrev P72 : List PS := [.pure (.slice T37), .pure (.int .i64)]
abbrev R72 : List RS := [.own false T37]
-- decamp/decampref15.Trim
abbrev P40 : List PS := [.pure (.slice T51), .pure (.int .i64)]
abbrev R40 : List RS := [.pure (.slice T51)]
-- (decamp/order.Map[string, []decamp/api.Ver]).Between$1
abbrev P94 : List PS := [.pure T51]
abbrev R94 : List RS := []
-- (decamp/order.Map[string, []decamp/api.Ver]).Between$1
abbrev P94a : List PS := [.pure T51, .obj (.slice T51) [true, true]]
abbrev R94a : List RS := []
-- (*decamp/order.node[string, []decamp/api.Ver]).walk
abbrev P93a : List PS := [.pure T28, .pure .str, .pure .str, .fnc 94 1, .obj (.slice T51) [true, true]]
abbrev R93a : List RS := []
-- (decamp/order.Map[string, []decamp/api.Ver]).Between
abbrev P86 : List PS := [.pure T30, .pure .str, .pure .str]
abbrev R86 : List RS := [.own false T51]
-- (decamp/index.Index).within
abbrev P62 : List PS := [.pure T32, .pure .str, .pure .str]
abbrev R62 : List RS := [.own false T51]
-- (decamp/index.Index).Drop
abbrev P41 : List PS := [.pure T32, .pure .str, .pure .str]
abbrev R41 : List RS := [.pure T32]
-- decamp/decampref15.Drop
abbrev P42 : List PS := [.pure (.slice T51), .pure .str, .pure .str]
abbrev R42 : List RS := [.own false T51]
-- decamp/decampref15.Get
abbrev P55 : List PS := [.pure (.slice T51), .pure .str]
abbrev R55 : List RS := [.pure (.slice T37)]
-- decamp/decampref14.Add
abbrev P80 : List PS := [.pure (.slice T37), .pure T37]
abbrev R80 : List RS := [.own false T37, .pure .bool]
-- decamp/decampref14.Put
abbrev P75 : List PS := [.pure (.slice T37), .pure (.int .i64), .pure (.int .i64), .pure .str, .pure (.int .i64)]
abbrev R75 : List RS := [.own false T37, .pure .bool]
-- decamp/decampref15.Put
abbrev P46 : List PS := [.pure (.slice T51), .pure .str, .pure (.int .i64), .pure (.int .i64), .pure .str, .pure (.int .i64)]
abbrev R46 : List RS := [.own false T51, .pure .bool]
-- decamp/hist.Del
abbrev P76 : List PS := [.pure (.slice T37), .pure (.int .i64), .pure (.int .i64)]
abbrev R76 : List RS := [.own false T37, .pure (.int .i64)]
-- (decamp/index.Index).Del
abbrev P47 : List PS := [.pure T32, .pure .str, .pure .str, .pure (.int .i64), .pure (.int .i64)]
abbrev R47 : List RS := [.pure T32, .pure (.int .i64), .pure (.int .i64)]
-- decamp/decampref15.Live
abbrev P25 : List PS := [.pure (.slice T51), .pure .str]
abbrev R25 : List RS := [.pure T37, .pure .bool]
-- decamp/decampref15.Keys
abbrev P77 : List PS := [.pure (.slice T51), .pure .str, .pure .str]
abbrev R77 : List RS := [.own false .str]
-- decamp/decampref14.Del
abbrev P78 : List PS := [.pure (.slice T37), .pure (.int .i64), .pure (.int .i64)]
abbrev R78 : List RS := [.own false T37, .pure (.int .i64)]
-- decamp/decampref15.Del
abbrev P48 : List PS := [.pure (.slice T51), .pure .str, .pure .str, .pure (.int .i64), .pure (.int .i64)]
abbrev R48 : List RS := [.pure (.slice T51), .pure (.int .i64), .pure .bool]
-- (decamp/index.Index).Add
abbrev P49 : List PS := [.pure T32, .pure .str, .pure T37]
abbrev R49 : List RS := [.pure T32, .pure (.int .i64)]
-- decamp/decampref15.Add
abbrev P50 : List PS := [.pure (.slice T51), .pure .str, .pure T37]
abbrev R50 : List RS := [.own false T51, .pure .bool]
-- decamp/decamplaw15.do
abbrev P21 : List PS := [.pure T32, .pure (.slice T51), .pure T39]
abbrev R21 : List RS := [.pure T32, .pure (.slice T51), .pure .bool]
-- decamp/decampref14.Same
abbrev P51 : List PS := [.pure (.slice T37), .pure (.slice T37)]
abbrev R51 : List RS := [.pure .bool]
-- decamp/decampref15.Same
abbrev P22 : List PS := [.pure (.slice T51), .pure (.slice T51)]
abbrev R22 : List RS := [.pure .bool]
-- decamp/decamplaw15.Of
abbrev P23 : List PS := [.pure T32]
abbrev R23 : List RS := [.own false T51]
-- decamp/decamplaw15.IndexPlays
-- decamp/decamplaw15.made
abbrev P26 : List PS := [.pure (.slice T39)]
abbrev R26 : List RS := [.pure T32, .pure (.slice T51), .pure .bool]
-- decamp/decamplaw15.IndexOwn
abbrev P5 : List PS := [.pure (.slice T39), .pure (.slice T39)]
abbrev R5 : List RS := [.pure .bool]
-- (decamp/index.Index).Leased
-- decamp/decampref15.Leased
-- decamp/decamplaw15.IndexLeased
-- decamp/decampref15.begins
-- decamp/decampref15.Behind
-- internal/stringslite.HasPrefix
-- strings.HasPrefix
-- (decamp/index.Index).Behind
-- decamp/decampref15.SameItems
-- decamp/decamplaw15.IndexPages
-- (decamp/index.Index).At
-- decamp/decampref15.At
-- decamp/decamplaw15.IndexReads
-- decamp/hist.Since
-- cmp.isNaN[int64]
-- cmp.Compare[int64]
-- (decamp/index.Index).Changes$1
-- slices.swapRangeCmpFunc[decamp/api.Item]
-- slices.rotateCmpFunc[decamp/api.Item]
-- slices.symMergeCmpFunc[decamp/api.Item]
-- slices.insertionSortCmpFunc[decamp/api.Item]
-- slices.stableCmpFunc[decamp/api.Item]
-- slices.SortStableFunc[[]decamp/api.Item,decamp/api.Item]
-- decamp/index.batches
-- (decamp/index.Index).Changes
-- decamp/decampref15.SameBatches
-- decamp/decampref15.revs
-- decamp/decampref15.Changes
-- decamp/decamplaw15.IndexTells
-- decamp/decamplaw15.IndexReplays
-- decamp/decamplaw15.IndexTrims
-- decamp/decamplaw15.IndexDrops
end Go.Proofs.Ytphdilmnielgeaa
