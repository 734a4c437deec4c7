/-
  Wiro: by a program of the bench (seat.py).
-/
import Derived.Test.YtcbomldaooeplaaWiroTab
namespace Go.Proofs.Ytcbomldaooeplaa
open Go.Sx Go
set_option maxRecDepth 100000
noncomputable section
-- decamp/wire.New
def F7 (x : Int × Unit) : Option ((Bool × T48D) × Int × Unit) :=
 bif decide (x.1 < 1) then some ((false, 0, 0, (Tree.leaf, ()), ()), 1, ())
 else
 bif decide (256 < x.1) then some ((false, 0, 0, (Tree.leaf, ()), ()), 1, ())
 else some ((true, x.1, 0, (Tree.leaf, ()), ()), 0, ())
def S7 : Sig := ⟨P7, R7, F7⟩
noncomputable def E7 : Env := { tab := tab, nt := 13, Γ := lookG [], joins := lookN [], loops := lookN [] }
theorem raw7_eq (x : Int × Unit) : afun E7 Try.f7 P7 R7 x = F7 x := by kernel_rfl
-- (*decamp/order.node[int64, decamp/wire.Parcel]).size
def F20 (x : T44D × Unit) : Option (Int × Unit) :=
 bif isLeaf x.1 then some (0, ())
 else
 Option.bind
 (openN (Ty.int IntKind.i64)
 (Ty.pair (Ty.int IntKind.i64) (Ty.pair (Ty.int IntKind.i64) (Ty.pair (Ty.slice Ty.u8) Ty.unit))) x.1)
 fun
 (_z :
 T52D × Tree Int T32D × Tree Int T32D × Int × Int × Unit) =>
 Option.bind
 (openN (Ty.int IntKind.i64)
 (Ty.pair (Ty.int IntKind.i64) (Ty.pair (Ty.int IntKind.i64) (Ty.pair (Ty.slice Ty.u8) Ty.unit))) x.1)
 fun
 (b :
 T52D × Tree Int T32D × Tree Int T32D × Int × Int × Unit) =>
 some (b.2.2.2.1, ())
def S20 : Sig := ⟨P20, R20, F20⟩
noncomputable def E20 : Env := { tab := tab, nt := 9, Γ := lookG [], joins := lookN [], loops := lookN [] }
theorem raw20_eq (x : T44D × Unit) : afun E20 Try.f20 P20 R20 x = F20 x := by kernel_rfl
-- (decamp/order.Map[int64, decamp/wire.Parcel]).Len
def F14 (x : T46D × Unit) : Option (Int × Unit) :=
 Option.bind (F20 x.1) fun (b : Int × Unit) => some b
def S14 : Sig := ⟨P14, R14, F14⟩
noncomputable def E14 : Env := { tab := tab, nt := 6, Γ := lookG [(20, [S20])], joins := lookN [], loops := lookN [] }
theorem raw14_eq (x : T46D × Unit) : afun E14 Try.f14 P14 R14 x = F14 x := by kernel_rfl
-- (*decamp/order.node[int64, decamp/wire.Parcel]).depth
def F32 (x : T44D × Unit) : Option (Int × Unit) :=
 bif isLeaf x.1 then some (0, ())
 else
 Option.bind
 (openN (Ty.int IntKind.i64)
 (Ty.pair (Ty.int IntKind.i64) (Ty.pair (Ty.int IntKind.i64) (Ty.pair (Ty.slice Ty.u8) Ty.unit))) x.1)
 fun
 (_z :
 T52D × Tree Int T32D × Tree Int T32D × Int × Int × Unit) =>
 Option.bind
 (openN (Ty.int IntKind.i64)
 (Ty.pair (Ty.int IntKind.i64) (Ty.pair (Ty.int IntKind.i64) (Ty.pair (Ty.slice Ty.u8) Ty.unit))) x.1)
 fun
 (b :
 T52D × Tree Int T32D × Tree Int T32D × Int × Int × Unit) =>
 some b.2.2.2.2
def S32 : Sig := ⟨P32, R32, F32⟩
noncomputable def E32 : Env := { tab := tab, nt := 9, Γ := lookG [], joins := lookN [], loops := lookN [] }
theorem raw32_eq (x : T44D × Unit) : afun E32 Try.f32 P32 R32 x = F32 x := by kernel_rfl
-- decamp/order.tree[int64,decamp/wire.Parcel]
def F28 (x : T52D × T44D × T44D × Unit) : Option (T44D × Unit) :=
 Option.bind (F20 (x.2.1, ())) fun (b : Int × Unit) =>
 Option.bind (F20 x.2.2) fun (b_1 : Int × Unit) =>
 Option.bind (F32 (x.2.1, ())) fun (b_2 : Int × Unit) =>
 Option.bind (F32 x.2.2) fun (b_3 : Int × Unit) =>
 some
 (nodeOf (Ty.int IntKind.i64)
 (Ty.pair (Ty.int IntKind.i64) (Ty.pair (Ty.int IntKind.i64) (Ty.pair (Ty.slice Ty.u8) Ty.unit)))
 (x.1, x.2.1, x.2.2.1,
 wrap64 (wrap64 (b.1 + b_1.1) + 1),
 wrap64 (maxI b_2.1 b_3.1 + 1), ()),
 ())
def S28 : Sig := ⟨P28, R28, F28⟩
noncomputable def E28 : Env := { tab := tab, nt := 24, Γ := lookG [(20, [S20]), (32, [S32])], joins := lookN [], loops := lookN [] }
theorem raw28_eq (x : T52D × T44D × T44D × Unit) : afun E28 Try.f28 P28 R28 x = F28 x := by kernel_rfl
-- cmp.isNaN[int64]
def F33 (x : Int × Unit) : Option (Bool × Unit) := some (!decide (x.1 = x.1), ())
def S33 : Sig := ⟨P33, R33, F33⟩
noncomputable def E33 : Env := { tab := tab, nt := 6, Γ := lookG [], joins := lookN [], loops := lookN [] }
theorem raw33_eq (x : Int × Unit) : afun E33 Try.f33 P33 R33 x = F33 x := by kernel_rfl
-- cmp.Compare[int64]
def F29 (x : Int × Int × Unit) : Option (Int × Unit) :=
 Option.bind (F33 (x.1, ())) fun (b : Bool × Unit) =>
 Option.bind (F33 x.2) fun (b_1 : Bool × Unit) =>
 bif b.1 then bif b_1.1 then some (0, ()) else some (-1, ())
 else
 bif b_1.1 then some (1, ())
 else
 bif decide (x.1 < x.2.1) then some (-1, ())
 else bif decide (x.2.1 < x.1) then some (1, ()) else some (0, ())
def S29 : Sig := ⟨P29, R29, F29⟩
noncomputable def E29 : Env := { tab := tab, nt := 20, Γ := lookG [(33, [S33])], joins := lookN [], loops := lookN [] }
theorem raw29_eq (x : Int × Int × Unit) : afun E29 Try.f29 P29 R29 x = F29 x := by kernel_rfl
-- decamp/order.even[int64,decamp/wire.Parcel]
def F30 (x : T52D × T44D × T44D × Unit) : Option (T44D × Unit) :=
 Option.bind (F32 (x.2.1, ())) fun (b : Int × Unit) =>
 Option.bind (F32 x.2.2) fun (b_1 : Int × Unit) =>
 bif decide (wrap64 (b_1.1 + 1) < b.1) then
 Option.bind
 (openN (Ty.int IntKind.i64)
 (Ty.pair (Ty.int IntKind.i64) (Ty.pair (Ty.int IntKind.i64) (Ty.pair (Ty.slice Ty.u8) Ty.unit))) x.2.1)
 fun
 (_z :
 T52D × Tree Int T32D × Tree Int T32D × Int × Int × Unit) =>
 Option.bind
 (openN (Ty.int IntKind.i64)
 (Ty.pair (Ty.int IntKind.i64) (Ty.pair (Ty.int IntKind.i64) (Ty.pair (Ty.slice Ty.u8) Ty.unit)))
 x.2.1)
 fun
 (b :
 T52D × Tree Int T32D × Tree Int T32D × Int × Int × Unit) =>
 Option.bind (F32 (b.2.1, ())) fun (b : Int × Unit) =>
 Option.bind
 (openN (Ty.int IntKind.i64)
 (Ty.pair (Ty.int IntKind.i64) (Ty.pair (Ty.int IntKind.i64) (Ty.pair (Ty.slice Ty.u8) Ty.unit)))
 x.2.1)
 fun
 (_z :
 T52D × Tree Int T32D × Tree Int T32D × Int × Int × Unit) =>
 Option.bind
 (openN (Ty.int IntKind.i64)
 (Ty.pair (Ty.int IntKind.i64) (Ty.pair (Ty.int IntKind.i64) (Ty.pair (Ty.slice Ty.u8) Ty.unit)))
 x.2.1)
 fun
 (b_2 :
 T52D × Tree Int T32D × Tree Int T32D × Int × Int × Unit) =>
 Option.bind (F32 (b_2.2.2.1, ())) fun (b_3 : Int × Unit) =>
 bif decide (b_3.1 ≤ b.1) then
 Option.bind
 (openN (Ty.int IntKind.i64)
 (Ty.pair (Ty.int IntKind.i64)
 (Ty.pair (Ty.int IntKind.i64) (Ty.pair (Ty.slice Ty.u8) Ty.unit)))
 x.2.1)
 fun
 (_z :
 T52D × Tree Int T32D × Tree Int T32D × Int × Int × Unit) =>
 Option.bind
 (openN (Ty.int IntKind.i64)
 (Ty.pair (Ty.int IntKind.i64)
 (Ty.pair (Ty.int IntKind.i64) (Ty.pair (Ty.slice Ty.u8) Ty.unit)))
 x.2.1)
 fun
 (b :
 T52D × Tree Int T32D × Tree Int T32D × Int × Int × Unit) =>
 Option.bind
 (openN (Ty.int IntKind.i64)
 (Ty.pair (Ty.int IntKind.i64)
 (Ty.pair (Ty.int IntKind.i64) (Ty.pair (Ty.slice Ty.u8) Ty.unit)))
 x.2.1)
 fun
 (_z :
 T52D × Tree Int T32D × Tree Int T32D × Int × Int × Unit) =>
 Option.bind
 (openN (Ty.int IntKind.i64)
 (Ty.pair (Ty.int IntKind.i64)
 (Ty.pair (Ty.int IntKind.i64) (Ty.pair (Ty.slice Ty.u8) Ty.unit)))
 x.2.1)
 fun
 (b_4 :
 T52D × Tree Int T32D × Tree Int T32D × Int × Int × Unit) =>
 Option.bind
 (openN (Ty.int IntKind.i64)
 (Ty.pair (Ty.int IntKind.i64)
 (Ty.pair (Ty.int IntKind.i64) (Ty.pair (Ty.slice Ty.u8) Ty.unit)))
 x.2.1)
 fun
 (_z :
 T52D × Tree Int T32D × Tree Int T32D × Int × Int × Unit) =>
 Option.bind
 (openN (Ty.int IntKind.i64)
 (Ty.pair (Ty.int IntKind.i64)
 (Ty.pair (Ty.int IntKind.i64) (Ty.pair (Ty.slice Ty.u8) Ty.unit)))
 x.2.1)
 fun
 (b_5 :
 T52D × Tree Int T32D × Tree Int T32D × Int × Int × Unit) =>
 Option.bind (F28 (x.1, b_5.2.2.1, x.2.2))
 fun (b_6 : Tree Int T32D × Unit) =>
 Option.bind (F28 (b.1, b_4.2.1, b_6))
 fun (b : Tree Int T32D × Unit) => some b
 else
 Option.bind
 (openN (Ty.int IntKind.i64)
 (Ty.pair (Ty.int IntKind.i64)
 (Ty.pair (Ty.int IntKind.i64) (Ty.pair (Ty.slice Ty.u8) Ty.unit)))
 x.2.1)
 fun
 (_z :
 T52D × Tree Int T32D × Tree Int T32D × Int × Int × Unit) =>
 Option.bind
 (openN (Ty.int IntKind.i64)
 (Ty.pair (Ty.int IntKind.i64)
 (Ty.pair (Ty.int IntKind.i64) (Ty.pair (Ty.slice Ty.u8) Ty.unit)))
 x.2.1)
 fun
 (b :
 T52D × Tree Int T32D × Tree Int T32D × Int × Int × Unit) =>
 Option.bind
 (openN (Ty.int IntKind.i64)
 (Ty.pair (Ty.int IntKind.i64)
 (Ty.pair (Ty.int IntKind.i64) (Ty.pair (Ty.slice Ty.u8) Ty.unit)))
 b.2.2.1)
 fun
 (_z :
 T52D × Tree Int T32D × Tree Int T32D × Int × Int × Unit) =>
 Option.bind
 (openN (Ty.int IntKind.i64)
 (Ty.pair (Ty.int IntKind.i64)
 (Ty.pair (Ty.int IntKind.i64) (Ty.pair (Ty.slice Ty.u8) Ty.unit)))
 b.2.2.1)
 fun
 (b_4 :
 T52D × Tree Int T32D × Tree Int T32D × Int × Int × Unit) =>
 Option.bind
 (openN (Ty.int IntKind.i64)
 (Ty.pair (Ty.int IntKind.i64)
 (Ty.pair (Ty.int IntKind.i64) (Ty.pair (Ty.slice Ty.u8) Ty.unit)))
 x.2.1)
 fun
 (_z :
 T52D × Tree Int T32D × Tree Int T32D × Int × Int × Unit) =>
 Option.bind
 (openN (Ty.int IntKind.i64)
 (Ty.pair (Ty.int IntKind.i64)
 (Ty.pair (Ty.int IntKind.i64) (Ty.pair (Ty.slice Ty.u8) Ty.unit)))
 x.2.1)
 fun
 (b_5 :
 T52D × Tree Int T32D × Tree Int T32D × Int × Int × Unit) =>
 Option.bind
 (openN (Ty.int IntKind.i64)
 (Ty.pair (Ty.int IntKind.i64)
 (Ty.pair (Ty.int IntKind.i64) (Ty.pair (Ty.slice Ty.u8) Ty.unit)))
 x.2.1)
 fun
 (_z :
 T52D × Tree Int T32D × Tree Int T32D × Int × Int × Unit) =>
 Option.bind
 (openN (Ty.int IntKind.i64)
 (Ty.pair (Ty.int IntKind.i64)
 (Ty.pair (Ty.int IntKind.i64) (Ty.pair (Ty.slice Ty.u8) Ty.unit)))
 x.2.1)
 fun
 (b_6 :
 T52D × Tree Int T32D × Tree Int T32D × Int × Int × Unit) =>
 Option.bind
 (openN (Ty.int IntKind.i64)
 (Ty.pair (Ty.int IntKind.i64)
 (Ty.pair (Ty.int IntKind.i64) (Ty.pair (Ty.slice Ty.u8) Ty.unit)))
 b.2.2.1)
 fun
 (_z :
 T52D × Tree Int T32D × Tree Int T32D × Int × Int × Unit) =>
 Option.bind
 (openN (Ty.int IntKind.i64)
 (Ty.pair (Ty.int IntKind.i64)
 (Ty.pair (Ty.int IntKind.i64) (Ty.pair (Ty.slice Ty.u8) Ty.unit)))
 b.2.2.1)
 fun
 (b_7 :
 T52D × Tree Int T32D × Tree Int T32D × Int × Int × Unit) =>
 Option.bind (F28 (b_5.1, b_6.2.1, b_7.2.1, ()))
 fun (b_8 : Tree Int T32D × Unit) =>
 Option.bind
 (openN (Ty.int IntKind.i64)
 (Ty.pair (Ty.int IntKind.i64)
 (Ty.pair (Ty.int IntKind.i64) (Ty.pair (Ty.slice Ty.u8) Ty.unit)))
 b.2.2.1)
 fun
 (_z :
 T52D × Tree Int T32D × Tree Int T32D × Int × Int × Unit) =>
 Option.bind
 (openN (Ty.int IntKind.i64)
 (Ty.pair (Ty.int IntKind.i64)
 (Ty.pair (Ty.int IntKind.i64) (Ty.pair (Ty.slice Ty.u8) Ty.unit)))
 b.2.2.1)
 fun
 (b :
 T52D × Tree Int T32D × Tree Int T32D × Int × Int × Unit) =>
 Option.bind (F28 (x.1, b.2.2.1, x.2.2))
 fun (b : Tree Int T32D × Unit) =>
 Option.bind (F28 (b_4.1, b_8.1, b))
 fun (b : Tree Int T32D × Unit) =>
 some b
 else
 Option.bind (F32 x.2.2) fun (b : Int × Unit) =>
 Option.bind (F32 (x.2.1, ())) fun (b_2 : Int × Unit) =>
 bif decide (wrap64 (b_2.1 + 1) < b.1) then
 Option.bind
 (openN (Ty.int IntKind.i64)
 (Ty.pair (Ty.int IntKind.i64) (Ty.pair (Ty.int IntKind.i64) (Ty.pair (Ty.slice Ty.u8) Ty.unit)))
 x.2.2.1)
 fun
 (_z :
 T52D × Tree Int T32D × Tree Int T32D × Int × Int × Unit) =>
 Option.bind
 (openN (Ty.int IntKind.i64)
 (Ty.pair (Ty.int IntKind.i64) (Ty.pair (Ty.int IntKind.i64) (Ty.pair (Ty.slice Ty.u8) Ty.unit)))
 x.2.2.1)
 fun
 (b :
 T52D × Tree Int T32D × Tree Int T32D × Int × Int × Unit) =>
 Option.bind (F32 (b.2.2.1, ())) fun (b : Int × Unit) =>
 Option.bind
 (openN (Ty.int IntKind.i64)
 (Ty.pair (Ty.int IntKind.i64) (Ty.pair (Ty.int IntKind.i64) (Ty.pair (Ty.slice Ty.u8) Ty.unit)))
 x.2.2.1)
 fun
 (_z :
 T52D × Tree Int T32D × Tree Int T32D × Int × Int × Unit) =>
 Option.bind
 (openN (Ty.int IntKind.i64)
 (Ty.pair (Ty.int IntKind.i64)
 (Ty.pair (Ty.int IntKind.i64) (Ty.pair (Ty.slice Ty.u8) Ty.unit)))
 x.2.2.1)
 fun
 (b_3 :
 T52D × Tree Int T32D × Tree Int T32D × Int × Int × Unit) =>
 Option.bind (F32 (b_3.2.1, ())) fun (b_4 : Int × Unit) =>
 bif decide (b_4.1 ≤ b.1) then
 Option.bind
 (openN (Ty.int IntKind.i64)
 (Ty.pair (Ty.int IntKind.i64)
 (Ty.pair (Ty.int IntKind.i64) (Ty.pair (Ty.slice Ty.u8) Ty.unit)))
 x.2.2.1)
 fun
 (_z :
 T52D × Tree Int T32D × Tree Int T32D × Int × Int × Unit) =>
 Option.bind
 (openN (Ty.int IntKind.i64)
 (Ty.pair (Ty.int IntKind.i64)
 (Ty.pair (Ty.int IntKind.i64) (Ty.pair (Ty.slice Ty.u8) Ty.unit)))
 x.2.2.1)
 fun
 (b :
 T52D × Tree Int T32D × Tree Int T32D × Int × Int × Unit) =>
 Option.bind
 (openN (Ty.int IntKind.i64)
 (Ty.pair (Ty.int IntKind.i64)
 (Ty.pair (Ty.int IntKind.i64) (Ty.pair (Ty.slice Ty.u8) Ty.unit)))
 x.2.2.1)
 fun
 (_z :
 T52D × Tree Int T32D × Tree Int T32D × Int × Int × Unit) =>
 Option.bind
 (openN (Ty.int IntKind.i64)
 (Ty.pair (Ty.int IntKind.i64)
 (Ty.pair (Ty.int IntKind.i64) (Ty.pair (Ty.slice Ty.u8) Ty.unit)))
 x.2.2.1)
 fun
 (b_5 :
 T52D × Tree Int T32D × Tree Int T32D × Int × Int × Unit) =>
 Option.bind (F28 (x.1, x.2.1, b_5.2.1, ()))
 fun (b_6 : Tree Int T32D × Unit) =>
 Option.bind
 (openN (Ty.int IntKind.i64)
 (Ty.pair (Ty.int IntKind.i64)
 (Ty.pair (Ty.int IntKind.i64) (Ty.pair (Ty.slice Ty.u8) Ty.unit)))
 x.2.2.1)
 fun
 (_z :
 T52D × Tree Int T32D × Tree Int T32D × Int × Int × Unit) =>
 Option.bind
 (openN (Ty.int IntKind.i64)
 (Ty.pair (Ty.int IntKind.i64)
 (Ty.pair (Ty.int IntKind.i64) (Ty.pair (Ty.slice Ty.u8) Ty.unit)))
 x.2.2.1)
 fun
 (b_7 :
 T52D × Tree Int T32D × Tree Int T32D × Int × Int × Unit) =>
 Option.bind (F28 (b.1, b_6.1, b_7.2.2.1, ()))
 fun (b : Tree Int T32D × Unit) => some b
 else
 Option.bind
 (openN (Ty.int IntKind.i64)
 (Ty.pair (Ty.int IntKind.i64)
 (Ty.pair (Ty.int IntKind.i64) (Ty.pair (Ty.slice Ty.u8) Ty.unit)))
 x.2.2.1)
 fun
 (_z :
 T52D × Tree Int T32D × Tree Int T32D × Int × Int × Unit) =>
 Option.bind
 (openN (Ty.int IntKind.i64)
 (Ty.pair (Ty.int IntKind.i64)
 (Ty.pair (Ty.int IntKind.i64) (Ty.pair (Ty.slice Ty.u8) Ty.unit)))
 x.2.2.1)
 fun
 (b :
 T52D × Tree Int T32D × Tree Int T32D × Int × Int × Unit) =>
 Option.bind
 (openN (Ty.int IntKind.i64)
 (Ty.pair (Ty.int IntKind.i64)
 (Ty.pair (Ty.int IntKind.i64) (Ty.pair (Ty.slice Ty.u8) Ty.unit)))
 b.2.1)
 fun
 (_z :
 T52D × Tree Int T32D × Tree Int T32D × Int × Int × Unit) =>
 Option.bind
 (openN (Ty.int IntKind.i64)
 (Ty.pair (Ty.int IntKind.i64)
 (Ty.pair (Ty.int IntKind.i64) (Ty.pair (Ty.slice Ty.u8) Ty.unit)))
 b.2.1)
 fun
 (b_5 :
 T52D × Tree Int T32D × Tree Int T32D × Int × Int × Unit) =>
 Option.bind
 (openN (Ty.int IntKind.i64)
 (Ty.pair (Ty.int IntKind.i64)
 (Ty.pair (Ty.int IntKind.i64) (Ty.pair (Ty.slice Ty.u8) Ty.unit)))
 b.2.1)
 fun
 (_z :
 T52D × Tree Int T32D × Tree Int T32D × Int × Int × Unit) =>
 Option.bind
 (openN (Ty.int IntKind.i64)
 (Ty.pair (Ty.int IntKind.i64)
 (Ty.pair (Ty.int IntKind.i64) (Ty.pair (Ty.slice Ty.u8) Ty.unit)))
 b.2.1)
 fun
 (b_6 :
 T52D × Tree Int T32D × Tree Int T32D × Int × Int × Unit) =>
 Option.bind (F28 (x.1, x.2.1, b_6.2.1, ()))
 fun (b_7 : Tree Int T32D × Unit) =>
 Option.bind
 (openN (Ty.int IntKind.i64)
 (Ty.pair (Ty.int IntKind.i64)
 (Ty.pair (Ty.int IntKind.i64) (Ty.pair (Ty.slice Ty.u8) Ty.unit)))
 x.2.2.1)
 fun
 (_z :
 T52D × Tree Int T32D × Tree Int T32D × Int × Int × Unit) =>
 Option.bind
 (openN (Ty.int IntKind.i64)
 (Ty.pair (Ty.int IntKind.i64)
 (Ty.pair (Ty.int IntKind.i64) (Ty.pair (Ty.slice Ty.u8) Ty.unit)))
 x.2.2.1)
 fun
 (b_8 :
 T52D × Tree Int T32D × Tree Int T32D × Int × Int × Unit) =>
 Option.bind
 (openN (Ty.int IntKind.i64)
 (Ty.pair (Ty.int IntKind.i64)
 (Ty.pair (Ty.int IntKind.i64) (Ty.pair (Ty.slice Ty.u8) Ty.unit)))
 b.2.1)
 fun
 (_z :
 T52D × Tree Int T32D × Tree Int T32D × Int × Int × Unit) =>
 Option.bind
 (openN (Ty.int IntKind.i64)
 (Ty.pair (Ty.int IntKind.i64)
 (Ty.pair (Ty.int IntKind.i64) (Ty.pair (Ty.slice Ty.u8) Ty.unit)))
 b.2.1)
 fun
 (b :
 T52D × Tree Int T32D × Tree Int T32D × Int × Int × Unit) =>
 Option.bind
 (openN (Ty.int IntKind.i64)
 (Ty.pair (Ty.int IntKind.i64)
 (Ty.pair (Ty.int IntKind.i64)
 (Ty.pair (Ty.slice Ty.u8) Ty.unit)))
 x.2.2.1)
 fun
 (_z :
 T52D × Tree Int T32D × Tree Int T32D × Int × Int × Unit) =>
 Option.bind
 (openN (Ty.int IntKind.i64)
 (Ty.pair (Ty.int IntKind.i64)
 (Ty.pair (Ty.int IntKind.i64)
 (Ty.pair (Ty.slice Ty.u8) Ty.unit)))
 x.2.2.1)
 fun
 (b_9 :
 T52D × Tree Int T32D × Tree Int T32D × Int × Int × Unit) =>
 Option.bind
 (F28 (b_8.1, b.2.2.1, b_9.2.2.1, ()))
 fun (b : Tree Int T32D × Unit) =>
 Option.bind (F28 (b_5.1, b_7.1, b))
 fun (b : Tree Int T32D × Unit) =>
 some b
 else Option.bind (F28 x) fun (b : Tree Int T32D × Unit) => some b
def S30 : Sig := ⟨P30, R30, F30⟩
noncomputable def E30 : Env := { tab := tab, nt := 139, Γ := lookG [(28, [S28]), (32, [S32])], joins := lookN [], loops := lookN [] }
theorem raw30_eq (x : T52D × T44D × T44D × Unit) : afun E30 Try.f30 P30 R30 x = F30 x := by kernel_rfl
-- (*decamp/order.node[int64, decamp/wire.Parcel]).put
def F21s (F21 : T44D × T52D × Unit → Option (T44D × Unit)) (x : T44D × T52D × Unit) : Option (T44D × Unit) :=
 bif isLeaf x.1 then
 Option.bind (F28 (x.2.1, Tree.leaf, Tree.leaf, ()))
 fun (b : Tree Int T32D × Unit) => some b
 else
 Option.bind
 (openN (Ty.int IntKind.i64)
 (Ty.pair (Ty.int IntKind.i64) (Ty.pair (Ty.int IntKind.i64) (Ty.pair (Ty.slice Ty.u8) Ty.unit))) x.1)
 fun
 (_z :
 T52D × Tree Int T32D × Tree Int T32D × Int × Int × Unit) =>
 Option.bind
 (openN (Ty.int IntKind.i64)
 (Ty.pair (Ty.int IntKind.i64) (Ty.pair (Ty.int IntKind.i64) (Ty.pair (Ty.slice Ty.u8) Ty.unit))) x.1)
 fun
 (b :
 T52D × Tree Int T32D × Tree Int T32D × Int × Int × Unit) =>
 Option.bind (F29 (x.2.1.1, b.1.1, ())) fun (b : Int × Unit) =>
 bif decide (b.1 < 0) then
 Option.bind
 (openN (Ty.int IntKind.i64)
 (Ty.pair (Ty.int IntKind.i64) (Ty.pair (Ty.int IntKind.i64) (Ty.pair (Ty.slice Ty.u8) Ty.unit))) x.1)
 fun
 (_z :
 T52D × Tree Int T32D × Tree Int T32D × Int × Int × Unit) =>
 Option.bind
 (openN (Ty.int IntKind.i64)
 (Ty.pair (Ty.int IntKind.i64) (Ty.pair (Ty.int IntKind.i64) (Ty.pair (Ty.slice Ty.u8) Ty.unit)))
 x.1)
 fun
 (b :
 T52D × Tree Int T32D × Tree Int T32D × Int × Int × Unit) =>
 Option.bind
 (openN (Ty.int IntKind.i64)
 (Ty.pair (Ty.int IntKind.i64) (Ty.pair (Ty.int IntKind.i64) (Ty.pair (Ty.slice Ty.u8) Ty.unit)))
 x.1)
 fun
 (_z :
 T52D × Tree Int T32D × Tree Int T32D × Int × Int × Unit) =>
 Option.bind
 (openN (Ty.int IntKind.i64)
 (Ty.pair (Ty.int IntKind.i64) (Ty.pair (Ty.int IntKind.i64) (Ty.pair (Ty.slice Ty.u8) Ty.unit)))
 x.1)
 fun
 (b_1 :
 T52D × Tree Int T32D × Tree Int T32D × Int × Int × Unit) =>
 Option.bind (F21 (b_1.2.1, x.2))
 fun (b_2 : Tree Int T32D × Unit) =>
 Option.bind
 (openN (Ty.int IntKind.i64)
 (Ty.pair (Ty.int IntKind.i64)
 (Ty.pair (Ty.int IntKind.i64) (Ty.pair (Ty.slice Ty.u8) Ty.unit)))
 x.1)
 fun
 (_z :
 T52D × Tree Int T32D × Tree Int T32D × Int × Int × Unit) =>
 Option.bind
 (openN (Ty.int IntKind.i64)
 (Ty.pair (Ty.int IntKind.i64)
 (Ty.pair (Ty.int IntKind.i64) (Ty.pair (Ty.slice Ty.u8) Ty.unit)))
 x.1)
 fun
 (b_3 :
 T52D × Tree Int T32D × Tree Int T32D × Int × Int × Unit) =>
 Option.bind (F30 (b.1, b_2.1, b_3.2.2.1, ()))
 fun (b : Tree Int T32D × Unit) => some b
 else
 bif decide (0 < b.1) then
 Option.bind
 (openN (Ty.int IntKind.i64)
 (Ty.pair (Ty.int IntKind.i64) (Ty.pair (Ty.int IntKind.i64) (Ty.pair (Ty.slice Ty.u8) Ty.unit)))
 x.1)
 fun
 (_z :
 T52D × Tree Int T32D × Tree Int T32D × Int × Int × Unit) =>
 Option.bind
 (openN (Ty.int IntKind.i64)
 (Ty.pair (Ty.int IntKind.i64) (Ty.pair (Ty.int IntKind.i64) (Ty.pair (Ty.slice Ty.u8) Ty.unit)))
 x.1)
 fun
 (b :
 T52D × Tree Int T32D × Tree Int T32D × Int × Int × Unit) =>
 Option.bind
 (openN (Ty.int IntKind.i64)
 (Ty.pair (Ty.int IntKind.i64) (Ty.pair (Ty.int IntKind.i64) (Ty.pair (Ty.slice Ty.u8) Ty.unit)))
 x.1)
 fun
 (_z :
 T52D × Tree Int T32D × Tree Int T32D × Int × Int × Unit) =>
 Option.bind
 (openN (Ty.int IntKind.i64)
 (Ty.pair (Ty.int IntKind.i64) (Ty.pair (Ty.int IntKind.i64) (Ty.pair (Ty.slice Ty.u8) Ty.unit)))
 x.1)
 fun
 (b_1 :
 T52D × Tree Int T32D × Tree Int T32D × Int × Int × Unit) =>
 Option.bind
 (openN (Ty.int IntKind.i64)
 (Ty.pair (Ty.int IntKind.i64)
 (Ty.pair (Ty.int IntKind.i64) (Ty.pair (Ty.slice Ty.u8) Ty.unit)))
 x.1)
 fun
 (_z :
 T52D × Tree Int T32D × Tree Int T32D × Int × Int × Unit) =>
 Option.bind
 (openN (Ty.int IntKind.i64)
 (Ty.pair (Ty.int IntKind.i64)
 (Ty.pair (Ty.int IntKind.i64) (Ty.pair (Ty.slice Ty.u8) Ty.unit)))
 x.1)
 fun
 (b_2 :
 T52D × Tree Int T32D × Tree Int T32D × Int × Int × Unit) =>
 Option.bind (F21 (b_2.2.2.1, x.2))
 fun (b_3 : Tree Int T32D × Unit) =>
 Option.bind (F30 (b.1, b_1.2.1, b_3))
 fun (b : Tree Int T32D × Unit) => some b
 else
 Option.bind
 (openN (Ty.int IntKind.i64)
 (Ty.pair (Ty.int IntKind.i64) (Ty.pair (Ty.int IntKind.i64) (Ty.pair (Ty.slice Ty.u8) Ty.unit)))
 x.1)
 fun
 (_z :
 T52D × Tree Int T32D × Tree Int T32D × Int × Int × Unit) =>
 Option.bind
 (openN (Ty.int IntKind.i64)
 (Ty.pair (Ty.int IntKind.i64) (Ty.pair (Ty.int IntKind.i64) (Ty.pair (Ty.slice Ty.u8) Ty.unit)))
 x.1)
 fun
 (b :
 T52D × Tree Int T32D × Tree Int T32D × Int × Int × Unit) =>
 Option.bind
 (openN (Ty.int IntKind.i64)
 (Ty.pair (Ty.int IntKind.i64) (Ty.pair (Ty.int IntKind.i64) (Ty.pair (Ty.slice Ty.u8) Ty.unit)))
 x.1)
 fun
 (_z :
 T52D × Tree Int T32D × Tree Int T32D × Int × Int × Unit) =>
 Option.bind
 (openN (Ty.int IntKind.i64)
 (Ty.pair (Ty.int IntKind.i64) (Ty.pair (Ty.int IntKind.i64) (Ty.pair (Ty.slice Ty.u8) Ty.unit)))
 x.1)
 fun
 (b_1 :
 T52D × Tree Int T32D × Tree Int T32D × Int × Int × Unit) =>
 Option.bind (F28 (x.2.1, b.2.1, b_1.2.2.1, ()))
 fun (b : Tree Int T32D × Unit) => some b
noncomputable def E21r (F21 : T44D × T52D × Unit → Option (T44D × Unit)) : Env := { tab := tab, nt := 64, Γ := lookG [(21, [⟨P21, R21, F21⟩]), (28, [S28]), (29, [S29]), (30, [S30])], joins := lookN [], loops := lookN [] }
theorem raw21_eq (F21 : T44D × T52D × Unit → Option (T44D × Unit)) (x : T44D × T52D × Unit) : afun (E21r F21) Try.f21 P21 R21 x = F21s F21 x := by kernel_rfl
def F21 : T44D × T52D × Unit → Option (T44D × Unit) := recF F21s big
def S21 : Sig := ⟨P21, R21, F21⟩
-- (decamp/order.Map[int64, decamp/wire.Parcel]).Put
def F15 (x : T46D × Int × T32D × Unit) : Option (T46D × Unit) :=
 Option.bind (F21 (x.1.1, x.2, ())) fun (b : Tree Int T32D × Unit) =>
 some (b, ())
def S15 : Sig := ⟨P15, R15, F15⟩
noncomputable def E15 : Env := { tab := tab, nt := 14, Γ := lookG [(21, [S21])], joins := lookN [], loops := lookN [] }
theorem raw15_eq (x : T46D × Int × T32D × Unit) : afun E15 Try.f15 P15 R15 x = F15 x := by kernel_rfl
-- bytes.Clone
def F22 (x : List UInt8 × Unit) : Option (List UInt8 × Unit) :=
 bif List.isEmpty x.1 then
 bothE (List UInt8 × Unit) (some ([], ()))
 (Option.bind (appU [] x.1) fun (b : List UInt8) => some (b, ()))
 else Option.bind (appU [] x.1) fun (b : List UInt8) => some (b, ())
def S22 : Sig := ⟨P22, R22, F22⟩
noncomputable def E22 : Env := { tab := tab, nt := 8, Γ := lookG [], joins := lookN [], loops := lookN [] }
theorem raw22_eq (x : List UInt8 × Unit) : afun E22 Try.f22 P22 R22 x = F22 x := by kernel_rfl
-- decamp/wire.clone
def F16 (x : T32D × Unit) : Option (T32D × Unit) :=
 Option.bind (F22 x.1.2.2) fun (b : List UInt8 × Unit) => some ((x.1.1, x.1.2.1, b), ())
def S16 : Sig := ⟨P16, R16, F16⟩
noncomputable def E16 : Env := { tab := tab, nt := 11, Γ := lookG [(22, [S22])], joins := lookN [], loops := lookN [] }
theorem raw16_eq (x : T32D × Unit) : afun E16 Try.f16 P16 R16 x = F16 x := by kernel_rfl
-- (*decamp/wire.Wire).Send
def F8 (x : T48D × T32D × Unit) : Option (Int × T48D × Unit) :=
 Option.bind (F14 x.1.2.2) fun (b : Int × Unit) =>
 bif decide (x.1.1 ≤ b.1) then some (4, x.1, ())
 else
 Option.bind (F16 x.2) fun (b : T32D × Unit) =>
 Option.bind (F15 (x.1.2.2.1, wrap64 (x.1.2.1 + 1), b))
 fun (b : (Tree Int T32D × Unit) × Unit) =>
 some (0, (x.1.1, wrap64 (x.1.2.1 + 1), b), ())
def S8 : Sig := ⟨P8, R8, F8⟩
noncomputable def E8 : Env := { tab := tab, nt := 40, Γ := lookG [(14, [S14]), (15, [S15]), (16, [S16])], joins := lookN [], loops := lookN [] }
theorem raw8_eq (x : T48D × T32D × Unit) : afun E8 Try.f8 P8 R8 x = F8 x := by kernel_rfl
-- (*decamp/wire.Wire).Send
def F8a (x : T32D × Unit) : Option (Int × Unit) := some (1, ())
def S8a : Sig := ⟨P8a, R8a, F8a⟩
noncomputable def E8a : Env := { tab := tab, nt := 40, Γ := lookG [(14, [S14]), (15, [S15]), (16, [S16])], joins := lookN [], loops := lookN [] }
theorem raw8a_eq (x : T32D × Unit) : afun E8a Try.f8 P8a R8a x = F8a x := by kernel_rfl
-- (decamp/order.Map[int64, decamp/wire.Parcel]).At
def F23 (x : T46D × Int × Unit) : Option (T52D × Bool × Unit) :=
 bif decide (x.2.1 < 0) then some ((0, (0, 0, [], ()), ()), false, ())
 else
 Option.bind (F14 (x.1, ())) fun (b : Int × Unit) =>
 bif decide (b.1 ≤ x.2.1) then some ((0, (0, 0, [], ()), ()), false, ())
 else
 iterE (Int × Tree Int T32D × T52D)
 (T52D × Bool × Unit)
 (fun (x : Int × Tree Int T32D × T52D) =>
 Option.bind
 (openN (Ty.int IntKind.i64)
 (Ty.pair (Ty.int IntKind.i64) (Ty.pair (Ty.int IntKind.i64) (Ty.pair (Ty.slice Ty.u8) Ty.unit)))
 x.2.1)
 fun
 (_z :
 T52D × Tree Int T32D × Tree Int T32D × Int × Int × Unit) =>
 Option.bind
 (openN (Ty.int IntKind.i64)
 (Ty.pair (Ty.int IntKind.i64) (Ty.pair (Ty.int IntKind.i64) (Ty.pair (Ty.slice Ty.u8) Ty.unit)))
 x.2.1)
 fun
 (b :
 T52D × Tree Int T32D × Tree Int T32D × Int × Int × Unit) =>
 Option.bind (F20 (b.2.1, ())) fun (b : Int × Unit) =>
 bif decide (x.1 < b.1) then
 Option.bind
 (openN (Ty.int IntKind.i64)
 (Ty.pair (Ty.int IntKind.i64) (Ty.pair (Ty.int IntKind.i64) (Ty.pair (Ty.slice Ty.u8) Ty.unit)))
 x.2.1)
 fun
 (_z :
 T52D × Tree Int T32D × Tree Int T32D × Int × Int × Unit) =>
 Option.bind
 (openN (Ty.int IntKind.i64)
 (Ty.pair (Ty.int IntKind.i64)
 (Ty.pair (Ty.int IntKind.i64) (Ty.pair (Ty.slice Ty.u8) Ty.unit)))
 x.2.1)
 fun
 (b :
 T52D × Tree Int T32D × Tree Int T32D × Int × Int × Unit) =>
 some (Sum.inl (x.1, b.2.1, x.2.2))
 else
 bif decide (b.1 < x.1) then
 Option.bind
 (openN (Ty.int IntKind.i64)
 (Ty.pair (Ty.int IntKind.i64)
 (Ty.pair (Ty.int IntKind.i64) (Ty.pair (Ty.slice Ty.u8) Ty.unit)))
 x.2.1)
 fun
 (_z :
 T52D × Tree Int T32D × Tree Int T32D × Int × Int × Unit) =>
 Option.bind
 (openN (Ty.int IntKind.i64)
 (Ty.pair (Ty.int IntKind.i64)
 (Ty.pair (Ty.int IntKind.i64) (Ty.pair (Ty.slice Ty.u8) Ty.unit)))
 x.2.1)
 fun
 (b_1 :
 T52D × Tree Int T32D × Tree Int T32D × Int × Int × Unit) =>
 some
 (Sum.inl
 (wrap64 (wrap64 (x.1 - b.1) - 1), b_1.2.2.1,
 x.2.2))
 else
 Option.bind
 (openN (Ty.int IntKind.i64)
 (Ty.pair (Ty.int IntKind.i64)
 (Ty.pair (Ty.int IntKind.i64) (Ty.pair (Ty.slice Ty.u8) Ty.unit)))
 x.2.1)
 fun
 (_z :
 T52D × Tree Int T32D × Tree Int T32D × Int × Int × Unit) =>
 Option.bind
 (openN (Ty.int IntKind.i64)
 (Ty.pair (Ty.int IntKind.i64)
 (Ty.pair (Ty.int IntKind.i64) (Ty.pair (Ty.slice Ty.u8) Ty.unit)))
 x.2.1)
 fun
 (b :
 T52D × Tree Int T32D × Tree Int T32D × Int × Int × Unit) =>
 some (Sum.inr (b.1, true, ())))
 big (x.2.1, x.1.1, 0, (0, 0, [], ()), ())
def S23 : Sig := ⟨P23, R23, F23⟩
noncomputable def E23 : Env := { tab := tab, nt := 48, Γ := lookG [(14, [S14]), (20, [S20])], joins := lookN [], loops := lookN [(4, mkLoop ⟨[⟨.slot 1, (.int .i64), .pv⟩, ⟨.slot 6, T44, .pv⟩, ⟨.fld 2000 0, (.int .i64), .pv⟩, ⟨.fld 2000 1, T32, .pv⟩], [4], [.site 2000]⟩)] }
theorem raw23_eq (x : T46D × Int × Unit) : afun E23 Try.f23 P23 R23 x = F23 x := by kernel_rfl
-- (*decamp/wire.Wire).at
def F17 (x : T48D × Int × Unit) : Option (T52D × Int × T48D × Unit) :=
 Option.bind (F23 (x.1.2.2.1, x.2))
 fun (b : T52D × Bool × Unit) =>
 bif !b.2.1 then some ((0, (0, 0, [], ()), ()), 6, x.1, ())
 else some (b.1, 0, x.1, ())
def S17 : Sig := ⟨P17, R17, F17⟩
noncomputable def E17 : Env := { tab := tab, nt := 24, Γ := lookG [(23, [S23])], joins := lookN [], loops := lookN [] }
theorem raw17_eq (x : T48D × Int × Unit) : afun E17 Try.f17 P17 R17 x = F17 x := by kernel_rfl
-- (*decamp/wire.Wire).at
def F17a (x : Int × Unit) : Option (T52D × Int × Unit) := some ((0, (0, 0, [], ()), ()), 1, ())
def S17a : Sig := ⟨P17a, R17a, F17a⟩
noncomputable def E17a : Env := { tab := tab, nt := 24, Γ := lookG [(23, [S23])], joins := lookN [], loops := lookN [] }
theorem raw17a_eq (x : Int × Unit) : afun E17a Try.f17 P17a R17a x = F17a x := by kernel_rfl
-- (decamp/order.Map[int64, decamp/wire.Parcel]).Get
def F24 (x : T46D × Int × Unit) : Option (T32D × Bool × Unit) :=
 iterE (Tree Int T32D × T32D)
 (T32D × Bool × Unit)
 (fun (x_1 : Tree Int T32D × T32D) =>
 bif !isLeaf x_1.1 then
 Option.bind
 (openN (Ty.int IntKind.i64)
 (Ty.pair (Ty.int IntKind.i64) (Ty.pair (Ty.int IntKind.i64) (Ty.pair (Ty.slice Ty.u8) Ty.unit))) x_1.1)
 fun
 (_z :
 T52D × Tree Int T32D × Tree Int T32D × Int × Int × Unit) =>
 Option.bind
 (openN (Ty.int IntKind.i64)
 (Ty.pair (Ty.int IntKind.i64) (Ty.pair (Ty.int IntKind.i64) (Ty.pair (Ty.slice Ty.u8) Ty.unit))) x_1.1)
 fun
 (b :
 T52D × Tree Int T32D × Tree Int T32D × Int × Int × Unit) =>
 Option.bind (F29 (x.2.1, b.1.1, ())) fun (b : Int × Unit) =>
 bif decide (b.1 < 0) then
 Option.bind
 (openN (Ty.int IntKind.i64)
 (Ty.pair (Ty.int IntKind.i64) (Ty.pair (Ty.int IntKind.i64) (Ty.pair (Ty.slice Ty.u8) Ty.unit)))
 x_1.1)
 fun
 (_z :
 T52D × Tree Int T32D × Tree Int T32D × Int × Int × Unit) =>
 Option.bind
 (openN (Ty.int IntKind.i64)
 (Ty.pair (Ty.int IntKind.i64) (Ty.pair (Ty.int IntKind.i64) (Ty.pair (Ty.slice Ty.u8) Ty.unit)))
 x_1.1)
 fun
 (b :
 T52D × Tree Int T32D × Tree Int T32D × Int × Int × Unit) =>
 some (Sum.inl (b.2.1, x_1.2))
 else
 bif decide (0 < b.1) then
 Option.bind
 (openN (Ty.int IntKind.i64)
 (Ty.pair (Ty.int IntKind.i64) (Ty.pair (Ty.int IntKind.i64) (Ty.pair (Ty.slice Ty.u8) Ty.unit)))
 x_1.1)
 fun
 (_z :
 T52D × Tree Int T32D × Tree Int T32D × Int × Int × Unit) =>
 Option.bind
 (openN (Ty.int IntKind.i64)
 (Ty.pair (Ty.int IntKind.i64) (Ty.pair (Ty.int IntKind.i64) (Ty.pair (Ty.slice Ty.u8) Ty.unit)))
 x_1.1)
 fun
 (b :
 T52D × Tree Int T32D × Tree Int T32D × Int × Int × Unit) =>
 some (Sum.inl (b.2.2.1, x_1.2))
 else
 Option.bind
 (openN (Ty.int IntKind.i64)
 (Ty.pair (Ty.int IntKind.i64) (Ty.pair (Ty.int IntKind.i64) (Ty.pair (Ty.slice Ty.u8) Ty.unit)))
 x_1.1)
 fun
 (_z :
 T52D × Tree Int T32D × Tree Int T32D × Int × Int × Unit) =>
 Option.bind
 (openN (Ty.int IntKind.i64)
 (Ty.pair (Ty.int IntKind.i64) (Ty.pair (Ty.int IntKind.i64) (Ty.pair (Ty.slice Ty.u8) Ty.unit)))
 x_1.1)
 fun
 (b :
 T52D × Tree Int T32D × Tree Int T32D × Int × Int × Unit) =>
 some (Sum.inr (b.1.2.1, true, ()))
 else some (Sum.inr ((0, 0, [], ()), false, ())))
 big (x.1.1, 0, 0, [], ())
def S24 : Sig := ⟨P24, R24, F24⟩
noncomputable def E24 : Env := { tab := tab, nt := 40, Γ := lookG [(29, [S29])], joins := lookN [], loops := lookN [(2, mkLoop ⟨[⟨.slot 6, T44, .pv⟩, ⟨.fld 2000 0, (.int .i64), .pv⟩, ⟨.fld 2000 1, (.int .i64), .pv⟩, ⟨.fld 2000 2, (.slice .u8), .own false⟩], [1, 4], [.site 2000]⟩)] }
theorem raw24_eq (x : T46D × Int × Unit) : afun E24 Try.f24 P24 R24 x = F24 x := by kernel_rfl
-- (*decamp/order.node[int64, decamp/wire.Parcel]).least
def F31s (F31 : T44D × Unit → Option (T52D × T44D × Unit)) (x : T44D × Unit) : Option (T52D × T44D × Unit) :=
 Option.bind
 (openN (Ty.int IntKind.i64)
 (Ty.pair (Ty.int IntKind.i64) (Ty.pair (Ty.int IntKind.i64) (Ty.pair (Ty.slice Ty.u8) Ty.unit))) x.1)
 fun
 (_z :
 T52D × Tree Int T32D × Tree Int T32D × Int × Int × Unit) =>
 Option.bind
 (openN (Ty.int IntKind.i64)
 (Ty.pair (Ty.int IntKind.i64) (Ty.pair (Ty.int IntKind.i64) (Ty.pair (Ty.slice Ty.u8) Ty.unit))) x.1)
 fun
 (b :
 T52D × Tree Int T32D × Tree Int T32D × Int × Int × Unit) =>
 bif isLeaf b.2.1 then
 Option.bind
 (openN (Ty.int IntKind.i64)
 (Ty.pair (Ty.int IntKind.i64) (Ty.pair (Ty.int IntKind.i64) (Ty.pair (Ty.slice Ty.u8) Ty.unit))) x.1)
 fun
 (_z :
 T52D × Tree Int T32D × Tree Int T32D × Int × Int × Unit) =>
 Option.bind
 (openN (Ty.int IntKind.i64)
 (Ty.pair (Ty.int IntKind.i64) (Ty.pair (Ty.int IntKind.i64) (Ty.pair (Ty.slice Ty.u8) Ty.unit))) x.1)
 fun
 (b :
 T52D × Tree Int T32D × Tree Int T32D × Int × Int × Unit) =>
 Option.bind
 (openN (Ty.int IntKind.i64)
 (Ty.pair (Ty.int IntKind.i64) (Ty.pair (Ty.int IntKind.i64) (Ty.pair (Ty.slice Ty.u8) Ty.unit))) x.1)
 fun
 (_z :
 T52D × Tree Int T32D × Tree Int T32D × Int × Int × Unit) =>
 Option.bind
 (openN (Ty.int IntKind.i64)
 (Ty.pair (Ty.int IntKind.i64) (Ty.pair (Ty.int IntKind.i64) (Ty.pair (Ty.slice Ty.u8) Ty.unit)))
 x.1)
 fun
 (b_1 :
 T52D × Tree Int T32D × Tree Int T32D × Int × Int × Unit) =>
 some (b.1, b_1.2.2.1, ())
 else
 Option.bind
 (openN (Ty.int IntKind.i64)
 (Ty.pair (Ty.int IntKind.i64) (Ty.pair (Ty.int IntKind.i64) (Ty.pair (Ty.slice Ty.u8) Ty.unit))) x.1)
 fun
 (_z :
 T52D × Tree Int T32D × Tree Int T32D × Int × Int × Unit) =>
 Option.bind
 (openN (Ty.int IntKind.i64)
 (Ty.pair (Ty.int IntKind.i64) (Ty.pair (Ty.int IntKind.i64) (Ty.pair (Ty.slice Ty.u8) Ty.unit))) x.1)
 fun
 (b :
 T52D × Tree Int T32D × Tree Int T32D × Int × Int × Unit) =>
 Option.bind (F31 (b.2.1, ()))
 fun
 (b :
 T52D × Tree Int T32D × Unit) =>
 Option.bind
 (openN (Ty.int IntKind.i64)
 (Ty.pair (Ty.int IntKind.i64) (Ty.pair (Ty.int IntKind.i64) (Ty.pair (Ty.slice Ty.u8) Ty.unit)))
 x.1)
 fun
 (_z :
 T52D × Tree Int T32D × Tree Int T32D × Int × Int × Unit) =>
 Option.bind
 (openN (Ty.int IntKind.i64)
 (Ty.pair (Ty.int IntKind.i64) (Ty.pair (Ty.int IntKind.i64) (Ty.pair (Ty.slice Ty.u8) Ty.unit)))
 x.1)
 fun
 (b_1 :
 T52D × Tree Int T32D × Tree Int T32D × Int × Int × Unit) =>
 Option.bind
 (openN (Ty.int IntKind.i64)
 (Ty.pair (Ty.int IntKind.i64) (Ty.pair (Ty.int IntKind.i64) (Ty.pair (Ty.slice Ty.u8) Ty.unit)))
 x.1)
 fun
 (_z :
 T52D × Tree Int T32D × Tree Int T32D × Int × Int × Unit) =>
 Option.bind
 (openN (Ty.int IntKind.i64)
 (Ty.pair (Ty.int IntKind.i64) (Ty.pair (Ty.int IntKind.i64) (Ty.pair (Ty.slice Ty.u8) Ty.unit)))
 x.1)
 fun
 (b_2 :
 T52D × Tree Int T32D × Tree Int T32D × Int × Int × Unit) =>
 Option.bind (F30 (b_1.1, b.2.1, b_2.2.2.1, ()))
 fun (b_3 : Tree Int T32D × Unit) => some (b.1, b_3)
noncomputable def E31r (F31 : T44D × Unit → Option (T52D × T44D × Unit)) : Env := { tab := tab, nt := 38, Γ := lookG [(30, [S30]), (31, [⟨P31, R31, F31⟩])], joins := lookN [], loops := lookN [] }
theorem raw31_eq (F31 : T44D × Unit → Option (T52D × T44D × Unit)) (x : T44D × Unit) : afun (E31r F31) Try.f31 P31 R31 x = F31s F31 x := by kernel_rfl
def F31 : T44D × Unit → Option (T52D × T44D × Unit) := recF F31s big
def S31 : Sig := ⟨P31, R31, F31⟩
-- (*decamp/order.node[int64, decamp/wire.Parcel]).del
def F25s (F25 : T44D × Int × Unit → Option (T44D × Unit)) (x : T44D × Int × Unit) : Option (T44D × Unit) :=
 Option.bind
 (openN (Ty.int IntKind.i64)
 (Ty.pair (Ty.int IntKind.i64) (Ty.pair (Ty.int IntKind.i64) (Ty.pair (Ty.slice Ty.u8) Ty.unit))) x.1)
 fun
 (_z :
 T52D × Tree Int T32D × Tree Int T32D × Int × Int × Unit) =>
 Option.bind
 (openN (Ty.int IntKind.i64)
 (Ty.pair (Ty.int IntKind.i64) (Ty.pair (Ty.int IntKind.i64) (Ty.pair (Ty.slice Ty.u8) Ty.unit))) x.1)
 fun
 (b :
 T52D × Tree Int T32D × Tree Int T32D × Int × Int × Unit) =>
 Option.bind (F29 (x.2.1, b.1.1, ())) fun (b : Int × Unit) =>
 bif decide (b.1 < 0) then
 Option.bind
 (openN (Ty.int IntKind.i64)
 (Ty.pair (Ty.int IntKind.i64) (Ty.pair (Ty.int IntKind.i64) (Ty.pair (Ty.slice Ty.u8) Ty.unit))) x.1)
 fun
 (_z :
 T52D × Tree Int T32D × Tree Int T32D × Int × Int × Unit) =>
 Option.bind
 (openN (Ty.int IntKind.i64)
 (Ty.pair (Ty.int IntKind.i64) (Ty.pair (Ty.int IntKind.i64) (Ty.pair (Ty.slice Ty.u8) Ty.unit))) x.1)
 fun
 (b :
 T52D × Tree Int T32D × Tree Int T32D × Int × Int × Unit) =>
 Option.bind
 (openN (Ty.int IntKind.i64)
 (Ty.pair (Ty.int IntKind.i64) (Ty.pair (Ty.int IntKind.i64) (Ty.pair (Ty.slice Ty.u8) Ty.unit)))
 x.1)
 fun
 (_z :
 T52D × Tree Int T32D × Tree Int T32D × Int × Int × Unit) =>
 Option.bind
 (openN (Ty.int IntKind.i64)
 (Ty.pair (Ty.int IntKind.i64) (Ty.pair (Ty.int IntKind.i64) (Ty.pair (Ty.slice Ty.u8) Ty.unit)))
 x.1)
 fun
 (b_1 :
 T52D × Tree Int T32D × Tree Int T32D × Int × Int × Unit) =>
 Option.bind (F25 (b_1.2.1, x.2))
 fun (b_2 : Tree Int T32D × Unit) =>
 Option.bind
 (openN (Ty.int IntKind.i64)
 (Ty.pair (Ty.int IntKind.i64) (Ty.pair (Ty.int IntKind.i64) (Ty.pair (Ty.slice Ty.u8) Ty.unit)))
 x.1)
 fun
 (_z :
 T52D × Tree Int T32D × Tree Int T32D × Int × Int × Unit) =>
 Option.bind
 (openN (Ty.int IntKind.i64)
 (Ty.pair (Ty.int IntKind.i64)
 (Ty.pair (Ty.int IntKind.i64) (Ty.pair (Ty.slice Ty.u8) Ty.unit)))
 x.1)
 fun
 (b_3 :
 T52D × Tree Int T32D × Tree Int T32D × Int × Int × Unit) =>
 Option.bind (F30 (b.1, b_2.1, b_3.2.2.1, ()))
 fun (b : Tree Int T32D × Unit) => some b
 else
 bif decide (0 < b.1) then
 Option.bind
 (openN (Ty.int IntKind.i64)
 (Ty.pair (Ty.int IntKind.i64) (Ty.pair (Ty.int IntKind.i64) (Ty.pair (Ty.slice Ty.u8) Ty.unit))) x.1)
 fun
 (_z :
 T52D × Tree Int T32D × Tree Int T32D × Int × Int × Unit) =>
 Option.bind
 (openN (Ty.int IntKind.i64)
 (Ty.pair (Ty.int IntKind.i64) (Ty.pair (Ty.int IntKind.i64) (Ty.pair (Ty.slice Ty.u8) Ty.unit)))
 x.1)
 fun
 (b :
 T52D × Tree Int T32D × Tree Int T32D × Int × Int × Unit) =>
 Option.bind
 (openN (Ty.int IntKind.i64)
 (Ty.pair (Ty.int IntKind.i64) (Ty.pair (Ty.int IntKind.i64) (Ty.pair (Ty.slice Ty.u8) Ty.unit)))
 x.1)
 fun
 (_z :
 T52D × Tree Int T32D × Tree Int T32D × Int × Int × Unit) =>
 Option.bind
 (openN (Ty.int IntKind.i64)
 (Ty.pair (Ty.int IntKind.i64) (Ty.pair (Ty.int IntKind.i64) (Ty.pair (Ty.slice Ty.u8) Ty.unit)))
 x.1)
 fun
 (b_1 :
 T52D × Tree Int T32D × Tree Int T32D × Int × Int × Unit) =>
 Option.bind
 (openN (Ty.int IntKind.i64)
 (Ty.pair (Ty.int IntKind.i64) (Ty.pair (Ty.int IntKind.i64) (Ty.pair (Ty.slice Ty.u8) Ty.unit)))
 x.1)
 fun
 (_z :
 T52D × Tree Int T32D × Tree Int T32D × Int × Int × Unit) =>
 Option.bind
 (openN (Ty.int IntKind.i64)
 (Ty.pair (Ty.int IntKind.i64)
 (Ty.pair (Ty.int IntKind.i64) (Ty.pair (Ty.slice Ty.u8) Ty.unit)))
 x.1)
 fun
 (b_2 :
 T52D × Tree Int T32D × Tree Int T32D × Int × Int × Unit) =>
 Option.bind (F25 (b_2.2.2.1, x.2))
 fun (b_3 : Tree Int T32D × Unit) =>
 Option.bind (F30 (b.1, b_1.2.1, b_3))
 fun (b : Tree Int T32D × Unit) => some b
 else
 Option.bind
 (openN (Ty.int IntKind.i64)
 (Ty.pair (Ty.int IntKind.i64) (Ty.pair (Ty.int IntKind.i64) (Ty.pair (Ty.slice Ty.u8) Ty.unit))) x.1)
 fun
 (_z :
 T52D × Tree Int T32D × Tree Int T32D × Int × Int × Unit) =>
 Option.bind
 (openN (Ty.int IntKind.i64)
 (Ty.pair (Ty.int IntKind.i64) (Ty.pair (Ty.int IntKind.i64) (Ty.pair (Ty.slice Ty.u8) Ty.unit)))
 x.1)
 fun
 (b :
 T52D × Tree Int T32D × Tree Int T32D × Int × Int × Unit) =>
 bif isLeaf b.2.2.1 then
 Option.bind
 (openN (Ty.int IntKind.i64)
 (Ty.pair (Ty.int IntKind.i64) (Ty.pair (Ty.int IntKind.i64) (Ty.pair (Ty.slice Ty.u8) Ty.unit)))
 x.1)
 fun
 (_z :
 T52D × Tree Int T32D × Tree Int T32D × Int × Int × Unit) =>
 Option.bind
 (openN (Ty.int IntKind.i64)
 (Ty.pair (Ty.int IntKind.i64) (Ty.pair (Ty.int IntKind.i64) (Ty.pair (Ty.slice Ty.u8) Ty.unit)))
 x.1)
 fun
 (b :
 T52D × Tree Int T32D × Tree Int T32D × Int × Int × Unit) =>
 some (b.2.1, ())
 else
 Option.bind
 (openN (Ty.int IntKind.i64)
 (Ty.pair (Ty.int IntKind.i64) (Ty.pair (Ty.int IntKind.i64) (Ty.pair (Ty.slice Ty.u8) Ty.unit)))
 x.1)
 fun
 (_z :
 T52D × Tree Int T32D × Tree Int T32D × Int × Int × Unit) =>
 Option.bind
 (openN (Ty.int IntKind.i64)
 (Ty.pair (Ty.int IntKind.i64) (Ty.pair (Ty.int IntKind.i64) (Ty.pair (Ty.slice Ty.u8) Ty.unit)))
 x.1)
 fun
 (b :
 T52D × Tree Int T32D × Tree Int T32D × Int × Int × Unit) =>
 Option.bind (F31 (b.2.2.1, ()))
 fun
 (b :
 T52D × Tree Int T32D × Unit) =>
 Option.bind
 (openN (Ty.int IntKind.i64)
 (Ty.pair (Ty.int IntKind.i64)
 (Ty.pair (Ty.int IntKind.i64) (Ty.pair (Ty.slice Ty.u8) Ty.unit)))
 x.1)
 fun
 (_z :
 T52D × Tree Int T32D × Tree Int T32D × Int × Int × Unit) =>
 Option.bind
 (openN (Ty.int IntKind.i64)
 (Ty.pair (Ty.int IntKind.i64)
 (Ty.pair (Ty.int IntKind.i64) (Ty.pair (Ty.slice Ty.u8) Ty.unit)))
 x.1)
 fun
 (b_1 :
 T52D × Tree Int T32D × Tree Int T32D × Int × Int × Unit) =>
 Option.bind (F30 (b.1, b_1.2.1, b.2))
 fun (b : Tree Int T32D × Unit) => some b
noncomputable def E25r (F25 : T44D × Int × Unit → Option (T44D × Unit)) : Env := { tab := tab, nt := 76, Γ := lookG [(25, [⟨P25, R25, F25⟩]), (29, [S29]), (30, [S30]), (31, [S31])], joins := lookN [], loops := lookN [] }
theorem raw25_eq (F25 : T44D × Int × Unit → Option (T44D × Unit)) (x : T44D × Int × Unit) : afun (E25r F25) Try.f25 P25 R25 x = F25s F25 x := by kernel_rfl
def F25 : T44D × Int × Unit → Option (T44D × Unit) := recF F25s big
def S25 : Sig := ⟨P25, R25, F25⟩
-- (decamp/order.Map[int64, decamp/wire.Parcel]).Del
def F18 (x : T46D × Int × Unit) : Option (T46D × Unit) :=
 Option.bind (F24 x) fun (b : T32D × Bool × Unit) =>
 bif !b.2.1 then some (x.1, ())
 else
 Option.bind (F25 (x.1.1, x.2)) fun (b : Tree Int T32D × Unit) =>
 some (b, ())
def S18 : Sig := ⟨P18, R18, F18⟩
noncomputable def E18 : Env := { tab := tab, nt := 21, Γ := lookG [(24, [S24]), (25, [S25])], joins := lookN [], loops := lookN [] }
theorem raw18_eq (x : T46D × Int × Unit) : afun E18 Try.f18 P18 R18 x = F18 x := by kernel_rfl
-- (*decamp/wire.Wire).Take
def F9 (x : T48D × Int × Unit) : Option (T32D × Int × T48D × Unit) :=
 Option.bind (F17 x)
 fun
 (b :
 T52D × Int × (Int × Int × (Tree Int T32D × Unit) × Unit) × Unit) =>
 bif !decide (b.2.1 = 0) then some ((0, 0, [], ()), b.2)
 else
 Option.bind (F18 (b.2.2.1.2.2.1, b.1.1, ()))
 fun (b_1 : (Tree Int T32D × Unit) × Unit) =>
 Option.bind (F16 b.1.2) fun (b_2 : T32D × Unit) =>
 some (b_2.1, 0, (b.2.2.1.1, b.2.2.1.2.1, b_1), ())
def S9 : Sig := ⟨P9, R9, F9⟩
noncomputable def E9 : Env := { tab := tab, nt := 31, Γ := lookG [(16, [S16]), (17, [S17, S17a]), (18, [S18])], joins := lookN [], loops := lookN [] }
theorem raw9_eq (x : T48D × Int × Unit) : afun E9 Try.f9 P9 R9 x = F9 x := by kernel_rfl
-- (*decamp/wire.Wire).Take
def F9a (x : Int × Unit) : Option (T32D × Int × Unit) :=
 Option.bind (F17a x) fun (b : T52D × Int × Unit) =>
 bif !decide (b.2.1 = 0) then some ((0, 0, [], ()), b.2) else none
def S9a : Sig := ⟨P9a, R9a, F9a⟩
noncomputable def E9a : Env := { tab := tab, nt := 31, Γ := lookG [(16, [S16]), (17, [S17, S17a]), (18, [S18])], joins := lookN [], loops := lookN [] }
theorem raw9a_eq (x : Int × Unit) : afun E9a Try.f9 P9a R9a x = F9a x := by kernel_rfl
-- (*decamp/wire.Wire).Len
def F13 (x : T48D × Unit) : Option (Int × T48D × Unit) :=
 Option.bind (F14 x.1.2.2) fun (b : Int × Unit) => some (b.1, x)
def S13 : Sig := ⟨P13, R13, F13⟩
noncomputable def E13 : Env := { tab := tab, nt := 10, Γ := lookG [(14, [S14])], joins := lookN [], loops := lookN [] }
theorem raw13_eq (x : T48D × Unit) : afun E13 Try.f13 P13 R13 x = F13 x := by kernel_rfl
-- (*decamp/wire.Wire).Len
def F13a (x : Unit) : Option (Int × Unit) := some (0, ())
def S13a : Sig := ⟨P13a, R13a, F13a⟩
noncomputable def E13a : Env := { tab := tab, nt := 10, Γ := lookG [(14, [S14])], joins := lookN [], loops := lookN [] }
theorem raw13a_eq (x : Unit) : afun E13a Try.f13 P13a R13a x = F13a x := by kernel_rfl
-- decamp/decamplaw27.awake
def F5 (x : Unit) : Option (Bool × Unit) :=
 Option.bind (F7 (2, ()))
 fun (b : (Bool × Int × Int × (Tree Int T32D × Unit) × Unit) × Int × Unit) =>
 bif b.1.1 then
 bif !decide (b.2.1 = 0) then some (false, ())
 else
 Option.bind (F8 (b.1.2, (1, 2, [UInt8.ofNat 97], ()), ()))
 fun (b : Int × (Int × Int × (Tree Int T32D × Unit) × Unit) × Unit) =>
 bif !decide (b.1 = 0) then some (false, ())
 else
 Option.bind (F9 (b.2.1, 0, ()))
 fun
 (b :
 T32D × Int × (Int × Int × (Tree Int T32D × Unit) × Unit) × Unit) =>
 bif decide (b.2.1 = 0) then
 bif decide (b.1.1 = 1) then
 bif decide (b.1.2.1 = 2) then
 bif decide (b.1.2.2.1 = [97]) then
 Option.bind (F13 b.2.2)
 fun
 (b :
 Int × (Int × Int × (Tree Int T32D × Unit) × Unit) × Unit) =>
 some (decide (b.1 = 0), ())
 else some (false, ())
 else some (false, ())
 else some (false, ())
 else some (false, ())
 else
 bif !decide (b.2.1 = 0) then some (false, ())
 else
 Option.bind (F8a ((1, 2, [UInt8.ofNat 97], ()), ())) fun (b : Int × Unit) =>
 bif !decide (b.1 = 0) then some (false, ())
 else
 Option.bind (F9a (0, ())) fun (b : T32D × Int × Unit) =>
 bif decide (b.2.1 = 0) then
 bif decide (b.1.1 = 1) then
 bif decide (b.1.2.1 = 2) then
 bif decide (b.1.2.2.1 = [97]) then
 Option.bind (F13a ()) fun (b : Int × Unit) => some (decide (b.1 = 0), ())
 else some (false, ())
 else some (false, ())
 else some (false, ())
 else some (false, ())
def S5 : Sig := ⟨P5, R5, F5⟩
noncomputable def E5 : Env := { tab := tab, nt := 47, Γ := lookG [(7, [S7]), (8, [S8, S8a]), (9, [S9, S9a]), (13, [S13, S13a])], joins := lookN [], loops := lookN [] }
theorem raw5_eq (x : Unit) : afun E5 Try.f5 P5 R5 x = F5 x := by kernel_rfl
-- (*decamp/wire.Wire).Double
def F11 (x : T48D × Int × Unit) : Option (Int × T48D × Unit) :=
 Option.bind (F17 x)
 fun
 (b :
 T52D × Int × (Int × Int × (Tree Int T32D × Unit) × Unit) × Unit) =>
 bif !decide (b.2.1 = 0) then some b.2
 else
 Option.bind (F8 (b.2.2.1, b.1.2))
 fun (b : Int × (Int × Int × (Tree Int T32D × Unit) × Unit) × Unit) => some b
def S11 : Sig := ⟨P11, R11, F11⟩
noncomputable def E11 : Env := { tab := tab, nt := 20, Γ := lookG [(8, [S8, S8a]), (17, [S17, S17a])], joins := lookN [], loops := lookN [] }
theorem raw11_eq (x : T48D × Int × Unit) : afun E11 Try.f11 P11 R11 x = F11 x := by kernel_rfl
-- (*decamp/wire.Wire).Double
def F11a (x : Int × Unit) : Option (Int × Unit) :=
 Option.bind (F17a x) fun (b : T52D × Int × Unit) =>
 bif !decide (b.2.1 = 0) then some b.2 else Option.bind (F8a b.1.2) fun (b : Int × Unit) => some b
def S11a : Sig := ⟨P11a, R11a, F11a⟩
noncomputable def E11a : Env := { tab := tab, nt := 20, Γ := lookG [(8, [S8, S8a]), (17, [S17, S17a])], joins := lookN [], loops := lookN [] }
theorem raw11a_eq (x : Int × Unit) : afun E11a Try.f11 P11a R11a x = F11a x := by kernel_rfl
-- (decamp/order.Map[int64, decamp/wire.Parcel]).All$1
def F27 (x : T52D × Unit) : Option (Unit) := none
def S27 : Sig := ⟨P27, R27, F27⟩
noncomputable def E27 : Env := { tab := tab, nt := 7, Γ := lookG [], joins := lookN [], loops := lookN [] }
theorem raw27_eq (x : T52D × Unit) : afun E27 Try.f27 P27 R27 x = F27 x := by kernel_rfl
-- (decamp/order.Map[int64, decamp/wire.Parcel]).All$1
def F27a (x : T52D × (List T52D × Unit) × Unit) : Option ((List T52D × Unit) × Unit) :=
 Option.bind (appO x.2.1.1 [x.1]) fun (b : List T52D) =>
 some ((b, ()), ())
def S27a : Sig := ⟨P27a, R27a, F27a⟩
noncomputable def E27a : Env := { tab := tab, nt := 7, Γ := lookG [], joins := lookN [], loops := lookN [] }
theorem raw27a_eq (x : T52D × (List T52D × Unit) × Unit) : afun E27a Try.f27 P27a R27a x = F27a x := by kernel_rfl
-- (*decamp/order.node[int64, decamp/wire.Parcel]).each
def F26as (F26a : T44D × (List T52D × Unit) × Unit → Option ((List T52D × Unit) × Unit)) (x : T44D × (List T52D × Unit) × Unit) : Option ((List T52D × Unit) × Unit) :=
 bif !isLeaf x.1 then
 Option.bind
 (openN (Ty.int IntKind.i64)
 (Ty.pair (Ty.int IntKind.i64) (Ty.pair (Ty.int IntKind.i64) (Ty.pair (Ty.slice Ty.u8) Ty.unit))) x.1)
 fun
 (_z :
 T52D × Tree Int T32D × Tree Int T32D × Int × Int × Unit) =>
 Option.bind
 (openN (Ty.int IntKind.i64)
 (Ty.pair (Ty.int IntKind.i64) (Ty.pair (Ty.int IntKind.i64) (Ty.pair (Ty.slice Ty.u8) Ty.unit))) x.1)
 fun
 (b :
 T52D × Tree Int T32D × Tree Int T32D × Int × Int × Unit) =>
 Option.bind (F26a (b.2.1, x.2))
 fun (b : (List T52D × Unit) × Unit) =>
 Option.bind
 (openN (Ty.int IntKind.i64)
 (Ty.pair (Ty.int IntKind.i64) (Ty.pair (Ty.int IntKind.i64) (Ty.pair (Ty.slice Ty.u8) Ty.unit))) x.1)
 fun
 (_z :
 T52D × Tree Int T32D × Tree Int T32D × Int × Int × Unit) =>
 Option.bind
 (openN (Ty.int IntKind.i64)
 (Ty.pair (Ty.int IntKind.i64) (Ty.pair (Ty.int IntKind.i64) (Ty.pair (Ty.slice Ty.u8) Ty.unit))) x.1)
 fun
 (b_1 :
 T52D × Tree Int T32D × Tree Int T32D × Int × Int × Unit) =>
 Option.bind (F27a (b_1.1, b))
 fun (b : (List T52D × Unit) × Unit) =>
 Option.bind
 (openN (Ty.int IntKind.i64)
 (Ty.pair (Ty.int IntKind.i64) (Ty.pair (Ty.int IntKind.i64) (Ty.pair (Ty.slice Ty.u8) Ty.unit)))
 x.1)
 fun
 (_z :
 T52D × Tree Int T32D × Tree Int T32D × Int × Int × Unit) =>
 Option.bind
 (openN (Ty.int IntKind.i64)
 (Ty.pair (Ty.int IntKind.i64) (Ty.pair (Ty.int IntKind.i64) (Ty.pair (Ty.slice Ty.u8) Ty.unit)))
 x.1)
 fun
 (b_2 :
 T52D × Tree Int T32D × Tree Int T32D × Int × Int × Unit) =>
 Option.bind (F26a (b_2.2.2.1, b))
 fun (b : (List T52D × Unit) × Unit) => some b
 else some x.2
noncomputable def E26ar (F26a : T44D × (List T52D × Unit) × Unit → Option ((List T52D × Unit) × Unit)) : Env := { tab := tab, nt := 24, Γ := lookG [(26, [⟨P26a, R26a, F26a⟩]), (27, [S27, S27a])], joins := lookN [], loops := lookN [] }
theorem raw26a_eq (F26a : T44D × (List T52D × Unit) × Unit → Option ((List T52D × Unit) × Unit)) (x : T44D × (List T52D × Unit) × Unit) : afun (E26ar F26a) Try.f26 P26a R26a x = F26as F26a x := by kernel_rfl
def F26a : T44D × (List T52D × Unit) × Unit → Option ((List T52D × Unit) × Unit) := recF F26as big
def S26a : Sig := ⟨P26a, R26a, F26a⟩
-- (decamp/order.Map[int64, decamp/wire.Parcel]).All
def F19 (x : T46D × Unit) : Option (List T52D × Unit) :=
 Option.bind (F26a (x.1.1, ([], ()), ()))
 fun (b : (List T52D × Unit) × Unit) => some b.1
def S19 : Sig := ⟨P19, R19, F19⟩
noncomputable def E19 : Env := { tab := tab, nt := 9, Γ := lookG [(26, [S26a]), (27, [S27, S27a])], joins := lookN [], loops := lookN [] }
theorem raw19_eq (x : T46D × Unit) : afun E19 Try.f19 P19 R19 x = F19 x := by kernel_rfl
-- (*decamp/wire.Wire).All
def F12 (x : T48D × Unit) : Option (List T32D × T48D × Unit) :=
 Option.bind (F19 x.1.2.2) fun (b : List T52D × Unit) =>
 iterE ((List T32D × Int) × Int × Unit)
 (List T32D × (Int × Int × (Tree Int T32D × Unit) × Unit) × Unit)
 (fun (x_1 : (List T32D × Int) × Int × Unit) =>
 bif decide (x_1.2.1 < Int.ofNat (List.length b.1)) then
 Option.bind (idxN b.1 x_1.2.1) fun (b_1 : Nat) =>
 Option.bind b.1[b_1]? fun (b : T52D) =>
 Option.bind (F16 b.2) fun (b : T32D × Unit) =>
 bif decide (Int.toNat x_1.1.2 = List.length x_1.1.1) then
 Option.bind (appO x_1.1.1 [b.1]) fun (b : List T32D) =>
 some
 (Sum.inl
 ((b, Int.ofNat (Int.toNat x_1.1.2 + 1)), wrap64 (x_1.2.1 + 1),
 ()))
 else none
 else
 Option.map Sum.inr
 (bif decide (Int.toNat x_1.1.2 = List.length x_1.1.1) then some (x_1.1.1, x) else none))
 big (([], 0), 0, ())
def S12 : Sig := ⟨P12, R12, F12⟩
noncomputable def E12 : Env := { tab := { tab with deeps := [22, 29, 56] }, nt := 26, Γ := lookG [(16, [S16]), (19, [S19])], joins := lookN [], loops := lookN [(4, mkLoop ⟨[⟨.slot 3, (.pair (.slice T32) (.int .i64)), .deep⟩, ⟨.slot 14, (.int .i64), .pv⟩], [12, 13], [.site 0, .fld 0 0, .fld 0 1, .fld 0 2, .row 3005001]⟩)] }
theorem raw12_eq (x : T48D × Unit) : afun E12 Try.f12 P12 R12 x = F12 x := by kernel_rfl
-- (*decamp/wire.Wire).All
def F12a (x : Unit) : Option (List T32D × Unit) := some ([], ())
def S12a : Sig := ⟨P12a, R12a, F12a⟩
noncomputable def E12a : Env := { tab := { tab with deeps := [22, 29, 56] }, nt := 26, Γ := lookG [(16, [S16]), (19, [S19])], joins := lookN [], loops := lookN [] }
theorem raw12a_eq (x : Unit) : afun E12a Try.f12 P12a R12a x = F12a x := by kernel_rfl
-- decamp/decamplaw27.WireOwn
def F4 (x : List UInt8 × Int × Unit) : Option (Bool × Unit) :=
 Option.bind (F5 ()) fun (b : Bool × Unit) =>
 bif !b.1 then Option.bind (F5 ()) fun (b : Bool × Unit) => some b
 else
 bif decide (Int.ofNat (List.length x.1) < 1) then Option.bind (F5 ()) fun (b : Bool × Unit) => some b
 else
 bif decide (200 < Int.ofNat (List.length x.1)) then
 Option.bind (F5 ()) fun (b : Bool × Unit) => some b
 else
 Option.bind (F7 (4, ()))
 fun (b : (Bool × Int × Int × (Tree Int T32D × Unit) × Unit) × Int × Unit) =>
 bif b.1.1 then
 Option.bind (appU [] x.1) fun (b_1 : List UInt8) =>
 Option.bind (F8 (b.1.2, (0, 0, b_1, ()), ()))
 fun (b : Int × (Int × Int × (Tree Int T32D × Unit) × Unit) × Unit) =>
 bif !decide (b.1 = 0) then some (false, ())
 else
 Option.bind (F11 (b.2.1, 0, ()))
 fun
 (b : Int × (Int × Int × (Tree Int T32D × Unit) × Unit) × Unit) =>
 bif !decide (b.1 = 0) then some (false, ())
 else
 Option.bind (idxN b_1 0) fun (b_2 : Nat) =>
 Option.bind b_1[b_2]? fun (_z : UInt8) =>
 Option.bind (idxN b_1 0) fun (b_3 : Nat) =>
 Option.bind b_1[b_3]? fun (_z : UInt8) =>
 Option.bind (F12 b.2)
 fun
 (b :
 List T32D × (Int × Int × (Tree Int T32D × Unit) × Unit) × Unit) =>
 Option.bind
 (bif !decide (Int.ofNat (List.length b.1) = 2) then
 some (Sum.inr (false, ()))
 else
 Option.bind (idxN b.1 0) fun (b_4 : Nat) =>
 Option.bind b.1[b_4]? fun (b_5 : T32D) =>
 bif decide (List.length b.1 ≤ b_4) then
 bif !decide (b_5.2.2.1 = x.1) then
 some (Sum.inr (false, ()))
 else some (Sum.inl ((b.1, Int.ofNat (List.length b.1)), ()))
 else
 bif !decide (b_5.2.2.1 = x.1) then
 some (Sum.inr (false, ()))
 else
 Option.map Sum.inl
 (Option.bind b.1[b_4]? fun (b_6 : T32D) =>
 some
 ((List.set b.1 b_4
 (b_6.1, b_6.2.1, b_5.2.2.1, b_6.2.2.2),
 Int.ofNat (List.length b.1)),
 ())))
 fun (o : (List T32D × Int) × Unit ⊕ Bool × Unit) =>
 Sum.elim
 (fun (x_1 : (List T32D × Int) × Unit) =>
 Option.bind (idxN x_1.1.1 0) fun (b_4 : Nat) =>
 Option.bind x_1.1.1[b_4]? fun (b_5 : T32D) =>
 bif decide (Int.toNat x_1.1.2 ≤ b_4) then
 Option.bind (idx b_5.2.2.1 0) fun (_z : UInt8) =>
 Option.bind (idx b_5.2.2.1 0) fun (_z : UInt8) => none
 else
 Option.bind (idxN b_5.2.2.1 0) fun (b_6 : Nat) =>
 Option.bind b_5.2.2.1[b_6]? fun (_z : UInt8) =>
 Option.bind (idxN b_5.2.2.1 0) fun (b_7 : Nat) =>
 Option.bind b_5.2.2.1[b_7]? fun (_z : UInt8) =>
 Option.bind (F9 (b.2.1, 0, ()))
 fun
 (b :
 T32D × Int × (Int × Int × (Tree Int T32D × Unit) × Unit) × Unit) =>
 bif !decide (b.2.1 = 0) then some (false, ())
 else
 bif !decide (b.1.2.2.1 = x.1) then
 some (false, ())
 else
 Option.bind (idxN b.1.2.2.1 0) fun (b_8 : Nat) =>
 Option.bind b.1.2.2.1[b_8]? fun (_z : UInt8) =>
 Option.bind (idxN b.1.2.2.1 0)
 fun (b_9 : Nat) =>
 Option.bind b.1.2.2.1[b_9]?
 fun (_z : UInt8) =>
 Option.bind (F9 (b.2.2.1, 0, ()))
 fun
 (b :
 T32D × Int × (Int × Int × (Tree Int
 T32D × Unit) × Unit) × Unit) =>
 Option.bind (F9a x.2)
 fun
 (b_10 :
 T32D × Int × Unit) =>
 bif decide (b.2.1 = 0) then
 bif decide (b.1.2.2.1 = x.1) then
 Option.bind
 (F8a ((0, 0, [], ()), ()))
 fun (b : Int × Unit) =>
 bif decide (b.1 = 1) then
 bif decide (b_10.2.1 = 1) then
 Option.bind (F11a x.2)
 fun (b : Int × Unit) =>
 bif decide (b.1 = 1) then
 Option.bind (F13a ())
 fun (b : Int × Unit) =>
 bif decide (b.1 = 0) then
 Option.bind (F12a ())
 fun
 (b :
 List
 T32D × Unit) =>
 some
 (decide
 (Int.ofNat
 (List.length
 b.1) =
 0),
 ())
 else some (false, ())
 else some (false, ())
 else some (false, ())
 else some (false, ())
 else some (false, ())
 else some (false, ()))
 (fun (val : Bool × Unit) => some val) o
 else
 Option.bind (appU [] x.1) fun (b : List UInt8) =>
 Option.bind (F8a ((0, 0, b, ()), ())) fun (b_1 : Int × Unit) =>
 bif !decide (b_1.1 = 0) then some (false, ())
 else
 Option.bind (F11a (0, ())) fun (b_2 : Int × Unit) =>
 bif !decide (b_2.1 = 0) then some (false, ())
 else
 Option.bind (idxN b 0) fun (b_3 : Nat) =>
 Option.bind b[b_3]? fun (_z : UInt8) =>
 Option.bind (idxN b 0) fun (b_4 : Nat) =>
 Option.bind b[b_4]? fun (_z : UInt8) =>
 Option.bind (F12a ()) fun (b : List T32D × Unit) =>
 Option.bind
 (bif !decide (Int.ofNat (List.length b.1) = 2) then
 some (Sum.inr (false, ()))
 else
 Option.bind (idx b.1 0) fun (b : T32D) =>
 bif !decide (b.2.2.1 = x.1) then some (Sum.inr (false, ()))
 else none)
 fun (o : (List T32D × Int) × Unit ⊕ Bool × Unit) =>
 Sum.elim
 (fun (x_1 : (List T32D × Int) × Unit) =>
 Option.bind (idxN x_1.1.1 0) fun (b : Nat) =>
 Option.bind x_1.1.1[b]? fun (b_5 : T32D) =>
 bif decide (Int.toNat x_1.1.2 ≤ b) then
 Option.bind (idx b_5.2.2.1 0) fun (_z : UInt8) =>
 Option.bind (idx b_5.2.2.1 0) fun (_z : UInt8) => none
 else
 Option.bind (idxN b_5.2.2.1 0) fun (b : Nat) =>
 Option.bind b_5.2.2.1[b]? fun (_z : UInt8) =>
 Option.bind (idxN b_5.2.2.1 0) fun (b : Nat) =>
 Option.bind b_5.2.2.1[b]? fun (_z : UInt8) =>
 Option.bind (F9a (0, ()))
 fun (b : T32D × Int × Unit) =>
 bif !decide (b.2.1 = 0) then some (false, ())
 else
 bif !decide (b.1.2.2.1 = x.1) then
 some (false, ())
 else
 Option.bind (idxN b.1.2.2.1 0) fun (b_6 : Nat) =>
 Option.bind b.1.2.2.1[b_6]? fun (_z : UInt8) =>
 Option.bind (idxN b.1.2.2.1 0)
 fun (b_7 : Nat) =>
 Option.bind b.1.2.2.1[b_7]?
 fun (_z : UInt8) =>
 Option.bind (F9a (0, ()))
 fun
 (b :
 T32D × Int × Unit) =>
 Option.bind (F9a x.2)
 fun
 (b_8 :
 T32D × Int × Unit) =>
 bif decide (b.2.1 = 0) then
 bif decide (b.1.2.2.1 = x.1) then
 Option.bind
 (F8a ((0, 0, [], ()), ()))
 fun (b : Int × Unit) =>
 bif decide (b.1 = 1) then
 bif decide (b_8.2.1 = 1) then
 Option.bind (F11a x.2)
 fun (b : Int × Unit) =>
 bif decide (b.1 = 1) then
 Option.bind (F13a ())
 fun (b : Int × Unit) =>
 bif decide (b.1 = 0) then
 Option.bind (F12a ())
 fun
 (b :
 List
 T32D × Unit) =>
 some
 (decide
 (Int.ofNat
 (List.length
 b.1) =
 0),
 ())
 else some (false, ())
 else some (false, ())
 else some (false, ())
 else some (false, ())
 else some (false, ())
 else some (false, ()))
 (fun (val : Bool × Unit) => some val) o
def S4 : Sig := ⟨P4, R4, F4⟩
noncomputable def E4 : Env := { tab := { tab with deeps := [22, 29, 56] }, nt := 143, Γ := lookG [(5, [S5]), (7, [S7]), (8, [S8, S8a]), (9, [S9, S9a]), (11, [S11, S11a]), (12, [S12, S12a]), (13, [S13, S13a])], joins := lookN [(11, ⟨[⟨.slot 8, (.pair (.slice T32) (.int .i64)), .deep⟩], [0, 1, 5], [.site 3001001, .fld 3001001 0, .fld 3001001 1, .fld 3001001 2]⟩)], loops := lookN [] }
theorem raw4_eq (x : List UInt8 × Int × Unit) : afun E4 Try.f4 P4 R4 x = F4 x := by kernel_rfl
end
end Go.Proofs.Ytcbomldaooeplaa
