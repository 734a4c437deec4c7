/-
  Lease: by a program of the bench (seat.py).
-/
import Derived.Test.YtmgniagajmfhaaaLeaseTab
namespace Go.Proofs.Ytmgniagajmfhaaa
open Go.Sx Go
set_option maxRecDepth 100000
noncomputable section
-- cmp.isNaN[int64]
def F53 (x : Int × Unit) : Option (Bool × Unit) := some (!decide (x.fst = x.fst), ())
def S53 : Sig := ⟨P53, R53, F53⟩
noncomputable def E53 : Env := { tab := tab, nt := 6, Γ := lookG [], joins := lookN [], loops := lookN [] }
theorem raw53_eq (x : Int × Unit) : afun E53 Try.f53 P53 R53 x = F53 x := by kernel_rfl
-- cmp.Compare[int64]
def F46 (x : Int × Int × Unit) : Option (Int × Unit) :=
 Option.bind (F53 (x.fst, ())) fun (b : Bool × Unit) =>
 Option.bind (F53 x.snd) fun (b_1 : Bool × Unit) =>
 bif b.fst then bif b_1.fst then some (0, ()) else some (-1, ())
 else
 bif b_1.fst then some (1, ())
 else
 bif decide (x.fst < x.snd.fst) then some (-1, ())
 else bif decide (x.snd.fst < x.fst) then some (1, ()) else some (0, ())
def S46 : Sig := ⟨P46, R46, F46⟩
noncomputable def E46 : Env := { tab := tab, nt := 20, Γ := lookG [(53, [S53])], joins := lookN [], loops := lookN [] }
theorem raw46_eq (x : Int × Int × Unit) : afun E46 Try.f46 P46 R46 x = F46 x := by kernel_rfl
-- (decamp/order.Map[int64, decamp/lease.term]).Get
def F30 (x : T28D × Int × Unit) : Option (T68D × Bool × Unit) :=
 iterE (Tree Int T68D × T68D)
 (T68D × Bool × Unit)
 (fun (x_1 : Tree Int T68D × T68D) =>
 bif !isLeaf x_1.fst then
 Option.bind
 (openN (Ty.int IntKind.i64)
 (Ty.pair (Ty.int IntKind.i64)
 (Ty.pair (Ty.int IntKind.i64) (Ty.pair (Ty.int IntKind.i64) (Ty.pair Ty.bool Ty.unit))))
 x_1.fst)
 fun
 (_z :
 T78D × Tree Int T68D × Tree Int T68D × Int × Int × Unit) =>
 Option.bind
 (openN (Ty.int IntKind.i64)
 (Ty.pair (Ty.int IntKind.i64)
 (Ty.pair (Ty.int IntKind.i64) (Ty.pair (Ty.int IntKind.i64) (Ty.pair Ty.bool Ty.unit))))
 x_1.fst)
 fun
 (b :
 T78D × Tree Int T68D × Tree Int T68D × Int × Int × Unit) =>
 Option.bind (F46 (x.snd.fst, b.fst.fst, ())) fun (b : Int × Unit) =>
 bif decide (b.fst < 0) then
 Option.bind
 (openN (Ty.int IntKind.i64)
 (Ty.pair (Ty.int IntKind.i64)
 (Ty.pair (Ty.int IntKind.i64) (Ty.pair (Ty.int IntKind.i64) (Ty.pair Ty.bool Ty.unit))))
 x_1.fst)
 fun
 (_z :
 T78D × Tree Int T68D × Tree Int T68D × Int × Int × Unit) =>
 Option.bind
 (openN (Ty.int IntKind.i64)
 (Ty.pair (Ty.int IntKind.i64)
 (Ty.pair (Ty.int IntKind.i64) (Ty.pair (Ty.int IntKind.i64) (Ty.pair Ty.bool Ty.unit))))
 x_1.fst)
 fun
 (b :
 T78D × Tree Int T68D × Tree Int T68D × Int × Int × Unit) =>
 some (Sum.inl (b.snd.fst, x_1.snd))
 else
 bif decide (0 < b.fst) then
 Option.bind
 (openN (Ty.int IntKind.i64)
 (Ty.pair (Ty.int IntKind.i64)
 (Ty.pair (Ty.int IntKind.i64) (Ty.pair (Ty.int IntKind.i64) (Ty.pair Ty.bool Ty.unit))))
 x_1.fst)
 fun
 (_z :
 T78D × Tree Int T68D × Tree Int T68D × Int × Int × Unit) =>
 Option.bind
 (openN (Ty.int IntKind.i64)
 (Ty.pair (Ty.int IntKind.i64)
 (Ty.pair (Ty.int IntKind.i64) (Ty.pair (Ty.int IntKind.i64) (Ty.pair Ty.bool Ty.unit))))
 x_1.fst)
 fun
 (b :
 T78D × Tree Int T68D × Tree Int T68D × Int × Int × Unit) =>
 some (Sum.inl (b.snd.snd.fst, x_1.snd))
 else
 Option.bind
 (openN (Ty.int IntKind.i64)
 (Ty.pair (Ty.int IntKind.i64)
 (Ty.pair (Ty.int IntKind.i64) (Ty.pair (Ty.int IntKind.i64) (Ty.pair Ty.bool Ty.unit))))
 x_1.fst)
 fun
 (_z :
 T78D × Tree Int T68D × Tree Int T68D × Int × Int × Unit) =>
 Option.bind
 (openN (Ty.int IntKind.i64)
 (Ty.pair (Ty.int IntKind.i64)
 (Ty.pair (Ty.int IntKind.i64) (Ty.pair (Ty.int IntKind.i64) (Ty.pair Ty.bool Ty.unit))))
 x_1.fst)
 fun
 (b :
 T78D × Tree Int T68D × Tree Int T68D × Int × Int × Unit) =>
 some (Sum.inr (b.fst.snd.fst, true, ()))
 else some (Sum.inr ((0, 0, 0, false, ()), false, ())))
 big (x.fst.fst, 0, 0, 0, false, ())
def S30 : Sig := ⟨P30, R30, F30⟩
noncomputable def E30 : Env := { tab := tab, nt := 40, Γ := lookG [(46, [S46])], joins := lookN [], loops := lookN [(2, mkLoop ⟨[⟨.slot 6, T26, .pv⟩, ⟨.fld 2000 0, (.int .i64), .pv⟩, ⟨.fld 2000 1, (.int .i64), .pv⟩, ⟨.fld 2000 2, (.int .i64), .pv⟩, ⟨.fld 2000 3, .bool, .pv⟩], [1, 4], [.site 2000]⟩)] }
theorem raw30_eq (x : T28D × Int × Unit) : afun E30 Try.f30 P30 R30 x = F30 x := by kernel_rfl
-- decamp/lease.times
def F35 (x : Int × Unit) : Option (Bool × Unit) :=
 bif decide (0 ≤ x.fst) then some (decide (x.fst ≤ 1099511627776), ()) else some (false, ())
def S35 : Sig := ⟨P35, R35, F35⟩
noncomputable def E35 : Env := { tab := tab, nt := 9, Γ := lookG [], joins := lookN [], loops := lookN [] }
theorem raw35_eq (x : Int × Unit) : afun E35 Try.f35 P35 R35 x = F35 x := by kernel_rfl
-- decamp/lease.may
def F32 (x : Int × Int × Int × Unit) : Option (Bool × Unit) :=
 bif !decide (x.fst = 0) then
 bif decide (-1099511627776 ≤ x.fst) then
 bif decide (x.fst ≤ 1099511627776) then
 bif decide (1 ≤ x.snd.fst) then
 bif decide (x.snd.fst ≤ 1000) then Option.bind (F35 x.snd.snd) fun (b : Bool × Unit) => some b
 else some (false, ())
 else some (false, ())
 else some (false, ())
 else some (false, ())
 else some (false, ())
def S32 : Sig := ⟨P32, R32, F32⟩
noncomputable def E32 : Env := { tab := tab, nt := 29, Γ := lookG [(35, [S35])], joins := lookN [], loops := lookN [] }
theorem raw32_eq (x : Int × Int × Int × Unit) : afun E32 Try.f32 P32 R32 x = F32 x := by kernel_rfl
-- (*decamp/order.node[int64, decamp/lease.term]).size
def F56 (x : T26D × Unit) : Option (Int × Unit) :=
 bif isLeaf x.fst then some (0, ())
 else
 Option.bind
 (openN (Ty.int IntKind.i64)
 (Ty.pair (Ty.int IntKind.i64)
 (Ty.pair (Ty.int IntKind.i64) (Ty.pair (Ty.int IntKind.i64) (Ty.pair Ty.bool Ty.unit))))
 x.fst)
 fun
 (_z :
 T78D × Tree Int T68D × Tree Int T68D × Int × Int × Unit) =>
 Option.bind
 (openN (Ty.int IntKind.i64)
 (Ty.pair (Ty.int IntKind.i64)
 (Ty.pair (Ty.int IntKind.i64) (Ty.pair (Ty.int IntKind.i64) (Ty.pair Ty.bool Ty.unit))))
 x.fst)
 fun
 (b :
 T78D × Tree Int T68D × Tree Int T68D × Int × Int × Unit) =>
 some (b.snd.snd.snd.fst, ())
def S56 : Sig := ⟨P56, R56, F56⟩
noncomputable def E56 : Env := { tab := tab, nt := 9, Γ := lookG [], joins := lookN [], loops := lookN [] }
theorem raw56_eq (x : T26D × Unit) : afun E56 Try.f56 P56 R56 x = F56 x := by kernel_rfl
-- (decamp/order.Map[int64, decamp/lease.term]).Rank
def F48 (x : T28D × Int × Unit) : Option (Int × Unit) :=
 iterE (Int × Tree Int T68D × Unit) (Int × Unit)
 (fun (x_1 : Int × Tree Int T68D × Unit) =>
 bif !isLeaf x_1.snd.fst then
 Option.bind
 (openN (Ty.int IntKind.i64)
 (Ty.pair (Ty.int IntKind.i64)
 (Ty.pair (Ty.int IntKind.i64) (Ty.pair (Ty.int IntKind.i64) (Ty.pair Ty.bool Ty.unit))))
 x_1.snd.fst)
 fun
 (_z :
 T78D × Tree Int T68D × Tree Int T68D × Int × Int × Unit) =>
 Option.bind
 (openN (Ty.int IntKind.i64)
 (Ty.pair (Ty.int IntKind.i64)
 (Ty.pair (Ty.int IntKind.i64) (Ty.pair (Ty.int IntKind.i64) (Ty.pair Ty.bool Ty.unit))))
 x_1.snd.fst)
 fun
 (b :
 T78D × Tree Int T68D × Tree Int T68D × Int × Int × Unit) =>
 Option.bind (F46 (x.snd.fst, b.fst.fst, ())) fun (b : Int × Unit) =>
 bif decide (b.fst ≤ 0) then
 Option.bind
 (openN (Ty.int IntKind.i64)
 (Ty.pair (Ty.int IntKind.i64)
 (Ty.pair (Ty.int IntKind.i64) (Ty.pair (Ty.int IntKind.i64) (Ty.pair Ty.bool Ty.unit))))
 x_1.snd.fst)
 fun
 (_z :
 T78D × Tree Int T68D × Tree Int T68D × Int × Int × Unit) =>
 Option.bind
 (openN (Ty.int IntKind.i64)
 (Ty.pair (Ty.int IntKind.i64)
 (Ty.pair (Ty.int IntKind.i64) (Ty.pair (Ty.int IntKind.i64) (Ty.pair Ty.bool Ty.unit))))
 x_1.snd.fst)
 fun
 (b :
 T78D × Tree Int T68D × Tree Int T68D × Int × Int × Unit) =>
 some (Sum.inl (x_1.fst, b.snd.fst, ()))
 else
 Option.bind
 (openN (Ty.int IntKind.i64)
 (Ty.pair (Ty.int IntKind.i64)
 (Ty.pair (Ty.int IntKind.i64) (Ty.pair (Ty.int IntKind.i64) (Ty.pair Ty.bool Ty.unit))))
 x_1.snd.fst)
 fun
 (_z :
 T78D × Tree Int T68D × Tree Int T68D × Int × Int × Unit) =>
 Option.bind
 (openN (Ty.int IntKind.i64)
 (Ty.pair (Ty.int IntKind.i64)
 (Ty.pair (Ty.int IntKind.i64) (Ty.pair (Ty.int IntKind.i64) (Ty.pair Ty.bool Ty.unit))))
 x_1.snd.fst)
 fun
 (b :
 T78D × Tree Int T68D × Tree Int T68D × Int × Int × Unit) =>
 Option.bind (F56 (b.snd.fst, ())) fun (b : Int × Unit) =>
 Option.bind
 (openN (Ty.int IntKind.i64)
 (Ty.pair (Ty.int IntKind.i64)
 (Ty.pair (Ty.int IntKind.i64) (Ty.pair (Ty.int IntKind.i64) (Ty.pair Ty.bool Ty.unit))))
 x_1.snd.fst)
 fun
 (_z :
 T78D × Tree Int T68D × Tree Int T68D × Int × Int × Unit) =>
 Option.bind
 (openN (Ty.int IntKind.i64)
 (Ty.pair (Ty.int IntKind.i64)
 (Ty.pair (Ty.int IntKind.i64) (Ty.pair (Ty.int IntKind.i64) (Ty.pair Ty.bool Ty.unit))))
 x_1.snd.fst)
 fun
 (b_1 :
 T78D × Tree Int T68D × Tree Int T68D × Int × Int × Unit) =>
 some
 (Sum.inl
 (wrap64 (x_1.fst + wrap64 (b.fst + 1)),
 b_1.snd.snd.fst, ()))
 else some (Sum.inr (x_1.fst, ())))
 big (0, x.fst)
def S48 : Sig := ⟨P48, R48, F48⟩
noncomputable def E48 : Env := { tab := tab, nt := 36, Γ := lookG [(46, [S46]), (56, [S56])], joins := lookN [], loops := lookN [(3, mkLoop ⟨[⟨.slot 5, (.int .i64), .pv⟩, ⟨.slot 6, T26, .pv⟩], [1], []⟩)] }
theorem raw48_eq (x : T28D × Int × Unit) : afun E48 Try.f48 P48 R48 x = F48 x := by kernel_rfl
-- (decamp/order.Map[int64, decamp/lease.term]).Len
def F49 (x : T28D × Unit) : Option (Int × Unit) :=
 Option.bind (F56 x.fst) fun (b : Int × Unit) => some b
def S49 : Sig := ⟨P49, R49, F49⟩
noncomputable def E49 : Env := { tab := tab, nt := 6, Γ := lookG [(56, [S56])], joins := lookN [], loops := lookN [] }
theorem raw49_eq (x : T28D × Unit) : afun E49 Try.f49 P49 R49 x = F49 x := by kernel_rfl
-- (decamp/lease.Table).many
def F33 (x : T30D × Bool × Unit) : Option (Int × Unit) :=
 Option.bind (F48 (x.fst.fst, 0, ())) fun (b : Int × Unit) =>
 bif x.snd.fst then
 Option.bind (F49 x.fst) fun (b_1 : Int × Unit) => some (wrap64 (b_1.fst - b.fst), ())
 else some b
def S33 : Sig := ⟨P33, R33, F33⟩
noncomputable def E33 : Env := { tab := tab, nt := 16, Γ := lookG [(48, [S48]), (49, [S49])], joins := lookN [], loops := lookN [] }
theorem raw33_eq (x : T30D × Bool × Unit) : afun E33 Try.f33 P33 R33 x = F33 x := by kernel_rfl
-- (*decamp/order.node[int64, decamp/lease.term]).depth
def F58 (x : T26D × Unit) : Option (Int × Unit) :=
 bif isLeaf x.fst then some (0, ())
 else
 Option.bind
 (openN (Ty.int IntKind.i64)
 (Ty.pair (Ty.int IntKind.i64)
 (Ty.pair (Ty.int IntKind.i64) (Ty.pair (Ty.int IntKind.i64) (Ty.pair Ty.bool Ty.unit))))
 x.fst)
 fun
 (_z :
 T78D × Tree Int T68D × Tree Int T68D × Int × Int × Unit) =>
 Option.bind
 (openN (Ty.int IntKind.i64)
 (Ty.pair (Ty.int IntKind.i64)
 (Ty.pair (Ty.int IntKind.i64) (Ty.pair (Ty.int IntKind.i64) (Ty.pair Ty.bool Ty.unit))))
 x.fst)
 fun
 (b :
 T78D × Tree Int T68D × Tree Int T68D × Int × Int × Unit) =>
 some b.snd.snd.snd.snd
def S58 : Sig := ⟨P58, R58, F58⟩
noncomputable def E58 : Env := { tab := tab, nt := 9, Γ := lookG [], joins := lookN [], loops := lookN [] }
theorem raw58_eq (x : T26D × Unit) : afun E58 Try.f58 P58 R58 x = F58 x := by kernel_rfl
-- decamp/order.tree[int64,decamp/lease.term]
def F57 (x : T78D × T26D × T26D × Unit) : Option (T26D × Unit) :=
 Option.bind (F56 (x.snd.fst, ())) fun (b : Int × Unit) =>
 Option.bind (F56 x.snd.snd) fun (b_1 : Int × Unit) =>
 Option.bind (F58 (x.snd.fst, ())) fun (b_2 : Int × Unit) =>
 Option.bind (F58 x.snd.snd) fun (b_3 : Int × Unit) =>
 some
 (nodeOf (Ty.int IntKind.i64)
 (Ty.pair (Ty.int IntKind.i64)
 (Ty.pair (Ty.int IntKind.i64) (Ty.pair (Ty.int IntKind.i64) (Ty.pair Ty.bool Ty.unit))))
 (x.fst, x.snd.fst, x.snd.snd.fst,
 wrap64 (wrap64 (b.fst + b_1.fst) + 1),
 wrap64 (maxI b_2.fst b_3.fst + 1), ()),
 ())
def S57 : Sig := ⟨P57, R57, F57⟩
noncomputable def E57 : Env := { tab := tab, nt := 24, Γ := lookG [(56, [S56]), (58, [S58])], joins := lookN [], loops := lookN [] }
theorem raw57_eq (x : T78D × T26D × T26D × Unit) : afun E57 Try.f57 P57 R57 x = F57 x := by kernel_rfl
-- decamp/order.even[int64,decamp/lease.term]
def F54 (x : T78D × T26D × T26D × Unit) : Option (T26D × Unit) :=
 Option.bind (F58 (x.snd.fst, ())) fun (b : Int × Unit) =>
 Option.bind (F58 x.snd.snd) fun (b_1 : Int × Unit) =>
 bif decide (wrap64 (b_1.fst + 1) < b.fst) then
 Option.bind
 (openN (Ty.int IntKind.i64)
 (Ty.pair (Ty.int IntKind.i64)
 (Ty.pair (Ty.int IntKind.i64) (Ty.pair (Ty.int IntKind.i64) (Ty.pair Ty.bool Ty.unit))))
 x.snd.fst)
 fun
 (_z :
 T78D × Tree Int T68D × Tree Int T68D × Int × Int × Unit) =>
 Option.bind
 (openN (Ty.int IntKind.i64)
 (Ty.pair (Ty.int IntKind.i64)
 (Ty.pair (Ty.int IntKind.i64) (Ty.pair (Ty.int IntKind.i64) (Ty.pair Ty.bool Ty.unit))))
 x.snd.fst)
 fun
 (b :
 T78D × Tree Int T68D × Tree Int T68D × Int × Int × Unit) =>
 Option.bind (F58 (b.snd.fst, ())) fun (b : Int × Unit) =>
 Option.bind
 (openN (Ty.int IntKind.i64)
 (Ty.pair (Ty.int IntKind.i64)
 (Ty.pair (Ty.int IntKind.i64) (Ty.pair (Ty.int IntKind.i64) (Ty.pair Ty.bool Ty.unit))))
 x.snd.fst)
 fun
 (_z :
 T78D × Tree Int T68D × Tree Int T68D × Int × Int × Unit) =>
 Option.bind
 (openN (Ty.int IntKind.i64)
 (Ty.pair (Ty.int IntKind.i64)
 (Ty.pair (Ty.int IntKind.i64) (Ty.pair (Ty.int IntKind.i64) (Ty.pair Ty.bool Ty.unit))))
 x.snd.fst)
 fun
 (b_2 :
 T78D × Tree Int T68D × Tree Int T68D × Int × Int × Unit) =>
 Option.bind (F58 (b_2.snd.snd.fst, ())) fun (b_3 : Int × Unit) =>
 bif decide (b_3.fst ≤ b.fst) then
 Option.bind
 (openN (Ty.int IntKind.i64)
 (Ty.pair (Ty.int IntKind.i64)
 (Ty.pair (Ty.int IntKind.i64) (Ty.pair (Ty.int IntKind.i64) (Ty.pair Ty.bool Ty.unit))))
 x.snd.fst)
 fun
 (_z :
 T78D × Tree Int T68D × Tree Int T68D × Int × Int × Unit) =>
 Option.bind
 (openN (Ty.int IntKind.i64)
 (Ty.pair (Ty.int IntKind.i64)
 (Ty.pair (Ty.int IntKind.i64) (Ty.pair (Ty.int IntKind.i64) (Ty.pair Ty.bool Ty.unit))))
 x.snd.fst)
 fun
 (b :
 T78D × Tree Int T68D × Tree Int T68D × Int × Int × Unit) =>
 Option.bind
 (openN (Ty.int IntKind.i64)
 (Ty.pair (Ty.int IntKind.i64)
 (Ty.pair (Ty.int IntKind.i64) (Ty.pair (Ty.int IntKind.i64) (Ty.pair Ty.bool Ty.unit))))
 x.snd.fst)
 fun
 (_z :
 T78D × Tree Int T68D × Tree Int T68D × Int × Int × Unit) =>
 Option.bind
 (openN (Ty.int IntKind.i64)
 (Ty.pair (Ty.int IntKind.i64)
 (Ty.pair (Ty.int IntKind.i64)
 (Ty.pair (Ty.int IntKind.i64) (Ty.pair Ty.bool Ty.unit))))
 x.snd.fst)
 fun
 (b_4 :
 T78D × Tree Int T68D × Tree Int T68D × Int × Int × Unit) =>
 Option.bind
 (openN (Ty.int IntKind.i64)
 (Ty.pair (Ty.int IntKind.i64)
 (Ty.pair (Ty.int IntKind.i64)
 (Ty.pair (Ty.int IntKind.i64) (Ty.pair Ty.bool Ty.unit))))
 x.snd.fst)
 fun
 (_z :
 T78D × Tree Int T68D × Tree Int T68D × Int × Int × Unit) =>
 Option.bind
 (openN (Ty.int IntKind.i64)
 (Ty.pair (Ty.int IntKind.i64)
 (Ty.pair (Ty.int IntKind.i64)
 (Ty.pair (Ty.int IntKind.i64) (Ty.pair Ty.bool Ty.unit))))
 x.snd.fst)
 fun
 (b_5 :
 T78D × Tree Int T68D × Tree Int T68D × Int × Int × Unit) =>
 Option.bind (F57 (x.fst, b_5.snd.snd.fst, x.snd.snd))
 fun (b_6 : Tree Int T68D × Unit) =>
 Option.bind (F57 (b.fst, b_4.snd.fst, b_6))
 fun (b : Tree Int T68D × Unit) => some b
 else
 Option.bind
 (openN (Ty.int IntKind.i64)
 (Ty.pair (Ty.int IntKind.i64)
 (Ty.pair (Ty.int IntKind.i64) (Ty.pair (Ty.int IntKind.i64) (Ty.pair Ty.bool Ty.unit))))
 x.snd.fst)
 fun
 (_z :
 T78D × Tree Int T68D × Tree Int T68D × Int × Int × Unit) =>
 Option.bind
 (openN (Ty.int IntKind.i64)
 (Ty.pair (Ty.int IntKind.i64)
 (Ty.pair (Ty.int IntKind.i64) (Ty.pair (Ty.int IntKind.i64) (Ty.pair Ty.bool Ty.unit))))
 x.snd.fst)
 fun
 (b :
 T78D × Tree Int T68D × Tree Int T68D × Int × Int × Unit) =>
 Option.bind
 (openN (Ty.int IntKind.i64)
 (Ty.pair (Ty.int IntKind.i64)
 (Ty.pair (Ty.int IntKind.i64) (Ty.pair (Ty.int IntKind.i64) (Ty.pair Ty.bool Ty.unit))))
 b.snd.snd.fst)
 fun
 (_z :
 T78D × Tree Int T68D × Tree Int T68D × Int × Int × Unit) =>
 Option.bind
 (openN (Ty.int IntKind.i64)
 (Ty.pair (Ty.int IntKind.i64)
 (Ty.pair (Ty.int IntKind.i64)
 (Ty.pair (Ty.int IntKind.i64) (Ty.pair Ty.bool Ty.unit))))
 b.snd.snd.fst)
 fun
 (b_4 :
 T78D × Tree Int T68D × Tree Int T68D × Int × Int × Unit) =>
 Option.bind
 (openN (Ty.int IntKind.i64)
 (Ty.pair (Ty.int IntKind.i64)
 (Ty.pair (Ty.int IntKind.i64)
 (Ty.pair (Ty.int IntKind.i64) (Ty.pair Ty.bool Ty.unit))))
 x.snd.fst)
 fun
 (_z :
 T78D × Tree Int T68D × Tree Int T68D × Int × Int × Unit) =>
 Option.bind
 (openN (Ty.int IntKind.i64)
 (Ty.pair (Ty.int IntKind.i64)
 (Ty.pair (Ty.int IntKind.i64)
 (Ty.pair (Ty.int IntKind.i64) (Ty.pair Ty.bool Ty.unit))))
 x.snd.fst)
 fun
 (b_5 :
 T78D × Tree Int T68D × Tree Int T68D × Int × Int × Unit) =>
 Option.bind
 (openN (Ty.int IntKind.i64)
 (Ty.pair (Ty.int IntKind.i64)
 (Ty.pair (Ty.int IntKind.i64)
 (Ty.pair (Ty.int IntKind.i64) (Ty.pair Ty.bool Ty.unit))))
 x.snd.fst)
 fun
 (_z :
 T78D × Tree Int T68D × Tree Int T68D × Int × Int × Unit) =>
 Option.bind
 (openN (Ty.int IntKind.i64)
 (Ty.pair (Ty.int IntKind.i64)
 (Ty.pair (Ty.int IntKind.i64)
 (Ty.pair (Ty.int IntKind.i64) (Ty.pair Ty.bool Ty.unit))))
 x.snd.fst)
 fun
 (b_6 :
 T78D × Tree Int T68D × Tree Int T68D × Int × Int × Unit) =>
 Option.bind
 (openN (Ty.int IntKind.i64)
 (Ty.pair (Ty.int IntKind.i64)
 (Ty.pair (Ty.int IntKind.i64)
 (Ty.pair (Ty.int IntKind.i64) (Ty.pair Ty.bool Ty.unit))))
 b.snd.snd.fst)
 fun
 (_z :
 T78D × Tree Int T68D × Tree Int T68D × Int × Int × Unit) =>
 Option.bind
 (openN (Ty.int IntKind.i64)
 (Ty.pair (Ty.int IntKind.i64)
 (Ty.pair (Ty.int IntKind.i64)
 (Ty.pair (Ty.int IntKind.i64) (Ty.pair Ty.bool Ty.unit))))
 b.snd.snd.fst)
 fun
 (b_7 :
 T78D × Tree Int T68D × Tree Int T68D × Int × Int × Unit) =>
 Option.bind (F57 (b_5.fst, b_6.snd.fst, b_7.snd.fst, ()))
 fun (b_8 : Tree Int T68D × Unit) =>
 Option.bind
 (openN (Ty.int IntKind.i64)
 (Ty.pair (Ty.int IntKind.i64)
 (Ty.pair (Ty.int IntKind.i64)
 (Ty.pair (Ty.int IntKind.i64) (Ty.pair Ty.bool Ty.unit))))
 b.snd.snd.fst)
 fun
 (_z :
 T78D × Tree Int T68D × Tree Int T68D × Int × Int × Unit) =>
 Option.bind
 (openN (Ty.int IntKind.i64)
 (Ty.pair (Ty.int IntKind.i64)
 (Ty.pair (Ty.int IntKind.i64)
 (Ty.pair (Ty.int IntKind.i64) (Ty.pair Ty.bool Ty.unit))))
 b.snd.snd.fst)
 fun
 (b :
 T78D × Tree Int T68D × Tree Int T68D × Int × Int × Unit) =>
 Option.bind (F57 (x.fst, b.snd.snd.fst, x.snd.snd))
 fun (b : Tree Int T68D × Unit) =>
 Option.bind (F57 (b_4.fst, b_8.fst, b))
 fun (b : Tree Int T68D × Unit) =>
 some b
 else
 Option.bind (F58 x.snd.snd) fun (b : Int × Unit) =>
 Option.bind (F58 (x.snd.fst, ())) fun (b_2 : Int × Unit) =>
 bif decide (wrap64 (b_2.fst + 1) < b.fst) then
 Option.bind
 (openN (Ty.int IntKind.i64)
 (Ty.pair (Ty.int IntKind.i64)
 (Ty.pair (Ty.int IntKind.i64) (Ty.pair (Ty.int IntKind.i64) (Ty.pair Ty.bool Ty.unit))))
 x.snd.snd.fst)
 fun
 (_z :
 T78D × Tree Int T68D × Tree Int T68D × Int × Int × Unit) =>
 Option.bind
 (openN (Ty.int IntKind.i64)
 (Ty.pair (Ty.int IntKind.i64)
 (Ty.pair (Ty.int IntKind.i64) (Ty.pair (Ty.int IntKind.i64) (Ty.pair Ty.bool Ty.unit))))
 x.snd.snd.fst)
 fun
 (b :
 T78D × Tree Int T68D × Tree Int T68D × Int × Int × Unit) =>
 Option.bind (F58 (b.snd.snd.fst, ())) fun (b : Int × Unit) =>
 Option.bind
 (openN (Ty.int IntKind.i64)
 (Ty.pair (Ty.int IntKind.i64)
 (Ty.pair (Ty.int IntKind.i64) (Ty.pair (Ty.int IntKind.i64) (Ty.pair Ty.bool Ty.unit))))
 x.snd.snd.fst)
 fun
 (_z :
 T78D × Tree Int T68D × Tree Int T68D × Int × Int × Unit) =>
 Option.bind
 (openN (Ty.int IntKind.i64)
 (Ty.pair (Ty.int IntKind.i64)
 (Ty.pair (Ty.int IntKind.i64) (Ty.pair (Ty.int IntKind.i64) (Ty.pair Ty.bool Ty.unit))))
 x.snd.snd.fst)
 fun
 (b_3 :
 T78D × Tree Int T68D × Tree Int T68D × Int × Int × Unit) =>
 Option.bind (F58 (b_3.snd.fst, ())) fun (b_4 : Int × Unit) =>
 bif decide (b_4.fst ≤ b.fst) then
 Option.bind
 (openN (Ty.int IntKind.i64)
 (Ty.pair (Ty.int IntKind.i64)
 (Ty.pair (Ty.int IntKind.i64)
 (Ty.pair (Ty.int IntKind.i64) (Ty.pair Ty.bool Ty.unit))))
 x.snd.snd.fst)
 fun
 (_z :
 T78D × Tree Int T68D × Tree Int T68D × Int × Int × Unit) =>
 Option.bind
 (openN (Ty.int IntKind.i64)
 (Ty.pair (Ty.int IntKind.i64)
 (Ty.pair (Ty.int IntKind.i64)
 (Ty.pair (Ty.int IntKind.i64) (Ty.pair Ty.bool Ty.unit))))
 x.snd.snd.fst)
 fun
 (b :
 T78D × Tree Int T68D × Tree Int T68D × Int × Int × Unit) =>
 Option.bind
 (openN (Ty.int IntKind.i64)
 (Ty.pair (Ty.int IntKind.i64)
 (Ty.pair (Ty.int IntKind.i64)
 (Ty.pair (Ty.int IntKind.i64) (Ty.pair Ty.bool Ty.unit))))
 x.snd.snd.fst)
 fun
 (_z :
 T78D × Tree Int T68D × Tree Int T68D × Int × Int × Unit) =>
 Option.bind
 (openN (Ty.int IntKind.i64)
 (Ty.pair (Ty.int IntKind.i64)
 (Ty.pair (Ty.int IntKind.i64)
 (Ty.pair (Ty.int IntKind.i64) (Ty.pair Ty.bool Ty.unit))))
 x.snd.snd.fst)
 fun
 (b_5 :
 T78D × Tree Int T68D × Tree Int T68D × Int × Int × Unit) =>
 Option.bind (F57 (x.fst, x.snd.fst, b_5.snd.fst, ()))
 fun (b_6 : Tree Int T68D × Unit) =>
 Option.bind
 (openN (Ty.int IntKind.i64)
 (Ty.pair (Ty.int IntKind.i64)
 (Ty.pair (Ty.int IntKind.i64)
 (Ty.pair (Ty.int IntKind.i64) (Ty.pair Ty.bool Ty.unit))))
 x.snd.snd.fst)
 fun
 (_z :
 T78D × Tree Int T68D × Tree Int T68D × Int × Int × Unit) =>
 Option.bind
 (openN (Ty.int IntKind.i64)
 (Ty.pair (Ty.int IntKind.i64)
 (Ty.pair (Ty.int IntKind.i64)
 (Ty.pair (Ty.int IntKind.i64) (Ty.pair Ty.bool Ty.unit))))
 x.snd.snd.fst)
 fun
 (b_7 :
 T78D × Tree Int T68D × Tree Int T68D × Int × Int × Unit) =>
 Option.bind (F57 (b.fst, b_6.fst, b_7.snd.snd.fst, ()))
 fun (b : Tree Int T68D × Unit) => some b
 else
 Option.bind
 (openN (Ty.int IntKind.i64)
 (Ty.pair (Ty.int IntKind.i64)
 (Ty.pair (Ty.int IntKind.i64)
 (Ty.pair (Ty.int IntKind.i64) (Ty.pair Ty.bool Ty.unit))))
 x.snd.snd.fst)
 fun
 (_z :
 T78D × Tree Int T68D × Tree Int T68D × Int × Int × Unit) =>
 Option.bind
 (openN (Ty.int IntKind.i64)
 (Ty.pair (Ty.int IntKind.i64)
 (Ty.pair (Ty.int IntKind.i64)
 (Ty.pair (Ty.int IntKind.i64) (Ty.pair Ty.bool Ty.unit))))
 x.snd.snd.fst)
 fun
 (b :
 T78D × Tree Int T68D × Tree Int T68D × Int × Int × Unit) =>
 Option.bind
 (openN (Ty.int IntKind.i64)
 (Ty.pair (Ty.int IntKind.i64)
 (Ty.pair (Ty.int IntKind.i64)
 (Ty.pair (Ty.int IntKind.i64) (Ty.pair Ty.bool Ty.unit))))
 b.snd.fst)
 fun
 (_z :
 T78D × Tree Int T68D × Tree Int T68D × Int × Int × Unit) =>
 Option.bind
 (openN (Ty.int IntKind.i64)
 (Ty.pair (Ty.int IntKind.i64)
 (Ty.pair (Ty.int IntKind.i64)
 (Ty.pair (Ty.int IntKind.i64) (Ty.pair Ty.bool Ty.unit))))
 b.snd.fst)
 fun
 (b_5 :
 T78D × Tree Int T68D × Tree Int T68D × Int × Int × Unit) =>
 Option.bind
 (openN (Ty.int IntKind.i64)
 (Ty.pair (Ty.int IntKind.i64)
 (Ty.pair (Ty.int IntKind.i64)
 (Ty.pair (Ty.int IntKind.i64) (Ty.pair Ty.bool Ty.unit))))
 b.snd.fst)
 fun
 (_z :
 T78D × Tree Int T68D × Tree Int T68D × Int × Int × Unit) =>
 Option.bind
 (openN (Ty.int IntKind.i64)
 (Ty.pair (Ty.int IntKind.i64)
 (Ty.pair (Ty.int IntKind.i64)
 (Ty.pair (Ty.int IntKind.i64) (Ty.pair Ty.bool Ty.unit))))
 b.snd.fst)
 fun
 (b_6 :
 T78D × Tree Int T68D × Tree Int T68D × Int × Int × Unit) =>
 Option.bind (F57 (x.fst, x.snd.fst, b_6.snd.fst, ()))
 fun (b_7 : Tree Int T68D × Unit) =>
 Option.bind
 (openN (Ty.int IntKind.i64)
 (Ty.pair (Ty.int IntKind.i64)
 (Ty.pair (Ty.int IntKind.i64)
 (Ty.pair (Ty.int IntKind.i64) (Ty.pair Ty.bool Ty.unit))))
 x.snd.snd.fst)
 fun
 (_z :
 T78D × Tree Int T68D × Tree Int T68D × Int × Int × Unit) =>
 Option.bind
 (openN (Ty.int IntKind.i64)
 (Ty.pair (Ty.int IntKind.i64)
 (Ty.pair (Ty.int IntKind.i64)
 (Ty.pair (Ty.int IntKind.i64) (Ty.pair Ty.bool Ty.unit))))
 x.snd.snd.fst)
 fun
 (b_8 :
 T78D × Tree Int T68D × Tree Int T68D × Int × Int × Unit) =>
 Option.bind
 (openN (Ty.int IntKind.i64)
 (Ty.pair (Ty.int IntKind.i64)
 (Ty.pair (Ty.int IntKind.i64)
 (Ty.pair (Ty.int IntKind.i64) (Ty.pair Ty.bool Ty.unit))))
 b.snd.fst)
 fun
 (_z :
 T78D × Tree Int T68D × Tree Int T68D × Int × Int × Unit) =>
 Option.bind
 (openN (Ty.int IntKind.i64)
 (Ty.pair (Ty.int IntKind.i64)
 (Ty.pair (Ty.int IntKind.i64)
 (Ty.pair (Ty.int IntKind.i64) (Ty.pair Ty.bool Ty.unit))))
 b.snd.fst)
 fun
 (b :
 T78D × Tree Int T68D × Tree Int T68D × Int × Int × Unit) =>
 Option.bind
 (openN (Ty.int IntKind.i64)
 (Ty.pair (Ty.int IntKind.i64)
 (Ty.pair (Ty.int IntKind.i64)
 (Ty.pair (Ty.int IntKind.i64) (Ty.pair Ty.bool Ty.unit))))
 x.snd.snd.fst)
 fun
 (_z :
 T78D × Tree Int T68D × Tree Int T68D × Int × Int × Unit) =>
 Option.bind
 (openN (Ty.int IntKind.i64)
 (Ty.pair (Ty.int IntKind.i64)
 (Ty.pair (Ty.int IntKind.i64)
 (Ty.pair (Ty.int IntKind.i64) (Ty.pair Ty.bool Ty.unit))))
 x.snd.snd.fst)
 fun
 (b_9 :
 T78D × Tree Int T68D × Tree Int T68D × Int × Int × Unit) =>
 Option.bind
 (F57 (b_8.fst, b.snd.snd.fst, b_9.snd.snd.fst, ()))
 fun (b : Tree Int T68D × Unit) =>
 Option.bind (F57 (b_5.fst, b_7.fst, b))
 fun (b : Tree Int T68D × Unit) =>
 some b
 else Option.bind (F57 x) fun (b : Tree Int T68D × Unit) => some b
def S54 : Sig := ⟨P54, R54, F54⟩
noncomputable def E54 : Env := { tab := tab, nt := 139, Γ := lookG [(57, [S57]), (58, [S58])], joins := lookN [], loops := lookN [] }
theorem raw54_eq (x : T78D × T26D × T26D × Unit) : afun E54 Try.f54 P54 R54 x = F54 x := by kernel_rfl
-- (*decamp/order.node[int64, decamp/lease.term]).put
def F50s (F50 : T26D × T78D × Unit → Option (T26D × Unit)) (x : T26D × T78D × Unit) : Option (T26D × Unit) :=
 bif isLeaf x.fst then
 Option.bind (F57 (x.snd.fst, Tree.leaf, Tree.leaf, ()))
 fun (b : Tree Int T68D × Unit) => some b
 else
 Option.bind
 (openN (Ty.int IntKind.i64)
 (Ty.pair (Ty.int IntKind.i64)
 (Ty.pair (Ty.int IntKind.i64) (Ty.pair (Ty.int IntKind.i64) (Ty.pair Ty.bool Ty.unit))))
 x.fst)
 fun
 (_z :
 T78D × Tree Int T68D × Tree Int T68D × Int × Int × Unit) =>
 Option.bind
 (openN (Ty.int IntKind.i64)
 (Ty.pair (Ty.int IntKind.i64)
 (Ty.pair (Ty.int IntKind.i64) (Ty.pair (Ty.int IntKind.i64) (Ty.pair Ty.bool Ty.unit))))
 x.fst)
 fun
 (b :
 T78D × Tree Int T68D × Tree Int T68D × Int × Int × Unit) =>
 Option.bind (F46 (x.snd.fst.fst, b.fst.fst, ())) fun (b : Int × Unit) =>
 bif decide (b.fst < 0) then
 Option.bind
 (openN (Ty.int IntKind.i64)
 (Ty.pair (Ty.int IntKind.i64)
 (Ty.pair (Ty.int IntKind.i64) (Ty.pair (Ty.int IntKind.i64) (Ty.pair Ty.bool Ty.unit))))
 x.fst)
 fun
 (_z :
 T78D × Tree Int T68D × Tree Int T68D × Int × Int × Unit) =>
 Option.bind
 (openN (Ty.int IntKind.i64)
 (Ty.pair (Ty.int IntKind.i64)
 (Ty.pair (Ty.int IntKind.i64) (Ty.pair (Ty.int IntKind.i64) (Ty.pair Ty.bool Ty.unit))))
 x.fst)
 fun
 (b :
 T78D × Tree Int T68D × Tree Int T68D × Int × Int × Unit) =>
 Option.bind
 (openN (Ty.int IntKind.i64)
 (Ty.pair (Ty.int IntKind.i64)
 (Ty.pair (Ty.int IntKind.i64) (Ty.pair (Ty.int IntKind.i64) (Ty.pair Ty.bool Ty.unit))))
 x.fst)
 fun
 (_z :
 T78D × Tree Int T68D × Tree Int T68D × Int × Int × Unit) =>
 Option.bind
 (openN (Ty.int IntKind.i64)
 (Ty.pair (Ty.int IntKind.i64)
 (Ty.pair (Ty.int IntKind.i64) (Ty.pair (Ty.int IntKind.i64) (Ty.pair Ty.bool Ty.unit))))
 x.fst)
 fun
 (b_1 :
 T78D × Tree Int T68D × Tree Int T68D × Int × Int × Unit) =>
 Option.bind (F50 (b_1.snd.fst, x.snd))
 fun (b_2 : Tree Int T68D × Unit) =>
 Option.bind
 (openN (Ty.int IntKind.i64)
 (Ty.pair (Ty.int IntKind.i64)
 (Ty.pair (Ty.int IntKind.i64) (Ty.pair (Ty.int IntKind.i64) (Ty.pair Ty.bool Ty.unit))))
 x.fst)
 fun
 (_z :
 T78D × Tree Int T68D × Tree Int T68D × Int × Int × Unit) =>
 Option.bind
 (openN (Ty.int IntKind.i64)
 (Ty.pair (Ty.int IntKind.i64)
 (Ty.pair (Ty.int IntKind.i64) (Ty.pair (Ty.int IntKind.i64) (Ty.pair Ty.bool Ty.unit))))
 x.fst)
 fun
 (b_3 :
 T78D × Tree Int T68D × Tree Int T68D × Int × Int × Unit) =>
 Option.bind (F54 (b.fst, b_2.fst, b_3.snd.snd.fst, ()))
 fun (b : Tree Int T68D × Unit) => some b
 else
 bif decide (0 < b.fst) then
 Option.bind
 (openN (Ty.int IntKind.i64)
 (Ty.pair (Ty.int IntKind.i64)
 (Ty.pair (Ty.int IntKind.i64) (Ty.pair (Ty.int IntKind.i64) (Ty.pair Ty.bool Ty.unit))))
 x.fst)
 fun
 (_z :
 T78D × Tree Int T68D × Tree Int T68D × Int × Int × Unit) =>
 Option.bind
 (openN (Ty.int IntKind.i64)
 (Ty.pair (Ty.int IntKind.i64)
 (Ty.pair (Ty.int IntKind.i64) (Ty.pair (Ty.int IntKind.i64) (Ty.pair Ty.bool Ty.unit))))
 x.fst)
 fun
 (b :
 T78D × Tree Int T68D × Tree Int T68D × Int × Int × Unit) =>
 Option.bind
 (openN (Ty.int IntKind.i64)
 (Ty.pair (Ty.int IntKind.i64)
 (Ty.pair (Ty.int IntKind.i64) (Ty.pair (Ty.int IntKind.i64) (Ty.pair Ty.bool Ty.unit))))
 x.fst)
 fun
 (_z :
 T78D × Tree Int T68D × Tree Int T68D × Int × Int × Unit) =>
 Option.bind
 (openN (Ty.int IntKind.i64)
 (Ty.pair (Ty.int IntKind.i64)
 (Ty.pair (Ty.int IntKind.i64) (Ty.pair (Ty.int IntKind.i64) (Ty.pair Ty.bool Ty.unit))))
 x.fst)
 fun
 (b_1 :
 T78D × Tree Int T68D × Tree Int T68D × Int × Int × Unit) =>
 Option.bind
 (openN (Ty.int IntKind.i64)
 (Ty.pair (Ty.int IntKind.i64)
 (Ty.pair (Ty.int IntKind.i64) (Ty.pair (Ty.int IntKind.i64) (Ty.pair Ty.bool Ty.unit))))
 x.fst)
 fun
 (_z :
 T78D × Tree Int T68D × Tree Int T68D × Int × Int × Unit) =>
 Option.bind
 (openN (Ty.int IntKind.i64)
 (Ty.pair (Ty.int IntKind.i64)
 (Ty.pair (Ty.int IntKind.i64) (Ty.pair (Ty.int IntKind.i64) (Ty.pair Ty.bool Ty.unit))))
 x.fst)
 fun
 (b_2 :
 T78D × Tree Int T68D × Tree Int T68D × Int × Int × Unit) =>
 Option.bind (F50 (b_2.snd.snd.fst, x.snd))
 fun (b_3 : Tree Int T68D × Unit) =>
 Option.bind (F54 (b.fst, b_1.snd.fst, b_3))
 fun (b : Tree Int T68D × Unit) => some b
 else
 Option.bind
 (openN (Ty.int IntKind.i64)
 (Ty.pair (Ty.int IntKind.i64)
 (Ty.pair (Ty.int IntKind.i64) (Ty.pair (Ty.int IntKind.i64) (Ty.pair Ty.bool Ty.unit))))
 x.fst)
 fun
 (_z :
 T78D × Tree Int T68D × Tree Int T68D × Int × Int × Unit) =>
 Option.bind
 (openN (Ty.int IntKind.i64)
 (Ty.pair (Ty.int IntKind.i64)
 (Ty.pair (Ty.int IntKind.i64) (Ty.pair (Ty.int IntKind.i64) (Ty.pair Ty.bool Ty.unit))))
 x.fst)
 fun
 (b :
 T78D × Tree Int T68D × Tree Int T68D × Int × Int × Unit) =>
 Option.bind
 (openN (Ty.int IntKind.i64)
 (Ty.pair (Ty.int IntKind.i64)
 (Ty.pair (Ty.int IntKind.i64) (Ty.pair (Ty.int IntKind.i64) (Ty.pair Ty.bool Ty.unit))))
 x.fst)
 fun
 (_z :
 T78D × Tree Int T68D × Tree Int T68D × Int × Int × Unit) =>
 Option.bind
 (openN (Ty.int IntKind.i64)
 (Ty.pair (Ty.int IntKind.i64)
 (Ty.pair (Ty.int IntKind.i64) (Ty.pair (Ty.int IntKind.i64) (Ty.pair Ty.bool Ty.unit))))
 x.fst)
 fun
 (b_1 :
 T78D × Tree Int T68D × Tree Int T68D × Int × Int × Unit) =>
 Option.bind (F57 (x.snd.fst, b.snd.fst, b_1.snd.snd.fst, ()))
 fun (b : Tree Int T68D × Unit) => some b
noncomputable def E50r (F50 : T26D × T78D × Unit → Option (T26D × Unit)) : Env := { tab := tab, nt := 64, Γ := lookG [(46, [S46]), (50, [⟨P50, R50, F50⟩]), (54, [S54]), (57, [S57])], joins := lookN [], loops := lookN [] }
theorem raw50_eq (F50 : T26D × T78D × Unit → Option (T26D × Unit)) (x : T26D × T78D × Unit) : afun (E50r F50) Try.f50 P50 R50 x = F50s F50 x := by kernel_rfl
def F50 : T26D × T78D × Unit → Option (T26D × Unit) := recF F50s big
def S50 : Sig := ⟨P50, R50, F50⟩
-- (decamp/order.Map[int64, decamp/lease.term]).Put
def F34 (x : T28D × Int × T68D × Unit) : Option (T28D × Unit) :=
 Option.bind (F50 (x.fst.fst, x.snd, ())) fun (b : Tree Int T68D × Unit) =>
 some (b, ())
def S34 : Sig := ⟨P34, R34, F34⟩
noncomputable def E34 : Env := { tab := tab, nt := 14, Γ := lookG [(50, [S50])], joins := lookN [], loops := lookN [] }
theorem raw34_eq (x : T28D × Int × T68D × Unit) : afun E34 Try.f34 P34 R34 x = F34 x := by kernel_rfl
-- (decamp/lease.Table).Grant
def F11 (x : T30D × Int × Int × Int × Unit) : Option (T30D × Int × Unit) :=
 Option.bind (F32 x.snd) fun (b : Bool × Unit) =>
 bif !b.fst then some (((Tree.leaf, ()), ()), 1, ())
 else
 Option.bind (F30 (x.fst.fst, x.snd.fst, ())) fun (b : T68D × Bool × Unit) =>
 bif b.snd.fst then some (((Tree.leaf, ()), ()), 7, ())
 else
 Option.bind (F33 (x.fst, decide (0 < x.snd.fst), ())) fun (b : Int × Unit) =>
 bif decide (64 ≤ b.fst) then some (((Tree.leaf, ()), ()), 4, ())
 else
 Option.bind
 (F34
 (x.fst.fst, x.snd.fst,
 (x.snd.snd.fst, wrap64 (x.snd.snd.snd.fst + x.snd.snd.fst), 0, false, ()),
 ()))
 fun (b : (Tree Int T68D × Unit) × Unit) => some (b, 0, ())
def S11 : Sig := ⟨P11, R11, F11⟩
noncomputable def E11 : Env := { tab := tab, nt := 43, Γ := lookG [(30, [S30]), (32, [S32]), (33, [S33]), (34, [S34])], joins := lookN [], loops := lookN [] }
theorem raw11_eq (x : T30D × Int × Int × Int × Unit) : afun E11 Try.f11 P11 R11 x = F11 x := by kernel_rfl
-- (decamp/order.Map[int64, decamp/lease.term]).All$1
def F52 (x : T78D × Unit) : Option (Unit) := none
def S52 : Sig := ⟨P52, R52, F52⟩
noncomputable def E52 : Env := { tab := tab, nt := 7, Γ := lookG [], joins := lookN [], loops := lookN [] }
theorem raw52_eq (x : T78D × Unit) : afun E52 Try.f52 P52 R52 x = F52 x := by kernel_rfl
-- (decamp/order.Map[int64, decamp/lease.term]).All$1
def F52a (x : T78D × (List T78D × Unit) × Unit) : Option ((List T78D × Unit) × Unit) :=
 Option.bind (appO x.snd.fst.fst [x.fst]) fun (b : List T78D) =>
 some ((b, ()), ())
def S52a : Sig := ⟨P52a, R52a, F52a⟩
noncomputable def E52a : Env := { tab := tab, nt := 7, Γ := lookG [], joins := lookN [], loops := lookN [] }
theorem raw52a_eq (x : T78D × (List T78D × Unit) × Unit) : afun E52a Try.f52 P52a R52a x = F52a x := by kernel_rfl
-- (*decamp/order.node[int64, decamp/lease.term]).each
def F51as (F51a : T26D × (List T78D × Unit) × Unit → Option ((List T78D × Unit) × Unit)) (x : T26D × (List T78D × Unit) × Unit) : Option ((List T78D × Unit) × Unit) :=
 bif !isLeaf x.fst then
 Option.bind
 (openN (Ty.int IntKind.i64)
 (Ty.pair (Ty.int IntKind.i64)
 (Ty.pair (Ty.int IntKind.i64) (Ty.pair (Ty.int IntKind.i64) (Ty.pair Ty.bool Ty.unit))))
 x.fst)
 fun
 (_z :
 T78D × Tree Int T68D × Tree Int T68D × Int × Int × Unit) =>
 Option.bind
 (openN (Ty.int IntKind.i64)
 (Ty.pair (Ty.int IntKind.i64)
 (Ty.pair (Ty.int IntKind.i64) (Ty.pair (Ty.int IntKind.i64) (Ty.pair Ty.bool Ty.unit))))
 x.fst)
 fun
 (b :
 T78D × Tree Int T68D × Tree Int T68D × Int × Int × Unit) =>
 Option.bind (F51a (b.snd.fst, x.snd))
 fun (b : (List T78D × Unit) × Unit) =>
 Option.bind
 (openN (Ty.int IntKind.i64)
 (Ty.pair (Ty.int IntKind.i64)
 (Ty.pair (Ty.int IntKind.i64) (Ty.pair (Ty.int IntKind.i64) (Ty.pair Ty.bool Ty.unit))))
 x.fst)
 fun
 (_z :
 T78D × Tree Int T68D × Tree Int T68D × Int × Int × Unit) =>
 Option.bind
 (openN (Ty.int IntKind.i64)
 (Ty.pair (Ty.int IntKind.i64)
 (Ty.pair (Ty.int IntKind.i64) (Ty.pair (Ty.int IntKind.i64) (Ty.pair Ty.bool Ty.unit))))
 x.fst)
 fun
 (b_1 :
 T78D × Tree Int T68D × Tree Int T68D × Int × Int × Unit) =>
 Option.bind (F52a (b_1.fst, b))
 fun (b : (List T78D × Unit) × Unit) =>
 Option.bind
 (openN (Ty.int IntKind.i64)
 (Ty.pair (Ty.int IntKind.i64)
 (Ty.pair (Ty.int IntKind.i64) (Ty.pair (Ty.int IntKind.i64) (Ty.pair Ty.bool Ty.unit))))
 x.fst)
 fun
 (_z :
 T78D × Tree Int T68D × Tree Int T68D × Int × Int × Unit) =>
 Option.bind
 (openN (Ty.int IntKind.i64)
 (Ty.pair (Ty.int IntKind.i64)
 (Ty.pair (Ty.int IntKind.i64) (Ty.pair (Ty.int IntKind.i64) (Ty.pair Ty.bool Ty.unit))))
 x.fst)
 fun
 (b_2 :
 T78D × Tree Int T68D × Tree Int T68D × Int × Int × Unit) =>
 Option.bind (F51a (b_2.snd.snd.fst, b))
 fun (b : (List T78D × Unit) × Unit) => some b
 else some x.snd
noncomputable def E51ar (F51a : T26D × (List T78D × Unit) × Unit → Option ((List T78D × Unit) × Unit)) : Env := { tab := tab, nt := 24, Γ := lookG [(51, [⟨P51a, R51a, F51a⟩]), (52, [S52, S52a])], joins := lookN [], loops := lookN [] }
theorem raw51a_eq (F51a : T26D × (List T78D × Unit) × Unit → Option ((List T78D × Unit) × Unit)) (x : T26D × (List T78D × Unit) × Unit) : afun (E51ar F51a) Try.f51 P51a R51a x = F51as F51a x := by kernel_rfl
def F51a : T26D × (List T78D × Unit) × Unit → Option ((List T78D × Unit) × Unit) := recF F51as big
def S51a : Sig := ⟨P51a, R51a, F51a⟩
-- (decamp/order.Map[int64, decamp/lease.term]).All
def F36 (x : T28D × Unit) : Option (List T78D × Unit) :=
 Option.bind (F51a (x.fst.fst, ([], ()), ()))
 fun (b : (List T78D × Unit) × Unit) => some b.fst
def S36 : Sig := ⟨P36, R36, F36⟩
noncomputable def E36 : Env := { tab := tab, nt := 9, Γ := lookG [(51, [S51a]), (52, [S52, S52a])], joins := lookN [], loops := lookN [] }
theorem raw36_eq (x : T28D × Unit) : afun E36 Try.f36 P36 R36 x = F36 x := by kernel_rfl
-- (decamp/lease.Table).Due
def F14 (x : T30D × Int × Unit) : Option (List Int × Unit) :=
 Option.bind (F36 x.fst) fun (b : List T78D × Unit) =>
 iterE (List Int × Int × Unit) (List Int × Unit)
 (fun (x_1 : List Int × Int × Unit) =>
 bif decide (x_1.snd.fst < Int.ofNat (List.length b.fst)) then
 Option.bind (idxN b.fst x_1.snd.fst) fun (b_1 : Nat) =>
 Option.bind b.fst[b_1]? fun (b : T78D) =>
 Option.bind (F35 x.snd) fun (b_2 : Bool × Unit) =>
 bif b_2.fst then
 bif !b.snd.fst.snd.snd.snd.fst then
 bif decide (b.snd.fst.snd.fst ≤ x.snd.fst) then
 Option.bind (appO x_1.fst [b.fst]) fun (b : List Int) =>
 some (Sum.inl (b, wrap64 (x_1.snd.fst + 1), ()))
 else some (Sum.inl (x_1.fst, wrap64 (x_1.snd.fst + 1), ()))
 else some (Sum.inl (x_1.fst, wrap64 (x_1.snd.fst + 1), ()))
 else some (Sum.inl (x_1.fst, wrap64 (x_1.snd.fst + 1), ()))
 else some (Sum.inr (x_1.fst, ())))
 big ([], 0, ())
def S14 : Sig := ⟨P14, R14, F14⟩
noncomputable def E14 : Env := { tab := tab, nt := 38, Γ := lookG [(35, [S35]), (36, [S36])], joins := lookN [], loops := lookN [(3, mkLoop ⟨[⟨.slot 5, (.slice (.int .i64)), .own false⟩, ⟨.slot 12, (.int .i64), .pv⟩], [1, 10, 11], [.row 2003001]⟩)] }
theorem raw14_eq (x : T30D × Int × Unit) : afun E14 Try.f14 P14 R14 x = F14 x := by kernel_rfl
-- decamp/lease.told
def F42 (x : Int × T68D × Int × Unit) : Option (T52D × Unit) :=
 bif !x.snd.fst.snd.snd.snd.fst then
 some
 ((x.fst, x.snd.fst.fst, maxI (wrap64 (x.snd.fst.snd.fst - x.snd.snd.fst)) 0, ()),
 ())
 else some ((x.fst, x.snd.fst.fst, x.snd.fst.snd.snd.fst, ()), ())
def S42 : Sig := ⟨P42, R42, F42⟩
noncomputable def E42 : Env := { tab := tab, nt := 23, Γ := lookG [], joins := lookN [], loops := lookN [] }
theorem raw42_eq (x : Int × T68D × Int × Unit) : afun E42 Try.f42 P42 R42 x = F42 x := by kernel_rfl
-- (decamp/lease.Table).Get
def F19 (x : T30D × Int × Int × Unit) : Option (T52D × Bool × Unit) :=
 Option.bind (F30 (x.fst.fst, x.snd.fst, ())) fun (b : T68D × Bool × Unit) =>
 bif !b.snd.fst then some ((0, 0, 0, ()), false, ())
 else
 Option.bind (F35 x.snd.snd) fun (b_1 : Bool × Unit) =>
 bif !b_1.fst then some ((0, 0, 0, ()), false, ())
 else
 Option.bind (F42 (x.snd.fst, b.fst, x.snd.snd)) fun (b : T52D × Unit) =>
 some (b.fst, true, ())
def S19 : Sig := ⟨P19, R19, F19⟩
noncomputable def E19 : Env := { tab := tab, nt := 29, Γ := lookG [(30, [S30]), (35, [S35]), (42, [S42])], joins := lookN [], loops := lookN [] }
theorem raw19_eq (x : T30D × Int × Int × Unit) : afun E19 Try.f19 P19 R19 x = F19 x := by kernel_rfl
-- decamp/decamplaw16.awake
def F7 (x : Unit) : Option (Bool × Unit) :=
 Option.bind (F11 (((Tree.leaf, ()), ()), 7, 3, 10, ()))
 fun (b : ((Tree Int T68D × Unit) × Unit) × Int × Unit) =>
 Option.bind (F19 (b.fst, 7, 11, ())) fun (b_1 : T52D × Bool × Unit) =>
 bif decide (b.snd.fst = 0) then
 bif b_1.snd.fst then
 bif
 decide (b_1.fst.fst = 7) &&
 (decide (b_1.fst.snd.fst = 3) && (decide (b_1.fst.snd.snd.fst = 2) && true)) then
 Option.bind (F14 (b.fst, 13, ())) fun (b_2 : List Int × Unit) =>
 bif decide (Int.ofNat (List.length b_2.fst) = 1) then
 Option.bind (F14 (b.fst, 12, ())) fun (b : List Int × Unit) =>
 some (decide (Int.ofNat (List.length b.fst) = 0), ())
 else some (false, ())
 else some (false, ())
 else some (false, ())
 else some (false, ())
def S7 : Sig := ⟨P7, R7, F7⟩
noncomputable def E7 : Env := { tab := tab, nt := 38, Γ := lookG [(11, [S11]), (14, [S14]), (19, [S19])], joins := lookN [], loops := lookN [] }
theorem raw7_eq (x : Unit) : afun E7 Try.f7 P7 R7 x = F7 x := by kernel_rfl
-- decamp/decamplaw16.few
def F8 (x : List T36D × Int × Unit) : Option (Bool × Unit) :=
 iterE (Int × Unit) (Bool × Unit)
 (fun (x_1 : Int × Unit) =>
 bif decide (x_1.fst < Int.ofNat (List.length x.fst)) then
 bif decide (x.snd.fst ≤ x_1.fst) then some (Sum.inr (false, ()))
 else
 Option.bind (idx x.fst x_1.fst)
 fun (b : UInt8 × Int × Int × Int × Int × Bool × List T52D × Unit) =>
 bif decide (70 < Int.ofNat (List.length b.snd.snd.snd.snd.snd.snd.fst)) then
 some (Sum.inr (false, ()))
 else some (Sum.inl (wrap64 (x_1.fst + 1), ()))
 else some (Sum.inr (true, ())))
 big (0, ())
def S8 : Sig := ⟨P8, R8, F8⟩
noncomputable def E8 : Env := { tab := tab, nt := 24, Γ := lookG [], joins := lookN [], loops := lookN [(2, mkLoop ⟨[⟨.slot 8, (.int .i64), .pv⟩], [0, 1, 7], []⟩)] }
theorem raw8_eq (x : List T36D × Int × Unit) : afun E8 Try.f8 P8 R8 x = F8 x := by kernel_rfl
-- (*decamp/order.node[int64, decamp/lease.term]).least
def F55s (F55 : T26D × Unit → Option (T78D × T26D × Unit)) (x : T26D × Unit) : Option (T78D × T26D × Unit) :=
 Option.bind
 (openN (Ty.int IntKind.i64)
 (Ty.pair (Ty.int IntKind.i64)
 (Ty.pair (Ty.int IntKind.i64) (Ty.pair (Ty.int IntKind.i64) (Ty.pair Ty.bool Ty.unit))))
 x.fst)
 fun
 (_z :
 T78D × Tree Int T68D × Tree Int T68D × Int × Int × Unit) =>
 Option.bind
 (openN (Ty.int IntKind.i64)
 (Ty.pair (Ty.int IntKind.i64)
 (Ty.pair (Ty.int IntKind.i64) (Ty.pair (Ty.int IntKind.i64) (Ty.pair Ty.bool Ty.unit))))
 x.fst)
 fun
 (b :
 T78D × Tree Int T68D × Tree Int T68D × Int × Int × Unit) =>
 bif isLeaf b.snd.fst then
 Option.bind
 (openN (Ty.int IntKind.i64)
 (Ty.pair (Ty.int IntKind.i64)
 (Ty.pair (Ty.int IntKind.i64) (Ty.pair (Ty.int IntKind.i64) (Ty.pair Ty.bool Ty.unit))))
 x.fst)
 fun
 (_z :
 T78D × Tree Int T68D × Tree Int T68D × Int × Int × Unit) =>
 Option.bind
 (openN (Ty.int IntKind.i64)
 (Ty.pair (Ty.int IntKind.i64)
 (Ty.pair (Ty.int IntKind.i64) (Ty.pair (Ty.int IntKind.i64) (Ty.pair Ty.bool Ty.unit))))
 x.fst)
 fun
 (b :
 T78D × Tree Int T68D × Tree Int T68D × Int × Int × Unit) =>
 Option.bind
 (openN (Ty.int IntKind.i64)
 (Ty.pair (Ty.int IntKind.i64)
 (Ty.pair (Ty.int IntKind.i64) (Ty.pair (Ty.int IntKind.i64) (Ty.pair Ty.bool Ty.unit))))
 x.fst)
 fun
 (_z :
 T78D × Tree Int T68D × Tree Int T68D × Int × Int × Unit) =>
 Option.bind
 (openN (Ty.int IntKind.i64)
 (Ty.pair (Ty.int IntKind.i64)
 (Ty.pair (Ty.int IntKind.i64) (Ty.pair (Ty.int IntKind.i64) (Ty.pair Ty.bool Ty.unit))))
 x.fst)
 fun
 (b_1 :
 T78D × Tree Int T68D × Tree Int T68D × Int × Int × Unit) =>
 some (b.fst, b_1.snd.snd.fst, ())
 else
 Option.bind
 (openN (Ty.int IntKind.i64)
 (Ty.pair (Ty.int IntKind.i64)
 (Ty.pair (Ty.int IntKind.i64) (Ty.pair (Ty.int IntKind.i64) (Ty.pair Ty.bool Ty.unit))))
 x.fst)
 fun
 (_z :
 T78D × Tree Int T68D × Tree Int T68D × Int × Int × Unit) =>
 Option.bind
 (openN (Ty.int IntKind.i64)
 (Ty.pair (Ty.int IntKind.i64)
 (Ty.pair (Ty.int IntKind.i64) (Ty.pair (Ty.int IntKind.i64) (Ty.pair Ty.bool Ty.unit))))
 x.fst)
 fun
 (b :
 T78D × Tree Int T68D × Tree Int T68D × Int × Int × Unit) =>
 Option.bind (F55 (b.snd.fst, ()))
 fun
 (b :
 T78D × Tree Int T68D × Unit) =>
 Option.bind
 (openN (Ty.int IntKind.i64)
 (Ty.pair (Ty.int IntKind.i64)
 (Ty.pair (Ty.int IntKind.i64) (Ty.pair (Ty.int IntKind.i64) (Ty.pair Ty.bool Ty.unit))))
 x.fst)
 fun
 (_z :
 T78D × Tree Int T68D × Tree Int T68D × Int × Int × Unit) =>
 Option.bind
 (openN (Ty.int IntKind.i64)
 (Ty.pair (Ty.int IntKind.i64)
 (Ty.pair (Ty.int IntKind.i64) (Ty.pair (Ty.int IntKind.i64) (Ty.pair Ty.bool Ty.unit))))
 x.fst)
 fun
 (b_1 :
 T78D × Tree Int T68D × Tree Int T68D × Int × Int × Unit) =>
 Option.bind
 (openN (Ty.int IntKind.i64)
 (Ty.pair (Ty.int IntKind.i64)
 (Ty.pair (Ty.int IntKind.i64) (Ty.pair (Ty.int IntKind.i64) (Ty.pair Ty.bool Ty.unit))))
 x.fst)
 fun
 (_z :
 T78D × Tree Int T68D × Tree Int T68D × Int × Int × Unit) =>
 Option.bind
 (openN (Ty.int IntKind.i64)
 (Ty.pair (Ty.int IntKind.i64)
 (Ty.pair (Ty.int IntKind.i64) (Ty.pair (Ty.int IntKind.i64) (Ty.pair Ty.bool Ty.unit))))
 x.fst)
 fun
 (b_2 :
 T78D × Tree Int T68D × Tree Int T68D × Int × Int × Unit) =>
 Option.bind (F54 (b_1.fst, b.snd.fst, b_2.snd.snd.fst, ()))
 fun (b_3 : Tree Int T68D × Unit) => some (b.fst, b_3)
noncomputable def E55r (F55 : T26D × Unit → Option (T78D × T26D × Unit)) : Env := { tab := tab, nt := 38, Γ := lookG [(54, [S54]), (55, [⟨P55, R55, F55⟩])], joins := lookN [], loops := lookN [] }
theorem raw55_eq (F55 : T26D × Unit → Option (T78D × T26D × Unit)) (x : T26D × Unit) : afun (E55r F55) Try.f55 P55 R55 x = F55s F55 x := by kernel_rfl
def F55 : T26D × Unit → Option (T78D × T26D × Unit) := recF F55s big
def S55 : Sig := ⟨P55, R55, F55⟩
-- (*decamp/order.node[int64, decamp/lease.term]).del
def F47s (F47 : T26D × Int × Unit → Option (T26D × Unit)) (x : T26D × Int × Unit) : Option (T26D × Unit) :=
 Option.bind
 (openN (Ty.int IntKind.i64)
 (Ty.pair (Ty.int IntKind.i64)
 (Ty.pair (Ty.int IntKind.i64) (Ty.pair (Ty.int IntKind.i64) (Ty.pair Ty.bool Ty.unit))))
 x.fst)
 fun
 (_z :
 T78D × Tree Int T68D × Tree Int T68D × Int × Int × Unit) =>
 Option.bind
 (openN (Ty.int IntKind.i64)
 (Ty.pair (Ty.int IntKind.i64)
 (Ty.pair (Ty.int IntKind.i64) (Ty.pair (Ty.int IntKind.i64) (Ty.pair Ty.bool Ty.unit))))
 x.fst)
 fun
 (b :
 T78D × Tree Int T68D × Tree Int T68D × Int × Int × Unit) =>
 Option.bind (F46 (x.snd.fst, b.fst.fst, ())) fun (b : Int × Unit) =>
 bif decide (b.fst < 0) then
 Option.bind
 (openN (Ty.int IntKind.i64)
 (Ty.pair (Ty.int IntKind.i64)
 (Ty.pair (Ty.int IntKind.i64) (Ty.pair (Ty.int IntKind.i64) (Ty.pair Ty.bool Ty.unit))))
 x.fst)
 fun
 (_z :
 T78D × Tree Int T68D × Tree Int T68D × Int × Int × Unit) =>
 Option.bind
 (openN (Ty.int IntKind.i64)
 (Ty.pair (Ty.int IntKind.i64)
 (Ty.pair (Ty.int IntKind.i64) (Ty.pair (Ty.int IntKind.i64) (Ty.pair Ty.bool Ty.unit))))
 x.fst)
 fun
 (b :
 T78D × Tree Int T68D × Tree Int T68D × Int × Int × Unit) =>
 Option.bind
 (openN (Ty.int IntKind.i64)
 (Ty.pair (Ty.int IntKind.i64)
 (Ty.pair (Ty.int IntKind.i64) (Ty.pair (Ty.int IntKind.i64) (Ty.pair Ty.bool Ty.unit))))
 x.fst)
 fun
 (_z :
 T78D × Tree Int T68D × Tree Int T68D × Int × Int × Unit) =>
 Option.bind
 (openN (Ty.int IntKind.i64)
 (Ty.pair (Ty.int IntKind.i64)
 (Ty.pair (Ty.int IntKind.i64) (Ty.pair (Ty.int IntKind.i64) (Ty.pair Ty.bool Ty.unit))))
 x.fst)
 fun
 (b_1 :
 T78D × Tree Int T68D × Tree Int T68D × Int × Int × Unit) =>
 Option.bind (F47 (b_1.snd.fst, x.snd))
 fun (b_2 : Tree Int T68D × Unit) =>
 Option.bind
 (openN (Ty.int IntKind.i64)
 (Ty.pair (Ty.int IntKind.i64)
 (Ty.pair (Ty.int IntKind.i64) (Ty.pair (Ty.int IntKind.i64) (Ty.pair Ty.bool Ty.unit))))
 x.fst)
 fun
 (_z :
 T78D × Tree Int T68D × Tree Int T68D × Int × Int × Unit) =>
 Option.bind
 (openN (Ty.int IntKind.i64)
 (Ty.pair (Ty.int IntKind.i64)
 (Ty.pair (Ty.int IntKind.i64) (Ty.pair (Ty.int IntKind.i64) (Ty.pair Ty.bool Ty.unit))))
 x.fst)
 fun
 (b_3 :
 T78D × Tree Int T68D × Tree Int T68D × Int × Int × Unit) =>
 Option.bind (F54 (b.fst, b_2.fst, b_3.snd.snd.fst, ()))
 fun (b : Tree Int T68D × Unit) => some b
 else
 bif decide (0 < b.fst) then
 Option.bind
 (openN (Ty.int IntKind.i64)
 (Ty.pair (Ty.int IntKind.i64)
 (Ty.pair (Ty.int IntKind.i64) (Ty.pair (Ty.int IntKind.i64) (Ty.pair Ty.bool Ty.unit))))
 x.fst)
 fun
 (_z :
 T78D × Tree Int T68D × Tree Int T68D × Int × Int × Unit) =>
 Option.bind
 (openN (Ty.int IntKind.i64)
 (Ty.pair (Ty.int IntKind.i64)
 (Ty.pair (Ty.int IntKind.i64) (Ty.pair (Ty.int IntKind.i64) (Ty.pair Ty.bool Ty.unit))))
 x.fst)
 fun
 (b :
 T78D × Tree Int T68D × Tree Int T68D × Int × Int × Unit) =>
 Option.bind
 (openN (Ty.int IntKind.i64)
 (Ty.pair (Ty.int IntKind.i64)
 (Ty.pair (Ty.int IntKind.i64) (Ty.pair (Ty.int IntKind.i64) (Ty.pair Ty.bool Ty.unit))))
 x.fst)
 fun
 (_z :
 T78D × Tree Int T68D × Tree Int T68D × Int × Int × Unit) =>
 Option.bind
 (openN (Ty.int IntKind.i64)
 (Ty.pair (Ty.int IntKind.i64)
 (Ty.pair (Ty.int IntKind.i64) (Ty.pair (Ty.int IntKind.i64) (Ty.pair Ty.bool Ty.unit))))
 x.fst)
 fun
 (b_1 :
 T78D × Tree Int T68D × Tree Int T68D × Int × Int × Unit) =>
 Option.bind
 (openN (Ty.int IntKind.i64)
 (Ty.pair (Ty.int IntKind.i64)
 (Ty.pair (Ty.int IntKind.i64) (Ty.pair (Ty.int IntKind.i64) (Ty.pair Ty.bool Ty.unit))))
 x.fst)
 fun
 (_z :
 T78D × Tree Int T68D × Tree Int T68D × Int × Int × Unit) =>
 Option.bind
 (openN (Ty.int IntKind.i64)
 (Ty.pair (Ty.int IntKind.i64)
 (Ty.pair (Ty.int IntKind.i64) (Ty.pair (Ty.int IntKind.i64) (Ty.pair Ty.bool Ty.unit))))
 x.fst)
 fun
 (b_2 :
 T78D × Tree Int T68D × Tree Int T68D × Int × Int × Unit) =>
 Option.bind (F47 (b_2.snd.snd.fst, x.snd))
 fun (b_3 : Tree Int T68D × Unit) =>
 Option.bind (F54 (b.fst, b_1.snd.fst, b_3))
 fun (b : Tree Int T68D × Unit) => some b
 else
 Option.bind
 (openN (Ty.int IntKind.i64)
 (Ty.pair (Ty.int IntKind.i64)
 (Ty.pair (Ty.int IntKind.i64) (Ty.pair (Ty.int IntKind.i64) (Ty.pair Ty.bool Ty.unit))))
 x.fst)
 fun
 (_z :
 T78D × Tree Int T68D × Tree Int T68D × Int × Int × Unit) =>
 Option.bind
 (openN (Ty.int IntKind.i64)
 (Ty.pair (Ty.int IntKind.i64)
 (Ty.pair (Ty.int IntKind.i64) (Ty.pair (Ty.int IntKind.i64) (Ty.pair Ty.bool Ty.unit))))
 x.fst)
 fun
 (b :
 T78D × Tree Int T68D × Tree Int T68D × Int × Int × Unit) =>
 bif isLeaf b.snd.snd.fst then
 Option.bind
 (openN (Ty.int IntKind.i64)
 (Ty.pair (Ty.int IntKind.i64)
 (Ty.pair (Ty.int IntKind.i64) (Ty.pair (Ty.int IntKind.i64) (Ty.pair Ty.bool Ty.unit))))
 x.fst)
 fun
 (_z :
 T78D × Tree Int T68D × Tree Int T68D × Int × Int × Unit) =>
 Option.bind
 (openN (Ty.int IntKind.i64)
 (Ty.pair (Ty.int IntKind.i64)
 (Ty.pair (Ty.int IntKind.i64) (Ty.pair (Ty.int IntKind.i64) (Ty.pair Ty.bool Ty.unit))))
 x.fst)
 fun
 (b :
 T78D × Tree Int T68D × Tree Int T68D × Int × Int × Unit) =>
 some (b.snd.fst, ())
 else
 Option.bind
 (openN (Ty.int IntKind.i64)
 (Ty.pair (Ty.int IntKind.i64)
 (Ty.pair (Ty.int IntKind.i64) (Ty.pair (Ty.int IntKind.i64) (Ty.pair Ty.bool Ty.unit))))
 x.fst)
 fun
 (_z :
 T78D × Tree Int T68D × Tree Int T68D × Int × Int × Unit) =>
 Option.bind
 (openN (Ty.int IntKind.i64)
 (Ty.pair (Ty.int IntKind.i64)
 (Ty.pair (Ty.int IntKind.i64) (Ty.pair (Ty.int IntKind.i64) (Ty.pair Ty.bool Ty.unit))))
 x.fst)
 fun
 (b :
 T78D × Tree Int T68D × Tree Int T68D × Int × Int × Unit) =>
 Option.bind (F55 (b.snd.snd.fst, ()))
 fun
 (b :
 T78D × Tree Int T68D × Unit) =>
 Option.bind
 (openN (Ty.int IntKind.i64)
 (Ty.pair (Ty.int IntKind.i64)
 (Ty.pair (Ty.int IntKind.i64) (Ty.pair (Ty.int IntKind.i64) (Ty.pair Ty.bool Ty.unit))))
 x.fst)
 fun
 (_z :
 T78D × Tree Int T68D × Tree Int T68D × Int × Int × Unit) =>
 Option.bind
 (openN (Ty.int IntKind.i64)
 (Ty.pair (Ty.int IntKind.i64)
 (Ty.pair (Ty.int IntKind.i64) (Ty.pair (Ty.int IntKind.i64) (Ty.pair Ty.bool Ty.unit))))
 x.fst)
 fun
 (b_1 :
 T78D × Tree Int T68D × Tree Int T68D × Int × Int × Unit) =>
 Option.bind (F54 (b.fst, b_1.snd.fst, b.snd))
 fun (b : Tree Int T68D × Unit) => some b
noncomputable def E47r (F47 : T26D × Int × Unit → Option (T26D × Unit)) : Env := { tab := tab, nt := 76, Γ := lookG [(46, [S46]), (47, [⟨P47, R47, F47⟩]), (54, [S54]), (55, [S55])], joins := lookN [], loops := lookN [] }
theorem raw47_eq (F47 : T26D × Int × Unit → Option (T26D × Unit)) (x : T26D × Int × Unit) : afun (E47r F47) Try.f47 P47 R47 x = F47s F47 x := by kernel_rfl
def F47 : T26D × Int × Unit → Option (T26D × Unit) := recF F47s big
def S47 : Sig := ⟨P47, R47, F47⟩
-- (decamp/order.Map[int64, decamp/lease.term]).Del
def F31 (x : T28D × Int × Unit) : Option (T28D × Unit) :=
 Option.bind (F30 x) fun (b : T68D × Bool × Unit) =>
 bif !b.snd.fst then some (x.fst, ())
 else
 Option.bind (F47 (x.fst.fst, x.snd)) fun (b : Tree Int T68D × Unit) =>
 some (b, ())
def S31 : Sig := ⟨P31, R31, F31⟩
noncomputable def E31 : Env := { tab := tab, nt := 21, Γ := lookG [(30, [S30]), (47, [S47])], joins := lookN [], loops := lookN [] }
theorem raw31_eq (x : T28D × Int × Unit) : afun E31 Try.f31 P31 R31 x = F31 x := by kernel_rfl
-- (decamp/lease.Table).Drop
def F10 (x : T30D × Int × Unit) : Option (T30D × Bool × Unit) :=
 Option.bind (F30 (x.fst.fst, x.snd)) fun (b : T68D × Bool × Unit) =>
 Option.bind (F31 (x.fst.fst, x.snd)) fun (b_1 : (Tree Int T68D × Unit) × Unit) =>
 some (b_1, b.snd)
def S10 : Sig := ⟨P10, R10, F10⟩
noncomputable def E10 : Env := { tab := tab, nt := 21, Γ := lookG [(30, [S30]), (31, [S31])], joins := lookN [], loops := lookN [] }
theorem raw10_eq (x : T30D × Int × Unit) : afun E10 Try.f10 P10 R10 x = F10 x := by kernel_rfl
-- (decamp/lease.Table).Keep
def F12 (x : T30D × Int × Int × Unit) : Option (T30D × Int × Unit) :=
 Option.bind (F35 x.snd.snd) fun (b : Bool × Unit) =>
 bif !b.fst then some (((Tree.leaf, ()), ()), 1, ())
 else
 Option.bind (F30 (x.fst.fst, x.snd.fst, ())) fun (b : T68D × Bool × Unit) =>
 bif !b.snd.fst then some (((Tree.leaf, ()), ()), 12, ())
 else
 bif b.fst.snd.snd.snd.fst then
 Option.bind
 (F34 (x.fst.fst, x.snd.fst, (b.fst.fst, b.fst.snd.fst, b.fst.fst, b.fst.snd.snd.snd), ()))
 fun (b : (Tree Int T68D × Unit) × Unit) => some (b, 0, ())
 else
 Option.bind
 (F34
 (x.fst.fst, x.snd.fst, (b.fst.fst, wrap64 (x.snd.snd.fst + b.fst.fst), b.fst.snd.snd),
 ()))
 fun (b : (Tree Int T68D × Unit) × Unit) => some (b, 0, ())
def S12 : Sig := ⟨P12, R12, F12⟩
noncomputable def E12 : Env := { tab := tab, nt := 40, Γ := lookG [(30, [S30]), (34, [S34]), (35, [S35])], joins := lookN [], loops := lookN [] }
theorem raw12_eq (x : T30D × Int × Int × Unit) : afun E12 Try.f12 P12 R12 x = F12 x := by kernel_rfl
-- (decamp/lease.Table).Hold
def F16 (x : T30D × Int × Unit) : Option (T30D × Unit) :=
 Option.bind (F35 x.snd) fun (b : Bool × Unit) =>
 bif !b.fst then some (x.fst, ())
 else
 Option.bind (F36 x.fst) fun (b : List T78D × Unit) =>
 iterE (Int × (Tree Int T68D × Unit) × Unit)
 (((Tree Int T68D × Unit) × Unit) × Unit)
 (fun (x_1 : Int × (Tree Int T68D × Unit) × Unit) =>
 bif decide (x_1.fst < Int.ofNat (List.length b.fst)) then
 Option.bind (idxN b.fst x_1.fst) fun (b_1 : Nat) =>
 Option.bind b.fst[b_1]? fun (b : T78D) =>
 bif decide (0 < b.fst) then
 bif !b.snd.fst.snd.snd.snd.fst then
 Option.bind (F42 (b.fst, b.snd.fst, x.snd)) fun (b_2 : T52D × Unit) =>
 Option.bind
 (F34
 (x_1.snd.fst, b.fst, (b.snd.fst.fst, 0, b_2.fst.snd.snd.fst, true, ()), ()))
 fun (b : (Tree Int T68D × Unit) × Unit) =>
 some (Sum.inl (wrap64 (x_1.fst + 1), b))
 else some (Sum.inl (wrap64 (x_1.fst + 1), x_1.snd))
 else some (Sum.inl (wrap64 (x_1.fst + 1), x_1.snd))
 else some (Sum.inr (x_1.snd, ())))
 big (0, x.fst)
def S16 : Sig := ⟨P16, R16, F16⟩
noncomputable def E16 : Env := { tab := tab, nt := 47, Γ := lookG [(34, [S34]), (35, [S35]), (36, [S36]), (42, [S42])], joins := lookN [], loops := lookN [(4, mkLoop ⟨[⟨.slot 15, (.int .i64), .pv⟩, ⟨.fld 1000 0, T28, .pv⟩], [1, 2, 4, 13, 14], [.row 3003001, .site 2000, .fld 2000 0, .site 1000]⟩)] }
theorem raw16_eq (x : T30D × Int × Unit) : afun E16 Try.f16 P16 R16 x = F16 x := by kernel_rfl
-- (decamp/lease.Table).Free
def F17 (x : T30D × Int × Unit) : Option (T30D × Unit) :=
 Option.bind (F35 x.snd) fun (b : Bool × Unit) =>
 bif !b.fst then some (x.fst, ())
 else
 Option.bind (F36 x.fst) fun (b : List T78D × Unit) =>
 iterE (Int × (Tree Int T68D × Unit) × Unit)
 (((Tree Int T68D × Unit) × Unit) × Unit)
 (fun (x_1 : Int × (Tree Int T68D × Unit) × Unit) =>
 bif decide (x_1.fst < Int.ofNat (List.length b.fst)) then
 Option.bind (idxN b.fst x_1.fst) fun (b_1 : Nat) =>
 Option.bind b.fst[b_1]? fun (b : T78D) =>
 bif b.snd.fst.snd.snd.snd.fst then
 Option.bind
 (F34
 (x_1.snd.fst, b.fst,
 (b.snd.fst.fst, wrap64 (x.snd.fst + b.snd.fst.snd.snd.fst), 0, false,
 ()),
 ()))
 fun (b : (Tree Int T68D × Unit) × Unit) =>
 some (Sum.inl (wrap64 (x_1.fst + 1), b))
 else some (Sum.inl (wrap64 (x_1.fst + 1), x_1.snd))
 else some (Sum.inr (x_1.snd, ())))
 big (0, x.fst)
def S17 : Sig := ⟨P17, R17, F17⟩
noncomputable def E17 : Env := { tab := tab, nt := 39, Γ := lookG [(34, [S34]), (35, [S35]), (36, [S36])], joins := lookN [], loops := lookN [(4, mkLoop ⟨[⟨.slot 15, (.int .i64), .pv⟩, ⟨.fld 1000 0, T28, .pv⟩], [1, 2, 4, 13, 14], [.row 3003001, .site 2000, .fld 2000 0, .site 1000]⟩)] }
theorem raw17_eq (x : T30D × Int × Unit) : afun E17 Try.f17 P17 R17 x = F17 x := by kernel_rfl
-- (decamp/lease.Table).All
def F18 (x : T30D × Int × Unit) : Option (List T52D × Unit) :=
 Option.bind (F36 x.fst) fun (b : List T78D × Unit) =>
 iterE (List T52D × Int × Unit) (List T52D × Unit)
 (fun (x_1 : List T52D × Int × Unit) =>
 bif decide (x_1.snd.fst < Int.ofNat (List.length b.fst)) then
 Option.bind (idxN b.fst x_1.snd.fst) fun (b_1 : Nat) =>
 Option.bind b.fst[b_1]? fun (b : T78D) =>
 Option.bind (F35 x.snd) fun (b_2 : Bool × Unit) =>
 bif b_2.fst then
 Option.bind (F42 (b.fst, b.snd.fst, x.snd)) fun (b : T52D × Unit) =>
 Option.bind (appO x_1.fst [b.fst]) fun (b : List T52D) =>
 some (Sum.inl (b, wrap64 (x_1.snd.fst + 1), ()))
 else some (Sum.inl (x_1.fst, wrap64 (x_1.snd.fst + 1), ()))
 else some (Sum.inr (x_1.fst, ())))
 big ([], 0, ())
def S18 : Sig := ⟨P18, R18, F18⟩
noncomputable def E18 : Env := { tab := tab, nt := 29, Γ := lookG [(35, [S35]), (36, [S36]), (42, [S42])], joins := lookN [], loops := lookN [(3, mkLoop ⟨[⟨.slot 5, (.slice T52), .own false⟩, ⟨.slot 12, (.int .i64), .pv⟩], [1, 10, 11], [.row 2003001]⟩)] }
theorem raw18_eq (x : T30D × Int × Unit) : afun E18 Try.f18 P18 R18 x = F18 x := by kernel_rfl
-- decamp/decampref16.Time
def F40 (x : Int × Unit) : Option (Bool × Unit) :=
 bif decide (0 ≤ x.fst) then some (decide (x.fst ≤ 1099511627776), ()) else some (false, ())
def S40 : Sig := ⟨P40, R40, F40⟩
noncomputable def E40 : Env := { tab := tab, nt := 9, Γ := lookG [], joins := lookN [], loops := lookN [] }
theorem raw40_eq (x : Int × Unit) : afun E40 Try.f40 P40 R40 x = F40 x := by kernel_rfl
-- decamp/decampref16.Free
def F21 (x : List T83D × Int × Unit) : Option (List T83D × Unit) :=
 iterE (List T83D × Int × Unit)
 (List T83D × Unit)
 (fun (x_1 : List T83D × Int × Unit) =>
 bif decide (x_1.snd.fst < Int.ofNat (List.length x.fst)) then
 Option.bind (idx x.fst x_1.snd.fst) fun (b : T83D) =>
 Option.bind
 (Option.bind (F40 x.snd) fun (b_1 : Bool × Unit) =>
 bif b_1.fst then
 bif b.snd.snd.snd.snd.fst then
 some
 (Sum.inl
 (b.fst, b.snd.fst, wrap64 (x.snd.fst + b.snd.snd.snd.fst), 0, false,
 ()))
 else some (Sum.inl b)
 else some (Sum.inl b))
 fun
 (o :
 T83D ⊕ List T83D × Int × Unit ⊕ List T83D × Unit) =>
 Sum.elim
 (fun (x : T83D) =>
 Option.bind (appO x_1.fst [x]) fun (b : List T83D) =>
 some (Sum.inl (b, wrap64 (x_1.snd.fst + 1), ())))
 (fun
 (val :
 List T83D × Int × Unit ⊕ List T83D × Unit) =>
 some val)
 o
 else some (Sum.inr (x_1.fst, ())))
 big ([], 0, ())
def S21 : Sig := ⟨P21, R21, F21⟩
noncomputable def E21 : Env := { tab := tab, nt := 38, Γ := lookG [(40, [S40])], joins := lookN [(8, ⟨[⟨.fld 5005000 0, (.int .i64), .pv⟩, ⟨.fld 5005000 1, (.int .i64), .pv⟩, ⟨.fld 5005000 2, (.int .i64), .pv⟩, ⟨.fld 5005000 3, (.int .i64), .pv⟩, ⟨.fld 5005000 4, .bool, .pv⟩], [0, 1, 5, 7, 9, 10], [.site 5005000, .row 50003000]⟩)], loops := lookN [(3, mkLoop ⟨[⟨.slot 5, (.slice T83), .own false⟩, ⟨.slot 10, (.int .i64), .pv⟩], [0, 1, 9], []⟩)] }
theorem raw21_eq (x : List T83D × Int × Unit) : afun E21 Try.f21 P21 R21 x = F21 x := by kernel_rfl
-- decamp/decampref16.Told
def F41 (x : T83D × Int × Unit) : Option (T52D × Unit) :=
 bif x.fst.snd.snd.snd.snd.fst then some ((x.fst.fst, x.fst.snd.fst, x.fst.snd.snd.snd.fst, ()), ())
 else
 bif decide (x.fst.snd.snd.fst ≤ x.snd.fst) then some ((x.fst.fst, x.fst.snd.fst, 0, ()), ())
 else
 some
 ((x.fst.fst, x.fst.snd.fst, wrap64 (x.fst.snd.snd.fst - x.snd.fst), ()), ())
def S41 : Sig := ⟨P41, R41, F41⟩
noncomputable def E41 : Env := { tab := tab, nt := 32, Γ := lookG [], joins := lookN [], loops := lookN [] }
theorem raw41_eq (x : T83D × Int × Unit) : afun E41 Try.f41 P41 R41 x = F41 x := by kernel_rfl
-- decamp/decampref16.Hold
def F22 (x : List T83D × Int × Unit) : Option (List T83D × Unit) :=
 iterE (List T83D × Int × Unit)
 (List T83D × Unit)
 (fun (x_1 : List T83D × Int × Unit) =>
 bif decide (x_1.snd.fst < Int.ofNat (List.length x.fst)) then
 Option.bind (idx x.fst x_1.snd.fst) fun (b : T83D) =>
 Option.bind
 (Option.bind (F40 x.snd) fun (b_1 : Bool × Unit) =>
 bif b_1.fst then
 bif decide (0 < b.fst) then
 bif !b.snd.snd.snd.snd.fst then
 Option.bind (F41 (b, x.snd)) fun (b_2 : T52D × Unit) =>
 some (Sum.inl (b.fst, b.snd.fst, 0, b_2.fst.snd.snd.fst, true, ()))
 else some (Sum.inl b)
 else some (Sum.inl b)
 else some (Sum.inl b))
 fun
 (o :
 T83D ⊕ List T83D × Int × Unit ⊕ List T83D × Unit) =>
 Sum.elim
 (fun (x : T83D) =>
 Option.bind (appO x_1.fst [x]) fun (b : List T83D) =>
 some (Sum.inl (b, wrap64 (x_1.snd.fst + 1), ())))
 (fun
 (val :
 List T83D × Int × Unit ⊕ List T83D × Unit) =>
 some val)
 o
 else some (Sum.inr (x_1.fst, ())))
 big ([], 0, ())
def S22 : Sig := ⟨P22, R22, F22⟩
noncomputable def E22 : Env := { tab := tab, nt := 44, Γ := lookG [(40, [S40]), (41, [S41])], joins := lookN [(8, ⟨[⟨.fld 5005000 0, (.int .i64), .pv⟩, ⟨.fld 5005000 1, (.int .i64), .pv⟩, ⟨.fld 5005000 2, (.int .i64), .pv⟩, ⟨.fld 5005000 3, (.int .i64), .pv⟩, ⟨.fld 5005000 4, .bool, .pv⟩], [0, 1, 5, 7, 9, 10], [.site 5005000, .row 50003000]⟩)], loops := lookN [(3, mkLoop ⟨[⟨.slot 5, (.slice T83), .own false⟩, ⟨.slot 10, (.int .i64), .pv⟩], [0, 1, 9], []⟩)] }
theorem raw22_eq (x : List T83D × Int × Unit) : afun E22 Try.f22 P22 R22 x = F22 x := by kernel_rfl
-- decamp/decampref16.May
def F43 (x : Int × Int × Int × Unit) : Option (Bool × Unit) :=
 bif !decide (x.fst = 0) then
 bif decide (-1099511627776 ≤ x.fst) then
 bif decide (x.fst ≤ 1099511627776) then
 bif decide (1 ≤ x.snd.fst) then
 bif decide (x.snd.fst ≤ 1000) then Option.bind (F40 x.snd.snd) fun (b : Bool × Unit) => some b
 else some (false, ())
 else some (false, ())
 else some (false, ())
 else some (false, ())
 else some (false, ())
def S43 : Sig := ⟨P43, R43, F43⟩
noncomputable def E43 : Env := { tab := tab, nt := 29, Γ := lookG [(40, [S40])], joins := lookN [], loops := lookN [] }
theorem raw43_eq (x : Int × Int × Int × Unit) : afun E43 Try.f43 P43 R43 x = F43 x := by kernel_rfl
-- decamp/decampref16.At
def F44 (x : List T83D × Int × Unit) : Option (Int × Unit) :=
 iterE (Int × Unit) (Int × Unit)
 (fun (x_1 : Int × Unit) =>
 bif decide (x_1.fst < Int.ofNat (List.length x.fst)) then
 Option.bind (idx x.fst x_1.fst) fun (b : T83D) =>
 bif decide (b.fst = x.snd.fst) then some (Sum.inr x_1)
 else some (Sum.inl (wrap64 (x_1.fst + 1), ()))
 else some (Sum.inr (-1, ())))
 big (0, ())
def S44 : Sig := ⟨P44, R44, F44⟩
noncomputable def E44 : Env := { tab := tab, nt := 20, Γ := lookG [], joins := lookN [], loops := lookN [(2, mkLoop ⟨[⟨.slot 8, (.int .i64), .pv⟩], [0, 1, 7], []⟩)] }
theorem raw44_eq (x : List T83D × Int × Unit) : afun E44 Try.f44 P44 R44 x = F44 x := by kernel_rfl
-- decamp/decampref16.Set
def F45 (x : List T83D × T83D × Unit) : Option (List T83D × Unit) :=
 iterE (List T83D × Int × Unit)
 (List T83D × Unit)
 (fun (x_1 : List T83D × Int × Unit) =>
 bif decide (x_1.snd.fst < Int.ofNat (List.length x.fst)) then
 Option.bind (idx x.fst x_1.snd.fst) fun (b : T83D) =>
 bif decide (b.fst < x.snd.fst.fst) then
 Option.bind (idx x.fst x_1.snd.fst) fun (b : T83D) =>
 Option.bind (appO x_1.fst [b]) fun (b : List T83D) =>
 some (Sum.inl (b, wrap64 (x_1.snd.fst + 1), ()))
 else some (Sum.inl (x_1.fst, wrap64 (x_1.snd.fst + 1), ()))
 else
 Option.map Sum.inr
 (Option.bind (appO x_1.fst [x.snd.fst]) fun (b : List T83D) =>
 iterE (List T83D × Int × Unit)
 (List T83D × Unit)
 (fun (x_2 : List T83D × Int × Unit) =>
 bif decide (x_2.snd.fst < Int.ofNat (List.length x.fst)) then
 Option.bind (idx x.fst x_2.snd.fst) fun (b : T83D) =>
 bif decide (x.snd.fst.fst < b.fst) then
 Option.bind (idx x.fst x_2.snd.fst) fun (b : T83D) =>
 Option.bind (appO x_2.fst [b]) fun (b : List T83D) =>
 some (Sum.inl (b, wrap64 (x_2.snd.fst + 1), ()))
 else some (Sum.inl (x_2.fst, wrap64 (x_2.snd.fst + 1), ()))
 else some (Sum.inr (x_2.fst, ())))
 big (b, 0, ())))
 big ([], 0, ())
def S45 : Sig := ⟨P45, R45, F45⟩
noncomputable def E45 : Env := { tab := tab, nt := 55, Γ := lookG [], joins := lookN [], loops := lookN [(3, mkLoop ⟨[⟨.slot 5, (.slice T83), .own false⟩, ⟨.slot 10, (.int .i64), .pv⟩], [0, 3, 9], [.site 1000, .fld 1000 0, .fld 1000 1, .fld 1000 2, .fld 1000 3, .fld 1000 4]⟩), (10, mkLoop ⟨[⟨.slot 5, (.slice T83), .own false⟩, ⟨.slot 35, (.int .i64), .pv⟩], [0, 3, 34], [.site 1000, .fld 1000 0, .fld 1000 1, .fld 1000 2, .fld 1000 3, .fld 1000 4]⟩)] }
theorem raw45_eq (x : List T83D × T83D × Unit) : afun E45 Try.f45 P45 R45 x = F45 x := by kernel_rfl
-- decamp/decampref16.Grant
def F23 (x : List T83D × Int × Int × Int × Unit) : Option (List T83D × Int × Unit) :=
 Option.bind (F43 x.snd) fun (b : Bool × Unit) =>
 bif !b.fst then some ([], 1, ())
 else
 Option.bind (F44 (x.fst, x.snd.fst, ())) fun (b : Int × Unit) =>
 bif decide (0 ≤ b.fst) then some ([], 7, ())
 else
 iterE (Int × Int × Unit) (List T83D × Int × Unit)
 (fun (x_1 : Int × Int × Unit) =>
 bif decide (x_1.snd.fst < Int.ofNat (List.length x.fst)) then
 Option.bind (idx x.fst x_1.snd.fst) fun (b : T83D) =>
 bif decide (0 < b.fst) == decide (0 < x.snd.fst) then
 some
 (Sum.inl
 (wrap64 (x_1.fst + 1), wrap64 (x_1.snd.fst + 1),
 ()))
 else some (Sum.inl (x_1.fst, wrap64 (x_1.snd.fst + 1), ()))
 else
 Option.map Sum.inr
 (bif decide (64 ≤ x_1.fst) then some ([], 4, ())
 else
 Option.bind
 (F45
 (x.fst,
 (x.snd.fst, x.snd.snd.fst, wrap64 (x.snd.snd.snd.fst + x.snd.snd.fst), 0,
 false, ()),
 ()))
 fun (b : List T83D × Unit) => some (b.fst, 0, ())))
 big (0, 0, ())
def S23 : Sig := ⟨P23, R23, F23⟩
noncomputable def E23 : Env := { tab := tab, nt := 48, Γ := lookG [(43, [S43]), (44, [S44]), (45, [S45])], joins := lookN [], loops := lookN [(7, mkLoop ⟨[⟨.slot 10, (.int .i64), .pv⟩, ⟨.slot 23, (.int .i64), .pv⟩], [0, 1, 2, 3, 22], []⟩)] }
theorem raw23_eq (x : List T83D × Int × Int × Int × Unit) : afun E23 Try.f23 P23 R23 x = F23 x := by kernel_rfl
-- decamp/decampref16.Keep
def F24 (x : List T83D × Int × Int × Unit) : Option (List T83D × Int × Unit) :=
 Option.bind (F44 (x.fst, x.snd.fst, ())) fun (b : Int × Unit) =>
 Option.bind (F40 x.snd.snd) fun (b_1 : Bool × Unit) =>
 bif !b_1.fst then some ([], 1, ())
 else
 bif decide (b.fst < 0) then some ([], 12, ())
 else
 Option.bind (idx x.fst b.fst) fun (b : T83D) =>
 bif b.snd.snd.snd.snd.fst then
 Option.bind (F45 (x.fst, (b.fst, b.snd.fst, b.snd.snd.fst, b.snd.fst, b.snd.snd.snd.snd), ()))
 fun (b : List T83D × Unit) => some (b.fst, 0, ())
 else
 Option.bind
 (F45
 (x.fst, (b.fst, b.snd.fst, wrap64 (x.snd.snd.fst + b.snd.fst), b.snd.snd.snd),
 ()))
 fun (b : List T83D × Unit) => some (b.fst, 0, ())
def S24 : Sig := ⟨P24, R24, F24⟩
noncomputable def E24 : Env := { tab := tab, nt := 37, Γ := lookG [(40, [S40]), (44, [S44]), (45, [S45])], joins := lookN [], loops := lookN [] }
theorem raw24_eq (x : List T83D × Int × Int × Unit) : afun E24 Try.f24 P24 R24 x = F24 x := by kernel_rfl
-- decamp/decampref16.Drop
def F25 (x : List T83D × Int × Unit) : Option (List T83D × Unit) :=
 iterE (List T83D × Int × Unit)
 (List T83D × Unit)
 (fun (x_1 : List T83D × Int × Unit) =>
 bif decide (x_1.snd.fst < Int.ofNat (List.length x.fst)) then
 Option.bind (idx x.fst x_1.snd.fst) fun (b : T83D) =>
 bif !decide (b.fst = x.snd.fst) then
 Option.bind (idx x.fst x_1.snd.fst) fun (b : T83D) =>
 Option.bind (appO x_1.fst [b]) fun (b : List T83D) =>
 some (Sum.inl (b, wrap64 (x_1.snd.fst + 1), ()))
 else some (Sum.inl (x_1.fst, wrap64 (x_1.snd.fst + 1), ()))
 else some (Sum.inr (x_1.fst, ())))
 big ([], 0, ())
def S25 : Sig := ⟨P25, R25, F25⟩
noncomputable def E25 : Env := { tab := tab, nt := 28, Γ := lookG [], joins := lookN [], loops := lookN [(3, mkLoop ⟨[⟨.slot 5, (.slice T83), .own false⟩, ⟨.slot 9, (.int .i64), .pv⟩], [0, 1, 8], []⟩)] }
theorem raw25_eq (x : List T83D × Int × Unit) : afun E25 Try.f25 P25 R25 x = F25 x := by kernel_rfl
-- (decamp/lease.Table).Set
def F26 (x : T30D × List T52D × Int × Unit) : Option (T30D × Int × Unit) :=
 Option.bind (F36 x.fst) fun (b : List T78D × Unit) =>
 iterE (Int × (Tree Int T68D × Unit) × Unit)
 (((Tree Int T68D × Unit) × Unit) × Int × Unit)
 (fun (x_1 : Int × (Tree Int T68D × Unit) × Unit) =>
 bif decide (x_1.fst < Int.ofNat (List.length b.fst)) then
 Option.bind (idxN b.fst x_1.fst) fun (b_1 : Nat) =>
 Option.bind b.fst[b_1]? fun (b : T78D) =>
 bif decide (0 < b.fst) then
 Option.bind (F31 (x_1.snd.fst, b.fst, ()))
 fun (b : (Tree Int T68D × Unit) × Unit) =>
 some (Sum.inl (wrap64 (x_1.fst + 1), b))
 else some (Sum.inl (wrap64 (x_1.fst + 1), x_1.snd))
 else
 Option.map Sum.inr
 (Option.bind (F35 x.snd.snd) fun (b : Bool × Unit) =>
 bif !b.fst then some (((Tree.leaf, ()), ()), 1, ())
 else
 iterE
 (Int × (Tree Int T68D × Unit) × (Tree Int T68D × Unit) × Unit)
 (((Tree Int T68D × Unit) × Unit) × Int × Unit)
 (fun
 (x_2 :
 Int × (Tree Int T68D × Unit) × (Tree Int T68D × Unit) × Unit) =>
 bif decide (x_2.fst < Int.ofNat (List.length x.snd.fst)) then
 Option.bind (idx x.snd.fst x_2.fst) fun (b : T52D) =>
 Option.bind (F11 ((x_2.snd.fst, ()), b.fst, b.snd.fst, x.snd.snd))
 fun (b_1 : ((Tree Int T68D × Unit) × Unit) × Int × Unit) =>
 bif !decide (b_1.snd.fst = 0) then
 some (Sum.inr (((Tree.leaf, ()), ()), 1, ()))
 else
 bif decide (b.fst < 0) then
 some (Sum.inr (((Tree.leaf, ()), ()), 1, ()))
 else some (Sum.inl (wrap64 (x_2.fst + 1), b_1.fst.fst, x_2.snd.snd))
 else some (Sum.inr ((x_2.snd.fst, ()), 0, ())))
 big (0, x_1.snd.fst, (Tree.leaf, ()), ())))
 big (0, x.fst)
def S26 : Sig := ⟨P26, R26, F26⟩
noncomputable def E26 : Env := { tab := tab, nt := 65, Γ := lookG [(11, [S11]), (31, [S31]), (35, [S35]), (36, [S36])], joins := lookN [], loops := lookN [(3, mkLoop ⟨[⟨.slot 20, (.int .i64), .pv⟩, ⟨.fld 1002000 0, T28, .pv⟩], [1, 2, 6, 8, 18, 19], [.row 2003001, .site 1002000, .site 2000, .fld 2000 0]⟩), (11, mkLoop ⟨[⟨.slot 40, (.int .i64), .pv⟩, ⟨.fld 1002000 0, T28, .pv⟩, ⟨.fld 2000 0, T28, .pv⟩], [2, 6, 8, 38, 39], [.site 1002000, .site 2000]⟩)] }
theorem raw26_eq (x : T30D × List T52D × Int × Unit) : afun E26 Try.f26 P26 R26 x = F26 x := by kernel_rfl
-- decamp/decampref16.Replace
def F27 (x : List T83D × List T52D × Int × Unit) : Option (List T83D × Bool × Unit) :=
 bif decide (64 < Int.ofNat (List.length x.snd.fst)) then some ([], false, ())
 else
 iterE (List T83D × Int × Unit)
 (List T83D × Bool × Unit)
 (fun (x_1 : List T83D × Int × Unit) =>
 bif decide (x_1.snd.fst < Int.ofNat (List.length x.fst)) then
 Option.bind (idx x.fst x_1.snd.fst) fun (b : T83D) =>
 bif decide (b.fst < 0) then
 Option.bind (idx x.fst x_1.snd.fst) fun (b : T83D) =>
 Option.bind (appO x_1.fst [b]) fun (b : List T83D) =>
 some (Sum.inl (b, wrap64 (x_1.snd.fst + 1), ()))
 else some (Sum.inl (x_1.fst, wrap64 (x_1.snd.fst + 1), ()))
 else
 Option.map Sum.inr
 (iterE (List T83D × Int × Unit)
 (List T83D × Bool × Unit)
 (fun (x_2 : List T83D × Int × Unit) =>
 bif decide (x_2.snd.fst < Int.ofNat (List.length x.snd.fst)) then
 Option.bind (idx x.snd.fst x_2.snd.fst) fun (b : T52D) =>
 bif decide (b.fst < 0) then some (Sum.inr ([], false, ()))
 else
 Option.bind (F43 (b.fst, b.snd.fst, x.snd.snd)) fun (b_1 : Bool × Unit) =>
 bif !b_1.fst then some (Sum.inr ([], false, ()))
 else
 Option.bind (F44 (x_2.fst, b.fst, ())) fun (b_2 : Int × Unit) =>
 bif decide (0 ≤ b_2.fst) then some (Sum.inr ([], false, ()))
 else
 Option.bind
 (F45
 (x_2.fst,
 (b.fst, b.snd.fst, wrap64 (x.snd.snd.fst + b.snd.fst), 0, false,
 ()),
 ()))
 fun (b : List T83D × Unit) =>
 some (Sum.inl (b.fst, wrap64 (x_2.snd.fst + 1), ()))
 else Option.map Sum.inr (Option.bind (F40 x.snd.snd) fun (b : Bool × Unit) => some (x_2.fst, b)))
 big (x_1.fst, 0, ())))
 big ([], 0, ())
def S27 : Sig := ⟨P27, R27, F27⟩
noncomputable def E27 : Env := { tab := tab, nt := 77, Γ := lookG [(40, [S40]), (43, [S43]), (44, [S44]), (45, [S45])], joins := lookN [], loops := lookN [(5, mkLoop ⟨[⟨.slot 8, (.slice T83), .own false⟩, ⟨.slot 17, (.int .i64), .pv⟩], [0, 1, 2, 16], []⟩), (11, mkLoop ⟨[⟨.slot 8, (.slice T83), .own false⟩, ⟨.slot 36, (.int .i64), .pv⟩], [1, 2, 35], []⟩)] }
theorem raw27_eq (x : List T83D × List T52D × Int × Unit) : afun E27 Try.f27 P27 R27 x = F27 x := by kernel_rfl
-- (decamp/lease.Table).Put
def F28 (x : T30D × T52D × Bool × Int × Unit) : Option (T30D × Int × Unit) :=
 Option.bind (F32 (x.snd.fst.fst, x.snd.fst.snd.fst, x.snd.snd.snd)) fun (b : Bool × Unit) =>
 bif !b.fst then some (((Tree.leaf, ()), ()), 1, ())
 else
 bif decide (x.snd.fst.snd.snd.fst < 0) then some (((Tree.leaf, ()), ()), 1, ())
 else
 bif decide (x.snd.fst.snd.fst < x.snd.fst.snd.snd.fst) then
 some (((Tree.leaf, ()), ()), 1, ())
 else
 Option.bind
 (bif x.snd.snd.fst then some (Sum.inl (x.snd.fst.snd.fst, 0, x.snd.fst.snd.snd.fst, true, ()))
 else
 some
 (Sum.inl
 (x.snd.fst.snd.fst, wrap64 (x.snd.snd.snd.fst + x.snd.fst.snd.snd.fst), 0, false,
 ())))
 fun
 (o :
 T68D ⊕ ((Tree Int T68D × Unit) × Unit) × Int × Unit) =>
 Sum.elim
 (fun (x_1 : T68D) =>
 Option.bind (F34 (x.fst.fst, x.snd.fst.fst, x_1, ()))
 fun (b : (Tree Int T68D × Unit) × Unit) => some (b, 0, ()))
 (fun (val : ((Tree Int T68D × Unit) × Unit) × Int × Unit) => some val) o
def S28 : Sig := ⟨P28, R28, F28⟩
noncomputable def E28 : Env := { tab := tab, nt := 51, Γ := lookG [(32, [S32]), (34, [S34])], joins := lookN [(6, ⟨[⟨.fld 3008000 0, (.int .i64), .pv⟩, ⟨.fld 3008000 1, (.int .i64), .pv⟩, ⟨.fld 3008000 2, (.int .i64), .pv⟩, ⟨.fld 3008000 3, .bool, .pv⟩], [4, 5, 8, 10], [.site 3008000, .site 3000, .fld 3000 0, .site 2000, .fld 2000 0, .fld 2000 1, .fld 2000 2, .site 1000, .fld 1000 0]⟩)], loops := lookN [] }
theorem raw28_eq (x : T30D × T52D × Bool × Int × Unit) : afun E28 Try.f28 P28 R28 x = F28 x := by kernel_rfl
-- decamp/decampref16.Put
def F29 (x : List T83D × T52D × Bool × Int × Unit) : Option (List T83D × Bool × Unit) :=
 Option.bind (F43 (x.snd.fst.fst, x.snd.fst.snd.fst, x.snd.snd.snd)) fun (b : Bool × Unit) =>
 bif !b.fst then some ([], false, ())
 else
 bif decide (x.snd.fst.snd.snd.fst < 0) then some ([], false, ())
 else
 bif decide (x.snd.fst.snd.fst < x.snd.fst.snd.snd.fst) then some ([], false, ())
 else
 bif x.snd.snd.fst then
 Option.bind
 (F45 (x.fst, (x.snd.fst.fst, x.snd.fst.snd.fst, 0, x.snd.fst.snd.snd.fst, true, ()), ()))
 fun (b : List T83D × Unit) => some (b.fst, true, ())
 else
 Option.bind
 (F45
 (x.fst,
 (x.snd.fst.fst, x.snd.fst.snd.fst,
 wrap64 (x.snd.snd.snd.fst + x.snd.fst.snd.snd.fst), 0, false, ()),
 ()))
 fun (b : List T83D × Unit) => some (b.fst, true, ())
def S29 : Sig := ⟨P29, R29, F29⟩
noncomputable def E29 : Env := { tab := tab, nt := 50, Γ := lookG [(43, [S43]), (45, [S45])], joins := lookN [], loops := lookN [] }
theorem raw29_eq (x : List T83D × T52D × Bool × Int × Unit) : afun E29 Try.f29 P29 R29 x = F29 x := by kernel_rfl
-- decamp/decamplaw16.do
def F9 (x : T30D × List T83D × T36D × Unit) : Option (T30D × List T83D × Bool × Unit) :=
 Option.bind
 (bif decide (intOf8 x.snd.snd.fst.fst = intOf8 (UInt8.ofNat 0)) then
 Option.bind
 (F11 (x.fst, x.snd.snd.fst.snd.fst, x.snd.snd.fst.snd.snd.fst, x.snd.snd.fst.snd.snd.snd.snd.fst, ()))
 fun (b : ((Tree Int T68D × Unit) × Unit) × Int × Unit) =>
 Option.bind
 (F23
 (x.snd.fst, x.snd.snd.fst.snd.fst, x.snd.snd.fst.snd.snd.fst, x.snd.snd.fst.snd.snd.snd.snd.fst,
 ()))
 fun (b_1 : List T83D × Int × Unit) =>
 some (Sum.inl (b.snd.fst, b_1.fst, b_1.snd.fst, true, b.fst.fst, (Tree.leaf, ()), ()))
 else
 bif decide (intOf8 x.snd.snd.fst.fst = intOf8 (UInt8.ofNat 1)) then
 Option.bind (F12 (x.fst, x.snd.snd.fst.snd.fst, x.snd.snd.fst.snd.snd.snd.snd.fst, ()))
 fun (b : ((Tree Int T68D × Unit) × Unit) × Int × Unit) =>
 Option.bind (F24 (x.snd.fst, x.snd.snd.fst.snd.fst, x.snd.snd.fst.snd.snd.snd.snd.fst, ()))
 fun (b_1 : List T83D × Int × Unit) =>
 some (Sum.inl (b.snd.fst, b_1.fst, b_1.snd.fst, true, b.fst.fst, (Tree.leaf, ()), ()))
 else
 bif decide (intOf8 x.snd.snd.fst.fst = intOf8 (UInt8.ofNat 2)) then
 Option.bind (F10 (x.fst, x.snd.snd.fst.snd.fst, ()))
 fun (b : ((Tree Int T68D × Unit) × Unit) × Bool × Unit) =>
 Option.bind (F25 (x.snd.fst, x.snd.snd.fst.snd.fst, ()))
 fun (b_1 : List T83D × Unit) =>
 bif !b.snd.fst == !decide (Int.ofNat (List.length b_1.fst) = Int.ofNat (List.length x.snd.fst)) then
 some (Sum.inr (x.fst, x.snd.fst, false, ()))
 else some (Sum.inl (0, b_1.fst, 0, true, b.fst.fst, (Tree.leaf, ()), ()))
 else
 bif decide (intOf8 x.snd.snd.fst.fst = intOf8 (UInt8.ofNat 3)) then
 Option.bind (F16 (x.fst, x.snd.snd.fst.snd.snd.snd.snd.fst, ()))
 fun (b : ((Tree Int T68D × Unit) × Unit) × Unit) =>
 Option.bind (F22 (x.snd.fst, x.snd.snd.fst.snd.snd.snd.snd.fst, ()))
 fun (b_1 : List T83D × Unit) =>
 some (Sum.inl (0, b_1.fst, 0, true, b.fst.fst, (Tree.leaf, ()), ()))
 else
 bif decide (intOf8 x.snd.snd.fst.fst = intOf8 (UInt8.ofNat 4)) then
 Option.bind (F17 (x.fst, x.snd.snd.fst.snd.snd.snd.snd.fst, ()))
 fun (b : ((Tree Int T68D × Unit) × Unit) × Unit) =>
 Option.bind (F21 (x.snd.fst, x.snd.snd.fst.snd.snd.snd.snd.fst, ()))
 fun (b_1 : List T83D × Unit) =>
 some (Sum.inl (0, b_1.fst, 0, true, b.fst.fst, (Tree.leaf, ()), ()))
 else
 bif decide (intOf8 x.snd.snd.fst.fst = intOf8 (UInt8.ofNat 5)) then
 Option.bind
 (F26
 (x.fst, x.snd.snd.fst.snd.snd.snd.snd.snd.snd.fst, x.snd.snd.fst.snd.snd.snd.snd.fst, ()))
 fun (b : ((Tree Int T68D × Unit) × Unit) × Int × Unit) =>
 Option.bind
 (F27
 (x.snd.fst, x.snd.snd.fst.snd.snd.snd.snd.snd.snd.fst, x.snd.snd.fst.snd.snd.snd.snd.fst,
 ()))
 fun (b_1 : List T83D × Bool × Unit) =>
 some (Sum.inl (b.snd.fst, b_1.fst, 0, b_1.snd.fst, b.fst.fst, (Tree.leaf, ()), ()))
 else
 Option.bind
 (F28
 (x.fst,
 (x.snd.snd.fst.snd.fst, x.snd.snd.fst.snd.snd.fst, x.snd.snd.fst.snd.snd.snd.fst, ()),
 x.snd.snd.fst.snd.snd.snd.snd.snd.fst, x.snd.snd.fst.snd.snd.snd.snd.fst, ()))
 fun (b : ((Tree Int T68D × Unit) × Unit) × Int × Unit) =>
 Option.bind
 (F29
 (x.snd.fst,
 (x.snd.snd.fst.snd.fst, x.snd.snd.fst.snd.snd.fst, x.snd.snd.fst.snd.snd.snd.fst, ()),
 x.snd.snd.fst.snd.snd.snd.snd.snd.fst, x.snd.snd.fst.snd.snd.snd.snd.fst, ()))
 fun (b_1 : List T83D × Bool × Unit) =>
 some (Sum.inl (b.snd.fst, b_1.fst, 0, b_1.snd.fst, b.fst.fst, (Tree.leaf, ()), ())))
 fun
 (o :
 Int × List T83D × Int × Bool × (Tree Int T68D × Unit) × (Tree Int T68D × Unit) × Unit ⊕ ((Tree Int T68D × Unit) × Unit) × List T83D × Bool × Unit) =>
 Sum.elim
 (fun
 (x_1 :
 Int × List T83D × Int × Bool × (Tree Int T68D × Unit) × (Tree Int T68D × Unit) × Unit) =>
 Option.bind
 (bif !x_1.snd.snd.snd.fst then some (Sum.inl (1, ()))
 else some (Sum.inl (x_1.snd.snd.fst, ())))
 fun
 (o :
 Int × Unit ⊕ ((Tree Int T68D × Unit) × Unit) × List T83D × Bool × Unit) =>
 Sum.elim
 (fun (x_2 : Int × Unit) =>
 Option.bind
 (bif !decide (x_1.fst = x_2.fst) then some (Sum.inr (x.fst, x.snd.fst, false, ()))
 else
 bif !decide (x_2.fst = 0) then
 Option.bind (F18 ((x_1.snd.snd.snd.snd.fst, ()), 0, ()))
 fun (b : List T52D × Unit) =>
 bif !decide (Int.ofNat (List.length b.fst) = 0) then
 some (Sum.inr (x.fst, x.snd.fst, false, ()))
 else some (Sum.inl x_1.snd.snd.snd.snd.snd)
 else some (Sum.inl x_1.snd.snd.snd.snd.snd))
 fun
 (o :
 (Tree Int T68D × Unit) × Unit ⊕ ((Tree Int T68D × Unit) × Unit) × List T83D × Bool × Unit) =>
 Sum.elim
 (fun (_z : (Tree Int T68D × Unit) × Unit) =>
 bif !decide (x_2.fst = 0) then some (x.fst, x.snd.fst, true, ())
 else some ((x_1.snd.snd.snd.snd.fst, ()), x_1.snd.fst, true, ()))
 (fun
 (val :
 ((Tree Int T68D × Unit) × Unit) × List T83D × Bool × Unit) =>
 some val)
 o)
 (fun
 (val :
 ((Tree Int T68D × Unit) × Unit) × List T83D × Bool × Unit) =>
 some val)
 o)
 (fun
 (val :
 ((Tree Int T68D × Unit) × Unit) × List T83D × Bool × Unit) =>
 some val)
 o
def S9 : Sig := ⟨P9, R9, F9⟩
noncomputable def E9 : Env := { tab := tab, nt := 176, Γ := lookG [(10, [S10]), (11, [S11]), (12, [S12]), (16, [S16]), (17, [S17]), (18, [S18]), (21, [S21]), (22, [S22]), (23, [S23]), (24, [S24]), (25, [S25]), (26, [S26]), (27, [S27]), (28, [S28]), (29, [S29])], joins := lookN [(26, ⟨[⟨.slot 10, (.int .i64), .pv⟩, ⟨.slot 11, (.slice T83), .own false⟩, ⟨.slot 12, (.int .i64), .pv⟩, ⟨.slot 13, .bool, .pv⟩, ⟨.fld 1002000 0, T28, .pv⟩, ⟨.fld 3000 0, T28, .pv⟩], [1, 3, 6, 9], [.site 1002000, .site 3000, .site 1000, .fld 1000 0]⟩), (28, ⟨[⟨.slot 12, (.int .i64), .pv⟩], [1, 3, 6, 9, 10, 11], [.row 50026001, .site 1002000, .fld 1002000 0, .site 3000, .fld 3000 0, .site 1000, .fld 1000 0]⟩), (30, ⟨[⟨.fld 3000 0, T28, .pv⟩], [1, 3, 6, 9, 11, 12], [.row 50026001, .site 1002000, .fld 1002000 0, .site 3000, .site 1000, .fld 1000 0]⟩)], loops := lookN [] }
theorem raw9_eq (x : T30D × List T83D × T36D × Unit) : afun E9 Try.f9 P9 R9 x = F9 x := by kernel_rfl
-- decamp/decamplaw16.has
def F13 (x : List Int × Int × Unit) : Option (Bool × Unit) :=
 iterE (Int × Unit) (Bool × Unit)
 (fun (x_1 : Int × Unit) =>
 bif decide (x_1.fst < Int.ofNat (List.length x.fst)) then
 Option.bind (idx x.fst x_1.fst) fun (b : Int) =>
 bif decide (b = x.snd.fst) then some (Sum.inr (true, ()))
 else some (Sum.inl (wrap64 (x_1.fst + 1), ()))
 else some (Sum.inr (false, ())))
 big (0, ())
def S13 : Sig := ⟨P13, R13, F13⟩
noncomputable def E13 : Env := { tab := tab, nt := 18, Γ := lookG [], joins := lookN [], loops := lookN [(2, mkLoop ⟨[⟨.slot 8, (.int .i64), .pv⟩], [0, 1, 7], []⟩)] }
theorem raw13_eq (x : List Int × Int × Unit) : afun E13 Try.f13 P13 R13 x = F13 x := by kernel_rfl
-- decamp/decamplaw16.LeaseLives
def F3 (x : List T36D × Int × Int × Int × Int × Unit) : Option (Bool × Unit) :=
 Option.bind (F7 ()) fun (b : Bool × Unit) =>
 bif !b.fst then Option.bind (F7 ()) fun (b : Bool × Unit) => some b
 else
 Option.bind (F8 (x.fst, 60, ())) fun (b : Bool × Unit) =>
 bif !b.fst then Option.bind (F7 ()) fun (b : Bool × Unit) => some b
 else
 bif decide (x.snd.fst = 0) then Option.bind (F7 ()) fun (b : Bool × Unit) => some b
 else
 bif decide (x.snd.fst < -1099511627776) then Option.bind (F7 ()) fun (b : Bool × Unit) => some b
 else
 bif decide (1099511627776 < x.snd.fst) then Option.bind (F7 ()) fun (b : Bool × Unit) => some b
 else
 bif decide (x.snd.snd.fst < 1) then Option.bind (F7 ()) fun (b : Bool × Unit) => some b
 else
 bif decide (1000 < x.snd.snd.fst) then Option.bind (F7 ()) fun (b : Bool × Unit) => some b
 else
 bif decide (x.snd.snd.snd.fst < 0) then Option.bind (F7 ()) fun (b : Bool × Unit) => some b
 else
 bif decide (549755813888 < x.snd.snd.snd.fst) then
 Option.bind (F7 ()) fun (b : Bool × Unit) => some b
 else
 iterE
 (List T83D × Int × (Tree Int T68D × Unit) × Unit)
 (Bool × Unit)
 (fun
 (x_1 :
 List T83D × Int × (Tree Int T68D × Unit) × Unit) =>
 bif decide (x_1.snd.fst < Int.ofNat (List.length x.fst)) then
 Option.bind (idx x.fst x_1.snd.fst)
 fun
 (b : UInt8 × Int × Int × Int × Int × Bool × List T52D × Unit) =>
 Option.bind (F9 (x_1.snd.snd, x_1.fst, b, ()))
 fun
 (b :
 ((Tree Int T68D × Unit) × Unit) × List T83D × Bool × Unit) =>
 bif !b.snd.snd.fst then some (Sum.inr (false, ()))
 else some (Sum.inl (b.snd.fst, wrap64 (x_1.snd.fst + 1), b.fst))
 else
 Option.map Sum.inr
 (Option.bind (F10 (x_1.snd.snd, x.snd.fst, ()))
 fun
 (b :
 ((Tree Int T68D × Unit) × Unit) × Bool × Unit) =>
 Option.bind (F11 (b.fst, x.snd.fst, x.snd.snd.fst, x.snd.snd.snd.fst, ()))
 fun
 (b :
 ((Tree Int T68D × Unit) × Unit) × Int × Unit) =>
 bif decide (b.snd.fst = 4) then
 some (decide (64 ≤ Int.ofNat (List.length x_1.fst)), ())
 else
 Option.bind
 (F12
 (b.fst, x.snd.fst,
 wrap64
 (x.snd.snd.snd.fst + wrap64 x.snd.snd.snd.snd.fst),
 ()))
 fun
 (b_1 :
 ((Tree Int T68D × Unit) × Unit) × Int × Unit) =>
 bif !decide (b.snd.fst = 0) then some (false, ())
 else
 bif !decide (b_1.snd.fst = 0) then some (false, ())
 else
 Option.bind
 (F14
 (b.fst,
 wrap64
 (x.snd.snd.snd.fst +
 wrap64 x.snd.snd.snd.snd.fst),
 ()))
 fun (b : List Int × Unit) =>
 Option.bind (F13 (b.fst, x.snd.fst, ())) fun (b : Bool × Unit) =>
 bif
 b.fst ==
 decide
 (x.snd.snd.fst ≤
 wrap64 x.snd.snd.snd.snd.fst) then
 Option.bind
 (F14
 (b_1.fst,
 wrap64
 (x.snd.snd.snd.fst +
 wrap64
 (2 * wrap64 x.snd.snd.snd.snd.fst)),
 ()))
 fun (b : List Int × Unit) =>
 Option.bind (F13 (b.fst, x.snd.fst, ()))
 fun (b : Bool × Unit) =>
 some
 (b.fst ==
 decide
 (x.snd.snd.fst ≤
 wrap64 x.snd.snd.snd.snd.fst),
 ())
 else some (false, ())))
 big ([], 0, (Tree.leaf, ()), ())
def S3 : Sig := ⟨P3, R3, F3⟩
noncomputable def E3 : Env := { tab := tab, nt := 137, Γ := lookG [(7, [S7]), (8, [S8]), (9, [S9]), (10, [S10]), (11, [S11]), (12, [S12]), (13, [S13]), (14, [S14])], joins := lookN [], loops := lookN [(7, mkLoop ⟨[⟨.slot 12, (.slice T83), .pv⟩, ⟨.slot 56, (.int .i64), .pv⟩, ⟨.fld 3001000 0, T28, .pv⟩], [0, 1, 2, 3, 4, 11, 55], [.site 3001000]⟩)] }
theorem raw3_eq (x : List T36D × Int × Int × Int × Int × Unit) : afun E3 Try.f3 P3 R3 x = F3 x := by kernel_rfl
-- (decamp/lease.Table).Held
def F20 (x : T30D × Int × Unit) : Option (Bool × Unit) :=
 Option.bind (F30 (x.fst.fst, x.snd)) fun (b : T68D × Bool × Unit) =>
 some b.fst.snd.snd.snd
def S20 : Sig := ⟨P20, R20, F20⟩
noncomputable def E20 : Env := { tab := tab, nt := 16, Γ := lookG [(30, [S30])], joins := lookN [], loops := lookN [] }
theorem raw20_eq (x : T30D × Int × Unit) : afun E20 Try.f20 P20 R20 x = F20 x := by kernel_rfl
-- decamp/decampref16.Same
def F37 (x : List T52D × List T52D × Unit) : Option (Bool × Unit) :=
 bif !decide (Int.ofNat (List.length x.fst) = Int.ofNat (List.length x.snd.fst)) then some (false, ())
 else
 iterE (Int × Unit) (Bool × Unit)
 (fun (x_1 : Int × Unit) =>
 bif decide (x_1.fst < Int.ofNat (List.length x.fst)) then
 Option.bind (idx x.fst x_1.fst) fun (b : T52D) =>
 Option.bind (idx x.snd.fst x_1.fst) fun (b_1 : T52D) =>
 bif
 !(decide (b.fst = b_1.fst) &&
 (decide (b.snd.fst = b_1.snd.fst) && (decide (b.snd.snd.fst = b_1.snd.snd.fst) && true))) then
 some (Sum.inr (false, ()))
 else some (Sum.inl (wrap64 (x_1.fst + 1), ()))
 else some (Sum.inr (true, ())))
 big (0, ())
def S37 : Sig := ⟨P37, R37, F37⟩
noncomputable def E37 : Env := { tab := tab, nt := 26, Γ := lookG [], joins := lookN [], loops := lookN [(4, mkLoop ⟨[⟨.slot 13, (.int .i64), .pv⟩], [0, 1, 12], []⟩)] }
theorem raw37_eq (x : List T52D × List T52D × Unit) : afun E37 Try.f37 P37 R37 x = F37 x := by kernel_rfl
-- decamp/decampref16.All
def F38 (x : List T83D × Int × Unit) : Option (List T52D × Unit) :=
 iterE (List T52D × Int × Unit) (List T52D × Unit)
 (fun (x_1 : List T52D × Int × Unit) =>
 bif decide (x_1.snd.fst < Int.ofNat (List.length x.fst)) then
 Option.bind (F40 x.snd) fun (b : Bool × Unit) =>
 bif b.fst then
 Option.bind (idx x.fst x_1.snd.fst) fun (b : T83D) =>
 Option.bind (F41 (b, x.snd)) fun (b : T52D × Unit) =>
 Option.bind (appO x_1.fst [b.fst]) fun (b : List T52D) =>
 some (Sum.inl (b, wrap64 (x_1.snd.fst + 1), ()))
 else some (Sum.inl (x_1.fst, wrap64 (x_1.snd.fst + 1), ()))
 else some (Sum.inr (x_1.fst, ())))
 big ([], 0, ())
def S38 : Sig := ⟨P38, R38, F38⟩
noncomputable def E38 : Env := { tab := tab, nt := 25, Γ := lookG [(40, [S40]), (41, [S41])], joins := lookN [], loops := lookN [(3, mkLoop ⟨[⟨.slot 5, (.slice T52), .own false⟩, ⟨.slot 9, (.int .i64), .pv⟩], [0, 1, 8], []⟩)] }
theorem raw38_eq (x : List T83D × Int × Unit) : afun E38 Try.f38 P38 R38 x = F38 x := by kernel_rfl
-- decamp/decampref16.Due
def F39 (x : List T83D × Int × Unit) : Option (List Int × Unit) :=
 iterE (List Int × Int × Unit) (List Int × Unit)
 (fun (x_1 : List Int × Int × Unit) =>
 bif decide (x_1.snd.fst < Int.ofNat (List.length x.fst)) then
 Option.bind (F40 x.snd) fun (b : Bool × Unit) =>
 bif b.fst then
 Option.bind (idx x.fst x_1.snd.fst) fun (b : T83D) =>
 bif !b.snd.snd.snd.snd.fst then
 Option.bind (idx x.fst x_1.snd.fst) fun (b : T83D) =>
 bif decide (b.snd.snd.fst ≤ x.snd.fst) then
 Option.bind (idx x.fst x_1.snd.fst) fun (b : T83D) =>
 Option.bind (appO x_1.fst [b.fst]) fun (b : List Int) =>
 some (Sum.inl (b, wrap64 (x_1.snd.fst + 1), ()))
 else some (Sum.inl (x_1.fst, wrap64 (x_1.snd.fst + 1), ()))
 else some (Sum.inl (x_1.fst, wrap64 (x_1.snd.fst + 1), ()))
 else some (Sum.inl (x_1.fst, wrap64 (x_1.snd.fst + 1), ()))
 else some (Sum.inr (x_1.fst, ())))
 big ([], 0, ())
def S39 : Sig := ⟨P39, R39, F39⟩
noncomputable def E39 : Env := { tab := tab, nt := 41, Γ := lookG [(40, [S40])], joins := lookN [], loops := lookN [(3, mkLoop ⟨[⟨.slot 5, (.slice (.int .i64)), .own false⟩, ⟨.slot 9, (.int .i64), .pv⟩], [0, 1, 8], []⟩)] }
theorem raw39_eq (x : List T83D × Int × Unit) : afun E39 Try.f39 P39 R39 x = F39 x := by kernel_rfl
-- decamp/decamplaw16.Is
def F15 (x : T30D × List T83D × Int × Unit) : Option (Bool × Unit) :=
 Option.bind (F18 (x.fst, x.snd.snd)) fun (b : List T52D × Unit) =>
 Option.bind (F38 x.snd) fun (b_1 : List T52D × Unit) =>
 Option.bind (F37 (b.fst, b_1)) fun (b : Bool × Unit) =>
 bif !b.fst then some (false, ())
 else
 Option.bind (F14 (x.fst, x.snd.snd)) fun (b : List Int × Unit) =>
 Option.bind (F39 x.snd) fun (b_2 : List Int × Unit) =>
 bif !decide (Int.ofNat (List.length b.fst) = Int.ofNat (List.length b_2.fst)) then
 some (false, ())
 else
 iterE (Int × Unit) (Bool × Unit)
 (fun (x_1 : Int × Unit) =>
 bif decide (x_1.fst < Int.ofNat (List.length b.fst)) then
 Option.bind (idxN b.fst x_1.fst) fun (b_3 : Nat) =>
 Option.bind b.fst[b_3]? fun (b : Int) =>
 Option.bind (idxN b_2.fst x_1.fst) fun (b_4 : Nat) =>
 Option.bind b_2.fst[b_4]? fun (b_5 : Int) =>
 bif !decide (b = b_5) then some (Sum.inr (false, ()))
 else some (Sum.inl (wrap64 (x_1.fst + 1), ()))
 else
 Option.map Sum.inr
 (iterE (Int × Unit) (Bool × Unit)
 (fun (x_2 : Int × Unit) =>
 bif decide (x_2.fst < Int.ofNat (List.length x.snd.fst)) then
 Option.bind (idx x.snd.fst x_2.fst) fun (b : T83D) =>
 Option.bind (F19 (x.fst, b.fst, x.snd.snd))
 fun (b : T52D × Bool × Unit) =>
 Option.bind (idx x.snd.fst x_2.fst)
 fun (b_3 : T83D) =>
 Option.bind (F20 (x.fst, b_3.fst, ())) fun (b_4 : Bool × Unit) =>
 Option.bind (idx x.snd.fst x_2.fst)
 fun (b_5 : T83D) =>
 bif !b_4.fst == b_5.snd.snd.snd.snd.fst then some (Sum.inr (false, ()))
 else
 Option.bind (F40 x.snd.snd) fun (b_6 : Bool × Unit) =>
 bif !b.snd.fst == b_6.fst then some (Sum.inr (false, ()))
 else
 bif b.snd.fst then
 Option.bind (idx x.snd.fst x_2.fst)
 fun (b_7 : T83D) =>
 Option.bind (F41 (b_7, x.snd.snd))
 fun (b_8 : T52D × Unit) =>
 bif
 !(decide (b.fst.fst = b_8.fst.fst) &&
 (decide (b.fst.snd.fst = b_8.fst.snd.fst) &&
 (decide (b.fst.snd.snd.fst = b_8.fst.snd.snd.fst) &&
 true))) then
 some (Sum.inr (false, ()))
 else
 some
 (Sum.inl (wrap64 (x_2.fst + 1), ()))
 else some (Sum.inl (wrap64 (x_2.fst + 1), ()))
 else some (Sum.inr (true, ())))
 big (0, ())))
 big (0, ())
def S15 : Sig := ⟨P15, R15, F15⟩
noncomputable def E15 : Env := { tab := tab, nt := 96, Γ := lookG [(14, [S14]), (18, [S18]), (19, [S19]), (20, [S20]), (37, [S37]), (38, [S38]), (39, [S39]), (40, [S40]), (41, [S41])], joins := lookN [], loops := lookN [(7, mkLoop ⟨[⟨.slot 34, (.int .i64), .pv⟩], [1, 2, 3, 7, 8, 33], [.row 3006001, .row 3003001, .site 1000, .fld 1000 0]⟩), (13, mkLoop ⟨[⟨.slot 49, (.int .i64), .pv⟩], [1, 2, 3, 48], [.site 1000, .fld 1000 0]⟩)] }
theorem raw15_eq (x : T30D × List T83D × Int × Unit) : afun E15 Try.f15 P15 R15 x = F15 x := by kernel_rfl
-- decamp/decamplaw16.LeasePlays
def F4 (x : List T36D × Int × Unit) : Option (Bool × Unit) :=
 Option.bind (F7 ()) fun (b : Bool × Unit) =>
 bif !b.fst then Option.bind (F7 ()) fun (b : Bool × Unit) => some b
 else
 Option.bind (F8 (x.fst, 60, ())) fun (b : Bool × Unit) =>
 bif !b.fst then Option.bind (F7 ()) fun (b : Bool × Unit) => some b
 else
 iterE
 (List T83D × Int × (Tree Int T68D × Unit) × Unit)
 (Bool × Unit)
 (fun
 (x_1 :
 List T83D × Int × (Tree Int T68D × Unit) × Unit) =>
 bif decide (x_1.snd.fst < Int.ofNat (List.length x.fst)) then
 Option.bind (idx x.fst x_1.snd.fst)
 fun (b : UInt8 × Int × Int × Int × Int × Bool × List T52D × Unit) =>
 Option.bind (F9 (x_1.snd.snd, x_1.fst, b, ()))
 fun
 (b :
 ((Tree Int T68D × Unit) × Unit) × List T83D × Bool × Unit) =>
 bif !b.snd.snd.fst then some (Sum.inr (false, ()))
 else
 Option.bind (F15 (b.fst, b.snd.fst, x.snd)) fun (b_1 : Bool × Unit) =>
 bif !b_1.fst then some (Sum.inr (false, ()))
 else
 Option.bind (idx x.fst x_1.snd.fst)
 fun (b_2 : UInt8 × Int × Int × Int × Int × Bool × List T52D × Unit) =>
 Option.bind (F15 (b.fst, b.snd.fst, b_2.snd.snd.snd.snd.fst, ()))
 fun (b_3 : Bool × Unit) =>
 bif !b_3.fst then some (Sum.inr (false, ()))
 else some (Sum.inl (b.snd.fst, wrap64 (x_1.snd.fst + 1), b.fst))
 else some (Sum.inr (true, ())))
 big ([], 0, (Tree.leaf, ()), ())
def S4 : Sig := ⟨P4, R4, F4⟩
noncomputable def E4 : Env := { tab := tab, nt := 54, Γ := lookG [(7, [S7]), (8, [S8]), (9, [S9]), (15, [S15])], joins := lookN [], loops := lookN [(7, mkLoop ⟨[⟨.slot 6, (.slice T83), .pv⟩, ⟨.slot 19, (.int .i64), .pv⟩, ⟨.fld 3001000 0, T28, .pv⟩], [0, 1, 5, 18], [.site 3001000]⟩)] }
theorem raw4_eq (x : List T36D × Int × Unit) : afun E4 Try.f4 P4 R4 x = F4 x := by kernel_rfl
-- decamp/decamplaw16.LeaseHolds
def F5 (x : List T36D × Int × Int × Unit) : Option (Bool × Unit) :=
 Option.bind (F7 ()) fun (b : Bool × Unit) =>
 bif !b.fst then Option.bind (F7 ()) fun (b : Bool × Unit) => some b
 else
 Option.bind (F8 (x.fst, 60, ())) fun (b : Bool × Unit) =>
 bif !b.fst then Option.bind (F7 ()) fun (b : Bool × Unit) => some b
 else
 bif decide (x.snd.fst < 0) then Option.bind (F7 ()) fun (b : Bool × Unit) => some b
 else
 bif decide (549755813888 < x.snd.fst) then Option.bind (F7 ()) fun (b : Bool × Unit) => some b
 else
 bif decide (x.snd.snd.fst < x.snd.fst) then Option.bind (F7 ()) fun (b : Bool × Unit) => some b
 else
 bif decide (549755813888 < x.snd.snd.fst) then
 Option.bind (F7 ()) fun (b : Bool × Unit) => some b
 else
 iterE
 (List T83D × Int × (Tree Int T68D × Unit) × Unit)
 (Bool × Unit)
 (fun
 (x_1 :
 List T83D × Int × (Tree Int T68D × Unit) × Unit) =>
 bif decide (x_1.snd.fst < Int.ofNat (List.length x.fst)) then
 Option.bind (idx x.fst x_1.snd.fst)
 fun (b : UInt8 × Int × Int × Int × Int × Bool × List T52D × Unit) =>
 Option.bind (F9 (x_1.snd.snd, x_1.fst, b, ()))
 fun
 (b :
 ((Tree Int T68D × Unit) × Unit) × List T83D × Bool × Unit) =>
 bif !b.snd.snd.fst then some (Sum.inr (false, ()))
 else some (Sum.inl (b.snd.fst, wrap64 (x_1.snd.fst + 1), b.fst))
 else
 Option.map Sum.inr
 (Option.bind (F16 (x_1.snd.snd, x.snd.fst, ()))
 fun (b : ((Tree Int T68D × Unit) × Unit) × Unit) =>
 Option.bind (F14 (b.fst, x.snd.snd)) fun (b_1 : List Int × Unit) =>
 iterE (Int × Unit) (Bool × Unit)
 (fun (x_2 : Int × Unit) =>
 bif decide (x_2.fst < Int.ofNat (List.length b_1.fst)) then
 Option.bind (idxN b_1.fst x_2.fst) fun (b : Nat) =>
 Option.bind b_1.fst[b]? fun (b : Int) =>
 bif decide (0 < b) then some (Sum.inr (false, ()))
 else some (Sum.inl (wrap64 (x_2.fst + 1), ()))
 else
 Option.map Sum.inr
 (Option.bind (F17 (b.fst, x.snd.snd))
 fun
 (b : ((Tree Int T68D × Unit) × Unit) × Unit) =>
 Option.bind (F18 (x_1.snd.snd, x.snd.fst, ()))
 fun (b_2 : List T52D × Unit) =>
 iterE (Int × Unit) (Bool × Unit)
 (fun (x_3 : Int × Unit) =>
 bif decide (x_3.fst < Int.ofNat (List.length b_2.fst)) then
 Option.bind (idxN b_2.fst x_3.fst) fun (b_3 : Nat) =>
 Option.bind b_2.fst[b_3]? fun (b_4 : T52D) =>
 Option.bind (F19 (b.fst, b_4.fst, x.snd.snd))
 fun (b_5 : T52D × Bool × Unit) =>
 bif !b_5.snd.fst then some (Sum.inr (false, ()))
 else
 Option.bind (idxN b_2.fst x_3.fst) fun (b_6 : Nat) =>
 Option.bind b_2.fst[b_6]?
 fun (b_7 : T52D) =>
 bif decide (0 < b_7.fst) then
 Option.bind (idxN b_2.fst x_3.fst) fun (b_8 : Nat) =>
 Option.bind b_2.fst[b_8]?
 fun (b_9 : T52D) =>
 bif
 !(decide (b_5.fst.fst = b_9.fst) &&
 (decide (b_5.fst.snd.fst = b_9.snd.fst) &&
 (decide
 (b_5.fst.snd.snd.fst =
 b_9.snd.snd.fst) &&
 true))) then
 some (Sum.inr (false, ()))
 else
 Option.bind (idxN b_2.fst x_3.fst)
 fun (b_10 : Nat) =>
 Option.bind b_2.fst[b_10]?
 fun (b_11 : T52D) =>
 bif
 !decide
 (b_5.fst.snd.fst = b_11.snd.fst) then
 some (Sum.inr (false, ()))
 else
 Option.bind (idxN b_2.fst x_3.fst)
 fun (b_12 : Nat) =>
 Option.bind b_2.fst[b_12]?
 fun (b_13 : T52D) =>
 Option.bind
 (F20 (b.fst, b_13.fst, ()))
 fun (b : Bool × Unit) =>
 bif b.fst then
 some (Sum.inr (false, ()))
 else
 some
 (Sum.inl
 (wrap64
 (x_3.fst + 1),
 ()))
 else
 Option.bind (idxN b_2.fst x_3.fst) fun (b_8 : Nat) =>
 Option.bind b_2.fst[b_8]?
 fun (b_9 : T52D) =>
 bif !decide (b_5.fst.snd.fst = b_9.snd.fst) then
 some (Sum.inr (false, ()))
 else
 Option.bind (idxN b_2.fst x_3.fst)
 fun (b_10 : Nat) =>
 Option.bind b_2.fst[b_10]?
 fun (b_11 : T52D) =>
 Option.bind (F20 (b.fst, b_11.fst, ()))
 fun (b : Bool × Unit) =>
 bif b.fst then
 some (Sum.inr (false, ()))
 else
 some
 (Sum.inl
 (wrap64 (x_3.fst + 1),
 ()))
 else
 Option.map Sum.inr
 (Option.bind (F18 (b.fst, x.snd.snd))
 fun (b_3 : List T52D × Unit) =>
 bif
 decide
 (Int.ofNat (List.length b_3.fst) =
 Int.ofNat (List.length b_2.fst)) then
 Option.bind (F22 (x_1.fst, x.snd.fst, ()))
 fun
 (b_4 : List T83D × Unit) =>
 Option.bind (F21 (b_4.fst, x.snd.snd))
 fun
 (b_5 :
 List T83D × Unit) =>
 Option.bind (F15 (b.fst, b_5.fst, x.snd.snd))
 fun (b : Bool × Unit) => some b
 else some (false, ())))
 big (0, ())))
 big (0, ())))
 big ([], 0, (Tree.leaf, ()), ())
def S5 : Sig := ⟨P5, R5, F5⟩
noncomputable def E5 : Env := { tab := tab, nt := 157, Γ := lookG [(7, [S7]), (8, [S8]), (9, [S9]), (14, [S14]), (15, [S15]), (16, [S16]), (17, [S17]), (18, [S18]), (19, [S19]), (20, [S20]), (21, [S21]), (22, [S22])], joins := lookN [], loops := lookN [(7, mkLoop ⟨[⟨.slot 8, (.slice T83), .pv⟩, ⟨.slot 46, (.int .i64), .pv⟩, ⟨.fld 3001000 0, T28, .pv⟩], [0, 1, 2, 7, 45], [.site 3001000]⟩), (16, mkLoop ⟨[⟨.slot 71, (.int .i64), .pv⟩], [1, 2, 7, 8, 11, 12, 70], [.row 14003001, .site 13004000, .fld 13004000 0, .site 3001000, .fld 3001000 0]⟩), (24, mkLoop ⟨[⟨.slot 88, (.int .i64), .pv⟩], [1, 2, 8, 14, 15, 87], [.row 22003001, .site 21004000, .fld 21004000 0]⟩)] }
theorem raw5_eq (x : List T36D × Int × Int × Unit) : afun E5 Try.f5 P5 R5 x = F5 x := by kernel_rfl
-- decamp/decamplaw16.LeaseOwn
def F6 (x : List T36D × List T36D × Int × Unit) : Option (Bool × Unit) :=
 Option.bind (F7 ()) fun (b : Bool × Unit) =>
 bif !b.fst then Option.bind (F7 ()) fun (b : Bool × Unit) => some b
 else
 Option.bind (F8 (x.fst, 30, ())) fun (b : Bool × Unit) =>
 bif !b.fst then Option.bind (F7 ()) fun (b : Bool × Unit) => some b
 else
 Option.bind (F8 (x.snd.fst, 30, ())) fun (b : Bool × Unit) =>
 bif !b.fst then Option.bind (F7 ()) fun (b : Bool × Unit) => some b
 else
 iterE
 (List T83D × Int × (Tree Int T68D × Unit) × Unit)
 (Bool × Unit)
 (fun
 (x_1 :
 List T83D × Int × (Tree Int T68D × Unit) × Unit) =>
 bif decide (x_1.snd.fst < Int.ofNat (List.length x.fst)) then
 Option.bind (idx x.fst x_1.snd.fst)
 fun (b : UInt8 × Int × Int × Int × Int × Bool × List T52D × Unit) =>
 Option.bind (F9 (x_1.snd.snd, x_1.fst, b, ()))
 fun
 (b :
 ((Tree Int T68D × Unit) × Unit) × List T83D × Bool × Unit) =>
 bif !b.snd.snd.fst then some (Sum.inr (false, ()))
 else some (Sum.inl (b.snd.fst, wrap64 (x_1.snd.fst + 1), b.fst))
 else
 Option.map Sum.inr
 (iterE
 (List T83D × Int × (Tree Int T68D × Unit) × Unit)
 (Bool × Unit)
 (fun
 (x_2 :
 List T83D × Int × (Tree Int T68D × Unit) × Unit) =>
 bif decide (x_2.snd.fst < Int.ofNat (List.length x.snd.fst)) then
 Option.bind (idx x.snd.fst x_2.snd.fst)
 fun (b : UInt8 × Int × Int × Int × Int × Bool × List T52D × Unit) =>
 Option.bind (F9 (x_2.snd.snd, x_2.fst, b, ()))
 fun
 (b :
 ((Tree Int T68D × Unit) × Unit) × List T83D × Bool × Unit) =>
 bif !b.snd.snd.fst then some (Sum.inr (false, ()))
 else some (Sum.inl (b.snd.fst, wrap64 (x_2.snd.fst + 1), b.fst))
 else
 Option.map Sum.inr
 (Option.bind (F15 (x_1.snd.snd, x_1.fst, x.snd.snd)) fun (b : Bool × Unit) =>
 bif b.fst then
 Option.bind (F15 (x_2.snd.snd, x_2.fst, x.snd.snd)) fun (b : Bool × Unit) => some b
 else some (false, ())))
 big (x_1.fst, 0, x_1.snd.snd)))
 big ([], 0, (Tree.leaf, ()), ())
def S6 : Sig := ⟨P6, R6, F6⟩
noncomputable def E6 : Env := { tab := tab, nt := 77, Γ := lookG [(7, [S7]), (8, [S8]), (9, [S9]), (15, [S15])], joins := lookN [], loops := lookN [(7, mkLoop ⟨[⟨.slot 8, (.slice T83), .pv⟩, ⟨.slot 29, (.int .i64), .pv⟩, ⟨.fld 3001000 0, T28, .pv⟩], [0, 1, 2, 7, 28], [.site 3001000]⟩), (15, mkLoop ⟨[⟨.slot 12, (.slice T83), .pv⟩, ⟨.slot 50, (.int .i64), .pv⟩, ⟨.fld 13003000 0, T28, .pv⟩], [1, 2, 7, 8, 11, 49], [.site 13003000, .site 3001000, .fld 3001000 0]⟩)] }
theorem raw6_eq (x : List T36D × List T36D × Int × Unit) : afun E6 Try.f6 P6 R6 x = F6 x := by kernel_rfl
end
end Go.Proofs.Ytmgniagajmfhaaa
