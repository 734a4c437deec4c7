/-
  Order: by a program of the bench (seat.py).
-/
import Derived.Test.YtgbmnillcdjdeaaOrderTab
namespace Go.Proofs.Ytgbmnillcdjdeaa
open Go.Sx Go
set_option maxRecDepth 100000
noncomputable section
-- cmp.isNaN[string]
def F62 (x : List UInt8 × Unit) : Option (Bool × Unit) := some (!decide (x.fst = x.fst), ())
def S62 : Sig := ⟨P62, R62, F62⟩
noncomputable def E62 : Env := { tab := tab, nt := 6, Γ := lookG [], joins := lookN [], loops := lookN [] }
theorem raw62_eq (x : List UInt8 × Unit) : afun E62 Try.f62 P62 R62 x = F62 x := by kernel_rfl
-- cmp.Compare[string]
def F48 (x : List UInt8 × List UInt8 × Unit) : Option (Int × Unit) :=
 Option.bind (F62 (x.fst, ())) fun (b : Bool × Unit) =>
 Option.bind (F62 x.snd) fun (b_1 : Bool × Unit) =>
 bif b.fst then bif b_1.fst then some (0, ()) else some (-1, ())
 else
 bif b_1.fst then some (1, ())
 else
 bif strlt x.fst x.snd.fst then some (-1, ())
 else
 bif !(strlt x.fst x.snd.fst || decide (x.fst = x.snd.fst)) then some (1, ())
 else some (0, ())
def S48 : Sig := ⟨P48, R48, F48⟩
noncomputable def E48 : Env := { tab := tab, nt := 20, Γ := lookG [(62, [S62])], joins := lookN [], loops := lookN [] }
theorem raw48_eq (x : List UInt8 × List UInt8 × Unit) : afun E48 Try.f48 P48 R48 x = F48 x := by kernel_rfl
-- (*decamp/order.node[string, int64]).size
def F45 (x : T24D × Unit) : Option (Int × Unit) :=
 bif isLeaf x.fst then some (0, ())
 else
 Option.bind (openN Ty.str (Ty.int IntKind.i64) x.fst)
 fun (_z : T90D) =>
 Option.bind (openN Ty.str (Ty.int IntKind.i64) x.fst)
 fun (b : T90D) =>
 some (b.snd.snd.snd.fst, ())
def S45 : Sig := ⟨P45, R45, F45⟩
noncomputable def E45 : Env := { tab := tab, nt := 9, Γ := lookG [], joins := lookN [], loops := lookN [] }
theorem raw45_eq (x : T24D × Unit) : afun E45 Try.f45 P45 R45 x = F45 x := by kernel_rfl
-- (*decamp/order.node[string, int64]).depth
def F67 (x : T24D × Unit) : Option (Int × Unit) :=
 bif isLeaf x.fst then some (0, ())
 else
 Option.bind (openN Ty.str (Ty.int IntKind.i64) x.fst)
 fun (_z : T90D) =>
 Option.bind (openN Ty.str (Ty.int IntKind.i64) x.fst)
 fun (b : T90D) =>
 some b.snd.snd.snd.snd
def S67 : Sig := ⟨P67, R67, F67⟩
noncomputable def E67 : Env := { tab := tab, nt := 9, Γ := lookG [], joins := lookN [], loops := lookN [] }
theorem raw67_eq (x : T24D × Unit) : afun E67 Try.f67 P67 R67 x = F67 x := by kernel_rfl
-- decamp/order.tree[string,int64]
def F55 (x : T31D × T24D × T24D × Unit) : Option (T24D × Unit) :=
 Option.bind (F45 (x.snd.fst, ())) fun (b : Int × Unit) =>
 Option.bind (F45 x.snd.snd) fun (b_1 : Int × Unit) =>
 Option.bind (F67 (x.snd.fst, ())) fun (b_2 : Int × Unit) =>
 Option.bind (F67 x.snd.snd) fun (b_3 : Int × Unit) =>
 some
 (nodeOf Ty.str (Ty.int IntKind.i64)
 (x.fst, x.snd.fst, x.snd.snd.fst,
 wrap64 (wrap64 (b.fst + b_1.fst) + 1),
 wrap64 (maxI b_2.fst b_3.fst + 1), ()),
 ())
def S55 : Sig := ⟨P55, R55, F55⟩
noncomputable def E55 : Env := { tab := tab, nt := 24, Γ := lookG [(45, [S45]), (67, [S67])], joins := lookN [], loops := lookN [] }
theorem raw55_eq (x : T31D × T24D × T24D × Unit) : afun E55 Try.f55 P55 R55 x = F55 x := by kernel_rfl
-- decamp/order.even[string,int64]
def F56 (x : T31D × T24D × T24D × Unit) : Option (T24D × Unit) :=
 Option.bind (F67 (x.snd.fst, ())) fun (b : Int × Unit) =>
 Option.bind (F67 x.snd.snd) fun (b_1 : Int × Unit) =>
 bif decide (wrap64 (b_1.fst + 1) < b.fst) then
 Option.bind (openN Ty.str (Ty.int IntKind.i64) x.snd.fst)
 fun (_z : T90D) =>
 Option.bind (openN Ty.str (Ty.int IntKind.i64) x.snd.fst)
 fun (b : T90D) =>
 Option.bind (F67 (b.snd.fst, ())) fun (b : Int × Unit) =>
 Option.bind (openN Ty.str (Ty.int IntKind.i64) x.snd.fst)
 fun
 (_z :
 T90D) =>
 Option.bind (openN Ty.str (Ty.int IntKind.i64) x.snd.fst)
 fun
 (b_2 :
 T90D) =>
 Option.bind (F67 (b_2.snd.snd.fst, ())) fun (b_3 : Int × Unit) =>
 bif decide (b_3.fst ≤ b.fst) then
 Option.bind (openN Ty.str (Ty.int IntKind.i64) x.snd.fst)
 fun
 (_z :
 T90D) =>
 Option.bind (openN Ty.str (Ty.int IntKind.i64) x.snd.fst)
 fun
 (b :
 T90D) =>
 Option.bind (openN Ty.str (Ty.int IntKind.i64) x.snd.fst)
 fun
 (_z :
 T90D) =>
 Option.bind (openN Ty.str (Ty.int IntKind.i64) x.snd.fst)
 fun
 (b_4 :
 T90D) =>
 Option.bind (openN Ty.str (Ty.int IntKind.i64) x.snd.fst)
 fun
 (_z :
 T90D) =>
 Option.bind (openN Ty.str (Ty.int IntKind.i64) x.snd.fst)
 fun
 (b_5 :
 T90D) =>
 Option.bind (F55 (x.fst, b_5.snd.snd.fst, x.snd.snd))
 fun (b_6 : T26D) =>
 Option.bind (F55 (b.fst, b_4.snd.fst, b_6))
 fun (b : T26D) => some b
 else
 Option.bind (openN Ty.str (Ty.int IntKind.i64) x.snd.fst)
 fun
 (_z :
 T90D) =>
 Option.bind (openN Ty.str (Ty.int IntKind.i64) x.snd.fst)
 fun
 (b :
 T90D) =>
 Option.bind (openN Ty.str (Ty.int IntKind.i64) b.snd.snd.fst)
 fun
 (_z :
 T90D) =>
 Option.bind (openN Ty.str (Ty.int IntKind.i64) b.snd.snd.fst)
 fun
 (b_4 :
 T90D) =>
 Option.bind (openN Ty.str (Ty.int IntKind.i64) x.snd.fst)
 fun
 (_z :
 T90D) =>
 Option.bind (openN Ty.str (Ty.int IntKind.i64) x.snd.fst)
 fun
 (b_5 :
 T90D) =>
 Option.bind (openN Ty.str (Ty.int IntKind.i64) x.snd.fst)
 fun
 (_z :
 T90D) =>
 Option.bind (openN Ty.str (Ty.int IntKind.i64) x.snd.fst)
 fun
 (b_6 :
 T90D) =>
 Option.bind (openN Ty.str (Ty.int IntKind.i64) b.snd.snd.fst)
 fun
 (_z :
 T90D) =>
 Option.bind (openN Ty.str (Ty.int IntKind.i64) b.snd.snd.fst)
 fun
 (b_7 :
 T90D) =>
 Option.bind (F55 (b_5.fst, b_6.snd.fst, b_7.snd.fst, ()))
 fun (b_8 : T26D) =>
 Option.bind (openN Ty.str (Ty.int IntKind.i64) b.snd.snd.fst)
 fun
 (_z :
 T90D) =>
 Option.bind (openN Ty.str (Ty.int IntKind.i64) b.snd.snd.fst)
 fun
 (b :
 T90D) =>
 Option.bind (F55 (x.fst, b.snd.snd.fst, x.snd.snd))
 fun (b : T26D) =>
 Option.bind (F55 (b_4.fst, b_8.fst, b))
 fun (b : T26D) => some b
 else
 Option.bind (F67 x.snd.snd) fun (b : Int × Unit) =>
 Option.bind (F67 (x.snd.fst, ())) fun (b_2 : Int × Unit) =>
 bif decide (wrap64 (b_2.fst + 1) < b.fst) then
 Option.bind (openN Ty.str (Ty.int IntKind.i64) x.snd.snd.fst)
 fun
 (_z :
 T90D) =>
 Option.bind (openN Ty.str (Ty.int IntKind.i64) x.snd.snd.fst)
 fun
 (b :
 T90D) =>
 Option.bind (F67 (b.snd.snd.fst, ())) fun (b : Int × Unit) =>
 Option.bind (openN Ty.str (Ty.int IntKind.i64) x.snd.snd.fst)
 fun
 (_z :
 T90D) =>
 Option.bind (openN Ty.str (Ty.int IntKind.i64) x.snd.snd.fst)
 fun
 (b_3 :
 T90D) =>
 Option.bind (F67 (b_3.snd.fst, ())) fun (b_4 : Int × Unit) =>
 bif decide (b_4.fst ≤ b.fst) then
 Option.bind (openN Ty.str (Ty.int IntKind.i64) x.snd.snd.fst)
 fun
 (_z :
 T90D) =>
 Option.bind (openN Ty.str (Ty.int IntKind.i64) x.snd.snd.fst)
 fun
 (b :
 T90D) =>
 Option.bind (openN Ty.str (Ty.int IntKind.i64) x.snd.snd.fst)
 fun
 (_z :
 T90D) =>
 Option.bind (openN Ty.str (Ty.int IntKind.i64) x.snd.snd.fst)
 fun
 (b_5 :
 T90D) =>
 Option.bind (F55 (x.fst, x.snd.fst, b_5.snd.fst, ()))
 fun (b_6 : T26D) =>
 Option.bind (openN Ty.str (Ty.int IntKind.i64) x.snd.snd.fst)
 fun
 (_z :
 T90D) =>
 Option.bind (openN Ty.str (Ty.int IntKind.i64) x.snd.snd.fst)
 fun
 (b_7 :
 T90D) =>
 Option.bind (F55 (b.fst, b_6.fst, b_7.snd.snd.fst, ()))
 fun (b : T26D) => some b
 else
 Option.bind (openN Ty.str (Ty.int IntKind.i64) x.snd.snd.fst)
 fun
 (_z :
 T90D) =>
 Option.bind (openN Ty.str (Ty.int IntKind.i64) x.snd.snd.fst)
 fun
 (b :
 T90D) =>
 Option.bind (openN Ty.str (Ty.int IntKind.i64) b.snd.fst)
 fun
 (_z :
 T90D) =>
 Option.bind (openN Ty.str (Ty.int IntKind.i64) b.snd.fst)
 fun
 (b_5 :
 T90D) =>
 Option.bind (openN Ty.str (Ty.int IntKind.i64) b.snd.fst)
 fun
 (_z :
 T90D) =>
 Option.bind (openN Ty.str (Ty.int IntKind.i64) b.snd.fst)
 fun
 (b_6 :
 T90D) =>
 Option.bind (F55 (x.fst, x.snd.fst, b_6.snd.fst, ()))
 fun (b_7 : T26D) =>
 Option.bind (openN Ty.str (Ty.int IntKind.i64) x.snd.snd.fst)
 fun
 (_z :
 T90D) =>
 Option.bind (openN Ty.str (Ty.int IntKind.i64) x.snd.snd.fst)
 fun
 (b_8 :
 T90D) =>
 Option.bind (openN Ty.str (Ty.int IntKind.i64) b.snd.fst)
 fun
 (_z :
 T90D) =>
 Option.bind (openN Ty.str (Ty.int IntKind.i64) b.snd.fst)
 fun
 (b :
 T90D) =>
 Option.bind (openN Ty.str (Ty.int IntKind.i64) x.snd.snd.fst)
 fun
 (_z :
 T90D) =>
 Option.bind (openN Ty.str (Ty.int IntKind.i64) x.snd.snd.fst)
 fun
 (b_9 :
 T90D) =>
 Option.bind
 (F55 (b_8.fst, b.snd.snd.fst, b_9.snd.snd.fst, ()))
 fun (b : T26D) =>
 Option.bind (F55 (b_5.fst, b_7.fst, b))
 fun (b : T26D) => some b
 else Option.bind (F55 x) fun (b : T26D) => some b
def S56 : Sig := ⟨P56, R56, F56⟩
noncomputable def E56 : Env := { tab := tab, nt := 139, Γ := lookG [(55, [S55]), (67, [S67])], joins := lookN [], loops := lookN [] }
theorem raw56_eq (x : T31D × T24D × T24D × Unit) : afun E56 Try.f56 P56 R56 x = F56 x := by kernel_rfl
-- (*decamp/order.node[string, int64]).put
def F34s (F34 : T24D × T31D × Unit → Option (T24D × Unit)) (x : T24D × T31D × Unit) : Option (T24D × Unit) :=
 bif isLeaf x.fst then
 Option.bind (F55 (x.snd.fst, Tree.leaf, Tree.leaf, ())) fun (b : T26D) => some b
 else
 Option.bind (openN Ty.str (Ty.int IntKind.i64) x.fst)
 fun (_z : T90D) =>
 Option.bind (openN Ty.str (Ty.int IntKind.i64) x.fst)
 fun (b : T90D) =>
 Option.bind (F48 (x.snd.fst.fst, b.fst.fst, ())) fun (b : Int × Unit) =>
 bif decide (b.fst < 0) then
 Option.bind (openN Ty.str (Ty.int IntKind.i64) x.fst)
 fun
 (_z : T90D) =>
 Option.bind (openN Ty.str (Ty.int IntKind.i64) x.fst)
 fun
 (b :
 T90D) =>
 Option.bind (openN Ty.str (Ty.int IntKind.i64) x.fst)
 fun
 (_z :
 T90D) =>
 Option.bind (openN Ty.str (Ty.int IntKind.i64) x.fst)
 fun
 (b_1 :
 T90D) =>
 Option.bind (F34 (b_1.snd.fst, x.snd)) fun (b_2 : T26D) =>
 Option.bind (openN Ty.str (Ty.int IntKind.i64) x.fst)
 fun
 (_z :
 T90D) =>
 Option.bind (openN Ty.str (Ty.int IntKind.i64) x.fst)
 fun
 (b_3 :
 T90D) =>
 Option.bind (F56 (b.fst, b_2.fst, b_3.snd.snd.fst, ()))
 fun (b : T26D) => some b
 else
 bif decide (0 < b.fst) then
 Option.bind (openN Ty.str (Ty.int IntKind.i64) x.fst)
 fun
 (_z :
 T90D) =>
 Option.bind (openN Ty.str (Ty.int IntKind.i64) x.fst)
 fun
 (b :
 T90D) =>
 Option.bind (openN Ty.str (Ty.int IntKind.i64) x.fst)
 fun
 (_z :
 T90D) =>
 Option.bind (openN Ty.str (Ty.int IntKind.i64) x.fst)
 fun
 (b_1 :
 T90D) =>
 Option.bind (openN Ty.str (Ty.int IntKind.i64) x.fst)
 fun
 (_z :
 T90D) =>
 Option.bind (openN Ty.str (Ty.int IntKind.i64) x.fst)
 fun
 (b_2 :
 T90D) =>
 Option.bind (F34 (b_2.snd.snd.fst, x.snd)) fun (b_3 : T26D) =>
 Option.bind (F56 (b.fst, b_1.snd.fst, b_3)) fun (b : T26D) =>
 some b
 else
 Option.bind (openN Ty.str (Ty.int IntKind.i64) x.fst)
 fun
 (_z :
 T90D) =>
 Option.bind (openN Ty.str (Ty.int IntKind.i64) x.fst)
 fun
 (b :
 T90D) =>
 Option.bind (openN Ty.str (Ty.int IntKind.i64) x.fst)
 fun
 (_z :
 T90D) =>
 Option.bind (openN Ty.str (Ty.int IntKind.i64) x.fst)
 fun
 (b_1 :
 T90D) =>
 Option.bind (F55 (x.snd.fst, b.snd.fst, b_1.snd.snd.fst, ()))
 fun (b : T26D) => some b
noncomputable def E34r (F34 : T24D × T31D × Unit → Option (T24D × Unit)) : Env := { tab := tab, nt := 64, Γ := lookG [(34, [⟨P34, R34, F34⟩]), (48, [S48]), (55, [S55]), (56, [S56])], joins := lookN [], loops := lookN [] }
theorem raw34_eq (F34 : T24D × T31D × Unit → Option (T24D × Unit)) (x : T24D × T31D × Unit) : afun (E34r F34) Try.f34 P34 R34 x = F34s F34 x := by kernel_rfl
def F34 : T24D × T31D × Unit → Option (T24D × Unit) := recF F34s big
def S34 : Sig := ⟨P34, R34, F34⟩
-- (decamp/order.Map[string, int64]).Put
def F10 (x : T26D × List UInt8 × Int × Unit) : Option (T26D × Unit) :=
 Option.bind (F34 (x.fst.fst, x.snd, ())) fun (b : T26D) => some (b, ())
def S10 : Sig := ⟨P10, R10, F10⟩
noncomputable def E10 : Env := { tab := tab, nt := 14, Γ := lookG [(34, [S34])], joins := lookN [], loops := lookN [] }
theorem raw10_eq (x : T26D × List UInt8 × Int × Unit) : afun E10 Try.f10 P10 R10 x = F10 x := by kernel_rfl
-- (decamp/order.Map[string, int64]).Len
def F21 (x : T26D × Unit) : Option (Int × Unit) := Option.bind (F45 x.fst) fun (b : Int × Unit) => some b
def S21 : Sig := ⟨P21, R21, F21⟩
noncomputable def E21 : Env := { tab := tab, nt := 6, Γ := lookG [(45, [S45])], joins := lookN [], loops := lookN [] }
theorem raw21_eq (x : T26D × Unit) : afun E21 Try.f21 P21 R21 x = F21 x := by kernel_rfl
-- (decamp/order.Map[string, int64]).Get
def F30 (x : T26D × List UInt8 × Unit) : Option (Int × Bool × Unit) :=
 iterE T26D T83D
 (fun (x_1 : T26D) =>
 bif !isLeaf x_1.fst then
 Option.bind (openN Ty.str (Ty.int IntKind.i64) x_1.fst)
 fun (_z : T90D) =>
 Option.bind (openN Ty.str (Ty.int IntKind.i64) x_1.fst)
 fun (b : T90D) =>
 Option.bind (F48 (x.snd.fst, b.fst.fst, ())) fun (b : Int × Unit) =>
 bif decide (b.fst < 0) then
 Option.bind (openN Ty.str (Ty.int IntKind.i64) x_1.fst)
 fun
 (_z :
 T90D) =>
 Option.bind (openN Ty.str (Ty.int IntKind.i64) x_1.fst)
 fun
 (b :
 T90D) =>
 some (Sum.inl (b.snd.fst, ()))
 else
 bif decide (0 < b.fst) then
 Option.bind (openN Ty.str (Ty.int IntKind.i64) x_1.fst)
 fun
 (_z :
 T90D) =>
 Option.bind (openN Ty.str (Ty.int IntKind.i64) x_1.fst)
 fun
 (b :
 T90D) =>
 some (Sum.inl (b.snd.snd.fst, ()))
 else
 Option.bind (openN Ty.str (Ty.int IntKind.i64) x_1.fst)
 fun
 (_z :
 T90D) =>
 Option.bind (openN Ty.str (Ty.int IntKind.i64) x_1.fst)
 fun
 (b :
 T90D) =>
 some (Sum.inr (b.fst.snd.fst, true, ()))
 else some (Sum.inr (0, false, ())))
 big x.fst
def S30 : Sig := ⟨P30, R30, F30⟩
noncomputable def E30 : Env := { tab := tab, nt := 40, Γ := lookG [(48, [S48])], joins := lookN [], loops := lookN [(2, mkLoop ⟨[⟨.slot 6, T24, .pv⟩], [1], []⟩)] }
theorem raw30_eq (x : T26D × List UInt8 × Unit) : afun E30 Try.f30 P30 R30 x = F30 x := by kernel_rfl
-- decamp/decamplaw01.awake
def F9 (x : Unit) : Option (Bool × Unit) :=
 Option.bind (F10 ((Tree.leaf, ()), [98], 2, ())) fun (b : T26D × Unit) =>
 Option.bind (F10 (b.fst, [97], 1, ())) fun (b : T26D × Unit) =>
 Option.bind (F30 (b.fst, [98], ())) fun (b_1 : T83D) =>
 bif decide (b_1.fst = 2) then
 bif b_1.snd.fst then
 Option.bind (F21 b) fun (b : Int × Unit) =>
 bif decide (b.fst = 2) then
 Option.bind (F21 ((Tree.leaf, ()), ())) fun (b : Int × Unit) =>
 some (decide (b.fst = 0), ())
 else some (false, ())
 else some (false, ())
 else some (false, ())
def S9 : Sig := ⟨P9, R9, F9⟩
noncomputable def E9 : Env := { tab := tab, nt := 28, Γ := lookG [(10, [S10]), (21, [S21]), (30, [S30])], joins := lookN [], loops := lookN [] }
theorem raw9_eq (x : Unit) : afun E9 Try.f9 P9 R9 x = F9 x := by kernel_rfl
-- (decamp/order.Map[string, int64]).All$1
def F36 (x : T31D × Unit) : Option (Unit) := none
def S36 : Sig := ⟨P36, R36, F36⟩
noncomputable def E36 : Env := { tab := tab, nt := 7, Γ := lookG [], joins := lookN [], loops := lookN [] }
theorem raw36_eq (x : T31D × Unit) : afun E36 Try.f36 P36 R36 x = F36 x := by kernel_rfl
-- (decamp/order.Map[string, int64]).All$1
def F36a (x : T31D × (List T31D × Unit) × Unit) : Option ((List T31D × Unit) × Unit) :=
 Option.bind (appO x.snd.fst.fst [x.fst]) fun (b : List T31D) =>
 some ((b, ()), ())
def S36a : Sig := ⟨P36a, R36a, F36a⟩
noncomputable def E36a : Env := { tab := tab, nt := 7, Γ := lookG [], joins := lookN [], loops := lookN [] }
theorem raw36a_eq (x : T31D × (List T31D × Unit) × Unit) : afun E36a Try.f36 P36a R36a x = F36a x := by kernel_rfl
-- (*decamp/order.node[string, int64]).each
def F35as (F35a : T24D × (List T31D × Unit) × Unit → Option ((List T31D × Unit) × Unit)) (x : T24D × (List T31D × Unit) × Unit) : Option ((List T31D × Unit) × Unit) :=
 bif !isLeaf x.fst then
 Option.bind (openN Ty.str (Ty.int IntKind.i64) x.fst)
 fun (_z : T90D) =>
 Option.bind (openN Ty.str (Ty.int IntKind.i64) x.fst)
 fun (b : T90D) =>
 Option.bind (F35a (b.snd.fst, x.snd)) fun (b : (List T31D × Unit) × Unit) =>
 Option.bind (openN Ty.str (Ty.int IntKind.i64) x.fst)
 fun (_z : T90D) =>
 Option.bind (openN Ty.str (Ty.int IntKind.i64) x.fst)
 fun
 (b_1 :
 T90D) =>
 Option.bind (F36a (b_1.fst, b)) fun (b : (List T31D × Unit) × Unit) =>
 Option.bind (openN Ty.str (Ty.int IntKind.i64) x.fst)
 fun
 (_z :
 T90D) =>
 Option.bind (openN Ty.str (Ty.int IntKind.i64) x.fst)
 fun
 (b_2 :
 T90D) =>
 Option.bind (F35a (b_2.snd.snd.fst, b))
 fun (b : (List T31D × Unit) × Unit) => some b
 else some x.snd
noncomputable def E35ar (F35a : T24D × (List T31D × Unit) × Unit → Option ((List T31D × Unit) × Unit)) : Env := { tab := tab, nt := 24, Γ := lookG [(35, [⟨P35a, R35a, F35a⟩]), (36, [S36, S36a])], joins := lookN [], loops := lookN [] }
theorem raw35a_eq (F35a : T24D × (List T31D × Unit) × Unit → Option ((List T31D × Unit) × Unit)) (x : T24D × (List T31D × Unit) × Unit) : afun (E35ar F35a) Try.f35 P35a R35a x = F35as F35a x := by kernel_rfl
def F35a : T24D × (List T31D × Unit) × Unit → Option ((List T31D × Unit) × Unit) := recF F35as big
def S35a : Sig := ⟨P35a, R35a, F35a⟩
-- (decamp/order.Map[string, int64]).All
def F11 (x : T26D × Unit) : Option (List T31D × Unit) :=
 Option.bind (F35a (x.fst.fst, ([], ()), ()))
 fun (b : (List T31D × Unit) × Unit) => some b.fst
def S11 : Sig := ⟨P11, R11, F11⟩
noncomputable def E11 : Env := { tab := tab, nt := 9, Γ := lookG [(35, [S35a]), (36, [S36, S36a])], joins := lookN [], loops := lookN [] }
theorem raw11_eq (x : T26D × Unit) : afun E11 Try.f11 P11 R11 x = F11 x := by kernel_rfl
-- decamp/decamplaw01.OrderSame
def F3 (x : List (List UInt8) × UInt8 × Unit) : Option (Bool × Unit) :=
 Option.bind (F9 ()) fun (b : Bool × Unit) =>
 bif !b.fst then Option.bind (F9 ()) fun (b : Bool × Unit) => some b
 else
 bif decide (200 < Int.ofNat (List.length x.fst)) then Option.bind (F9 ()) fun (b : Bool × Unit) => some b
 else
 iterE (Int × T24D × T24D × T26D) (Bool × Unit)
 (fun (x_1 : Int × T24D × T24D × T26D) =>
 bif decide (x_1.fst < Int.ofNat (List.length x.fst)) then
 Option.bind (idx x.fst x_1.fst) fun (b : List UInt8) =>
 Option.bind (idx x.fst x_1.fst) fun (b_1 : List UInt8) =>
 Option.bind (F10 (x_1.snd.snd.snd, b, Int.ofNat (List.length b_1), ()))
 fun (b : T26D × Unit) =>
 Option.bind
 (remO (wrap64 (x_1.fst + wrap64 (intOf8 x.snd.fst)))
 (Int.ofNat (List.length x.fst)))
 fun (b_2 : Int) =>
 Option.bind (idx x.fst b_2) fun (b_3 : List UInt8) =>
 Option.bind (F10 ((x_1.snd.snd.fst, ()), b_3, Int.ofNat (List.length b_3), ()))
 fun (b_4 : T26D × Unit) =>
 Option.bind
 (idx x.fst
 (wrap64
 (wrap64 (Int.ofNat (List.length x.fst) - 1) - x_1.fst)))
 fun (b_5 : List UInt8) =>
 Option.bind (F10 ((x_1.snd.fst, ()), b_5, Int.ofNat (List.length b_5), ()))
 fun (b_6 : T26D × Unit) =>
 some (Sum.inl (wrap64 (x_1.fst + 1), b_6.fst.fst, b_4.fst.fst, b.fst))
 else
 Option.map Sum.inr
 (Option.bind (F11 (x_1.snd.snd.snd, ())) fun (b : List T31D × Unit) =>
 Option.bind (F11 ((x_1.snd.snd.fst, ()), ()))
 fun (b_1 : List T31D × Unit) =>
 Option.bind (F11 ((x_1.snd.fst, ()), ()))
 fun (b_2 : List T31D × Unit) =>
 bif !decide (Int.ofNat (List.length b.fst) = Int.ofNat (List.length b_1.fst)) then
 some (false, ())
 else
 bif !decide (Int.ofNat (List.length b.fst) = Int.ofNat (List.length b_2.fst)) then
 some (false, ())
 else
 iterE (Int × Unit) (Bool × Unit)
 (fun (x : Int × Unit) =>
 bif decide (x.fst < Int.ofNat (List.length b.fst)) then
 Option.bind (idxN b.fst x.fst) fun (b_3 : Nat) =>
 Option.bind b.fst[b_3]? fun (b_4 : T31D) =>
 Option.bind (idxN b_1.fst x.fst) fun (b_5 : Nat) =>
 Option.bind b_1.fst[b_5]? fun (b_6 : T31D) =>
 bif
 !(decide (b_4.fst = b_6.fst) &&
 (decide (b_4.snd.fst = b_6.snd.fst) && true)) then
 some (Sum.inr (false, ()))
 else
 Option.bind (idxN b.fst x.fst) fun (b_7 : Nat) =>
 Option.bind b.fst[b_7]? fun (b : T31D) =>
 Option.bind (idxN b_2.fst x.fst) fun (b_8 : Nat) =>
 Option.bind b_2.fst[b_8]? fun (b_9 : T31D) =>
 bif
 !(decide (b.fst = b_9.fst) &&
 (decide (b.snd.fst = b_9.snd.fst) && true)) then
 some (Sum.inr (false, ()))
 else some (Sum.inl (wrap64 (x.fst + 1), ()))
 else some (Sum.inr (true, ())))
 big (0, ())))
 big (0, Tree.leaf, Tree.leaf, Tree.leaf, ())
def S3 : Sig := ⟨P3, R3, F3⟩
noncomputable def E3 : Env := { tab := tab, nt := 111, Γ := lookG [(9, [S9]), (10, [S10]), (11, [S11])], joins := lookN [], loops := lookN [(5, mkLoop ⟨[⟨.slot 24, (.int .i64), .pv⟩, ⟨.fld 3003000 0, T24, .pv⟩, ⟨.fld 3002000 0, T24, .pv⟩, ⟨.fld 3001000 0, T24, .pv⟩], [0, 1, 5, 6, 7, 23], [.site 3003000, .site 3002000, .site 3001000]⟩), (17, mkLoop ⟨[⟨.slot 87, (.int .i64), .pv⟩], [10, 11, 12, 86], [.row 13006001, .row 13004001, .row 13002001]⟩)] }
theorem raw3_eq (x : List (List UInt8) × UInt8 × Unit) : afun E3 Try.f3 P3 R3 x = F3 x := by kernel_rfl
-- (*decamp/order.node[uint16, bool]).depth
def F40 (x : T34D × Unit) : Option (Int × Unit) :=
 bif isLeaf x.fst then some (0, ())
 else
 Option.bind (openN (Ty.int IntKind.u16) Ty.bool x.fst)
 fun (_z : T104D) =>
 Option.bind (openN (Ty.int IntKind.u16) Ty.bool x.fst)
 fun (b : T104D) => some b.snd.snd.snd.snd
def S40 : Sig := ⟨P40, R40, F40⟩
noncomputable def E40 : Env := { tab := tab, nt := 9, Γ := lookG [], joins := lookN [], loops := lookN [] }
theorem raw40_eq (x : T34D × Unit) : afun E40 Try.f40 P40 R40 x = F40 x := by kernel_rfl
-- (*decamp/order.node[uint16, bool]).size
def F41 (x : T34D × Unit) : Option (Int × Unit) :=
 bif isLeaf x.fst then some (0, ())
 else
 Option.bind (openN (Ty.int IntKind.u16) Ty.bool x.fst)
 fun (_z : T104D) =>
 Option.bind (openN (Ty.int IntKind.u16) Ty.bool x.fst)
 fun (b : T104D) =>
 some (b.snd.snd.snd.fst, ())
def S41 : Sig := ⟨P41, R41, F41⟩
noncomputable def E41 : Env := { tab := tab, nt := 9, Γ := lookG [], joins := lookN [], loops := lookN [] }
theorem raw41_eq (x : T34D × Unit) : afun E41 Try.f41 P41 R41 x = F41 x := by kernel_rfl
-- decamp/order.tree[uint16,bool]
def F57 (x : T83D × T34D × T34D × Unit) : Option (T34D × Unit) :=
 Option.bind (F41 (x.snd.fst, ())) fun (b : Int × Unit) =>
 Option.bind (F41 x.snd.snd) fun (b_1 : Int × Unit) =>
 Option.bind (F40 (x.snd.fst, ())) fun (b_2 : Int × Unit) =>
 Option.bind (F40 x.snd.snd) fun (b_3 : Int × Unit) =>
 some
 (nodeOf (Ty.int IntKind.u16) Ty.bool
 (x.fst, x.snd.fst, x.snd.snd.fst,
 wrap64 (wrap64 (b.fst + b_1.fst) + 1),
 wrap64 (maxI b_2.fst b_3.fst + 1), ()),
 ())
def S57 : Sig := ⟨P57, R57, F57⟩
noncomputable def E57 : Env := { tab := tab, nt := 24, Γ := lookG [(40, [S40]), (41, [S41])], joins := lookN [], loops := lookN [] }
theorem raw57_eq (x : T83D × T34D × T34D × Unit) : afun E57 Try.f57 P57 R57 x = F57 x := by kernel_rfl
-- cmp.isNaN[uint16]
def F68 (x : Int × Unit) : Option (Bool × Unit) := some (!decide (x.fst = x.fst), ())
def S68 : Sig := ⟨P68, R68, F68⟩
noncomputable def E68 : Env := { tab := tab, nt := 6, Γ := lookG [], joins := lookN [], loops := lookN [] }
theorem raw68_eq (x : Int × Unit) : afun E68 Try.f68 P68 R68 x = F68 x := by kernel_rfl
-- cmp.Compare[uint16]
def F58 (x : Int × Int × Unit) : Option (Int × Unit) :=
 Option.bind (F68 (x.fst, ())) fun (b : Bool × Unit) =>
 Option.bind (F68 x.snd) fun (b_1 : Bool × Unit) =>
 bif b.fst then bif b_1.fst then some (0, ()) else some (-1, ())
 else
 bif b_1.fst then some (1, ())
 else
 bif decide (x.fst < x.snd.fst) then some (-1, ())
 else bif decide (x.snd.fst < x.fst) then some (1, ()) else some (0, ())
def S58 : Sig := ⟨P58, R58, F58⟩
noncomputable def E58 : Env := { tab := tab, nt := 20, Γ := lookG [(68, [S68])], joins := lookN [], loops := lookN [] }
theorem raw58_eq (x : Int × Int × Unit) : afun E58 Try.f58 P58 R58 x = F58 x := by kernel_rfl
-- decamp/order.even[uint16,bool]
def F59 (x : T83D × T34D × T34D × Unit) : Option (T34D × Unit) :=
 Option.bind (F40 (x.snd.fst, ())) fun (b : Int × Unit) =>
 Option.bind (F40 x.snd.snd) fun (b_1 : Int × Unit) =>
 bif decide (wrap64 (b_1.fst + 1) < b.fst) then
 Option.bind (openN (Ty.int IntKind.u16) Ty.bool x.snd.fst)
 fun (_z : T104D) =>
 Option.bind (openN (Ty.int IntKind.u16) Ty.bool x.snd.fst)
 fun (b : T104D) =>
 Option.bind (F40 (b.snd.fst, ())) fun (b : Int × Unit) =>
 Option.bind (openN (Ty.int IntKind.u16) Ty.bool x.snd.fst)
 fun (_z : T104D) =>
 Option.bind (openN (Ty.int IntKind.u16) Ty.bool x.snd.fst)
 fun (b_2 : T104D) =>
 Option.bind (F40 (b_2.snd.snd.fst, ())) fun (b_3 : Int × Unit) =>
 bif decide (b_3.fst ≤ b.fst) then
 Option.bind (openN (Ty.int IntKind.u16) Ty.bool x.snd.fst)
 fun (_z : T104D) =>
 Option.bind (openN (Ty.int IntKind.u16) Ty.bool x.snd.fst)
 fun (b : T104D) =>
 Option.bind (openN (Ty.int IntKind.u16) Ty.bool x.snd.fst)
 fun (_z : T104D) =>
 Option.bind (openN (Ty.int IntKind.u16) Ty.bool x.snd.fst)
 fun (b_4 : T104D) =>
 Option.bind (openN (Ty.int IntKind.u16) Ty.bool x.snd.fst)
 fun (_z : T104D) =>
 Option.bind (openN (Ty.int IntKind.u16) Ty.bool x.snd.fst)
 fun
 (b_5 : T104D) =>
 Option.bind (F57 (x.fst, b_5.snd.snd.fst, x.snd.snd))
 fun (b_6 : T36D) =>
 Option.bind (F57 (b.fst, b_4.snd.fst, b_6)) fun (b : T36D) =>
 some b
 else
 Option.bind (openN (Ty.int IntKind.u16) Ty.bool x.snd.fst)
 fun (_z : T104D) =>
 Option.bind (openN (Ty.int IntKind.u16) Ty.bool x.snd.fst)
 fun (b : T104D) =>
 Option.bind (openN (Ty.int IntKind.u16) Ty.bool b.snd.snd.fst)
 fun (_z : T104D) =>
 Option.bind (openN (Ty.int IntKind.u16) Ty.bool b.snd.snd.fst)
 fun (b_4 : T104D) =>
 Option.bind (openN (Ty.int IntKind.u16) Ty.bool x.snd.fst)
 fun (_z : T104D) =>
 Option.bind (openN (Ty.int IntKind.u16) Ty.bool x.snd.fst)
 fun
 (b_5 : T104D) =>
 Option.bind (openN (Ty.int IntKind.u16) Ty.bool x.snd.fst)
 fun
 (_z : T104D) =>
 Option.bind (openN (Ty.int IntKind.u16) Ty.bool x.snd.fst)
 fun
 (b_6 :
 T104D) =>
 Option.bind (openN (Ty.int IntKind.u16) Ty.bool b.snd.snd.fst)
 fun
 (_z :
 T104D) =>
 Option.bind (openN (Ty.int IntKind.u16) Ty.bool b.snd.snd.fst)
 fun
 (b_7 :
 T104D) =>
 Option.bind (F57 (b_5.fst, b_6.snd.fst, b_7.snd.fst, ()))
 fun (b_8 : T36D) =>
 Option.bind (openN (Ty.int IntKind.u16) Ty.bool b.snd.snd.fst)
 fun
 (_z :
 T104D) =>
 Option.bind (openN (Ty.int IntKind.u16) Ty.bool b.snd.snd.fst)
 fun
 (b :
 T104D) =>
 Option.bind (F57 (x.fst, b.snd.snd.fst, x.snd.snd))
 fun (b : T36D) =>
 Option.bind (F57 (b_4.fst, b_8.fst, b))
 fun (b : T36D) => some b
 else
 Option.bind (F40 x.snd.snd) fun (b : Int × Unit) =>
 Option.bind (F40 (x.snd.fst, ())) fun (b_2 : Int × Unit) =>
 bif decide (wrap64 (b_2.fst + 1) < b.fst) then
 Option.bind (openN (Ty.int IntKind.u16) Ty.bool x.snd.snd.fst)
 fun (_z : T104D) =>
 Option.bind (openN (Ty.int IntKind.u16) Ty.bool x.snd.snd.fst)
 fun (b : T104D) =>
 Option.bind (F40 (b.snd.snd.fst, ())) fun (b : Int × Unit) =>
 Option.bind (openN (Ty.int IntKind.u16) Ty.bool x.snd.snd.fst)
 fun (_z : T104D) =>
 Option.bind (openN (Ty.int IntKind.u16) Ty.bool x.snd.snd.fst)
 fun (b_3 : T104D) =>
 Option.bind (F40 (b_3.snd.fst, ())) fun (b_4 : Int × Unit) =>
 bif decide (b_4.fst ≤ b.fst) then
 Option.bind (openN (Ty.int IntKind.u16) Ty.bool x.snd.snd.fst)
 fun (_z : T104D) =>
 Option.bind (openN (Ty.int IntKind.u16) Ty.bool x.snd.snd.fst)
 fun (b : T104D) =>
 Option.bind (openN (Ty.int IntKind.u16) Ty.bool x.snd.snd.fst)
 fun (_z : T104D) =>
 Option.bind (openN (Ty.int IntKind.u16) Ty.bool x.snd.snd.fst)
 fun
 (b_5 :
 T104D) =>
 Option.bind (F57 (x.fst, x.snd.fst, b_5.snd.fst, ()))
 fun (b_6 : T36D) =>
 Option.bind (openN (Ty.int IntKind.u16) Ty.bool x.snd.snd.fst)
 fun
 (_z :
 T104D) =>
 Option.bind (openN (Ty.int IntKind.u16) Ty.bool x.snd.snd.fst)
 fun
 (b_7 :
 T104D) =>
 Option.bind (F57 (b.fst, b_6.fst, b_7.snd.snd.fst, ()))
 fun (b : T36D) => some b
 else
 Option.bind (openN (Ty.int IntKind.u16) Ty.bool x.snd.snd.fst)
 fun (_z : T104D) =>
 Option.bind (openN (Ty.int IntKind.u16) Ty.bool x.snd.snd.fst)
 fun (b : T104D) =>
 Option.bind (openN (Ty.int IntKind.u16) Ty.bool b.snd.fst)
 fun (_z : T104D) =>
 Option.bind (openN (Ty.int IntKind.u16) Ty.bool b.snd.fst)
 fun
 (b_5 :
 T104D) =>
 Option.bind (openN (Ty.int IntKind.u16) Ty.bool b.snd.fst)
 fun
 (_z :
 T104D) =>
 Option.bind (openN (Ty.int IntKind.u16) Ty.bool b.snd.fst)
 fun
 (b_6 :
 T104D) =>
 Option.bind (F57 (x.fst, x.snd.fst, b_6.snd.fst, ()))
 fun (b_7 : T36D) =>
 Option.bind (openN (Ty.int IntKind.u16) Ty.bool x.snd.snd.fst)
 fun
 (_z :
 T104D) =>
 Option.bind (openN (Ty.int IntKind.u16) Ty.bool x.snd.snd.fst)
 fun
 (b_8 :
 T104D) =>
 Option.bind (openN (Ty.int IntKind.u16) Ty.bool b.snd.fst)
 fun
 (_z :
 T104D) =>
 Option.bind (openN (Ty.int IntKind.u16) Ty.bool b.snd.fst)
 fun
 (b :
 T104D) =>
 Option.bind (openN (Ty.int IntKind.u16) Ty.bool x.snd.snd.fst)
 fun
 (_z :
 T104D) =>
 Option.bind (openN (Ty.int IntKind.u16) Ty.bool x.snd.snd.fst)
 fun
 (b_9 :
 T104D) =>
 Option.bind
 (F57 (b_8.fst, b.snd.snd.fst, b_9.snd.snd.fst, ()))
 fun (b : T36D) =>
 Option.bind (F57 (b_5.fst, b_7.fst, b))
 fun (b : T36D) => some b
 else Option.bind (F57 x) fun (b : T36D) => some b
def S59 : Sig := ⟨P59, R59, F59⟩
noncomputable def E59 : Env := { tab := tab, nt := 139, Γ := lookG [(40, [S40]), (57, [S57])], joins := lookN [], loops := lookN [] }
theorem raw59_eq (x : T83D × T34D × T34D × Unit) : afun E59 Try.f59 P59 R59 x = F59 x := by kernel_rfl
-- (*decamp/order.node[uint16, bool]).put
def F37s (F37 : T34D × T83D × Unit → Option (T34D × Unit)) (x : T34D × T83D × Unit) : Option (T34D × Unit) :=
 bif isLeaf x.fst then
 Option.bind (F57 (x.snd.fst, Tree.leaf, Tree.leaf, ())) fun (b : T36D) => some b
 else
 Option.bind (openN (Ty.int IntKind.u16) Ty.bool x.fst)
 fun (_z : T104D) =>
 Option.bind (openN (Ty.int IntKind.u16) Ty.bool x.fst)
 fun (b : T104D) =>
 Option.bind (F58 (x.snd.fst.fst, b.fst.fst, ())) fun (b : Int × Unit) =>
 bif decide (b.fst < 0) then
 Option.bind (openN (Ty.int IntKind.u16) Ty.bool x.fst)
 fun (_z : T104D) =>
 Option.bind (openN (Ty.int IntKind.u16) Ty.bool x.fst)
 fun (b : T104D) =>
 Option.bind (openN (Ty.int IntKind.u16) Ty.bool x.fst)
 fun (_z : T104D) =>
 Option.bind (openN (Ty.int IntKind.u16) Ty.bool x.fst)
 fun (b_1 : T104D) =>
 Option.bind (F37 (b_1.snd.fst, x.snd)) fun (b_2 : T36D) =>
 Option.bind (openN (Ty.int IntKind.u16) Ty.bool x.fst)
 fun (_z : T104D) =>
 Option.bind (openN (Ty.int IntKind.u16) Ty.bool x.fst)
 fun (b_3 : T104D) =>
 Option.bind (F59 (b.fst, b_2.fst, b_3.snd.snd.fst, ()))
 fun (b : T36D) => some b
 else
 bif decide (0 < b.fst) then
 Option.bind (openN (Ty.int IntKind.u16) Ty.bool x.fst)
 fun (_z : T104D) =>
 Option.bind (openN (Ty.int IntKind.u16) Ty.bool x.fst)
 fun (b : T104D) =>
 Option.bind (openN (Ty.int IntKind.u16) Ty.bool x.fst)
 fun (_z : T104D) =>
 Option.bind (openN (Ty.int IntKind.u16) Ty.bool x.fst)
 fun (b_1 : T104D) =>
 Option.bind (openN (Ty.int IntKind.u16) Ty.bool x.fst)
 fun (_z : T104D) =>
 Option.bind (openN (Ty.int IntKind.u16) Ty.bool x.fst)
 fun (b_2 : T104D) =>
 Option.bind (F37 (b_2.snd.snd.fst, x.snd)) fun (b_3 : T36D) =>
 Option.bind (F59 (b.fst, b_1.snd.fst, b_3)) fun (b : T36D) => some b
 else
 Option.bind (openN (Ty.int IntKind.u16) Ty.bool x.fst)
 fun (_z : T104D) =>
 Option.bind (openN (Ty.int IntKind.u16) Ty.bool x.fst)
 fun (b : T104D) =>
 Option.bind (openN (Ty.int IntKind.u16) Ty.bool x.fst)
 fun (_z : T104D) =>
 Option.bind (openN (Ty.int IntKind.u16) Ty.bool x.fst)
 fun (b_1 : T104D) =>
 Option.bind (F57 (x.snd.fst, b.snd.fst, b_1.snd.snd.fst, ()))
 fun (b : T36D) => some b
noncomputable def E37r (F37 : T34D × T83D × Unit → Option (T34D × Unit)) : Env := { tab := tab, nt := 64, Γ := lookG [(37, [⟨P37, R37, F37⟩]), (57, [S57]), (58, [S58]), (59, [S59])], joins := lookN [], loops := lookN [] }
theorem raw37_eq (F37 : T34D × T83D × Unit → Option (T34D × Unit)) (x : T34D × T83D × Unit) : afun (E37r F37) Try.f37 P37 R37 x = F37s F37 x := by kernel_rfl
def F37 : T34D × T83D × Unit → Option (T34D × Unit) := recF F37s big
def S37 : Sig := ⟨P37, R37, F37⟩
-- (decamp/order.Map[uint16, bool]).Put
def F12 (x : T36D × Int × Bool × Unit) : Option (T36D × Unit) :=
 Option.bind (F37 (x.fst.fst, x.snd, ())) fun (b : T36D) => some (b, ())
def S12 : Sig := ⟨P12, R12, F12⟩
noncomputable def E12 : Env := { tab := tab, nt := 14, Γ := lookG [(37, [S37])], joins := lookN [], loops := lookN [] }
theorem raw12_eq (x : T36D × Int × Bool × Unit) : afun E12 Try.f12 P12 R12 x = F12 x := by kernel_rfl
-- (decamp/order.Map[uint16, bool]).Get
def F38 (x : T36D × Int × Unit) : Option (Bool × Bool × Unit) :=
 iterE T36D (Bool × Bool × Unit)
 (fun (x_1 : T36D) =>
 bif !isLeaf x_1.fst then
 Option.bind (openN (Ty.int IntKind.u16) Ty.bool x_1.fst)
 fun (_z : T104D) =>
 Option.bind (openN (Ty.int IntKind.u16) Ty.bool x_1.fst)
 fun (b : T104D) =>
 Option.bind (F58 (x.snd.fst, b.fst.fst, ())) fun (b : Int × Unit) =>
 bif decide (b.fst < 0) then
 Option.bind (openN (Ty.int IntKind.u16) Ty.bool x_1.fst)
 fun (_z : T104D) =>
 Option.bind (openN (Ty.int IntKind.u16) Ty.bool x_1.fst)
 fun (b : T104D) =>
 some (Sum.inl (b.snd.fst, ()))
 else
 bif decide (0 < b.fst) then
 Option.bind (openN (Ty.int IntKind.u16) Ty.bool x_1.fst)
 fun (_z : T104D) =>
 Option.bind (openN (Ty.int IntKind.u16) Ty.bool x_1.fst)
 fun (b : T104D) =>
 some (Sum.inl (b.snd.snd.fst, ()))
 else
 Option.bind (openN (Ty.int IntKind.u16) Ty.bool x_1.fst)
 fun (_z : T104D) =>
 Option.bind (openN (Ty.int IntKind.u16) Ty.bool x_1.fst)
 fun (b : T104D) =>
 some (Sum.inr (b.fst.snd.fst, true, ()))
 else some (Sum.inr (false, false, ())))
 big x.fst
def S38 : Sig := ⟨P38, R38, F38⟩
noncomputable def E38 : Env := { tab := tab, nt := 40, Γ := lookG [(58, [S58])], joins := lookN [], loops := lookN [(2, mkLoop ⟨[⟨.slot 6, T34, .pv⟩], [1], []⟩)] }
theorem raw38_eq (x : T36D × Int × Unit) : afun E38 Try.f38 P38 R38 x = F38 x := by kernel_rfl
-- (*decamp/order.node[uint16, bool]).least
def F60s (F60 : T34D × Unit → Option (T83D × T34D × Unit)) (x : T34D × Unit) : Option (T83D × T34D × Unit) :=
 Option.bind (openN (Ty.int IntKind.u16) Ty.bool x.fst)
 fun (_z : T104D) =>
 Option.bind (openN (Ty.int IntKind.u16) Ty.bool x.fst)
 fun (b : T104D) =>
 bif isLeaf b.snd.fst then
 Option.bind (openN (Ty.int IntKind.u16) Ty.bool x.fst)
 fun (_z : T104D) =>
 Option.bind (openN (Ty.int IntKind.u16) Ty.bool x.fst)
 fun (b : T104D) =>
 Option.bind (openN (Ty.int IntKind.u16) Ty.bool x.fst)
 fun (_z : T104D) =>
 Option.bind (openN (Ty.int IntKind.u16) Ty.bool x.fst)
 fun (b_1 : T104D) =>
 some (b.fst, b_1.snd.snd.fst, ())
 else
 Option.bind (openN (Ty.int IntKind.u16) Ty.bool x.fst)
 fun (_z : T104D) =>
 Option.bind (openN (Ty.int IntKind.u16) Ty.bool x.fst)
 fun (b : T104D) =>
 Option.bind (F60 (b.snd.fst, ())) fun (b : T83D × T36D) =>
 Option.bind (openN (Ty.int IntKind.u16) Ty.bool x.fst)
 fun (_z : T104D) =>
 Option.bind (openN (Ty.int IntKind.u16) Ty.bool x.fst)
 fun (b_1 : T104D) =>
 Option.bind (openN (Ty.int IntKind.u16) Ty.bool x.fst)
 fun (_z : T104D) =>
 Option.bind (openN (Ty.int IntKind.u16) Ty.bool x.fst)
 fun (b_2 : T104D) =>
 Option.bind (F59 (b_1.fst, b.snd.fst, b_2.snd.snd.fst, ()))
 fun (b_3 : T36D) => some (b.fst, b_3)
noncomputable def E60r (F60 : T34D × Unit → Option (T83D × T34D × Unit)) : Env := { tab := tab, nt := 38, Γ := lookG [(59, [S59]), (60, [⟨P60, R60, F60⟩])], joins := lookN [], loops := lookN [] }
theorem raw60_eq (F60 : T34D × Unit → Option (T83D × T34D × Unit)) (x : T34D × Unit) : afun (E60r F60) Try.f60 P60 R60 x = F60s F60 x := by kernel_rfl
def F60 : T34D × Unit → Option (T83D × T34D × Unit) := recF F60s big
def S60 : Sig := ⟨P60, R60, F60⟩
-- (*decamp/order.node[uint16, bool]).del
def F39s (F39 : T34D × Int × Unit → Option (T34D × Unit)) (x : T34D × Int × Unit) : Option (T34D × Unit) :=
 Option.bind (openN (Ty.int IntKind.u16) Ty.bool x.fst)
 fun (_z : T104D) =>
 Option.bind (openN (Ty.int IntKind.u16) Ty.bool x.fst)
 fun (b : T104D) =>
 Option.bind (F58 (x.snd.fst, b.fst.fst, ())) fun (b : Int × Unit) =>
 bif decide (b.fst < 0) then
 Option.bind (openN (Ty.int IntKind.u16) Ty.bool x.fst)
 fun (_z : T104D) =>
 Option.bind (openN (Ty.int IntKind.u16) Ty.bool x.fst)
 fun (b : T104D) =>
 Option.bind (openN (Ty.int IntKind.u16) Ty.bool x.fst)
 fun (_z : T104D) =>
 Option.bind (openN (Ty.int IntKind.u16) Ty.bool x.fst)
 fun (b_1 : T104D) =>
 Option.bind (F39 (b_1.snd.fst, x.snd)) fun (b_2 : T36D) =>
 Option.bind (openN (Ty.int IntKind.u16) Ty.bool x.fst)
 fun (_z : T104D) =>
 Option.bind (openN (Ty.int IntKind.u16) Ty.bool x.fst)
 fun (b_3 : T104D) =>
 Option.bind (F59 (b.fst, b_2.fst, b_3.snd.snd.fst, ()))
 fun (b : T36D) => some b
 else
 bif decide (0 < b.fst) then
 Option.bind (openN (Ty.int IntKind.u16) Ty.bool x.fst)
 fun (_z : T104D) =>
 Option.bind (openN (Ty.int IntKind.u16) Ty.bool x.fst)
 fun (b : T104D) =>
 Option.bind (openN (Ty.int IntKind.u16) Ty.bool x.fst)
 fun (_z : T104D) =>
 Option.bind (openN (Ty.int IntKind.u16) Ty.bool x.fst)
 fun (b_1 : T104D) =>
 Option.bind (openN (Ty.int IntKind.u16) Ty.bool x.fst)
 fun (_z : T104D) =>
 Option.bind (openN (Ty.int IntKind.u16) Ty.bool x.fst)
 fun (b_2 : T104D) =>
 Option.bind (F39 (b_2.snd.snd.fst, x.snd)) fun (b_3 : T36D) =>
 Option.bind (F59 (b.fst, b_1.snd.fst, b_3)) fun (b : T36D) => some b
 else
 Option.bind (openN (Ty.int IntKind.u16) Ty.bool x.fst)
 fun (_z : T104D) =>
 Option.bind (openN (Ty.int IntKind.u16) Ty.bool x.fst)
 fun (b : T104D) =>
 bif isLeaf b.snd.snd.fst then
 Option.bind (openN (Ty.int IntKind.u16) Ty.bool x.fst)
 fun (_z : T104D) =>
 Option.bind (openN (Ty.int IntKind.u16) Ty.bool x.fst)
 fun (b : T104D) =>
 some (b.snd.fst, ())
 else
 Option.bind (openN (Ty.int IntKind.u16) Ty.bool x.fst)
 fun (_z : T104D) =>
 Option.bind (openN (Ty.int IntKind.u16) Ty.bool x.fst)
 fun (b : T104D) =>
 Option.bind (F60 (b.snd.snd.fst, ()))
 fun (b : T83D × T36D) =>
 Option.bind (openN (Ty.int IntKind.u16) Ty.bool x.fst)
 fun (_z : T104D) =>
 Option.bind (openN (Ty.int IntKind.u16) Ty.bool x.fst)
 fun (b_1 : T104D) =>
 Option.bind (F59 (b.fst, b_1.snd.fst, b.snd)) fun (b : T36D) => some b
noncomputable def E39r (F39 : T34D × Int × Unit → Option (T34D × Unit)) : Env := { tab := tab, nt := 76, Γ := lookG [(39, [⟨P39, R39, F39⟩]), (58, [S58]), (59, [S59]), (60, [S60])], joins := lookN [], loops := lookN [] }
theorem raw39_eq (F39 : T34D × Int × Unit → Option (T34D × Unit)) (x : T34D × Int × Unit) : afun (E39r F39) Try.f39 P39 R39 x = F39s F39 x := by kernel_rfl
def F39 : T34D × Int × Unit → Option (T34D × Unit) := recF F39s big
def S39 : Sig := ⟨P39, R39, F39⟩
-- (decamp/order.Map[uint16, bool]).Del
def F13 (x : T36D × Int × Unit) : Option (T36D × Unit) :=
 Option.bind (F38 x) fun (b : Bool × Bool × Unit) =>
 bif !b.snd.fst then some (x.fst, ())
 else Option.bind (F39 (x.fst.fst, x.snd)) fun (b : T36D) => some (b, ())
def S13 : Sig := ⟨P13, R13, F13⟩
noncomputable def E13 : Env := { tab := tab, nt := 21, Γ := lookG [(38, [S38]), (39, [S39])], joins := lookN [], loops := lookN [] }
theorem raw13_eq (x : T36D × Int × Unit) : afun E13 Try.f13 P13 R13 x = F13 x := by kernel_rfl
-- (decamp/order.Map[uint16, bool]).Deep
def F14 (x : T36D × Unit) : Option (Int × Unit) := Option.bind (F40 x.fst) fun (b : Int × Unit) => some b
def S14 : Sig := ⟨P14, R14, F14⟩
noncomputable def E14 : Env := { tab := tab, nt := 6, Γ := lookG [(40, [S40])], joins := lookN [], loops := lookN [] }
theorem raw14_eq (x : T36D × Unit) : afun E14 Try.f14 P14 R14 x = F14 x := by kernel_rfl
-- decamp/decampref01.Digits
def F15 (x : Int × Unit) : Option (Int × Unit) :=
 iterE (Int × Int × Unit) (Int × Unit)
 (fun (x : Int × Int × Unit) =>
 bif decide (0 < x.fst) then
 Option.bind (quoO IntKind.i64 x.fst 2) fun (b : Int) =>
 some (Sum.inl (b, wrap64 (x.snd.fst + 1), ()))
 else some (Sum.inr x.snd))
 big (x.fst, 0, ())
def S15 : Sig := ⟨P15, R15, F15⟩
noncomputable def E15 : Env := { tab := tab, nt := 11, Γ := lookG [], joins := lookN [], loops := lookN [(2, mkLoop ⟨[⟨.slot 0, (.int .i64), .pv⟩, ⟨.slot 3, (.int .i64), .pv⟩], [], []⟩)] }
theorem raw15_eq (x : Int × Unit) : afun E15 Try.f15 P15 R15 x = F15 x := by kernel_rfl
-- (decamp/order.Map[uint16, bool]).Len
def F16 (x : T36D × Unit) : Option (Int × Unit) := Option.bind (F41 x.fst) fun (b : Int × Unit) => some b
def S16 : Sig := ⟨P16, R16, F16⟩
noncomputable def E16 : Env := { tab := tab, nt := 6, Γ := lookG [(41, [S41])], joins := lookN [], loops := lookN [] }
theorem raw16_eq (x : T36D × Unit) : afun E16 Try.f16 P16 R16 x = F16 x := by kernel_rfl
-- decamp/decamplaw01.OrderDeep
def F4 (x : Int × Int × Int × Unit) : Option (Bool × Unit) :=
 Option.bind (F9 ()) fun (b : Bool × Unit) =>
 bif !b.fst then some (false, ())
 else
 Option.bind (remO x.fst 3001) fun (b : Int) =>
 iterE (Int × Int × T36D) (Bool × Unit)
 (fun (x_1 : Int × Int × T36D) =>
 bif decide (x_1.snd.fst < b) then
 Option.bind (F12 (x_1.snd.snd, IntKind.wrap IntKind.u16 (x_1.fst + x.snd.fst), true, ()))
 fun (b : T36D × Unit) =>
 some
 (Sum.inl
 (IntKind.wrap IntKind.u16 (x_1.fst + x.snd.fst), IntKind.wrap IntKind.u16 (x_1.snd.fst + 1), b.fst))
 else
 Option.map Sum.inr
 (Option.bind (remO x.snd.snd.fst 3001) fun (b : Int) =>
 iterE (Int × Int × T36D) (Bool × Unit)
 (fun (x_2 : Int × Int × T36D) =>
 bif decide (x_2.snd.fst < b) then
 Option.bind (F13 (x_2.snd.snd, x_2.fst, ()))
 fun (b : T36D × Unit) =>
 some
 (Sum.inl
 (IntKind.wrap IntKind.u16 (x_2.fst - x.snd.fst),
 IntKind.wrap IntKind.u16 (x_2.snd.fst + 1), b.fst))
 else
 Option.map Sum.inr
 (Option.bind (F14 (x_2.snd.snd, ())) fun (b : Int × Unit) =>
 bif decide (0 ≤ b.fst) then
 Option.bind (F14 (x_2.snd.snd, ())) fun (b : Int × Unit) =>
 Option.bind (F16 (x_2.snd.snd, ())) fun (b_1 : Int × Unit) =>
 Option.bind (F15 b_1) fun (b_2 : Int × Unit) =>
 bif decide (b.fst ≤ wrap64 (2 * b_2.fst)) then
 Option.bind (F16 (x_2.snd.snd, ())) fun (b : Int × Unit) =>
 Option.bind (F14 (x_2.snd.snd, ())) fun (b_3 : Int × Unit) =>
 some (decide (0 < b.fst) == decide (0 < b_3.fst), ())
 else some (false, ())
 else some (false, ())))
 big (x_1.fst, 0, x_1.snd.snd)))
 big (0, 0, Tree.leaf, ())
def S4 : Sig := ⟨P4, R4, F4⟩
noncomputable def E4 : Env := { tab := tab, nt := 54, Γ := lookG [(9, [S9]), (12, [S12]), (13, [S13]), (14, [S14]), (15, [S15]), (16, [S16])], joins := lookN [], loops := lookN [(6, mkLoop ⟨[⟨.slot 8, (.int .u16), .pv⟩, ⟨.slot 13, (.int .u16), .pv⟩, ⟨.fld 3001000 0, T34, .pv⟩], [1, 2, 7, 12], [.site 3001000]⟩), (11, mkLoop ⟨[⟨.slot 8, (.int .u16), .pv⟩, ⟨.slot 24, (.int .u16), .pv⟩, ⟨.fld 3001000 0, T34, .pv⟩], [1, 7, 23], [.site 3001000]⟩)] }
theorem raw4_eq (x : Int × Int × Int × Unit) : afun E4 Try.f4 P4 R4 x = F4 x := by kernel_rfl
-- decamp/decamplaw01.few
def F17 (x : List T48D × Unit) : Option (Bool × Unit) :=
 iterE (Int × Unit) (Bool × Unit)
 (fun (x_1 : Int × Unit) =>
 bif decide (x_1.fst < Int.ofNat (List.length x.fst)) then
 bif decide (300 ≤ x_1.fst) then some (Sum.inr (false, ()))
 else
 Option.bind (idx x.fst x_1.fst) fun (b : T48D) =>
 bif decide (200 < Int.ofNat (List.length b.snd.fst)) then some (Sum.inr (false, ()))
 else some (Sum.inl (wrap64 (x_1.fst + 1), ()))
 else some (Sum.inr (true, ())))
 big (0, ())
def S17 : Sig := ⟨P17, R17, F17⟩
noncomputable def E17 : Env := { tab := tab, nt := 21, Γ := lookG [], joins := lookN [], loops := lookN [(2, mkLoop ⟨[⟨.slot 6, (.int .i64), .pv⟩], [0, 5], []⟩)] }
theorem raw17_eq (x : List T48D × Unit) : afun E17 Try.f17 P17 R17 x = F17 x := by kernel_rfl
-- (*decamp/order.node[string, int64]).least
def F69s (F69 : T24D × Unit → Option (T31D × T24D × Unit)) (x : T24D × Unit) : Option (T31D × T24D × Unit) :=
 Option.bind (openN Ty.str (Ty.int IntKind.i64) x.fst)
 fun (_z : T90D) =>
 Option.bind (openN Ty.str (Ty.int IntKind.i64) x.fst)
 fun (b : T90D) =>
 bif isLeaf b.snd.fst then
 Option.bind (openN Ty.str (Ty.int IntKind.i64) x.fst)
 fun (_z : T90D) =>
 Option.bind (openN Ty.str (Ty.int IntKind.i64) x.fst)
 fun (b : T90D) =>
 Option.bind (openN Ty.str (Ty.int IntKind.i64) x.fst)
 fun
 (_z : T90D) =>
 Option.bind (openN Ty.str (Ty.int IntKind.i64) x.fst)
 fun
 (b_1 :
 T90D) =>
 some (b.fst, b_1.snd.snd.fst, ())
 else
 Option.bind (openN Ty.str (Ty.int IntKind.i64) x.fst)
 fun (_z : T90D) =>
 Option.bind (openN Ty.str (Ty.int IntKind.i64) x.fst)
 fun (b : T90D) =>
 Option.bind (F69 (b.snd.fst, ()))
 fun (b : T31D × T26D) =>
 Option.bind (openN Ty.str (Ty.int IntKind.i64) x.fst)
 fun
 (_z :
 T90D) =>
 Option.bind (openN Ty.str (Ty.int IntKind.i64) x.fst)
 fun
 (b_1 :
 T90D) =>
 Option.bind (openN Ty.str (Ty.int IntKind.i64) x.fst)
 fun
 (_z :
 T90D) =>
 Option.bind (openN Ty.str (Ty.int IntKind.i64) x.fst)
 fun
 (b_2 :
 T90D) =>
 Option.bind (F56 (b_1.fst, b.snd.fst, b_2.snd.snd.fst, ()))
 fun (b_3 : T26D) => some (b.fst, b_3)
noncomputable def E69r (F69 : T24D × Unit → Option (T31D × T24D × Unit)) : Env := { tab := tab, nt := 38, Γ := lookG [(56, [S56]), (69, [⟨P69, R69, F69⟩])], joins := lookN [], loops := lookN [] }
theorem raw69_eq (F69 : T24D × Unit → Option (T31D × T24D × Unit)) (x : T24D × Unit) : afun (E69r F69) Try.f69 P69 R69 x = F69s F69 x := by kernel_rfl
def F69 : T24D × Unit → Option (T31D × T24D × Unit) := recF F69s big
def S69 : Sig := ⟨P69, R69, F69⟩
-- (*decamp/order.node[string, int64]).del
def F61s (F61 : T24D × List UInt8 × Unit → Option (T24D × Unit)) (x : T24D × List UInt8 × Unit) : Option (T24D × Unit) :=
 Option.bind (openN Ty.str (Ty.int IntKind.i64) x.fst)
 fun (_z : T90D) =>
 Option.bind (openN Ty.str (Ty.int IntKind.i64) x.fst)
 fun (b : T90D) =>
 Option.bind (F48 (x.snd.fst, b.fst.fst, ())) fun (b : Int × Unit) =>
 bif decide (b.fst < 0) then
 Option.bind (openN Ty.str (Ty.int IntKind.i64) x.fst)
 fun (_z : T90D) =>
 Option.bind (openN Ty.str (Ty.int IntKind.i64) x.fst)
 fun
 (b : T90D) =>
 Option.bind (openN Ty.str (Ty.int IntKind.i64) x.fst)
 fun
 (_z :
 T90D) =>
 Option.bind (openN Ty.str (Ty.int IntKind.i64) x.fst)
 fun
 (b_1 :
 T90D) =>
 Option.bind (F61 (b_1.snd.fst, x.snd)) fun (b_2 : T26D) =>
 Option.bind (openN Ty.str (Ty.int IntKind.i64) x.fst)
 fun
 (_z :
 T90D) =>
 Option.bind (openN Ty.str (Ty.int IntKind.i64) x.fst)
 fun
 (b_3 :
 T90D) =>
 Option.bind (F56 (b.fst, b_2.fst, b_3.snd.snd.fst, ()))
 fun (b : T26D) => some b
 else
 bif decide (0 < b.fst) then
 Option.bind (openN Ty.str (Ty.int IntKind.i64) x.fst)
 fun
 (_z : T90D) =>
 Option.bind (openN Ty.str (Ty.int IntKind.i64) x.fst)
 fun
 (b :
 T90D) =>
 Option.bind (openN Ty.str (Ty.int IntKind.i64) x.fst)
 fun
 (_z :
 T90D) =>
 Option.bind (openN Ty.str (Ty.int IntKind.i64) x.fst)
 fun
 (b_1 :
 T90D) =>
 Option.bind (openN Ty.str (Ty.int IntKind.i64) x.fst)
 fun
 (_z :
 T90D) =>
 Option.bind (openN Ty.str (Ty.int IntKind.i64) x.fst)
 fun
 (b_2 :
 T90D) =>
 Option.bind (F61 (b_2.snd.snd.fst, x.snd)) fun (b_3 : T26D) =>
 Option.bind (F56 (b.fst, b_1.snd.fst, b_3)) fun (b : T26D) => some b
 else
 Option.bind (openN Ty.str (Ty.int IntKind.i64) x.fst)
 fun
 (_z : T90D) =>
 Option.bind (openN Ty.str (Ty.int IntKind.i64) x.fst)
 fun
 (b :
 T90D) =>
 bif isLeaf b.snd.snd.fst then
 Option.bind (openN Ty.str (Ty.int IntKind.i64) x.fst)
 fun
 (_z :
 T90D) =>
 Option.bind (openN Ty.str (Ty.int IntKind.i64) x.fst)
 fun
 (b :
 T90D) =>
 some (b.snd.fst, ())
 else
 Option.bind (openN Ty.str (Ty.int IntKind.i64) x.fst)
 fun
 (_z :
 T90D) =>
 Option.bind (openN Ty.str (Ty.int IntKind.i64) x.fst)
 fun
 (b :
 T90D) =>
 Option.bind (F69 (b.snd.snd.fst, ()))
 fun (b : T31D × T26D) =>
 Option.bind (openN Ty.str (Ty.int IntKind.i64) x.fst)
 fun
 (_z :
 T90D) =>
 Option.bind (openN Ty.str (Ty.int IntKind.i64) x.fst)
 fun
 (b_1 :
 T90D) =>
 Option.bind (F56 (b.fst, b_1.snd.fst, b.snd)) fun (b : T26D) =>
 some b
noncomputable def E61r (F61 : T24D × List UInt8 × Unit → Option (T24D × Unit)) : Env := { tab := tab, nt := 76, Γ := lookG [(48, [S48]), (56, [S56]), (61, [⟨P61, R61, F61⟩]), (69, [S69])], joins := lookN [], loops := lookN [] }
theorem raw61_eq (F61 : T24D × List UInt8 × Unit → Option (T24D × Unit)) (x : T24D × List UInt8 × Unit) : afun (E61r F61) Try.f61 P61 R61 x = F61s F61 x := by kernel_rfl
def F61 : T24D × List UInt8 × Unit → Option (T24D × Unit) := recF F61s big
def S61 : Sig := ⟨P61, R61, F61⟩
-- (decamp/order.Map[string, int64]).Del
def F42 (x : T26D × List UInt8 × Unit) : Option (T26D × Unit) :=
 Option.bind (F30 x) fun (b : T83D) =>
 bif !b.snd.fst then some (x.fst, ())
 else Option.bind (F61 (x.fst.fst, x.snd)) fun (b : T26D) => some (b, ())
def S42 : Sig := ⟨P42, R42, F42⟩
noncomputable def E42 : Env := { tab := tab, nt := 21, Γ := lookG [(30, [S30]), (61, [S61])], joins := lookN [], loops := lookN [] }
theorem raw42_eq (x : T26D × List UInt8 × Unit) : afun E42 Try.f42 P42 R42 x = F42 x := by kernel_rfl
-- decamp/decampref01.Del
def F43 (x : List T31D × List UInt8 × Unit) : Option (List T31D × Unit) :=
 iterE (List T31D × Int × Unit) (List T31D × Unit)
 (fun (x_1 : List T31D × Int × Unit) =>
 bif decide (x_1.snd.fst < Int.ofNat (List.length x.fst)) then
 Option.bind (idx x.fst x_1.snd.fst) fun (b : T31D) =>
 bif !decide (b.fst = x.snd.fst) then
 Option.bind (idx x.fst x_1.snd.fst) fun (b : T31D) =>
 Option.bind (appO x_1.fst [b]) fun (b : List T31D) =>
 some (Sum.inl (b, wrap64 (x_1.snd.fst + 1), ()))
 else some (Sum.inl (x_1.fst, wrap64 (x_1.snd.fst + 1), ()))
 else some (Sum.inr (x_1.fst, ())))
 big ([], 0, ())
def S43 : Sig := ⟨P43, R43, F43⟩
noncomputable def E43 : Env := { tab := tab, nt := 28, Γ := lookG [], joins := lookN [], loops := lookN [(3, mkLoop ⟨[⟨.slot 5, (.slice T31), .own false⟩, ⟨.slot 9, (.int .i64), .pv⟩], [0, 1, 8], []⟩)] }
theorem raw43_eq (x : List T31D × List UInt8 × Unit) : afun E43 Try.f43 P43 R43 x = F43 x := by kernel_rfl
-- decamp/decampref01.Below
def F32 (x : List T31D × List UInt8 × Unit) : Option (List T31D × Unit) :=
 iterE (List T31D × Int × Unit) (List T31D × Unit)
 (fun (x_1 : List T31D × Int × Unit) =>
 bif decide (x_1.snd.fst < Int.ofNat (List.length x.fst)) then
 Option.bind (idx x.fst x_1.snd.fst) fun (b : T31D) =>
 bif strlt b.fst x.snd.fst then
 Option.bind (idx x.fst x_1.snd.fst) fun (b : T31D) =>
 Option.bind (appO x_1.fst [b]) fun (b : List T31D) =>
 some (Sum.inl (b, wrap64 (x_1.snd.fst + 1), ()))
 else some (Sum.inl (x_1.fst, wrap64 (x_1.snd.fst + 1), ()))
 else some (Sum.inr (x_1.fst, ())))
 big ([], 0, ())
def S32 : Sig := ⟨P32, R32, F32⟩
noncomputable def E32 : Env := { tab := tab, nt := 28, Γ := lookG [], joins := lookN [], loops := lookN [(3, mkLoop ⟨[⟨.slot 5, (.slice T31), .own false⟩, ⟨.slot 9, (.int .i64), .pv⟩], [0, 1, 8], []⟩)] }
theorem raw32_eq (x : List T31D × List UInt8 × Unit) : afun E32 Try.f32 P32 R32 x = F32 x := by kernel_rfl
-- decamp/decampref01.Put
def F44 (x : List T31D × List UInt8 × Int × Unit) : Option (List T31D × Unit) :=
 Option.bind (F32 (x.fst, x.snd.fst, ())) fun (b : List T31D × Unit) =>
 Option.bind (appO b.fst [x.snd]) fun (b : List T31D) =>
 iterE (List T31D × Int × Unit) (List T31D × Unit)
 (fun (x_1 : List T31D × Int × Unit) =>
 bif decide (x_1.snd.fst < Int.ofNat (List.length x.fst)) then
 Option.bind (idx x.fst x_1.snd.fst) fun (b : T31D) =>
 bif !(strlt b.fst x.snd.fst || decide (b.fst = x.snd.fst)) then
 Option.bind (idx x.fst x_1.snd.fst) fun (b : T31D) =>
 Option.bind (appO x_1.fst [b]) fun (b : List T31D) =>
 some (Sum.inl (b, wrap64 (x_1.snd.fst + 1), ()))
 else some (Sum.inl (x_1.fst, wrap64 (x_1.snd.fst + 1), ()))
 else some (Sum.inr (x_1.fst, ())))
 big (b, 0, ())
def S44 : Sig := ⟨P44, R44, F44⟩
noncomputable def E44 : Env := { tab := tab, nt := 38, Γ := lookG [(32, [S32])], joins := lookN [], loops := lookN [(3, mkLoop ⟨[⟨.slot 7, (.slice T31), .own false⟩, ⟨.slot 19, (.int .i64), .pv⟩], [0, 1, 18], []⟩)] }
theorem raw44_eq (x : List T31D × List UInt8 × Int × Unit) : afun E44 Try.f44 P44 R44 x = F44 x := by kernel_rfl
-- decamp/decamplaw01.act
def F18 (x : T26D × List T31D × T48D × Unit) : Option (T26D × List T31D × Unit) :=
 bif x.snd.snd.fst.fst then
 Option.bind (F42 (x.fst, x.snd.snd.fst.snd.fst, ())) fun (b : T26D × Unit) =>
 Option.bind (F43 (x.snd.fst, x.snd.snd.fst.snd.fst, ()))
 fun (b_1 : List T31D × Unit) => some (b.fst, b_1)
 else
 Option.bind (F10 (x.fst, x.snd.snd.fst.snd)) fun (b : T26D × Unit) =>
 Option.bind (F44 (x.snd.fst, x.snd.snd.fst.snd)) fun (b_1 : List T31D × Unit) =>
 some (b.fst, b_1)
def S18 : Sig := ⟨P18, R18, F18⟩
noncomputable def E18 : Env := { tab := tab, nt := 30, Γ := lookG [(10, [S10]), (42, [S42]), (43, [S43]), (44, [S44])], joins := lookN [], loops := lookN [] }
theorem raw18_eq (x : T26D × List T31D × T48D × Unit) : afun E18 Try.f18 P18 R18 x = F18 x := by kernel_rfl
-- decamp/decamplaw01.same
def F19 (x : List T31D × List T31D × Unit) : Option (Bool × Unit) :=
 bif !decide (Int.ofNat (List.length x.fst) = Int.ofNat (List.length x.snd.fst)) then some (false, ())
 else
 iterE (Int × Unit) (Bool × Unit)
 (fun (x_1 : Int × Unit) =>
 bif decide (x_1.fst < Int.ofNat (List.length x.fst)) then
 Option.bind (idx x.fst x_1.fst) fun (b : T31D) =>
 Option.bind (idx x.snd.fst x_1.fst) fun (b_1 : T31D) =>
 bif !decide (b.fst = b_1.fst) then some (Sum.inr (false, ()))
 else
 Option.bind (idx x.fst x_1.fst) fun (b : T31D) =>
 Option.bind (idx x.snd.fst x_1.fst) fun (b_2 : T31D) =>
 bif !decide (b.snd.fst = b_2.snd.fst) then some (Sum.inr (false, ()))
 else some (Sum.inl (wrap64 (x_1.fst + 1), ()))
 else some (Sum.inr (true, ())))
 big (0, ())
def S19 : Sig := ⟨P19, R19, F19⟩
noncomputable def E19 : Env := { tab := tab, nt := 41, Γ := lookG [], joins := lookN [], loops := lookN [(4, mkLoop ⟨[⟨.slot 13, (.int .i64), .pv⟩], [0, 1, 12], []⟩)] }
theorem raw19_eq (x : List T31D × List T31D × Unit) : afun E19 Try.f19 P19 R19 x = F19 x := by kernel_rfl
-- decamp/decamplaw01.OrderOld
def F5 (x : List T48D × List T48D × Unit) : Option (Bool × Unit) :=
 Option.bind (F9 ()) fun (b : Bool × Unit) =>
 bif !b.fst then Option.bind (F9 ()) fun (b : Bool × Unit) => some b
 else
 Option.bind (F17 (x.fst, ())) fun (b : Bool × Unit) =>
 bif !b.fst then Option.bind (F9 ()) fun (b : Bool × Unit) => some b
 else
 Option.bind (F17 x.snd) fun (b : Bool × Unit) =>
 bif !b.fst then Option.bind (F9 ()) fun (b : Bool × Unit) => some b
 else
 iterE (List T31D × Int × T26D) (Bool × Unit)
 (fun (x_1 : List T31D × Int × T26D) =>
 bif decide (x_1.snd.fst < Int.ofNat (List.length x.fst)) then
 Option.bind (idx x.fst x_1.snd.fst) fun (b : T48D) =>
 Option.bind (F18 (x_1.snd.snd, x_1.fst, b, ()))
 fun (b : T26D × List T31D × Unit) =>
 some (Sum.inl (b.snd.fst, wrap64 (x_1.snd.fst + 1), b.fst))
 else
 Option.map Sum.inr
 (iterE
 (List T31D × List T31D × Int × T26D)
 (Bool × Unit)
 (fun
 (x_2 :
 List T31D × List T31D × Int × T26D) =>
 bif decide (x_2.snd.snd.fst < Int.ofNat (List.length x.snd.fst)) then
 Option.bind (idx x.snd.fst x_2.snd.snd.fst) fun (b : T48D) =>
 Option.bind (F18 (x_2.snd.snd.snd, x_2.snd.fst, b, ()))
 fun (b : T26D × List T31D × Unit) =>
 Option.bind (F11 (x_1.snd.snd, ()))
 fun (b_1 : List T31D × Unit) =>
 Option.bind (F19 (b_1.fst, x_2.fst, ())) fun (b_2 : Bool × Unit) =>
 bif !b_2.fst then some (Sum.inr (false, ()))
 else
 some
 (Sum.inl
 (x_2.fst, b.snd.fst, wrap64 (x_2.snd.snd.fst + 1), b.fst))
 else
 Option.map Sum.inr
 (Option.bind (F11 (x_1.snd.snd, ()))
 fun (b : List T31D × Unit) =>
 iterE (List T31D × Int × Unit) (Bool × Unit)
 (fun (x : List T31D × Int × Unit) =>
 bif decide (x.snd.fst < Int.ofNat (List.length b.fst)) then
 Option.bind (idxN x.fst x.snd.fst) fun (b : Nat) =>
 Option.bind x.fst[b]? fun (b : T31D) =>
 Option.bind (idxN x.fst x.snd.fst) fun (b_1 : Nat) =>
 Option.bind x.fst[b_1]? fun (b_2 : T31D) =>
 some
 (Sum.inl
 (List.set x.fst b_1
 (b_2.fst, wrap64 (b.snd.fst + 1), b_2.snd.snd),
 wrap64 (x.snd.fst + 1), ()))
 else
 Option.map Sum.inr
 (Option.bind (F11 (x_2.snd.snd.snd, ()))
 fun (b : List T31D × Unit) =>
 Option.bind (F19 (b.fst, x_2.snd.fst, ())) fun (b : Bool × Unit) =>
 bif b.fst then
 Option.bind (F11 (x_1.snd.snd, ()))
 fun (b : List T31D × Unit) =>
 Option.bind (F19 (b.fst, x_2.fst, ())) fun (b : Bool × Unit) =>
 some b
 else some (false, ())))
 big (b.fst, 0, ())))
 big (x_1.fst, x_1.fst, 0, x_1.snd.snd)))
 big ([], 0, Tree.leaf, ())
def S5 : Sig := ⟨P5, R5, F5⟩
noncomputable def E5 : Env := { tab := tab, nt := 91, Γ := lookG [(9, [S9]), (11, [S11]), (17, [S17]), (18, [S18]), (19, [S19])], joins := lookN [], loops := lookN [(6, mkLoop ⟨[⟨.slot 6, (.slice T31), .own false⟩, ⟨.slot 28, (.int .i64), .pv⟩, ⟨.fld 3001000 0, T24, .pv⟩], [0, 1, 5, 27], [.site 3001000]⟩), (12, mkLoop ⟨[⟨.slot 6, (.slice T31), .pv⟩, ⟨.slot 9, (.slice T31), .pv⟩, ⟨.slot 46, (.int .i64), .pv⟩, ⟨.fld 10003000 0, T24, .pv⟩], [1, 5, 8, 45], [.site 10003000, .site 3001000, .fld 3001000 0]⟩), (20, mkLoop ⟨[⟨.slot 11, (.slice T31), .own false⟩, ⟨.slot 69, (.int .i64), .pv⟩], [5, 6, 8, 9, 68], [.site 10003000, .fld 10003000 0, .site 3001000, .fld 3001000 0]⟩)] }
theorem raw5_eq (x : List T48D × List T48D × Unit) : afun E5 Try.f5 P5 R5 x = F5 x := by kernel_rfl
-- (decamp/order.Map[string, int64]).At
def F20 (x : T26D × Int × Unit) : Option (T31D × Bool × Unit) :=
 bif decide (x.snd.fst < 0) then some (([], 0, ()), false, ())
 else
 Option.bind (F21 (x.fst, ())) fun (b : Int × Unit) =>
 bif decide (b.fst ≤ x.snd.fst) then some (([], 0, ()), false, ())
 else
 iterE (Int × T24D × T31D) (T31D × Bool × Unit)
 (fun (x : Int × T24D × T31D) =>
 Option.bind (openN Ty.str (Ty.int IntKind.i64) x.snd.fst)
 fun
 (_z : T90D) =>
 Option.bind (openN Ty.str (Ty.int IntKind.i64) x.snd.fst)
 fun
 (b :
 T90D) =>
 Option.bind (F45 (b.snd.fst, ())) fun (b : Int × Unit) =>
 bif decide (x.fst < b.fst) then
 Option.bind (openN Ty.str (Ty.int IntKind.i64) x.snd.fst)
 fun
 (_z :
 T90D) =>
 Option.bind (openN Ty.str (Ty.int IntKind.i64) x.snd.fst)
 fun
 (b :
 T90D) =>
 some (Sum.inl (x.fst, b.snd.fst, x.snd.snd))
 else
 bif decide (b.fst < x.fst) then
 Option.bind (openN Ty.str (Ty.int IntKind.i64) x.snd.fst)
 fun
 (_z :
 T90D) =>
 Option.bind (openN Ty.str (Ty.int IntKind.i64) x.snd.fst)
 fun
 (b_1 :
 T90D) =>
 some
 (Sum.inl
 (wrap64 (wrap64 (x.fst - b.fst) - 1), b_1.snd.snd.fst,
 x.snd.snd))
 else
 Option.bind (openN Ty.str (Ty.int IntKind.i64) x.snd.fst)
 fun
 (_z :
 T90D) =>
 Option.bind (openN Ty.str (Ty.int IntKind.i64) x.snd.fst)
 fun
 (b :
 T90D) =>
 some (Sum.inr (b.fst, true, ())))
 big (x.snd.fst, x.fst.fst, [], 0, ())
def S20 : Sig := ⟨P20, R20, F20⟩
noncomputable def E20 : Env := { tab := tab, nt := 48, Γ := lookG [(21, [S21]), (45, [S45])], joins := lookN [], loops := lookN [(4, mkLoop ⟨[⟨.slot 1, (.int .i64), .pv⟩, ⟨.slot 6, T24, .pv⟩, ⟨.fld 2000 0, .str, .pv⟩, ⟨.fld 2000 1, (.int .i64), .pv⟩], [4], [.site 2000]⟩)] }
theorem raw20_eq (x : T26D × Int × Unit) : afun E20 Try.f20 P20 R20 x = F20 x := by kernel_rfl
-- (decamp/order.Map[string, int64]).Between$1
def F47 (x : T31D × Unit) : Option (Unit) := none
def S47 : Sig := ⟨P47, R47, F47⟩
noncomputable def E47 : Env := { tab := tab, nt := 7, Γ := lookG [], joins := lookN [], loops := lookN [] }
theorem raw47_eq (x : T31D × Unit) : afun E47 Try.f47 P47 R47 x = F47 x := by kernel_rfl
-- (decamp/order.Map[string, int64]).Between$1
def F47a (x : T31D × (List T31D × Unit) × Unit) : Option ((List T31D × Unit) × Unit) :=
 Option.bind (appO x.snd.fst.fst [x.fst]) fun (b : List T31D) =>
 some ((b, ()), ())
def S47a : Sig := ⟨P47a, R47a, F47a⟩
noncomputable def E47a : Env := { tab := tab, nt := 7, Γ := lookG [], joins := lookN [], loops := lookN [] }
theorem raw47a_eq (x : T31D × (List T31D × Unit) × Unit) : afun E47a Try.f47 P47a R47a x = F47a x := by kernel_rfl
-- (*decamp/order.node[string, int64]).walk
def F46as (F46a : T24D × List UInt8 × List UInt8 × (List T31D × Unit) × Unit → Option ((List T31D × Unit) × Unit)) (x : T24D × List UInt8 × List UInt8 × (List T31D × Unit) × Unit) : Option ((List T31D × Unit) × Unit) :=
 bif isLeaf x.fst then some x.snd.snd.snd
 else
 Option.bind (openN Ty.str (Ty.int IntKind.i64) x.fst)
 fun (_z : T90D) =>
 Option.bind (openN Ty.str (Ty.int IntKind.i64) x.fst)
 fun (b : T90D) =>
 Option.bind (F48 (b.fst.fst, x.snd.fst, ())) fun (b : Int × Unit) =>
 Option.bind (openN Ty.str (Ty.int IntKind.i64) x.fst)
 fun (_z : T90D) =>
 Option.bind (openN Ty.str (Ty.int IntKind.i64) x.fst)
 fun
 (b_1 :
 T90D) =>
 Option.bind (F48 (b_1.fst.fst, x.snd.snd.fst, ())) fun (b_2 : Int × Unit) =>
 Option.bind
 (bif decide (0 ≤ b.fst) then
 Option.bind (openN Ty.str (Ty.int IntKind.i64) x.fst)
 fun
 (_z :
 T90D) =>
 Option.bind (openN Ty.str (Ty.int IntKind.i64) x.fst)
 fun
 (b :
 T90D) =>
 Option.bind (F46a (b.snd.fst, x.snd))
 fun (b : (List T31D × Unit) × Unit) => some (Sum.inl b.fst)
 else some (Sum.inl x.snd.snd.snd.fst))
 fun
 (o : List T31D × Unit ⊕ (List T31D × Unit) × Unit) =>
 Sum.elim
 (fun (x_1 : List T31D × Unit) =>
 Option.bind
 (bif decide (0 ≤ b.fst) then
 bif decide (b_2.fst < 0) then
 Option.bind (openN Ty.str (Ty.int IntKind.i64) x.fst)
 fun
 (_z :
 T90D) =>
 Option.bind (openN Ty.str (Ty.int IntKind.i64) x.fst)
 fun
 (b :
 T90D) =>
 Option.bind (F47a (b.fst, x_1, ()))
 fun (b : (List T31D × Unit) × Unit) => some (Sum.inl b.fst)
 else some (Sum.inl x_1)
 else some (Sum.inl x_1))
 fun
 (o :
 List T31D × Unit ⊕ (List T31D × Unit) × Unit) =>
 Sum.elim
 (fun (x_2 : List T31D × Unit) =>
 bif decide (b_2.fst < 0) then
 Option.bind (openN Ty.str (Ty.int IntKind.i64) x.fst)
 fun
 (_z :
 T90D) =>
 Option.bind (openN Ty.str (Ty.int IntKind.i64) x.fst)
 fun
 (b :
 T90D) =>
 Option.bind (F46a (b.snd.snd.fst, x.snd.fst, x.snd.snd.fst, x_2, ()))
 fun (b : (List T31D × Unit) × Unit) => some b
 else some (x_2, ()))
 (fun (val : (List T31D × Unit) × Unit) => some val) o)
 (fun (val : (List T31D × Unit) × Unit) => some val) o
noncomputable def E46ar (F46a : T24D × List UInt8 × List UInt8 × (List T31D × Unit) × Unit → Option ((List T31D × Unit) × Unit)) : Env := { tab := tab, nt := 56, Γ := lookG [(46, [⟨P46a, R46a, F46a⟩]), (47, [S47, S47a]), (48, [S48])], joins := lookN [(4, ⟨[⟨.fld 4 0, (.slice T31), .own false⟩], [0, 1, 2, 3, 8, 9], [.site 4, .comp 3 0]⟩), (6, ⟨[⟨.fld 4 0, (.slice T31), .own false⟩], [0, 1, 2, 3, 9], [.comp 3 0, .site 4]⟩)], loops := lookN [] }
theorem raw46a_eq (F46a : T24D × List UInt8 × List UInt8 × (List T31D × Unit) × Unit → Option ((List T31D × Unit) × Unit)) (x : T24D × List UInt8 × List UInt8 × (List T31D × Unit) × Unit) : afun (E46ar F46a) Try.f46 P46a R46a x = F46as F46a x := by kernel_rfl
def F46a : T24D × List UInt8 × List UInt8 × (List T31D × Unit) × Unit → Option ((List T31D × Unit) × Unit) := recF F46as big
def S46a : Sig := ⟨P46a, R46a, F46a⟩
-- (decamp/order.Map[string, int64]).Between
def F22 (x : T26D × List UInt8 × List UInt8 × Unit) : Option (List T31D × Unit) :=
 Option.bind (F46a (x.fst.fst, x.snd.fst, x.snd.snd.fst, ([], ()), ()))
 fun (b : (List T31D × Unit) × Unit) => some b.fst
def S22 : Sig := ⟨P22, R22, F22⟩
noncomputable def E22 : Env := { tab := tab, nt := 15, Γ := lookG [(46, [S46a]), (47, [S47, S47a])], joins := lookN [], loops := lookN [] }
theorem raw22_eq (x : T26D × List UInt8 × List UInt8 × Unit) : afun E22 Try.f22 P22 R22 x = F22 x := by kernel_rfl
-- (decamp/order.Map[string, int64]).Rank
def F23 (x : T26D × List UInt8 × Unit) : Option (Int × Unit) :=
 iterE (Int × T26D) (Int × Unit)
 (fun (x_1 : Int × T26D) =>
 bif !isLeaf x_1.snd.fst then
 Option.bind (openN Ty.str (Ty.int IntKind.i64) x_1.snd.fst)
 fun (_z : T90D) =>
 Option.bind (openN Ty.str (Ty.int IntKind.i64) x_1.snd.fst)
 fun (b : T90D) =>
 Option.bind (F48 (x.snd.fst, b.fst.fst, ())) fun (b : Int × Unit) =>
 bif decide (b.fst ≤ 0) then
 Option.bind (openN Ty.str (Ty.int IntKind.i64) x_1.snd.fst)
 fun
 (_z :
 T90D) =>
 Option.bind (openN Ty.str (Ty.int IntKind.i64) x_1.snd.fst)
 fun
 (b :
 T90D) =>
 some (Sum.inl (x_1.fst, b.snd.fst, ()))
 else
 Option.bind (openN Ty.str (Ty.int IntKind.i64) x_1.snd.fst)
 fun
 (_z :
 T90D) =>
 Option.bind (openN Ty.str (Ty.int IntKind.i64) x_1.snd.fst)
 fun
 (b :
 T90D) =>
 Option.bind (F45 (b.snd.fst, ())) fun (b : Int × Unit) =>
 Option.bind (openN Ty.str (Ty.int IntKind.i64) x_1.snd.fst)
 fun
 (_z :
 T90D) =>
 Option.bind (openN Ty.str (Ty.int IntKind.i64) x_1.snd.fst)
 fun
 (b_1 :
 T90D) =>
 some
 (Sum.inl
 (wrap64 (x_1.fst + wrap64 (b.fst + 1)),
 b_1.snd.snd.fst, ()))
 else some (Sum.inr (x_1.fst, ())))
 big (0, x.fst)
def S23 : Sig := ⟨P23, R23, F23⟩
noncomputable def E23 : Env := { tab := tab, nt := 36, Γ := lookG [(45, [S45]), (48, [S48])], joins := lookN [], loops := lookN [(3, mkLoop ⟨[⟨.slot 5, (.int .i64), .pv⟩, ⟨.slot 6, T24, .pv⟩], [1], []⟩)] }
theorem raw23_eq (x : T26D × List UInt8 × Unit) : afun E23 Try.f23 P23 R23 x = F23 x := by kernel_rfl
-- decamp/decamplaw01.OrderRanks
def F6 (x : List (List UInt8) × UInt8 × UInt8 × Unit) : Option (Bool × Unit) :=
 Option.bind (F9 ()) fun (b : Bool × Unit) =>
 bif !b.fst then Option.bind (F9 ()) fun (b : Bool × Unit) => some b
 else
 bif decide (200 < Int.ofNat (List.length x.fst)) then Option.bind (F9 ()) fun (b : Bool × Unit) => some b
 else
 iterE (Int × T26D) (Bool × Unit)
 (fun (x_1 : Int × T26D) =>
 bif decide (x_1.fst < Int.ofNat (List.length x.fst)) then
 Option.bind (idx x.fst x_1.fst) fun (b : List UInt8) =>
 Option.bind (F10 (x_1.snd, b, 1, ())) fun (b : T26D × Unit) =>
 some (Sum.inl (wrap64 (x_1.fst + 1), b.fst))
 else
 Option.map Sum.inr
 (Option.bind (F20 (x_1.snd, wrap64 (intOf8 x.snd.fst), ()))
 fun (b : T31D × Bool × Unit) =>
 Option.bind (F20 (x_1.snd, wrap64 (intOf8 x.snd.snd.fst), ()))
 fun (b_1 : T31D × Bool × Unit) =>
 Option.bind (F21 (x_1.snd, ())) fun (b_2 : Int × Unit) =>
 bif !b.snd.fst == decide (wrap64 (intOf8 x.snd.fst) < b_2.fst) then
 some (false, ())
 else
 Option.bind (F21 (x_1.snd, ())) fun (b_3 : Int × Unit) =>
 bif !b_1.snd.fst == decide (wrap64 (intOf8 x.snd.snd.fst) < b_3.fst) then
 some (false, ())
 else
 bif !b.snd.fst then some (true, ())
 else
 bif !b_1.snd.fst then some (true, ())
 else
 Option.bind (F22 (x_1.snd, b.fst.fst, b_1.fst.fst, ()))
 fun (b_4 : List T31D × Unit) =>
 Option.bind (F23 (x_1.snd, b.fst.fst, ())) fun (b_5 : Int × Unit) =>
 bif decide (b_5.fst = wrap64 (intOf8 x.snd.fst)) then
 Option.bind (F23 (x_1.snd, b_1.fst.fst, ())) fun (b_6 : Int × Unit) =>
 bif decide (b_6.fst = wrap64 (intOf8 x.snd.snd.fst)) then
 bif
 decide
 (Int.ofNat (List.length b_4.fst) =
 maxI
 (wrap64
 (wrap64 (intOf8 x.snd.snd.fst) -
 wrap64 (intOf8 x.snd.fst)))
 0) then
 some
 (strlt b.fst.fst b_1.fst.fst ==
 decide (intOf8 x.snd.fst < intOf8 x.snd.snd.fst),
 ())
 else some (false, ())
 else some (false, ())
 else some (false, ())))
 big (0, Tree.leaf, ())
def S6 : Sig := ⟨P6, R6, F6⟩
noncomputable def E6 : Env := { tab := tab, nt := 114, Γ := lookG [(9, [S9]), (10, [S10]), (20, [S20]), (21, [S21]), (22, [S22]), (23, [S23])], joins := lookN [], loops := lookN [(5, mkLoop ⟨[⟨.slot 24, (.int .i64), .pv⟩, ⟨.fld 3001000 0, T24, .pv⟩], [0, 1, 2, 7, 23], [.site 3001000]⟩)] }
theorem raw6_eq (x : List (List UInt8) × UInt8 × UInt8 × Unit) : afun E6 Try.f6 P6 R6 x = F6 x := by kernel_rfl
-- cmp.isNaN[int64]
def F63 (x : Int × Unit) : Option (Bool × Unit) := some (!decide (x.fst = x.fst), ())
def S63 : Sig := ⟨P63, R63, F63⟩
noncomputable def E63 : Env := { tab := tab, nt := 6, Γ := lookG [], joins := lookN [], loops := lookN [] }
theorem raw63_eq (x : Int × Unit) : afun E63 Try.f63 P63 R63 x = F63 x := by kernel_rfl
-- cmp.Compare[int64]
def F49 (x : Int × Int × Unit) : Option (Int × Unit) :=
 Option.bind (F63 (x.fst, ())) fun (b : Bool × Unit) =>
 Option.bind (F63 x.snd) fun (b_1 : Bool × Unit) =>
 bif b.fst then bif b_1.fst then some (0, ()) else some (-1, ())
 else
 bif b_1.fst then some (1, ())
 else
 bif decide (x.fst < x.snd.fst) then some (-1, ())
 else bif decide (x.snd.fst < x.fst) then some (1, ()) else some (0, ())
def S49 : Sig := ⟨P49, R49, F49⟩
noncomputable def E49 : Env := { tab := tab, nt := 20, Γ := lookG [(63, [S63])], joins := lookN [], loops := lookN [] }
theorem raw49_eq (x : Int × Int × Unit) : afun E49 Try.f49 P49 R49 x = F49 x := by kernel_rfl
-- (decamp/order.Map[int64, string]).Get
def F24 (x : T59D × Int × Unit) : Option (List UInt8 × Bool × Unit) :=
 iterE T59D (List UInt8 × Bool × Unit)
 (fun (x_1 : T59D) =>
 bif !isLeaf x_1.fst then
 Option.bind (openN (Ty.int IntKind.i64) Ty.str x_1.fst)
 fun (_z : T95D) =>
 Option.bind (openN (Ty.int IntKind.i64) Ty.str x_1.fst)
 fun (b : T95D) =>
 Option.bind (F49 (x.snd.fst, b.fst.fst, ())) fun (b : Int × Unit) =>
 bif decide (b.fst < 0) then
 Option.bind (openN (Ty.int IntKind.i64) Ty.str x_1.fst)
 fun
 (_z :
 T95D) =>
 Option.bind (openN (Ty.int IntKind.i64) Ty.str x_1.fst)
 fun
 (b :
 T95D) =>
 some (Sum.inl (b.snd.fst, ()))
 else
 bif decide (0 < b.fst) then
 Option.bind (openN (Ty.int IntKind.i64) Ty.str x_1.fst)
 fun
 (_z :
 T95D) =>
 Option.bind (openN (Ty.int IntKind.i64) Ty.str x_1.fst)
 fun
 (b :
 T95D) =>
 some (Sum.inl (b.snd.snd.fst, ()))
 else
 Option.bind (openN (Ty.int IntKind.i64) Ty.str x_1.fst)
 fun
 (_z :
 T95D) =>
 Option.bind (openN (Ty.int IntKind.i64) Ty.str x_1.fst)
 fun
 (b :
 T95D) =>
 some (Sum.inr (b.fst.snd.fst, true, ()))
 else some (Sum.inr ([], false, ())))
 big x.fst
def S24 : Sig := ⟨P24, R24, F24⟩
noncomputable def E24 : Env := { tab := tab, nt := 40, Γ := lookG [(49, [S49])], joins := lookN [], loops := lookN [(2, mkLoop ⟨[⟨.slot 6, T57, .pv⟩], [1], []⟩)] }
theorem raw24_eq (x : T59D × Int × Unit) : afun E24 Try.f24 P24 R24 x = F24 x := by kernel_rfl
-- (*decamp/order.node[int64, string]).size
def F53 (x : T57D × Unit) : Option (Int × Unit) :=
 bif isLeaf x.fst then some (0, ())
 else
 Option.bind (openN (Ty.int IntKind.i64) Ty.str x.fst)
 fun (_z : T95D) =>
 Option.bind (openN (Ty.int IntKind.i64) Ty.str x.fst)
 fun (b : T95D) =>
 some (b.snd.snd.snd.fst, ())
def S53 : Sig := ⟨P53, R53, F53⟩
noncomputable def E53 : Env := { tab := tab, nt := 9, Γ := lookG [], joins := lookN [], loops := lookN [] }
theorem raw53_eq (x : T57D × Unit) : afun E53 Try.f53 P53 R53 x = F53 x := by kernel_rfl
-- (*decamp/order.node[int64, string]).depth
def F70 (x : T57D × Unit) : Option (Int × Unit) :=
 bif isLeaf x.fst then some (0, ())
 else
 Option.bind (openN (Ty.int IntKind.i64) Ty.str x.fst)
 fun (_z : T95D) =>
 Option.bind (openN (Ty.int IntKind.i64) Ty.str x.fst)
 fun (b : T95D) =>
 some b.snd.snd.snd.snd
def S70 : Sig := ⟨P70, R70, F70⟩
noncomputable def E70 : Env := { tab := tab, nt := 9, Γ := lookG [], joins := lookN [], loops := lookN [] }
theorem raw70_eq (x : T57D × Unit) : afun E70 Try.f70 P70 R70 x = F70 x := by kernel_rfl
-- decamp/order.tree[int64,string]
def F64 (x : T66D × T57D × T57D × Unit) : Option (T57D × Unit) :=
 Option.bind (F53 (x.snd.fst, ())) fun (b : Int × Unit) =>
 Option.bind (F53 x.snd.snd) fun (b_1 : Int × Unit) =>
 Option.bind (F70 (x.snd.fst, ())) fun (b_2 : Int × Unit) =>
 Option.bind (F70 x.snd.snd) fun (b_3 : Int × Unit) =>
 some
 (nodeOf (Ty.int IntKind.i64) Ty.str
 (x.fst, x.snd.fst, x.snd.snd.fst,
 wrap64 (wrap64 (b.fst + b_1.fst) + 1),
 wrap64 (maxI b_2.fst b_3.fst + 1), ()),
 ())
def S64 : Sig := ⟨P64, R64, F64⟩
noncomputable def E64 : Env := { tab := tab, nt := 24, Γ := lookG [(53, [S53]), (70, [S70])], joins := lookN [], loops := lookN [] }
theorem raw64_eq (x : T66D × T57D × T57D × Unit) : afun E64 Try.f64 P64 R64 x = F64 x := by kernel_rfl
-- decamp/order.even[int64,string]
def F65 (x : T66D × T57D × T57D × Unit) : Option (T57D × Unit) :=
 Option.bind (F70 (x.snd.fst, ())) fun (b : Int × Unit) =>
 Option.bind (F70 x.snd.snd) fun (b_1 : Int × Unit) =>
 bif decide (wrap64 (b_1.fst + 1) < b.fst) then
 Option.bind (openN (Ty.int IntKind.i64) Ty.str x.snd.fst)
 fun (_z : T95D) =>
 Option.bind (openN (Ty.int IntKind.i64) Ty.str x.snd.fst)
 fun (b : T95D) =>
 Option.bind (F70 (b.snd.fst, ())) fun (b : Int × Unit) =>
 Option.bind (openN (Ty.int IntKind.i64) Ty.str x.snd.fst)
 fun
 (_z :
 T95D) =>
 Option.bind (openN (Ty.int IntKind.i64) Ty.str x.snd.fst)
 fun
 (b_2 :
 T95D) =>
 Option.bind (F70 (b_2.snd.snd.fst, ())) fun (b_3 : Int × Unit) =>
 bif decide (b_3.fst ≤ b.fst) then
 Option.bind (openN (Ty.int IntKind.i64) Ty.str x.snd.fst)
 fun
 (_z :
 T95D) =>
 Option.bind (openN (Ty.int IntKind.i64) Ty.str x.snd.fst)
 fun
 (b :
 T95D) =>
 Option.bind (openN (Ty.int IntKind.i64) Ty.str x.snd.fst)
 fun
 (_z :
 T95D) =>
 Option.bind (openN (Ty.int IntKind.i64) Ty.str x.snd.fst)
 fun
 (b_4 :
 T95D) =>
 Option.bind (openN (Ty.int IntKind.i64) Ty.str x.snd.fst)
 fun
 (_z :
 T95D) =>
 Option.bind (openN (Ty.int IntKind.i64) Ty.str x.snd.fst)
 fun
 (b_5 :
 T95D) =>
 Option.bind (F64 (x.fst, b_5.snd.snd.fst, x.snd.snd))
 fun (b_6 : T59D) =>
 Option.bind (F64 (b.fst, b_4.snd.fst, b_6))
 fun (b : T59D) => some b
 else
 Option.bind (openN (Ty.int IntKind.i64) Ty.str x.snd.fst)
 fun
 (_z :
 T95D) =>
 Option.bind (openN (Ty.int IntKind.i64) Ty.str x.snd.fst)
 fun
 (b :
 T95D) =>
 Option.bind (openN (Ty.int IntKind.i64) Ty.str b.snd.snd.fst)
 fun
 (_z :
 T95D) =>
 Option.bind (openN (Ty.int IntKind.i64) Ty.str b.snd.snd.fst)
 fun
 (b_4 :
 T95D) =>
 Option.bind (openN (Ty.int IntKind.i64) Ty.str x.snd.fst)
 fun
 (_z :
 T95D) =>
 Option.bind (openN (Ty.int IntKind.i64) Ty.str x.snd.fst)
 fun
 (b_5 :
 T95D) =>
 Option.bind (openN (Ty.int IntKind.i64) Ty.str x.snd.fst)
 fun
 (_z :
 T95D) =>
 Option.bind (openN (Ty.int IntKind.i64) Ty.str x.snd.fst)
 fun
 (b_6 :
 T95D) =>
 Option.bind (openN (Ty.int IntKind.i64) Ty.str b.snd.snd.fst)
 fun
 (_z :
 T95D) =>
 Option.bind (openN (Ty.int IntKind.i64) Ty.str b.snd.snd.fst)
 fun
 (b_7 :
 T95D) =>
 Option.bind (F64 (b_5.fst, b_6.snd.fst, b_7.snd.fst, ()))
 fun (b_8 : T59D) =>
 Option.bind (openN (Ty.int IntKind.i64) Ty.str b.snd.snd.fst)
 fun
 (_z :
 T95D) =>
 Option.bind (openN (Ty.int IntKind.i64) Ty.str b.snd.snd.fst)
 fun
 (b :
 T95D) =>
 Option.bind (F64 (x.fst, b.snd.snd.fst, x.snd.snd))
 fun (b : T59D) =>
 Option.bind (F64 (b_4.fst, b_8.fst, b))
 fun (b : T59D) => some b
 else
 Option.bind (F70 x.snd.snd) fun (b : Int × Unit) =>
 Option.bind (F70 (x.snd.fst, ())) fun (b_2 : Int × Unit) =>
 bif decide (wrap64 (b_2.fst + 1) < b.fst) then
 Option.bind (openN (Ty.int IntKind.i64) Ty.str x.snd.snd.fst)
 fun
 (_z :
 T95D) =>
 Option.bind (openN (Ty.int IntKind.i64) Ty.str x.snd.snd.fst)
 fun
 (b :
 T95D) =>
 Option.bind (F70 (b.snd.snd.fst, ())) fun (b : Int × Unit) =>
 Option.bind (openN (Ty.int IntKind.i64) Ty.str x.snd.snd.fst)
 fun
 (_z :
 T95D) =>
 Option.bind (openN (Ty.int IntKind.i64) Ty.str x.snd.snd.fst)
 fun
 (b_3 :
 T95D) =>
 Option.bind (F70 (b_3.snd.fst, ())) fun (b_4 : Int × Unit) =>
 bif decide (b_4.fst ≤ b.fst) then
 Option.bind (openN (Ty.int IntKind.i64) Ty.str x.snd.snd.fst)
 fun
 (_z :
 T95D) =>
 Option.bind (openN (Ty.int IntKind.i64) Ty.str x.snd.snd.fst)
 fun
 (b :
 T95D) =>
 Option.bind (openN (Ty.int IntKind.i64) Ty.str x.snd.snd.fst)
 fun
 (_z :
 T95D) =>
 Option.bind (openN (Ty.int IntKind.i64) Ty.str x.snd.snd.fst)
 fun
 (b_5 :
 T95D) =>
 Option.bind (F64 (x.fst, x.snd.fst, b_5.snd.fst, ()))
 fun (b_6 : T59D) =>
 Option.bind (openN (Ty.int IntKind.i64) Ty.str x.snd.snd.fst)
 fun
 (_z :
 T95D) =>
 Option.bind (openN (Ty.int IntKind.i64) Ty.str x.snd.snd.fst)
 fun
 (b_7 :
 T95D) =>
 Option.bind (F64 (b.fst, b_6.fst, b_7.snd.snd.fst, ()))
 fun (b : T59D) => some b
 else
 Option.bind (openN (Ty.int IntKind.i64) Ty.str x.snd.snd.fst)
 fun
 (_z :
 T95D) =>
 Option.bind (openN (Ty.int IntKind.i64) Ty.str x.snd.snd.fst)
 fun
 (b :
 T95D) =>
 Option.bind (openN (Ty.int IntKind.i64) Ty.str b.snd.fst)
 fun
 (_z :
 T95D) =>
 Option.bind (openN (Ty.int IntKind.i64) Ty.str b.snd.fst)
 fun
 (b_5 :
 T95D) =>
 Option.bind (openN (Ty.int IntKind.i64) Ty.str b.snd.fst)
 fun
 (_z :
 T95D) =>
 Option.bind (openN (Ty.int IntKind.i64) Ty.str b.snd.fst)
 fun
 (b_6 :
 T95D) =>
 Option.bind (F64 (x.fst, x.snd.fst, b_6.snd.fst, ()))
 fun (b_7 : T59D) =>
 Option.bind (openN (Ty.int IntKind.i64) Ty.str x.snd.snd.fst)
 fun
 (_z :
 T95D) =>
 Option.bind (openN (Ty.int IntKind.i64) Ty.str x.snd.snd.fst)
 fun
 (b_8 :
 T95D) =>
 Option.bind (openN (Ty.int IntKind.i64) Ty.str b.snd.fst)
 fun
 (_z :
 T95D) =>
 Option.bind (openN (Ty.int IntKind.i64) Ty.str b.snd.fst)
 fun
 (b :
 T95D) =>
 Option.bind (openN (Ty.int IntKind.i64) Ty.str x.snd.snd.fst)
 fun
 (_z :
 T95D) =>
 Option.bind (openN (Ty.int IntKind.i64) Ty.str x.snd.snd.fst)
 fun
 (b_9 :
 T95D) =>
 Option.bind
 (F64 (b_8.fst, b.snd.snd.fst, b_9.snd.snd.fst, ()))
 fun (b : T59D) =>
 Option.bind (F64 (b_5.fst, b_7.fst, b))
 fun (b : T59D) => some b
 else Option.bind (F64 x) fun (b : T59D) => some b
def S65 : Sig := ⟨P65, R65, F65⟩
noncomputable def E65 : Env := { tab := tab, nt := 139, Γ := lookG [(64, [S64]), (70, [S70])], joins := lookN [], loops := lookN [] }
theorem raw65_eq (x : T66D × T57D × T57D × Unit) : afun E65 Try.f65 P65 R65 x = F65 x := by kernel_rfl
-- (*decamp/order.node[int64, string]).put
def F50s (F50 : T57D × T66D × Unit → Option (T57D × Unit)) (x : T57D × T66D × Unit) : Option (T57D × Unit) :=
 bif isLeaf x.fst then
 Option.bind (F64 (x.snd.fst, Tree.leaf, Tree.leaf, ())) fun (b : T59D) => some b
 else
 Option.bind (openN (Ty.int IntKind.i64) Ty.str x.fst)
 fun (_z : T95D) =>
 Option.bind (openN (Ty.int IntKind.i64) Ty.str x.fst)
 fun (b : T95D) =>
 Option.bind (F49 (x.snd.fst.fst, b.fst.fst, ())) fun (b : Int × Unit) =>
 bif decide (b.fst < 0) then
 Option.bind (openN (Ty.int IntKind.i64) Ty.str x.fst)
 fun
 (_z : T95D) =>
 Option.bind (openN (Ty.int IntKind.i64) Ty.str x.fst)
 fun
 (b :
 T95D) =>
 Option.bind (openN (Ty.int IntKind.i64) Ty.str x.fst)
 fun
 (_z :
 T95D) =>
 Option.bind (openN (Ty.int IntKind.i64) Ty.str x.fst)
 fun
 (b_1 :
 T95D) =>
 Option.bind (F50 (b_1.snd.fst, x.snd)) fun (b_2 : T59D) =>
 Option.bind (openN (Ty.int IntKind.i64) Ty.str x.fst)
 fun
 (_z :
 T95D) =>
 Option.bind (openN (Ty.int IntKind.i64) Ty.str x.fst)
 fun
 (b_3 :
 T95D) =>
 Option.bind (F65 (b.fst, b_2.fst, b_3.snd.snd.fst, ()))
 fun (b : T59D) => some b
 else
 bif decide (0 < b.fst) then
 Option.bind (openN (Ty.int IntKind.i64) Ty.str x.fst)
 fun
 (_z :
 T95D) =>
 Option.bind (openN (Ty.int IntKind.i64) Ty.str x.fst)
 fun
 (b :
 T95D) =>
 Option.bind (openN (Ty.int IntKind.i64) Ty.str x.fst)
 fun
 (_z :
 T95D) =>
 Option.bind (openN (Ty.int IntKind.i64) Ty.str x.fst)
 fun
 (b_1 :
 T95D) =>
 Option.bind (openN (Ty.int IntKind.i64) Ty.str x.fst)
 fun
 (_z :
 T95D) =>
 Option.bind (openN (Ty.int IntKind.i64) Ty.str x.fst)
 fun
 (b_2 :
 T95D) =>
 Option.bind (F50 (b_2.snd.snd.fst, x.snd)) fun (b_3 : T59D) =>
 Option.bind (F65 (b.fst, b_1.snd.fst, b_3)) fun (b : T59D) =>
 some b
 else
 Option.bind (openN (Ty.int IntKind.i64) Ty.str x.fst)
 fun
 (_z :
 T95D) =>
 Option.bind (openN (Ty.int IntKind.i64) Ty.str x.fst)
 fun
 (b :
 T95D) =>
 Option.bind (openN (Ty.int IntKind.i64) Ty.str x.fst)
 fun
 (_z :
 T95D) =>
 Option.bind (openN (Ty.int IntKind.i64) Ty.str x.fst)
 fun
 (b_1 :
 T95D) =>
 Option.bind (F64 (x.snd.fst, b.snd.fst, b_1.snd.snd.fst, ()))
 fun (b : T59D) => some b
noncomputable def E50r (F50 : T57D × T66D × Unit → Option (T57D × Unit)) : Env := { tab := tab, nt := 64, Γ := lookG [(49, [S49]), (50, [⟨P50, R50, F50⟩]), (64, [S64]), (65, [S65])], joins := lookN [], loops := lookN [] }
theorem raw50_eq (F50 : T57D × T66D × Unit → Option (T57D × Unit)) (x : T57D × T66D × Unit) : afun (E50r F50) Try.f50 P50 R50 x = F50s F50 x := by kernel_rfl
def F50 : T57D × T66D × Unit → Option (T57D × Unit) := recF F50s big
def S50 : Sig := ⟨P50, R50, F50⟩
-- (decamp/order.Map[int64, string]).Put
def F25 (x : T59D × Int × List UInt8 × Unit) : Option (T59D × Unit) :=
 Option.bind (F50 (x.fst.fst, x.snd, ())) fun (b : T59D) => some (b, ())
def S25 : Sig := ⟨P25, R25, F25⟩
noncomputable def E25 : Env := { tab := tab, nt := 14, Γ := lookG [(50, [S50])], joins := lookN [], loops := lookN [] }
theorem raw25_eq (x : T59D × Int × List UInt8 × Unit) : afun E25 Try.f25 P25 R25 x = F25 x := by kernel_rfl
-- (decamp/order.Map[int64, string]).All$1
def F52 (x : T66D × Unit) : Option (Unit) := none
def S52 : Sig := ⟨P52, R52, F52⟩
noncomputable def E52 : Env := { tab := tab, nt := 7, Γ := lookG [], joins := lookN [], loops := lookN [] }
theorem raw52_eq (x : T66D × Unit) : afun E52 Try.f52 P52 R52 x = F52 x := by kernel_rfl
-- (decamp/order.Map[int64, string]).All$1
def F52a (x : T66D × (List T66D × Unit) × Unit) : Option ((List T66D × Unit) × Unit) :=
 Option.bind (appO x.snd.fst.fst [x.fst]) fun (b : List T66D) =>
 some ((b, ()), ())
def S52a : Sig := ⟨P52a, R52a, F52a⟩
noncomputable def E52a : Env := { tab := tab, nt := 7, Γ := lookG [], joins := lookN [], loops := lookN [] }
theorem raw52a_eq (x : T66D × (List T66D × Unit) × Unit) : afun E52a Try.f52 P52a R52a x = F52a x := by kernel_rfl
-- (*decamp/order.node[int64, string]).each
def F51as (F51a : T57D × (List T66D × Unit) × Unit → Option ((List T66D × Unit) × Unit)) (x : T57D × (List T66D × Unit) × Unit) : Option ((List T66D × Unit) × Unit) :=
 bif !isLeaf x.fst then
 Option.bind (openN (Ty.int IntKind.i64) Ty.str x.fst)
 fun (_z : T95D) =>
 Option.bind (openN (Ty.int IntKind.i64) Ty.str x.fst)
 fun (b : T95D) =>
 Option.bind (F51a (b.snd.fst, x.snd)) fun (b : (List T66D × Unit) × Unit) =>
 Option.bind (openN (Ty.int IntKind.i64) Ty.str x.fst)
 fun (_z : T95D) =>
 Option.bind (openN (Ty.int IntKind.i64) Ty.str x.fst)
 fun
 (b_1 :
 T95D) =>
 Option.bind (F52a (b_1.fst, b)) fun (b : (List T66D × Unit) × Unit) =>
 Option.bind (openN (Ty.int IntKind.i64) Ty.str x.fst)
 fun
 (_z :
 T95D) =>
 Option.bind (openN (Ty.int IntKind.i64) Ty.str x.fst)
 fun
 (b_2 :
 T95D) =>
 Option.bind (F51a (b_2.snd.snd.fst, b))
 fun (b : (List T66D × Unit) × Unit) => some b
 else some x.snd
noncomputable def E51ar (F51a : T57D × (List T66D × Unit) × Unit → Option ((List T66D × Unit) × Unit)) : Env := { tab := tab, nt := 24, Γ := lookG [(51, [⟨P51a, R51a, F51a⟩]), (52, [S52, S52a])], joins := lookN [], loops := lookN [] }
theorem raw51a_eq (F51a : T57D × (List T66D × Unit) × Unit → Option ((List T66D × Unit) × Unit)) (x : T57D × (List T66D × Unit) × Unit) : afun (E51ar F51a) Try.f51 P51a R51a x = F51as F51a x := by kernel_rfl
def F51a : T57D × (List T66D × Unit) × Unit → Option ((List T66D × Unit) × Unit) := recF F51as big
def S51a : Sig := ⟨P51a, R51a, F51a⟩
-- (decamp/order.Map[int64, string]).All
def F26 (x : T59D × Unit) : Option (List T66D × Unit) :=
 Option.bind (F51a (x.fst.fst, ([], ()), ()))
 fun (b : (List T66D × Unit) × Unit) => some b.fst
def S26 : Sig := ⟨P26, R26, F26⟩
noncomputable def E26 : Env := { tab := tab, nt := 9, Γ := lookG [(51, [S51a]), (52, [S52, S52a])], joins := lookN [], loops := lookN [] }
theorem raw26_eq (x : T59D × Unit) : afun E26 Try.f26 P26 R26 x = F26 x := by kernel_rfl
-- (decamp/order.Map[int64, string]).Rank
def F27 (x : T59D × Int × Unit) : Option (Int × Unit) :=
 iterE (Int × T59D) (Int × Unit)
 (fun (x_1 : Int × T59D) =>
 bif !isLeaf x_1.snd.fst then
 Option.bind (openN (Ty.int IntKind.i64) Ty.str x_1.snd.fst)
 fun (_z : T95D) =>
 Option.bind (openN (Ty.int IntKind.i64) Ty.str x_1.snd.fst)
 fun (b : T95D) =>
 Option.bind (F49 (x.snd.fst, b.fst.fst, ())) fun (b : Int × Unit) =>
 bif decide (b.fst ≤ 0) then
 Option.bind (openN (Ty.int IntKind.i64) Ty.str x_1.snd.fst)
 fun
 (_z :
 T95D) =>
 Option.bind (openN (Ty.int IntKind.i64) Ty.str x_1.snd.fst)
 fun
 (b :
 T95D) =>
 some (Sum.inl (x_1.fst, b.snd.fst, ()))
 else
 Option.bind (openN (Ty.int IntKind.i64) Ty.str x_1.snd.fst)
 fun
 (_z :
 T95D) =>
 Option.bind (openN (Ty.int IntKind.i64) Ty.str x_1.snd.fst)
 fun
 (b :
 T95D) =>
 Option.bind (F53 (b.snd.fst, ())) fun (b : Int × Unit) =>
 Option.bind (openN (Ty.int IntKind.i64) Ty.str x_1.snd.fst)
 fun
 (_z :
 T95D) =>
 Option.bind (openN (Ty.int IntKind.i64) Ty.str x_1.snd.fst)
 fun
 (b_1 :
 T95D) =>
 some
 (Sum.inl
 (wrap64 (x_1.fst + wrap64 (b.fst + 1)),
 b_1.snd.snd.fst, ()))
 else some (Sum.inr (x_1.fst, ())))
 big (0, x.fst)
def S27 : Sig := ⟨P27, R27, F27⟩
noncomputable def E27 : Env := { tab := tab, nt := 36, Γ := lookG [(49, [S49]), (53, [S53])], joins := lookN [], loops := lookN [(3, mkLoop ⟨[⟨.slot 5, (.int .i64), .pv⟩, ⟨.slot 6, T57, .pv⟩], [1], []⟩)] }
theorem raw27_eq (x : T59D × Int × Unit) : afun E27 Try.f27 P27 R27 x = F27 x := by kernel_rfl
-- (*decamp/order.node[int64, string]).least
def F66s (F66 : T57D × Unit → Option (T66D × T57D × Unit)) (x : T57D × Unit) : Option (T66D × T57D × Unit) :=
 Option.bind (openN (Ty.int IntKind.i64) Ty.str x.fst)
 fun (_z : T95D) =>
 Option.bind (openN (Ty.int IntKind.i64) Ty.str x.fst)
 fun (b : T95D) =>
 bif isLeaf b.snd.fst then
 Option.bind (openN (Ty.int IntKind.i64) Ty.str x.fst)
 fun (_z : T95D) =>
 Option.bind (openN (Ty.int IntKind.i64) Ty.str x.fst)
 fun (b : T95D) =>
 Option.bind (openN (Ty.int IntKind.i64) Ty.str x.fst)
 fun
 (_z : T95D) =>
 Option.bind (openN (Ty.int IntKind.i64) Ty.str x.fst)
 fun
 (b_1 :
 T95D) =>
 some (b.fst, b_1.snd.snd.fst, ())
 else
 Option.bind (openN (Ty.int IntKind.i64) Ty.str x.fst)
 fun (_z : T95D) =>
 Option.bind (openN (Ty.int IntKind.i64) Ty.str x.fst)
 fun (b : T95D) =>
 Option.bind (F66 (b.snd.fst, ()))
 fun (b : T66D × T59D) =>
 Option.bind (openN (Ty.int IntKind.i64) Ty.str x.fst)
 fun
 (_z :
 T95D) =>
 Option.bind (openN (Ty.int IntKind.i64) Ty.str x.fst)
 fun
 (b_1 :
 T95D) =>
 Option.bind (openN (Ty.int IntKind.i64) Ty.str x.fst)
 fun
 (_z :
 T95D) =>
 Option.bind (openN (Ty.int IntKind.i64) Ty.str x.fst)
 fun
 (b_2 :
 T95D) =>
 Option.bind (F65 (b_1.fst, b.snd.fst, b_2.snd.snd.fst, ()))
 fun (b_3 : T59D) => some (b.fst, b_3)
noncomputable def E66r (F66 : T57D × Unit → Option (T66D × T57D × Unit)) : Env := { tab := tab, nt := 38, Γ := lookG [(65, [S65]), (66, [⟨P66, R66, F66⟩])], joins := lookN [], loops := lookN [] }
theorem raw66_eq (F66 : T57D × Unit → Option (T66D × T57D × Unit)) (x : T57D × Unit) : afun (E66r F66) Try.f66 P66 R66 x = F66s F66 x := by kernel_rfl
def F66 : T57D × Unit → Option (T66D × T57D × Unit) := recF F66s big
def S66 : Sig := ⟨P66, R66, F66⟩
-- (*decamp/order.node[int64, string]).del
def F54s (F54 : T57D × Int × Unit → Option (T57D × Unit)) (x : T57D × Int × Unit) : Option (T57D × Unit) :=
 Option.bind (openN (Ty.int IntKind.i64) Ty.str x.fst)
 fun (_z : T95D) =>
 Option.bind (openN (Ty.int IntKind.i64) Ty.str x.fst)
 fun (b : T95D) =>
 Option.bind (F49 (x.snd.fst, b.fst.fst, ())) fun (b : Int × Unit) =>
 bif decide (b.fst < 0) then
 Option.bind (openN (Ty.int IntKind.i64) Ty.str x.fst)
 fun (_z : T95D) =>
 Option.bind (openN (Ty.int IntKind.i64) Ty.str x.fst)
 fun
 (b : T95D) =>
 Option.bind (openN (Ty.int IntKind.i64) Ty.str x.fst)
 fun
 (_z :
 T95D) =>
 Option.bind (openN (Ty.int IntKind.i64) Ty.str x.fst)
 fun
 (b_1 :
 T95D) =>
 Option.bind (F54 (b_1.snd.fst, x.snd)) fun (b_2 : T59D) =>
 Option.bind (openN (Ty.int IntKind.i64) Ty.str x.fst)
 fun
 (_z :
 T95D) =>
 Option.bind (openN (Ty.int IntKind.i64) Ty.str x.fst)
 fun
 (b_3 :
 T95D) =>
 Option.bind (F65 (b.fst, b_2.fst, b_3.snd.snd.fst, ()))
 fun (b : T59D) => some b
 else
 bif decide (0 < b.fst) then
 Option.bind (openN (Ty.int IntKind.i64) Ty.str x.fst)
 fun
 (_z : T95D) =>
 Option.bind (openN (Ty.int IntKind.i64) Ty.str x.fst)
 fun
 (b :
 T95D) =>
 Option.bind (openN (Ty.int IntKind.i64) Ty.str x.fst)
 fun
 (_z :
 T95D) =>
 Option.bind (openN (Ty.int IntKind.i64) Ty.str x.fst)
 fun
 (b_1 :
 T95D) =>
 Option.bind (openN (Ty.int IntKind.i64) Ty.str x.fst)
 fun
 (_z :
 T95D) =>
 Option.bind (openN (Ty.int IntKind.i64) Ty.str x.fst)
 fun
 (b_2 :
 T95D) =>
 Option.bind (F54 (b_2.snd.snd.fst, x.snd)) fun (b_3 : T59D) =>
 Option.bind (F65 (b.fst, b_1.snd.fst, b_3)) fun (b : T59D) => some b
 else
 Option.bind (openN (Ty.int IntKind.i64) Ty.str x.fst)
 fun
 (_z : T95D) =>
 Option.bind (openN (Ty.int IntKind.i64) Ty.str x.fst)
 fun
 (b :
 T95D) =>
 bif isLeaf b.snd.snd.fst then
 Option.bind (openN (Ty.int IntKind.i64) Ty.str x.fst)
 fun
 (_z :
 T95D) =>
 Option.bind (openN (Ty.int IntKind.i64) Ty.str x.fst)
 fun
 (b :
 T95D) =>
 some (b.snd.fst, ())
 else
 Option.bind (openN (Ty.int IntKind.i64) Ty.str x.fst)
 fun
 (_z :
 T95D) =>
 Option.bind (openN (Ty.int IntKind.i64) Ty.str x.fst)
 fun
 (b :
 T95D) =>
 Option.bind (F66 (b.snd.snd.fst, ()))
 fun (b : T66D × T59D) =>
 Option.bind (openN (Ty.int IntKind.i64) Ty.str x.fst)
 fun
 (_z :
 T95D) =>
 Option.bind (openN (Ty.int IntKind.i64) Ty.str x.fst)
 fun
 (b_1 :
 T95D) =>
 Option.bind (F65 (b.fst, b_1.snd.fst, b.snd)) fun (b : T59D) =>
 some b
noncomputable def E54r (F54 : T57D × Int × Unit → Option (T57D × Unit)) : Env := { tab := tab, nt := 76, Γ := lookG [(49, [S49]), (54, [⟨P54, R54, F54⟩]), (65, [S65]), (66, [S66])], joins := lookN [], loops := lookN [] }
theorem raw54_eq (F54 : T57D × Int × Unit → Option (T57D × Unit)) (x : T57D × Int × Unit) : afun (E54r F54) Try.f54 P54 R54 x = F54s F54 x := by kernel_rfl
def F54 : T57D × Int × Unit → Option (T57D × Unit) := recF F54s big
def S54 : Sig := ⟨P54, R54, F54⟩
-- (decamp/order.Map[int64, string]).Del
def F28 (x : T59D × Int × Unit) : Option (T59D × Unit) :=
 Option.bind (F24 x) fun (b : List UInt8 × Bool × Unit) =>
 bif !b.snd.fst then some (x.fst, ())
 else Option.bind (F54 (x.fst.fst, x.snd)) fun (b : T59D) => some (b, ())
def S28 : Sig := ⟨P28, R28, F28⟩
noncomputable def E28 : Env := { tab := tab, nt := 21, Γ := lookG [(24, [S24]), (54, [S54])], joins := lookN [], loops := lookN [] }
theorem raw28_eq (x : T59D × Int × Unit) : afun E28 Try.f28 P28 R28 x = F28 x := by kernel_rfl
-- (decamp/order.Map[int64, string]).Len
def F29 (x : T59D × Unit) : Option (Int × Unit) := Option.bind (F53 x.fst) fun (b : Int × Unit) => some b
def S29 : Sig := ⟨P29, R29, F29⟩
noncomputable def E29 : Env := { tab := tab, nt := 6, Γ := lookG [(53, [S53])], joins := lookN [], loops := lookN [] }
theorem raw29_eq (x : T59D × Unit) : afun E29 Try.f29 P29 R29 x = F29 x := by kernel_rfl
-- decamp/decamplaw01.OrderNumbers
def F7 (x : List Int × Int × Unit) : Option (Bool × Unit) :=
 Option.bind (F9 ()) fun (b : Bool × Unit) =>
 bif !b.fst then Option.bind (F9 ()) fun (b : Bool × Unit) => some b
 else
 bif decide (200 < Int.ofNat (List.length x.fst)) then Option.bind (F9 ()) fun (b : Bool × Unit) => some b
 else
 iterE (Int × Bool × Int × T59D) (Bool × Unit)
 (fun (x_1 : Int × Bool × Int × T59D) =>
 bif decide (x_1.snd.snd.fst < Int.ofNat (List.length x.fst)) then
 Option.bind
 (Option.bind (idx x.fst x_1.snd.snd.fst) fun (b : Int) =>
 Option.bind (F24 (x_1.snd.snd.snd, b, ())) fun (b : List UInt8 × Bool × Unit) =>
 bif !b.snd.fst then
 Option.bind (idx x.fst x_1.snd.snd.fst) fun (b : Int) =>
 bif decide (b < x.snd.fst) then
 some (Sum.inl (wrap64 (x_1.fst + 1), ()))
 else some (Sum.inl (x_1.fst, ()))
 else some (Sum.inl (x_1.fst, ())))
 fun (o : Int × Unit ⊕ Int × Bool × Int × T59D ⊕ Bool × Unit) =>
 Sum.elim
 (fun (x_2 : Int × Unit) =>
 bif x_1.snd.fst then
 Option.bind (idx x.fst x_1.snd.snd.fst) fun (b : Int) =>
 Option.bind (F25 (x_1.snd.snd.snd, b, [120], ()))
 fun (b : T59D × Unit) =>
 some (Sum.inl (x_2.fst, true, wrap64 (x_1.snd.snd.fst + 1), b.fst))
 else
 Option.bind (idx x.fst x_1.snd.snd.fst) fun (b : Int) =>
 Option.bind (idx x.fst x_1.snd.snd.fst) fun (b_1 : Int) =>
 Option.bind (F25 (x_1.snd.snd.snd, b_1, [120], ()))
 fun (b_2 : T59D × Unit) =>
 some
 (Sum.inl
 (x_2.fst, decide (b = x.snd.fst), wrap64 (x_1.snd.snd.fst + 1),
 b_2.fst)))
 (fun (val : Int × Bool × Int × T59D ⊕ Bool × Unit) => some val) o
 else
 Option.map Sum.inr
 (Option.bind (F24 (x_1.snd.snd.snd, x.snd)) fun (b : List UInt8 × Bool × Unit) =>
 Option.bind (F26 (x_1.snd.snd.snd, ())) fun (b_1 : List T66D × Unit) =>
 iterE (Int × Unit) (Bool × Unit)
 (fun (x_2 : Int × Unit) =>
 bif decide (x_2.fst < Int.ofNat (List.length b_1.fst)) then
 bif decide (0 < x_2.fst) then
 Option.bind (idxN b_1.fst (wrap64 (x_2.fst - 1))) fun (b : Nat) =>
 Option.bind b_1.fst[b]? fun (b : T66D) =>
 Option.bind (idxN b_1.fst x_2.fst) fun (b_2 : Nat) =>
 Option.bind b_1.fst[b_2]? fun (b_3 : T66D) =>
 bif decide (b_3.fst ≤ b.fst) then some (Sum.inr (false, ()))
 else some (Sum.inl (wrap64 (x_2.fst + 1), ()))
 else some (Sum.inl (wrap64 (x_2.fst + 1), ()))
 else
 Option.map Sum.inr
 (Option.bind (F27 (x_1.snd.snd.snd, x.snd)) fun (b_2 : Int × Unit) =>
 bif decide (b_2.fst = x_1.fst) then
 bif b.snd.fst == x_1.snd.fst then
 Option.bind (F28 (x_1.snd.snd.snd, x.snd))
 fun (b : T59D × Unit) =>
 Option.bind (F29 b) fun (b : Int × Unit) =>
 Option.bind (F29 (x_1.snd.snd.snd, ())) fun (b_3 : Int × Unit) =>
 bif decide (b.fst ≤ b_3.fst) then
 Option.bind (F29 (x_1.snd.snd.snd, ())) fun (b : Int × Unit) =>
 some (decide (Int.ofNat (List.length b_1.fst) = b.fst), ())
 else some (false, ())
 else some (false, ())
 else some (false, ())))
 big (0, ())))
 big (0, false, 0, Tree.leaf, ())
def S7 : Sig := ⟨P7, R7, F7⟩
noncomputable def E7 : Env := { tab := tab, nt := 121, Γ := lookG [(9, [S9]), (24, [S24]), (25, [S25]), (26, [S26]), (27, [S27]), (28, [S28]), (29, [S29])], joins := lookN [(11, ⟨[⟨.slot 6, (.int .i64), .pv⟩], [0, 1, 5, 7, 8, 24, 25], [.site 3001000, .fld 3001000 0]⟩)], loops := lookN [(6, mkLoop ⟨[⟨.slot 6, (.int .i64), .pv⟩, ⟨.slot 7, .bool, .pv⟩, ⟨.slot 25, (.int .i64), .pv⟩, ⟨.fld 3001000 0, T57, .pv⟩], [0, 1, 5, 24], [.site 3001000]⟩), (17, mkLoop ⟨[⟨.slot 75, (.int .i64), .pv⟩], [1, 5, 6, 7, 12, 13, 74], [.row 15002001, .site 3001000, .fld 3001000 0]⟩)] }
theorem raw7_eq (x : List Int × Int × Unit) : afun E7 Try.f7 P7 R7 x = F7 x := by kernel_rfl
-- decamp/decampref01.Get
def F31 (x : List T31D × List UInt8 × Unit) : Option (Int × Bool × Unit) :=
 iterE (Int × Unit) T83D
 (fun (x_1 : Int × Unit) =>
 bif decide (x_1.fst < Int.ofNat (List.length x.fst)) then
 Option.bind (idx x.fst x_1.fst) fun (b : T31D) =>
 bif decide (b.fst = x.snd.fst) then
 Option.bind (idx x.fst x_1.fst) fun (b : T31D) =>
 some (Sum.inr (b.snd.fst, true, ()))
 else some (Sum.inl (wrap64 (x_1.fst + 1), ()))
 else some (Sum.inr (0, false, ())))
 big (0, ())
def S31 : Sig := ⟨P31, R31, F31⟩
noncomputable def E31 : Env := { tab := tab, nt := 25, Γ := lookG [], joins := lookN [], loops := lookN [(2, mkLoop ⟨[⟨.slot 9, (.int .i64), .pv⟩], [0, 1, 8], []⟩)] }
theorem raw31_eq (x : List T31D × List UInt8 × Unit) : afun E31 Try.f31 P31 R31 x = F31 x := by kernel_rfl
-- decamp/decampref01.Between
def F33 (x : List T31D × List UInt8 × List UInt8 × Unit) : Option (List T31D × Unit) :=
 iterE (List T31D × Int × Unit) (List T31D × Unit)
 (fun (x_1 : List T31D × Int × Unit) =>
 bif decide (x_1.snd.fst < Int.ofNat (List.length x.fst)) then
 Option.bind (idx x.fst x_1.snd.fst) fun (b : T31D) =>
 bif !strlt b.fst x.snd.fst then
 Option.bind (idx x.fst x_1.snd.fst) fun (b : T31D) =>
 bif strlt b.fst x.snd.snd.fst then
 Option.bind (idx x.fst x_1.snd.fst) fun (b : T31D) =>
 Option.bind (appO x_1.fst [b]) fun (b : List T31D) =>
 some (Sum.inl (b, wrap64 (x_1.snd.fst + 1), ()))
 else some (Sum.inl (x_1.fst, wrap64 (x_1.snd.fst + 1), ()))
 else some (Sum.inl (x_1.fst, wrap64 (x_1.snd.fst + 1), ()))
 else some (Sum.inr (x_1.fst, ())))
 big ([], 0, ())
def S33 : Sig := ⟨P33, R33, F33⟩
noncomputable def E33 : Env := { tab := tab, nt := 39, Γ := lookG [], joins := lookN [], loops := lookN [(3, mkLoop ⟨[⟨.slot 7, (.slice T31), .own false⟩, ⟨.slot 11, (.int .i64), .pv⟩], [0, 1, 2, 10], []⟩)] }
theorem raw33_eq (x : List T31D × List UInt8 × List UInt8 × Unit) : afun E33 Try.f33 P33 R33 x = F33 x := by kernel_rfl
-- decamp/decamplaw01.OrderPlays
def F8 (x : List T48D × List UInt8 × List UInt8 × Int × Unit) : Option (Bool × Unit) :=
 Option.bind (F9 ()) fun (b : Bool × Unit) =>
 bif !b.fst then Option.bind (F9 ()) fun (b : Bool × Unit) => some b
 else
 Option.bind (F17 (x.fst, ())) fun (b : Bool × Unit) =>
 bif !b.fst then Option.bind (F9 ()) fun (b : Bool × Unit) => some b
 else
 iterE (List T31D × Int × T26D) (Bool × Unit)
 (fun (x_1 : List T31D × Int × T26D) =>
 bif decide (x_1.snd.fst < Int.ofNat (List.length x.fst)) then
 Option.bind
 (Option.bind (idx x.fst x_1.snd.fst) fun (b : T48D) =>
 Option.bind (F18 (x_1.snd.snd, x_1.fst, b, ()))
 fun (b : T26D × List T31D × Unit) =>
 Option.bind (F30 (b.fst, x.snd.fst, ())) fun (b_1 : T83D) =>
 Option.bind (F31 (b.snd.fst, x.snd.fst, ())) fun (b_2 : T83D) =>
 Option.bind (F21 (b.fst, ())) fun (b_3 : Int × Unit) =>
 bif !decide (b_3.fst = Int.ofNat (List.length b.snd.fst)) then
 some (Sum.inr (Sum.inr (false, ())))
 else
 bif !decide (b_1.fst = b_2.fst) then some (Sum.inr (Sum.inr (false, ())))
 else
 bif !b_1.snd.fst == b_2.snd.fst then some (Sum.inr (Sum.inr (false, ())))
 else
 Option.bind (F23 (b.fst, x.snd.fst, ())) fun (b_4 : Int × Unit) =>
 Option.bind (F32 (b.snd.fst, x.snd.fst, ()))
 fun (b_5 : List T31D × Unit) =>
 bif !decide (b_4.fst = Int.ofNat (List.length b_5.fst)) then
 some (Sum.inr (Sum.inr (false, ())))
 else
 Option.bind (F22 (b.fst, x.snd.fst, x.snd.snd.fst, ()))
 fun (b_6 : List T31D × Unit) =>
 Option.bind (F33 (b.snd.fst, x.snd.fst, x.snd.snd.fst, ()))
 fun (b_7 : List T31D × Unit) =>
 Option.bind (F19 (b_6.fst, b_7)) fun (b_8 : Bool × Unit) =>
 bif !b_8.fst then some (Sum.inr (Sum.inr (false, ())))
 else
 Option.bind (F20 (b.fst, x.snd.snd.snd))
 fun (b_9 : T31D × Bool × Unit) =>
 bif decide (0 ≤ x.snd.snd.snd.fst) then
 bif
 !b_9.snd.fst ==
 decide
 (x.snd.snd.snd.fst <
 Int.ofNat (List.length b.snd.fst)) then
 some (Sum.inr (Sum.inr (false, ())))
 else
 bif b_9.snd.fst then
 Option.bind (idxN b.snd.fst x.snd.snd.snd.fst)
 fun (b_10 : Nat) =>
 Option.bind b.snd.fst[b_10]?
 fun (b_11 : T31D) =>
 bif !decide (b_9.fst.fst = b_11.fst) then
 some (Sum.inr (Sum.inr (false, ())))
 else
 Option.bind (idxN b.snd.fst x.snd.snd.snd.fst)
 fun (b_12 : Nat) =>
 Option.bind b.snd.fst[b_12]?
 fun (b_13 : T31D) =>
 bif !decide (b_9.fst.snd.fst = b_13.snd.fst) then
 some (Sum.inr (Sum.inr (false, ())))
 else
 bif !b_9.snd.fst then
 bif !decide (b_9.fst.fst = []) then
 some (Sum.inr (Sum.inr (false, ())))
 else
 bif !decide (b_9.fst.snd.fst = 0) then
 some (Sum.inr (Sum.inr (false, ())))
 else some (Sum.inl (b.snd.fst, b.fst))
 else some (Sum.inl (b.snd.fst, b.fst))
 else
 bif !b_9.snd.fst then
 bif !decide (b_9.fst.fst = []) then
 some (Sum.inr (Sum.inr (false, ())))
 else
 bif !decide (b_9.fst.snd.fst = 0) then
 some (Sum.inr (Sum.inr (false, ())))
 else some (Sum.inl (b.snd.fst, b.fst))
 else some (Sum.inl (b.snd.fst, b.fst))
 else
 bif !b_9.snd.fst == false then
 some (Sum.inr (Sum.inr (false, ())))
 else
 bif b_9.snd.fst then
 Option.bind (idxN b.snd.fst x.snd.snd.snd.fst)
 fun (b_10 : Nat) =>
 Option.bind b.snd.fst[b_10]?
 fun (b_11 : T31D) =>
 bif !decide (b_9.fst.fst = b_11.fst) then
 some (Sum.inr (Sum.inr (false, ())))
 else
 Option.bind (idxN b.snd.fst x.snd.snd.snd.fst)
 fun (b_12 : Nat) =>
 Option.bind b.snd.fst[b_12]?
 fun (b_13 : T31D) =>
 bif !decide (b_9.fst.snd.fst = b_13.snd.fst) then
 some (Sum.inr (Sum.inr (false, ())))
 else
 bif !b_9.snd.fst then
 bif !decide (b_9.fst.fst = []) then
 some (Sum.inr (Sum.inr (false, ())))
 else
 bif !decide (b_9.fst.snd.fst = 0) then
 some (Sum.inr (Sum.inr (false, ())))
 else some (Sum.inl (b.snd.fst, b.fst))
 else some (Sum.inl (b.snd.fst, b.fst))
 else
 bif !b_9.snd.fst then
 bif !decide (b_9.fst.fst = []) then
 some (Sum.inr (Sum.inr (false, ())))
 else
 bif !decide (b_9.fst.snd.fst = 0) then
 some (Sum.inr (Sum.inr (false, ())))
 else some (Sum.inl (b.snd.fst, b.fst))
 else some (Sum.inl (b.snd.fst, b.fst)))
 fun
 (o :
 List T31D × T26D ⊕ List T31D × Int × T26D ⊕ Bool × Unit) =>
 Sum.elim
 (fun (x : List T31D × T26D) =>
 some (Sum.inl (x.fst, wrap64 (x_1.snd.fst + 1), x.snd)))
 (fun (val : List T31D × Int × T26D ⊕ Bool × Unit) =>
 some val)
 o
 else
 Option.map Sum.inr
 (Option.bind (F11 (x_1.snd.snd, ())) fun (b : List T31D × Unit) =>
 Option.bind (F19 (b.fst, x_1.fst, ())) fun (b : Bool × Unit) => some b))
 big ([], 0, Tree.leaf, ())
def S8 : Sig := ⟨P8, R8, F8⟩
noncomputable def E8 : Env := { tab := tab, nt := 148, Γ := lookG [(9, [S9]), (11, [S11]), (17, [S17]), (18, [S18]), (19, [S19]), (20, [S20]), (21, [S21]), (22, [S22]), (23, [S23]), (30, [S30]), (31, [S31]), (32, [S32]), (33, [S33])], joins := lookN [(16, ⟨[⟨.slot 10, (.slice T31), .own true⟩, ⟨.fld 3001000 0, T24, .pv⟩], [0, 1, 2, 3, 9, 27, 28], [.site 3001000]⟩)], loops := lookN [(6, mkLoop ⟨[⟨.slot 10, (.slice T31), .own true⟩, ⟨.slot 28, (.int .i64), .pv⟩, ⟨.fld 3001000 0, T24, .pv⟩], [0, 1, 2, 3, 9, 27], [.site 3001000]⟩)] }
theorem raw8_eq (x : List T48D × List UInt8 × List UInt8 × Int × Unit) : afun E8 Try.f8 P8 R8 x = F8 x := by kernel_rfl
end
end Go.Proofs.Ytgbmnillcdjdeaa
