/-
  Index: by a program of the bench (seat.py).
-/
import Derived.Test.YtphdilmnielgeaaIndexTab
namespace Go.Proofs.Ytphdilmnielgeaa
open Go.Sx Go
set_option maxRecDepth 100000
noncomputable section
-- decamp/index.text
def F44 (x : List UInt8 × UInt8 × Unit) : Option (Bool × Unit) :=
 bif decide (Int.ofNat (List.length x.1) < 1) then some (false, ())
 else
 bif decide (32 < Int.ofNat (List.length x.1)) then some (false, ())
 else
 iterE (Int × Unit) (Bool × Unit)
 (fun (x_1 : Int × Unit) =>
 bif decide (x_1.1 < Int.ofNat (List.length x.1)) then
 Option.bind (idx x.1 x_1.1) fun (b : UInt8) =>
 bif decide (intOf8 b < intOf8 (UInt8.ofNat 33)) then some (Sum.inr (false, ()))
 else
 Option.bind (idx x.1 x_1.1) fun (b : UInt8) =>
 bif decide (intOf8 x.2.1 < intOf8 b) then some (Sum.inr (false, ()))
 else some (Sum.inl (wrap64 (x_1.1 + 1), ()))
 else some (Sum.inr (true, ())))
 big (0, ())
def S44 : Sig := ⟨P44, R44, F44⟩
noncomputable def E44 : Env := { tab := tab, nt := 31, Γ := lookG [], joins := lookN [], loops := lookN [(4, mkLoop ⟨[⟨.slot 16, (.int .i64), .pv⟩], [0, 1, 15], []⟩)] }
theorem raw44_eq (x : List UInt8 × UInt8 × Unit) : afun E44 Try.f44 P44 R44 x = F44 x := by kernel_rfl
-- decamp/index.Key
def F14 (x : List UInt8 × Unit) : Option (Bool × Unit) := Option.bind (F44 (x.1, UInt8.ofNat 126, ())) fun (b : Bool × Unit) => some b
def S14 : Sig := ⟨P14, R14, F14⟩
noncomputable def E14 : Env := { tab := tab, nt := 5, Γ := lookG [(44, [S44])], joins := lookN [], loops := lookN [] }
theorem raw14_eq (x : List UInt8 × Unit) : afun E14 Try.f14 P14 R14 x = F14 x := by kernel_rfl
-- cmp.isNaN[string]
def F91 (x : List UInt8 × Unit) : Option (Bool × Unit) := some (!decide (x.1 = x.1), ())
def S91 : Sig := ⟨P91, R91, F91⟩
noncomputable def E91 : Env := { tab := tab, nt := 6, Γ := lookG [], joins := lookN [], loops := lookN [] }
theorem raw91_eq (x : List UInt8 × Unit) : afun E91 Try.f91 P91 R91 x = F91 x := by kernel_rfl
-- cmp.Compare[string]
def F81 (x : List UInt8 × List UInt8 × Unit) : Option (Int × Unit) :=
 Option.bind (F91 (x.1, ())) fun (b : Bool × Unit) =>
 Option.bind (F91 x.2) fun (b_1 : Bool × Unit) =>
 bif b.1 then bif b_1.1 then some (0, ()) else some (-1, ())
 else
 bif b_1.1 then some (1, ())
 else
 bif strlt x.1 x.2.1 then some (-1, ())
 else
 bif !(strlt x.1 x.2.1 || decide (x.1 = x.2.1)) then some (1, ())
 else some (0, ())
def S81 : Sig := ⟨P81, R81, F81⟩
noncomputable def E81 : Env := { tab := tab, nt := 20, Γ := lookG [(91, [S91])], joins := lookN [], loops := lookN [] }
theorem raw81_eq (x : List UInt8 × List UInt8 × Unit) : afun E81 Try.f81 P81 R81 x = F81 x := by kernel_rfl
-- (decamp/order.Map[string, []decamp/api.Ver]).Get
def F52 (x : T30D × List UInt8 × Unit) : Option (List T37D × Bool × Unit) :=
 iterE (Tree (List UInt8) (List T37D) × Unit)
 (List T37D × Bool × Unit)
 (fun (x_1 : Tree (List UInt8) (List T37D) × Unit) =>
 bif !isLeaf x_1.1 then
 Option.bind
 (openN Ty.str
 (Ty.slice
 (Ty.pair (Ty.int IntKind.i64)
 (Ty.pair (Ty.int IntKind.i64)
 (Ty.pair (Ty.int IntKind.i64)
 (Ty.pair (Ty.int IntKind.i64)
 (Ty.pair Ty.str (Ty.pair (Ty.int IntKind.i64) (Ty.pair Ty.bool Ty.unit))))))))
 x_1.1)
 fun
 (_z :
 (List UInt8 × List T37D × Unit) × Tree (List UInt8) (List T37D) × Tree (List UInt8) (List T37D) × Int × Int × Unit) =>
 Option.bind
 (openN Ty.str
 (Ty.slice
 (Ty.pair (Ty.int IntKind.i64)
 (Ty.pair (Ty.int IntKind.i64)
 (Ty.pair (Ty.int IntKind.i64)
 (Ty.pair (Ty.int IntKind.i64)
 (Ty.pair Ty.str (Ty.pair (Ty.int IntKind.i64) (Ty.pair Ty.bool Ty.unit))))))))
 x_1.1)
 fun
 (b :
 (List UInt8 × List T37D × Unit) × Tree (List UInt8) (List T37D) × Tree (List UInt8) (List T37D) × Int × Int × Unit) =>
 Option.bind (F81 (x.2.1, b.1.1, ())) fun (b : Int × Unit) =>
 bif decide (b.1 < 0) then
 Option.bind
 (openN Ty.str
 (Ty.slice
 (Ty.pair (Ty.int IntKind.i64)
 (Ty.pair (Ty.int IntKind.i64)
 (Ty.pair (Ty.int IntKind.i64)
 (Ty.pair (Ty.int IntKind.i64)
 (Ty.pair Ty.str (Ty.pair (Ty.int IntKind.i64) (Ty.pair Ty.bool Ty.unit))))))))
 x_1.1)
 fun
 (_z :
 (List UInt8 × List T37D × Unit) × Tree (List UInt8) (List T37D) × Tree (List UInt8) (List T37D) × Int × Int × Unit) =>
 Option.bind
 (openN Ty.str
 (Ty.slice
 (Ty.pair (Ty.int IntKind.i64)
 (Ty.pair (Ty.int IntKind.i64)
 (Ty.pair (Ty.int IntKind.i64)
 (Ty.pair (Ty.int IntKind.i64)
 (Ty.pair Ty.str (Ty.pair (Ty.int IntKind.i64) (Ty.pair Ty.bool Ty.unit))))))))
 x_1.1)
 fun
 (b :
 (List UInt8 × List T37D × Unit) × Tree (List UInt8) (List T37D) × Tree (List UInt8) (List T37D) × Int × Int × Unit) =>
 some (Sum.inl (b.2.1, ()))
 else
 bif decide (0 < b.1) then
 Option.bind
 (openN Ty.str
 (Ty.slice
 (Ty.pair (Ty.int IntKind.i64)
 (Ty.pair (Ty.int IntKind.i64)
 (Ty.pair (Ty.int IntKind.i64)
 (Ty.pair (Ty.int IntKind.i64)
 (Ty.pair Ty.str (Ty.pair (Ty.int IntKind.i64) (Ty.pair Ty.bool Ty.unit))))))))
 x_1.1)
 fun
 (_z :
 (List UInt8 × List T37D × Unit) × Tree (List UInt8) (List T37D) × Tree (List UInt8) (List T37D) × Int × Int × Unit) =>
 Option.bind
 (openN Ty.str
 (Ty.slice
 (Ty.pair (Ty.int IntKind.i64)
 (Ty.pair (Ty.int IntKind.i64)
 (Ty.pair (Ty.int IntKind.i64)
 (Ty.pair (Ty.int IntKind.i64)
 (Ty.pair Ty.str (Ty.pair (Ty.int IntKind.i64) (Ty.pair Ty.bool Ty.unit))))))))
 x_1.1)
 fun
 (b :
 (List UInt8 × List T37D × Unit) × Tree (List UInt8) (List T37D) × Tree (List UInt8) (List T37D) × Int × Int × Unit) =>
 some (Sum.inl (b.2.2.1, ()))
 else
 Option.bind
 (openN Ty.str
 (Ty.slice
 (Ty.pair (Ty.int IntKind.i64)
 (Ty.pair (Ty.int IntKind.i64)
 (Ty.pair (Ty.int IntKind.i64)
 (Ty.pair (Ty.int IntKind.i64)
 (Ty.pair Ty.str (Ty.pair (Ty.int IntKind.i64) (Ty.pair Ty.bool Ty.unit))))))))
 x_1.1)
 fun
 (_z :
 (List UInt8 × List T37D × Unit) × Tree (List UInt8) (List T37D) × Tree (List UInt8) (List T37D) × Int × Int × Unit) =>
 Option.bind
 (openN Ty.str
 (Ty.slice
 (Ty.pair (Ty.int IntKind.i64)
 (Ty.pair (Ty.int IntKind.i64)
 (Ty.pair (Ty.int IntKind.i64)
 (Ty.pair (Ty.int IntKind.i64)
 (Ty.pair Ty.str (Ty.pair (Ty.int IntKind.i64) (Ty.pair Ty.bool Ty.unit))))))))
 x_1.1)
 fun
 (b :
 (List UInt8 × List T37D × Unit) × Tree (List UInt8) (List T37D) × Tree (List UInt8) (List T37D) × Int × Int × Unit) =>
 some (Sum.inr (b.1.2.1, true, ()))
 else some (Sum.inr ([], false, ())))
 big x.1
def S52 : Sig := ⟨P52, R52, F52⟩
noncomputable def E52 : Env := { tab := tab, nt := 40, Γ := lookG [(81, [S81])], joins := lookN [], loops := lookN [(2, mkLoop ⟨[⟨.slot 6, T28, .pv⟩], [1], []⟩)] }
theorem raw52_eq (x : T30D × List UInt8 × Unit) : afun E52 Try.f52 P52 R52 x = F52 x := by kernel_rfl
-- decamp/hist.number
def F99 (x : Int × Unit) : Option (Bool × Unit) :=
 bif decide (1 ≤ x.1) then some (decide (x.1 ≤ 1099511627776), ()) else some (false, ())
def S99 : Sig := ⟨P99, R99, F99⟩
noncomputable def E99 : Env := { tab := tab, nt := 9, Γ := lookG [], joins := lookN [], loops := lookN [] }
theorem raw99_eq (x : Int × Unit) : afun E99 Try.f99 P99 R99 x = F99 x := by kernel_rfl
-- decamp/hist.right
def F92 (x : T37D × Unit) : Option (Bool × Unit) :=
 Option.bind (F99 (x.1.1, ())) fun (b : Bool × Unit) =>
 bif !b.1 then some (false, ())
 else
 Option.bind (F99 (x.1.2.2.1, ())) fun (b : Bool × Unit) =>
 bif !b.1 then some (false, ())
 else
 bif x.1.2.2.2.2.2.2.1 then
 bif decide (x.1.2.1 = 0) then
 bif decide (x.1.2.2.2.1 = 0) then
 bif decide (x.1.2.2.2.2.2.1 = 0) then
 some (decide (x.1.2.2.2.2.1 = []), ())
 else some (false, ())
 else some (false, ())
 else some (false, ())
 else
 bif decide (1 ≤ x.1.2.1) then
 bif decide (x.1.2.1 ≤ x.1.2.2.1) then
 Option.bind (F99 (x.1.2.2.2.1, ())) fun (b : Bool × Unit) =>
 bif b.1 then
 bif decide (Int.ofNat (List.length x.1.2.2.2.2.1) ≤ 40) then
 bif decide (-1099511627776 ≤ x.1.2.2.2.2.2.1) then
 some (decide (x.1.2.2.2.2.2.1 ≤ 1099511627776), ())
 else some (false, ())
 else some (false, ())
 else some (false, ())
 else some (false, ())
 else some (false, ())
def S92 : Sig := ⟨P92, R92, F92⟩
noncomputable def E92 : Env := { tab := tab, nt := 64, Γ := lookG [(99, [S99])], joins := lookN [], loops := lookN [] }
theorem raw92_eq (x : T37D × Unit) : afun E92 Try.f92 P92 R92 x = F92 x := by kernel_rfl
-- decamp/hist.Right
def F84 (x : List T37D × Unit) : Option (Bool × Unit) :=
 iterE (Int × Unit) (Bool × Unit)
 (fun (x_1 : Int × Unit) =>
 bif decide (x_1.1 < Int.ofNat (List.length x.1)) then
 Option.bind (idx x.1 x_1.1) fun (b : T37D) =>
 Option.bind (F92 (b, ())) fun (b_1 : Bool × Unit) =>
 bif !b_1.1 then some (Sum.inr (false, ()))
 else
 bif decide (0 < x_1.1) then
 Option.bind (idx x.1 (wrap64 (x_1.1 - 1)))
 fun (b_2 : T37D) =>
 bif decide (b.1 ≤ b_2.1) then some (Sum.inr (false, ()))
 else
 Option.bind (idx x.1 (wrap64 (x_1.1 - 1)))
 fun (b_3 : T37D) =>
 bif decide (b.2.2.1 ≤ b_3.2.2.1) then some (Sum.inr (false, ()))
 else some (Sum.inl (wrap64 (x_1.1 + 1), ()))
 else some (Sum.inl (wrap64 (x_1.1 + 1), ()))
 else some (Sum.inr (true, ())))
 big (0, ())
def S84 : Sig := ⟨P84, R84, F84⟩
noncomputable def E84 : Env := { tab := tab, nt := 42, Γ := lookG [(92, [S92])], joins := lookN [], loops := lookN [(2, mkLoop ⟨[⟨.slot 7, (.int .i64), .pv⟩], [0, 5, 6], []⟩)] }
theorem raw84_eq (x : List T37D × Unit) : afun E84 Try.f84 P84 R84 x = F84 x := by kernel_rfl
-- decamp/hist.At
def F60 (x : List T37D × Int × Unit) : Option (T37D × Bool × Unit) :=
 Option.bind
 (Option.bind (F84 (x.1, ())) fun (b : Bool × Unit) =>
 bif b.1 then
 iterE (Int × T37D)
 (T37D ⊕ T37D × Bool × Unit)
 (fun (x_1 : Int × T37D) =>
 bif decide (x_1.1 < Int.ofNat (List.length x.1)) then
 Option.bind (idx x.1 x_1.1) fun (b : T37D) =>
 bif decide (b.1 ≤ x.2.1) then some (Sum.inl (wrap64 (x_1.1 + 1), b))
 else some (Sum.inl (wrap64 (x_1.1 + 1), x_1.2))
 else some (Sum.inr (Sum.inl x_1.2)))
 big (0, 0, 0, 0, 0, [], 0, false, ())
 else some (Sum.inl (0, 0, 0, 0, [], 0, false, ())))
 fun
 (o :
 T37D ⊕ T37D × Bool × Unit) =>
 Sum.elim
 (fun (x : T37D) =>
 bif decide (x.1 = 0) then some ((0, 0, 0, 0, [], 0, false, ()), false, ())
 else
 bif x.2.2.2.2.2.2.1 then some ((0, 0, 0, 0, [], 0, false, ()), false, ())
 else some (x, true, ()))
 (fun (val : T37D × Bool × Unit) => some val) o
def S60 : Sig := ⟨P60, R60, F60⟩
noncomputable def E60 : Env := { tab := tab, nt := 32, Γ := lookG [(84, [S84])], joins := lookN [(9, ⟨[⟨.fld 1001000 0, (.int .i64), .pv⟩, ⟨.fld 1001000 1, (.int .i64), .pv⟩, ⟨.fld 1001000 2, (.int .i64), .pv⟩, ⟨.fld 1001000 3, (.int .i64), .pv⟩, ⟨.fld 1001000 4, .str, .pv⟩, ⟨.fld 1001000 5, (.int .i64), .pv⟩, ⟨.fld 1001000 6, .bool, .pv⟩], [4, 6], [.site 1001000, .site 1000, .fld 1000 0, .fld 1000 1, .fld 1000 2, .fld 1000 3, .fld 1000 4, .fld 1000 5, .fld 1000 6]⟩)], loops := lookN [(4, mkLoop ⟨[⟨.slot 13, (.int .i64), .pv⟩, ⟨.fld 1001000 0, (.int .i64), .pv⟩, ⟨.fld 1001000 1, (.int .i64), .pv⟩, ⟨.fld 1001000 2, (.int .i64), .pv⟩, ⟨.fld 1001000 3, (.int .i64), .pv⟩, ⟨.fld 1001000 4, .str, .pv⟩, ⟨.fld 1001000 5, (.int .i64), .pv⟩, ⟨.fld 1001000 6, .bool, .pv⟩], [1, 4, 6, 11, 12], [.site 1001000, .site 1000, .fld 1000 0, .fld 1000 1, .fld 1000 2, .fld 1000 3, .fld 1000 4, .fld 1000 5, .fld 1000 6]⟩)] }
theorem raw60_eq (x : List T37D × Int × Unit) : afun E60 Try.f60 P60 R60 x = F60 x := by kernel_rfl
-- decamp/hist.Live
def F53 (x : List T37D × Unit) : Option (T37D × Bool × Unit) :=
 Option.bind (F60 (x.1, 1099511627776, ()))
 fun (b : T37D × Bool × Unit) => some b
def S53 : Sig := ⟨P53, R53, F53⟩
noncomputable def E53 : Env := { tab := tab, nt := 8, Γ := lookG [(60, [S60])], joins := lookN [], loops := lookN [] }
theorem raw53_eq (x : List T37D × Unit) : afun E53 Try.f53 P53 R53 x = F53 x := by kernel_rfl
-- (decamp/index.Index).Live
def F24 (x : T32D × List UInt8 × Unit) : Option (T37D × Bool × Unit) :=
 Option.bind (F52 (x.1.1, x.2))
 fun (b : List T37D × Bool × Unit) =>
 Option.bind (F53 (b.1, ()))
 fun (b : T37D × Bool × Unit) => some b
def S24 : Sig := ⟨P24, R24, F24⟩
noncomputable def E24 : Env := { tab := tab, nt := 19, Γ := lookG [(52, [S52]), (53, [S53])], joins := lookN [], loops := lookN [] }
theorem raw24_eq (x : T32D × List UInt8 × Unit) : afun E24 Try.f24 P24 R24 x = F24 x := by kernel_rfl
-- slices.Clone[[]decamp/api.Ver,decamp/api.Ver]
def F57 (x : List T37D × Unit) : Option (List T37D × Unit) :=
 bif List.isEmpty x.1 then
 bothE (List T37D × Unit) (some ([], ()))
 (Option.bind (appO [] x.1) fun (b : List T37D) =>
 some (b, ()))
 else
 Option.bind (appO [] x.1) fun (b : List T37D) =>
 some (b, ())
def S57 : Sig := ⟨P57, R57, F57⟩
noncomputable def E57 : Env := { tab := tab, nt := 8, Γ := lookG [], joins := lookN [], loops := lookN [] }
theorem raw57_eq (x : List T37D × Unit) : afun E57 Try.f57 P57 R57 x = F57 x := by kernel_rfl
-- decamp/hist.Add
def F79 (x : List T37D × T37D × Unit) : Option (List T37D × Int × Unit) :=
 Option.bind (F57 (x.1, ()))
 fun (b : List T37D × Unit) =>
 Option.bind (appO b.1 [x.2.1]) fun (b : List T37D) =>
 Option.bind (F84 (b, ())) fun (b_1 : Bool × Unit) =>
 bif !b_1.1 then some ([], 1, ()) else some (b, 0, ())
def S79 : Sig := ⟨P79, R79, F79⟩
noncomputable def E79 : Env := { tab := tab, nt := 16, Γ := lookG [(57, [S57]), (84, [S84])], joins := lookN [], loops := lookN [] }
theorem raw79_eq (x : List T37D × T37D × Unit) : afun E79 Try.f79 P79 R79 x = F79 x := by kernel_rfl
-- decamp/hist.Put
def F73 (x : List T37D × Int × Int × List UInt8 × Int × Unit) : Option (List T37D × Int × Unit) :=
 Option.bind (F53 (x.1, ()))
 fun (b : T37D × Bool × Unit) =>
 bif b.2.1 then
 Option.bind
 (F79
 (x.1,
 (x.2.1, b.1.2.1, x.2.2.1, wrap64 (b.1.2.2.2.1 + 1),
 x.2.2.2.1, x.2.2.2.2.1, false, ()),
 ()))
 fun (b : List T37D × Int × Unit) => some b
 else
 Option.bind
 (F79
 (x.1,
 (x.2.1, x.2.2.1, x.2.2.1, 1, x.2.2.2.1, x.2.2.2.2.1, false, ()),
 ()))
 fun (b : List T37D × Int × Unit) => some b
def S73 : Sig := ⟨P73, R73, F73⟩
noncomputable def E73 : Env := { tab := tab, nt := 39, Γ := lookG [(53, [S53]), (79, [S79])], joins := lookN [], loops := lookN [] }
theorem raw73_eq (x : List T37D × Int × Int × List UInt8 × Int × Unit) : afun E73 Try.f73 P73 R73 x = F73 x := by kernel_rfl
-- (*decamp/order.node[string, []decamp/api.Ver]).depth
def F105 (x : T28D × Unit) : Option (Int × Unit) :=
 bif isLeaf x.1 then some (0, ())
 else
 Option.bind
 (openN Ty.str
 (Ty.slice
 (Ty.pair (Ty.int IntKind.i64)
 (Ty.pair (Ty.int IntKind.i64)
 (Ty.pair (Ty.int IntKind.i64)
 (Ty.pair (Ty.int IntKind.i64)
 (Ty.pair Ty.str (Ty.pair (Ty.int IntKind.i64) (Ty.pair Ty.bool Ty.unit))))))))
 x.1)
 fun
 (_z :
 (List UInt8 × List T37D × Unit) × Tree (List UInt8) (List T37D) × Tree (List UInt8) (List T37D) × Int × Int × Unit) =>
 Option.bind
 (openN Ty.str
 (Ty.slice
 (Ty.pair (Ty.int IntKind.i64)
 (Ty.pair (Ty.int IntKind.i64)
 (Ty.pair (Ty.int IntKind.i64)
 (Ty.pair (Ty.int IntKind.i64)
 (Ty.pair Ty.str (Ty.pair (Ty.int IntKind.i64) (Ty.pair Ty.bool Ty.unit))))))))
 x.1)
 fun
 (b :
 (List UInt8 × List T37D × Unit) × Tree (List UInt8) (List T37D) × Tree (List UInt8) (List T37D) × Int × Int × Unit) =>
 some b.2.2.2.2
def S105 : Sig := ⟨P105, R105, F105⟩
noncomputable def E105 : Env := { tab := tab, nt := 9, Γ := lookG [], joins := lookN [], loops := lookN [] }
theorem raw105_eq (x : T28D × Unit) : afun E105 Try.f105 P105 R105 x = F105 x := by kernel_rfl
-- (*decamp/order.node[string, []decamp/api.Ver]).size
def F106 (x : T28D × Unit) : Option (Int × Unit) :=
 bif isLeaf x.1 then some (0, ())
 else
 Option.bind
 (openN Ty.str
 (Ty.slice
 (Ty.pair (Ty.int IntKind.i64)
 (Ty.pair (Ty.int IntKind.i64)
 (Ty.pair (Ty.int IntKind.i64)
 (Ty.pair (Ty.int IntKind.i64)
 (Ty.pair Ty.str (Ty.pair (Ty.int IntKind.i64) (Ty.pair Ty.bool Ty.unit))))))))
 x.1)
 fun
 (_z :
 (List UInt8 × List T37D × Unit) × Tree (List UInt8) (List T37D) × Tree (List UInt8) (List T37D) × Int × Int × Unit) =>
 Option.bind
 (openN Ty.str
 (Ty.slice
 (Ty.pair (Ty.int IntKind.i64)
 (Ty.pair (Ty.int IntKind.i64)
 (Ty.pair (Ty.int IntKind.i64)
 (Ty.pair (Ty.int IntKind.i64)
 (Ty.pair Ty.str (Ty.pair (Ty.int IntKind.i64) (Ty.pair Ty.bool Ty.unit))))))))
 x.1)
 fun
 (b :
 (List UInt8 × List T37D × Unit) × Tree (List UInt8) (List T37D) × Tree (List UInt8) (List T37D) × Int × Int × Unit) =>
 some (b.2.2.2.1, ())
def S106 : Sig := ⟨P106, R106, F106⟩
noncomputable def E106 : Env := { tab := tab, nt := 9, Γ := lookG [], joins := lookN [], loops := lookN [] }
theorem raw106_eq (x : T28D × Unit) : afun E106 Try.f106 P106 R106 x = F106 x := by kernel_rfl
-- decamp/order.tree[string,[]decamp/api.Ver]
def F103 (x : T51D × T28D × T28D × Unit) : Option (T28D × Unit) :=
 Option.bind (F106 (x.2.1, ())) fun (b : Int × Unit) =>
 Option.bind (F106 x.2.2) fun (b_1 : Int × Unit) =>
 Option.bind (F105 (x.2.1, ())) fun (b_2 : Int × Unit) =>
 Option.bind (F105 x.2.2) fun (b_3 : Int × Unit) =>
 some
 (nodeOf Ty.str
 (Ty.slice
 (Ty.pair (Ty.int IntKind.i64)
 (Ty.pair (Ty.int IntKind.i64)
 (Ty.pair (Ty.int IntKind.i64)
 (Ty.pair (Ty.int IntKind.i64)
 (Ty.pair Ty.str (Ty.pair (Ty.int IntKind.i64) (Ty.pair Ty.bool Ty.unit))))))))
 (x.1, x.2.1, x.2.2.1,
 wrap64 (wrap64 (b.1 + b_1.1) + 1),
 wrap64 (maxI b_2.1 b_3.1 + 1), ()),
 ())
def S103 : Sig := ⟨P103, R103, F103⟩
noncomputable def E103 : Env := { tab := tab, nt := 24, Γ := lookG [(105, [S105]), (106, [S106])], joins := lookN [], loops := lookN [] }
theorem raw103_eq (x : T51D × T28D × T28D × Unit) : afun E103 Try.f103 P103 R103 x = F103 x := by kernel_rfl
-- decamp/order.even[string,[]decamp/api.Ver]
def F101 (x : T51D × T28D × T28D × Unit) : Option (T28D × Unit) :=
 Option.bind (F105 (x.2.1, ())) fun (b : Int × Unit) =>
 Option.bind (F105 x.2.2) fun (b_1 : Int × Unit) =>
 bif decide (wrap64 (b_1.1 + 1) < b.1) then
 Option.bind
 (openN Ty.str
 (Ty.slice
 (Ty.pair (Ty.int IntKind.i64)
 (Ty.pair (Ty.int IntKind.i64)
 (Ty.pair (Ty.int IntKind.i64)
 (Ty.pair (Ty.int IntKind.i64)
 (Ty.pair Ty.str (Ty.pair (Ty.int IntKind.i64) (Ty.pair Ty.bool Ty.unit))))))))
 x.2.1)
 fun
 (_z :
 (List UInt8 × List T37D × Unit) × Tree (List UInt8) (List T37D) × Tree (List UInt8) (List T37D) × Int × Int × Unit) =>
 Option.bind
 (openN Ty.str
 (Ty.slice
 (Ty.pair (Ty.int IntKind.i64)
 (Ty.pair (Ty.int IntKind.i64)
 (Ty.pair (Ty.int IntKind.i64)
 (Ty.pair (Ty.int IntKind.i64)
 (Ty.pair Ty.str (Ty.pair (Ty.int IntKind.i64) (Ty.pair Ty.bool Ty.unit))))))))
 x.2.1)
 fun
 (b :
 (List UInt8 × List T37D × Unit) × Tree (List UInt8) (List T37D) × Tree (List UInt8) (List T37D) × Int × Int × Unit) =>
 Option.bind (F105 (b.2.1, ())) fun (b : Int × Unit) =>
 Option.bind
 (openN Ty.str
 (Ty.slice
 (Ty.pair (Ty.int IntKind.i64)
 (Ty.pair (Ty.int IntKind.i64)
 (Ty.pair (Ty.int IntKind.i64)
 (Ty.pair (Ty.int IntKind.i64)
 (Ty.pair Ty.str (Ty.pair (Ty.int IntKind.i64) (Ty.pair Ty.bool Ty.unit))))))))
 x.2.1)
 fun
 (_z :
 (List UInt8 × List T37D × Unit) × Tree (List UInt8) (List T37D) × Tree (List UInt8) (List T37D) × Int × Int × Unit) =>
 Option.bind
 (openN Ty.str
 (Ty.slice
 (Ty.pair (Ty.int IntKind.i64)
 (Ty.pair (Ty.int IntKind.i64)
 (Ty.pair (Ty.int IntKind.i64)
 (Ty.pair (Ty.int IntKind.i64)
 (Ty.pair Ty.str (Ty.pair (Ty.int IntKind.i64) (Ty.pair Ty.bool Ty.unit))))))))
 x.2.1)
 fun
 (b_2 :
 (List UInt8 × List T37D × Unit) × Tree (List UInt8) (List T37D) × Tree (List UInt8) (List T37D) × Int × Int × Unit) =>
 Option.bind (F105 (b_2.2.2.1, ())) fun (b_3 : Int × Unit) =>
 bif decide (b_3.1 ≤ b.1) then
 Option.bind
 (openN Ty.str
 (Ty.slice
 (Ty.pair (Ty.int IntKind.i64)
 (Ty.pair (Ty.int IntKind.i64)
 (Ty.pair (Ty.int IntKind.i64)
 (Ty.pair (Ty.int IntKind.i64)
 (Ty.pair Ty.str (Ty.pair (Ty.int IntKind.i64) (Ty.pair Ty.bool Ty.unit))))))))
 x.2.1)
 fun
 (_z :
 (List UInt8 × List T37D × Unit) × Tree (List UInt8) (List T37D) × Tree (List UInt8) (List T37D) × Int × Int × Unit) =>
 Option.bind
 (openN Ty.str
 (Ty.slice
 (Ty.pair (Ty.int IntKind.i64)
 (Ty.pair (Ty.int IntKind.i64)
 (Ty.pair (Ty.int IntKind.i64)
 (Ty.pair (Ty.int IntKind.i64)
 (Ty.pair Ty.str (Ty.pair (Ty.int IntKind.i64) (Ty.pair Ty.bool Ty.unit))))))))
 x.2.1)
 fun
 (b :
 (List UInt8 × List T37D × Unit) × Tree (List UInt8) (List T37D) × Tree (List UInt8) (List T37D) × Int × Int × Unit) =>
 Option.bind
 (openN Ty.str
 (Ty.slice
 (Ty.pair (Ty.int IntKind.i64)
 (Ty.pair (Ty.int IntKind.i64)
 (Ty.pair (Ty.int IntKind.i64)
 (Ty.pair (Ty.int IntKind.i64)
 (Ty.pair Ty.str (Ty.pair (Ty.int IntKind.i64) (Ty.pair Ty.bool Ty.unit))))))))
 x.2.1)
 fun
 (_z :
 (List UInt8 × List T37D × Unit) × Tree (List UInt8) (List T37D) × Tree (List UInt8) (List T37D) × Int × Int × Unit) =>
 Option.bind
 (openN Ty.str
 (Ty.slice
 (Ty.pair (Ty.int IntKind.i64)
 (Ty.pair (Ty.int IntKind.i64)
 (Ty.pair (Ty.int IntKind.i64)
 (Ty.pair (Ty.int IntKind.i64)
 (Ty.pair Ty.str (Ty.pair (Ty.int IntKind.i64) (Ty.pair Ty.bool Ty.unit))))))))
 x.2.1)
 fun
 (b_4 :
 (List UInt8 × List T37D × Unit) × Tree (List UInt8) (List T37D) × Tree (List UInt8)
 (List T37D) × Int × Int × Unit) =>
 Option.bind
 (openN Ty.str
 (Ty.slice
 (Ty.pair (Ty.int IntKind.i64)
 (Ty.pair (Ty.int IntKind.i64)
 (Ty.pair (Ty.int IntKind.i64)
 (Ty.pair (Ty.int IntKind.i64)
 (Ty.pair Ty.str
 (Ty.pair (Ty.int IntKind.i64) (Ty.pair Ty.bool Ty.unit))))))))
 x.2.1)
 fun
 (_z :
 (List UInt8 × List T37D × Unit) × Tree (List UInt8)
 (List T37D) × Tree (List UInt8)
 (List T37D) × Int × Int × Unit) =>
 Option.bind
 (openN Ty.str
 (Ty.slice
 (Ty.pair (Ty.int IntKind.i64)
 (Ty.pair (Ty.int IntKind.i64)
 (Ty.pair (Ty.int IntKind.i64)
 (Ty.pair (Ty.int IntKind.i64)
 (Ty.pair Ty.str
 (Ty.pair (Ty.int IntKind.i64) (Ty.pair Ty.bool Ty.unit))))))))
 x.2.1)
 fun
 (b_5 :
 (List UInt8 × List T37D × Unit) × Tree (List UInt8)
 (List T37D) × Tree (List UInt8)
 (List T37D) × Int × Int × Unit) =>
 Option.bind (F103 (x.1, b_5.2.2.1, x.2.2))
 fun
 (b_6 :
 Tree (List UInt8)
 (List T37D) × Unit) =>
 Option.bind (F103 (b.1, b_4.2.1, b_6))
 fun
 (b :
 Tree (List UInt8)
 (List T37D) × Unit) =>
 some b
 else
 Option.bind
 (openN Ty.str
 (Ty.slice
 (Ty.pair (Ty.int IntKind.i64)
 (Ty.pair (Ty.int IntKind.i64)
 (Ty.pair (Ty.int IntKind.i64)
 (Ty.pair (Ty.int IntKind.i64)
 (Ty.pair Ty.str (Ty.pair (Ty.int IntKind.i64) (Ty.pair Ty.bool Ty.unit))))))))
 x.2.1)
 fun
 (_z :
 (List UInt8 × List T37D × Unit) × Tree (List UInt8) (List T37D) × Tree (List UInt8) (List T37D) × Int × Int × Unit) =>
 Option.bind
 (openN Ty.str
 (Ty.slice
 (Ty.pair (Ty.int IntKind.i64)
 (Ty.pair (Ty.int IntKind.i64)
 (Ty.pair (Ty.int IntKind.i64)
 (Ty.pair (Ty.int IntKind.i64)
 (Ty.pair Ty.str (Ty.pair (Ty.int IntKind.i64) (Ty.pair Ty.bool Ty.unit))))))))
 x.2.1)
 fun
 (b :
 (List UInt8 × List T37D × Unit) × Tree (List UInt8) (List T37D) × Tree (List UInt8) (List T37D) × Int × Int × Unit) =>
 Option.bind
 (openN Ty.str
 (Ty.slice
 (Ty.pair (Ty.int IntKind.i64)
 (Ty.pair (Ty.int IntKind.i64)
 (Ty.pair (Ty.int IntKind.i64)
 (Ty.pair (Ty.int IntKind.i64)
 (Ty.pair Ty.str (Ty.pair (Ty.int IntKind.i64) (Ty.pair Ty.bool Ty.unit))))))))
 b.2.2.1)
 fun
 (_z :
 (List UInt8 × List T37D × Unit) × Tree (List UInt8) (List T37D) × Tree (List UInt8) (List T37D) × Int × Int × Unit) =>
 Option.bind
 (openN Ty.str
 (Ty.slice
 (Ty.pair (Ty.int IntKind.i64)
 (Ty.pair (Ty.int IntKind.i64)
 (Ty.pair (Ty.int IntKind.i64)
 (Ty.pair (Ty.int IntKind.i64)
 (Ty.pair Ty.str (Ty.pair (Ty.int IntKind.i64) (Ty.pair Ty.bool Ty.unit))))))))
 b.2.2.1)
 fun
 (b_4 :
 (List UInt8 × List T37D × Unit) × Tree (List UInt8) (List T37D) × Tree (List UInt8)
 (List T37D) × Int × Int × Unit) =>
 Option.bind
 (openN Ty.str
 (Ty.slice
 (Ty.pair (Ty.int IntKind.i64)
 (Ty.pair (Ty.int IntKind.i64)
 (Ty.pair (Ty.int IntKind.i64)
 (Ty.pair (Ty.int IntKind.i64)
 (Ty.pair Ty.str
 (Ty.pair (Ty.int IntKind.i64) (Ty.pair Ty.bool Ty.unit))))))))
 x.2.1)
 fun
 (_z :
 (List UInt8 × List T37D × Unit) × Tree (List UInt8)
 (List T37D) × Tree (List UInt8)
 (List T37D) × Int × Int × Unit) =>
 Option.bind
 (openN Ty.str
 (Ty.slice
 (Ty.pair (Ty.int IntKind.i64)
 (Ty.pair (Ty.int IntKind.i64)
 (Ty.pair (Ty.int IntKind.i64)
 (Ty.pair (Ty.int IntKind.i64)
 (Ty.pair Ty.str
 (Ty.pair (Ty.int IntKind.i64) (Ty.pair Ty.bool Ty.unit))))))))
 x.2.1)
 fun
 (b_5 :
 (List UInt8 × List T37D × Unit) × Tree (List UInt8)
 (List T37D) × Tree (List UInt8)
 (List T37D) × Int × Int × Unit) =>
 Option.bind
 (openN Ty.str
 (Ty.slice
 (Ty.pair (Ty.int IntKind.i64)
 (Ty.pair (Ty.int IntKind.i64)
 (Ty.pair (Ty.int IntKind.i64)
 (Ty.pair (Ty.int IntKind.i64)
 (Ty.pair Ty.str
 (Ty.pair (Ty.int IntKind.i64) (Ty.pair Ty.bool Ty.unit))))))))
 x.2.1)
 fun
 (_z :
 (List UInt8 × List T37D × Unit) × Tree (List UInt8)
 (List T37D) × Tree (List UInt8)
 (List T37D) × Int × Int × Unit) =>
 Option.bind
 (openN Ty.str
 (Ty.slice
 (Ty.pair (Ty.int IntKind.i64)
 (Ty.pair (Ty.int IntKind.i64)
 (Ty.pair (Ty.int IntKind.i64)
 (Ty.pair (Ty.int IntKind.i64)
 (Ty.pair Ty.str
 (Ty.pair (Ty.int IntKind.i64) (Ty.pair Ty.bool Ty.unit))))))))
 x.2.1)
 fun
 (b_6 :
 (List UInt8 × List T37D × Unit) × Tree (List UInt8)
 (List T37D) × Tree (List UInt8)
 (List T37D) × Int × Int × Unit) =>
 Option.bind
 (openN Ty.str
 (Ty.slice
 (Ty.pair (Ty.int IntKind.i64)
 (Ty.pair (Ty.int IntKind.i64)
 (Ty.pair (Ty.int IntKind.i64)
 (Ty.pair (Ty.int IntKind.i64)
 (Ty.pair Ty.str
 (Ty.pair (Ty.int IntKind.i64) (Ty.pair Ty.bool Ty.unit))))))))
 b.2.2.1)
 fun
 (_z :
 (List UInt8 × List T37D × Unit) × Tree (List UInt8)
 (List T37D) × Tree (List UInt8)
 (List T37D) × Int × Int × Unit) =>
 Option.bind
 (openN Ty.str
 (Ty.slice
 (Ty.pair (Ty.int IntKind.i64)
 (Ty.pair (Ty.int IntKind.i64)
 (Ty.pair (Ty.int IntKind.i64)
 (Ty.pair (Ty.int IntKind.i64)
 (Ty.pair Ty.str
 (Ty.pair (Ty.int IntKind.i64) (Ty.pair Ty.bool Ty.unit))))))))
 b.2.2.1)
 fun
 (b_7 :
 (List UInt8 × List T37D × Unit) × Tree (List UInt8)
 (List T37D) × Tree (List UInt8)
 (List T37D) × Int × Int × Unit) =>
 Option.bind (F103 (b_5.1, b_6.2.1, b_7.2.1, ()))
 fun
 (b_8 :
 Tree (List UInt8)
 (List T37D) × Unit) =>
 Option.bind
 (openN Ty.str
 (Ty.slice
 (Ty.pair (Ty.int IntKind.i64)
 (Ty.pair (Ty.int IntKind.i64)
 (Ty.pair (Ty.int IntKind.i64)
 (Ty.pair (Ty.int IntKind.i64)
 (Ty.pair Ty.str
 (Ty.pair (Ty.int IntKind.i64)
 (Ty.pair Ty.bool Ty.unit))))))))
 b.2.2.1)
 fun
 (_z :
 (List UInt8 × List T37D × Unit) × Tree (List UInt8)
 (List
 T37D) × Tree (List UInt8)
 (List
 T37D) × Int × Int × Unit) =>
 Option.bind
 (openN Ty.str
 (Ty.slice
 (Ty.pair (Ty.int IntKind.i64)
 (Ty.pair (Ty.int IntKind.i64)
 (Ty.pair (Ty.int IntKind.i64)
 (Ty.pair (Ty.int IntKind.i64)
 (Ty.pair Ty.str
 (Ty.pair (Ty.int IntKind.i64)
 (Ty.pair Ty.bool Ty.unit))))))))
 b.2.2.1)
 fun
 (b :
 (List UInt8 × List T37D × Unit) × Tree (List UInt8)
 (List
 T37D) × Tree (List UInt8)
 (List
 T37D) × Int × Int × Unit) =>
 Option.bind (F103 (x.1, b.2.2.1, x.2.2))
 fun
 (b :
 Tree (List UInt8)
 (List
 T37D) × Unit) =>
 Option.bind (F103 (b_4.1, b_8.1, b))
 fun
 (b :
 Tree (List UInt8)
 (List
 T37D) × Unit) =>
 some b
 else
 Option.bind (F105 x.2.2) fun (b : Int × Unit) =>
 Option.bind (F105 (x.2.1, ())) fun (b_2 : Int × Unit) =>
 bif decide (wrap64 (b_2.1 + 1) < b.1) then
 Option.bind
 (openN Ty.str
 (Ty.slice
 (Ty.pair (Ty.int IntKind.i64)
 (Ty.pair (Ty.int IntKind.i64)
 (Ty.pair (Ty.int IntKind.i64)
 (Ty.pair (Ty.int IntKind.i64)
 (Ty.pair Ty.str (Ty.pair (Ty.int IntKind.i64) (Ty.pair Ty.bool Ty.unit))))))))
 x.2.2.1)
 fun
 (_z :
 (List UInt8 × List T37D × Unit) × Tree (List UInt8) (List T37D) × Tree (List UInt8) (List T37D) × Int × Int × Unit) =>
 Option.bind
 (openN Ty.str
 (Ty.slice
 (Ty.pair (Ty.int IntKind.i64)
 (Ty.pair (Ty.int IntKind.i64)
 (Ty.pair (Ty.int IntKind.i64)
 (Ty.pair (Ty.int IntKind.i64)
 (Ty.pair Ty.str (Ty.pair (Ty.int IntKind.i64) (Ty.pair Ty.bool Ty.unit))))))))
 x.2.2.1)
 fun
 (b :
 (List UInt8 × List T37D × Unit) × Tree (List UInt8) (List T37D) × Tree (List UInt8) (List T37D) × Int × Int × Unit) =>
 Option.bind (F105 (b.2.2.1, ())) fun (b : Int × Unit) =>
 Option.bind
 (openN Ty.str
 (Ty.slice
 (Ty.pair (Ty.int IntKind.i64)
 (Ty.pair (Ty.int IntKind.i64)
 (Ty.pair (Ty.int IntKind.i64)
 (Ty.pair (Ty.int IntKind.i64)
 (Ty.pair Ty.str (Ty.pair (Ty.int IntKind.i64) (Ty.pair Ty.bool Ty.unit))))))))
 x.2.2.1)
 fun
 (_z :
 (List UInt8 × List T37D × Unit) × Tree (List UInt8) (List T37D) × Tree (List UInt8) (List T37D) × Int × Int × Unit) =>
 Option.bind
 (openN Ty.str
 (Ty.slice
 (Ty.pair (Ty.int IntKind.i64)
 (Ty.pair (Ty.int IntKind.i64)
 (Ty.pair (Ty.int IntKind.i64)
 (Ty.pair (Ty.int IntKind.i64)
 (Ty.pair Ty.str (Ty.pair (Ty.int IntKind.i64) (Ty.pair Ty.bool Ty.unit))))))))
 x.2.2.1)
 fun
 (b_3 :
 (List UInt8 × List T37D × Unit) × Tree (List UInt8) (List T37D) × Tree (List UInt8) (List T37D) × Int × Int × Unit) =>
 Option.bind (F105 (b_3.2.1, ())) fun (b_4 : Int × Unit) =>
 bif decide (b_4.1 ≤ b.1) then
 Option.bind
 (openN Ty.str
 (Ty.slice
 (Ty.pair (Ty.int IntKind.i64)
 (Ty.pair (Ty.int IntKind.i64)
 (Ty.pair (Ty.int IntKind.i64)
 (Ty.pair (Ty.int IntKind.i64)
 (Ty.pair Ty.str (Ty.pair (Ty.int IntKind.i64) (Ty.pair Ty.bool Ty.unit))))))))
 x.2.2.1)
 fun
 (_z :
 (List UInt8 × List T37D × Unit) × Tree (List UInt8) (List T37D) × Tree (List UInt8)
 (List T37D) × Int × Int × Unit) =>
 Option.bind
 (openN Ty.str
 (Ty.slice
 (Ty.pair (Ty.int IntKind.i64)
 (Ty.pair (Ty.int IntKind.i64)
 (Ty.pair (Ty.int IntKind.i64)
 (Ty.pair (Ty.int IntKind.i64)
 (Ty.pair Ty.str
 (Ty.pair (Ty.int IntKind.i64) (Ty.pair Ty.bool Ty.unit))))))))
 x.2.2.1)
 fun
 (b :
 (List UInt8 × List T37D × Unit) × Tree (List UInt8)
 (List T37D) × Tree (List UInt8)
 (List T37D) × Int × Int × Unit) =>
 Option.bind
 (openN Ty.str
 (Ty.slice
 (Ty.pair (Ty.int IntKind.i64)
 (Ty.pair (Ty.int IntKind.i64)
 (Ty.pair (Ty.int IntKind.i64)
 (Ty.pair (Ty.int IntKind.i64)
 (Ty.pair Ty.str
 (Ty.pair (Ty.int IntKind.i64) (Ty.pair Ty.bool Ty.unit))))))))
 x.2.2.1)
 fun
 (_z :
 (List UInt8 × List T37D × Unit) × Tree (List UInt8)
 (List T37D) × Tree (List UInt8)
 (List T37D) × Int × Int × Unit) =>
 Option.bind
 (openN Ty.str
 (Ty.slice
 (Ty.pair (Ty.int IntKind.i64)
 (Ty.pair (Ty.int IntKind.i64)
 (Ty.pair (Ty.int IntKind.i64)
 (Ty.pair (Ty.int IntKind.i64)
 (Ty.pair Ty.str
 (Ty.pair (Ty.int IntKind.i64) (Ty.pair Ty.bool Ty.unit))))))))
 x.2.2.1)
 fun
 (b_5 :
 (List UInt8 × List T37D × Unit) × Tree (List UInt8)
 (List T37D) × Tree (List UInt8)
 (List T37D) × Int × Int × Unit) =>
 Option.bind (F103 (x.1, x.2.1, b_5.2.1, ()))
 fun
 (b_6 :
 Tree (List UInt8)
 (List T37D) × Unit) =>
 Option.bind
 (openN Ty.str
 (Ty.slice
 (Ty.pair (Ty.int IntKind.i64)
 (Ty.pair (Ty.int IntKind.i64)
 (Ty.pair (Ty.int IntKind.i64)
 (Ty.pair (Ty.int IntKind.i64)
 (Ty.pair Ty.str
 (Ty.pair (Ty.int IntKind.i64) (Ty.pair Ty.bool Ty.unit))))))))
 x.2.2.1)
 fun
 (_z :
 (List UInt8 × List T37D × Unit) × Tree (List UInt8)
 (List T37D) × Tree (List UInt8)
 (List T37D) × Int × Int × Unit) =>
 Option.bind
 (openN Ty.str
 (Ty.slice
 (Ty.pair (Ty.int IntKind.i64)
 (Ty.pair (Ty.int IntKind.i64)
 (Ty.pair (Ty.int IntKind.i64)
 (Ty.pair (Ty.int IntKind.i64)
 (Ty.pair Ty.str
 (Ty.pair (Ty.int IntKind.i64) (Ty.pair Ty.bool Ty.unit))))))))
 x.2.2.1)
 fun
 (b_7 :
 (List UInt8 × List T37D × Unit) × Tree (List UInt8)
 (List T37D) × Tree (List UInt8)
 (List T37D) × Int × Int × Unit) =>
 Option.bind (F103 (b.1, b_6.1, b_7.2.2.1, ()))
 fun
 (b :
 Tree (List UInt8)
 (List T37D) × Unit) =>
 some b
 else
 Option.bind
 (openN Ty.str
 (Ty.slice
 (Ty.pair (Ty.int IntKind.i64)
 (Ty.pair (Ty.int IntKind.i64)
 (Ty.pair (Ty.int IntKind.i64)
 (Ty.pair (Ty.int IntKind.i64)
 (Ty.pair Ty.str (Ty.pair (Ty.int IntKind.i64) (Ty.pair Ty.bool Ty.unit))))))))
 x.2.2.1)
 fun
 (_z :
 (List UInt8 × List T37D × Unit) × Tree (List UInt8) (List T37D) × Tree (List UInt8)
 (List T37D) × Int × Int × Unit) =>
 Option.bind
 (openN Ty.str
 (Ty.slice
 (Ty.pair (Ty.int IntKind.i64)
 (Ty.pair (Ty.int IntKind.i64)
 (Ty.pair (Ty.int IntKind.i64)
 (Ty.pair (Ty.int IntKind.i64)
 (Ty.pair Ty.str
 (Ty.pair (Ty.int IntKind.i64) (Ty.pair Ty.bool Ty.unit))))))))
 x.2.2.1)
 fun
 (b :
 (List UInt8 × List T37D × Unit) × Tree (List UInt8)
 (List T37D) × Tree (List UInt8)
 (List T37D) × Int × Int × Unit) =>
 Option.bind
 (openN Ty.str
 (Ty.slice
 (Ty.pair (Ty.int IntKind.i64)
 (Ty.pair (Ty.int IntKind.i64)
 (Ty.pair (Ty.int IntKind.i64)
 (Ty.pair (Ty.int IntKind.i64)
 (Ty.pair Ty.str
 (Ty.pair (Ty.int IntKind.i64) (Ty.pair Ty.bool Ty.unit))))))))
 b.2.1)
 fun
 (_z :
 (List UInt8 × List T37D × Unit) × Tree (List UInt8)
 (List T37D) × Tree (List UInt8)
 (List T37D) × Int × Int × Unit) =>
 Option.bind
 (openN Ty.str
 (Ty.slice
 (Ty.pair (Ty.int IntKind.i64)
 (Ty.pair (Ty.int IntKind.i64)
 (Ty.pair (Ty.int IntKind.i64)
 (Ty.pair (Ty.int IntKind.i64)
 (Ty.pair Ty.str
 (Ty.pair (Ty.int IntKind.i64) (Ty.pair Ty.bool Ty.unit))))))))
 b.2.1)
 fun
 (b_5 :
 (List UInt8 × List T37D × Unit) × Tree (List UInt8)
 (List T37D) × Tree (List UInt8)
 (List T37D) × Int × Int × Unit) =>
 Option.bind
 (openN Ty.str
 (Ty.slice
 (Ty.pair (Ty.int IntKind.i64)
 (Ty.pair (Ty.int IntKind.i64)
 (Ty.pair (Ty.int IntKind.i64)
 (Ty.pair (Ty.int IntKind.i64)
 (Ty.pair Ty.str
 (Ty.pair (Ty.int IntKind.i64) (Ty.pair Ty.bool Ty.unit))))))))
 b.2.1)
 fun
 (_z :
 (List UInt8 × List T37D × Unit) × Tree (List UInt8)
 (List T37D) × Tree (List UInt8)
 (List T37D) × Int × Int × Unit) =>
 Option.bind
 (openN Ty.str
 (Ty.slice
 (Ty.pair (Ty.int IntKind.i64)
 (Ty.pair (Ty.int IntKind.i64)
 (Ty.pair (Ty.int IntKind.i64)
 (Ty.pair (Ty.int IntKind.i64)
 (Ty.pair Ty.str
 (Ty.pair (Ty.int IntKind.i64) (Ty.pair Ty.bool Ty.unit))))))))
 b.2.1)
 fun
 (b_6 :
 (List UInt8 × List T37D × Unit) × Tree (List UInt8)
 (List T37D) × Tree (List UInt8)
 (List T37D) × Int × Int × Unit) =>
 Option.bind (F103 (x.1, x.2.1, b_6.2.1, ()))
 fun
 (b_7 :
 Tree (List UInt8)
 (List T37D) × Unit) =>
 Option.bind
 (openN Ty.str
 (Ty.slice
 (Ty.pair (Ty.int IntKind.i64)
 (Ty.pair (Ty.int IntKind.i64)
 (Ty.pair (Ty.int IntKind.i64)
 (Ty.pair (Ty.int IntKind.i64)
 (Ty.pair Ty.str
 (Ty.pair (Ty.int IntKind.i64) (Ty.pair Ty.bool Ty.unit))))))))
 x.2.2.1)
 fun
 (_z :
 (List UInt8 × List T37D × Unit) × Tree (List UInt8)
 (List T37D) × Tree (List UInt8)
 (List
 T37D) × Int × Int × Unit) =>
 Option.bind
 (openN Ty.str
 (Ty.slice
 (Ty.pair (Ty.int IntKind.i64)
 (Ty.pair (Ty.int IntKind.i64)
 (Ty.pair (Ty.int IntKind.i64)
 (Ty.pair (Ty.int IntKind.i64)
 (Ty.pair Ty.str
 (Ty.pair (Ty.int IntKind.i64)
 (Ty.pair Ty.bool Ty.unit))))))))
 x.2.2.1)
 fun
 (b_8 :
 (List UInt8 × List T37D × Unit) × Tree (List UInt8)
 (List
 T37D) × Tree (List UInt8)
 (List
 T37D) × Int × Int × Unit) =>
 Option.bind
 (openN Ty.str
 (Ty.slice
 (Ty.pair (Ty.int IntKind.i64)
 (Ty.pair (Ty.int IntKind.i64)
 (Ty.pair (Ty.int IntKind.i64)
 (Ty.pair (Ty.int IntKind.i64)
 (Ty.pair Ty.str
 (Ty.pair (Ty.int IntKind.i64)
 (Ty.pair Ty.bool Ty.unit))))))))
 b.2.1)
 fun
 (_z :
 (List UInt8 × List T37D × Unit) × Tree (List UInt8)
 (List
 T37D) × Tree (List UInt8)
 (List
 T37D) × Int × Int × Unit) =>
 Option.bind
 (openN Ty.str
 (Ty.slice
 (Ty.pair (Ty.int IntKind.i64)
 (Ty.pair (Ty.int IntKind.i64)
 (Ty.pair (Ty.int IntKind.i64)
 (Ty.pair (Ty.int IntKind.i64)
 (Ty.pair Ty.str
 (Ty.pair (Ty.int IntKind.i64)
 (Ty.pair Ty.bool Ty.unit))))))))
 b.2.1)
 fun
 (b :
 (List UInt8 × List
 T37D × Unit) × Tree (List UInt8)
 (List
 T37D) × Tree (List UInt8)
 (List
 T37D) × Int × Int × Unit) =>
 Option.bind
 (openN Ty.str
 (Ty.slice
 (Ty.pair (Ty.int IntKind.i64)
 (Ty.pair (Ty.int IntKind.i64)
 (Ty.pair (Ty.int IntKind.i64)
 (Ty.pair (Ty.int IntKind.i64)
 (Ty.pair Ty.str
 (Ty.pair (Ty.int IntKind.i64)
 (Ty.pair Ty.bool Ty.unit))))))))
 x.2.2.1)
 fun
 (_z :
 (List UInt8 × List
 T37D × Unit) × Tree (List UInt8)
 (List
 T37D) × Tree (List UInt8)
 (List
 T37D) × Int × Int × Unit) =>
 Option.bind
 (openN Ty.str
 (Ty.slice
 (Ty.pair (Ty.int IntKind.i64)
 (Ty.pair (Ty.int IntKind.i64)
 (Ty.pair (Ty.int IntKind.i64)
 (Ty.pair (Ty.int IntKind.i64)
 (Ty.pair Ty.str
 (Ty.pair (Ty.int IntKind.i64)
 (Ty.pair Ty.bool Ty.unit))))))))
 x.2.2.1)
 fun
 (b_9 :
 (List UInt8 × List
 T37D × Unit) × Tree (List UInt8)
 (List
 T37D) × Tree (List UInt8)
 (List
 T37D) × Int × Int × Unit) =>
 Option.bind
 (F103 (b_8.1, b.2.2.1, b_9.2.2.1, ()))
 fun
 (b :
 Tree (List UInt8)
 (List
 T37D) × Unit) =>
 Option.bind (F103 (b_5.1, b_7.1, b))
 fun
 (b :
 Tree (List UInt8)
 (List
 T37D) × Unit) =>
 some b
 else
 Option.bind (F103 x)
 fun (b : Tree (List UInt8) (List T37D) × Unit) =>
 some b
def S101 : Sig := ⟨P101, R101, F101⟩
noncomputable def E101 : Env := { tab := tab, nt := 139, Γ := lookG [(103, [S103]), (105, [S105])], joins := lookN [], loops := lookN [] }
theorem raw101_eq (x : T51D × T28D × T28D × Unit) : afun E101 Try.f101 P101 R101 x = F101 x := by kernel_rfl
-- (*decamp/order.node[string, []decamp/api.Ver]).least
def F102s (F102 : T28D × Unit → Option (T51D × T28D × Unit)) (x : T28D × Unit) : Option (T51D × T28D × Unit) :=
 Option.bind
 (openN Ty.str
 (Ty.slice
 (Ty.pair (Ty.int IntKind.i64)
 (Ty.pair (Ty.int IntKind.i64)
 (Ty.pair (Ty.int IntKind.i64)
 (Ty.pair (Ty.int IntKind.i64)
 (Ty.pair Ty.str (Ty.pair (Ty.int IntKind.i64) (Ty.pair Ty.bool Ty.unit))))))))
 x.1)
 fun
 (_z :
 (List UInt8 × List T37D × Unit) × Tree (List UInt8) (List T37D) × Tree (List UInt8) (List T37D) × Int × Int × Unit) =>
 Option.bind
 (openN Ty.str
 (Ty.slice
 (Ty.pair (Ty.int IntKind.i64)
 (Ty.pair (Ty.int IntKind.i64)
 (Ty.pair (Ty.int IntKind.i64)
 (Ty.pair (Ty.int IntKind.i64)
 (Ty.pair Ty.str (Ty.pair (Ty.int IntKind.i64) (Ty.pair Ty.bool Ty.unit))))))))
 x.1)
 fun
 (b :
 (List UInt8 × List T37D × Unit) × Tree (List UInt8) (List T37D) × Tree (List UInt8) (List T37D) × Int × Int × Unit) =>
 bif isLeaf b.2.1 then
 Option.bind
 (openN Ty.str
 (Ty.slice
 (Ty.pair (Ty.int IntKind.i64)
 (Ty.pair (Ty.int IntKind.i64)
 (Ty.pair (Ty.int IntKind.i64)
 (Ty.pair (Ty.int IntKind.i64)
 (Ty.pair Ty.str (Ty.pair (Ty.int IntKind.i64) (Ty.pair Ty.bool Ty.unit))))))))
 x.1)
 fun
 (_z :
 (List UInt8 × List T37D × Unit) × Tree (List UInt8) (List T37D) × Tree (List UInt8) (List T37D) × Int × Int × Unit) =>
 Option.bind
 (openN Ty.str
 (Ty.slice
 (Ty.pair (Ty.int IntKind.i64)
 (Ty.pair (Ty.int IntKind.i64)
 (Ty.pair (Ty.int IntKind.i64)
 (Ty.pair (Ty.int IntKind.i64)
 (Ty.pair Ty.str (Ty.pair (Ty.int IntKind.i64) (Ty.pair Ty.bool Ty.unit))))))))
 x.1)
 fun
 (b :
 (List UInt8 × List T37D × Unit) × Tree (List UInt8) (List T37D) × Tree (List UInt8) (List T37D) × Int × Int × Unit) =>
 Option.bind
 (openN Ty.str
 (Ty.slice
 (Ty.pair (Ty.int IntKind.i64)
 (Ty.pair (Ty.int IntKind.i64)
 (Ty.pair (Ty.int IntKind.i64)
 (Ty.pair (Ty.int IntKind.i64)
 (Ty.pair Ty.str (Ty.pair (Ty.int IntKind.i64) (Ty.pair Ty.bool Ty.unit))))))))
 x.1)
 fun
 (_z :
 (List UInt8 × List T37D × Unit) × Tree (List UInt8) (List T37D) × Tree (List UInt8) (List T37D) × Int × Int × Unit) =>
 Option.bind
 (openN Ty.str
 (Ty.slice
 (Ty.pair (Ty.int IntKind.i64)
 (Ty.pair (Ty.int IntKind.i64)
 (Ty.pair (Ty.int IntKind.i64)
 (Ty.pair (Ty.int IntKind.i64)
 (Ty.pair Ty.str (Ty.pair (Ty.int IntKind.i64) (Ty.pair Ty.bool Ty.unit))))))))
 x.1)
 fun
 (b_1 :
 (List UInt8 × List T37D × Unit) × Tree (List UInt8) (List T37D) × Tree (List UInt8) (List T37D) × Int × Int × Unit) =>
 some (b.1, b_1.2.2.1, ())
 else
 Option.bind
 (openN Ty.str
 (Ty.slice
 (Ty.pair (Ty.int IntKind.i64)
 (Ty.pair (Ty.int IntKind.i64)
 (Ty.pair (Ty.int IntKind.i64)
 (Ty.pair (Ty.int IntKind.i64)
 (Ty.pair Ty.str (Ty.pair (Ty.int IntKind.i64) (Ty.pair Ty.bool Ty.unit))))))))
 x.1)
 fun
 (_z :
 (List UInt8 × List T37D × Unit) × Tree (List UInt8) (List T37D) × Tree (List UInt8) (List T37D) × Int × Int × Unit) =>
 Option.bind
 (openN Ty.str
 (Ty.slice
 (Ty.pair (Ty.int IntKind.i64)
 (Ty.pair (Ty.int IntKind.i64)
 (Ty.pair (Ty.int IntKind.i64)
 (Ty.pair (Ty.int IntKind.i64)
 (Ty.pair Ty.str (Ty.pair (Ty.int IntKind.i64) (Ty.pair Ty.bool Ty.unit))))))))
 x.1)
 fun
 (b :
 (List UInt8 × List T37D × Unit) × Tree (List UInt8) (List T37D) × Tree (List UInt8) (List T37D) × Int × Int × Unit) =>
 Option.bind (F102 (b.2.1, ()))
 fun
 (b :
 (List UInt8 × List T37D × Unit) × Tree (List UInt8) (List T37D) × Unit) =>
 Option.bind
 (openN Ty.str
 (Ty.slice
 (Ty.pair (Ty.int IntKind.i64)
 (Ty.pair (Ty.int IntKind.i64)
 (Ty.pair (Ty.int IntKind.i64)
 (Ty.pair (Ty.int IntKind.i64)
 (Ty.pair Ty.str (Ty.pair (Ty.int IntKind.i64) (Ty.pair Ty.bool Ty.unit))))))))
 x.1)
 fun
 (_z :
 (List UInt8 × List T37D × Unit) × Tree (List UInt8) (List T37D) × Tree (List UInt8) (List T37D) × Int × Int × Unit) =>
 Option.bind
 (openN Ty.str
 (Ty.slice
 (Ty.pair (Ty.int IntKind.i64)
 (Ty.pair (Ty.int IntKind.i64)
 (Ty.pair (Ty.int IntKind.i64)
 (Ty.pair (Ty.int IntKind.i64)
 (Ty.pair Ty.str (Ty.pair (Ty.int IntKind.i64) (Ty.pair Ty.bool Ty.unit))))))))
 x.1)
 fun
 (b_1 :
 (List UInt8 × List T37D × Unit) × Tree (List UInt8) (List T37D) × Tree (List UInt8) (List T37D) × Int × Int × Unit) =>
 Option.bind
 (openN Ty.str
 (Ty.slice
 (Ty.pair (Ty.int IntKind.i64)
 (Ty.pair (Ty.int IntKind.i64)
 (Ty.pair (Ty.int IntKind.i64)
 (Ty.pair (Ty.int IntKind.i64)
 (Ty.pair Ty.str (Ty.pair (Ty.int IntKind.i64) (Ty.pair Ty.bool Ty.unit))))))))
 x.1)
 fun
 (_z :
 (List UInt8 × List T37D × Unit) × Tree (List UInt8) (List T37D) × Tree (List UInt8) (List T37D) × Int × Int × Unit) =>
 Option.bind
 (openN Ty.str
 (Ty.slice
 (Ty.pair (Ty.int IntKind.i64)
 (Ty.pair (Ty.int IntKind.i64)
 (Ty.pair (Ty.int IntKind.i64)
 (Ty.pair (Ty.int IntKind.i64)
 (Ty.pair Ty.str (Ty.pair (Ty.int IntKind.i64) (Ty.pair Ty.bool Ty.unit))))))))
 x.1)
 fun
 (b_2 :
 (List UInt8 × List T37D × Unit) × Tree (List UInt8) (List T37D) × Tree (List UInt8) (List T37D) × Int × Int × Unit) =>
 Option.bind (F101 (b_1.1, b.2.1, b_2.2.2.1, ()))
 fun
 (b_3 :
 Tree (List UInt8) (List T37D) × Unit) =>
 some (b.1, b_3)
noncomputable def E102r (F102 : T28D × Unit → Option (T51D × T28D × Unit)) : Env := { tab := tab, nt := 38, Γ := lookG [(101, [S101]), (102, [⟨P102, R102, F102⟩])], joins := lookN [], loops := lookN [] }
theorem raw102_eq (F102 : T28D × Unit → Option (T51D × T28D × Unit)) (x : T28D × Unit) : afun (E102r F102) Try.f102 P102 R102 x = F102s F102 x := by kernel_rfl
def F102 : T28D × Unit → Option (T51D × T28D × Unit) := recF F102s big
def S102 : Sig := ⟨P102, R102, F102⟩
-- (*decamp/order.node[string, []decamp/api.Ver]).del
def F97s (F97 : T28D × List UInt8 × Unit → Option (T28D × Unit)) (x : T28D × List UInt8 × Unit) : Option (T28D × Unit) :=
 Option.bind
 (openN Ty.str
 (Ty.slice
 (Ty.pair (Ty.int IntKind.i64)
 (Ty.pair (Ty.int IntKind.i64)
 (Ty.pair (Ty.int IntKind.i64)
 (Ty.pair (Ty.int IntKind.i64)
 (Ty.pair Ty.str (Ty.pair (Ty.int IntKind.i64) (Ty.pair Ty.bool Ty.unit))))))))
 x.1)
 fun
 (_z :
 (List UInt8 × List T37D × Unit) × Tree (List UInt8) (List T37D) × Tree (List UInt8) (List T37D) × Int × Int × Unit) =>
 Option.bind
 (openN Ty.str
 (Ty.slice
 (Ty.pair (Ty.int IntKind.i64)
 (Ty.pair (Ty.int IntKind.i64)
 (Ty.pair (Ty.int IntKind.i64)
 (Ty.pair (Ty.int IntKind.i64)
 (Ty.pair Ty.str (Ty.pair (Ty.int IntKind.i64) (Ty.pair Ty.bool Ty.unit))))))))
 x.1)
 fun
 (b :
 (List UInt8 × List T37D × Unit) × Tree (List UInt8) (List T37D) × Tree (List UInt8) (List T37D) × Int × Int × Unit) =>
 Option.bind (F81 (x.2.1, b.1.1, ())) fun (b : Int × Unit) =>
 bif decide (b.1 < 0) then
 Option.bind
 (openN Ty.str
 (Ty.slice
 (Ty.pair (Ty.int IntKind.i64)
 (Ty.pair (Ty.int IntKind.i64)
 (Ty.pair (Ty.int IntKind.i64)
 (Ty.pair (Ty.int IntKind.i64)
 (Ty.pair Ty.str (Ty.pair (Ty.int IntKind.i64) (Ty.pair Ty.bool Ty.unit))))))))
 x.1)
 fun
 (_z :
 (List UInt8 × List T37D × Unit) × Tree (List UInt8) (List T37D) × Tree (List UInt8) (List T37D) × Int × Int × Unit) =>
 Option.bind
 (openN Ty.str
 (Ty.slice
 (Ty.pair (Ty.int IntKind.i64)
 (Ty.pair (Ty.int IntKind.i64)
 (Ty.pair (Ty.int IntKind.i64)
 (Ty.pair (Ty.int IntKind.i64)
 (Ty.pair Ty.str (Ty.pair (Ty.int IntKind.i64) (Ty.pair Ty.bool Ty.unit))))))))
 x.1)
 fun
 (b :
 (List UInt8 × List T37D × Unit) × Tree (List UInt8) (List T37D) × Tree (List UInt8) (List T37D) × Int × Int × Unit) =>
 Option.bind
 (openN Ty.str
 (Ty.slice
 (Ty.pair (Ty.int IntKind.i64)
 (Ty.pair (Ty.int IntKind.i64)
 (Ty.pair (Ty.int IntKind.i64)
 (Ty.pair (Ty.int IntKind.i64)
 (Ty.pair Ty.str (Ty.pair (Ty.int IntKind.i64) (Ty.pair Ty.bool Ty.unit))))))))
 x.1)
 fun
 (_z :
 (List UInt8 × List T37D × Unit) × Tree (List UInt8) (List T37D) × Tree (List UInt8) (List T37D) × Int × Int × Unit) =>
 Option.bind
 (openN Ty.str
 (Ty.slice
 (Ty.pair (Ty.int IntKind.i64)
 (Ty.pair (Ty.int IntKind.i64)
 (Ty.pair (Ty.int IntKind.i64)
 (Ty.pair (Ty.int IntKind.i64)
 (Ty.pair Ty.str (Ty.pair (Ty.int IntKind.i64) (Ty.pair Ty.bool Ty.unit))))))))
 x.1)
 fun
 (b_1 :
 (List UInt8 × List T37D × Unit) × Tree (List UInt8) (List T37D) × Tree (List UInt8) (List T37D) × Int × Int × Unit) =>
 Option.bind (F97 (b_1.2.1, x.2))
 fun
 (b_2 :
 Tree (List UInt8) (List T37D) × Unit) =>
 Option.bind
 (openN Ty.str
 (Ty.slice
 (Ty.pair (Ty.int IntKind.i64)
 (Ty.pair (Ty.int IntKind.i64)
 (Ty.pair (Ty.int IntKind.i64)
 (Ty.pair (Ty.int IntKind.i64)
 (Ty.pair Ty.str (Ty.pair (Ty.int IntKind.i64) (Ty.pair Ty.bool Ty.unit))))))))
 x.1)
 fun
 (_z :
 (List UInt8 × List T37D × Unit) × Tree (List UInt8) (List T37D) × Tree (List UInt8) (List T37D) × Int × Int × Unit) =>
 Option.bind
 (openN Ty.str
 (Ty.slice
 (Ty.pair (Ty.int IntKind.i64)
 (Ty.pair (Ty.int IntKind.i64)
 (Ty.pair (Ty.int IntKind.i64)
 (Ty.pair (Ty.int IntKind.i64)
 (Ty.pair Ty.str (Ty.pair (Ty.int IntKind.i64) (Ty.pair Ty.bool Ty.unit))))))))
 x.1)
 fun
 (b_3 :
 (List UInt8 × List T37D × Unit) × Tree (List UInt8) (List T37D) × Tree (List UInt8) (List T37D) × Int × Int × Unit) =>
 Option.bind (F101 (b.1, b_2.1, b_3.2.2.1, ()))
 fun
 (b :
 Tree (List UInt8) (List T37D) × Unit) =>
 some b
 else
 bif decide (0 < b.1) then
 Option.bind
 (openN Ty.str
 (Ty.slice
 (Ty.pair (Ty.int IntKind.i64)
 (Ty.pair (Ty.int IntKind.i64)
 (Ty.pair (Ty.int IntKind.i64)
 (Ty.pair (Ty.int IntKind.i64)
 (Ty.pair Ty.str (Ty.pair (Ty.int IntKind.i64) (Ty.pair Ty.bool Ty.unit))))))))
 x.1)
 fun
 (_z :
 (List UInt8 × List T37D × Unit) × Tree (List UInt8) (List T37D) × Tree (List UInt8) (List T37D) × Int × Int × Unit) =>
 Option.bind
 (openN Ty.str
 (Ty.slice
 (Ty.pair (Ty.int IntKind.i64)
 (Ty.pair (Ty.int IntKind.i64)
 (Ty.pair (Ty.int IntKind.i64)
 (Ty.pair (Ty.int IntKind.i64)
 (Ty.pair Ty.str (Ty.pair (Ty.int IntKind.i64) (Ty.pair Ty.bool Ty.unit))))))))
 x.1)
 fun
 (b :
 (List UInt8 × List T37D × Unit) × Tree (List UInt8) (List T37D) × Tree (List UInt8) (List T37D) × Int × Int × Unit) =>
 Option.bind
 (openN Ty.str
 (Ty.slice
 (Ty.pair (Ty.int IntKind.i64)
 (Ty.pair (Ty.int IntKind.i64)
 (Ty.pair (Ty.int IntKind.i64)
 (Ty.pair (Ty.int IntKind.i64)
 (Ty.pair Ty.str (Ty.pair (Ty.int IntKind.i64) (Ty.pair Ty.bool Ty.unit))))))))
 x.1)
 fun
 (_z :
 (List UInt8 × List T37D × Unit) × Tree (List UInt8) (List T37D) × Tree (List UInt8) (List T37D) × Int × Int × Unit) =>
 Option.bind
 (openN Ty.str
 (Ty.slice
 (Ty.pair (Ty.int IntKind.i64)
 (Ty.pair (Ty.int IntKind.i64)
 (Ty.pair (Ty.int IntKind.i64)
 (Ty.pair (Ty.int IntKind.i64)
 (Ty.pair Ty.str (Ty.pair (Ty.int IntKind.i64) (Ty.pair Ty.bool Ty.unit))))))))
 x.1)
 fun
 (b_1 :
 (List UInt8 × List T37D × Unit) × Tree (List UInt8) (List T37D) × Tree (List UInt8) (List T37D) × Int × Int × Unit) =>
 Option.bind
 (openN Ty.str
 (Ty.slice
 (Ty.pair (Ty.int IntKind.i64)
 (Ty.pair (Ty.int IntKind.i64)
 (Ty.pair (Ty.int IntKind.i64)
 (Ty.pair (Ty.int IntKind.i64)
 (Ty.pair Ty.str (Ty.pair (Ty.int IntKind.i64) (Ty.pair Ty.bool Ty.unit))))))))
 x.1)
 fun
 (_z :
 (List UInt8 × List T37D × Unit) × Tree (List UInt8) (List T37D) × Tree (List UInt8) (List T37D) × Int × Int × Unit) =>
 Option.bind
 (openN Ty.str
 (Ty.slice
 (Ty.pair (Ty.int IntKind.i64)
 (Ty.pair (Ty.int IntKind.i64)
 (Ty.pair (Ty.int IntKind.i64)
 (Ty.pair (Ty.int IntKind.i64)
 (Ty.pair Ty.str (Ty.pair (Ty.int IntKind.i64) (Ty.pair Ty.bool Ty.unit))))))))
 x.1)
 fun
 (b_2 :
 (List UInt8 × List T37D × Unit) × Tree (List UInt8) (List T37D) × Tree (List UInt8) (List T37D) × Int × Int × Unit) =>
 Option.bind (F97 (b_2.2.2.1, x.2))
 fun
 (b_3 :
 Tree (List UInt8) (List T37D) × Unit) =>
 Option.bind (F101 (b.1, b_1.2.1, b_3))
 fun
 (b :
 Tree (List UInt8) (List T37D) × Unit) =>
 some b
 else
 Option.bind
 (openN Ty.str
 (Ty.slice
 (Ty.pair (Ty.int IntKind.i64)
 (Ty.pair (Ty.int IntKind.i64)
 (Ty.pair (Ty.int IntKind.i64)
 (Ty.pair (Ty.int IntKind.i64)
 (Ty.pair Ty.str (Ty.pair (Ty.int IntKind.i64) (Ty.pair Ty.bool Ty.unit))))))))
 x.1)
 fun
 (_z :
 (List UInt8 × List T37D × Unit) × Tree (List UInt8) (List T37D) × Tree (List UInt8) (List T37D) × Int × Int × Unit) =>
 Option.bind
 (openN Ty.str
 (Ty.slice
 (Ty.pair (Ty.int IntKind.i64)
 (Ty.pair (Ty.int IntKind.i64)
 (Ty.pair (Ty.int IntKind.i64)
 (Ty.pair (Ty.int IntKind.i64)
 (Ty.pair Ty.str (Ty.pair (Ty.int IntKind.i64) (Ty.pair Ty.bool Ty.unit))))))))
 x.1)
 fun
 (b :
 (List UInt8 × List T37D × Unit) × Tree (List UInt8) (List T37D) × Tree (List UInt8) (List T37D) × Int × Int × Unit) =>
 bif isLeaf b.2.2.1 then
 Option.bind
 (openN Ty.str
 (Ty.slice
 (Ty.pair (Ty.int IntKind.i64)
 (Ty.pair (Ty.int IntKind.i64)
 (Ty.pair (Ty.int IntKind.i64)
 (Ty.pair (Ty.int IntKind.i64)
 (Ty.pair Ty.str (Ty.pair (Ty.int IntKind.i64) (Ty.pair Ty.bool Ty.unit))))))))
 x.1)
 fun
 (_z :
 (List UInt8 × List T37D × Unit) × Tree (List UInt8) (List T37D) × Tree (List UInt8) (List T37D) × Int × Int × Unit) =>
 Option.bind
 (openN Ty.str
 (Ty.slice
 (Ty.pair (Ty.int IntKind.i64)
 (Ty.pair (Ty.int IntKind.i64)
 (Ty.pair (Ty.int IntKind.i64)
 (Ty.pair (Ty.int IntKind.i64)
 (Ty.pair Ty.str (Ty.pair (Ty.int IntKind.i64) (Ty.pair Ty.bool Ty.unit))))))))
 x.1)
 fun
 (b :
 (List UInt8 × List T37D × Unit) × Tree (List UInt8) (List T37D) × Tree (List UInt8) (List T37D) × Int × Int × Unit) =>
 some (b.2.1, ())
 else
 Option.bind
 (openN Ty.str
 (Ty.slice
 (Ty.pair (Ty.int IntKind.i64)
 (Ty.pair (Ty.int IntKind.i64)
 (Ty.pair (Ty.int IntKind.i64)
 (Ty.pair (Ty.int IntKind.i64)
 (Ty.pair Ty.str (Ty.pair (Ty.int IntKind.i64) (Ty.pair Ty.bool Ty.unit))))))))
 x.1)
 fun
 (_z :
 (List UInt8 × List T37D × Unit) × Tree (List UInt8) (List T37D) × Tree (List UInt8) (List T37D) × Int × Int × Unit) =>
 Option.bind
 (openN Ty.str
 (Ty.slice
 (Ty.pair (Ty.int IntKind.i64)
 (Ty.pair (Ty.int IntKind.i64)
 (Ty.pair (Ty.int IntKind.i64)
 (Ty.pair (Ty.int IntKind.i64)
 (Ty.pair Ty.str (Ty.pair (Ty.int IntKind.i64) (Ty.pair Ty.bool Ty.unit))))))))
 x.1)
 fun
 (b :
 (List UInt8 × List T37D × Unit) × Tree (List UInt8) (List T37D) × Tree (List UInt8) (List T37D) × Int × Int × Unit) =>
 Option.bind (F102 (b.2.2.1, ()))
 fun
 (b :
 (List UInt8 × List T37D × Unit) × Tree (List UInt8) (List T37D) × Unit) =>
 Option.bind
 (openN Ty.str
 (Ty.slice
 (Ty.pair (Ty.int IntKind.i64)
 (Ty.pair (Ty.int IntKind.i64)
 (Ty.pair (Ty.int IntKind.i64)
 (Ty.pair (Ty.int IntKind.i64)
 (Ty.pair Ty.str (Ty.pair (Ty.int IntKind.i64) (Ty.pair Ty.bool Ty.unit))))))))
 x.1)
 fun
 (_z :
 (List UInt8 × List T37D × Unit) × Tree (List UInt8) (List T37D) × Tree (List UInt8) (List T37D) × Int × Int × Unit) =>
 Option.bind
 (openN Ty.str
 (Ty.slice
 (Ty.pair (Ty.int IntKind.i64)
 (Ty.pair (Ty.int IntKind.i64)
 (Ty.pair (Ty.int IntKind.i64)
 (Ty.pair (Ty.int IntKind.i64)
 (Ty.pair Ty.str (Ty.pair (Ty.int IntKind.i64) (Ty.pair Ty.bool Ty.unit))))))))
 x.1)
 fun
 (b_1 :
 (List UInt8 × List T37D × Unit) × Tree (List UInt8) (List T37D) × Tree (List UInt8) (List T37D) × Int × Int × Unit) =>
 Option.bind (F101 (b.1, b_1.2.1, b.2))
 fun
 (b :
 Tree (List UInt8) (List T37D) × Unit) =>
 some b
noncomputable def E97r (F97 : T28D × List UInt8 × Unit → Option (T28D × Unit)) : Env := { tab := tab, nt := 76, Γ := lookG [(81, [S81]), (97, [⟨P97, R97, F97⟩]), (101, [S101]), (102, [S102])], joins := lookN [], loops := lookN [] }
theorem raw97_eq (F97 : T28D × List UInt8 × Unit → Option (T28D × Unit)) (x : T28D × List UInt8 × Unit) : afun (E97r F97) Try.f97 P97 R97 x = F97s F97 x := by kernel_rfl
def F97 : T28D × List UInt8 × Unit → Option (T28D × Unit) := recF F97s big
def S97 : Sig := ⟨P97, R97, F97⟩
-- (decamp/order.Map[string, []decamp/api.Ver]).Del
def F89 (x : T30D × List UInt8 × Unit) : Option (T30D × Unit) :=
 Option.bind (F52 x) fun (b : List T37D × Bool × Unit) =>
 bif !b.2.1 then some (x.1, ())
 else
 Option.bind (F97 (x.1.1, x.2))
 fun (b : Tree (List UInt8) (List T37D) × Unit) =>
 some (b, ())
def S89 : Sig := ⟨P89, R89, F89⟩
noncomputable def E89 : Env := { tab := tab, nt := 21, Γ := lookG [(52, [S52]), (97, [S97])], joins := lookN [], loops := lookN [] }
theorem raw89_eq (x : T30D × List UInt8 × Unit) : afun E89 Try.f89 P89 R89 x = F89 x := by kernel_rfl
-- (*decamp/order.node[string, []decamp/api.Ver]).put
def F98s (F98 : T28D × T51D × Unit → Option (T28D × Unit)) (x : T28D × T51D × Unit) : Option (T28D × Unit) :=
 bif isLeaf x.1 then
 Option.bind (F103 (x.2.1, Tree.leaf, Tree.leaf, ()))
 fun (b : Tree (List UInt8) (List T37D) × Unit) => some b
 else
 Option.bind
 (openN Ty.str
 (Ty.slice
 (Ty.pair (Ty.int IntKind.i64)
 (Ty.pair (Ty.int IntKind.i64)
 (Ty.pair (Ty.int IntKind.i64)
 (Ty.pair (Ty.int IntKind.i64)
 (Ty.pair Ty.str (Ty.pair (Ty.int IntKind.i64) (Ty.pair Ty.bool Ty.unit))))))))
 x.1)
 fun
 (_z :
 (List UInt8 × List T37D × Unit) × Tree (List UInt8) (List T37D) × Tree (List UInt8) (List T37D) × Int × Int × Unit) =>
 Option.bind
 (openN Ty.str
 (Ty.slice
 (Ty.pair (Ty.int IntKind.i64)
 (Ty.pair (Ty.int IntKind.i64)
 (Ty.pair (Ty.int IntKind.i64)
 (Ty.pair (Ty.int IntKind.i64)
 (Ty.pair Ty.str (Ty.pair (Ty.int IntKind.i64) (Ty.pair Ty.bool Ty.unit))))))))
 x.1)
 fun
 (b :
 (List UInt8 × List T37D × Unit) × Tree (List UInt8) (List T37D) × Tree (List UInt8) (List T37D) × Int × Int × Unit) =>
 Option.bind (F81 (x.2.1.1, b.1.1, ())) fun (b : Int × Unit) =>
 bif decide (b.1 < 0) then
 Option.bind
 (openN Ty.str
 (Ty.slice
 (Ty.pair (Ty.int IntKind.i64)
 (Ty.pair (Ty.int IntKind.i64)
 (Ty.pair (Ty.int IntKind.i64)
 (Ty.pair (Ty.int IntKind.i64)
 (Ty.pair Ty.str (Ty.pair (Ty.int IntKind.i64) (Ty.pair Ty.bool Ty.unit))))))))
 x.1)
 fun
 (_z :
 (List UInt8 × List T37D × Unit) × Tree (List UInt8) (List T37D) × Tree (List UInt8) (List T37D) × Int × Int × Unit) =>
 Option.bind
 (openN Ty.str
 (Ty.slice
 (Ty.pair (Ty.int IntKind.i64)
 (Ty.pair (Ty.int IntKind.i64)
 (Ty.pair (Ty.int IntKind.i64)
 (Ty.pair (Ty.int IntKind.i64)
 (Ty.pair Ty.str (Ty.pair (Ty.int IntKind.i64) (Ty.pair Ty.bool Ty.unit))))))))
 x.1)
 fun
 (b :
 (List UInt8 × List T37D × Unit) × Tree (List UInt8) (List T37D) × Tree (List UInt8) (List T37D) × Int × Int × Unit) =>
 Option.bind
 (openN Ty.str
 (Ty.slice
 (Ty.pair (Ty.int IntKind.i64)
 (Ty.pair (Ty.int IntKind.i64)
 (Ty.pair (Ty.int IntKind.i64)
 (Ty.pair (Ty.int IntKind.i64)
 (Ty.pair Ty.str (Ty.pair (Ty.int IntKind.i64) (Ty.pair Ty.bool Ty.unit))))))))
 x.1)
 fun
 (_z :
 (List UInt8 × List T37D × Unit) × Tree (List UInt8) (List T37D) × Tree (List UInt8) (List T37D) × Int × Int × Unit) =>
 Option.bind
 (openN Ty.str
 (Ty.slice
 (Ty.pair (Ty.int IntKind.i64)
 (Ty.pair (Ty.int IntKind.i64)
 (Ty.pair (Ty.int IntKind.i64)
 (Ty.pair (Ty.int IntKind.i64)
 (Ty.pair Ty.str (Ty.pair (Ty.int IntKind.i64) (Ty.pair Ty.bool Ty.unit))))))))
 x.1)
 fun
 (b_1 :
 (List UInt8 × List T37D × Unit) × Tree (List UInt8) (List T37D) × Tree (List UInt8) (List T37D) × Int × Int × Unit) =>
 Option.bind (F98 (b_1.2.1, x.2))
 fun
 (b_2 :
 Tree (List UInt8) (List T37D) × Unit) =>
 Option.bind
 (openN Ty.str
 (Ty.slice
 (Ty.pair (Ty.int IntKind.i64)
 (Ty.pair (Ty.int IntKind.i64)
 (Ty.pair (Ty.int IntKind.i64)
 (Ty.pair (Ty.int IntKind.i64)
 (Ty.pair Ty.str (Ty.pair (Ty.int IntKind.i64) (Ty.pair Ty.bool Ty.unit))))))))
 x.1)
 fun
 (_z :
 (List UInt8 × List T37D × Unit) × Tree (List UInt8) (List T37D) × Tree (List UInt8) (List T37D) × Int × Int × Unit) =>
 Option.bind
 (openN Ty.str
 (Ty.slice
 (Ty.pair (Ty.int IntKind.i64)
 (Ty.pair (Ty.int IntKind.i64)
 (Ty.pair (Ty.int IntKind.i64)
 (Ty.pair (Ty.int IntKind.i64)
 (Ty.pair Ty.str (Ty.pair (Ty.int IntKind.i64) (Ty.pair Ty.bool Ty.unit))))))))
 x.1)
 fun
 (b_3 :
 (List UInt8 × List T37D × Unit) × Tree (List UInt8) (List T37D) × Tree (List UInt8) (List T37D) × Int × Int × Unit) =>
 Option.bind (F101 (b.1, b_2.1, b_3.2.2.1, ()))
 fun
 (b :
 Tree (List UInt8) (List T37D) × Unit) =>
 some b
 else
 bif decide (0 < b.1) then
 Option.bind
 (openN Ty.str
 (Ty.slice
 (Ty.pair (Ty.int IntKind.i64)
 (Ty.pair (Ty.int IntKind.i64)
 (Ty.pair (Ty.int IntKind.i64)
 (Ty.pair (Ty.int IntKind.i64)
 (Ty.pair Ty.str (Ty.pair (Ty.int IntKind.i64) (Ty.pair Ty.bool Ty.unit))))))))
 x.1)
 fun
 (_z :
 (List UInt8 × List T37D × Unit) × Tree (List UInt8) (List T37D) × Tree (List UInt8) (List T37D) × Int × Int × Unit) =>
 Option.bind
 (openN Ty.str
 (Ty.slice
 (Ty.pair (Ty.int IntKind.i64)
 (Ty.pair (Ty.int IntKind.i64)
 (Ty.pair (Ty.int IntKind.i64)
 (Ty.pair (Ty.int IntKind.i64)
 (Ty.pair Ty.str (Ty.pair (Ty.int IntKind.i64) (Ty.pair Ty.bool Ty.unit))))))))
 x.1)
 fun
 (b :
 (List UInt8 × List T37D × Unit) × Tree (List UInt8) (List T37D) × Tree (List UInt8) (List T37D) × Int × Int × Unit) =>
 Option.bind
 (openN Ty.str
 (Ty.slice
 (Ty.pair (Ty.int IntKind.i64)
 (Ty.pair (Ty.int IntKind.i64)
 (Ty.pair (Ty.int IntKind.i64)
 (Ty.pair (Ty.int IntKind.i64)
 (Ty.pair Ty.str (Ty.pair (Ty.int IntKind.i64) (Ty.pair Ty.bool Ty.unit))))))))
 x.1)
 fun
 (_z :
 (List UInt8 × List T37D × Unit) × Tree (List UInt8) (List T37D) × Tree (List UInt8) (List T37D) × Int × Int × Unit) =>
 Option.bind
 (openN Ty.str
 (Ty.slice
 (Ty.pair (Ty.int IntKind.i64)
 (Ty.pair (Ty.int IntKind.i64)
 (Ty.pair (Ty.int IntKind.i64)
 (Ty.pair (Ty.int IntKind.i64)
 (Ty.pair Ty.str (Ty.pair (Ty.int IntKind.i64) (Ty.pair Ty.bool Ty.unit))))))))
 x.1)
 fun
 (b_1 :
 (List UInt8 × List T37D × Unit) × Tree (List UInt8) (List T37D) × Tree (List UInt8) (List T37D) × Int × Int × Unit) =>
 Option.bind
 (openN Ty.str
 (Ty.slice
 (Ty.pair (Ty.int IntKind.i64)
 (Ty.pair (Ty.int IntKind.i64)
 (Ty.pair (Ty.int IntKind.i64)
 (Ty.pair (Ty.int IntKind.i64)
 (Ty.pair Ty.str (Ty.pair (Ty.int IntKind.i64) (Ty.pair Ty.bool Ty.unit))))))))
 x.1)
 fun
 (_z :
 (List UInt8 × List T37D × Unit) × Tree (List UInt8) (List T37D) × Tree (List UInt8) (List T37D) × Int × Int × Unit) =>
 Option.bind
 (openN Ty.str
 (Ty.slice
 (Ty.pair (Ty.int IntKind.i64)
 (Ty.pair (Ty.int IntKind.i64)
 (Ty.pair (Ty.int IntKind.i64)
 (Ty.pair (Ty.int IntKind.i64)
 (Ty.pair Ty.str (Ty.pair (Ty.int IntKind.i64) (Ty.pair Ty.bool Ty.unit))))))))
 x.1)
 fun
 (b_2 :
 (List UInt8 × List T37D × Unit) × Tree (List UInt8) (List T37D) × Tree (List UInt8) (List T37D) × Int × Int × Unit) =>
 Option.bind (F98 (b_2.2.2.1, x.2))
 fun
 (b_3 :
 Tree (List UInt8) (List T37D) × Unit) =>
 Option.bind (F101 (b.1, b_1.2.1, b_3))
 fun
 (b :
 Tree (List UInt8) (List T37D) × Unit) =>
 some b
 else
 Option.bind
 (openN Ty.str
 (Ty.slice
 (Ty.pair (Ty.int IntKind.i64)
 (Ty.pair (Ty.int IntKind.i64)
 (Ty.pair (Ty.int IntKind.i64)
 (Ty.pair (Ty.int IntKind.i64)
 (Ty.pair Ty.str (Ty.pair (Ty.int IntKind.i64) (Ty.pair Ty.bool Ty.unit))))))))
 x.1)
 fun
 (_z :
 (List UInt8 × List T37D × Unit) × Tree (List UInt8) (List T37D) × Tree (List UInt8) (List T37D) × Int × Int × Unit) =>
 Option.bind
 (openN Ty.str
 (Ty.slice
 (Ty.pair (Ty.int IntKind.i64)
 (Ty.pair (Ty.int IntKind.i64)
 (Ty.pair (Ty.int IntKind.i64)
 (Ty.pair (Ty.int IntKind.i64)
 (Ty.pair Ty.str (Ty.pair (Ty.int IntKind.i64) (Ty.pair Ty.bool Ty.unit))))))))
 x.1)
 fun
 (b :
 (List UInt8 × List T37D × Unit) × Tree (List UInt8) (List T37D) × Tree (List UInt8) (List T37D) × Int × Int × Unit) =>
 Option.bind
 (openN Ty.str
 (Ty.slice
 (Ty.pair (Ty.int IntKind.i64)
 (Ty.pair (Ty.int IntKind.i64)
 (Ty.pair (Ty.int IntKind.i64)
 (Ty.pair (Ty.int IntKind.i64)
 (Ty.pair Ty.str (Ty.pair (Ty.int IntKind.i64) (Ty.pair Ty.bool Ty.unit))))))))
 x.1)
 fun
 (_z :
 (List UInt8 × List T37D × Unit) × Tree (List UInt8) (List T37D) × Tree (List UInt8) (List T37D) × Int × Int × Unit) =>
 Option.bind
 (openN Ty.str
 (Ty.slice
 (Ty.pair (Ty.int IntKind.i64)
 (Ty.pair (Ty.int IntKind.i64)
 (Ty.pair (Ty.int IntKind.i64)
 (Ty.pair (Ty.int IntKind.i64)
 (Ty.pair Ty.str (Ty.pair (Ty.int IntKind.i64) (Ty.pair Ty.bool Ty.unit))))))))
 x.1)
 fun
 (b_1 :
 (List UInt8 × List T37D × Unit) × Tree (List UInt8) (List T37D) × Tree (List UInt8) (List T37D) × Int × Int × Unit) =>
 Option.bind (F103 (x.2.1, b.2.1, b_1.2.2.1, ()))
 fun
 (b :
 Tree (List UInt8) (List T37D) × Unit) =>
 some b
noncomputable def E98r (F98 : T28D × T51D × Unit → Option (T28D × Unit)) : Env := { tab := tab, nt := 64, Γ := lookG [(81, [S81]), (98, [⟨P98, R98, F98⟩]), (101, [S101]), (103, [S103])], joins := lookN [], loops := lookN [] }
theorem raw98_eq (F98 : T28D × T51D × Unit → Option (T28D × Unit)) (x : T28D × T51D × Unit) : afun (E98r F98) Try.f98 P98 R98 x = F98s F98 x := by kernel_rfl
def F98 : T28D × T51D × Unit → Option (T28D × Unit) := recF F98s big
def S98 : Sig := ⟨P98, R98, F98⟩
-- (decamp/order.Map[string, []decamp/api.Ver]).Put
def F90 (x : T30D × List UInt8 × List T37D × Unit) : Option (T30D × Unit) :=
 Option.bind (F98 (x.1.1, x.2, ()))
 fun (b : Tree (List UInt8) (List T37D) × Unit) =>
 some (b, ())
def S90 : Sig := ⟨P90, R90, F90⟩
noncomputable def E90 : Env := { tab := tab, nt := 14, Γ := lookG [(98, [S98])], joins := lookN [], loops := lookN [] }
theorem raw90_eq (x : T30D × List UInt8 × List T37D × Unit) : afun E90 Try.f90 P90 R90 x = F90 x := by kernel_rfl
-- (decamp/index.Index).put
def F69 (x : T32D × List UInt8 × List T37D × Unit) : Option (T32D × Unit) :=
 bif decide (Int.ofNat (List.length x.2.2.1) = 0) then
 Option.bind (F89 (x.1.1, x.2.1, ()))
 fun (b : (Tree (List UInt8) (List T37D) × Unit) × Unit) =>
 some (b, ())
 else
 Option.bind (F90 (x.1.1, x.2))
 fun (b : (Tree (List UInt8) (List T37D) × Unit) × Unit) =>
 some (b, ())
def S69 : Sig := ⟨P69, R69, F69⟩
noncomputable def E69 : Env := { tab := tab, nt := 21, Γ := lookG [(89, [S89]), (90, [S90])], joins := lookN [], loops := lookN [] }
theorem raw69_eq (x : T32D × List UInt8 × List T37D × Unit) : afun E69 Try.f69 P69 R69 x = F69 x := by kernel_rfl
-- (decamp/index.Index).changed
def F74 (x : T32D × List UInt8 × List T37D × Int × Unit) : Option (T32D × Int × Unit) :=
 Option.bind
 (Option.bind (F14 (x.2.1, ())) fun (b : Bool × Unit) =>
 bif !b.1 then some (Sum.inl (1, ())) else some (Sum.inl x.2.2.2))
 fun
 (o :
 Int × Unit ⊕ ((Tree (List UInt8) (List T37D) × Unit) × Unit) × Int × Unit) =>
 Sum.elim
 (fun (x_1 : Int × Unit) =>
 bif !decide (x_1.1 = 0) then some (((Tree.leaf, ()), ()), x_1)
 else
 Option.bind (F69 (x.1, x.2.1, x.2.2.1, ()))
 fun
 (b :
 ((Tree (List UInt8) (List T37D) × Unit) × Unit) × Unit) =>
 some (b.1, 0, ()))
 (fun
 (val :
 ((Tree (List UInt8) (List T37D) × Unit) × Unit) × Int × Unit) =>
 some val)
 o
def S74 : Sig := ⟨P74, R74, F74⟩
noncomputable def E74 : Env := { tab := tab, nt := 21, Γ := lookG [(14, [S14]), (69, [S69])], joins := lookN [(3, ⟨[⟨.slot 3, (.int .i64), .pv⟩], [1, 2, 4, 8], [.site 2000, .fld 2000 0, .site 1000, .fld 1000 0]⟩)], loops := lookN [] }
theorem raw74_eq (x : T32D × List UInt8 × List T37D × Int × Unit) : afun E74 Try.f74 P74 R74 x = F74 x := by kernel_rfl
-- (decamp/index.Index).Put
def F43 (x : T32D × List UInt8 × Int × Int × List UInt8 × Int × Unit) : Option (T32D × Int × Unit) :=
 Option.bind (F52 (x.1.1, x.2.1, ()))
 fun (b : List T37D × Bool × Unit) =>
 Option.bind (F73 (b.1, x.2.2))
 fun (b : List T37D × Int × Unit) =>
 Option.bind (F74 (x.1, x.2.1, b))
 fun
 (b :
 ((Tree (List UInt8) (List T37D) × Unit) × Unit) × Int × Unit) =>
 some b
def S43 : Sig := ⟨P43, R43, F43⟩
noncomputable def E43 : Env := { tab := tab, nt := 41, Γ := lookG [(52, [S52]), (73, [S73]), (74, [S74])], joins := lookN [], loops := lookN [] }
theorem raw43_eq (x : T32D × List UInt8 × Int × Int × List UInt8 × Int × Unit) : afun E43 Try.f43 P43 R43 x = F43 x := by kernel_rfl
-- decamp/decamplaw15.awake
def F13 (x : Unit) : Option (Bool × Unit) :=
 Option.bind (F43 (((Tree.leaf, ()), ()), [97], 5, 5, [118], 0, ()))
 fun
 (b :
 ((Tree (List UInt8) (List T37D) × Unit) × Unit) × Int × Unit) =>
 Option.bind (F24 (b.1, [97], ()))
 fun (b_1 : T37D × Bool × Unit) =>
 bif decide (b.2.1 = 0) then
 bif b_1.2.1 then
 bif decide (b_1.1.2.2.2.2.1 = [118]) then
 Option.bind (F14 ([97], ())) fun (b : Bool × Unit) =>
 bif b.1 then
 Option.bind (F14 ([97, 32, 98], ())) fun (b : Bool × Unit) => some (!b.1, ())
 else some (false, ())
 else some (false, ())
 else some (false, ())
 else some (false, ())
def S13 : Sig := ⟨P13, R13, F13⟩
noncomputable def E13 : Env := { tab := tab, nt := 33, Γ := lookG [(14, [S14]), (24, [S24]), (43, [S43])], joins := lookN [], loops := lookN [] }
theorem raw13_eq (x : Unit) : afun E13 Try.f13 P13 R13 x = F13 x := by kernel_rfl
-- decamp/decampref15.text
def F45 (x : List UInt8 × UInt8 × Unit) : Option (Bool × Unit) :=
 iterE (Int × Unit) (Bool × Unit)
 (fun (x_1 : Int × Unit) =>
 bif decide (x_1.1 < Int.ofNat (List.length x.1)) then
 Option.bind (idx x.1 x_1.1) fun (b : UInt8) =>
 bif decide (intOf8 b < intOf8 (UInt8.ofNat 33)) then some (Sum.inr (false, ()))
 else
 Option.bind (idx x.1 x_1.1) fun (b : UInt8) =>
 bif decide (intOf8 x.2.1 < intOf8 b) then some (Sum.inr (false, ()))
 else some (Sum.inl (wrap64 (x_1.1 + 1), ()))
 else
 Option.map Sum.inr
 (bif decide (1 ≤ Int.ofNat (List.length x.1)) then
 some (decide (Int.ofNat (List.length x.1) ≤ 32), ())
 else some (false, ())))
 big (0, ())
def S45 : Sig := ⟨P45, R45, F45⟩
noncomputable def E45 : Env := { tab := tab, nt := 31, Γ := lookG [], joins := lookN [], loops := lookN [(2, mkLoop ⟨[⟨.slot 8, (.int .i64), .pv⟩], [0, 1, 7], []⟩)] }
theorem raw45_eq (x : List UInt8 × UInt8 × Unit) : afun E45 Try.f45 P45 R45 x = F45 x := by kernel_rfl
-- decamp/decampref15.Key
def F15 (x : List UInt8 × Unit) : Option (Bool × Unit) := Option.bind (F45 (x.1, UInt8.ofNat 126, ())) fun (b : Bool × Unit) => some b
def S15 : Sig := ⟨P15, R15, F15⟩
noncomputable def E15 : Env := { tab := tab, nt := 5, Γ := lookG [(45, [S45])], joins := lookN [], loops := lookN [] }
theorem raw15_eq (x : List UInt8 × Unit) : afun E15 Try.f15 P15 R15 x = F15 x := by kernel_rfl
-- decamp/index.Range
def F16 (x : List UInt8 × List UInt8 × Unit) : Option (Bool × Unit) :=
 Option.bind (F14 (x.1, ())) fun (b : Bool × Unit) =>
 bif b.1 then
 bif decide (x.2.1 = []) then some (true, ())
 else
 Option.bind (F44 (x.2.1, UInt8.ofNat 127, ())) fun (b : Bool × Unit) =>
 bif b.1 then some (!(strlt x.2.1 x.1 || decide (x.2.1 = x.1)), ())
 else some (false, ())
 else some (false, ())
def S16 : Sig := ⟨P16, R16, F16⟩
noncomputable def E16 : Env := { tab := tab, nt := 20, Γ := lookG [(14, [S14]), (44, [S44])], joins := lookN [], loops := lookN [] }
theorem raw16_eq (x : List UInt8 × List UInt8 × Unit) : afun E16 Try.f16 P16 R16 x = F16 x := by kernel_rfl
-- decamp/decampref15.Range
def F17 (x : List UInt8 × List UInt8 × Unit) : Option (Bool × Unit) :=
 Option.bind (F15 (x.1, ())) fun (b : Bool × Unit) =>
 bif b.1 then
 bif decide (Int.ofNat (List.length x.2.1) = 0) then some (true, ())
 else
 Option.bind (F45 (x.2.1, UInt8.ofNat 127, ())) fun (b : Bool × Unit) =>
 bif b.1 then some (strlt x.1 x.2.1, ()) else some (false, ())
 else some (false, ())
def S17 : Sig := ⟨P17, R17, F17⟩
noncomputable def E17 : Env := { tab := tab, nt := 21, Γ := lookG [(15, [S15]), (45, [S45])], joins := lookN [], loops := lookN [] }
theorem raw17_eq (x : List UInt8 × List UInt8 × Unit) : afun E17 Try.f17 P17 R17 x = F17 x := by kernel_rfl
-- decamp/index.In
def F18 (x : List UInt8 × List UInt8 × List UInt8 × Unit) : Option (Bool × Unit) :=
 Option.bind (F16 (x.1, x.2.1, ())) fun (b : Bool × Unit) =>
 bif !b.1 then some (false, ())
 else
 Option.bind (F14 x.2.2) fun (b : Bool × Unit) =>
 bif !b.1 then some (false, ())
 else
 bif decide (x.2.2.1 = x.1) then some (true, ())
 else
 bif !(strlt x.2.2.1 x.1 || decide (x.2.2.1 = x.1)) then
 some (strlt x.2.2.1 x.2.1, ())
 else some (false, ())
-- decamp/decampref15.In
def F19 (x : List UInt8 × List UInt8 × List UInt8 × Unit) : Option (Bool × Unit) :=
 Option.bind (F17 (x.1, x.2.1, ())) fun (b : Bool × Unit) =>
 bif !b.1 then some (false, ())
 else
 Option.bind (F15 x.2.2) fun (b : Bool × Unit) =>
 bif !b.1 then some (false, ())
 else
 bif decide (Int.ofNat (List.length x.2.1) = 0) then some (decide (x.2.2.1 = x.1), ())
 else
 bif !strlt x.2.2.1 x.1 then some (strlt x.2.2.1 x.2.1, ())
 else some (false, ())
def S19 : Sig := ⟨P19, R19, F19⟩
noncomputable def E19 : Env := { tab := tab, nt := 30, Γ := lookG [(15, [S15]), (17, [S17])], joins := lookN [], loops := lookN [] }
theorem raw19_eq (x : List UInt8 × List UInt8 × List UInt8 × Unit) : afun E19 Try.f19 P19 R19 x = F19 x := by kernel_rfl
-- decamp/decamplaw15.IndexKeys
def F3 (x : List UInt8 × List UInt8 × List UInt8 × Unit) : Option (Bool × Unit) :=
 Option.bind (F13 ()) fun (b : Bool × Unit) =>
 bif !b.1 then Option.bind (F13 ()) fun (b : Bool × Unit) => some b
 else
 bif
 decide
 (500 <
 wrap64
 (wrap64 (Int.ofNat (List.length x.1) + Int.ofNat (List.length x.2.1)) +
 Int.ofNat (List.length x.2.2.1))) then
 Option.bind (F13 ()) fun (b : Bool × Unit) => some b
 else
 Option.bind (F14 x.2.2) fun (b : Bool × Unit) =>
 Option.bind (F15 x.2.2) fun (b_1 : Bool × Unit) =>
 bif b.1 == b_1.1 then
 Option.bind (F16 (x.1, x.2.1, ())) fun (b : Bool × Unit) =>
 Option.bind (F17 (x.1, x.2.1, ())) fun (b_2 : Bool × Unit) =>
 bif b.1 == b_2.1 then
 Option.bind (F18 x) fun (b : Bool × Unit) =>
 Option.bind (F19 x) fun (b_3 : Bool × Unit) => some (b.1 == b_3.1, ())
 else some (false, ())
 else some (false, ())
def S3 : Sig := ⟨P3, R3, F3⟩
-- decamp/decamplaw15.few
def F20 (x : List T39D × Int × Unit) : Option (Bool × Unit) :=
 iterE (Int × Unit) (Bool × Unit)
 (fun (x_1 : Int × Unit) =>
 bif decide (x_1.1 < Int.ofNat (List.length x.1)) then
 bif decide (x.2.1 ≤ x_1.1) then some (Sum.inr (false, ()))
 else
 Option.bind (idx x.1 x_1.1)
 fun
 (b :
 T39D) =>
 bif decide (100 < Int.ofNat (List.length b.2.2.2.2.2.1)) then some (Sum.inr (false, ()))
 else
 Option.bind (idx x.1 x_1.1)
 fun
 (b :
 T39D) =>
 bif decide (100 < Int.ofNat (List.length b.2.2.2.2.2.2.2.1.2.2.2.2.1)) then
 some (Sum.inr (false, ()))
 else
 Option.bind (idx x.1 x_1.1)
 fun
 (b :
 T39D) =>
 bif decide (100 < Int.ofNat (List.length b.2.1)) then some (Sum.inr (false, ()))
 else
 Option.bind (idx x.1 x_1.1)
 fun
 (b :
 T39D) =>
 bif decide (100 < Int.ofNat (List.length b.2.2.1)) then some (Sum.inr (false, ()))
 else some (Sum.inl (wrap64 (x_1.1 + 1), ()))
 else some (Sum.inr (true, ())))
 big (0, ())
def S20 : Sig := ⟨P20, R20, F20⟩
noncomputable def E20 : Env := { tab := tab, nt := 52, Γ := lookG [], joins := lookN [], loops := lookN [(2, mkLoop ⟨[⟨.slot 8, (.int .i64), .pv⟩], [0, 1, 7], []⟩)] }
theorem raw20_eq (x : List T39D × Int × Unit) : afun E20 Try.f20 P20 R20 x = F20 x := by kernel_rfl
-- (decamp/order.Map[string, []decamp/api.Ver]).All$1
def F83 (x : T51D × Unit) : Option (Unit) := none
def S83 : Sig := ⟨P83, R83, F83⟩
noncomputable def E83 : Env := { tab := tab, nt := 7, Γ := lookG [], joins := lookN [], loops := lookN [] }
theorem raw83_eq (x : T51D × Unit) : afun E83 Try.f83 P83 R83 x = F83 x := by kernel_rfl
-- (decamp/order.Map[string, []decamp/api.Ver]).All$1
def F83a (x : T51D × (List T51D × Unit) × Unit) : Option ((List T51D × Unit) × Unit) :=
 Option.bind (appO x.2.1.1 [x.1])
 fun (b : List (List UInt8 × List T37D × Unit)) =>
 some ((b, ()), ())
def S83a : Sig := ⟨P83a, R83a, F83a⟩
noncomputable def E83a : Env := { tab := tab, nt := 7, Γ := lookG [], joins := lookN [], loops := lookN [] }
theorem raw83a_eq (x : T51D × (List T51D × Unit) × Unit) : afun E83a Try.f83 P83a R83a x = F83a x := by kernel_rfl
-- (*decamp/order.node[string, []decamp/api.Ver]).each
def F82as (F82a : T28D × (List T51D × Unit) × Unit → Option ((List T51D × Unit) × Unit)) (x : T28D × (List T51D × Unit) × Unit) : Option ((List T51D × Unit) × Unit) :=
 bif !isLeaf x.1 then
 Option.bind
 (openN Ty.str
 (Ty.slice
 (Ty.pair (Ty.int IntKind.i64)
 (Ty.pair (Ty.int IntKind.i64)
 (Ty.pair (Ty.int IntKind.i64)
 (Ty.pair (Ty.int IntKind.i64)
 (Ty.pair Ty.str (Ty.pair (Ty.int IntKind.i64) (Ty.pair Ty.bool Ty.unit))))))))
 x.1)
 fun
 (_z :
 (List UInt8 × List T37D × Unit) × Tree (List UInt8) (List T37D) × Tree (List UInt8) (List T37D) × Int × Int × Unit) =>
 Option.bind
 (openN Ty.str
 (Ty.slice
 (Ty.pair (Ty.int IntKind.i64)
 (Ty.pair (Ty.int IntKind.i64)
 (Ty.pair (Ty.int IntKind.i64)
 (Ty.pair (Ty.int IntKind.i64)
 (Ty.pair Ty.str (Ty.pair (Ty.int IntKind.i64) (Ty.pair Ty.bool Ty.unit))))))))
 x.1)
 fun
 (b :
 (List UInt8 × List T37D × Unit) × Tree (List UInt8) (List T37D) × Tree (List UInt8) (List T37D) × Int × Int × Unit) =>
 Option.bind (F82a (b.2.1, x.2))
 fun
 (b :
 (List (List UInt8 × List T37D × Unit) × Unit) × Unit) =>
 Option.bind
 (openN Ty.str
 (Ty.slice
 (Ty.pair (Ty.int IntKind.i64)
 (Ty.pair (Ty.int IntKind.i64)
 (Ty.pair (Ty.int IntKind.i64)
 (Ty.pair (Ty.int IntKind.i64)
 (Ty.pair Ty.str (Ty.pair (Ty.int IntKind.i64) (Ty.pair Ty.bool Ty.unit))))))))
 x.1)
 fun
 (_z :
 (List UInt8 × List T37D × Unit) × Tree (List UInt8) (List T37D) × Tree (List UInt8) (List T37D) × Int × Int × Unit) =>
 Option.bind
 (openN Ty.str
 (Ty.slice
 (Ty.pair (Ty.int IntKind.i64)
 (Ty.pair (Ty.int IntKind.i64)
 (Ty.pair (Ty.int IntKind.i64)
 (Ty.pair (Ty.int IntKind.i64)
 (Ty.pair Ty.str (Ty.pair (Ty.int IntKind.i64) (Ty.pair Ty.bool Ty.unit))))))))
 x.1)
 fun
 (b_1 :
 (List UInt8 × List T37D × Unit) × Tree (List UInt8) (List T37D) × Tree (List UInt8) (List T37D) × Int × Int × Unit) =>
 Option.bind (F83a (b_1.1, b))
 fun
 (b :
 (List (List UInt8 × List T37D × Unit) × Unit) × Unit) =>
 Option.bind
 (openN Ty.str
 (Ty.slice
 (Ty.pair (Ty.int IntKind.i64)
 (Ty.pair (Ty.int IntKind.i64)
 (Ty.pair (Ty.int IntKind.i64)
 (Ty.pair (Ty.int IntKind.i64)
 (Ty.pair Ty.str (Ty.pair (Ty.int IntKind.i64) (Ty.pair Ty.bool Ty.unit))))))))
 x.1)
 fun
 (_z :
 (List UInt8 × List T37D × Unit) × Tree (List UInt8) (List T37D) × Tree (List UInt8) (List T37D) × Int × Int × Unit) =>
 Option.bind
 (openN Ty.str
 (Ty.slice
 (Ty.pair (Ty.int IntKind.i64)
 (Ty.pair (Ty.int IntKind.i64)
 (Ty.pair (Ty.int IntKind.i64)
 (Ty.pair (Ty.int IntKind.i64)
 (Ty.pair Ty.str (Ty.pair (Ty.int IntKind.i64) (Ty.pair Ty.bool Ty.unit))))))))
 x.1)
 fun
 (b_2 :
 (List UInt8 × List T37D × Unit) × Tree (List UInt8) (List T37D) × Tree (List UInt8) (List T37D) × Int × Int × Unit) =>
 Option.bind (F82a (b_2.2.2.1, b))
 fun
 (b :
 (List (List UInt8 × List T37D × Unit) × Unit) × Unit) =>
 some b
 else some x.2
noncomputable def E82ar (F82a : T28D × (List T51D × Unit) × Unit → Option ((List T51D × Unit) × Unit)) : Env := { tab := tab, nt := 24, Γ := lookG [(82, [⟨P82a, R82a, F82a⟩]), (83, [S83, S83a])], joins := lookN [], loops := lookN [] }
theorem raw82a_eq (F82a : T28D × (List T51D × Unit) × Unit → Option ((List T51D × Unit) × Unit)) (x : T28D × (List T51D × Unit) × Unit) : afun (E82ar F82a) Try.f82 P82a R82a x = F82as F82a x := by kernel_rfl
def F82a : T28D × (List T51D × Unit) × Unit → Option ((List T51D × Unit) × Unit) := recF F82as big
def S82a : Sig := ⟨P82a, R82a, F82a⟩
-- (decamp/order.Map[string, []decamp/api.Ver]).All
def F56 (x : T30D × Unit) : Option (List T51D × Unit) :=
 Option.bind (F82a (x.1.1, ([], ()), ()))
 fun
 (b :
 (List (List UInt8 × List T37D × Unit) × Unit) × Unit) =>
 some b.1
def S56 : Sig := ⟨P56, R56, F56⟩
noncomputable def E56 : Env := { tab := tab, nt := 9, Γ := lookG [(82, [S82a]), (83, [S83, S83a])], joins := lookN [], loops := lookN [] }
theorem raw56_eq (x : T30D × Unit) : afun E56 Try.f56 P56 R56 x = F56 x := by kernel_rfl
-- (decamp/index.Index).All
def F27 (x : T32D × Unit) : Option (List T51D × Unit) :=
 Option.bind (F56 x.1)
 fun (b : List (List UInt8 × List T37D × Unit) × Unit) =>
 iterE (List (List UInt8 × List T37D × Unit) × Int × Unit)
 (List (List UInt8 × List T37D × Unit) × Unit)
 (fun
 (x :
 List (List UInt8 × List T37D × Unit) × Int × Unit) =>
 bif decide (x.2.1 < Int.ofNat (List.length b.1)) then
 Option.bind (idxN x.1 x.2.1) fun (b : Nat) =>
 Option.bind x.1[b]?
 fun (b : List UInt8 × List T37D × Unit) =>
 Option.bind (F57 b.2)
 fun (b : List T37D × Unit) =>
 Option.bind (idxN x.1 x.2.1) fun (b_1 : Nat) =>
 Option.bind x.1[b_1]?
 fun (b_2 : List UInt8 × List T37D × Unit) =>
 some
 (Sum.inl
 (List.set x.1 b_1 (b_2.1, b.1, b_2.2.2), wrap64 (x.2.1 + 1),
 ()))
 else some (Sum.inr (x.1, ())))
 big (b.1, 0, ())
def S27 : Sig := ⟨P27, R27, F27⟩
noncomputable def E27 : Env := { tab := tab, nt := 25, Γ := lookG [(56, [S56]), (57, [S57])], joins := lookN [], loops := lookN [(3, mkLoop ⟨[⟨.slot 3, (.slice T51), .own false⟩, ⟨.slot 10, (.int .i64), .pv⟩], [9], []⟩)] }
theorem raw27_eq (x : T32D × Unit) : afun E27 Try.f27 P27 R27 x = F27 x := by kernel_rfl
-- (decamp/index.Index).All
def F27z (x : T32D × Unit) : Option (List T51D × Unit) :=
 Option.bind (F56 x.1)
 fun (b : List (List UInt8 × List T37D × Unit) × Unit) =>
 iterE
 ((List (List UInt8 × List T37D × Unit) × Int) × Int × Unit)
 (List (List UInt8 × List T37D × Unit) × Unit)
 (fun
 (x :
 (List (List UInt8 × List T37D × Unit) × Int) × Int × Unit) =>
 bif decide (x.2.1 < Int.ofNat (List.length b.1)) then
 Option.bind (idxN x.1.1 x.2.1) fun (b : Nat) =>
 Option.bind x.1.1[b]?
 fun (b_1 : List UInt8 × List T37D × Unit) =>
 bif decide (Int.toNat x.1.2 ≤ b) then
 Option.bind (F57 b_1.2)
 fun (b : List T37D × Unit) =>
 Option.bind (idxN x.1.1 x.2.1) fun (b_2 : Nat) =>
 Option.bind x.1.1[b_2]?
 fun (b_3 : List UInt8 × List T37D × Unit) =>
 bif decide (b_2 ≤ Int.toNat x.1.2) then
 some
 (Sum.inl
 ((List.set x.1.1 b_2 (b_3.1, b.1, b_3.2.2),
 Int.ofNat
 (bif decide (Int.toNat x.1.2 ≤ b_2 + 1) then b_2 + 1 else Int.toNat x.1.2)),
 wrap64 (x.2.1 + 1), ()))
 else none
 else
 Option.bind (F57 b_1.2)
 fun (b_2 : List T37D × Unit) =>
 Option.bind (idxN x.1.1 x.2.1) fun (b_3 : Nat) =>
 Option.bind x.1.1[b_3]?
 fun (b_4 : List UInt8 × List T37D × Unit) =>
 bif decide (b_3 ≤ Int.toNat x.1.2) then
 bif decide (b = b_3) then
 some
 (Sum.inl
 ((List.set x.1.1 b_3 (b_4.1, b_2.1, b_4.2.2),
 Int.ofNat
 (bif decide (Int.toNat x.1.2 ≤ b_3 + 1) then b_3 + 1 else Int.toNat x.1.2)),
 wrap64 (x.2.1 + 1), ()))
 else none
 else none
 else
 Option.map Sum.inr
 (bif decide (Int.toNat x.1.2 = List.length x.1.1) then some (x.1.1, ()) else none))
 big ((b.1, 0), 0, ())
def S27z : Sig := ⟨P27z, R27z, F27z⟩
noncomputable def E27z : Env := { tab := { tab with deeps := [33, 47, 74] }, nt := 25, Γ := lookG [(56, [S56]), (57, [S57])], joins := lookN [], loops := lookN [(3, mkLoop ⟨[⟨.slot 3, (.pair (.slice T51) (.int .i64)), .deep⟩, ⟨.slot 10, (.int .i64), .pv⟩], [9], []⟩)] }
theorem raw27z_eq (x : T32D × Unit) : afun E27z Try.f27 P27z R27z x = F27z x := by kernel_rfl
-- decamp/hist.Trim
def F70 (x : List T37D × Int × Unit) : Option (List T37D × Unit) :=
 Option.bind (F84 (x.1, ())) fun (b : Bool × Unit) =>
 bif !b.1 then some ([], ())
 else
 iterE (List T37D × Int × Unit)
 (List T37D × Unit)
 (fun (x_1 : List T37D × Int × Unit) =>
 bif decide (x_1.2.1 < Int.ofNat (List.length x.1)) then
 Option.bind (idx x.1 x_1.2.1) fun (b : T37D) =>
 Option.bind
 (bif decide (wrap64 (x_1.2.1 + 1) < Int.ofNat (List.length x.1)) then
 Option.bind (idx x.1 (wrap64 (x_1.2.1 + 1)))
 fun (b : T37D) =>
 some (Sum.inl (decide (b.1 ≤ x.2.1), ()))
 else some (Sum.inl (false, ())))
 fun
 (o :
 Bool × Unit ⊕ List T37D × Int × Unit ⊕ List T37D × Unit) =>
 Sum.elim
 (fun (x_2 : Bool × Unit) =>
 bif decide (x.2.1 < b.1) then
 Option.bind (appO x_1.1 [b])
 fun (b : List T37D) =>
 some (Sum.inl (b, wrap64 (x_1.2.1 + 1), ()))
 else
 bif !x_2.1 then
 bif !b.2.2.2.2.2.2.1 then
 Option.bind (appO x_1.1 [b])
 fun (b : List T37D) =>
 some (Sum.inl (b, wrap64 (x_1.2.1 + 1), ()))
 else some (Sum.inl (x_1.1, wrap64 (x_1.2.1 + 1), ()))
 else some (Sum.inl (x_1.1, wrap64 (x_1.2.1 + 1), ())))
 (fun
 (val :
 List T37D × Int × Unit ⊕ List T37D × Unit) =>
 some val)
 o
 else some (Sum.inr (x_1.1, ())))
 big ([], 0, ())
def S70 : Sig := ⟨P70, R70, F70⟩
noncomputable def E70 : Env := { tab := tab, nt := 53, Γ := lookG [(84, [S84])], joins := lookN [(8, ⟨[⟨.slot 8, .bool, .pv⟩], [0, 1, 5, 7, 12, 13, 14], [.site 6004000, .fld 6004000 0, .fld 6004000 1, .fld 6004000 2, .fld 6004000 3, .fld 6004000 4, .fld 6004000 5, .fld 6004000 6, .row 50005000]⟩)], loops := lookN [(5, mkLoop ⟨[⟨.slot 5, (.slice T37), .own false⟩, ⟨.slot 14, (.int .i64), .pv⟩], [0, 1, 12, 13], []⟩)] }
theorem raw70_eq (x : List T37D × Int × Unit) : afun E70 Try.f70 P70 R70 x = F70 x := by kernel_rfl
-- (decamp/index.Index).Trim
def F39 (x : T32D × Int × Unit) : Option (T32D × Unit) :=
 Option.bind (F56 x.1)
 fun (b : List (List UInt8 × List T37D × Unit) × Unit) =>
 iterE (Int × (Tree (List UInt8) (List T37D) × Unit) × Unit)
 (((Tree (List UInt8) (List T37D) × Unit) × Unit) × Unit)
 (fun
 (x_1 :
 Int × (Tree (List UInt8) (List T37D) × Unit) × Unit) =>
 bif decide (x_1.1 < Int.ofNat (List.length b.1)) then
 Option.bind (idxN b.1 x_1.1) fun (b_1 : Nat) =>
 Option.bind b.1[b_1]?
 fun (b : List UInt8 × List T37D × Unit) =>
 Option.bind (F70 (b.2.1, x.2))
 fun (b_2 : List T37D × Unit) =>
 Option.bind (F69 (x_1.2, b.1, b_2))
 fun
 (b :
 ((Tree (List UInt8) (List T37D) × Unit) × Unit) × Unit) =>
 some (Sum.inl (wrap64 (x_1.1 + 1), b.1))
 else some (Sum.inr (x_1.2, ())))
 big (0, x.1)
def S39 : Sig := ⟨P39, R39, F39⟩
noncomputable def E39 : Env := { tab := tab, nt := 25, Γ := lookG [(56, [S56]), (69, [S69]), (70, [S70])], joins := lookN [], loops := lookN [(2, mkLoop ⟨[⟨.slot 11, (.int .i64), .pv⟩, ⟨.fld 1000 0, T30, .pv⟩], [1, 2, 4, 9, 10], [.row 1003001, .site 2000, .fld 2000 0, .site 1000]⟩)] }
theorem raw39_eq (x : T32D × Int × Unit) : afun E39 Try.f39 P39 R39 x = F39 x := by kernel_rfl
-- decamp/decampref15.Set
def F71 (x : List T51D × List UInt8 × List T37D × Unit) : Option (List T51D × Unit) :=
 iterE (List (List UInt8 × List T37D × Unit) × Int × Unit)
 (List (List UInt8 × List T37D × Unit) × Unit)
 (fun
 (x_1 :
 List (List UInt8 × List T37D × Unit) × Int × Unit) =>
 bif decide (x_1.2.1 < Int.ofNat (List.length x.1)) then
 Option.bind (idx x.1 x_1.2.1)
 fun (b : List UInt8 × List T37D × Unit) =>
 bif strlt b.1 x.2.1 then
 Option.bind (idx x.1 x_1.2.1)
 fun (b : List UInt8 × List T37D × Unit) =>
 Option.bind (appO x_1.1 [b])
 fun (b : List (List UInt8 × List T37D × Unit)) =>
 some (Sum.inl (b, wrap64 (x_1.2.1 + 1), ()))
 else some (Sum.inl (x_1.1, wrap64 (x_1.2.1 + 1), ()))
 else
 Option.map Sum.inr
 (Option.bind
 (bif decide (0 < Int.ofNat (List.length x.2.2.1)) then
 Option.bind (appO x_1.1 [x.2])
 fun (b : List (List UInt8 × List T37D × Unit)) =>
 some (Sum.inl (b, ()))
 else some (Sum.inl (x_1.1, ())))
 fun
 (o :
 List (List UInt8 × List T37D × Unit) × Unit ⊕ List (List UInt8 × List T37D × Unit) × Unit) =>
 Sum.elim
 (fun
 (x_2 :
 List (List UInt8 × List T37D × Unit) × Unit) =>
 iterE
 (List (List UInt8 × List T37D × Unit) × Int × Unit)
 (List (List UInt8 × List T37D × Unit) × Unit)
 (fun
 (x_3 :
 List (List UInt8 × List T37D × Unit) × Int × Unit) =>
 bif decide (x_3.2.1 < Int.ofNat (List.length x.1)) then
 Option.bind (idx x.1 x_3.2.1)
 fun (b : List UInt8 × List T37D × Unit) =>
 bif !(strlt b.1 x.2.1 || decide (b.1 = x.2.1)) then
 Option.bind (idx x.1 x_3.2.1)
 fun
 (b :
 List UInt8 × List T37D × Unit) =>
 Option.bind (appO x_3.1 [b])
 fun
 (b :
 List
 (List UInt8 × List T37D × Unit)) =>
 some (Sum.inl (b, wrap64 (x_3.2.1 + 1), ()))
 else some (Sum.inl (x_3.1, wrap64 (x_3.2.1 + 1), ()))
 else some (Sum.inr (x_3.1, ())))
 big (x_2.1, 0, ()))
 (fun
 (val :
 List (List UInt8 × List T37D × Unit) × Unit) =>
 some val)
 o))
 big ([], 0, ())
def S71 : Sig := ⟨P71, R71, F71⟩
noncomputable def E71 : Env := { tab := tab, nt := 60, Γ := lookG [], joins := lookN [(10, ⟨[⟨.slot 7, (.slice T51), .own false⟩], [0, 1], []⟩)], loops := lookN [(3, mkLoop ⟨[⟨.slot 7, (.slice T51), .own false⟩, ⟨.slot 12, (.int .i64), .pv⟩], [0, 1, 2, 11], []⟩), (11, mkLoop ⟨[⟨.slot 7, (.slice T51), .own false⟩, ⟨.slot 41, (.int .i64), .pv⟩], [0, 1, 40], []⟩)] }
theorem raw71_eq (x : List T51D × List UInt8 × List T37D × Unit) : afun E71 Try.f71 P71 R71 x = F71 x := by kernel_rfl
-- decamp/decampref14.Ver
def F58 (x : T37D × Unit) : Option (Bool × Unit) :=
 bif decide (x.1.1 < 1) then some (false, ())
 else
 bif decide (1099511627776 < x.1.1) then some (false, ())
 else
 bif decide (x.1.2.2.1 < 1) then some (false, ())
 else
 bif decide (1099511627776 < x.1.2.2.1) then some (false, ())
 else
 bif x.1.2.2.2.2.2.2.1 then
 bif decide (x.1.2.1 = 0) then
 bif decide (x.1.2.2.2.1 = 0) then
 bif decide (x.1.2.2.2.2.2.1 = 0) then
 some (decide (Int.ofNat (List.length x.1.2.2.2.2.1) = 0), ())
 else some (false, ())
 else some (false, ())
 else some (false, ())
 else
 bif decide (1 ≤ x.1.2.1) then
 bif decide (x.1.2.1 ≤ x.1.2.2.1) then
 bif decide (1 ≤ x.1.2.2.2.1) then
 bif decide (x.1.2.2.2.1 ≤ 1099511627776) then
 bif decide (Int.ofNat (List.length x.1.2.2.2.2.1) ≤ 40) then
 bif decide (-1099511627776 ≤ x.1.2.2.2.2.2.1) then
 some (decide (x.1.2.2.2.2.2.1 ≤ 1099511627776), ())
 else some (false, ())
 else some (false, ())
 else some (false, ())
 else some (false, ())
 else some (false, ())
 else some (false, ())
def S58 : Sig := ⟨P58, R58, F58⟩
noncomputable def E58 : Env := { tab := tab, nt := 78, Γ := lookG [], joins := lookN [], loops := lookN [] }
theorem raw58_eq (x : T37D × Unit) : afun E58 Try.f58 P58 R58 x = F58 x := by kernel_rfl
-- decamp/decampref14.Right
def F28 (x : List T37D × Unit) : Option (Bool × Unit) :=
 iterE (Int × Unit) (Bool × Unit)
 (fun (x_1 : Int × Unit) =>
 bif decide (x_1.1 < Int.ofNat (List.length x.1)) then
 Option.bind (idx x.1 x_1.1) fun (b : T37D) =>
 Option.bind (F58 (b, ())) fun (b : Bool × Unit) =>
 bif !b.1 then some (Sum.inr (false, ()))
 else
 bif decide (0 < x_1.1) then
 Option.bind (idx x.1 x_1.1) fun (b : T37D) =>
 Option.bind (idx x.1 (wrap64 (x_1.1 - 1)))
 fun (b_1 : T37D) =>
 bif decide (b.1 ≤ b_1.1) then some (Sum.inr (false, ()))
 else
 Option.bind (idx x.1 x_1.1)
 fun (b : T37D) =>
 Option.bind (idx x.1 (wrap64 (x_1.1 - 1)))
 fun (b_2 : T37D) =>
 bif decide (b.2.2.1 ≤ b_2.2.2.1) then some (Sum.inr (false, ()))
 else some (Sum.inl (wrap64 (x_1.1 + 1), ()))
 else some (Sum.inl (wrap64 (x_1.1 + 1), ()))
 else some (Sum.inr (true, ())))
 big (0, ())
def S28 : Sig := ⟨P28, R28, F28⟩
noncomputable def E28 : Env := { tab := tab, nt := 46, Γ := lookG [(58, [S58])], joins := lookN [], loops := lookN [(2, mkLoop ⟨[⟨.slot 6, (.int .i64), .pv⟩], [0, 5], []⟩)] }
theorem raw28_eq (x : List T37D × Unit) : afun E28 Try.f28 P28 R28 x = F28 x := by kernel_rfl
-- decamp/decampref14.At
def F54 (x : List T37D × Int × Unit) : Option (T37D × Bool × Unit) :=
 Option.bind (F28 (x.1, ())) fun (b : Bool × Unit) =>
 bif !b.1 then some ((0, 0, 0, 0, [], 0, false, ()), false, ())
 else
 iterE (Int × T37D)
 (T37D × Bool × Unit)
 (fun (x_1 : Int × T37D) =>
 bif decide (0 ≤ x_1.1) then
 Option.bind (idx x.1 x_1.1) fun (b : T37D) =>
 bif decide (b.1 ≤ x.2.1) then
 Option.bind (idx x.1 x_1.1) fun (b : T37D) =>
 bif b.2.2.2.2.2.2.1 then
 some (Sum.inr ((0, 0, 0, 0, [], 0, false, ()), false, ()))
 else
 Option.bind (idx x.1 x_1.1) fun (b : T37D) =>
 some (Sum.inr (b, true, ()))
 else some (Sum.inl (wrap64 (x_1.1 - 1), x_1.2))
 else some (Sum.inr ((0, 0, 0, 0, [], 0, false, ()), false, ())))
 big (wrap64 (Int.ofNat (List.length x.1) - 1), 0, 0, 0, 0, [], 0, false, ())
def S54 : Sig := ⟨P54, R54, F54⟩
noncomputable def E54 : Env := { tab := tab, nt := 36, Γ := lookG [(28, [S28])], joins := lookN [], loops := lookN [(4, mkLoop ⟨[⟨.slot 6, (.int .i64), .pv⟩, ⟨.fld 1000 0, (.int .i64), .pv⟩, ⟨.fld 1000 1, (.int .i64), .pv⟩, ⟨.fld 1000 2, (.int .i64), .pv⟩, ⟨.fld 1000 3, (.int .i64), .pv⟩, ⟨.fld 1000 4, .str, .pv⟩, ⟨.fld 1000 5, (.int .i64), .pv⟩, ⟨.fld 1000 6, .bool, .pv⟩], [0, 1, 4], [.site 1000]⟩)] }
theorem raw54_eq (x : List T37D × Int × Unit) : afun E54 Try.f54 P54 R54 x = F54 x := by kernel_rfl
-- decamp/decampref14.Trim
def F72 (x : List T37D × Int × Unit) : Option (List T37D × Unit) :=
 Option.bind (F28 (x.1, ())) fun (b : Bool × Unit) =>
 bif !b.1 then some ([], ())
 else
 Option.bind
 (Option.bind (F54 x) fun (b : T37D × Bool × Unit) =>
 bif b.2.1 then
 Option.bind (appO [] [b.1]) fun (b : List T37D) =>
 some (Sum.inl (b, ()))
 else some (Sum.inl ([], ())))
 fun
 (o :
 List T37D × Unit ⊕ List T37D × Unit) =>
 Sum.elim
 (fun (x_1 : List T37D × Unit) =>
 iterE (List T37D × Int × Unit)
 (List T37D × Unit)
 (fun (x_2 : List T37D × Int × Unit) =>
 bif decide (x_2.2.1 < Int.ofNat (List.length x.1)) then
 Option.bind (idx x.1 x_2.2.1)
 fun (b : T37D) =>
 bif decide (x.2.1 < b.1) then
 Option.bind (idx x.1 x_2.2.1)
 fun (b : T37D) =>
 Option.bind (appO x_2.1 [b])
 fun (b : List T37D) =>
 some (Sum.inl (b, wrap64 (x_2.2.1 + 1), ()))
 else some (Sum.inl (x_2.1, wrap64 (x_2.2.1 + 1), ()))
 else some (Sum.inr (x_2.1, ())))
 big (x_1.1, 0, ()))
 (fun (val : List T37D × Unit) => some val) o
def S72 : Sig := ⟨P72, R72, F72⟩
noncomputable def E72 : Env := { tab := tab, nt := 45, Γ := lookG [(28, [S28]), (54, [S54])], joins := lookN [(7, ⟨[⟨.slot 5, (.slice T37), .own false⟩], [0, 1], []⟩)], loops := lookN [(8, mkLoop ⟨[⟨.slot 5, (.slice T37), .own false⟩, ⟨.slot 26, (.int .i64), .pv⟩], [0, 1, 25], []⟩)] }
theorem raw72_eq (x : List T37D × Int × Unit) : afun E72 Try.f72 P72 R72 x = F72 x := by kernel_rfl
-- decamp/decampref15.Trim
def F40 (x : List T51D × Int × Unit) : Option (List T51D × Unit) :=
 iterE (List (List UInt8 × List T37D × Unit) × Int × Unit)
 (List (List UInt8 × List T37D × Unit) × Unit)
 (fun
 (x_1 :
 List (List UInt8 × List T37D × Unit) × Int × Unit) =>
 bif decide (x_1.2.1 < Int.ofNat (List.length x.1)) then
 Option.bind (idx x.1 x_1.2.1)
 fun (b : List UInt8 × List T37D × Unit) =>
 Option.bind (idx x.1 x_1.2.1)
 fun (b_1 : List UInt8 × List T37D × Unit) =>
 Option.bind (F72 (b_1.2.1, x.2))
 fun (b_2 : List T37D × Unit) =>
 Option.bind (F71 (x_1.1, b.1, b_2))
 fun
 (b :
 List (List UInt8 × List T37D × Unit) × Unit) =>
 some (Sum.inl (b.1, wrap64 (x_1.2.1 + 1), ()))
 else some (Sum.inr (x_1.1, ())))
 big (x.1, 0, ())
def S40 : Sig := ⟨P40, R40, F40⟩
noncomputable def E40 : Env := { tab := tab, nt := 29, Γ := lookG [(71, [S71]), (72, [S72])], joins := lookN [], loops := lookN [(3, mkLoop ⟨[⟨.slot 5, (.slice T51), .pv⟩, ⟨.slot 10, (.int .i64), .pv⟩], [0, 1, 9], []⟩)] }
theorem raw40_eq (x : List T51D × Int × Unit) : afun E40 Try.f40 P40 R40 x = F40 x := by kernel_rfl
-- (decamp/order.Map[string, []decamp/api.Ver]).Between$1
def F94 (x : T51D × Unit) : Option (Unit) := none
def S94 : Sig := ⟨P94, R94, F94⟩
noncomputable def E94 : Env := { tab := tab, nt := 7, Γ := lookG [], joins := lookN [], loops := lookN [] }
theorem raw94_eq (x : T51D × Unit) : afun E94 Try.f94 P94 R94 x = F94 x := by kernel_rfl
-- (decamp/order.Map[string, []decamp/api.Ver]).Between$1
def F94a (x : T51D × (List T51D × Unit) × Unit) : Option ((List T51D × Unit) × Unit) :=
 Option.bind (appO x.2.1.1 [x.1])
 fun (b : List (List UInt8 × List T37D × Unit)) =>
 some ((b, ()), ())
def S94a : Sig := ⟨P94a, R94a, F94a⟩
noncomputable def E94a : Env := { tab := tab, nt := 7, Γ := lookG [], joins := lookN [], loops := lookN [] }
theorem raw94a_eq (x : T51D × (List T51D × Unit) × Unit) : afun E94a Try.f94 P94a R94a x = F94a x := by kernel_rfl
-- (*decamp/order.node[string, []decamp/api.Ver]).walk
def F93as (F93a : T28D × List UInt8 × List UInt8 × (List T51D × Unit) × Unit → Option ((List T51D × Unit) × Unit)) (x : T28D × List UInt8 × List UInt8 × (List T51D × Unit) × Unit) : Option ((List T51D × Unit) × Unit) :=
 bif isLeaf x.1 then some x.2.2.2
 else
 Option.bind
 (openN Ty.str
 (Ty.slice
 (Ty.pair (Ty.int IntKind.i64)
 (Ty.pair (Ty.int IntKind.i64)
 (Ty.pair (Ty.int IntKind.i64)
 (Ty.pair (Ty.int IntKind.i64)
 (Ty.pair Ty.str (Ty.pair (Ty.int IntKind.i64) (Ty.pair Ty.bool Ty.unit))))))))
 x.1)
 fun
 (_z :
 (List UInt8 × List T37D × Unit) × Tree (List UInt8) (List T37D) × Tree (List UInt8) (List T37D) × Int × Int × Unit) =>
 Option.bind
 (openN Ty.str
 (Ty.slice
 (Ty.pair (Ty.int IntKind.i64)
 (Ty.pair (Ty.int IntKind.i64)
 (Ty.pair (Ty.int IntKind.i64)
 (Ty.pair (Ty.int IntKind.i64)
 (Ty.pair Ty.str (Ty.pair (Ty.int IntKind.i64) (Ty.pair Ty.bool Ty.unit))))))))
 x.1)
 fun
 (b :
 (List UInt8 × List T37D × Unit) × Tree (List UInt8) (List T37D) × Tree (List UInt8) (List T37D) × Int × Int × Unit) =>
 Option.bind (F81 (b.1.1, x.2.1, ())) fun (b : Int × Unit) =>
 Option.bind
 (openN Ty.str
 (Ty.slice
 (Ty.pair (Ty.int IntKind.i64)
 (Ty.pair (Ty.int IntKind.i64)
 (Ty.pair (Ty.int IntKind.i64)
 (Ty.pair (Ty.int IntKind.i64)
 (Ty.pair Ty.str (Ty.pair (Ty.int IntKind.i64) (Ty.pair Ty.bool Ty.unit))))))))
 x.1)
 fun
 (_z :
 (List UInt8 × List T37D × Unit) × Tree (List UInt8) (List T37D) × Tree (List UInt8) (List T37D) × Int × Int × Unit) =>
 Option.bind
 (openN Ty.str
 (Ty.slice
 (Ty.pair (Ty.int IntKind.i64)
 (Ty.pair (Ty.int IntKind.i64)
 (Ty.pair (Ty.int IntKind.i64)
 (Ty.pair (Ty.int IntKind.i64)
 (Ty.pair Ty.str (Ty.pair (Ty.int IntKind.i64) (Ty.pair Ty.bool Ty.unit))))))))
 x.1)
 fun
 (b_1 :
 (List UInt8 × List T37D × Unit) × Tree (List UInt8) (List T37D) × Tree (List UInt8) (List T37D) × Int × Int × Unit) =>
 Option.bind (F81 (b_1.1.1, x.2.2.1, ())) fun (b_2 : Int × Unit) =>
 Option.bind
 (bif decide (0 ≤ b.1) then
 Option.bind
 (openN Ty.str
 (Ty.slice
 (Ty.pair (Ty.int IntKind.i64)
 (Ty.pair (Ty.int IntKind.i64)
 (Ty.pair (Ty.int IntKind.i64)
 (Ty.pair (Ty.int IntKind.i64)
 (Ty.pair Ty.str (Ty.pair (Ty.int IntKind.i64) (Ty.pair Ty.bool Ty.unit))))))))
 x.1)
 fun
 (_z :
 (List UInt8 × List T37D × Unit) × Tree (List UInt8) (List T37D) × Tree (List UInt8) (List T37D) × Int × Int × Unit) =>
 Option.bind
 (openN Ty.str
 (Ty.slice
 (Ty.pair (Ty.int IntKind.i64)
 (Ty.pair (Ty.int IntKind.i64)
 (Ty.pair (Ty.int IntKind.i64)
 (Ty.pair (Ty.int IntKind.i64)
 (Ty.pair Ty.str (Ty.pair (Ty.int IntKind.i64) (Ty.pair Ty.bool Ty.unit))))))))
 x.1)
 fun
 (b :
 (List UInt8 × List T37D × Unit) × Tree (List UInt8) (List T37D) × Tree (List UInt8) (List T37D) × Int × Int × Unit) =>
 Option.bind (F93a (b.2.1, x.2))
 fun
 (b :
 (List
 (List UInt8 × List T37D × Unit) × Unit) × Unit) =>
 some (Sum.inl b.1)
 else some (Sum.inl x.2.2.2.1))
 fun
 (o :
 List (List UInt8 × List T37D × Unit) × Unit ⊕ (List (List UInt8 × List T37D × Unit) × Unit) × Unit) =>
 Sum.elim
 (fun
 (x_1 :
 List (List UInt8 × List T37D × Unit) × Unit) =>
 Option.bind
 (bif decide (0 ≤ b.1) then
 bif decide (b_2.1 < 0) then
 Option.bind
 (openN Ty.str
 (Ty.slice
 (Ty.pair (Ty.int IntKind.i64)
 (Ty.pair (Ty.int IntKind.i64)
 (Ty.pair (Ty.int IntKind.i64)
 (Ty.pair (Ty.int IntKind.i64)
 (Ty.pair Ty.str (Ty.pair (Ty.int IntKind.i64) (Ty.pair Ty.bool Ty.unit))))))))
 x.1)
 fun
 (_z :
 (List UInt8 × List T37D × Unit) × Tree (List UInt8) (List T37D) × Tree (List UInt8)
 (List T37D) × Int × Int × Unit) =>
 Option.bind
 (openN Ty.str
 (Ty.slice
 (Ty.pair (Ty.int IntKind.i64)
 (Ty.pair (Ty.int IntKind.i64)
 (Ty.pair (Ty.int IntKind.i64)
 (Ty.pair (Ty.int IntKind.i64)
 (Ty.pair Ty.str
 (Ty.pair (Ty.int IntKind.i64) (Ty.pair Ty.bool Ty.unit))))))))
 x.1)
 fun
 (b :
 (List UInt8 × List T37D × Unit) × Tree (List UInt8)
 (List T37D) × Tree (List UInt8)
 (List T37D) × Int × Int × Unit) =>
 Option.bind (F94a (b.1, x_1, ()))
 fun
 (b :
 (List
 (List UInt8 × List T37D × Unit) × Unit) × Unit) =>
 some (Sum.inl b.1)
 else some (Sum.inl x_1)
 else some (Sum.inl x_1))
 fun
 (o :
 List (List UInt8 × List T37D × Unit) × Unit ⊕ (List
 (List UInt8 × List T37D × Unit) × Unit) × Unit) =>
 Sum.elim
 (fun
 (x_2 :
 List
 (List UInt8 × List T37D × Unit) × Unit) =>
 bif decide (b_2.1 < 0) then
 Option.bind
 (openN Ty.str
 (Ty.slice
 (Ty.pair (Ty.int IntKind.i64)
 (Ty.pair (Ty.int IntKind.i64)
 (Ty.pair (Ty.int IntKind.i64)
 (Ty.pair (Ty.int IntKind.i64)
 (Ty.pair Ty.str
 (Ty.pair (Ty.int IntKind.i64) (Ty.pair Ty.bool Ty.unit))))))))
 x.1)
 fun
 (_z :
 (List UInt8 × List T37D × Unit) × Tree (List UInt8)
 (List T37D) × Tree (List UInt8)
 (List T37D) × Int × Int × Unit) =>
 Option.bind
 (openN Ty.str
 (Ty.slice
 (Ty.pair (Ty.int IntKind.i64)
 (Ty.pair (Ty.int IntKind.i64)
 (Ty.pair (Ty.int IntKind.i64)
 (Ty.pair (Ty.int IntKind.i64)
 (Ty.pair Ty.str
 (Ty.pair (Ty.int IntKind.i64) (Ty.pair Ty.bool Ty.unit))))))))
 x.1)
 fun
 (b :
 (List UInt8 × List T37D × Unit) × Tree (List UInt8)
 (List T37D) × Tree (List UInt8)
 (List T37D) × Int × Int × Unit) =>
 Option.bind (F93a (b.2.2.1, x.2.1, x.2.2.1, x_2, ()))
 fun
 (b :
 (List
 (List UInt8 × List T37D × Unit) × Unit) × Unit) =>
 some b
 else some (x_2, ()))
 (fun
 (val :
 (List
 (List UInt8 × List T37D × Unit) × Unit) × Unit) =>
 some val)
 o)
 (fun
 (val :
 (List (List UInt8 × List T37D × Unit) × Unit) × Unit) =>
 some val)
 o
noncomputable def E93ar (F93a : T28D × List UInt8 × List UInt8 × (List T51D × Unit) × Unit → Option ((List T51D × Unit) × Unit)) : Env := { tab := tab, nt := 56, Γ := lookG [(81, [S81]), (93, [⟨P93a, R93a, F93a⟩]), (94, [S94, S94a])], joins := lookN [(4, ⟨[⟨.fld 4 0, (.slice T51), .own false⟩], [0, 1, 2, 3, 8, 9], [.site 4, .comp 3 0]⟩), (6, ⟨[⟨.fld 4 0, (.slice T51), .own false⟩], [0, 1, 2, 3, 9], [.comp 3 0, .site 4]⟩)], loops := lookN [] }
theorem raw93a_eq (F93a : T28D × List UInt8 × List UInt8 × (List T51D × Unit) × Unit → Option ((List T51D × Unit) × Unit)) (x : T28D × List UInt8 × List UInt8 × (List T51D × Unit) × Unit) : afun (E93ar F93a) Try.f93 P93a R93a x = F93as F93a x := by kernel_rfl
def F93a : T28D × List UInt8 × List UInt8 × (List T51D × Unit) × Unit → Option ((List T51D × Unit) × Unit) := recF F93as big
def S93a : Sig := ⟨P93a, R93a, F93a⟩
-- (decamp/order.Map[string, []decamp/api.Ver]).Between
def F86 (x : T30D × List UInt8 × List UInt8 × Unit) : Option (List T51D × Unit) :=
 Option.bind (F93a (x.1.1, x.2.1, x.2.2.1, ([], ()), ()))
 fun
 (b :
 (List (List UInt8 × List T37D × Unit) × Unit) × Unit) =>
 some b.1
def S86 : Sig := ⟨P86, R86, F86⟩
noncomputable def E86 : Env := { tab := tab, nt := 15, Γ := lookG [(93, [S93a]), (94, [S94, S94a])], joins := lookN [], loops := lookN [] }
theorem raw86_eq (x : T30D × List UInt8 × List UInt8 × Unit) : afun E86 Try.f86 P86 R86 x = F86 x := by kernel_rfl
-- (decamp/index.Index).within
def F62 (x : T32D × List UInt8 × List UInt8 × Unit) : Option (List T51D × Unit) :=
 Option.bind (F16 x.2) fun (b : Bool × Unit) =>
 bif !b.1 then some ([], ())
 else
 bif !decide (x.2.2.1 = []) then
 Option.bind (F86 (x.1.1, x.2))
 fun
 (b : List (List UInt8 × List T37D × Unit) × Unit) =>
 some b
 else
 Option.bind (F52 (x.1.1, x.2.1, ()))
 fun (b : List T37D × Bool × Unit) =>
 bif !b.2.1 then some ([], ()) else some ([(x.2.1, b.1, ())], ())
def S62 : Sig := ⟨P62, R62, F62⟩
noncomputable def E62 : Env := { tab := tab, nt := 35, Γ := lookG [(16, [S16]), (52, [S52]), (86, [S86])], joins := lookN [], loops := lookN [] }
theorem raw62_eq (x : T32D × List UInt8 × List UInt8 × Unit) : afun E62 Try.f62 P62 R62 x = F62 x := by kernel_rfl
-- (decamp/index.Index).Drop
def F41 (x : T32D × List UInt8 × List UInt8 × Unit) : Option (T32D × Unit) :=
 Option.bind (F62 x)
 fun (b : List (List UInt8 × List T37D × Unit) × Unit) =>
 iterE (Int × (Tree (List UInt8) (List T37D) × Unit) × Unit)
 (((Tree (List UInt8) (List T37D) × Unit) × Unit) × Unit)
 (fun
 (x :
 Int × (Tree (List UInt8) (List T37D) × Unit) × Unit) =>
 bif decide (x.1 < Int.ofNat (List.length b.1)) then
 Option.bind (idxN b.1 x.1) fun (b_1 : Nat) =>
 Option.bind b.1[b_1]?
 fun (b : List UInt8 × List T37D × Unit) =>
 Option.bind (F69 (x.2, b.1, [], ()))
 fun
 (b :
 ((Tree (List UInt8) (List T37D) × Unit) × Unit) × Unit) =>
 some (Sum.inl (wrap64 (x.1 + 1), b.1))
 else some (Sum.inr (x.2, ())))
 big (0, x.1)
def S41 : Sig := ⟨P41, R41, F41⟩
noncomputable def E41 : Env := { tab := tab, nt := 24, Γ := lookG [(62, [S62]), (69, [S69])], joins := lookN [], loops := lookN [(2, mkLoop ⟨[⟨.slot 14, (.int .i64), .pv⟩, ⟨.fld 1000 0, T30, .pv⟩], [3, 6, 12, 13], [.row 1004001, .site 2000, .fld 2000 0, .site 1000]⟩)] }
theorem raw41_eq (x : T32D × List UInt8 × List UInt8 × Unit) : afun E41 Try.f41 P41 R41 x = F41 x := by kernel_rfl
-- decamp/decampref15.Drop
def F42 (x : List T51D × List UInt8 × List UInt8 × Unit) : Option (List T51D × Unit) :=
 iterE (List (List UInt8 × List T37D × Unit) × Int × Unit)
 (List (List UInt8 × List T37D × Unit) × Unit)
 (fun
 (x_1 :
 List (List UInt8 × List T37D × Unit) × Int × Unit) =>
 bif decide (x_1.2.1 < Int.ofNat (List.length x.1)) then
 Option.bind (idx x.1 x_1.2.1)
 fun (b : List UInt8 × List T37D × Unit) =>
 Option.bind (F19 (x.2.1, x.2.2.1, b.1, ())) fun (b : Bool × Unit) =>
 bif !b.1 then
 Option.bind (idx x.1 x_1.2.1)
 fun (b : List UInt8 × List T37D × Unit) =>
 Option.bind (appO x_1.1 [b])
 fun
 (b : List (List UInt8 × List T37D × Unit)) =>
 some (Sum.inl (b, wrap64 (x_1.2.1 + 1), ()))
 else some (Sum.inl (x_1.1, wrap64 (x_1.2.1 + 1), ()))
 else some (Sum.inr (x_1.1, ())))
 big ([], 0, ())
def S42 : Sig := ⟨P42, R42, F42⟩
noncomputable def E42 : Env := { tab := tab, nt := 32, Γ := lookG [(19, [S19])], joins := lookN [], loops := lookN [(3, mkLoop ⟨[⟨.slot 7, (.slice T51), .own false⟩, ⟨.slot 11, (.int .i64), .pv⟩], [0, 1, 2, 10], []⟩)] }
theorem raw42_eq (x : List T51D × List UInt8 × List UInt8 × Unit) : afun E42 Try.f42 P42 R42 x = F42 x := by kernel_rfl
-- decamp/decampref15.Get
def F55 (x : List T51D × List UInt8 × Unit) : Option (List T37D × Unit) :=
 iterE (Int × Unit) (List T37D × Unit)
 (fun (x_1 : Int × Unit) =>
 bif decide (x_1.1 < Int.ofNat (List.length x.1)) then
 Option.bind (idx x.1 x_1.1)
 fun (b : List UInt8 × List T37D × Unit) =>
 bif decide (b.1 = x.2.1) then
 Option.bind (idx x.1 x_1.1)
 fun (b : List UInt8 × List T37D × Unit) =>
 some (Sum.inr b.2)
 else some (Sum.inl (wrap64 (x_1.1 + 1), ()))
 else some (Sum.inr ([], ())))
 big (0, ())
def S55 : Sig := ⟨P55, R55, F55⟩
noncomputable def E55 : Env := { tab := tab, nt := 24, Γ := lookG [], joins := lookN [], loops := lookN [(2, mkLoop ⟨[⟨.slot 8, (.int .i64), .pv⟩], [0, 1, 7], []⟩)] }
theorem raw55_eq (x : List T51D × List UInt8 × Unit) : afun E55 Try.f55 P55 R55 x = F55 x := by kernel_rfl
-- decamp/decampref14.Add
def F80 (x : List T37D × T37D × Unit) : Option (List T37D × Bool × Unit) :=
 Option.bind (appO [] x.1) fun (b : List T37D) =>
 Option.bind (appO b [x.2.1]) fun (b : List T37D) =>
 Option.bind (F28 (b, ())) fun (b_1 : Bool × Unit) =>
 bif !b_1.1 then some ([], false, ()) else some (b, true, ())
def S80 : Sig := ⟨P80, R80, F80⟩
noncomputable def E80 : Env := { tab := tab, nt := 17, Γ := lookG [(28, [S28])], joins := lookN [], loops := lookN [] }
theorem raw80_eq (x : List T37D × T37D × Unit) : afun E80 Try.f80 P80 R80 x = F80 x := by kernel_rfl
-- decamp/decampref14.Put
def F75 (x : List T37D × Int × Int × List UInt8 × Int × Unit) : Option (List T37D × Bool × Unit) :=
 Option.bind
 (bif decide (0 < Int.ofNat (List.length x.1)) then
 Option.bind (idx x.1 (wrap64 (Int.ofNat (List.length x.1) - 1)))
 fun (b : T37D) =>
 bif !b.2.2.2.2.2.2.1 then
 Option.bind (idx x.1 (wrap64 (Int.ofNat (List.length x.1) - 1)))
 fun (b : T37D) =>
 bif decide (1099511627776 ≤ b.2.2.2.1) then some (Sum.inr ([], false, ()))
 else
 Option.bind (idx x.1 (wrap64 (Int.ofNat (List.length x.1) - 1)))
 fun (b : T37D) =>
 Option.bind (idx x.1 (wrap64 (Int.ofNat (List.length x.1) - 1)))
 fun (b_1 : T37D) =>
 some (Sum.inl (b.2.1, wrap64 (b_1.2.2.2.1 + 1), ()))
 else some (Sum.inl (x.2.2.1, 1, ()))
 else some (Sum.inl (x.2.2.1, 1, ())))
 fun (o : Int × Int × Unit ⊕ List T37D × Bool × Unit) =>
 Sum.elim
 (fun (x_1 : Int × Int × Unit) =>
 Option.bind
 (F80
 (x.1,
 (x.2.1, x_1.1, x.2.2.1, x_1.2.1, x.2.2.2.1, x.2.2.2.2.1, false,
 ()),
 ()))
 fun (b : List T37D × Bool × Unit) => some b)
 (fun (val : List T37D × Bool × Unit) => some val) o
def S75 : Sig := ⟨P75, R75, F75⟩
noncomputable def E75 : Env := { tab := tab, nt := 60, Γ := lookG [(80, [S80])], joins := lookN [(7, ⟨[⟨.fld 1007000 1, (.int .i64), .pv⟩, ⟨.fld 1007000 3, (.int .i64), .pv⟩], [0, 12], [.site 1007000, .fld 1007000 0, .fld 1007000 2, .fld 1007000 4, .fld 1007000 5, .fld 1007000 6]⟩)], loops := lookN [] }
theorem raw75_eq (x : List T37D × Int × Int × List UInt8 × Int × Unit) : afun E75 Try.f75 P75 R75 x = F75 x := by kernel_rfl
-- decamp/decampref15.Put
def F46 (x : List T51D × List UInt8 × Int × Int × List UInt8 × Int × Unit) : Option (List T51D × Bool × Unit) :=
 Option.bind (F55 (x.1, x.2.1, ()))
 fun (b : List T37D × Unit) =>
 Option.bind (F75 (b.1, x.2.2))
 fun (b : List T37D × Bool × Unit) =>
 bif !b.2.1 then some ([], false, ())
 else
 Option.bind (F15 (x.2.1, ())) fun (b_1 : Bool × Unit) =>
 bif !b_1.1 then some ([], false, ())
 else
 Option.bind (F71 (x.1, x.2.1, b.1, ()))
 fun
 (b :
 List (List UInt8 × List T37D × Unit) × Unit) =>
 some (b.1, true, ())
def S46 : Sig := ⟨P46, R46, F46⟩
noncomputable def E46 : Env := { tab := tab, nt := 38, Γ := lookG [(15, [S15]), (55, [S55]), (71, [S71]), (75, [S75])], joins := lookN [], loops := lookN [] }
theorem raw46_eq (x : List T51D × List UInt8 × Int × Int × List UInt8 × Int × Unit) : afun E46 Try.f46 P46 R46 x = F46 x := by kernel_rfl
-- decamp/hist.Del
def F76 (x : List T37D × Int × Int × Unit) : Option (List T37D × Int × Unit) :=
 Option.bind (F79 (x.1, (x.2.1, 0, x.2.2.1, 0, [], 0, true, ()), ()))
 fun (b : List T37D × Int × Unit) =>
 bif !decide (b.2.1 = 0) then some ([], b.2)
 else
 Option.bind (F53 (x.1, ()))
 fun (b_1 : T37D × Bool × Unit) =>
 bif !b_1.2.1 then some ([], 6, ()) else some (b.1, 0, ())
def S76 : Sig := ⟨P76, R76, F76⟩
noncomputable def E76 : Env := { tab := tab, nt := 31, Γ := lookG [(53, [S53]), (79, [S79])], joins := lookN [], loops := lookN [] }
theorem raw76_eq (x : List T37D × Int × Int × Unit) : afun E76 Try.f76 P76 R76 x = F76 x := by kernel_rfl
-- (decamp/index.Index).Del
def F47 (x : T32D × List UInt8 × List UInt8 × Int × Int × Unit) : Option (T32D × Int × Int × Unit) :=
 Option.bind (F16 (x.2.1, x.2.2.1, ())) fun (b : Bool × Unit) =>
 bif !b.1 then some (((Tree.leaf, ()), ()), 0, 1, ())
 else
 Option.bind (F62 (x.1, x.2.1, x.2.2.1, ()))
 fun (b : List (List UInt8 × List T37D × Unit) × Unit) =>
 iterE
 (Int × Int × (Tree (List UInt8) (List T37D) × Unit) × (Tree (List UInt8) (List T37D) × Unit) × Unit)
 (((Tree (List UInt8) (List T37D) × Unit) × Unit) × Int × Int × Unit)
 (fun
 (x_1 :
 Int × Int × (Tree (List UInt8) (List T37D) × Unit) × (Tree (List UInt8) (List T37D) × Unit) × Unit) =>
 bif decide (x_1.2.1 < Int.ofNat (List.length b.1)) then
 Option.bind (idxN b.1 x_1.2.1) fun (b_1 : Nat) =>
 Option.bind b.1[b_1]?
 fun (b : List UInt8 × List T37D × Unit) =>
 Option.bind (F53 b.2)
 fun (b_2 : T37D × Bool × Unit) =>
 bif !b_2.2.1 then
 some (Sum.inl (x_1.1, wrap64 (x_1.2.1 + 1), x_1.2.2))
 else
 Option.bind (F76 (b.2.1, x.2.2.2))
 fun (b_3 : List T37D × Int × Unit) =>
 bif !decide (b_3.2.1 = 0) then
 some (Sum.inr (((Tree.leaf, ()), ()), 0, b_3.2))
 else
 Option.bind (F69 (x_1.2.2.2, b.1, b_3.1, ()))
 fun
 (b :
 ((Tree (List UInt8) (List T37D) × Unit) × Unit) × Unit) =>
 some
 (Sum.inl
 (wrap64 (x_1.1 + 1), wrap64 (x_1.2.1 + 1),
 x_1.2.2.1, b.1))
 else some (Sum.inr (x_1.2.2.2, x_1.1, 0, ())))
 big (0, 0, (Tree.leaf, ()), x.1)
def S47 : Sig := ⟨P47, R47, F47⟩
noncomputable def E47 : Env := { tab := tab, nt := 64, Γ := lookG [(16, [S16]), (53, [S53]), (62, [S62]), (69, [S69]), (76, [S76])], joins := lookN [], loops := lookN [(5, mkLoop ⟨[⟨.slot 13, (.int .i64), .pv⟩, ⟨.slot 30, (.int .i64), .pv⟩, ⟨.fld 2000 0, T30, .pv⟩, ⟨.fld 1000 0, T30, .pv⟩], [3, 4, 5, 10, 28, 29], [.row 4004001, .site 2000, .site 1000]⟩)] }
theorem raw47_eq (x : T32D × List UInt8 × List UInt8 × Int × Int × Unit) : afun E47 Try.f47 P47 R47 x = F47 x := by kernel_rfl
-- decamp/decampref15.Live
def F25 (x : List T51D × List UInt8 × Unit) : Option (T37D × Bool × Unit) :=
 Option.bind (F55 x) fun (b : List T37D × Unit) =>
 Option.bind (F54 (b.1, 1099511627776, ()))
 fun (b : T37D × Bool × Unit) => some b
def S25 : Sig := ⟨P25, R25, F25⟩
noncomputable def E25 : Env := { tab := tab, nt := 12, Γ := lookG [(54, [S54]), (55, [S55])], joins := lookN [], loops := lookN [] }
theorem raw25_eq (x : List T51D × List UInt8 × Unit) : afun E25 Try.f25 P25 R25 x = F25 x := by kernel_rfl
-- decamp/decampref15.Keys
def F77 (x : List T51D × List UInt8 × List UInt8 × Unit) : Option (List (List UInt8) × Unit) :=
 iterE (List (List UInt8) × Int × Unit) (List (List UInt8) × Unit)
 (fun (x_1 : List (List UInt8) × Int × Unit) =>
 bif decide (x_1.2.1 < Int.ofNat (List.length x.1)) then
 Option.bind (idx x.1 x_1.2.1)
 fun (b : List UInt8 × List T37D × Unit) =>
 Option.bind (F25 (x.1, b.1, ()))
 fun (b : T37D × Bool × Unit) =>
 bif b.2.1 then
 Option.bind (idx x.1 x_1.2.1)
 fun (b : List UInt8 × List T37D × Unit) =>
 Option.bind (F19 (x.2.1, x.2.2.1, b.1, ())) fun (b : Bool × Unit) =>
 bif b.1 then
 Option.bind (idx x.1 x_1.2.1)
 fun (b : List UInt8 × List T37D × Unit) =>
 Option.bind (appO x_1.1 [b.1]) fun (b : List (List UInt8)) =>
 some (Sum.inl (b, wrap64 (x_1.2.1 + 1), ()))
 else some (Sum.inl (x_1.1, wrap64 (x_1.2.1 + 1), ()))
 else some (Sum.inl (x_1.1, wrap64 (x_1.2.1 + 1), ()))
 else some (Sum.inr (x_1.1, ())))
 big ([], 0, ())
def S77 : Sig := ⟨P77, R77, F77⟩
noncomputable def E77 : Env := { tab := tab, nt := 47, Γ := lookG [(19, [S19]), (25, [S25])], joins := lookN [], loops := lookN [(3, mkLoop ⟨[⟨.slot 7, (.slice .str), .own false⟩, ⟨.slot 13, (.int .i64), .pv⟩], [0, 1, 2, 12], []⟩)] }
theorem raw77_eq (x : List T51D × List UInt8 × List UInt8 × Unit) : afun E77 Try.f77 P77 R77 x = F77 x := by kernel_rfl
-- decamp/decampref14.Del
def F78 (x : List T37D × Int × Int × Unit) : Option (List T37D × Int × Unit) :=
 Option.bind (F80 (x.1, (x.2.1, 0, x.2.2.1, 0, [], 0, true, ()), ()))
 fun (b : List T37D × Bool × Unit) =>
 bif !b.2.1 then some ([], 1, ())
 else
 bif decide (Int.ofNat (List.length x.1) = 0) then some ([], 6, ())
 else
 Option.bind (idx x.1 (wrap64 (Int.ofNat (List.length x.1) - 1)))
 fun (b_1 : T37D) =>
 bif b_1.2.2.2.2.2.2.1 then some ([], 6, ()) else some (b.1, 0, ())
def S78 : Sig := ⟨P78, R78, F78⟩
noncomputable def E78 : Env := { tab := tab, nt := 34, Γ := lookG [(80, [S80])], joins := lookN [], loops := lookN [] }
theorem raw78_eq (x : List T37D × Int × Int × Unit) : afun E78 Try.f78 P78 R78 x = F78 x := by kernel_rfl
-- decamp/decampref15.Del
def F48 (x : List T51D × List UInt8 × List UInt8 × Int × Int × Unit) : Option (List T51D × Int × Bool × Unit) :=
 Option.bind (F17 (x.2.1, x.2.2.1, ())) fun (b : Bool × Unit) =>
 bif !b.1 then some ([], 0, false, ())
 else
 Option.bind (F77 (x.1, x.2.1, x.2.2.1, ())) fun (b : List (List UInt8) × Unit) =>
 iterE (List (List UInt8 × List T37D × Unit) × Int × Unit)
 (List (List UInt8 × List T37D × Unit) × Int × Bool × Unit)
 (fun
 (x_1 :
 List (List UInt8 × List T37D × Unit) × Int × Unit) =>
 bif decide (x_1.2.1 < Int.ofNat (List.length b.1)) then
 Option.bind (idxN b.1 x_1.2.1) fun (b_1 : Nat) =>
 Option.bind b.1[b_1]? fun (b_2 : List UInt8) =>
 Option.bind (F55 (x_1.1, b_2, ()))
 fun (b_3 : List T37D × Unit) =>
 Option.bind (F78 (b_3.1, x.2.2.2))
 fun (b_4 : List T37D × Int × Unit) =>
 bif !decide (b_4.2.1 = 0) then some (Sum.inr ([], 0, false, ()))
 else
 Option.bind (idxN b.1 x_1.2.1) fun (b_5 : Nat) =>
 Option.bind b.1[b_5]? fun (b : List UInt8) =>
 Option.bind (F71 (x_1.1, b, b_4.1, ()))
 fun
 (b :
 List
 (List UInt8 × List T37D × Unit) × Unit) =>
 some (Sum.inl (b.1, wrap64 (x_1.2.1 + 1), ()))
 else some (Sum.inr (x_1.1, Int.ofNat (List.length b.1), true, ())))
 big (x.1, 0, ())
def S48 : Sig := ⟨P48, R48, F48⟩
noncomputable def E48 : Env := { tab := tab, nt := 55, Γ := lookG [(17, [S17]), (55, [S55]), (71, [S71]), (77, [S77]), (78, [S78])], joins := lookN [], loops := lookN [(5, mkLoop ⟨[⟨.slot 0, (.slice T51), .pv⟩, ⟨.slot 27, (.int .i64), .pv⟩], [3, 4, 13, 26], [.row 3004001]⟩)] }
theorem raw48_eq (x : List T51D × List UInt8 × List UInt8 × Int × Int × Unit) : afun E48 Try.f48 P48 R48 x = F48 x := by kernel_rfl
-- (decamp/index.Index).Add
def F49 (x : T32D × List UInt8 × T37D × Unit) : Option (T32D × Int × Unit) :=
 Option.bind (F52 (x.1.1, x.2.1, ()))
 fun (b : List T37D × Bool × Unit) =>
 Option.bind (F79 (b.1, x.2.2))
 fun (b : List T37D × Int × Unit) =>
 Option.bind (F74 (x.1, x.2.1, b))
 fun
 (b :
 ((Tree (List UInt8) (List T37D) × Unit) × Unit) × Int × Unit) =>
 some b
def S49 : Sig := ⟨P49, R49, F49⟩
noncomputable def E49 : Env := { tab := tab, nt := 32, Γ := lookG [(52, [S52]), (74, [S74]), (79, [S79])], joins := lookN [], loops := lookN [] }
theorem raw49_eq (x : T32D × List UInt8 × T37D × Unit) : afun E49 Try.f49 P49 R49 x = F49 x := by kernel_rfl
-- decamp/decampref15.Add
def F50 (x : List T51D × List UInt8 × T37D × Unit) : Option (List T51D × Bool × Unit) :=
 Option.bind (F55 (x.1, x.2.1, ()))
 fun (b : List T37D × Unit) =>
 Option.bind (F80 (b.1, x.2.2))
 fun (b : List T37D × Bool × Unit) =>
 bif !b.2.1 then some ([], false, ())
 else
 Option.bind (F15 (x.2.1, ())) fun (b_1 : Bool × Unit) =>
 bif !b_1.1 then some ([], false, ())
 else
 Option.bind (F71 (x.1, x.2.1, b.1, ()))
 fun
 (b :
 List (List UInt8 × List T37D × Unit) × Unit) =>
 some (b.1, true, ())
def S50 : Sig := ⟨P50, R50, F50⟩
noncomputable def E50 : Env := { tab := tab, nt := 29, Γ := lookG [(15, [S15]), (55, [S55]), (71, [S71]), (80, [S80])], joins := lookN [], loops := lookN [] }
theorem raw50_eq (x : List T51D × List UInt8 × T37D × Unit) : afun E50 Try.f50 P50 R50 x = F50 x := by kernel_rfl
-- decamp/decamplaw15.do
def F21 (x : T32D × List T51D × T39D × Unit) : Option (T32D × List T51D × Bool × Unit) :=
 Option.bind
 (bif decide (intOf8 x.2.2.1.1 = intOf8 (UInt8.ofNat 0)) then
 Option.bind
 (F43
 (x.1, x.2.2.1.2.1, x.2.2.1.2.2.2.1, x.2.2.1.2.2.2.2.1,
 x.2.2.1.2.2.2.2.2.1, x.2.2.1.2.2.2.2.2.2.1, ()))
 fun
 (b :
 ((Tree (List UInt8) (List T37D) × Unit) × Unit) × Int × Unit) =>
 Option.bind
 (F46
 (x.2.1, x.2.2.1.2.1, x.2.2.1.2.2.2.1, x.2.2.1.2.2.2.2.1,
 x.2.2.1.2.2.2.2.2.1, x.2.2.1.2.2.2.2.2.2.1, ()))
 fun
 (b_1 :
 List (List UInt8 × List T37D × Unit) × Bool × Unit) =>
 some (Sum.inl (b.2.1, 0, b_1.1, b_1.2.1, 0, b.1))
 else
 bif decide (intOf8 x.2.2.1.1 = intOf8 (UInt8.ofNat 1)) then
 Option.bind
 (F47
 (x.1, x.2.2.1.2.1, x.2.2.1.2.2.1, x.2.2.1.2.2.2.1,
 x.2.2.1.2.2.2.2.1, ()))
 fun
 (b :
 ((Tree (List UInt8) (List T37D) × Unit) × Unit) × Int × Int × Unit) =>
 Option.bind
 (F48
 (x.2.1, x.2.2.1.2.1, x.2.2.1.2.2.1, x.2.2.1.2.2.2.1,
 x.2.2.1.2.2.2.2.1, ()))
 fun
 (b_1 :
 List (List UInt8 × List T37D × Unit) × Int × Bool × Unit) =>
 some (Sum.inl (b.2.2.1, b.2.1, b_1.1, b_1.2.2.1, b_1.2.1, b.1))
 else
 bif decide (intOf8 x.2.2.1.1 = intOf8 (UInt8.ofNat 2)) then
 Option.bind (F49 (x.1, x.2.2.1.2.1, x.2.2.1.2.2.2.2.2.2.2))
 fun
 (b :
 ((Tree (List UInt8) (List T37D) × Unit) × Unit) × Int × Unit) =>
 Option.bind (F50 (x.2.1, x.2.2.1.2.1, x.2.2.1.2.2.2.2.2.2.2))
 fun
 (b_1 :
 List (List UInt8 × List T37D × Unit) × Bool × Unit) =>
 some (Sum.inl (b.2.1, 0, b_1.1, b_1.2.1, 0, b.1))
 else
 bif decide (intOf8 x.2.2.1.1 = intOf8 (UInt8.ofNat 3)) then
 Option.bind (F41 (x.1, x.2.2.1.2.1, x.2.2.1.2.2.1, ()))
 fun
 (b :
 ((Tree (List UInt8) (List T37D) × Unit) × Unit) × Unit) =>
 Option.bind (F42 (x.2.1, x.2.2.1.2.1, x.2.2.1.2.2.1, ()))
 fun
 (b_1 :
 List (List UInt8 × List T37D × Unit) × Unit) =>
 some (Sum.inl (0, 0, b_1.1, true, 0, b.1))
 else
 Option.bind (F39 (x.1, x.2.2.1.2.2.2.1, ()))
 fun
 (b :
 ((Tree (List UInt8) (List T37D) × Unit) × Unit) × Unit) =>
 Option.bind (F40 (x.2.1, x.2.2.1.2.2.2.1, ()))
 fun
 (b_1 :
 List (List UInt8 × List T37D × Unit) × Unit) =>
 some (Sum.inl (0, 0, b_1.1, true, 0, b.1)))
 fun
 (o :
 Int × Int × List (List UInt8 × List T37D × Unit) × Bool × Int × (Tree (List UInt8) (List T37D) × Unit) × Unit ⊕ ((Tree (List UInt8) (List T37D) × Unit) × Unit) × List (List UInt8 × List T37D × Unit) × Bool × Unit) =>
 Sum.elim
 (fun
 (x_1 :
 Int × Int × List (List UInt8 × List T37D × Unit) × Bool × Int × (Tree (List UInt8) (List T37D) × Unit) × Unit) =>
 Option.bind
 (bif !decide (x_1.1 = 0) == x_1.2.2.2.1 then some (Sum.inr (x.1, x.2.1, false, ()))
 else
 bif !x_1.2.2.2.1 then
 bif !decide (x_1.1 = 1) then some (Sum.inr (x.1, x.2.1, false, ()))
 else
 Option.bind (F27 (x_1.2.2.2.2.2, ()))
 fun
 (b :
 List (List UInt8 × List T37D × Unit) × Unit) =>
 bif !decide (Int.ofNat (List.length b.1) = 0) then
 some (Sum.inr (x.1, x.2.1, false, ()))
 else
 bif !decide (x_1.2.1 = x_1.2.2.2.2.1) then
 some (Sum.inr (x.1, x.2.1, false, ()))
 else some (Sum.inl ((Tree.leaf, ()), ()))
 else
 bif !decide (x_1.2.1 = x_1.2.2.2.2.1) then
 some (Sum.inr (x.1, x.2.1, false, ()))
 else some (Sum.inl ((Tree.leaf, ()), ())))
 fun
 (o :
 (Tree (List UInt8) (List T37D) × Unit) × Unit ⊕ ((Tree (List UInt8) (List T37D) × Unit) × Unit) × List (List UInt8 × List T37D × Unit) × Bool × Unit) =>
 Sum.elim
 (fun
 (_z :
 (Tree (List UInt8) (List T37D) × Unit) × Unit) =>
 bif !x_1.2.2.2.1 then some (x.1, x.2.1, true, ())
 else some (x_1.2.2.2.2.2, x_1.2.2.1, true, ()))
 (fun
 (val :
 ((Tree (List UInt8) (List T37D) × Unit) × Unit) × List (List UInt8 × List T37D × Unit) × Bool × Unit) =>
 some val)
 o)
 (fun
 (val :
 ((Tree (List UInt8) (List T37D) × Unit) × Unit) × List (List UInt8 × List T37D × Unit) × Bool × Unit) =>
 some val)
 o
def S21 : Sig := ⟨P21, R21, F21⟩
noncomputable def E21 : Env := { tab := tab, nt := 154, Γ := lookG [(27, [S27]), (39, [S39]), (40, [S40]), (41, [S41]), (42, [S42]), (43, [S43]), (46, [S46]), (47, [S47]), (48, [S48]), (49, [S49]), (50, [S50])], joins := lookN [(16, ⟨[⟨.slot 10, (.int .i64), .pv⟩, ⟨.slot 11, (.int .i64), .pv⟩, ⟨.slot 12, (.slice T51), .pv⟩, ⟨.slot 13, .bool, .pv⟩, ⟨.slot 14, (.int .i64), .pv⟩, ⟨.fld 1002000 0, T30, .pv⟩], [1, 3, 6, 9], [.site 1002000, .site 3000, .fld 3000 0, .site 1000, .fld 1000 0]⟩), (18, ⟨[⟨.fld 3000 0, T30, .pv⟩], [1, 3, 6, 9, 12, 13], [.site 1002000, .fld 1002000 0, .site 3000, .site 1000, .fld 1000 0]⟩)], loops := lookN [] }
theorem raw21_eq (x : T32D × List T51D × T39D × Unit) : afun E21 Try.f21 P21 R21 x = F21 x := by kernel_rfl
-- decamp/decampref14.Same
def F51 (x : List T37D × List T37D × Unit) : Option (Bool × Unit) :=
 bif !decide (Int.ofNat (List.length x.1) = Int.ofNat (List.length x.2.1)) then some (false, ())
 else
 iterE (Int × Unit) (Bool × Unit)
 (fun (x_1 : Int × Unit) =>
 bif decide (x_1.1 < Int.ofNat (List.length x.1)) then
 Option.bind (idx x.1 x_1.1) fun (b : T37D) =>
 Option.bind (idx x.2.1 x_1.1) fun (b_1 : T37D) =>
 bif
 !(decide (b.1 = b_1.1) &&
 (decide (b.2.1 = b_1.2.1) &&
 (decide (b.2.2.1 = b_1.2.2.1) &&
 (decide (b.2.2.2.1 = b_1.2.2.2.1) &&
 (decide (b.2.2.2.2.1 = b_1.2.2.2.2.1) &&
 (decide (b.2.2.2.2.2.1 = b_1.2.2.2.2.2.1) &&
 (b.2.2.2.2.2.2.1 == b_1.2.2.2.2.2.2.1 && true))))))) then
 some (Sum.inr (false, ()))
 else some (Sum.inl (wrap64 (x_1.1 + 1), ()))
 else some (Sum.inr (true, ())))
 big (0, ())
def S51 : Sig := ⟨P51, R51, F51⟩
noncomputable def E51 : Env := { tab := tab, nt := 26, Γ := lookG [], joins := lookN [], loops := lookN [(4, mkLoop ⟨[⟨.slot 13, (.int .i64), .pv⟩], [0, 1, 12], []⟩)] }
theorem raw51_eq (x : List T37D × List T37D × Unit) : afun E51 Try.f51 P51 R51 x = F51 x := by kernel_rfl
-- decamp/decampref15.Same
def F22 (x : List T51D × List T51D × Unit) : Option (Bool × Unit) :=
 bif !decide (Int.ofNat (List.length x.1) = Int.ofNat (List.length x.2.1)) then some (false, ())
 else
 iterE (Int × Unit) (Bool × Unit)
 (fun (x_1 : Int × Unit) =>
 bif decide (x_1.1 < Int.ofNat (List.length x.1)) then
 Option.bind (idx x.1 x_1.1)
 fun (b : List UInt8 × List T37D × Unit) =>
 Option.bind (idx x.2.1 x_1.1)
 fun (b_1 : List UInt8 × List T37D × Unit) =>
 bif !decide (b.1 = b_1.1) then some (Sum.inr (false, ()))
 else
 Option.bind (idx x.1 x_1.1)
 fun (b : List UInt8 × List T37D × Unit) =>
 Option.bind (idx x.2.1 x_1.1)
 fun (b_2 : List UInt8 × List T37D × Unit) =>
 Option.bind (F51 (b.2.1, b_2.2)) fun (b : Bool × Unit) =>
 bif !b.1 then some (Sum.inr (false, ()))
 else some (Sum.inl (wrap64 (x_1.1 + 1), ()))
 else some (Sum.inr (true, ())))
 big (0, ())
def S22 : Sig := ⟨P22, R22, F22⟩
noncomputable def E22 : Env := { tab := tab, nt := 42, Γ := lookG [(51, [S51])], joins := lookN [], loops := lookN [(4, mkLoop ⟨[⟨.slot 13, (.int .i64), .pv⟩], [0, 1, 12], []⟩)] }
theorem raw22_eq (x : List T51D × List T51D × Unit) : afun E22 Try.f22 P22 R22 x = F22 x := by kernel_rfl
-- decamp/decamplaw15.Of
def F23 (x : T32D × Unit) : Option (List T51D × Unit) :=
 Option.bind (F27 x)
 fun (b : List (List UInt8 × List T37D × Unit) × Unit) =>
 iterE (List (List UInt8 × List T37D × Unit) × Int × Unit)
 (List (List UInt8 × List T37D × Unit) × Unit)
 (fun
 (x :
 List (List UInt8 × List T37D × Unit) × Int × Unit) =>
 bif decide (x.2.1 < Int.ofNat (List.length b.1)) then
 Option.bind (idxN b.1 x.2.1) fun (b_1 : Nat) =>
 Option.bind b.1[b_1]?
 fun (b_2 : List UInt8 × List T37D × Unit) =>
 Option.bind (idxN b.1 x.2.1) fun (b_3 : Nat) =>
 Option.bind b.1[b_3]?
 fun (b : List UInt8 × List T37D × Unit) =>
 Option.bind (appO x.1 [(b_2.1, b.2)])
 fun
 (b :
 List (List UInt8 × List T37D × Unit)) =>
 some (Sum.inl (b, wrap64 (x.2.1 + 1), ()))
 else some (Sum.inr (x.1, ())))
 big ([], 0, ())
def S23 : Sig := ⟨P23, R23, F23⟩
noncomputable def E23 : Env := { tab := tab, nt := 29, Γ := lookG [(27, [S27])], joins := lookN [], loops := lookN [(4, mkLoop ⟨[⟨.slot 3, (.slice T51), .own false⟩, ⟨.slot 10, (.int .i64), .pv⟩], [4, 9], [.row 2002001]⟩)] }
theorem raw23_eq (x : T32D × Unit) : afun E23 Try.f23 P23 R23 x = F23 x := by kernel_rfl
-- decamp/decamplaw15.IndexPlays
-- decamp/decamplaw15.made
def F26 (x : List T39D × Unit) : Option (T32D × List T51D × Bool × Unit) :=
 iterE
 (List (List UInt8 × List T37D × Unit) × Int × (Tree (List UInt8) (List T37D) × Unit) × (Tree (List UInt8) (List T37D) × Unit) × Unit)
 (((Tree (List UInt8) (List T37D) × Unit) × Unit) × List (List UInt8 × List T37D × Unit) × Bool × Unit)
 (fun
 (x_1 :
 List (List UInt8 × List T37D × Unit) × Int × (Tree (List UInt8) (List T37D) × Unit) × (Tree (List UInt8) (List T37D) × Unit) × Unit) =>
 bif decide (x_1.2.1 < Int.ofNat (List.length x.1)) then
 Option.bind (idx x.1 x_1.2.1)
 fun
 (b :
 T39D) =>
 Option.bind (F21 ((x_1.2.2.1, ()), x_1.1, b, ()))
 fun
 (b :
 ((Tree (List UInt8) (List T37D) × Unit) × Unit) × List (List UInt8 × List T37D × Unit) × Bool × Unit) =>
 bif !b.2.2.1 then some (Sum.inr (b.1, b.2.1, false, ()))
 else some (Sum.inl (b.2.1, wrap64 (x_1.2.1 + 1), b.1.1, x_1.2.2.2))
 else some (Sum.inr ((x_1.2.2.1, ()), x_1.1, true, ())))
 big ([], 0, (Tree.leaf, ()), (Tree.leaf, ()), ())
def S26 : Sig := ⟨P26, R26, F26⟩
noncomputable def E26 : Env := { tab := tab, nt := 32, Γ := lookG [(21, [S21])], joins := lookN [], loops := lookN [(5, mkLoop ⟨[⟨.slot 6, (.slice T51), .pv⟩, ⟨.slot 11, (.int .i64), .pv⟩, ⟨.fld 1001000 0, T30, .pv⟩, ⟨.fld 1000 0, T30, .pv⟩], [0, 2, 5, 10], [.site 1001000, .site 1000]⟩)] }
theorem raw26_eq (x : List T39D × Unit) : afun E26 Try.f26 P26 R26 x = F26 x := by kernel_rfl
-- decamp/decamplaw15.IndexOwn
def F5 (x : List T39D × List T39D × Unit) : Option (Bool × Unit) :=
 Option.bind (F13 ()) fun (b : Bool × Unit) =>
 bif !b.1 then Option.bind (F13 ()) fun (b : Bool × Unit) => some b
 else
 Option.bind (F20 (x.1, 30, ())) fun (b : Bool × Unit) =>
 bif !b.1 then Option.bind (F13 ()) fun (b : Bool × Unit) => some b
 else
 Option.bind (F20 (x.2.1, 30, ())) fun (b : Bool × Unit) =>
 bif !b.1 then Option.bind (F13 ()) fun (b : Bool × Unit) => some b
 else
 Option.bind (F26 (x.1, ()))
 fun
 (b :
 ((Tree (List UInt8) (List T37D) × Unit) × Unit) × List (List UInt8 × List T37D × Unit) × Bool × Unit) =>
 bif !b.2.2.1 then some (false, ())
 else
 iterE
 (List (List UInt8 × List T37D × Unit) × Int × (Tree (List UInt8) (List T37D) × Unit) × Unit)
 (Bool × Unit)
 (fun
 (x_1 :
 List (List UInt8 × List T37D × Unit) × Int × (Tree (List UInt8) (List T37D) × Unit) × Unit) =>
 bif decide (x_1.2.1 < Int.ofNat (List.length x.2.1)) then
 Option.bind (idx x.2.1 x_1.2.1)
 fun
 (b :
 T39D) =>
 Option.bind (F21 (x_1.2.2, x_1.1, b, ()))
 fun
 (b :
 ((Tree (List UInt8) (List T37D) × Unit) × Unit) × List
 (List UInt8 × List T37D × Unit) × Bool × Unit) =>
 bif !b.2.2.1 then some (Sum.inr (false, ()))
 else some (Sum.inl (b.2.1, wrap64 (x_1.2.1 + 1), b.1))
 else
 Option.map Sum.inr
 (Option.bind (F27z (b.1, ()))
 fun
 (b_1 :
 List
 (List UInt8 × List T37D × Unit) × Unit) =>
 iterE
 ((List
 (List UInt8 × List T37D × Unit) × Int) × Int × Unit)
 (Bool × Unit)
 (fun
 (x :
 (List
 (List UInt8 × List T37D × Unit) × Int) × Int × Unit) =>
 bif decide (x.2.1 < Int.ofNat (List.length b_1.1)) then
 Option.bind
 (Option.bind (idxN x.1.1 x.2.1) fun (b : Nat) =>
 Option.bind x.1.1[b]?
 fun
 (b_2 :
 List UInt8 × List T37D × Unit) =>
 bif decide (Int.toNat x.1.2 ≤ b) then
 some
 (Sum.inl
 ((x.1.1, Int.ofNat (Int.toNat x.1.2)),
 Int.ofNat (List.length b_2.2.1), 0, ()))
 else
 Option.map Sum.inl
 (Option.bind x.1.1[b]?
 fun
 (b_3 :
 List UInt8 × List T37D × Unit) =>
 some
 ((List.set x.1.1 b (b_3.1, b_2.2.1, b_3.2.2),
 Int.ofNat (Int.toNat x.1.2)),
 Int.ofNat (List.length b_2.2.1), 0, ())))
 fun
 (o :
 (List
 (List UInt8 × List T37D × Unit) × Int) × Int × Int × Unit ⊕ (List
 (List UInt8 × List T37D × Unit) × Int) × Int × Unit ⊕ Bool × Unit) =>
 Sum.elim
 (fun
 (x_2 :
 (List
 (List UInt8 × List T37D × Unit) × Int) × Int × Int × Unit) =>
 iterE
 ((List
 (List UInt8 × List T37D × Unit) × Int) × Int × Unit)
 ((List
 (List UInt8 × List T37D × Unit) × Int) × Int × Unit ⊕ Bool × Unit)
 (fun
 (x_3 :
 (List
 (List UInt8 × List T37D × Unit) × Int) × Int × Unit) =>
 bif decide (x_3.2.1 < x_2.2.1) then
 Option.bind (idxN x_3.1.1 x.2.1) fun (b : Nat) =>
 Option.bind x_3.1.1[b]?
 fun
 (b_2 :
 List UInt8 × List T37D × Unit) =>
 bif decide (Int.toNat x_3.1.2 ≤ b) then
 Option.bind (idx b_2.2.1 x_3.2.1)
 fun
 (_z :
 T37D) =>
 none
 else
 Option.bind (idxN b_2.2.1 x_3.2.1) fun (b_3 : Nat) =>
 Option.bind b_2.2.1[b_3]?
 fun
 (b_4 :
 T37D) =>
 Option.map Sum.inl
 (Option.bind x_3.1.1[b]?
 fun
 (b_5 :
 List UInt8 × List
 T37D × Unit) =>
 some
 ((List.set x_3.1.1 b
 (b_5.1,
 List.set b_2.2.1 b_3
 (b_4.1, b_4.2.1, b_4.2.2.1,
 b_4.2.2.2.1,
 [99, 104, 97, 110, 103, 101, 100],
 b_4.2.2.2.2.2),
 b_5.2.2),
 Int.ofNat (Int.toNat x_3.1.2)),
 wrap64 (x_3.2.1 + 1), ()))
 else
 some
 (Sum.inr
 (Sum.inl
 ((x_3.1.1, Int.ofNat (Int.toNat x_3.1.2)),
 wrap64 (x.2.1 + 1), ()))))
 big ((x_2.1.1, Int.ofNat (Int.toNat x_2.1.2)), x_2.2.2))
 (fun
 (val :
 (List
 (List UInt8 × List T37D × Unit) × Int) × Int × Unit ⊕ Bool × Unit) =>
 some val)
 o
 else
 Option.map Sum.inr
 (Option.bind (F23 (b.1, ()))
 fun
 (b_2 :
 List
 (List UInt8 × List T37D × Unit) × Unit) =>
 Option.bind (F22 (b_2.1, b.2.1, ())) fun (b_3 : Bool × Unit) =>
 bif b_3.1 then
 Option.bind (F23 (x_1.2.2, ()))
 fun
 (b_4 :
 List
 (List UInt8 × List T37D × Unit) × Unit) =>
 Option.bind (F22 (b_4.1, x_1.1, ())) fun (b_5 : Bool × Unit) =>
 bif b_5.1 then
 bif decide (Int.ofNat (List.length b.2.1) = 0) then
 some (true, ())
 else
 Option.bind (idx b.2.1 0)
 fun
 (b :
 List UInt8 × List
 T37D × Unit) =>
 Option.bind (F28 b.2) fun (b : Bool × Unit) => some b
 else some (false, ())
 else some (false, ())))
 big ((b_1.1, Int.ofNat (List.length b_1.1)), 0, ())))
 big (b.2.1, 0, b.1)
def S5 : Sig := ⟨P5, R5, F5⟩
noncomputable def E5 : Env := { tab := { tab with deeps := [33, 47, 74] }, nt := 104, Γ := lookG [(13, [S13]), (20, [S20]), (21, [S21]), (22, [S22]), (23, [S23]), (26, [S26]), (27, [S27z]), (28, [S28])], joins := lookN [(19, ⟨[⟨.slot 11, (.pair (.slice T51) (.int .i64)), .deep⟩, ⟨.slot 68, (.int .i64), .pv⟩, ⟨.slot 69, (.int .i64), .pv⟩], [5, 6, 8, 9, 12, 59, 60], [.site 6003000, .fld 6003000 0, .site 3007000, .fld 3007000 0]⟩)], loops := lookN [(8, mkLoop ⟨[⟨.slot 9, (.slice T51), .pv⟩, ⟨.slot 39, (.int .i64), .pv⟩, ⟨.fld 6003000 0, T30, .pv⟩], [1, 5, 6, 8, 38], [.site 6003000, .site 3007000, .fld 3007000 0]⟩), (16, mkLoop ⟨[⟨.slot 11, (.pair (.slice T51) (.int .i64)), .deep⟩, ⟨.slot 60, (.int .i64), .pv⟩], [5, 6, 8, 9, 59], [.site 6003000, .fld 6003000 0, .site 3007000, .fld 3007000 0]⟩), (19, mkLoop ⟨[⟨.slot 11, (.pair (.slice T51) (.int .i64)), .deep⟩, ⟨.slot 69, (.int .i64), .pv⟩], [5, 6, 8, 9, 12, 59, 60, 68], [.site 6003000, .fld 6003000 0, .site 3007000, .fld 3007000 0]⟩)] }
theorem raw5_eq (x : List T39D × List T39D × Unit) : afun E5 Try.f5 P5 R5 x = F5 x := by kernel_rfl
-- (decamp/index.Index).Leased
-- decamp/decampref15.Leased
-- decamp/decamplaw15.IndexLeased
-- decamp/decampref15.begins
-- decamp/decampref15.Behind
-- internal/stringslite.HasPrefix
-- strings.HasPrefix
-- (decamp/index.Index).Behind
-- decamp/decampref15.SameItems
-- decamp/decamplaw15.IndexPages
-- (decamp/index.Index).At
-- decamp/decampref15.At
-- decamp/decamplaw15.IndexReads
-- decamp/hist.Since
-- cmp.isNaN[int64]
def F88 (x : Int × Unit) : Option (Bool × Unit) := some (!decide (x.1 = x.1), ())
-- cmp.Compare[int64]
def F66 (x : Int × Int × Unit) : Option (Int × Unit) :=
 Option.bind (F88 (x.1, ())) fun (b : Bool × Unit) =>
 Option.bind (F88 x.2) fun (b_1 : Bool × Unit) =>
 bif b.1 then bif b_1.1 then some (0, ()) else some (-1, ())
 else
 bif b_1.1 then some (1, ())
 else
 bif decide (x.1 < x.2.1) then some (-1, ())
 else bif decide (x.2.1 < x.1) then some (1, ()) else some (0, ())
-- (decamp/index.Index).Changes$1
def F65 (x : T66D × T66D × Unit) : Option (Int × Unit) :=
 Option.bind (F66 (x.1.2.1.1, x.2.1.2.1.1, ())) fun (b : Int × Unit) => some b
-- slices.swapRangeCmpFunc[decamp/api.Item]
-- slices.rotateCmpFunc[decamp/api.Item]
-- slices.symMergeCmpFunc[decamp/api.Item]
-- slices.insertionSortCmpFunc[decamp/api.Item]
def F95a (x : List T66D × Int × Int × Unit) : Option (List T66D × Unit) :=
 iterE (List T66D × Int × Unit)
 (List T66D × Unit)
 (fun (x_1 : List T66D × Int × Unit) =>
 bif decide (x_1.2.1 < x.2.2.1) then
 iterE (List T66D × Int × Unit)
 (List T66D × Int × Unit ⊕ List T66D × Unit)
 (fun
 (x_2 :
 List T66D × Int × Unit) =>
 bif decide (x.2.1 < x_2.2.1) then
 Option.bind (idxN x_2.1 x_2.2.1) fun (b : Nat) =>
 Option.bind x_2.1[b]?
 fun (b : T66D) =>
 Option.bind (idxN x_2.1 (wrap64 (x_2.2.1 - 1))) fun (b_1 : Nat) =>
 Option.bind x_2.1[b_1]?
 fun (b_2 : T66D) =>
 Option.bind (F65 (b, b_2, ())) fun (b : Int × Unit) =>
 bif decide (b.1 < 0) then
 Option.bind (idxN x_2.1 (wrap64 (x_2.2.1 - 1))) fun (b : Nat) =>
 Option.bind x_2.1[b]?
 fun
 (b : T66D) =>
 Option.bind (idxN x_2.1 x_2.2.1) fun (b_3 : Nat) =>
 Option.bind x_2.1[b_3]?
 fun
 (b_4 :
 T66D) =>
 Option.bind (idxN x_2.1 x_2.2.1) fun (b_5 : Nat) =>
 Option.bind x_2.1[b_5]?
 fun
 (_z :
 T66D) =>
 Option.bind
 (idxN (List.set x_2.1 b_5 b) (wrap64 (x_2.2.1 - 1)))
 fun (b_6 : Nat) =>
 Option.bind (List.set x_2.1 b_5 b)[b_6]?
 fun
 (_z :
 T66D) =>
 some
 (Sum.inl
 (List.set (List.set x_2.1 b_5 b) b_6 b_4,
 wrap64 (x_2.2.1 - 1), ()))
 else some (Sum.inr (Sum.inl (x_2.1, wrap64 (x_1.2.1 + 1), ())))
 else some (Sum.inr (Sum.inl (x_2.1, wrap64 (x_1.2.1 + 1), ()))))
 big x_1
 else some (Sum.inr (x_1.1, ())))
 big (x.1, wrap64 (x.2.1 + 1), ())
-- slices.stableCmpFunc[decamp/api.Item]
-- slices.SortStableFunc[[]decamp/api.Item,decamp/api.Item]
-- decamp/index.batches
-- (decamp/index.Index).Changes
-- decamp/decampref15.SameBatches
-- decamp/decampref15.revs
-- decamp/decampref15.Changes
-- decamp/decamplaw15.IndexTells
-- decamp/decamplaw15.IndexReplays
-- decamp/decamplaw15.IndexTrims
-- decamp/decamplaw15.IndexDrops
end
end Go.Proofs.Ytphdilmnielgeaa
