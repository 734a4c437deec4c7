/-
  Rmsg: by a program of the bench (seat.py).
-/
import Derived.Test.YtnlcgekolgldcaaRmsgTab
namespace Go.Proofs.Ytnlcgekolgldcaa
open Go.Sx Go
set_option maxRecDepth 100000
noncomputable section
-- bytes.Equal
def F35 (x : List UInt8 × List UInt8 × Unit) : Option (Bool × Unit) := some (decide (x.fst = x.snd.fst), ())
def S35 : Sig := ⟨P35, R35, F35⟩
noncomputable def E35 : Env := { tab := tab, nt := 10, Γ := lookG [], joins := lookN [], loops := lookN [] }
theorem raw35_eq (x : List UInt8 × List UInt8 × Unit) : afun E35 Try.f35 P35 R35 x = F35 x := by kernel_rfl
-- decamp/entry.Same$1
def F68 (x : T25D × T25D × Unit) : Option (Bool × Unit) :=
 bif decide (x.fst.fst = x.snd.fst.fst) then
 bif decide (x.fst.snd.fst = x.snd.fst.snd.fst) then
 Option.bind (F35 (x.fst.snd.snd.fst, x.snd.fst.snd.snd)) fun b => some b
 else some (false, ())
 else some (false, ())
def S68 : Sig := ⟨P68, R68, F68⟩
noncomputable def E68 : Env := { tab := tab, nt := 24, Γ := lookG [(35, [S35])], joins := lookN [], loops := lookN [] }
theorem raw68_eq (x : T25D × T25D × Unit) : afun E68 Try.f68 P68 R68 x = F68 x := by kernel_rfl
-- slices.EqualFunc[[]decamp/api.Entry,[]decamp/api.Entry,decamp/api.Entry,decamp/api.Entry]
def F67a (x : List T25D × List T25D × Unit) : Option (Bool × Unit) :=
 bif !decide (Int.ofNat (List.length x.fst) = Int.ofNat (List.length x.snd.fst)) then some (false, ())
 else
 iterE (Int × Unit) (Bool × Unit)
 (fun (x_1 : Int × Unit) =>
 bif decide (x_1.fst < Int.ofNat (List.length x.fst)) then
 Option.bind (idx x.fst x_1.fst) fun b =>
 Option.bind (idx x.snd.fst x_1.fst) fun b_1 =>
 Option.bind (F68 (b, b_1, ())) fun b =>
 bif !b.fst then some (Sum.inr (false, ()))
 else some (Sum.inl (wrap64 (x_1.fst + 1), ()))
 else some (Sum.inr (true, ())))
 big (0, ())
def S67a : Sig := ⟨P67a, R67a, F67a⟩
noncomputable def E67a : Env := { tab := tab, nt := 32, Γ := lookG [(68, [S68])], joins := lookN [], loops := lookN [(4, mkLoop ⟨[⟨.slot 17, (.int .i64), .pv⟩], [1, 2, 15, 16], []⟩)] }
theorem raw67a_eq (x : List T25D × List T25D × Unit) : afun E67a Try.f67 P67a R67a x = F67a x := by kernel_rfl
-- decamp/entry.Same
def F34 (x : List T25D × List T25D × Unit) : Option (Bool × Unit) :=
 Option.bind (F67a x) fun b => some b
def S34 : Sig := ⟨P34, R34, F34⟩
noncomputable def E34 : Env := { tab := tab, nt := 8, Γ := lookG [(67, [S67a]), (68, [S68])], joins := lookN [], loops := lookN [] }
theorem raw34_eq (x : List T25D × List T25D × Unit) : afun E34 Try.f34 P34 R34 x = F34 x := by kernel_rfl
-- decamp/rmsg.Same
def F12 (x : T27D × T27D × Unit) : Option (Bool × Unit) :=
 bif decide (x.fst.fst = x.snd.fst.fst) then
 bif decide (x.fst.snd.fst = x.snd.fst.snd.fst) then
 bif decide (x.fst.snd.snd.fst = x.snd.fst.snd.snd.fst) then
 bif decide (x.fst.snd.snd.snd.fst = x.snd.fst.snd.snd.snd.fst) then
 bif decide (x.fst.snd.snd.snd.snd.fst = x.snd.fst.snd.snd.snd.snd.fst) then
 bif decide (x.fst.snd.snd.snd.snd.snd.fst = x.snd.fst.snd.snd.snd.snd.snd.fst) then
 bif decide (x.fst.snd.snd.snd.snd.snd.snd.fst = x.snd.fst.snd.snd.snd.snd.snd.snd.fst) then
 bif decide (x.fst.snd.snd.snd.snd.snd.snd.snd.fst = x.snd.fst.snd.snd.snd.snd.snd.snd.snd.fst) then
 bif x.fst.snd.snd.snd.snd.snd.snd.snd.snd.fst == x.snd.fst.snd.snd.snd.snd.snd.snd.snd.snd.fst then
 Option.bind
 (F34
 (x.fst.snd.snd.snd.snd.snd.snd.snd.snd.snd.fst,
 x.snd.fst.snd.snd.snd.snd.snd.snd.snd.snd.snd.fst, ()))
 fun b =>
 bif b.fst then
 bif
 decide
 (x.fst.snd.snd.snd.snd.snd.snd.snd.snd.snd.snd.fst.fst =
 x.snd.fst.snd.snd.snd.snd.snd.snd.snd.snd.snd.snd.fst.fst) then
 bif
 decide
 (x.fst.snd.snd.snd.snd.snd.snd.snd.snd.snd.snd.fst.snd.fst =
 x.snd.fst.snd.snd.snd.snd.snd.snd.snd.snd.snd.snd.fst.snd.fst) then
 Option.bind
 (F35
 (x.fst.snd.snd.snd.snd.snd.snd.snd.snd.snd.snd.fst.snd.snd.fst,
 x.snd.fst.snd.snd.snd.snd.snd.snd.snd.snd.snd.snd.fst.snd.snd))
 fun b => some b
 else some (false, ())
 else some (false, ())
 else some (false, ())
 else some (false, ())
 else some (false, ())
 else some (false, ())
 else some (false, ())
 else some (false, ())
 else some (false, ())
 else some (false, ())
 else some (false, ())
 else some (false, ())
def S12 : Sig := ⟨P12, R12, F12⟩
noncomputable def E12 : Env := { tab := tab, nt := 100, Γ := lookG [(34, [S34]), (35, [S35])], joins := lookN [], loops := lookN [] }
theorem raw12_eq (x : T27D × T27D × Unit) : afun E12 Try.f12 P12 R12 x = F12 x := by kernel_rfl
-- decamp/rmsg.keep
def F25 (x : T27D × Unit) : Option (T27D × Bool × Unit) :=
 Option.bind
 (bif decide (x.fst.fst = 1) then
 bif decide (x.fst.fst = 1) then
 some
 (Sum.inl
 (x.fst.snd.snd.snd.snd.fst, x.fst.snd.snd.snd.snd.snd.fst, 0, 0, false, [], (0, 0, [], ()), 0, 0, 0,
 0, 0, 0, 0, 0, false, [], (0, 0, [], ()), ()))
 else
 bif decide (x.fst.fst = 2) then
 bif decide (x.fst.fst = 2) then
 some
 (Sum.inl
 (0, 0, 0, 0, x.fst.snd.snd.snd.snd.snd.snd.snd.snd.fst, [], (0, 0, [], ()), 0, 0, 0, 0, 0, 0, 0,
 0, false, [], (0, 0, [], ()), ()))
 else
 bif decide (x.fst.fst = 5) then
 some
 (Sum.inl
 (x.fst.snd.snd.snd.snd.fst, x.fst.snd.snd.snd.snd.snd.fst, x.fst.snd.snd.snd.snd.snd.snd.fst,
 x.fst.snd.snd.snd.snd.snd.snd.snd.fst, false, x.fst.snd.snd.snd.snd.snd.snd.snd.snd.snd.fst,
 (0, 0, [], ()), 0, 0, 0, 0, 0, 0, 0, 0, false, [], (0, 0, [], ()), ()))
 else
 bif decide (x.fst.fst = 6) then
 some
 (Sum.inl
 (x.fst.snd.snd.snd.snd.fst, 0, 0, x.fst.snd.snd.snd.snd.snd.snd.snd.fst,
 x.fst.snd.snd.snd.snd.snd.snd.snd.snd.fst, [], (0, 0, [], ()), 0, 0, 0, 0, 0, 0, 0, 0,
 false, [], (0, 0, [], ()), ()))
 else
 bif decide (x.fst.fst = 7) then
 some
 (Sum.inl
 (0, 0, 0, 0, false, [], x.fst.snd.snd.snd.snd.snd.snd.snd.snd.snd.snd.fst, 0, 0, 0, 0, 0, 0, 0, 0,
 false, [], (0, 0, [], ()), ()))
 else
 some
 (Sum.inr
 ((0, 0, 0, 0, 0, 0, 0, 0, false, [], (0, 0, [], ()), ()), false, ()))
 else
 bif decide (x.fst.fst = 4) then
 some
 (Sum.inl
 (0, 0, 0, 0, x.fst.snd.snd.snd.snd.snd.snd.snd.snd.fst, [], (0, 0, [], ()), 0, 0, 0, 0, 0, 0, 0,
 0, false, [], (0, 0, [], ()), ()))
 else
 bif decide (x.fst.fst = 5) then
 some
 (Sum.inl
 (x.fst.snd.snd.snd.snd.fst, x.fst.snd.snd.snd.snd.snd.fst, x.fst.snd.snd.snd.snd.snd.snd.fst,
 x.fst.snd.snd.snd.snd.snd.snd.snd.fst, false, x.fst.snd.snd.snd.snd.snd.snd.snd.snd.snd.fst,
 (0, 0, [], ()), 0, 0, 0, 0, 0, 0, 0, 0, false, [], (0, 0, [], ()), ()))
 else
 bif decide (x.fst.fst = 6) then
 some
 (Sum.inl
 (x.fst.snd.snd.snd.snd.fst, 0, 0, x.fst.snd.snd.snd.snd.snd.snd.snd.fst,
 x.fst.snd.snd.snd.snd.snd.snd.snd.snd.fst, [], (0, 0, [], ()), 0, 0, 0, 0, 0, 0, 0, 0,
 false, [], (0, 0, [], ()), ()))
 else
 bif decide (x.fst.fst = 7) then
 some
 (Sum.inl
 (0, 0, 0, 0, false, [], x.fst.snd.snd.snd.snd.snd.snd.snd.snd.snd.snd.fst, 0, 0, 0, 0, 0, 0, 0, 0,
 false, [], (0, 0, [], ()), ()))
 else
 some
 (Sum.inr
 ((0, 0, 0, 0, 0, 0, 0, 0, false, [], (0, 0, [], ()), ()), false, ()))
 else
 bif decide (x.fst.fst = 3) then
 some
 (Sum.inl
 (x.fst.snd.snd.snd.snd.fst, x.fst.snd.snd.snd.snd.snd.fst, 0, 0, false, [], (0, 0, [], ()), 0, 0, 0,
 0, 0, 0, 0, 0, false, [], (0, 0, [], ()), ()))
 else
 bif decide (x.fst.fst = 2) then
 bif decide (x.fst.fst = 2) then
 some
 (Sum.inl
 (0, 0, 0, 0, x.fst.snd.snd.snd.snd.snd.snd.snd.snd.fst, [], (0, 0, [], ()), 0, 0, 0, 0, 0, 0, 0,
 0, false, [], (0, 0, [], ()), ()))
 else
 bif decide (x.fst.fst = 5) then
 some
 (Sum.inl
 (x.fst.snd.snd.snd.snd.fst, x.fst.snd.snd.snd.snd.snd.fst, x.fst.snd.snd.snd.snd.snd.snd.fst,
 x.fst.snd.snd.snd.snd.snd.snd.snd.fst, false, x.fst.snd.snd.snd.snd.snd.snd.snd.snd.snd.fst,
 (0, 0, [], ()), 0, 0, 0, 0, 0, 0, 0, 0, false, [], (0, 0, [], ()), ()))
 else
 bif decide (x.fst.fst = 6) then
 some
 (Sum.inl
 (x.fst.snd.snd.snd.snd.fst, 0, 0, x.fst.snd.snd.snd.snd.snd.snd.snd.fst,
 x.fst.snd.snd.snd.snd.snd.snd.snd.snd.fst, [], (0, 0, [], ()), 0, 0, 0, 0, 0, 0, 0, 0,
 false, [], (0, 0, [], ()), ()))
 else
 bif decide (x.fst.fst = 7) then
 some
 (Sum.inl
 (0, 0, 0, 0, false, [], x.fst.snd.snd.snd.snd.snd.snd.snd.snd.snd.snd.fst, 0, 0, 0, 0, 0, 0, 0, 0,
 false, [], (0, 0, [], ()), ()))
 else
 some
 (Sum.inr
 ((0, 0, 0, 0, 0, 0, 0, 0, false, [], (0, 0, [], ()), ()), false, ()))
 else
 bif decide (x.fst.fst = 4) then
 some
 (Sum.inl
 (0, 0, 0, 0, x.fst.snd.snd.snd.snd.snd.snd.snd.snd.fst, [], (0, 0, [], ()), 0, 0, 0, 0, 0, 0, 0,
 0, false, [], (0, 0, [], ()), ()))
 else
 bif decide (x.fst.fst = 5) then
 some
 (Sum.inl
 (x.fst.snd.snd.snd.snd.fst, x.fst.snd.snd.snd.snd.snd.fst, x.fst.snd.snd.snd.snd.snd.snd.fst,
 x.fst.snd.snd.snd.snd.snd.snd.snd.fst, false, x.fst.snd.snd.snd.snd.snd.snd.snd.snd.snd.fst,
 (0, 0, [], ()), 0, 0, 0, 0, 0, 0, 0, 0, false, [], (0, 0, [], ()), ()))
 else
 bif decide (x.fst.fst = 6) then
 some
 (Sum.inl
 (x.fst.snd.snd.snd.snd.fst, 0, 0, x.fst.snd.snd.snd.snd.snd.snd.snd.fst,
 x.fst.snd.snd.snd.snd.snd.snd.snd.snd.fst, [], (0, 0, [], ()), 0, 0, 0, 0, 0, 0, 0, 0,
 false, [], (0, 0, [], ()), ()))
 else
 bif decide (x.fst.fst = 7) then
 some
 (Sum.inl
 (0, 0, 0, 0, false, [], x.fst.snd.snd.snd.snd.snd.snd.snd.snd.snd.snd.fst, 0, 0, 0, 0, 0, 0, 0, 0,
 false, [], (0, 0, [], ()), ()))
 else
 some
 (Sum.inr
 ((0, 0, 0, 0, 0, 0, 0, 0, false, [], (0, 0, [], ()), ()), false, ())))
 fun o =>
 Sum.elim
 (fun (x_1 :
 Int × Int × Int × Int × Bool × List T25D × T25D × Int × Int × Int × Int × Int × Int × Int × Int × Bool × List T25D × T25D × Unit) =>
 some
 ((x.fst.fst, x.fst.snd.fst, x.fst.snd.snd.fst, x.fst.snd.snd.snd.fst, x_1.fst, x_1.snd.fst, x_1.snd.snd.fst,
 x_1.snd.snd.snd.fst, x_1.snd.snd.snd.snd.fst, x_1.snd.snd.snd.snd.snd.fst,
 x_1.snd.snd.snd.snd.snd.snd.fst, ()),
 true, ()))
 (fun (val :
 (Int × Int × Int × Int × Int × Int × Int × Int × Bool × List T25D × T25D × Unit) × Bool × Unit) =>
 some val)
 o
def S25 : Sig := ⟨P25, R25, F25⟩
noncomputable def E25 : Env := { tab := tab, nt := 66, Γ := lookG [], joins := lookN [(16, ⟨[⟨.fld 1010000 4, (.int .i64), .pv⟩, ⟨.fld 1010000 5, (.int .i64), .pv⟩, ⟨.fld 1010000 6, (.int .i64), .pv⟩, ⟨.fld 1010000 7, (.int .i64), .pv⟩, ⟨.fld 1010000 8, .bool, .pv⟩, ⟨.fld 1010000 9, (.slice T25), .pv⟩, ⟨.fld 1010000 10, T25, .pv⟩, ⟨.fld 2000 0, (.int .i64), .pv⟩, ⟨.fld 2000 1, (.int .i64), .pv⟩, ⟨.fld 2000 2, (.int .i64), .pv⟩, ⟨.fld 2000 3, (.int .i64), .pv⟩, ⟨.fld 2000 4, (.int .i64), .pv⟩, ⟨.fld 2000 5, (.int .i64), .pv⟩, ⟨.fld 2000 6, (.int .i64), .pv⟩, ⟨.fld 2000 7, (.int .i64), .pv⟩, ⟨.fld 2000 8, .bool, .pv⟩, ⟨.fld 2000 9, (.slice T25), .own false⟩, ⟨.fld 2000 10, T25, .pv⟩], [2, 4], [.site 1010000, .fld 1010000 0, .fld 1010000 1, .fld 1010000 2, .fld 1010000 3, .site 2000]⟩)], loops := lookN [] }
theorem raw25_eq (x : T27D × Unit) : afun E25 Try.f25 P25 R25 x = F25 x := by kernel_rfl
-- decamp/rmsg.node
def F26 (x : Int × Unit) : Option (Bool × Unit) := bif decide (0 ≤ x.fst) then some (decide (x.fst < 3), ()) else some (false, ())
def S26 : Sig := ⟨P26, R26, F26⟩
noncomputable def E26 : Env := { tab := tab, nt := 9, Γ := lookG [], joins := lookN [], loops := lookN [] }
theorem raw26_eq (x : Int × Unit) : afun E26 Try.f26 P26 R26 x = F26 x := by kernel_rfl
-- decamp/rmsg.numbers
def F27 (x : List Int × Unit) : Option (Bool × Unit) :=
 iterE (Int × Unit) (Bool × Unit)
 (fun (x_1 : Int × Unit) =>
 bif decide (x_1.fst < Int.ofNat (List.length x.fst)) then
 Option.bind (idx x.fst x_1.fst) fun b =>
 bif decide (b < 0) then some (Sum.inr (false, ()))
 else
 bif decide (1099511627776 < b) then some (Sum.inr (false, ()))
 else some (Sum.inl (wrap64 (x_1.fst + 1), ()))
 else some (Sum.inr (true, ())))
 big (0, ())
def S27 : Sig := ⟨P27, R27, F27⟩
noncomputable def E27 : Env := { tab := tab, nt := 18, Γ := lookG [], joins := lookN [], loops := lookN [(2, mkLoop ⟨[⟨.slot 7, (.int .i64), .pv⟩], [5, 6], []⟩)] }
theorem raw27_eq (x : List Int × Unit) : afun E27 Try.f27 P27 R27 x = F27 x := by kernel_rfl
-- decamp/entry.number
def F64 (x : Int × Unit) : Option (Bool × Unit) :=
 bif decide (1 ≤ x.fst) then some (decide (x.fst ≤ 1099511627776), ()) else some (false, ())
def S64 : Sig := ⟨P64, R64, F64⟩
noncomputable def E64 : Env := { tab := tab, nt := 9, Γ := lookG [], joins := lookN [], loops := lookN [] }
theorem raw64_eq (x : Int × Unit) : afun E64 Try.f64 P64 R64 x = F64 x := by kernel_rfl
-- decamp/entry.Right
def F63 (x : T25D × Unit) : Option (Bool × Unit) :=
 Option.bind (F64 (x.fst.fst, ())) fun b =>
 bif b.fst then
 Option.bind (F64 (x.fst.snd.fst, ())) fun b =>
 bif b.fst then some (decide (Int.ofNat (List.length x.fst.snd.snd.fst) ≤ 12000), ())
 else some (false, ())
 else some (false, ())
def S63 : Sig := ⟨P63, R63, F63⟩
noncomputable def E63 : Env := { tab := tab, nt := 17, Γ := lookG [(64, [S64])], joins := lookN [], loops := lookN [] }
theorem raw63_eq (x : T25D × Unit) : afun E63 Try.f63 P63 R63 x = F63 x := by kernel_rfl
-- decamp/entry.Run
def F28 (x : Int × Int × List T25D × Unit) : Option (Bool × Unit) :=
 iterE (Int × Int × Int × Unit) (Bool × Unit)
 (fun (x_1 : Int × Int × Int × Unit) =>
 bif decide (x_1.snd.snd.fst < Int.ofNat (List.length x.snd.snd.fst)) then
 Option.bind (idx x.snd.snd.fst x_1.snd.snd.fst) fun b =>
 Option.bind (F63 (b, ())) fun b_1 =>
 bif !b_1.fst then some (Sum.inr (false, ()))
 else
 bif !decide (wrap64 (b.fst - 1) = x_1.fst) then some (Sum.inr (false, ()))
 else
 bif decide (b.snd.fst < x_1.snd.fst) then some (Sum.inr (false, ()))
 else some (Sum.inl (b.fst, b.snd.fst, wrap64 (x_1.snd.snd.fst + 1), ()))
 else some (Sum.inr (true, ())))
 big (x.fst, x.snd.fst, 0, ())
def S28 : Sig := ⟨P28, R28, F28⟩
noncomputable def E28 : Env := { tab := tab, nt := 36, Γ := lookG [(63, [S63])], joins := lookN [], loops := lookN [(2, mkLoop ⟨[⟨.slot 0, (.int .i64), .pv⟩, ⟨.slot 1, (.int .i64), .pv⟩, ⟨.slot 11, (.int .i64), .pv⟩], [9, 10], []⟩)] }
theorem raw28_eq (x : Int × Int × List T25D × Unit) : afun E28 Try.f28 P28 R28 x = F28 x := by kernel_rfl
-- decamp/entry.RightSnap
def F29 (x : T25D × Unit) : Option (Bool × Unit) :=
 Option.bind
 (bif decide (x.fst.fst = 0) then
 bif decide (x.fst.snd.fst = 0) then
 some (Sum.inr (decide (Int.ofNat (List.length x.fst.snd.snd.fst) = 0), ()))
 else some (Sum.inl ())
 else some (Sum.inl ()))
 fun o =>
 Sum.elim
 (fun (_z : Unit) =>
 Option.bind (F64 (x.fst.fst, ())) fun b =>
 bif b.fst then
 Option.bind (F64 (x.fst.snd.fst, ())) fun b =>
 bif b.fst then some (decide (Int.ofNat (List.length x.fst.snd.snd.fst) ≤ 50000), ())
 else some (false, ())
 else some (false, ()))
 (fun (val : Bool × Unit) => some val) o
def S29 : Sig := ⟨P29, R29, F29⟩
noncomputable def E29 : Env := { tab := tab, nt := 29, Γ := lookG [(64, [S64])], joins := lookN [(3, ⟨[], [1], [.site 1000, .fld 1000 0, .fld 1000 1, .fld 1000 2]⟩)], loops := lookN [] }
theorem raw29_eq (x : T25D × Unit) : afun E29 Try.f29 P29 R29 x = F29 x := by kernel_rfl
-- decamp/rmsg.Right
def F10 (x : T27D × Unit) : Option (Bool × Unit) :=
 Option.bind (F25 x)
 fun b =>
 bif !b.snd.fst then some (false, ())
 else
 Option.bind (F12 (b.fst, x)) fun b =>
 bif !b.fst then some (false, ())
 else
 Option.bind (F26 (x.fst.snd.fst, ())) fun b =>
 bif !b.fst then some (false, ())
 else
 Option.bind (F26 (x.fst.snd.snd.fst, ())) fun b =>
 bif !b.fst then some (false, ())
 else
 bif decide (x.fst.snd.fst = x.fst.snd.snd.fst) then some (false, ())
 else
 bif decide (x.fst.snd.snd.snd.fst < 1) then some (false, ())
 else
 Option.bind
 (F27
 ([x.fst.snd.snd.snd.fst, x.fst.snd.snd.snd.snd.fst, x.fst.snd.snd.snd.snd.snd.fst,
 x.fst.snd.snd.snd.snd.snd.snd.fst, x.fst.snd.snd.snd.snd.snd.snd.snd.fst],
 ()))
 fun b =>
 bif !b.fst then some (false, ())
 else
 bif decide (4 < Int.ofNat (List.length x.fst.snd.snd.snd.snd.snd.snd.snd.snd.snd.fst)) then
 some (false, ())
 else
 Option.bind
 (F28
 (x.fst.snd.snd.snd.snd.fst, x.fst.snd.snd.snd.snd.snd.fst,
 x.fst.snd.snd.snd.snd.snd.snd.snd.snd.snd.fst, ()))
 fun b =>
 bif !b.fst then some (false, ())
 else
 iterE (Int × Unit) (Bool × Unit)
 (fun (x_1 : Int × Unit) =>
 bif
 decide
 (x_1.fst <
 Int.ofNat (List.length x.fst.snd.snd.snd.snd.snd.snd.snd.snd.snd.fst)) then
 Option.bind (idx x.fst.snd.snd.snd.snd.snd.snd.snd.snd.snd.fst x_1.fst)
 fun b =>
 bif decide (x.fst.snd.snd.snd.fst < b.snd.fst) then
 some (Sum.inr (false, ()))
 else some (Sum.inl (wrap64 (x_1.fst + 1), ()))
 else
 Option.map Sum.inr
 (bif !decide (x.fst.fst = 7) then some (true, ())
 else
 Option.bind (F29 x.fst.snd.snd.snd.snd.snd.snd.snd.snd.snd.snd)
 fun b =>
 bif b.fst then
 some
 (decide (0 < x.fst.snd.snd.snd.snd.snd.snd.snd.snd.snd.snd.fst.fst),
 ())
 else some (false, ())))
 big (0, ())
def S10 : Sig := ⟨P10, R10, F10⟩
noncomputable def E10 : Env := { tab := tab, nt := 100, Γ := lookG [(12, [S12]), (25, [S25]), (26, [S26]), (27, [S27]), (28, [S28]), (29, [S29])], joins := lookN [], loops := lookN [(7, mkLoop ⟨[⟨.slot 76, (.int .i64), .pv⟩], [1, 74, 75], [.site 1000, .fld 1000 0, .fld 1000 1, .fld 1000 2, .fld 1000 3, .fld 1000 4, .fld 1000 5, .fld 1000 6, .fld 1000 7, .fld 1000 8, .fld 1000 9, .fld 1000 10]⟩)] }
theorem raw10_eq (x : T27D × Unit) : afun E10 Try.f10 P10 R10 x = F10 x := by kernel_rfl
-- decamp/decamplaw11.awake
def F7 (x : Unit) : Option (Bool × Unit) :=
 Option.bind (F10 ((3, 1, 0, 2, 0, 0, 0, 0, false, [], (0, 0, [], ()), ()), ()))
 fun b =>
 bif b.fst then
 Option.bind
 (F12
 ((3, 1, 0, 2, 0, 0, 0, 0, false, [], (0, 0, [], ()), ()),
 (3, 1, 0, 2, 0, 0, 0, 0, false, [], (0, 0, [], ()), ()), ()))
 fun b =>
 bif b.fst then
 Option.bind (F10 ((0, 0, 0, 0, 0, 0, 0, 0, false, [], (0, 0, [], ()), ()), ()))
 fun b => some (!b.fst, ())
 else some (false, ())
 else some (false, ())
def S7 : Sig := ⟨P7, R7, F7⟩
noncomputable def E7 : Env := { tab := tab, nt := 17, Γ := lookG [(10, [S10]), (12, [S12])], joins := lookN [], loops := lookN [] }
theorem raw7_eq (x : Unit) : afun E7 Try.f7 P7 R7 x = F7 x := by kernel_rfl
-- decamp/decampref07.Few
def F24 (x : List T25D × Int × Unit) : Option (Bool × Unit) :=
 iterE (Int × Int × Unit) (Bool × Unit)
 (fun (x_1 : Int × Int × Unit) =>
 bif decide (x_1.snd.fst < Int.ofNat (List.length x.fst)) then
 Option.bind (idx x.fst x_1.snd.fst) fun b =>
 bif decide (x.snd.fst ≤ x_1.snd.fst) then some (Sum.inr (false, ()))
 else
 bif decide (40000 < wrap64 (x_1.fst + Int.ofNat (List.length b.snd.snd.fst))) then
 some (Sum.inr (false, ()))
 else
 some
 (Sum.inl
 (wrap64 (x_1.fst + Int.ofNat (List.length b.snd.snd.fst)),
 wrap64 (x_1.snd.fst + 1), ()))
 else some (Sum.inr (true, ())))
 big (0, 0, ())
def S24 : Sig := ⟨P24, R24, F24⟩
noncomputable def E24 : Env := { tab := tab, nt := 28, Γ := lookG [], joins := lookN [], loops := lookN [(3, mkLoop ⟨[⟨.slot 5, (.int .i64), .pv⟩, ⟨.slot 9, (.int .i64), .pv⟩], [0, 1, 8], []⟩)] }
theorem raw24_eq (x : List T25D × Int × Unit) : afun E24 Try.f24 P24 R24 x = F24 x := by kernel_rfl
-- decamp/decampref11.Few
def F8 (x : T27D × Unit) : Option (Bool × Unit) :=
 Option.bind (F24 (x.fst.snd.snd.snd.snd.snd.snd.snd.snd.snd.fst, 6, ())) fun b =>
 bif b.fst then
 some
 (decide (Int.ofNat (List.length x.fst.snd.snd.snd.snd.snd.snd.snd.snd.snd.snd.fst.snd.snd.fst) ≤ 2000),
 ())
 else some (false, ())
def S8 : Sig := ⟨P8, R8, F8⟩
noncomputable def E8 : Env := { tab := tab, nt := 13, Γ := lookG [(24, [S24])], joins := lookN [], loops := lookN [] }
theorem raw8_eq (x : T27D × Unit) : afun E8 Try.f8 P8 R8 x = F8 x := by kernel_rfl
-- decamp/decamplaw11.To
def F9 (x : T27D × Unit) : Option (T27D × Unit) :=
 some x
def S9 : Sig := ⟨P9, R9, F9⟩
noncomputable def E9 : Env := { tab := tab, nt := 4, Γ := lookG [], joins := lookN [], loops := lookN [] }
theorem raw9_eq (x : T27D × Unit) : afun E9 Try.f9 P9 R9 x = F9 x := by kernel_rfl
-- decamp/decampref11.number
def F30 (x : Int × Unit) : Option (Bool × Unit) :=
 bif decide (0 ≤ x.fst) then some (decide (x.fst ≤ 1099511627776), ()) else some (false, ())
def S30 : Sig := ⟨P30, R30, F30⟩
noncomputable def E30 : Env := { tab := tab, nt := 9, Γ := lookG [], joins := lookN [], loops := lookN [] }
theorem raw30_eq (x : Int × Unit) : afun E30 Try.f30 P30 R30 x = F30 x := by kernel_rfl
-- decamp/decampref11.bare
def F31 (x : T27D × Unit) : Option (Bool × Unit) :=
 Option.bind
 (bif decide (x.fst.fst = 1) then some (Sum.inl (true, ()))
 else some (Sum.inl (decide (x.fst.fst = 3), ())))
 fun o =>
 Sum.elim
 (fun (x_1 : Bool × Unit) =>
 Option.bind
 (bif decide (x.fst.fst = 2) then some (Sum.inl (true, ()))
 else some (Sum.inl (decide (x.fst.fst = 4), ())))
 fun o =>
 Sum.elim
 (fun (x_2 : Bool × Unit) =>
 bif x_1.fst then
 bif x_1.fst then
 bif decide (x.fst.fst = 5) then
 bif decide (x.fst.fst = 5) then
 bif x_2.fst then
 bif decide (x.fst.fst = 7) then some (true, ())
 else
 bif decide (x.fst.snd.snd.snd.snd.snd.snd.snd.snd.snd.snd.fst.fst = 0) then
 bif decide (x.fst.snd.snd.snd.snd.snd.snd.snd.snd.snd.snd.fst.snd.fst = 0) then
 some
 (decide
 (Int.ofNat
 (List.length x.fst.snd.snd.snd.snd.snd.snd.snd.snd.snd.snd.fst.snd.snd.fst) =
 0),
 ())
 else some (false, ())
 else some (false, ())
 else
 bif decide (x.fst.fst = 6) then
 bif decide (x.fst.fst = 7) then some (true, ())
 else
 bif decide (x.fst.snd.snd.snd.snd.snd.snd.snd.snd.snd.snd.fst.fst = 0) then
 bif decide (x.fst.snd.snd.snd.snd.snd.snd.snd.snd.snd.snd.fst.snd.fst = 0) then
 some
 (decide
 (Int.ofNat
 (List.length x.fst.snd.snd.snd.snd.snd.snd.snd.snd.snd.snd.fst.snd.snd.fst) =
 0),
 ())
 else some (false, ())
 else some (false, ())
 else
 bif !x.fst.snd.snd.snd.snd.snd.snd.snd.snd.fst then
 bif decide (x.fst.fst = 7) then some (true, ())
 else
 bif decide (x.fst.snd.snd.snd.snd.snd.snd.snd.snd.snd.snd.fst.fst = 0) then
 bif decide (x.fst.snd.snd.snd.snd.snd.snd.snd.snd.snd.snd.fst.snd.fst = 0) then
 some
 (decide
 (Int.ofNat
 (List.length
 x.fst.snd.snd.snd.snd.snd.snd.snd.snd.snd.snd.fst.snd.snd.fst) =
 0),
 ())
 else some (false, ())
 else some (false, ())
 else some (false, ())
 else
 bif decide (x.fst.fst = 6) then
 bif x_2.fst then
 bif decide (x.fst.fst = 7) then some (true, ())
 else
 bif decide (x.fst.snd.snd.snd.snd.snd.snd.snd.snd.snd.snd.fst.fst = 0) then
 bif decide (x.fst.snd.snd.snd.snd.snd.snd.snd.snd.snd.snd.fst.snd.fst = 0) then
 some
 (decide
 (Int.ofNat
 (List.length x.fst.snd.snd.snd.snd.snd.snd.snd.snd.snd.snd.fst.snd.snd.fst) =
 0),
 ())
 else some (false, ())
 else some (false, ())
 else
 bif decide (x.fst.fst = 6) then
 bif decide (x.fst.fst = 7) then some (true, ())
 else
 bif decide (x.fst.snd.snd.snd.snd.snd.snd.snd.snd.snd.snd.fst.fst = 0) then
 bif decide (x.fst.snd.snd.snd.snd.snd.snd.snd.snd.snd.snd.fst.snd.fst = 0) then
 some
 (decide
 (Int.ofNat
 (List.length
 x.fst.snd.snd.snd.snd.snd.snd.snd.snd.snd.snd.fst.snd.snd.fst) =
 0),
 ())
 else some (false, ())
 else some (false, ())
 else
 bif !x.fst.snd.snd.snd.snd.snd.snd.snd.snd.fst then
 bif decide (x.fst.fst = 7) then some (true, ())
 else
 bif decide (x.fst.snd.snd.snd.snd.snd.snd.snd.snd.snd.snd.fst.fst = 0) then
 bif decide (x.fst.snd.snd.snd.snd.snd.snd.snd.snd.snd.snd.fst.snd.fst = 0) then
 some
 (decide
 (Int.ofNat
 (List.length
 x.fst.snd.snd.snd.snd.snd.snd.snd.snd.snd.snd.fst.snd.snd.fst) =
 0),
 ())
 else some (false, ())
 else some (false, ())
 else some (false, ())
 else
 bif decide (x.fst.snd.snd.snd.snd.snd.snd.snd.fst = 0) then
 bif x_2.fst then
 bif decide (x.fst.fst = 7) then some (true, ())
 else
 bif decide (x.fst.snd.snd.snd.snd.snd.snd.snd.snd.snd.snd.fst.fst = 0) then
 bif decide (x.fst.snd.snd.snd.snd.snd.snd.snd.snd.snd.snd.fst.snd.fst = 0) then
 some
 (decide
 (Int.ofNat
 (List.length
 x.fst.snd.snd.snd.snd.snd.snd.snd.snd.snd.snd.fst.snd.snd.fst) =
 0),
 ())
 else some (false, ())
 else some (false, ())
 else
 bif decide (x.fst.fst = 6) then
 bif decide (x.fst.fst = 7) then some (true, ())
 else
 bif decide (x.fst.snd.snd.snd.snd.snd.snd.snd.snd.snd.snd.fst.fst = 0) then
 bif decide (x.fst.snd.snd.snd.snd.snd.snd.snd.snd.snd.snd.fst.snd.fst = 0) then
 some
 (decide
 (Int.ofNat
 (List.length
 x.fst.snd.snd.snd.snd.snd.snd.snd.snd.snd.snd.fst.snd.snd.fst) =
 0),
 ())
 else some (false, ())
 else some (false, ())
 else
 bif !x.fst.snd.snd.snd.snd.snd.snd.snd.snd.fst then
 bif decide (x.fst.fst = 7) then some (true, ())
 else
 bif decide (x.fst.snd.snd.snd.snd.snd.snd.snd.snd.snd.snd.fst.fst = 0) then
 bif decide (x.fst.snd.snd.snd.snd.snd.snd.snd.snd.snd.snd.fst.snd.fst = 0) then
 some
 (decide
 (Int.ofNat
 (List.length
 x.fst.snd.snd.snd.snd.snd.snd.snd.snd.snd.snd.fst.snd.snd.fst) =
 0),
 ())
 else some (false, ())
 else some (false, ())
 else some (false, ())
 else some (false, ())
 else
 bif decide (x.fst.snd.snd.snd.snd.snd.snd.fst = 0) then
 bif decide (Int.ofNat (List.length x.fst.snd.snd.snd.snd.snd.snd.snd.snd.snd.fst) = 0) then
 bif decide (x.fst.fst = 5) then
 bif x_2.fst then
 bif decide (x.fst.fst = 7) then some (true, ())
 else
 bif decide (x.fst.snd.snd.snd.snd.snd.snd.snd.snd.snd.snd.fst.fst = 0) then
 bif decide (x.fst.snd.snd.snd.snd.snd.snd.snd.snd.snd.snd.fst.snd.fst = 0) then
 some
 (decide
 (Int.ofNat
 (List.length
 x.fst.snd.snd.snd.snd.snd.snd.snd.snd.snd.snd.fst.snd.snd.fst) =
 0),
 ())
 else some (false, ())
 else some (false, ())
 else
 bif decide (x.fst.fst = 6) then
 bif decide (x.fst.fst = 7) then some (true, ())
 else
 bif decide (x.fst.snd.snd.snd.snd.snd.snd.snd.snd.snd.snd.fst.fst = 0) then
 bif decide (x.fst.snd.snd.snd.snd.snd.snd.snd.snd.snd.snd.fst.snd.fst = 0) then
 some
 (decide
 (Int.ofNat
 (List.length
 x.fst.snd.snd.snd.snd.snd.snd.snd.snd.snd.snd.fst.snd.snd.fst) =
 0),
 ())
 else some (false, ())
 else some (false, ())
 else
 bif !x.fst.snd.snd.snd.snd.snd.snd.snd.snd.fst then
 bif decide (x.fst.fst = 7) then some (true, ())
 else
 bif decide (x.fst.snd.snd.snd.snd.snd.snd.snd.snd.snd.snd.fst.fst = 0) then
 bif decide (x.fst.snd.snd.snd.snd.snd.snd.snd.snd.snd.snd.fst.snd.fst = 0) then
 some
 (decide
 (Int.ofNat
 (List.length
 x.fst.snd.snd.snd.snd.snd.snd.snd.snd.snd.snd.fst.snd.snd.fst) =
 0),
 ())
 else some (false, ())
 else some (false, ())
 else some (false, ())
 else
 bif decide (x.fst.fst = 6) then
 bif x_2.fst then
 bif decide (x.fst.fst = 7) then some (true, ())
 else
 bif decide (x.fst.snd.snd.snd.snd.snd.snd.snd.snd.snd.snd.fst.fst = 0) then
 bif decide (x.fst.snd.snd.snd.snd.snd.snd.snd.snd.snd.snd.fst.snd.fst = 0) then
 some
 (decide
 (Int.ofNat
 (List.length
 x.fst.snd.snd.snd.snd.snd.snd.snd.snd.snd.snd.fst.snd.snd.fst) =
 0),
 ())
 else some (false, ())
 else some (false, ())
 else
 bif decide (x.fst.fst = 6) then
 bif decide (x.fst.fst = 7) then some (true, ())
 else
 bif decide (x.fst.snd.snd.snd.snd.snd.snd.snd.snd.snd.snd.fst.fst = 0) then
 bif decide (x.fst.snd.snd.snd.snd.snd.snd.snd.snd.snd.snd.fst.snd.fst = 0) then
 some
 (decide
 (Int.ofNat
 (List.length
 x.fst.snd.snd.snd.snd.snd.snd.snd.snd.snd.snd.fst.snd.snd.fst) =
 0),
 ())
 else some (false, ())
 else some (false, ())
 else
 bif !x.fst.snd.snd.snd.snd.snd.snd.snd.snd.fst then
 bif decide (x.fst.fst = 7) then some (true, ())
 else
 bif decide (x.fst.snd.snd.snd.snd.snd.snd.snd.snd.snd.snd.fst.fst = 0) then
 bif decide (x.fst.snd.snd.snd.snd.snd.snd.snd.snd.snd.snd.fst.snd.fst = 0) then
 some
 (decide
 (Int.ofNat
 (List.length
 x.fst.snd.snd.snd.snd.snd.snd.snd.snd.snd.snd.fst.snd.snd.fst) =
 0),
 ())
 else some (false, ())
 else some (false, ())
 else some (false, ())
 else
 bif decide (x.fst.snd.snd.snd.snd.snd.snd.snd.fst = 0) then
 bif x_2.fst then
 bif decide (x.fst.fst = 7) then some (true, ())
 else
 bif decide (x.fst.snd.snd.snd.snd.snd.snd.snd.snd.snd.snd.fst.fst = 0) then
 bif decide (x.fst.snd.snd.snd.snd.snd.snd.snd.snd.snd.snd.fst.snd.fst = 0) then
 some
 (decide
 (Int.ofNat
 (List.length
 x.fst.snd.snd.snd.snd.snd.snd.snd.snd.snd.snd.fst.snd.snd.fst) =
 0),
 ())
 else some (false, ())
 else some (false, ())
 else
 bif decide (x.fst.fst = 6) then
 bif decide (x.fst.fst = 7) then some (true, ())
 else
 bif decide (x.fst.snd.snd.snd.snd.snd.snd.snd.snd.snd.snd.fst.fst = 0) then
 bif decide (x.fst.snd.snd.snd.snd.snd.snd.snd.snd.snd.snd.fst.snd.fst = 0) then
 some
 (decide
 (Int.ofNat
 (List.length
 x.fst.snd.snd.snd.snd.snd.snd.snd.snd.snd.snd.fst.snd.snd.fst) =
 0),
 ())
 else some (false, ())
 else some (false, ())
 else
 bif !x.fst.snd.snd.snd.snd.snd.snd.snd.snd.fst then
 bif decide (x.fst.fst = 7) then some (true, ())
 else
 bif decide (x.fst.snd.snd.snd.snd.snd.snd.snd.snd.snd.snd.fst.fst = 0) then
 bif decide (x.fst.snd.snd.snd.snd.snd.snd.snd.snd.snd.snd.fst.snd.fst = 0) then
 some
 (decide
 (Int.ofNat
 (List.length
 x.fst.snd.snd.snd.snd.snd.snd.snd.snd.snd.snd.fst.snd.snd.fst) =
 0),
 ())
 else some (false, ())
 else some (false, ())
 else some (false, ())
 else some (false, ())
 else some (false, ())
 else some (false, ())
 else
 bif decide (x.fst.fst = 5) then
 bif decide (x.fst.fst = 5) then
 bif decide (x.fst.fst = 5) then
 bif x_2.fst then
 bif decide (x.fst.fst = 7) then some (true, ())
 else
 bif decide (x.fst.snd.snd.snd.snd.snd.snd.snd.snd.snd.snd.fst.fst = 0) then
 bif decide (x.fst.snd.snd.snd.snd.snd.snd.snd.snd.snd.snd.fst.snd.fst = 0) then
 some
 (decide
 (Int.ofNat
 (List.length x.fst.snd.snd.snd.snd.snd.snd.snd.snd.snd.snd.fst.snd.snd.fst) =
 0),
 ())
 else some (false, ())
 else some (false, ())
 else
 bif decide (x.fst.fst = 6) then
 bif decide (x.fst.fst = 7) then some (true, ())
 else
 bif decide (x.fst.snd.snd.snd.snd.snd.snd.snd.snd.snd.snd.fst.fst = 0) then
 bif decide (x.fst.snd.snd.snd.snd.snd.snd.snd.snd.snd.snd.fst.snd.fst = 0) then
 some
 (decide
 (Int.ofNat
 (List.length
 x.fst.snd.snd.snd.snd.snd.snd.snd.snd.snd.snd.fst.snd.snd.fst) =
 0),
 ())
 else some (false, ())
 else some (false, ())
 else
 bif !x.fst.snd.snd.snd.snd.snd.snd.snd.snd.fst then
 bif decide (x.fst.fst = 7) then some (true, ())
 else
 bif decide (x.fst.snd.snd.snd.snd.snd.snd.snd.snd.snd.snd.fst.fst = 0) then
 bif decide (x.fst.snd.snd.snd.snd.snd.snd.snd.snd.snd.snd.fst.snd.fst = 0) then
 some
 (decide
 (Int.ofNat
 (List.length
 x.fst.snd.snd.snd.snd.snd.snd.snd.snd.snd.snd.fst.snd.snd.fst) =
 0),
 ())
 else some (false, ())
 else some (false, ())
 else some (false, ())
 else
 bif decide (x.fst.fst = 6) then
 bif x_2.fst then
 bif decide (x.fst.fst = 7) then some (true, ())
 else
 bif decide (x.fst.snd.snd.snd.snd.snd.snd.snd.snd.snd.snd.fst.fst = 0) then
 bif decide (x.fst.snd.snd.snd.snd.snd.snd.snd.snd.snd.snd.fst.snd.fst = 0) then
 some
 (decide
 (Int.ofNat
 (List.length
 x.fst.snd.snd.snd.snd.snd.snd.snd.snd.snd.snd.fst.snd.snd.fst) =
 0),
 ())
 else some (false, ())
 else some (false, ())
 else
 bif decide (x.fst.fst = 6) then
 bif decide (x.fst.fst = 7) then some (true, ())
 else
 bif decide (x.fst.snd.snd.snd.snd.snd.snd.snd.snd.snd.snd.fst.fst = 0) then
 bif decide (x.fst.snd.snd.snd.snd.snd.snd.snd.snd.snd.snd.fst.snd.fst = 0) then
 some
 (decide
 (Int.ofNat
 (List.length
 x.fst.snd.snd.snd.snd.snd.snd.snd.snd.snd.snd.fst.snd.snd.fst) =
 0),
 ())
 else some (false, ())
 else some (false, ())
 else
 bif !x.fst.snd.snd.snd.snd.snd.snd.snd.snd.fst then
 bif decide (x.fst.fst = 7) then some (true, ())
 else
 bif decide (x.fst.snd.snd.snd.snd.snd.snd.snd.snd.snd.snd.fst.fst = 0) then
 bif decide (x.fst.snd.snd.snd.snd.snd.snd.snd.snd.snd.snd.fst.snd.fst = 0) then
 some
 (decide
 (Int.ofNat
 (List.length
 x.fst.snd.snd.snd.snd.snd.snd.snd.snd.snd.snd.fst.snd.snd.fst) =
 0),
 ())
 else some (false, ())
 else some (false, ())
 else some (false, ())
 else
 bif decide (x.fst.snd.snd.snd.snd.snd.snd.snd.fst = 0) then
 bif x_2.fst then
 bif decide (x.fst.fst = 7) then some (true, ())
 else
 bif decide (x.fst.snd.snd.snd.snd.snd.snd.snd.snd.snd.snd.fst.fst = 0) then
 bif decide (x.fst.snd.snd.snd.snd.snd.snd.snd.snd.snd.snd.fst.snd.fst = 0) then
 some
 (decide
 (Int.ofNat
 (List.length
 x.fst.snd.snd.snd.snd.snd.snd.snd.snd.snd.snd.fst.snd.snd.fst) =
 0),
 ())
 else some (false, ())
 else some (false, ())
 else
 bif decide (x.fst.fst = 6) then
 bif decide (x.fst.fst = 7) then some (true, ())
 else
 bif decide (x.fst.snd.snd.snd.snd.snd.snd.snd.snd.snd.snd.fst.fst = 0) then
 bif decide (x.fst.snd.snd.snd.snd.snd.snd.snd.snd.snd.snd.fst.snd.fst = 0) then
 some
 (decide
 (Int.ofNat
 (List.length
 x.fst.snd.snd.snd.snd.snd.snd.snd.snd.snd.snd.fst.snd.snd.fst) =
 0),
 ())
 else some (false, ())
 else some (false, ())
 else
 bif !x.fst.snd.snd.snd.snd.snd.snd.snd.snd.fst then
 bif decide (x.fst.fst = 7) then some (true, ())
 else
 bif decide (x.fst.snd.snd.snd.snd.snd.snd.snd.snd.snd.snd.fst.fst = 0) then
 bif decide (x.fst.snd.snd.snd.snd.snd.snd.snd.snd.snd.snd.fst.snd.fst = 0) then
 some
 (decide
 (Int.ofNat
 (List.length
 x.fst.snd.snd.snd.snd.snd.snd.snd.snd.snd.snd.fst.snd.snd.fst) =
 0),
 ())
 else some (false, ())
 else some (false, ())
 else some (false, ())
 else some (false, ())
 else
 bif decide (x.fst.snd.snd.snd.snd.snd.snd.fst = 0) then
 bif decide (Int.ofNat (List.length x.fst.snd.snd.snd.snd.snd.snd.snd.snd.snd.fst) = 0) then
 bif decide (x.fst.fst = 5) then
 bif x_2.fst then
 bif decide (x.fst.fst = 7) then some (true, ())
 else
 bif decide (x.fst.snd.snd.snd.snd.snd.snd.snd.snd.snd.snd.fst.fst = 0) then
 bif decide (x.fst.snd.snd.snd.snd.snd.snd.snd.snd.snd.snd.fst.snd.fst = 0) then
 some
 (decide
 (Int.ofNat
 (List.length
 x.fst.snd.snd.snd.snd.snd.snd.snd.snd.snd.snd.fst.snd.snd.fst) =
 0),
 ())
 else some (false, ())
 else some (false, ())
 else
 bif decide (x.fst.fst = 6) then
 bif decide (x.fst.fst = 7) then some (true, ())
 else
 bif decide (x.fst.snd.snd.snd.snd.snd.snd.snd.snd.snd.snd.fst.fst = 0) then
 bif decide (x.fst.snd.snd.snd.snd.snd.snd.snd.snd.snd.snd.fst.snd.fst = 0) then
 some
 (decide
 (Int.ofNat
 (List.length
 x.fst.snd.snd.snd.snd.snd.snd.snd.snd.snd.snd.fst.snd.snd.fst) =
 0),
 ())
 else some (false, ())
 else some (false, ())
 else
 bif !x.fst.snd.snd.snd.snd.snd.snd.snd.snd.fst then
 bif decide (x.fst.fst = 7) then some (true, ())
 else
 bif decide (x.fst.snd.snd.snd.snd.snd.snd.snd.snd.snd.snd.fst.fst = 0) then
 bif decide (x.fst.snd.snd.snd.snd.snd.snd.snd.snd.snd.snd.fst.snd.fst = 0) then
 some
 (decide
 (Int.ofNat
 (List.length
 x.fst.snd.snd.snd.snd.snd.snd.snd.snd.snd.snd.fst.snd.snd.fst) =
 0),
 ())
 else some (false, ())
 else some (false, ())
 else some (false, ())
 else
 bif decide (x.fst.fst = 6) then
 bif x_2.fst then
 bif decide (x.fst.fst = 7) then some (true, ())
 else
 bif decide (x.fst.snd.snd.snd.snd.snd.snd.snd.snd.snd.snd.fst.fst = 0) then
 bif decide (x.fst.snd.snd.snd.snd.snd.snd.snd.snd.snd.snd.fst.snd.fst = 0) then
 some
 (decide
 (Int.ofNat
 (List.length
 x.fst.snd.snd.snd.snd.snd.snd.snd.snd.snd.snd.fst.snd.snd.fst) =
 0),
 ())
 else some (false, ())
 else some (false, ())
 else
 bif decide (x.fst.fst = 6) then
 bif decide (x.fst.fst = 7) then some (true, ())
 else
 bif decide (x.fst.snd.snd.snd.snd.snd.snd.snd.snd.snd.snd.fst.fst = 0) then
 bif decide (x.fst.snd.snd.snd.snd.snd.snd.snd.snd.snd.snd.fst.snd.fst = 0) then
 some
 (decide
 (Int.ofNat
 (List.length
 x.fst.snd.snd.snd.snd.snd.snd.snd.snd.snd.snd.fst.snd.snd.fst) =
 0),
 ())
 else some (false, ())
 else some (false, ())
 else
 bif !x.fst.snd.snd.snd.snd.snd.snd.snd.snd.fst then
 bif decide (x.fst.fst = 7) then some (true, ())
 else
 bif decide (x.fst.snd.snd.snd.snd.snd.snd.snd.snd.snd.snd.fst.fst = 0) then
 bif decide (x.fst.snd.snd.snd.snd.snd.snd.snd.snd.snd.snd.fst.snd.fst = 0) then
 some
 (decide
 (Int.ofNat
 (List.length
 x.fst.snd.snd.snd.snd.snd.snd.snd.snd.snd.snd.fst.snd.snd.fst) =
 0),
 ())
 else some (false, ())
 else some (false, ())
 else some (false, ())
 else
 bif decide (x.fst.snd.snd.snd.snd.snd.snd.snd.fst = 0) then
 bif x_2.fst then
 bif decide (x.fst.fst = 7) then some (true, ())
 else
 bif decide (x.fst.snd.snd.snd.snd.snd.snd.snd.snd.snd.snd.fst.fst = 0) then
 bif decide (x.fst.snd.snd.snd.snd.snd.snd.snd.snd.snd.snd.fst.snd.fst = 0) then
 some
 (decide
 (Int.ofNat
 (List.length
 x.fst.snd.snd.snd.snd.snd.snd.snd.snd.snd.snd.fst.snd.snd.fst) =
 0),
 ())
 else some (false, ())
 else some (false, ())
 else
 bif decide (x.fst.fst = 6) then
 bif decide (x.fst.fst = 7) then some (true, ())
 else
 bif decide (x.fst.snd.snd.snd.snd.snd.snd.snd.snd.snd.snd.fst.fst = 0) then
 bif decide (x.fst.snd.snd.snd.snd.snd.snd.snd.snd.snd.snd.fst.snd.fst = 0) then
 some
 (decide
 (Int.ofNat
 (List.length
 x.fst.snd.snd.snd.snd.snd.snd.snd.snd.snd.snd.fst.snd.snd.fst) =
 0),
 ())
 else some (false, ())
 else some (false, ())
 else
 bif !x.fst.snd.snd.snd.snd.snd.snd.snd.snd.fst then
 bif decide (x.fst.fst = 7) then some (true, ())
 else
 bif decide (x.fst.snd.snd.snd.snd.snd.snd.snd.snd.snd.snd.fst.fst = 0) then
 bif
 decide
 (x.fst.snd.snd.snd.snd.snd.snd.snd.snd.snd.snd.fst.snd.fst = 0) then
 some
 (decide
 (Int.ofNat
 (List.length
 x.fst.snd.snd.snd.snd.snd.snd.snd.snd.snd.snd.fst.snd.snd.fst) =
 0),
 ())
 else some (false, ())
 else some (false, ())
 else some (false, ())
 else some (false, ())
 else some (false, ())
 else some (false, ())
 else
 bif decide (x.fst.snd.snd.snd.snd.snd.fst = 0) then
 bif decide (x.fst.fst = 5) then
 bif decide (x.fst.fst = 5) then
 bif x_2.fst then
 bif decide (x.fst.fst = 7) then some (true, ())
 else
 bif decide (x.fst.snd.snd.snd.snd.snd.snd.snd.snd.snd.snd.fst.fst = 0) then
 bif decide (x.fst.snd.snd.snd.snd.snd.snd.snd.snd.snd.snd.fst.snd.fst = 0) then
 some
 (decide
 (Int.ofNat
 (List.length
 x.fst.snd.snd.snd.snd.snd.snd.snd.snd.snd.snd.fst.snd.snd.fst) =
 0),
 ())
 else some (false, ())
 else some (false, ())
 else
 bif decide (x.fst.fst = 6) then
 bif decide (x.fst.fst = 7) then some (true, ())
 else
 bif decide (x.fst.snd.snd.snd.snd.snd.snd.snd.snd.snd.snd.fst.fst = 0) then
 bif decide (x.fst.snd.snd.snd.snd.snd.snd.snd.snd.snd.snd.fst.snd.fst = 0) then
 some
 (decide
 (Int.ofNat
 (List.length
 x.fst.snd.snd.snd.snd.snd.snd.snd.snd.snd.snd.fst.snd.snd.fst) =
 0),
 ())
 else some (false, ())
 else some (false, ())
 else
 bif !x.fst.snd.snd.snd.snd.snd.snd.snd.snd.fst then
 bif decide (x.fst.fst = 7) then some (true, ())
 else
 bif decide (x.fst.snd.snd.snd.snd.snd.snd.snd.snd.snd.snd.fst.fst = 0) then
 bif decide (x.fst.snd.snd.snd.snd.snd.snd.snd.snd.snd.snd.fst.snd.fst = 0) then
 some
 (decide
 (Int.ofNat
 (List.length
 x.fst.snd.snd.snd.snd.snd.snd.snd.snd.snd.snd.fst.snd.snd.fst) =
 0),
 ())
 else some (false, ())
 else some (false, ())
 else some (false, ())
 else
 bif decide (x.fst.fst = 6) then
 bif x_2.fst then
 bif decide (x.fst.fst = 7) then some (true, ())
 else
 bif decide (x.fst.snd.snd.snd.snd.snd.snd.snd.snd.snd.snd.fst.fst = 0) then
 bif decide (x.fst.snd.snd.snd.snd.snd.snd.snd.snd.snd.snd.fst.snd.fst = 0) then
 some
 (decide
 (Int.ofNat
 (List.length
 x.fst.snd.snd.snd.snd.snd.snd.snd.snd.snd.snd.fst.snd.snd.fst) =
 0),
 ())
 else some (false, ())
 else some (false, ())
 else
 bif decide (x.fst.fst = 6) then
 bif decide (x.fst.fst = 7) then some (true, ())
 else
 bif decide (x.fst.snd.snd.snd.snd.snd.snd.snd.snd.snd.snd.fst.fst = 0) then
 bif decide (x.fst.snd.snd.snd.snd.snd.snd.snd.snd.snd.snd.fst.snd.fst = 0) then
 some
 (decide
 (Int.ofNat
 (List.length
 x.fst.snd.snd.snd.snd.snd.snd.snd.snd.snd.snd.fst.snd.snd.fst) =
 0),
 ())
 else some (false, ())
 else some (false, ())
 else
 bif !x.fst.snd.snd.snd.snd.snd.snd.snd.snd.fst then
 bif decide (x.fst.fst = 7) then some (true, ())
 else
 bif decide (x.fst.snd.snd.snd.snd.snd.snd.snd.snd.snd.snd.fst.fst = 0) then
 bif decide (x.fst.snd.snd.snd.snd.snd.snd.snd.snd.snd.snd.fst.snd.fst = 0) then
 some
 (decide
 (Int.ofNat
 (List.length
 x.fst.snd.snd.snd.snd.snd.snd.snd.snd.snd.snd.fst.snd.snd.fst) =
 0),
 ())
 else some (false, ())
 else some (false, ())
 else some (false, ())
 else
 bif decide (x.fst.snd.snd.snd.snd.snd.snd.snd.fst = 0) then
 bif x_2.fst then
 bif decide (x.fst.fst = 7) then some (true, ())
 else
 bif decide (x.fst.snd.snd.snd.snd.snd.snd.snd.snd.snd.snd.fst.fst = 0) then
 bif decide (x.fst.snd.snd.snd.snd.snd.snd.snd.snd.snd.snd.fst.snd.fst = 0) then
 some
 (decide
 (Int.ofNat
 (List.length
 x.fst.snd.snd.snd.snd.snd.snd.snd.snd.snd.snd.fst.snd.snd.fst) =
 0),
 ())
 else some (false, ())
 else some (false, ())
 else
 bif decide (x.fst.fst = 6) then
 bif decide (x.fst.fst = 7) then some (true, ())
 else
 bif decide (x.fst.snd.snd.snd.snd.snd.snd.snd.snd.snd.snd.fst.fst = 0) then
 bif decide (x.fst.snd.snd.snd.snd.snd.snd.snd.snd.snd.snd.fst.snd.fst = 0) then
 some
 (decide
 (Int.ofNat
 (List.length
 x.fst.snd.snd.snd.snd.snd.snd.snd.snd.snd.snd.fst.snd.snd.fst) =
 0),
 ())
 else some (false, ())
 else some (false, ())
 else
 bif !x.fst.snd.snd.snd.snd.snd.snd.snd.snd.fst then
 bif decide (x.fst.fst = 7) then some (true, ())
 else
 bif decide (x.fst.snd.snd.snd.snd.snd.snd.snd.snd.snd.snd.fst.fst = 0) then
 bif decide (x.fst.snd.snd.snd.snd.snd.snd.snd.snd.snd.snd.fst.snd.fst = 0) then
 some
 (decide
 (Int.ofNat
 (List.length
 x.fst.snd.snd.snd.snd.snd.snd.snd.snd.snd.snd.fst.snd.snd.fst) =
 0),
 ())
 else some (false, ())
 else some (false, ())
 else some (false, ())
 else some (false, ())
 else
 bif decide (x.fst.snd.snd.snd.snd.snd.snd.fst = 0) then
 bif decide (Int.ofNat (List.length x.fst.snd.snd.snd.snd.snd.snd.snd.snd.snd.fst) = 0) then
 bif decide (x.fst.fst = 5) then
 bif x_2.fst then
 bif decide (x.fst.fst = 7) then some (true, ())
 else
 bif decide (x.fst.snd.snd.snd.snd.snd.snd.snd.snd.snd.snd.fst.fst = 0) then
 bif decide (x.fst.snd.snd.snd.snd.snd.snd.snd.snd.snd.snd.fst.snd.fst = 0) then
 some
 (decide
 (Int.ofNat
 (List.length
 x.fst.snd.snd.snd.snd.snd.snd.snd.snd.snd.snd.fst.snd.snd.fst) =
 0),
 ())
 else some (false, ())
 else some (false, ())
 else
 bif decide (x.fst.fst = 6) then
 bif decide (x.fst.fst = 7) then some (true, ())
 else
 bif decide (x.fst.snd.snd.snd.snd.snd.snd.snd.snd.snd.snd.fst.fst = 0) then
 bif decide (x.fst.snd.snd.snd.snd.snd.snd.snd.snd.snd.snd.fst.snd.fst = 0) then
 some
 (decide
 (Int.ofNat
 (List.length
 x.fst.snd.snd.snd.snd.snd.snd.snd.snd.snd.snd.fst.snd.snd.fst) =
 0),
 ())
 else some (false, ())
 else some (false, ())
 else
 bif !x.fst.snd.snd.snd.snd.snd.snd.snd.snd.fst then
 bif decide (x.fst.fst = 7) then some (true, ())
 else
 bif decide (x.fst.snd.snd.snd.snd.snd.snd.snd.snd.snd.snd.fst.fst = 0) then
 bif decide (x.fst.snd.snd.snd.snd.snd.snd.snd.snd.snd.snd.fst.snd.fst = 0) then
 some
 (decide
 (Int.ofNat
 (List.length
 x.fst.snd.snd.snd.snd.snd.snd.snd.snd.snd.snd.fst.snd.snd.fst) =
 0),
 ())
 else some (false, ())
 else some (false, ())
 else some (false, ())
 else
 bif decide (x.fst.fst = 6) then
 bif x_2.fst then
 bif decide (x.fst.fst = 7) then some (true, ())
 else
 bif decide (x.fst.snd.snd.snd.snd.snd.snd.snd.snd.snd.snd.fst.fst = 0) then
 bif decide (x.fst.snd.snd.snd.snd.snd.snd.snd.snd.snd.snd.fst.snd.fst = 0) then
 some
 (decide
 (Int.ofNat
 (List.length
 x.fst.snd.snd.snd.snd.snd.snd.snd.snd.snd.snd.fst.snd.snd.fst) =
 0),
 ())
 else some (false, ())
 else some (false, ())
 else
 bif decide (x.fst.fst = 6) then
 bif decide (x.fst.fst = 7) then some (true, ())
 else
 bif decide (x.fst.snd.snd.snd.snd.snd.snd.snd.snd.snd.snd.fst.fst = 0) then
 bif decide (x.fst.snd.snd.snd.snd.snd.snd.snd.snd.snd.snd.fst.snd.fst = 0) then
 some
 (decide
 (Int.ofNat
 (List.length
 x.fst.snd.snd.snd.snd.snd.snd.snd.snd.snd.snd.fst.snd.snd.fst) =
 0),
 ())
 else some (false, ())
 else some (false, ())
 else
 bif !x.fst.snd.snd.snd.snd.snd.snd.snd.snd.fst then
 bif decide (x.fst.fst = 7) then some (true, ())
 else
 bif decide (x.fst.snd.snd.snd.snd.snd.snd.snd.snd.snd.snd.fst.fst = 0) then
 bif
 decide
 (x.fst.snd.snd.snd.snd.snd.snd.snd.snd.snd.snd.fst.snd.fst = 0) then
 some
 (decide
 (Int.ofNat
 (List.length
 x.fst.snd.snd.snd.snd.snd.snd.snd.snd.snd.snd.fst.snd.snd.fst) =
 0),
 ())
 else some (false, ())
 else some (false, ())
 else some (false, ())
 else
 bif decide (x.fst.snd.snd.snd.snd.snd.snd.snd.fst = 0) then
 bif x_2.fst then
 bif decide (x.fst.fst = 7) then some (true, ())
 else
 bif decide (x.fst.snd.snd.snd.snd.snd.snd.snd.snd.snd.snd.fst.fst = 0) then
 bif decide (x.fst.snd.snd.snd.snd.snd.snd.snd.snd.snd.snd.fst.snd.fst = 0) then
 some
 (decide
 (Int.ofNat
 (List.length
 x.fst.snd.snd.snd.snd.snd.snd.snd.snd.snd.snd.fst.snd.snd.fst) =
 0),
 ())
 else some (false, ())
 else some (false, ())
 else
 bif decide (x.fst.fst = 6) then
 bif decide (x.fst.fst = 7) then some (true, ())
 else
 bif decide (x.fst.snd.snd.snd.snd.snd.snd.snd.snd.snd.snd.fst.fst = 0) then
 bif
 decide
 (x.fst.snd.snd.snd.snd.snd.snd.snd.snd.snd.snd.fst.snd.fst = 0) then
 some
 (decide
 (Int.ofNat
 (List.length
 x.fst.snd.snd.snd.snd.snd.snd.snd.snd.snd.snd.fst.snd.snd.fst) =
 0),
 ())
 else some (false, ())
 else some (false, ())
 else
 bif !x.fst.snd.snd.snd.snd.snd.snd.snd.snd.fst then
 bif decide (x.fst.fst = 7) then some (true, ())
 else
 bif decide (x.fst.snd.snd.snd.snd.snd.snd.snd.snd.snd.snd.fst.fst = 0) then
 bif
 decide
 (x.fst.snd.snd.snd.snd.snd.snd.snd.snd.snd.snd.fst.snd.fst = 0) then
 some
 (decide
 (Int.ofNat
 (List.length
 x.fst.snd.snd.snd.snd.snd.snd.snd.snd.snd.snd.fst.snd.snd.fst) =
 0),
 ())
 else some (false, ())
 else some (false, ())
 else some (false, ())
 else some (false, ())
 else some (false, ())
 else some (false, ())
 else some (false, ())
 else
 bif decide (x.fst.fst = 5) then
 bif x_1.fst then
 bif decide (x.fst.fst = 5) then
 bif decide (x.fst.fst = 5) then
 bif x_2.fst then
 bif decide (x.fst.fst = 7) then some (true, ())
 else
 bif decide (x.fst.snd.snd.snd.snd.snd.snd.snd.snd.snd.snd.fst.fst = 0) then
 bif decide (x.fst.snd.snd.snd.snd.snd.snd.snd.snd.snd.snd.fst.snd.fst = 0) then
 some
 (decide
 (Int.ofNat
 (List.length x.fst.snd.snd.snd.snd.snd.snd.snd.snd.snd.snd.fst.snd.snd.fst) =
 0),
 ())
 else some (false, ())
 else some (false, ())
 else
 bif decide (x.fst.fst = 6) then
 bif decide (x.fst.fst = 7) then some (true, ())
 else
 bif decide (x.fst.snd.snd.snd.snd.snd.snd.snd.snd.snd.snd.fst.fst = 0) then
 bif decide (x.fst.snd.snd.snd.snd.snd.snd.snd.snd.snd.snd.fst.snd.fst = 0) then
 some
 (decide
 (Int.ofNat
 (List.length
 x.fst.snd.snd.snd.snd.snd.snd.snd.snd.snd.snd.fst.snd.snd.fst) =
 0),
 ())
 else some (false, ())
 else some (false, ())
 else
 bif !x.fst.snd.snd.snd.snd.snd.snd.snd.snd.fst then
 bif decide (x.fst.fst = 7) then some (true, ())
 else
 bif decide (x.fst.snd.snd.snd.snd.snd.snd.snd.snd.snd.snd.fst.fst = 0) then
 bif decide (x.fst.snd.snd.snd.snd.snd.snd.snd.snd.snd.snd.fst.snd.fst = 0) then
 some
 (decide
 (Int.ofNat
 (List.length
 x.fst.snd.snd.snd.snd.snd.snd.snd.snd.snd.snd.fst.snd.snd.fst) =
 0),
 ())
 else some (false, ())
 else some (false, ())
 else some (false, ())
 else
 bif decide (x.fst.fst = 6) then
 bif x_2.fst then
 bif decide (x.fst.fst = 7) then some (true, ())
 else
 bif decide (x.fst.snd.snd.snd.snd.snd.snd.snd.snd.snd.snd.fst.fst = 0) then
 bif decide (x.fst.snd.snd.snd.snd.snd.snd.snd.snd.snd.snd.fst.snd.fst = 0) then
 some
 (decide
 (Int.ofNat
 (List.length
 x.fst.snd.snd.snd.snd.snd.snd.snd.snd.snd.snd.fst.snd.snd.fst) =
 0),
 ())
 else some (false, ())
 else some (false, ())
 else
 bif decide (x.fst.fst = 6) then
 bif decide (x.fst.fst = 7) then some (true, ())
 else
 bif decide (x.fst.snd.snd.snd.snd.snd.snd.snd.snd.snd.snd.fst.fst = 0) then
 bif decide (x.fst.snd.snd.snd.snd.snd.snd.snd.snd.snd.snd.fst.snd.fst = 0) then
 some
 (decide
 (Int.ofNat
 (List.length
 x.fst.snd.snd.snd.snd.snd.snd.snd.snd.snd.snd.fst.snd.snd.fst) =
 0),
 ())
 else some (false, ())
 else some (false, ())
 else
 bif !x.fst.snd.snd.snd.snd.snd.snd.snd.snd.fst then
 bif decide (x.fst.fst = 7) then some (true, ())
 else
 bif decide (x.fst.snd.snd.snd.snd.snd.snd.snd.snd.snd.snd.fst.fst = 0) then
 bif decide (x.fst.snd.snd.snd.snd.snd.snd.snd.snd.snd.snd.fst.snd.fst = 0) then
 some
 (decide
 (Int.ofNat
 (List.length
 x.fst.snd.snd.snd.snd.snd.snd.snd.snd.snd.snd.fst.snd.snd.fst) =
 0),
 ())
 else some (false, ())
 else some (false, ())
 else some (false, ())
 else
 bif decide (x.fst.snd.snd.snd.snd.snd.snd.snd.fst = 0) then
 bif x_2.fst then
 bif decide (x.fst.fst = 7) then some (true, ())
 else
 bif decide (x.fst.snd.snd.snd.snd.snd.snd.snd.snd.snd.snd.fst.fst = 0) then
 bif decide (x.fst.snd.snd.snd.snd.snd.snd.snd.snd.snd.snd.fst.snd.fst = 0) then
 some
 (decide
 (Int.ofNat
 (List.length
 x.fst.snd.snd.snd.snd.snd.snd.snd.snd.snd.snd.fst.snd.snd.fst) =
 0),
 ())
 else some (false, ())
 else some (false, ())
 else
 bif decide (x.fst.fst = 6) then
 bif decide (x.fst.fst = 7) then some (true, ())
 else
 bif decide (x.fst.snd.snd.snd.snd.snd.snd.snd.snd.snd.snd.fst.fst = 0) then
 bif decide (x.fst.snd.snd.snd.snd.snd.snd.snd.snd.snd.snd.fst.snd.fst = 0) then
 some
 (decide
 (Int.ofNat
 (List.length
 x.fst.snd.snd.snd.snd.snd.snd.snd.snd.snd.snd.fst.snd.snd.fst) =
 0),
 ())
 else some (false, ())
 else some (false, ())
 else
 bif !x.fst.snd.snd.snd.snd.snd.snd.snd.snd.fst then
 bif decide (x.fst.fst = 7) then some (true, ())
 else
 bif decide (x.fst.snd.snd.snd.snd.snd.snd.snd.snd.snd.snd.fst.fst = 0) then
 bif decide (x.fst.snd.snd.snd.snd.snd.snd.snd.snd.snd.snd.fst.snd.fst = 0) then
 some
 (decide
 (Int.ofNat
 (List.length
 x.fst.snd.snd.snd.snd.snd.snd.snd.snd.snd.snd.fst.snd.snd.fst) =
 0),
 ())
 else some (false, ())
 else some (false, ())
 else some (false, ())
 else some (false, ())
 else
 bif decide (x.fst.snd.snd.snd.snd.snd.snd.fst = 0) then
 bif decide (Int.ofNat (List.length x.fst.snd.snd.snd.snd.snd.snd.snd.snd.snd.fst) = 0) then
 bif decide (x.fst.fst = 5) then
 bif x_2.fst then
 bif decide (x.fst.fst = 7) then some (true, ())
 else
 bif decide (x.fst.snd.snd.snd.snd.snd.snd.snd.snd.snd.snd.fst.fst = 0) then
 bif decide (x.fst.snd.snd.snd.snd.snd.snd.snd.snd.snd.snd.fst.snd.fst = 0) then
 some
 (decide
 (Int.ofNat
 (List.length
 x.fst.snd.snd.snd.snd.snd.snd.snd.snd.snd.snd.fst.snd.snd.fst) =
 0),
 ())
 else some (false, ())
 else some (false, ())
 else
 bif decide (x.fst.fst = 6) then
 bif decide (x.fst.fst = 7) then some (true, ())
 else
 bif decide (x.fst.snd.snd.snd.snd.snd.snd.snd.snd.snd.snd.fst.fst = 0) then
 bif decide (x.fst.snd.snd.snd.snd.snd.snd.snd.snd.snd.snd.fst.snd.fst = 0) then
 some
 (decide
 (Int.ofNat
 (List.length
 x.fst.snd.snd.snd.snd.snd.snd.snd.snd.snd.snd.fst.snd.snd.fst) =
 0),
 ())
 else some (false, ())
 else some (false, ())
 else
 bif !x.fst.snd.snd.snd.snd.snd.snd.snd.snd.fst then
 bif decide (x.fst.fst = 7) then some (true, ())
 else
 bif decide (x.fst.snd.snd.snd.snd.snd.snd.snd.snd.snd.snd.fst.fst = 0) then
 bif decide (x.fst.snd.snd.snd.snd.snd.snd.snd.snd.snd.snd.fst.snd.fst = 0) then
 some
 (decide
 (Int.ofNat
 (List.length
 x.fst.snd.snd.snd.snd.snd.snd.snd.snd.snd.snd.fst.snd.snd.fst) =
 0),
 ())
 else some (false, ())
 else some (false, ())
 else some (false, ())
 else
 bif decide (x.fst.fst = 6) then
 bif x_2.fst then
 bif decide (x.fst.fst = 7) then some (true, ())
 else
 bif decide (x.fst.snd.snd.snd.snd.snd.snd.snd.snd.snd.snd.fst.fst = 0) then
 bif decide (x.fst.snd.snd.snd.snd.snd.snd.snd.snd.snd.snd.fst.snd.fst = 0) then
 some
 (decide
 (Int.ofNat
 (List.length
 x.fst.snd.snd.snd.snd.snd.snd.snd.snd.snd.snd.fst.snd.snd.fst) =
 0),
 ())
 else some (false, ())
 else some (false, ())
 else
 bif decide (x.fst.fst = 6) then
 bif decide (x.fst.fst = 7) then some (true, ())
 else
 bif decide (x.fst.snd.snd.snd.snd.snd.snd.snd.snd.snd.snd.fst.fst = 0) then
 bif decide (x.fst.snd.snd.snd.snd.snd.snd.snd.snd.snd.snd.fst.snd.fst = 0) then
 some
 (decide
 (Int.ofNat
 (List.length
 x.fst.snd.snd.snd.snd.snd.snd.snd.snd.snd.snd.fst.snd.snd.fst) =
 0),
 ())
 else some (false, ())
 else some (false, ())
 else
 bif !x.fst.snd.snd.snd.snd.snd.snd.snd.snd.fst then
 bif decide (x.fst.fst = 7) then some (true, ())
 else
 bif decide (x.fst.snd.snd.snd.snd.snd.snd.snd.snd.snd.snd.fst.fst = 0) then
 bif decide (x.fst.snd.snd.snd.snd.snd.snd.snd.snd.snd.snd.fst.snd.fst = 0) then
 some
 (decide
 (Int.ofNat
 (List.length
 x.fst.snd.snd.snd.snd.snd.snd.snd.snd.snd.snd.fst.snd.snd.fst) =
 0),
 ())
 else some (false, ())
 else some (false, ())
 else some (false, ())
 else
 bif decide (x.fst.snd.snd.snd.snd.snd.snd.snd.fst = 0) then
 bif x_2.fst then
 bif decide (x.fst.fst = 7) then some (true, ())
 else
 bif decide (x.fst.snd.snd.snd.snd.snd.snd.snd.snd.snd.snd.fst.fst = 0) then
 bif decide (x.fst.snd.snd.snd.snd.snd.snd.snd.snd.snd.snd.fst.snd.fst = 0) then
 some
 (decide
 (Int.ofNat
 (List.length
 x.fst.snd.snd.snd.snd.snd.snd.snd.snd.snd.snd.fst.snd.snd.fst) =
 0),
 ())
 else some (false, ())
 else some (false, ())
 else
 bif decide (x.fst.fst = 6) then
 bif decide (x.fst.fst = 7) then some (true, ())
 else
 bif decide (x.fst.snd.snd.snd.snd.snd.snd.snd.snd.snd.snd.fst.fst = 0) then
 bif decide (x.fst.snd.snd.snd.snd.snd.snd.snd.snd.snd.snd.fst.snd.fst = 0) then
 some
 (decide
 (Int.ofNat
 (List.length
 x.fst.snd.snd.snd.snd.snd.snd.snd.snd.snd.snd.fst.snd.snd.fst) =
 0),
 ())
 else some (false, ())
 else some (false, ())
 else
 bif !x.fst.snd.snd.snd.snd.snd.snd.snd.snd.fst then
 bif decide (x.fst.fst = 7) then some (true, ())
 else
 bif decide (x.fst.snd.snd.snd.snd.snd.snd.snd.snd.snd.snd.fst.fst = 0) then
 bif
 decide
 (x.fst.snd.snd.snd.snd.snd.snd.snd.snd.snd.snd.fst.snd.fst = 0) then
 some
 (decide
 (Int.ofNat
 (List.length
 x.fst.snd.snd.snd.snd.snd.snd.snd.snd.snd.snd.fst.snd.snd.fst) =
 0),
 ())
 else some (false, ())
 else some (false, ())
 else some (false, ())
 else some (false, ())
 else some (false, ())
 else some (false, ())
 else
 bif decide (x.fst.fst = 5) then
 bif decide (x.fst.fst = 5) then
 bif decide (x.fst.fst = 5) then
 bif x_2.fst then
 bif decide (x.fst.fst = 7) then some (true, ())
 else
 bif decide (x.fst.snd.snd.snd.snd.snd.snd.snd.snd.snd.snd.fst.fst = 0) then
 bif decide (x.fst.snd.snd.snd.snd.snd.snd.snd.snd.snd.snd.fst.snd.fst = 0) then
 some
 (decide
 (Int.ofNat
 (List.length
 x.fst.snd.snd.snd.snd.snd.snd.snd.snd.snd.snd.fst.snd.snd.fst) =
 0),
 ())
 else some (false, ())
 else some (false, ())
 else
 bif decide (x.fst.fst = 6) then
 bif decide (x.fst.fst = 7) then some (true, ())
 else
 bif decide (x.fst.snd.snd.snd.snd.snd.snd.snd.snd.snd.snd.fst.fst = 0) then
 bif decide (x.fst.snd.snd.snd.snd.snd.snd.snd.snd.snd.snd.fst.snd.fst = 0) then
 some
 (decide
 (Int.ofNat
 (List.length
 x.fst.snd.snd.snd.snd.snd.snd.snd.snd.snd.snd.fst.snd.snd.fst) =
 0),
 ())
 else some (false, ())
 else some (false, ())
 else
 bif !x.fst.snd.snd.snd.snd.snd.snd.snd.snd.fst then
 bif decide (x.fst.fst = 7) then some (true, ())
 else
 bif decide (x.fst.snd.snd.snd.snd.snd.snd.snd.snd.snd.snd.fst.fst = 0) then
 bif decide (x.fst.snd.snd.snd.snd.snd.snd.snd.snd.snd.snd.fst.snd.fst = 0) then
 some
 (decide
 (Int.ofNat
 (List.length
 x.fst.snd.snd.snd.snd.snd.snd.snd.snd.snd.snd.fst.snd.snd.fst) =
 0),
 ())
 else some (false, ())
 else some (false, ())
 else some (false, ())
 else
 bif decide (x.fst.fst = 6) then
 bif x_2.fst then
 bif decide (x.fst.fst = 7) then some (true, ())
 else
 bif decide (x.fst.snd.snd.snd.snd.snd.snd.snd.snd.snd.snd.fst.fst = 0) then
 bif decide (x.fst.snd.snd.snd.snd.snd.snd.snd.snd.snd.snd.fst.snd.fst = 0) then
 some
 (decide
 (Int.ofNat
 (List.length
 x.fst.snd.snd.snd.snd.snd.snd.snd.snd.snd.snd.fst.snd.snd.fst) =
 0),
 ())
 else some (false, ())
 else some (false, ())
 else
 bif decide (x.fst.fst = 6) then
 bif decide (x.fst.fst = 7) then some (true, ())
 else
 bif decide (x.fst.snd.snd.snd.snd.snd.snd.snd.snd.snd.snd.fst.fst = 0) then
 bif decide (x.fst.snd.snd.snd.snd.snd.snd.snd.snd.snd.snd.fst.snd.fst = 0) then
 some
 (decide
 (Int.ofNat
 (List.length
 x.fst.snd.snd.snd.snd.snd.snd.snd.snd.snd.snd.fst.snd.snd.fst) =
 0),
 ())
 else some (false, ())
 else some (false, ())
 else
 bif !x.fst.snd.snd.snd.snd.snd.snd.snd.snd.fst then
 bif decide (x.fst.fst = 7) then some (true, ())
 else
 bif decide (x.fst.snd.snd.snd.snd.snd.snd.snd.snd.snd.snd.fst.fst = 0) then
 bif decide (x.fst.snd.snd.snd.snd.snd.snd.snd.snd.snd.snd.fst.snd.fst = 0) then
 some
 (decide
 (Int.ofNat
 (List.length
 x.fst.snd.snd.snd.snd.snd.snd.snd.snd.snd.snd.fst.snd.snd.fst) =
 0),
 ())
 else some (false, ())
 else some (false, ())
 else some (false, ())
 else
 bif decide (x.fst.snd.snd.snd.snd.snd.snd.snd.fst = 0) then
 bif x_2.fst then
 bif decide (x.fst.fst = 7) then some (true, ())
 else
 bif decide (x.fst.snd.snd.snd.snd.snd.snd.snd.snd.snd.snd.fst.fst = 0) then
 bif decide (x.fst.snd.snd.snd.snd.snd.snd.snd.snd.snd.snd.fst.snd.fst = 0) then
 some
 (decide
 (Int.ofNat
 (List.length
 x.fst.snd.snd.snd.snd.snd.snd.snd.snd.snd.snd.fst.snd.snd.fst) =
 0),
 ())
 else some (false, ())
 else some (false, ())
 else
 bif decide (x.fst.fst = 6) then
 bif decide (x.fst.fst = 7) then some (true, ())
 else
 bif decide (x.fst.snd.snd.snd.snd.snd.snd.snd.snd.snd.snd.fst.fst = 0) then
 bif decide (x.fst.snd.snd.snd.snd.snd.snd.snd.snd.snd.snd.fst.snd.fst = 0) then
 some
 (decide
 (Int.ofNat
 (List.length
 x.fst.snd.snd.snd.snd.snd.snd.snd.snd.snd.snd.fst.snd.snd.fst) =
 0),
 ())
 else some (false, ())
 else some (false, ())
 else
 bif !x.fst.snd.snd.snd.snd.snd.snd.snd.snd.fst then
 bif decide (x.fst.fst = 7) then some (true, ())
 else
 bif decide (x.fst.snd.snd.snd.snd.snd.snd.snd.snd.snd.snd.fst.fst = 0) then
 bif decide (x.fst.snd.snd.snd.snd.snd.snd.snd.snd.snd.snd.fst.snd.fst = 0) then
 some
 (decide
 (Int.ofNat
 (List.length
 x.fst.snd.snd.snd.snd.snd.snd.snd.snd.snd.snd.fst.snd.snd.fst) =
 0),
 ())
 else some (false, ())
 else some (false, ())
 else some (false, ())
 else some (false, ())
 else
 bif decide (x.fst.snd.snd.snd.snd.snd.snd.fst = 0) then
 bif decide (Int.ofNat (List.length x.fst.snd.snd.snd.snd.snd.snd.snd.snd.snd.fst) = 0) then
 bif decide (x.fst.fst = 5) then
 bif x_2.fst then
 bif decide (x.fst.fst = 7) then some (true, ())
 else
 bif decide (x.fst.snd.snd.snd.snd.snd.snd.snd.snd.snd.snd.fst.fst = 0) then
 bif decide (x.fst.snd.snd.snd.snd.snd.snd.snd.snd.snd.snd.fst.snd.fst = 0) then
 some
 (decide
 (Int.ofNat
 (List.length
 x.fst.snd.snd.snd.snd.snd.snd.snd.snd.snd.snd.fst.snd.snd.fst) =
 0),
 ())
 else some (false, ())
 else some (false, ())
 else
 bif decide (x.fst.fst = 6) then
 bif decide (x.fst.fst = 7) then some (true, ())
 else
 bif decide (x.fst.snd.snd.snd.snd.snd.snd.snd.snd.snd.snd.fst.fst = 0) then
 bif decide (x.fst.snd.snd.snd.snd.snd.snd.snd.snd.snd.snd.fst.snd.fst = 0) then
 some
 (decide
 (Int.ofNat
 (List.length
 x.fst.snd.snd.snd.snd.snd.snd.snd.snd.snd.snd.fst.snd.snd.fst) =
 0),
 ())
 else some (false, ())
 else some (false, ())
 else
 bif !x.fst.snd.snd.snd.snd.snd.snd.snd.snd.fst then
 bif decide (x.fst.fst = 7) then some (true, ())
 else
 bif decide (x.fst.snd.snd.snd.snd.snd.snd.snd.snd.snd.snd.fst.fst = 0) then
 bif decide (x.fst.snd.snd.snd.snd.snd.snd.snd.snd.snd.snd.fst.snd.fst = 0) then
 some
 (decide
 (Int.ofNat
 (List.length
 x.fst.snd.snd.snd.snd.snd.snd.snd.snd.snd.snd.fst.snd.snd.fst) =
 0),
 ())
 else some (false, ())
 else some (false, ())
 else some (false, ())
 else
 bif decide (x.fst.fst = 6) then
 bif x_2.fst then
 bif decide (x.fst.fst = 7) then some (true, ())
 else
 bif decide (x.fst.snd.snd.snd.snd.snd.snd.snd.snd.snd.snd.fst.fst = 0) then
 bif decide (x.fst.snd.snd.snd.snd.snd.snd.snd.snd.snd.snd.fst.snd.fst = 0) then
 some
 (decide
 (Int.ofNat
 (List.length
 x.fst.snd.snd.snd.snd.snd.snd.snd.snd.snd.snd.fst.snd.snd.fst) =
 0),
 ())
 else some (false, ())
 else some (false, ())
 else
 bif decide (x.fst.fst = 6) then
 bif decide (x.fst.fst = 7) then some (true, ())
 else
 bif decide (x.fst.snd.snd.snd.snd.snd.snd.snd.snd.snd.snd.fst.fst = 0) then
 bif decide (x.fst.snd.snd.snd.snd.snd.snd.snd.snd.snd.snd.fst.snd.fst = 0) then
 some
 (decide
 (Int.ofNat
 (List.length
 x.fst.snd.snd.snd.snd.snd.snd.snd.snd.snd.snd.fst.snd.snd.fst) =
 0),
 ())
 else some (false, ())
 else some (false, ())
 else
 bif !x.fst.snd.snd.snd.snd.snd.snd.snd.snd.fst then
 bif decide (x.fst.fst = 7) then some (true, ())
 else
 bif decide (x.fst.snd.snd.snd.snd.snd.snd.snd.snd.snd.snd.fst.fst = 0) then
 bif
 decide
 (x.fst.snd.snd.snd.snd.snd.snd.snd.snd.snd.snd.fst.snd.fst = 0) then
 some
 (decide
 (Int.ofNat
 (List.length
 x.fst.snd.snd.snd.snd.snd.snd.snd.snd.snd.snd.fst.snd.snd.fst) =
 0),
 ())
 else some (false, ())
 else some (false, ())
 else some (false, ())
 else
 bif decide (x.fst.snd.snd.snd.snd.snd.snd.snd.fst = 0) then
 bif x_2.fst then
 bif decide (x.fst.fst = 7) then some (true, ())
 else
 bif decide (x.fst.snd.snd.snd.snd.snd.snd.snd.snd.snd.snd.fst.fst = 0) then
 bif decide (x.fst.snd.snd.snd.snd.snd.snd.snd.snd.snd.snd.fst.snd.fst = 0) then
 some
 (decide
 (Int.ofNat
 (List.length
 x.fst.snd.snd.snd.snd.snd.snd.snd.snd.snd.snd.fst.snd.snd.fst) =
 0),
 ())
 else some (false, ())
 else some (false, ())
 else
 bif decide (x.fst.fst = 6) then
 bif decide (x.fst.fst = 7) then some (true, ())
 else
 bif decide (x.fst.snd.snd.snd.snd.snd.snd.snd.snd.snd.snd.fst.fst = 0) then
 bif
 decide
 (x.fst.snd.snd.snd.snd.snd.snd.snd.snd.snd.snd.fst.snd.fst = 0) then
 some
 (decide
 (Int.ofNat
 (List.length
 x.fst.snd.snd.snd.snd.snd.snd.snd.snd.snd.snd.fst.snd.snd.fst) =
 0),
 ())
 else some (false, ())
 else some (false, ())
 else
 bif !x.fst.snd.snd.snd.snd.snd.snd.snd.snd.fst then
 bif decide (x.fst.fst = 7) then some (true, ())
 else
 bif decide (x.fst.snd.snd.snd.snd.snd.snd.snd.snd.snd.snd.fst.fst = 0) then
 bif
 decide
 (x.fst.snd.snd.snd.snd.snd.snd.snd.snd.snd.snd.fst.snd.fst = 0) then
 some
 (decide
 (Int.ofNat
 (List.length
 x.fst.snd.snd.snd.snd.snd.snd.snd.snd.snd.snd.fst.snd.snd.fst) =
 0),
 ())
 else some (false, ())
 else some (false, ())
 else some (false, ())
 else some (false, ())
 else some (false, ())
 else some (false, ())
 else
 bif decide (x.fst.snd.snd.snd.snd.snd.fst = 0) then
 bif decide (x.fst.fst = 5) then
 bif decide (x.fst.fst = 5) then
 bif x_2.fst then
 bif decide (x.fst.fst = 7) then some (true, ())
 else
 bif decide (x.fst.snd.snd.snd.snd.snd.snd.snd.snd.snd.snd.fst.fst = 0) then
 bif decide (x.fst.snd.snd.snd.snd.snd.snd.snd.snd.snd.snd.fst.snd.fst = 0) then
 some
 (decide
 (Int.ofNat
 (List.length
 x.fst.snd.snd.snd.snd.snd.snd.snd.snd.snd.snd.fst.snd.snd.fst) =
 0),
 ())
 else some (false, ())
 else some (false, ())
 else
 bif decide (x.fst.fst = 6) then
 bif decide (x.fst.fst = 7) then some (true, ())
 else
 bif decide (x.fst.snd.snd.snd.snd.snd.snd.snd.snd.snd.snd.fst.fst = 0) then
 bif decide (x.fst.snd.snd.snd.snd.snd.snd.snd.snd.snd.snd.fst.snd.fst = 0) then
 some
 (decide
 (Int.ofNat
 (List.length
 x.fst.snd.snd.snd.snd.snd.snd.snd.snd.snd.snd.fst.snd.snd.fst) =
 0),
 ())
 else some (false, ())
 else some (false, ())
 else
 bif !x.fst.snd.snd.snd.snd.snd.snd.snd.snd.fst then
 bif decide (x.fst.fst = 7) then some (true, ())
 else
 bif decide (x.fst.snd.snd.snd.snd.snd.snd.snd.snd.snd.snd.fst.fst = 0) then
 bif decide (x.fst.snd.snd.snd.snd.snd.snd.snd.snd.snd.snd.fst.snd.fst = 0) then
 some
 (decide
 (Int.ofNat
 (List.length
 x.fst.snd.snd.snd.snd.snd.snd.snd.snd.snd.snd.fst.snd.snd.fst) =
 0),
 ())
 else some (false, ())
 else some (false, ())
 else some (false, ())
 else
 bif decide (x.fst.fst = 6) then
 bif x_2.fst then
 bif decide (x.fst.fst = 7) then some (true, ())
 else
 bif decide (x.fst.snd.snd.snd.snd.snd.snd.snd.snd.snd.snd.fst.fst = 0) then
 bif decide (x.fst.snd.snd.snd.snd.snd.snd.snd.snd.snd.snd.fst.snd.fst = 0) then
 some
 (decide
 (Int.ofNat
 (List.length
 x.fst.snd.snd.snd.snd.snd.snd.snd.snd.snd.snd.fst.snd.snd.fst) =
 0),
 ())
 else some (false, ())
 else some (false, ())
 else
 bif decide (x.fst.fst = 6) then
 bif decide (x.fst.fst = 7) then some (true, ())
 else
 bif decide (x.fst.snd.snd.snd.snd.snd.snd.snd.snd.snd.snd.fst.fst = 0) then
 bif decide (x.fst.snd.snd.snd.snd.snd.snd.snd.snd.snd.snd.fst.snd.fst = 0) then
 some
 (decide
 (Int.ofNat
 (List.length
 x.fst.snd.snd.snd.snd.snd.snd.snd.snd.snd.snd.fst.snd.snd.fst) =
 0),
 ())
 else some (false, ())
 else some (false, ())
 else
 bif !x.fst.snd.snd.snd.snd.snd.snd.snd.snd.fst then
 bif decide (x.fst.fst = 7) then some (true, ())
 else
 bif decide (x.fst.snd.snd.snd.snd.snd.snd.snd.snd.snd.snd.fst.fst = 0) then
 bif decide (x.fst.snd.snd.snd.snd.snd.snd.snd.snd.snd.snd.fst.snd.fst = 0) then
 some
 (decide
 (Int.ofNat
 (List.length
 x.fst.snd.snd.snd.snd.snd.snd.snd.snd.snd.snd.fst.snd.snd.fst) =
 0),
 ())
 else some (false, ())
 else some (false, ())
 else some (false, ())
 else
 bif decide (x.fst.snd.snd.snd.snd.snd.snd.snd.fst = 0) then
 bif x_2.fst then
 bif decide (x.fst.fst = 7) then some (true, ())
 else
 bif decide (x.fst.snd.snd.snd.snd.snd.snd.snd.snd.snd.snd.fst.fst = 0) then
 bif decide (x.fst.snd.snd.snd.snd.snd.snd.snd.snd.snd.snd.fst.snd.fst = 0) then
 some
 (decide
 (Int.ofNat
 (List.length
 x.fst.snd.snd.snd.snd.snd.snd.snd.snd.snd.snd.fst.snd.snd.fst) =
 0),
 ())
 else some (false, ())
 else some (false, ())
 else
 bif decide (x.fst.fst = 6) then
 bif decide (x.fst.fst = 7) then some (true, ())
 else
 bif decide (x.fst.snd.snd.snd.snd.snd.snd.snd.snd.snd.snd.fst.fst = 0) then
 bif decide (x.fst.snd.snd.snd.snd.snd.snd.snd.snd.snd.snd.fst.snd.fst = 0) then
 some
 (decide
 (Int.ofNat
 (List.length
 x.fst.snd.snd.snd.snd.snd.snd.snd.snd.snd.snd.fst.snd.snd.fst) =
 0),
 ())
 else some (false, ())
 else some (false, ())
 else
 bif !x.fst.snd.snd.snd.snd.snd.snd.snd.snd.fst then
 bif decide (x.fst.fst = 7) then some (true, ())
 else
 bif decide (x.fst.snd.snd.snd.snd.snd.snd.snd.snd.snd.snd.fst.fst = 0) then
 bif
 decide
 (x.fst.snd.snd.snd.snd.snd.snd.snd.snd.snd.snd.fst.snd.fst = 0) then
 some
 (decide
 (Int.ofNat
 (List.length
 x.fst.snd.snd.snd.snd.snd.snd.snd.snd.snd.snd.fst.snd.snd.fst) =
 0),
 ())
 else some (false, ())
 else some (false, ())
 else some (false, ())
 else some (false, ())
 else
 bif decide (x.fst.snd.snd.snd.snd.snd.snd.fst = 0) then
 bif decide (Int.ofNat (List.length x.fst.snd.snd.snd.snd.snd.snd.snd.snd.snd.fst) = 0) then
 bif decide (x.fst.fst = 5) then
 bif x_2.fst then
 bif decide (x.fst.fst = 7) then some (true, ())
 else
 bif decide (x.fst.snd.snd.snd.snd.snd.snd.snd.snd.snd.snd.fst.fst = 0) then
 bif decide (x.fst.snd.snd.snd.snd.snd.snd.snd.snd.snd.snd.fst.snd.fst = 0) then
 some
 (decide
 (Int.ofNat
 (List.length
 x.fst.snd.snd.snd.snd.snd.snd.snd.snd.snd.snd.fst.snd.snd.fst) =
 0),
 ())
 else some (false, ())
 else some (false, ())
 else
 bif decide (x.fst.fst = 6) then
 bif decide (x.fst.fst = 7) then some (true, ())
 else
 bif decide (x.fst.snd.snd.snd.snd.snd.snd.snd.snd.snd.snd.fst.fst = 0) then
 bif decide (x.fst.snd.snd.snd.snd.snd.snd.snd.snd.snd.snd.fst.snd.fst = 0) then
 some
 (decide
 (Int.ofNat
 (List.length
 x.fst.snd.snd.snd.snd.snd.snd.snd.snd.snd.snd.fst.snd.snd.fst) =
 0),
 ())
 else some (false, ())
 else some (false, ())
 else
 bif !x.fst.snd.snd.snd.snd.snd.snd.snd.snd.fst then
 bif decide (x.fst.fst = 7) then some (true, ())
 else
 bif decide (x.fst.snd.snd.snd.snd.snd.snd.snd.snd.snd.snd.fst.fst = 0) then
 bif
 decide
 (x.fst.snd.snd.snd.snd.snd.snd.snd.snd.snd.snd.fst.snd.fst = 0) then
 some
 (decide
 (Int.ofNat
 (List.length
 x.fst.snd.snd.snd.snd.snd.snd.snd.snd.snd.snd.fst.snd.snd.fst) =
 0),
 ())
 else some (false, ())
 else some (false, ())
 else some (false, ())
 else
 bif decide (x.fst.fst = 6) then
 bif x_2.fst then
 bif decide (x.fst.fst = 7) then some (true, ())
 else
 bif decide (x.fst.snd.snd.snd.snd.snd.snd.snd.snd.snd.snd.fst.fst = 0) then
 bif decide (x.fst.snd.snd.snd.snd.snd.snd.snd.snd.snd.snd.fst.snd.fst = 0) then
 some
 (decide
 (Int.ofNat
 (List.length
 x.fst.snd.snd.snd.snd.snd.snd.snd.snd.snd.snd.fst.snd.snd.fst) =
 0),
 ())
 else some (false, ())
 else some (false, ())
 else
 bif decide (x.fst.fst = 6) then
 bif decide (x.fst.fst = 7) then some (true, ())
 else
 bif decide (x.fst.snd.snd.snd.snd.snd.snd.snd.snd.snd.snd.fst.fst = 0) then
 bif
 decide
 (x.fst.snd.snd.snd.snd.snd.snd.snd.snd.snd.snd.fst.snd.fst = 0) then
 some
 (decide
 (Int.ofNat
 (List.length
 x.fst.snd.snd.snd.snd.snd.snd.snd.snd.snd.snd.fst.snd.snd.fst) =
 0),
 ())
 else some (false, ())
 else some (false, ())
 else
 bif !x.fst.snd.snd.snd.snd.snd.snd.snd.snd.fst then
 bif decide (x.fst.fst = 7) then some (true, ())
 else
 bif decide (x.fst.snd.snd.snd.snd.snd.snd.snd.snd.snd.snd.fst.fst = 0) then
 bif
 decide
 (x.fst.snd.snd.snd.snd.snd.snd.snd.snd.snd.snd.fst.snd.fst = 0) then
 some
 (decide
 (Int.ofNat
 (List.length
 x.fst.snd.snd.snd.snd.snd.snd.snd.snd.snd.snd.fst.snd.snd.fst) =
 0),
 ())
 else some (false, ())
 else some (false, ())
 else some (false, ())
 else
 bif decide (x.fst.snd.snd.snd.snd.snd.snd.snd.fst = 0) then
 bif x_2.fst then
 bif decide (x.fst.fst = 7) then some (true, ())
 else
 bif decide (x.fst.snd.snd.snd.snd.snd.snd.snd.snd.snd.snd.fst.fst = 0) then
 bif
 decide
 (x.fst.snd.snd.snd.snd.snd.snd.snd.snd.snd.snd.fst.snd.fst = 0) then
 some
 (decide
 (Int.ofNat
 (List.length
 x.fst.snd.snd.snd.snd.snd.snd.snd.snd.snd.snd.fst.snd.snd.fst) =
 0),
 ())
 else some (false, ())
 else some (false, ())
 else
 bif decide (x.fst.fst = 6) then
 bif decide (x.fst.fst = 7) then some (true, ())
 else
 bif decide (x.fst.snd.snd.snd.snd.snd.snd.snd.snd.snd.snd.fst.fst = 0) then
 bif
 decide
 (x.fst.snd.snd.snd.snd.snd.snd.snd.snd.snd.snd.fst.snd.fst = 0) then
 some
 (decide
 (Int.ofNat
 (List.length
 x.fst.snd.snd.snd.snd.snd.snd.snd.snd.snd.snd.fst.snd.snd.fst) =
 0),
 ())
 else some (false, ())
 else some (false, ())
 else
 bif !x.fst.snd.snd.snd.snd.snd.snd.snd.snd.fst then
 bif decide (x.fst.fst = 7) then some (true, ())
 else
 bif decide (x.fst.snd.snd.snd.snd.snd.snd.snd.snd.snd.snd.fst.fst = 0) then
 bif
 decide
 (x.fst.snd.snd.snd.snd.snd.snd.snd.snd.snd.snd.fst.snd.fst = 0) then
 some
 (decide
 (Int.ofNat
 (List.length
 x.fst.snd.snd.snd.snd.snd.snd.snd.snd.snd.snd.fst.snd.snd.fst) =
 0),
 ())
 else some (false, ())
 else some (false, ())
 else some (false, ())
 else some (false, ())
 else some (false, ())
 else some (false, ())
 else some (false, ())
 else
 bif decide (x.fst.fst = 6) then
 bif x_1.fst then
 bif decide (x.fst.fst = 5) then
 bif decide (x.fst.fst = 5) then
 bif x_2.fst then
 bif decide (x.fst.fst = 7) then some (true, ())
 else
 bif decide (x.fst.snd.snd.snd.snd.snd.snd.snd.snd.snd.snd.fst.fst = 0) then
 bif decide (x.fst.snd.snd.snd.snd.snd.snd.snd.snd.snd.snd.fst.snd.fst = 0) then
 some
 (decide
 (Int.ofNat
 (List.length
 x.fst.snd.snd.snd.snd.snd.snd.snd.snd.snd.snd.fst.snd.snd.fst) =
 0),
 ())
 else some (false, ())
 else some (false, ())
 else
 bif decide (x.fst.fst = 6) then
 bif decide (x.fst.fst = 7) then some (true, ())
 else
 bif decide (x.fst.snd.snd.snd.snd.snd.snd.snd.snd.snd.snd.fst.fst = 0) then
 bif decide (x.fst.snd.snd.snd.snd.snd.snd.snd.snd.snd.snd.fst.snd.fst = 0) then
 some
 (decide
 (Int.ofNat
 (List.length
 x.fst.snd.snd.snd.snd.snd.snd.snd.snd.snd.snd.fst.snd.snd.fst) =
 0),
 ())
 else some (false, ())
 else some (false, ())
 else
 bif !x.fst.snd.snd.snd.snd.snd.snd.snd.snd.fst then
 bif decide (x.fst.fst = 7) then some (true, ())
 else
 bif decide (x.fst.snd.snd.snd.snd.snd.snd.snd.snd.snd.snd.fst.fst = 0) then
 bif decide (x.fst.snd.snd.snd.snd.snd.snd.snd.snd.snd.snd.fst.snd.fst = 0) then
 some
 (decide
 (Int.ofNat
 (List.length
 x.fst.snd.snd.snd.snd.snd.snd.snd.snd.snd.snd.fst.snd.snd.fst) =
 0),
 ())
 else some (false, ())
 else some (false, ())
 else some (false, ())
 else
 bif decide (x.fst.fst = 6) then
 bif x_2.fst then
 bif decide (x.fst.fst = 7) then some (true, ())
 else
 bif decide (x.fst.snd.snd.snd.snd.snd.snd.snd.snd.snd.snd.fst.fst = 0) then
 bif decide (x.fst.snd.snd.snd.snd.snd.snd.snd.snd.snd.snd.fst.snd.fst = 0) then
 some
 (decide
 (Int.ofNat
 (List.length
 x.fst.snd.snd.snd.snd.snd.snd.snd.snd.snd.snd.fst.snd.snd.fst) =
 0),
 ())
 else some (false, ())
 else some (false, ())
 else
 bif decide (x.fst.fst = 6) then
 bif decide (x.fst.fst = 7) then some (true, ())
 else
 bif decide (x.fst.snd.snd.snd.snd.snd.snd.snd.snd.snd.snd.fst.fst = 0) then
 bif decide (x.fst.snd.snd.snd.snd.snd.snd.snd.snd.snd.snd.fst.snd.fst = 0) then
 some
 (decide
 (Int.ofNat
 (List.length
 x.fst.snd.snd.snd.snd.snd.snd.snd.snd.snd.snd.fst.snd.snd.fst) =
 0),
 ())
 else some (false, ())
 else some (false, ())
 else
 bif !x.fst.snd.snd.snd.snd.snd.snd.snd.snd.fst then
 bif decide (x.fst.fst = 7) then some (true, ())
 else
 bif decide (x.fst.snd.snd.snd.snd.snd.snd.snd.snd.snd.snd.fst.fst = 0) then
 bif decide (x.fst.snd.snd.snd.snd.snd.snd.snd.snd.snd.snd.fst.snd.fst = 0) then
 some
 (decide
 (Int.ofNat
 (List.length
 x.fst.snd.snd.snd.snd.snd.snd.snd.snd.snd.snd.fst.snd.snd.fst) =
 0),
 ())
 else some (false, ())
 else some (false, ())
 else some (false, ())
 else
 bif decide (x.fst.snd.snd.snd.snd.snd.snd.snd.fst = 0) then
 bif x_2.fst then
 bif decide (x.fst.fst = 7) then some (true, ())
 else
 bif decide (x.fst.snd.snd.snd.snd.snd.snd.snd.snd.snd.snd.fst.fst = 0) then
 bif decide (x.fst.snd.snd.snd.snd.snd.snd.snd.snd.snd.snd.fst.snd.fst = 0) then
 some
 (decide
 (Int.ofNat
 (List.length
 x.fst.snd.snd.snd.snd.snd.snd.snd.snd.snd.snd.fst.snd.snd.fst) =
 0),
 ())
 else some (false, ())
 else some (false, ())
 else
 bif decide (x.fst.fst = 6) then
 bif decide (x.fst.fst = 7) then some (true, ())
 else
 bif decide (x.fst.snd.snd.snd.snd.snd.snd.snd.snd.snd.snd.fst.fst = 0) then
 bif decide (x.fst.snd.snd.snd.snd.snd.snd.snd.snd.snd.snd.fst.snd.fst = 0) then
 some
 (decide
 (Int.ofNat
 (List.length
 x.fst.snd.snd.snd.snd.snd.snd.snd.snd.snd.snd.fst.snd.snd.fst) =
 0),
 ())
 else some (false, ())
 else some (false, ())
 else
 bif !x.fst.snd.snd.snd.snd.snd.snd.snd.snd.fst then
 bif decide (x.fst.fst = 7) then some (true, ())
 else
 bif decide (x.fst.snd.snd.snd.snd.snd.snd.snd.snd.snd.snd.fst.fst = 0) then
 bif decide (x.fst.snd.snd.snd.snd.snd.snd.snd.snd.snd.snd.fst.snd.fst = 0) then
 some
 (decide
 (Int.ofNat
 (List.length
 x.fst.snd.snd.snd.snd.snd.snd.snd.snd.snd.snd.fst.snd.snd.fst) =
 0),
 ())
 else some (false, ())
 else some (false, ())
 else some (false, ())
 else some (false, ())
 else
 bif decide (x.fst.snd.snd.snd.snd.snd.snd.fst = 0) then
 bif decide (Int.ofNat (List.length x.fst.snd.snd.snd.snd.snd.snd.snd.snd.snd.fst) = 0) then
 bif decide (x.fst.fst = 5) then
 bif x_2.fst then
 bif decide (x.fst.fst = 7) then some (true, ())
 else
 bif decide (x.fst.snd.snd.snd.snd.snd.snd.snd.snd.snd.snd.fst.fst = 0) then
 bif decide (x.fst.snd.snd.snd.snd.snd.snd.snd.snd.snd.snd.fst.snd.fst = 0) then
 some
 (decide
 (Int.ofNat
 (List.length
 x.fst.snd.snd.snd.snd.snd.snd.snd.snd.snd.snd.fst.snd.snd.fst) =
 0),
 ())
 else some (false, ())
 else some (false, ())
 else
 bif decide (x.fst.fst = 6) then
 bif decide (x.fst.fst = 7) then some (true, ())
 else
 bif decide (x.fst.snd.snd.snd.snd.snd.snd.snd.snd.snd.snd.fst.fst = 0) then
 bif decide (x.fst.snd.snd.snd.snd.snd.snd.snd.snd.snd.snd.fst.snd.fst = 0) then
 some
 (decide
 (Int.ofNat
 (List.length
 x.fst.snd.snd.snd.snd.snd.snd.snd.snd.snd.snd.fst.snd.snd.fst) =
 0),
 ())
 else some (false, ())
 else some (false, ())
 else
 bif !x.fst.snd.snd.snd.snd.snd.snd.snd.snd.fst then
 bif decide (x.fst.fst = 7) then some (true, ())
 else
 bif decide (x.fst.snd.snd.snd.snd.snd.snd.snd.snd.snd.snd.fst.fst = 0) then
 bif decide (x.fst.snd.snd.snd.snd.snd.snd.snd.snd.snd.snd.fst.snd.fst = 0) then
 some
 (decide
 (Int.ofNat
 (List.length
 x.fst.snd.snd.snd.snd.snd.snd.snd.snd.snd.snd.fst.snd.snd.fst) =
 0),
 ())
 else some (false, ())
 else some (false, ())
 else some (false, ())
 else
 bif decide (x.fst.fst = 6) then
 bif x_2.fst then
 bif decide (x.fst.fst = 7) then some (true, ())
 else
 bif decide (x.fst.snd.snd.snd.snd.snd.snd.snd.snd.snd.snd.fst.fst = 0) then
 bif decide (x.fst.snd.snd.snd.snd.snd.snd.snd.snd.snd.snd.fst.snd.fst = 0) then
 some
 (decide
 (Int.ofNat
 (List.length
 x.fst.snd.snd.snd.snd.snd.snd.snd.snd.snd.snd.fst.snd.snd.fst) =
 0),
 ())
 else some (false, ())
 else some (false, ())
 else
 bif decide (x.fst.fst = 6) then
 bif decide (x.fst.fst = 7) then some (true, ())
 else
 bif decide (x.fst.snd.snd.snd.snd.snd.snd.snd.snd.snd.snd.fst.fst = 0) then
 bif decide (x.fst.snd.snd.snd.snd.snd.snd.snd.snd.snd.snd.fst.snd.fst = 0) then
 some
 (decide
 (Int.ofNat
 (List.length
 x.fst.snd.snd.snd.snd.snd.snd.snd.snd.snd.snd.fst.snd.snd.fst) =
 0),
 ())
 else some (false, ())
 else some (false, ())
 else
 bif !x.fst.snd.snd.snd.snd.snd.snd.snd.snd.fst then
 bif decide (x.fst.fst = 7) then some (true, ())
 else
 bif decide (x.fst.snd.snd.snd.snd.snd.snd.snd.snd.snd.snd.fst.fst = 0) then
 bif
 decide
 (x.fst.snd.snd.snd.snd.snd.snd.snd.snd.snd.snd.fst.snd.fst = 0) then
 some
 (decide
 (Int.ofNat
 (List.length
 x.fst.snd.snd.snd.snd.snd.snd.snd.snd.snd.snd.fst.snd.snd.fst) =
 0),
 ())
 else some (false, ())
 else some (false, ())
 else some (false, ())
 else
 bif decide (x.fst.snd.snd.snd.snd.snd.snd.snd.fst = 0) then
 bif x_2.fst then
 bif decide (x.fst.fst = 7) then some (true, ())
 else
 bif decide (x.fst.snd.snd.snd.snd.snd.snd.snd.snd.snd.snd.fst.fst = 0) then
 bif decide (x.fst.snd.snd.snd.snd.snd.snd.snd.snd.snd.snd.fst.snd.fst = 0) then
 some
 (decide
 (Int.ofNat
 (List.length
 x.fst.snd.snd.snd.snd.snd.snd.snd.snd.snd.snd.fst.snd.snd.fst) =
 0),
 ())
 else some (false, ())
 else some (false, ())
 else
 bif decide (x.fst.fst = 6) then
 bif decide (x.fst.fst = 7) then some (true, ())
 else
 bif decide (x.fst.snd.snd.snd.snd.snd.snd.snd.snd.snd.snd.fst.fst = 0) then
 bif
 decide
 (x.fst.snd.snd.snd.snd.snd.snd.snd.snd.snd.snd.fst.snd.fst = 0) then
 some
 (decide
 (Int.ofNat
 (List.length
 x.fst.snd.snd.snd.snd.snd.snd.snd.snd.snd.snd.fst.snd.snd.fst) =
 0),
 ())
 else some (false, ())
 else some (false, ())
 else
 bif !x.fst.snd.snd.snd.snd.snd.snd.snd.snd.fst then
 bif decide (x.fst.fst = 7) then some (true, ())
 else
 bif decide (x.fst.snd.snd.snd.snd.snd.snd.snd.snd.snd.snd.fst.fst = 0) then
 bif
 decide
 (x.fst.snd.snd.snd.snd.snd.snd.snd.snd.snd.snd.fst.snd.fst = 0) then
 some
 (decide
 (Int.ofNat
 (List.length
 x.fst.snd.snd.snd.snd.snd.snd.snd.snd.snd.snd.fst.snd.snd.fst) =
 0),
 ())
 else some (false, ())
 else some (false, ())
 else some (false, ())
 else some (false, ())
 else some (false, ())
 else some (false, ())
 else
 bif decide (x.fst.fst = 5) then
 bif decide (x.fst.fst = 5) then
 bif decide (x.fst.fst = 5) then
 bif x_2.fst then
 bif decide (x.fst.fst = 7) then some (true, ())
 else
 bif decide (x.fst.snd.snd.snd.snd.snd.snd.snd.snd.snd.snd.fst.fst = 0) then
 bif decide (x.fst.snd.snd.snd.snd.snd.snd.snd.snd.snd.snd.fst.snd.fst = 0) then
 some
 (decide
 (Int.ofNat
 (List.length
 x.fst.snd.snd.snd.snd.snd.snd.snd.snd.snd.snd.fst.snd.snd.fst) =
 0),
 ())
 else some (false, ())
 else some (false, ())
 else
 bif decide (x.fst.fst = 6) then
 bif decide (x.fst.fst = 7) then some (true, ())
 else
 bif decide (x.fst.snd.snd.snd.snd.snd.snd.snd.snd.snd.snd.fst.fst = 0) then
 bif decide (x.fst.snd.snd.snd.snd.snd.snd.snd.snd.snd.snd.fst.snd.fst = 0) then
 some
 (decide
 (Int.ofNat
 (List.length
 x.fst.snd.snd.snd.snd.snd.snd.snd.snd.snd.snd.fst.snd.snd.fst) =
 0),
 ())
 else some (false, ())
 else some (false, ())
 else
 bif !x.fst.snd.snd.snd.snd.snd.snd.snd.snd.fst then
 bif decide (x.fst.fst = 7) then some (true, ())
 else
 bif decide (x.fst.snd.snd.snd.snd.snd.snd.snd.snd.snd.snd.fst.fst = 0) then
 bif decide (x.fst.snd.snd.snd.snd.snd.snd.snd.snd.snd.snd.fst.snd.fst = 0) then
 some
 (decide
 (Int.ofNat
 (List.length
 x.fst.snd.snd.snd.snd.snd.snd.snd.snd.snd.snd.fst.snd.snd.fst) =
 0),
 ())
 else some (false, ())
 else some (false, ())
 else some (false, ())
 else
 bif decide (x.fst.fst = 6) then
 bif x_2.fst then
 bif decide (x.fst.fst = 7) then some (true, ())
 else
 bif decide (x.fst.snd.snd.snd.snd.snd.snd.snd.snd.snd.snd.fst.fst = 0) then
 bif decide (x.fst.snd.snd.snd.snd.snd.snd.snd.snd.snd.snd.fst.snd.fst = 0) then
 some
 (decide
 (Int.ofNat
 (List.length
 x.fst.snd.snd.snd.snd.snd.snd.snd.snd.snd.snd.fst.snd.snd.fst) =
 0),
 ())
 else some (false, ())
 else some (false, ())
 else
 bif decide (x.fst.fst = 6) then
 bif decide (x.fst.fst = 7) then some (true, ())
 else
 bif decide (x.fst.snd.snd.snd.snd.snd.snd.snd.snd.snd.snd.fst.fst = 0) then
 bif decide (x.fst.snd.snd.snd.snd.snd.snd.snd.snd.snd.snd.fst.snd.fst = 0) then
 some
 (decide
 (Int.ofNat
 (List.length
 x.fst.snd.snd.snd.snd.snd.snd.snd.snd.snd.snd.fst.snd.snd.fst) =
 0),
 ())
 else some (false, ())
 else some (false, ())
 else
 bif !x.fst.snd.snd.snd.snd.snd.snd.snd.snd.fst then
 bif decide (x.fst.fst = 7) then some (true, ())
 else
 bif decide (x.fst.snd.snd.snd.snd.snd.snd.snd.snd.snd.snd.fst.fst = 0) then
 bif decide (x.fst.snd.snd.snd.snd.snd.snd.snd.snd.snd.snd.fst.snd.fst = 0) then
 some
 (decide
 (Int.ofNat
 (List.length
 x.fst.snd.snd.snd.snd.snd.snd.snd.snd.snd.snd.fst.snd.snd.fst) =
 0),
 ())
 else some (false, ())
 else some (false, ())
 else some (false, ())
 else
 bif decide (x.fst.snd.snd.snd.snd.snd.snd.snd.fst = 0) then
 bif x_2.fst then
 bif decide (x.fst.fst = 7) then some (true, ())
 else
 bif decide (x.fst.snd.snd.snd.snd.snd.snd.snd.snd.snd.snd.fst.fst = 0) then
 bif decide (x.fst.snd.snd.snd.snd.snd.snd.snd.snd.snd.snd.fst.snd.fst = 0) then
 some
 (decide
 (Int.ofNat
 (List.length
 x.fst.snd.snd.snd.snd.snd.snd.snd.snd.snd.snd.fst.snd.snd.fst) =
 0),
 ())
 else some (false, ())
 else some (false, ())
 else
 bif decide (x.fst.fst = 6) then
 bif decide (x.fst.fst = 7) then some (true, ())
 else
 bif decide (x.fst.snd.snd.snd.snd.snd.snd.snd.snd.snd.snd.fst.fst = 0) then
 bif decide (x.fst.snd.snd.snd.snd.snd.snd.snd.snd.snd.snd.fst.snd.fst = 0) then
 some
 (decide
 (Int.ofNat
 (List.length
 x.fst.snd.snd.snd.snd.snd.snd.snd.snd.snd.snd.fst.snd.snd.fst) =
 0),
 ())
 else some (false, ())
 else some (false, ())
 else
 bif !x.fst.snd.snd.snd.snd.snd.snd.snd.snd.fst then
 bif decide (x.fst.fst = 7) then some (true, ())
 else
 bif decide (x.fst.snd.snd.snd.snd.snd.snd.snd.snd.snd.snd.fst.fst = 0) then
 bif
 decide
 (x.fst.snd.snd.snd.snd.snd.snd.snd.snd.snd.snd.fst.snd.fst = 0) then
 some
 (decide
 (Int.ofNat
 (List.length
 x.fst.snd.snd.snd.snd.snd.snd.snd.snd.snd.snd.fst.snd.snd.fst) =
 0),
 ())
 else some (false, ())
 else some (false, ())
 else some (false, ())
 else some (false, ())
 else
 bif decide (x.fst.snd.snd.snd.snd.snd.snd.fst = 0) then
 bif decide (Int.ofNat (List.length x.fst.snd.snd.snd.snd.snd.snd.snd.snd.snd.fst) = 0) then
 bif decide (x.fst.fst = 5) then
 bif x_2.fst then
 bif decide (x.fst.fst = 7) then some (true, ())
 else
 bif decide (x.fst.snd.snd.snd.snd.snd.snd.snd.snd.snd.snd.fst.fst = 0) then
 bif decide (x.fst.snd.snd.snd.snd.snd.snd.snd.snd.snd.snd.fst.snd.fst = 0) then
 some
 (decide
 (Int.ofNat
 (List.length
 x.fst.snd.snd.snd.snd.snd.snd.snd.snd.snd.snd.fst.snd.snd.fst) =
 0),
 ())
 else some (false, ())
 else some (false, ())
 else
 bif decide (x.fst.fst = 6) then
 bif decide (x.fst.fst = 7) then some (true, ())
 else
 bif decide (x.fst.snd.snd.snd.snd.snd.snd.snd.snd.snd.snd.fst.fst = 0) then
 bif decide (x.fst.snd.snd.snd.snd.snd.snd.snd.snd.snd.snd.fst.snd.fst = 0) then
 some
 (decide
 (Int.ofNat
 (List.length
 x.fst.snd.snd.snd.snd.snd.snd.snd.snd.snd.snd.fst.snd.snd.fst) =
 0),
 ())
 else some (false, ())
 else some (false, ())
 else
 bif !x.fst.snd.snd.snd.snd.snd.snd.snd.snd.fst then
 bif decide (x.fst.fst = 7) then some (true, ())
 else
 bif decide (x.fst.snd.snd.snd.snd.snd.snd.snd.snd.snd.snd.fst.fst = 0) then
 bif
 decide
 (x.fst.snd.snd.snd.snd.snd.snd.snd.snd.snd.snd.fst.snd.fst = 0) then
 some
 (decide
 (Int.ofNat
 (List.length
 x.fst.snd.snd.snd.snd.snd.snd.snd.snd.snd.snd.fst.snd.snd.fst) =
 0),
 ())
 else some (false, ())
 else some (false, ())
 else some (false, ())
 else
 bif decide (x.fst.fst = 6) then
 bif x_2.fst then
 bif decide (x.fst.fst = 7) then some (true, ())
 else
 bif decide (x.fst.snd.snd.snd.snd.snd.snd.snd.snd.snd.snd.fst.fst = 0) then
 bif decide (x.fst.snd.snd.snd.snd.snd.snd.snd.snd.snd.snd.fst.snd.fst = 0) then
 some
 (decide
 (Int.ofNat
 (List.length
 x.fst.snd.snd.snd.snd.snd.snd.snd.snd.snd.snd.fst.snd.snd.fst) =
 0),
 ())
 else some (false, ())
 else some (false, ())
 else
 bif decide (x.fst.fst = 6) then
 bif decide (x.fst.fst = 7) then some (true, ())
 else
 bif decide (x.fst.snd.snd.snd.snd.snd.snd.snd.snd.snd.snd.fst.fst = 0) then
 bif
 decide
 (x.fst.snd.snd.snd.snd.snd.snd.snd.snd.snd.snd.fst.snd.fst = 0) then
 some
 (decide
 (Int.ofNat
 (List.length
 x.fst.snd.snd.snd.snd.snd.snd.snd.snd.snd.snd.fst.snd.snd.fst) =
 0),
 ())
 else some (false, ())
 else some (false, ())
 else
 bif !x.fst.snd.snd.snd.snd.snd.snd.snd.snd.fst then
 bif decide (x.fst.fst = 7) then some (true, ())
 else
 bif decide (x.fst.snd.snd.snd.snd.snd.snd.snd.snd.snd.snd.fst.fst = 0) then
 bif
 decide
 (x.fst.snd.snd.snd.snd.snd.snd.snd.snd.snd.snd.fst.snd.fst = 0) then
 some
 (decide
 (Int.ofNat
 (List.length
 x.fst.snd.snd.snd.snd.snd.snd.snd.snd.snd.snd.fst.snd.snd.fst) =
 0),
 ())
 else some (false, ())
 else some (false, ())
 else some (false, ())
 else
 bif decide (x.fst.snd.snd.snd.snd.snd.snd.snd.fst = 0) then
 bif x_2.fst then
 bif decide (x.fst.fst = 7) then some (true, ())
 else
 bif decide (x.fst.snd.snd.snd.snd.snd.snd.snd.snd.snd.snd.fst.fst = 0) then
 bif
 decide
 (x.fst.snd.snd.snd.snd.snd.snd.snd.snd.snd.snd.fst.snd.fst = 0) then
 some
 (decide
 (Int.ofNat
 (List.length
 x.fst.snd.snd.snd.snd.snd.snd.snd.snd.snd.snd.fst.snd.snd.fst) =
 0),
 ())
 else some (false, ())
 else some (false, ())
 else
 bif decide (x.fst.fst = 6) then
 bif decide (x.fst.fst = 7) then some (true, ())
 else
 bif decide (x.fst.snd.snd.snd.snd.snd.snd.snd.snd.snd.snd.fst.fst = 0) then
 bif
 decide
 (x.fst.snd.snd.snd.snd.snd.snd.snd.snd.snd.snd.fst.snd.fst = 0) then
 some
 (decide
 (Int.ofNat
 (List.length
 x.fst.snd.snd.snd.snd.snd.snd.snd.snd.snd.snd.fst.snd.snd.fst) =
 0),
 ())
 else some (false, ())
 else some (false, ())
 else
 bif !x.fst.snd.snd.snd.snd.snd.snd.snd.snd.fst then
 bif decide (x.fst.fst = 7) then some (true, ())
 else
 bif decide (x.fst.snd.snd.snd.snd.snd.snd.snd.snd.snd.snd.fst.fst = 0) then
 bif
 decide
 (x.fst.snd.snd.snd.snd.snd.snd.snd.snd.snd.snd.fst.snd.fst = 0) then
 some
 (decide
 (Int.ofNat
 (List.length
 x.fst.snd.snd.snd.snd.snd.snd.snd.snd.snd.snd.fst.snd.snd.fst) =
 0),
 ())
 else some (false, ())
 else some (false, ())
 else some (false, ())
 else some (false, ())
 else some (false, ())
 else some (false, ())
 else
 bif decide (x.fst.snd.snd.snd.snd.snd.fst = 0) then
 bif decide (x.fst.fst = 5) then
 bif decide (x.fst.fst = 5) then
 bif x_2.fst then
 bif decide (x.fst.fst = 7) then some (true, ())
 else
 bif decide (x.fst.snd.snd.snd.snd.snd.snd.snd.snd.snd.snd.fst.fst = 0) then
 bif decide (x.fst.snd.snd.snd.snd.snd.snd.snd.snd.snd.snd.fst.snd.fst = 0) then
 some
 (decide
 (Int.ofNat
 (List.length
 x.fst.snd.snd.snd.snd.snd.snd.snd.snd.snd.snd.fst.snd.snd.fst) =
 0),
 ())
 else some (false, ())
 else some (false, ())
 else
 bif decide (x.fst.fst = 6) then
 bif decide (x.fst.fst = 7) then some (true, ())
 else
 bif decide (x.fst.snd.snd.snd.snd.snd.snd.snd.snd.snd.snd.fst.fst = 0) then
 bif decide (x.fst.snd.snd.snd.snd.snd.snd.snd.snd.snd.snd.fst.snd.fst = 0) then
 some
 (decide
 (Int.ofNat
 (List.length
 x.fst.snd.snd.snd.snd.snd.snd.snd.snd.snd.snd.fst.snd.snd.fst) =
 0),
 ())
 else some (false, ())
 else some (false, ())
 else
 bif !x.fst.snd.snd.snd.snd.snd.snd.snd.snd.fst then
 bif decide (x.fst.fst = 7) then some (true, ())
 else
 bif decide (x.fst.snd.snd.snd.snd.snd.snd.snd.snd.snd.snd.fst.fst = 0) then
 bif decide (x.fst.snd.snd.snd.snd.snd.snd.snd.snd.snd.snd.fst.snd.fst = 0) then
 some
 (decide
 (Int.ofNat
 (List.length
 x.fst.snd.snd.snd.snd.snd.snd.snd.snd.snd.snd.fst.snd.snd.fst) =
 0),
 ())
 else some (false, ())
 else some (false, ())
 else some (false, ())
 else
 bif decide (x.fst.fst = 6) then
 bif x_2.fst then
 bif decide (x.fst.fst = 7) then some (true, ())
 else
 bif decide (x.fst.snd.snd.snd.snd.snd.snd.snd.snd.snd.snd.fst.fst = 0) then
 bif decide (x.fst.snd.snd.snd.snd.snd.snd.snd.snd.snd.snd.fst.snd.fst = 0) then
 some
 (decide
 (Int.ofNat
 (List.length
 x.fst.snd.snd.snd.snd.snd.snd.snd.snd.snd.snd.fst.snd.snd.fst) =
 0),
 ())
 else some (false, ())
 else some (false, ())
 else
 bif decide (x.fst.fst = 6) then
 bif decide (x.fst.fst = 7) then some (true, ())
 else
 bif decide (x.fst.snd.snd.snd.snd.snd.snd.snd.snd.snd.snd.fst.fst = 0) then
 bif decide (x.fst.snd.snd.snd.snd.snd.snd.snd.snd.snd.snd.fst.snd.fst = 0) then
 some
 (decide
 (Int.ofNat
 (List.length
 x.fst.snd.snd.snd.snd.snd.snd.snd.snd.snd.snd.fst.snd.snd.fst) =
 0),
 ())
 else some (false, ())
 else some (false, ())
 else
 bif !x.fst.snd.snd.snd.snd.snd.snd.snd.snd.fst then
 bif decide (x.fst.fst = 7) then some (true, ())
 else
 bif decide (x.fst.snd.snd.snd.snd.snd.snd.snd.snd.snd.snd.fst.fst = 0) then
 bif
 decide
 (x.fst.snd.snd.snd.snd.snd.snd.snd.snd.snd.snd.fst.snd.fst = 0) then
 some
 (decide
 (Int.ofNat
 (List.length
 x.fst.snd.snd.snd.snd.snd.snd.snd.snd.snd.snd.fst.snd.snd.fst) =
 0),
 ())
 else some (false, ())
 else some (false, ())
 else some (false, ())
 else
 bif decide (x.fst.snd.snd.snd.snd.snd.snd.snd.fst = 0) then
 bif x_2.fst then
 bif decide (x.fst.fst = 7) then some (true, ())
 else
 bif decide (x.fst.snd.snd.snd.snd.snd.snd.snd.snd.snd.snd.fst.fst = 0) then
 bif decide (x.fst.snd.snd.snd.snd.snd.snd.snd.snd.snd.snd.fst.snd.fst = 0) then
 some
 (decide
 (Int.ofNat
 (List.length
 x.fst.snd.snd.snd.snd.snd.snd.snd.snd.snd.snd.fst.snd.snd.fst) =
 0),
 ())
 else some (false, ())
 else some (false, ())
 else
 bif decide (x.fst.fst = 6) then
 bif decide (x.fst.fst = 7) then some (true, ())
 else
 bif decide (x.fst.snd.snd.snd.snd.snd.snd.snd.snd.snd.snd.fst.fst = 0) then
 bif
 decide
 (x.fst.snd.snd.snd.snd.snd.snd.snd.snd.snd.snd.fst.snd.fst = 0) then
 some
 (decide
 (Int.ofNat
 (List.length
 x.fst.snd.snd.snd.snd.snd.snd.snd.snd.snd.snd.fst.snd.snd.fst) =
 0),
 ())
 else some (false, ())
 else some (false, ())
 else
 bif !x.fst.snd.snd.snd.snd.snd.snd.snd.snd.fst then
 bif decide (x.fst.fst = 7) then some (true, ())
 else
 bif decide (x.fst.snd.snd.snd.snd.snd.snd.snd.snd.snd.snd.fst.fst = 0) then
 bif
 decide
 (x.fst.snd.snd.snd.snd.snd.snd.snd.snd.snd.snd.fst.snd.fst = 0) then
 some
 (decide
 (Int.ofNat
 (List.length
 x.fst.snd.snd.snd.snd.snd.snd.snd.snd.snd.snd.fst.snd.snd.fst) =
 0),
 ())
 else some (false, ())
 else some (false, ())
 else some (false, ())
 else some (false, ())
 else
 bif decide (x.fst.snd.snd.snd.snd.snd.snd.fst = 0) then
 bif
 decide
 (Int.ofNat (List.length x.fst.snd.snd.snd.snd.snd.snd.snd.snd.snd.fst) = 0) then
 bif decide (x.fst.fst = 5) then
 bif x_2.fst then
 bif decide (x.fst.fst = 7) then some (true, ())
 else
 bif decide (x.fst.snd.snd.snd.snd.snd.snd.snd.snd.snd.snd.fst.fst = 0) then
 bif decide (x.fst.snd.snd.snd.snd.snd.snd.snd.snd.snd.snd.fst.snd.fst = 0) then
 some
 (decide
 (Int.ofNat
 (List.length
 x.fst.snd.snd.snd.snd.snd.snd.snd.snd.snd.snd.fst.snd.snd.fst) =
 0),
 ())
 else some (false, ())
 else some (false, ())
 else
 bif decide (x.fst.fst = 6) then
 bif decide (x.fst.fst = 7) then some (true, ())
 else
 bif decide (x.fst.snd.snd.snd.snd.snd.snd.snd.snd.snd.snd.fst.fst = 0) then
 bif
 decide
 (x.fst.snd.snd.snd.snd.snd.snd.snd.snd.snd.snd.fst.snd.fst = 0) then
 some
 (decide
 (Int.ofNat
 (List.length
 x.fst.snd.snd.snd.snd.snd.snd.snd.snd.snd.snd.fst.snd.snd.fst) =
 0),
 ())
 else some (false, ())
 else some (false, ())
 else
 bif !x.fst.snd.snd.snd.snd.snd.snd.snd.snd.fst then
 bif decide (x.fst.fst = 7) then some (true, ())
 else
 bif decide (x.fst.snd.snd.snd.snd.snd.snd.snd.snd.snd.snd.fst.fst = 0) then
 bif
 decide
 (x.fst.snd.snd.snd.snd.snd.snd.snd.snd.snd.snd.fst.snd.fst = 0) then
 some
 (decide
 (Int.ofNat
 (List.length
 x.fst.snd.snd.snd.snd.snd.snd.snd.snd.snd.snd.fst.snd.snd.fst) =
 0),
 ())
 else some (false, ())
 else some (false, ())
 else some (false, ())
 else
 bif decide (x.fst.fst = 6) then
 bif x_2.fst then
 bif decide (x.fst.fst = 7) then some (true, ())
 else
 bif decide (x.fst.snd.snd.snd.snd.snd.snd.snd.snd.snd.snd.fst.fst = 0) then
 bif
 decide
 (x.fst.snd.snd.snd.snd.snd.snd.snd.snd.snd.snd.fst.snd.fst = 0) then
 some
 (decide
 (Int.ofNat
 (List.length
 x.fst.snd.snd.snd.snd.snd.snd.snd.snd.snd.snd.fst.snd.snd.fst) =
 0),
 ())
 else some (false, ())
 else some (false, ())
 else
 bif decide (x.fst.fst = 6) then
 bif decide (x.fst.fst = 7) then some (true, ())
 else
 bif decide (x.fst.snd.snd.snd.snd.snd.snd.snd.snd.snd.snd.fst.fst = 0) then
 bif
 decide
 (x.fst.snd.snd.snd.snd.snd.snd.snd.snd.snd.snd.fst.snd.fst = 0) then
 some
 (decide
 (Int.ofNat
 (List.length
 x.fst.snd.snd.snd.snd.snd.snd.snd.snd.snd.snd.fst.snd.snd.fst) =
 0),
 ())
 else some (false, ())
 else some (false, ())
 else
 bif !x.fst.snd.snd.snd.snd.snd.snd.snd.snd.fst then
 bif decide (x.fst.fst = 7) then some (true, ())
 else
 bif decide (x.fst.snd.snd.snd.snd.snd.snd.snd.snd.snd.snd.fst.fst = 0) then
 bif
 decide
 (x.fst.snd.snd.snd.snd.snd.snd.snd.snd.snd.snd.fst.snd.fst = 0) then
 some
 (decide
 (Int.ofNat
 (List.length
 x.fst.snd.snd.snd.snd.snd.snd.snd.snd.snd.snd.fst.snd.snd.fst) =
 0),
 ())
 else some (false, ())
 else some (false, ())
 else some (false, ())
 else
 bif decide (x.fst.snd.snd.snd.snd.snd.snd.snd.fst = 0) then
 bif x_2.fst then
 bif decide (x.fst.fst = 7) then some (true, ())
 else
 bif decide (x.fst.snd.snd.snd.snd.snd.snd.snd.snd.snd.snd.fst.fst = 0) then
 bif
 decide
 (x.fst.snd.snd.snd.snd.snd.snd.snd.snd.snd.snd.fst.snd.fst = 0) then
 some
 (decide
 (Int.ofNat
 (List.length
 x.fst.snd.snd.snd.snd.snd.snd.snd.snd.snd.snd.fst.snd.snd.fst) =
 0),
 ())
 else some (false, ())
 else some (false, ())
 else
 bif decide (x.fst.fst = 6) then
 bif decide (x.fst.fst = 7) then some (true, ())
 else
 bif decide (x.fst.snd.snd.snd.snd.snd.snd.snd.snd.snd.snd.fst.fst = 0) then
 bif
 decide
 (x.fst.snd.snd.snd.snd.snd.snd.snd.snd.snd.snd.fst.snd.fst = 0) then
 some
 (decide
 (Int.ofNat
 (List.length
 x.fst.snd.snd.snd.snd.snd.snd.snd.snd.snd.snd.fst.snd.snd.fst) =
 0),
 ())
 else some (false, ())
 else some (false, ())
 else
 bif !x.fst.snd.snd.snd.snd.snd.snd.snd.snd.fst then
 bif decide (x.fst.fst = 7) then some (true, ())
 else
 bif
 decide
 (x.fst.snd.snd.snd.snd.snd.snd.snd.snd.snd.snd.fst.fst = 0) then
 bif
 decide
 (x.fst.snd.snd.snd.snd.snd.snd.snd.snd.snd.snd.fst.snd.fst =
 0) then
 some
 (decide
 (Int.ofNat
 (List.length
 x.fst.snd.snd.snd.snd.snd.snd.snd.snd.snd.snd.fst.snd.snd.fst) =
 0),
 ())
 else some (false, ())
 else some (false, ())
 else some (false, ())
 else some (false, ())
 else some (false, ())
 else some (false, ())
 else some (false, ())
 else
 bif decide (x.fst.snd.snd.snd.snd.fst = 0) then
 bif x_1.fst then
 bif decide (x.fst.fst = 5) then
 bif decide (x.fst.fst = 5) then
 bif x_2.fst then
 bif decide (x.fst.fst = 7) then some (true, ())
 else
 bif decide (x.fst.snd.snd.snd.snd.snd.snd.snd.snd.snd.snd.fst.fst = 0) then
 bif decide (x.fst.snd.snd.snd.snd.snd.snd.snd.snd.snd.snd.fst.snd.fst = 0) then
 some
 (decide
 (Int.ofNat
 (List.length
 x.fst.snd.snd.snd.snd.snd.snd.snd.snd.snd.snd.fst.snd.snd.fst) =
 0),
 ())
 else some (false, ())
 else some (false, ())
 else
 bif decide (x.fst.fst = 6) then
 bif decide (x.fst.fst = 7) then some (true, ())
 else
 bif decide (x.fst.snd.snd.snd.snd.snd.snd.snd.snd.snd.snd.fst.fst = 0) then
 bif decide (x.fst.snd.snd.snd.snd.snd.snd.snd.snd.snd.snd.fst.snd.fst = 0) then
 some
 (decide
 (Int.ofNat
 (List.length
 x.fst.snd.snd.snd.snd.snd.snd.snd.snd.snd.snd.fst.snd.snd.fst) =
 0),
 ())
 else some (false, ())
 else some (false, ())
 else
 bif !x.fst.snd.snd.snd.snd.snd.snd.snd.snd.fst then
 bif decide (x.fst.fst = 7) then some (true, ())
 else
 bif decide (x.fst.snd.snd.snd.snd.snd.snd.snd.snd.snd.snd.fst.fst = 0) then
 bif decide (x.fst.snd.snd.snd.snd.snd.snd.snd.snd.snd.snd.fst.snd.fst = 0) then
 some
 (decide
 (Int.ofNat
 (List.length
 x.fst.snd.snd.snd.snd.snd.snd.snd.snd.snd.snd.fst.snd.snd.fst) =
 0),
 ())
 else some (false, ())
 else some (false, ())
 else some (false, ())
 else
 bif decide (x.fst.fst = 6) then
 bif x_2.fst then
 bif decide (x.fst.fst = 7) then some (true, ())
 else
 bif decide (x.fst.snd.snd.snd.snd.snd.snd.snd.snd.snd.snd.fst.fst = 0) then
 bif decide (x.fst.snd.snd.snd.snd.snd.snd.snd.snd.snd.snd.fst.snd.fst = 0) then
 some
 (decide
 (Int.ofNat
 (List.length
 x.fst.snd.snd.snd.snd.snd.snd.snd.snd.snd.snd.fst.snd.snd.fst) =
 0),
 ())
 else some (false, ())
 else some (false, ())
 else
 bif decide (x.fst.fst = 6) then
 bif decide (x.fst.fst = 7) then some (true, ())
 else
 bif decide (x.fst.snd.snd.snd.snd.snd.snd.snd.snd.snd.snd.fst.fst = 0) then
 bif decide (x.fst.snd.snd.snd.snd.snd.snd.snd.snd.snd.snd.fst.snd.fst = 0) then
 some
 (decide
 (Int.ofNat
 (List.length
 x.fst.snd.snd.snd.snd.snd.snd.snd.snd.snd.snd.fst.snd.snd.fst) =
 0),
 ())
 else some (false, ())
 else some (false, ())
 else
 bif !x.fst.snd.snd.snd.snd.snd.snd.snd.snd.fst then
 bif decide (x.fst.fst = 7) then some (true, ())
 else
 bif decide (x.fst.snd.snd.snd.snd.snd.snd.snd.snd.snd.snd.fst.fst = 0) then
 bif decide (x.fst.snd.snd.snd.snd.snd.snd.snd.snd.snd.snd.fst.snd.fst = 0) then
 some
 (decide
 (Int.ofNat
 (List.length
 x.fst.snd.snd.snd.snd.snd.snd.snd.snd.snd.snd.fst.snd.snd.fst) =
 0),
 ())
 else some (false, ())
 else some (false, ())
 else some (false, ())
 else
 bif decide (x.fst.snd.snd.snd.snd.snd.snd.snd.fst = 0) then
 bif x_2.fst then
 bif decide (x.fst.fst = 7) then some (true, ())
 else
 bif decide (x.fst.snd.snd.snd.snd.snd.snd.snd.snd.snd.snd.fst.fst = 0) then
 bif decide (x.fst.snd.snd.snd.snd.snd.snd.snd.snd.snd.snd.fst.snd.fst = 0) then
 some
 (decide
 (Int.ofNat
 (List.length
 x.fst.snd.snd.snd.snd.snd.snd.snd.snd.snd.snd.fst.snd.snd.fst) =
 0),
 ())
 else some (false, ())
 else some (false, ())
 else
 bif decide (x.fst.fst = 6) then
 bif decide (x.fst.fst = 7) then some (true, ())
 else
 bif decide (x.fst.snd.snd.snd.snd.snd.snd.snd.snd.snd.snd.fst.fst = 0) then
 bif decide (x.fst.snd.snd.snd.snd.snd.snd.snd.snd.snd.snd.fst.snd.fst = 0) then
 some
 (decide
 (Int.ofNat
 (List.length
 x.fst.snd.snd.snd.snd.snd.snd.snd.snd.snd.snd.fst.snd.snd.fst) =
 0),
 ())
 else some (false, ())
 else some (false, ())
 else
 bif !x.fst.snd.snd.snd.snd.snd.snd.snd.snd.fst then
 bif decide (x.fst.fst = 7) then some (true, ())
 else
 bif decide (x.fst.snd.snd.snd.snd.snd.snd.snd.snd.snd.snd.fst.fst = 0) then
 bif
 decide
 (x.fst.snd.snd.snd.snd.snd.snd.snd.snd.snd.snd.fst.snd.fst = 0) then
 some
 (decide
 (Int.ofNat
 (List.length
 x.fst.snd.snd.snd.snd.snd.snd.snd.snd.snd.snd.fst.snd.snd.fst) =
 0),
 ())
 else some (false, ())
 else some (false, ())
 else some (false, ())
 else some (false, ())
 else
 bif decide (x.fst.snd.snd.snd.snd.snd.snd.fst = 0) then
 bif decide (Int.ofNat (List.length x.fst.snd.snd.snd.snd.snd.snd.snd.snd.snd.fst) = 0) then
 bif decide (x.fst.fst = 5) then
 bif x_2.fst then
 bif decide (x.fst.fst = 7) then some (true, ())
 else
 bif decide (x.fst.snd.snd.snd.snd.snd.snd.snd.snd.snd.snd.fst.fst = 0) then
 bif decide (x.fst.snd.snd.snd.snd.snd.snd.snd.snd.snd.snd.fst.snd.fst = 0) then
 some
 (decide
 (Int.ofNat
 (List.length
 x.fst.snd.snd.snd.snd.snd.snd.snd.snd.snd.snd.fst.snd.snd.fst) =
 0),
 ())
 else some (false, ())
 else some (false, ())
 else
 bif decide (x.fst.fst = 6) then
 bif decide (x.fst.fst = 7) then some (true, ())
 else
 bif decide (x.fst.snd.snd.snd.snd.snd.snd.snd.snd.snd.snd.fst.fst = 0) then
 bif decide (x.fst.snd.snd.snd.snd.snd.snd.snd.snd.snd.snd.fst.snd.fst = 0) then
 some
 (decide
 (Int.ofNat
 (List.length
 x.fst.snd.snd.snd.snd.snd.snd.snd.snd.snd.snd.fst.snd.snd.fst) =
 0),
 ())
 else some (false, ())
 else some (false, ())
 else
 bif !x.fst.snd.snd.snd.snd.snd.snd.snd.snd.fst then
 bif decide (x.fst.fst = 7) then some (true, ())
 else
 bif decide (x.fst.snd.snd.snd.snd.snd.snd.snd.snd.snd.snd.fst.fst = 0) then
 bif
 decide
 (x.fst.snd.snd.snd.snd.snd.snd.snd.snd.snd.snd.fst.snd.fst = 0) then
 some
 (decide
 (Int.ofNat
 (List.length
 x.fst.snd.snd.snd.snd.snd.snd.snd.snd.snd.snd.fst.snd.snd.fst) =
 0),
 ())
 else some (false, ())
 else some (false, ())
 else some (false, ())
 else
 bif decide (x.fst.fst = 6) then
 bif x_2.fst then
 bif decide (x.fst.fst = 7) then some (true, ())
 else
 bif decide (x.fst.snd.snd.snd.snd.snd.snd.snd.snd.snd.snd.fst.fst = 0) then
 bif decide (x.fst.snd.snd.snd.snd.snd.snd.snd.snd.snd.snd.fst.snd.fst = 0) then
 some
 (decide
 (Int.ofNat
 (List.length
 x.fst.snd.snd.snd.snd.snd.snd.snd.snd.snd.snd.fst.snd.snd.fst) =
 0),
 ())
 else some (false, ())
 else some (false, ())
 else
 bif decide (x.fst.fst = 6) then
 bif decide (x.fst.fst = 7) then some (true, ())
 else
 bif decide (x.fst.snd.snd.snd.snd.snd.snd.snd.snd.snd.snd.fst.fst = 0) then
 bif
 decide
 (x.fst.snd.snd.snd.snd.snd.snd.snd.snd.snd.snd.fst.snd.fst = 0) then
 some
 (decide
 (Int.ofNat
 (List.length
 x.fst.snd.snd.snd.snd.snd.snd.snd.snd.snd.snd.fst.snd.snd.fst) =
 0),
 ())
 else some (false, ())
 else some (false, ())
 else
 bif !x.fst.snd.snd.snd.snd.snd.snd.snd.snd.fst then
 bif decide (x.fst.fst = 7) then some (true, ())
 else
 bif decide (x.fst.snd.snd.snd.snd.snd.snd.snd.snd.snd.snd.fst.fst = 0) then
 bif
 decide
 (x.fst.snd.snd.snd.snd.snd.snd.snd.snd.snd.snd.fst.snd.fst = 0) then
 some
 (decide
 (Int.ofNat
 (List.length
 x.fst.snd.snd.snd.snd.snd.snd.snd.snd.snd.snd.fst.snd.snd.fst) =
 0),
 ())
 else some (false, ())
 else some (false, ())
 else some (false, ())
 else
 bif decide (x.fst.snd.snd.snd.snd.snd.snd.snd.fst = 0) then
 bif x_2.fst then
 bif decide (x.fst.fst = 7) then some (true, ())
 else
 bif decide (x.fst.snd.snd.snd.snd.snd.snd.snd.snd.snd.snd.fst.fst = 0) then
 bif
 decide
 (x.fst.snd.snd.snd.snd.snd.snd.snd.snd.snd.snd.fst.snd.fst = 0) then
 some
 (decide
 (Int.ofNat
 (List.length
 x.fst.snd.snd.snd.snd.snd.snd.snd.snd.snd.snd.fst.snd.snd.fst) =
 0),
 ())
 else some (false, ())
 else some (false, ())
 else
 bif decide (x.fst.fst = 6) then
 bif decide (x.fst.fst = 7) then some (true, ())
 else
 bif decide (x.fst.snd.snd.snd.snd.snd.snd.snd.snd.snd.snd.fst.fst = 0) then
 bif
 decide
 (x.fst.snd.snd.snd.snd.snd.snd.snd.snd.snd.snd.fst.snd.fst = 0) then
 some
 (decide
 (Int.ofNat
 (List.length
 x.fst.snd.snd.snd.snd.snd.snd.snd.snd.snd.snd.fst.snd.snd.fst) =
 0),
 ())
 else some (false, ())
 else some (false, ())
 else
 bif !x.fst.snd.snd.snd.snd.snd.snd.snd.snd.fst then
 bif decide (x.fst.fst = 7) then some (true, ())
 else
 bif decide (x.fst.snd.snd.snd.snd.snd.snd.snd.snd.snd.snd.fst.fst = 0) then
 bif
 decide
 (x.fst.snd.snd.snd.snd.snd.snd.snd.snd.snd.snd.fst.snd.fst = 0) then
 some
 (decide
 (Int.ofNat
 (List.length
 x.fst.snd.snd.snd.snd.snd.snd.snd.snd.snd.snd.fst.snd.snd.fst) =
 0),
 ())
 else some (false, ())
 else some (false, ())
 else some (false, ())
 else some (false, ())
 else some (false, ())
 else some (false, ())
 else
 bif decide (x.fst.fst = 5) then
 bif decide (x.fst.fst = 5) then
 bif decide (x.fst.fst = 5) then
 bif x_2.fst then
 bif decide (x.fst.fst = 7) then some (true, ())
 else
 bif decide (x.fst.snd.snd.snd.snd.snd.snd.snd.snd.snd.snd.fst.fst = 0) then
 bif decide (x.fst.snd.snd.snd.snd.snd.snd.snd.snd.snd.snd.fst.snd.fst = 0) then
 some
 (decide
 (Int.ofNat
 (List.length
 x.fst.snd.snd.snd.snd.snd.snd.snd.snd.snd.snd.fst.snd.snd.fst) =
 0),
 ())
 else some (false, ())
 else some (false, ())
 else
 bif decide (x.fst.fst = 6) then
 bif decide (x.fst.fst = 7) then some (true, ())
 else
 bif decide (x.fst.snd.snd.snd.snd.snd.snd.snd.snd.snd.snd.fst.fst = 0) then
 bif decide (x.fst.snd.snd.snd.snd.snd.snd.snd.snd.snd.snd.fst.snd.fst = 0) then
 some
 (decide
 (Int.ofNat
 (List.length
 x.fst.snd.snd.snd.snd.snd.snd.snd.snd.snd.snd.fst.snd.snd.fst) =
 0),
 ())
 else some (false, ())
 else some (false, ())
 else
 bif !x.fst.snd.snd.snd.snd.snd.snd.snd.snd.fst then
 bif decide (x.fst.fst = 7) then some (true, ())
 else
 bif decide (x.fst.snd.snd.snd.snd.snd.snd.snd.snd.snd.snd.fst.fst = 0) then
 bif decide (x.fst.snd.snd.snd.snd.snd.snd.snd.snd.snd.snd.fst.snd.fst = 0) then
 some
 (decide
 (Int.ofNat
 (List.length
 x.fst.snd.snd.snd.snd.snd.snd.snd.snd.snd.snd.fst.snd.snd.fst) =
 0),
 ())
 else some (false, ())
 else some (false, ())
 else some (false, ())
 else
 bif decide (x.fst.fst = 6) then
 bif x_2.fst then
 bif decide (x.fst.fst = 7) then some (true, ())
 else
 bif decide (x.fst.snd.snd.snd.snd.snd.snd.snd.snd.snd.snd.fst.fst = 0) then
 bif decide (x.fst.snd.snd.snd.snd.snd.snd.snd.snd.snd.snd.fst.snd.fst = 0) then
 some
 (decide
 (Int.ofNat
 (List.length
 x.fst.snd.snd.snd.snd.snd.snd.snd.snd.snd.snd.fst.snd.snd.fst) =
 0),
 ())
 else some (false, ())
 else some (false, ())
 else
 bif decide (x.fst.fst = 6) then
 bif decide (x.fst.fst = 7) then some (true, ())
 else
 bif decide (x.fst.snd.snd.snd.snd.snd.snd.snd.snd.snd.snd.fst.fst = 0) then
 bif decide (x.fst.snd.snd.snd.snd.snd.snd.snd.snd.snd.snd.fst.snd.fst = 0) then
 some
 (decide
 (Int.ofNat
 (List.length
 x.fst.snd.snd.snd.snd.snd.snd.snd.snd.snd.snd.fst.snd.snd.fst) =
 0),
 ())
 else some (false, ())
 else some (false, ())
 else
 bif !x.fst.snd.snd.snd.snd.snd.snd.snd.snd.fst then
 bif decide (x.fst.fst = 7) then some (true, ())
 else
 bif decide (x.fst.snd.snd.snd.snd.snd.snd.snd.snd.snd.snd.fst.fst = 0) then
 bif
 decide
 (x.fst.snd.snd.snd.snd.snd.snd.snd.snd.snd.snd.fst.snd.fst = 0) then
 some
 (decide
 (Int.ofNat
 (List.length
 x.fst.snd.snd.snd.snd.snd.snd.snd.snd.snd.snd.fst.snd.snd.fst) =
 0),
 ())
 else some (false, ())
 else some (false, ())
 else some (false, ())
 else
 bif decide (x.fst.snd.snd.snd.snd.snd.snd.snd.fst = 0) then
 bif x_2.fst then
 bif decide (x.fst.fst = 7) then some (true, ())
 else
 bif decide (x.fst.snd.snd.snd.snd.snd.snd.snd.snd.snd.snd.fst.fst = 0) then
 bif decide (x.fst.snd.snd.snd.snd.snd.snd.snd.snd.snd.snd.fst.snd.fst = 0) then
 some
 (decide
 (Int.ofNat
 (List.length
 x.fst.snd.snd.snd.snd.snd.snd.snd.snd.snd.snd.fst.snd.snd.fst) =
 0),
 ())
 else some (false, ())
 else some (false, ())
 else
 bif decide (x.fst.fst = 6) then
 bif decide (x.fst.fst = 7) then some (true, ())
 else
 bif decide (x.fst.snd.snd.snd.snd.snd.snd.snd.snd.snd.snd.fst.fst = 0) then
 bif
 decide
 (x.fst.snd.snd.snd.snd.snd.snd.snd.snd.snd.snd.fst.snd.fst = 0) then
 some
 (decide
 (Int.ofNat
 (List.length
 x.fst.snd.snd.snd.snd.snd.snd.snd.snd.snd.snd.fst.snd.snd.fst) =
 0),
 ())
 else some (false, ())
 else some (false, ())
 else
 bif !x.fst.snd.snd.snd.snd.snd.snd.snd.snd.fst then
 bif decide (x.fst.fst = 7) then some (true, ())
 else
 bif decide (x.fst.snd.snd.snd.snd.snd.snd.snd.snd.snd.snd.fst.fst = 0) then
 bif
 decide
 (x.fst.snd.snd.snd.snd.snd.snd.snd.snd.snd.snd.fst.snd.fst = 0) then
 some
 (decide
 (Int.ofNat
 (List.length
 x.fst.snd.snd.snd.snd.snd.snd.snd.snd.snd.snd.fst.snd.snd.fst) =
 0),
 ())
 else some (false, ())
 else some (false, ())
 else some (false, ())
 else some (false, ())
 else
 bif decide (x.fst.snd.snd.snd.snd.snd.snd.fst = 0) then
 bif
 decide
 (Int.ofNat (List.length x.fst.snd.snd.snd.snd.snd.snd.snd.snd.snd.fst) = 0) then
 bif decide (x.fst.fst = 5) then
 bif x_2.fst then
 bif decide (x.fst.fst = 7) then some (true, ())
 else
 bif decide (x.fst.snd.snd.snd.snd.snd.snd.snd.snd.snd.snd.fst.fst = 0) then
 bif decide (x.fst.snd.snd.snd.snd.snd.snd.snd.snd.snd.snd.fst.snd.fst = 0) then
 some
 (decide
 (Int.ofNat
 (List.length
 x.fst.snd.snd.snd.snd.snd.snd.snd.snd.snd.snd.fst.snd.snd.fst) =
 0),
 ())
 else some (false, ())
 else some (false, ())
 else
 bif decide (x.fst.fst = 6) then
 bif decide (x.fst.fst = 7) then some (true, ())
 else
 bif decide (x.fst.snd.snd.snd.snd.snd.snd.snd.snd.snd.snd.fst.fst = 0) then
 bif
 decide
 (x.fst.snd.snd.snd.snd.snd.snd.snd.snd.snd.snd.fst.snd.fst = 0) then
 some
 (decide
 (Int.ofNat
 (List.length
 x.fst.snd.snd.snd.snd.snd.snd.snd.snd.snd.snd.fst.snd.snd.fst) =
 0),
 ())
 else some (false, ())
 else some (false, ())
 else
 bif !x.fst.snd.snd.snd.snd.snd.snd.snd.snd.fst then
 bif decide (x.fst.fst = 7) then some (true, ())
 else
 bif decide (x.fst.snd.snd.snd.snd.snd.snd.snd.snd.snd.snd.fst.fst = 0) then
 bif
 decide
 (x.fst.snd.snd.snd.snd.snd.snd.snd.snd.snd.snd.fst.snd.fst = 0) then
 some
 (decide
 (Int.ofNat
 (List.length
 x.fst.snd.snd.snd.snd.snd.snd.snd.snd.snd.snd.fst.snd.snd.fst) =
 0),
 ())
 else some (false, ())
 else some (false, ())
 else some (false, ())
 else
 bif decide (x.fst.fst = 6) then
 bif x_2.fst then
 bif decide (x.fst.fst = 7) then some (true, ())
 else
 bif decide (x.fst.snd.snd.snd.snd.snd.snd.snd.snd.snd.snd.fst.fst = 0) then
 bif
 decide
 (x.fst.snd.snd.snd.snd.snd.snd.snd.snd.snd.snd.fst.snd.fst = 0) then
 some
 (decide
 (Int.ofNat
 (List.length
 x.fst.snd.snd.snd.snd.snd.snd.snd.snd.snd.snd.fst.snd.snd.fst) =
 0),
 ())
 else some (false, ())
 else some (false, ())
 else
 bif decide (x.fst.fst = 6) then
 bif decide (x.fst.fst = 7) then some (true, ())
 else
 bif decide (x.fst.snd.snd.snd.snd.snd.snd.snd.snd.snd.snd.fst.fst = 0) then
 bif
 decide
 (x.fst.snd.snd.snd.snd.snd.snd.snd.snd.snd.snd.fst.snd.fst = 0) then
 some
 (decide
 (Int.ofNat
 (List.length
 x.fst.snd.snd.snd.snd.snd.snd.snd.snd.snd.snd.fst.snd.snd.fst) =
 0),
 ())
 else some (false, ())
 else some (false, ())
 else
 bif !x.fst.snd.snd.snd.snd.snd.snd.snd.snd.fst then
 bif decide (x.fst.fst = 7) then some (true, ())
 else
 bif decide (x.fst.snd.snd.snd.snd.snd.snd.snd.snd.snd.snd.fst.fst = 0) then
 bif
 decide
 (x.fst.snd.snd.snd.snd.snd.snd.snd.snd.snd.snd.fst.snd.fst = 0) then
 some
 (decide
 (Int.ofNat
 (List.length
 x.fst.snd.snd.snd.snd.snd.snd.snd.snd.snd.snd.fst.snd.snd.fst) =
 0),
 ())
 else some (false, ())
 else some (false, ())
 else some (false, ())
 else
 bif decide (x.fst.snd.snd.snd.snd.snd.snd.snd.fst = 0) then
 bif x_2.fst then
 bif decide (x.fst.fst = 7) then some (true, ())
 else
 bif decide (x.fst.snd.snd.snd.snd.snd.snd.snd.snd.snd.snd.fst.fst = 0) then
 bif
 decide
 (x.fst.snd.snd.snd.snd.snd.snd.snd.snd.snd.snd.fst.snd.fst = 0) then
 some
 (decide
 (Int.ofNat
 (List.length
 x.fst.snd.snd.snd.snd.snd.snd.snd.snd.snd.snd.fst.snd.snd.fst) =
 0),
 ())
 else some (false, ())
 else some (false, ())
 else
 bif decide (x.fst.fst = 6) then
 bif decide (x.fst.fst = 7) then some (true, ())
 else
 bif decide (x.fst.snd.snd.snd.snd.snd.snd.snd.snd.snd.snd.fst.fst = 0) then
 bif
 decide
 (x.fst.snd.snd.snd.snd.snd.snd.snd.snd.snd.snd.fst.snd.fst = 0) then
 some
 (decide
 (Int.ofNat
 (List.length
 x.fst.snd.snd.snd.snd.snd.snd.snd.snd.snd.snd.fst.snd.snd.fst) =
 0),
 ())
 else some (false, ())
 else some (false, ())
 else
 bif !x.fst.snd.snd.snd.snd.snd.snd.snd.snd.fst then
 bif decide (x.fst.fst = 7) then some (true, ())
 else
 bif
 decide
 (x.fst.snd.snd.snd.snd.snd.snd.snd.snd.snd.snd.fst.fst = 0) then
 bif
 decide
 (x.fst.snd.snd.snd.snd.snd.snd.snd.snd.snd.snd.fst.snd.fst =
 0) then
 some
 (decide
 (Int.ofNat
 (List.length
 x.fst.snd.snd.snd.snd.snd.snd.snd.snd.snd.snd.fst.snd.snd.fst) =
 0),
 ())
 else some (false, ())
 else some (false, ())
 else some (false, ())
 else some (false, ())
 else some (false, ())
 else some (false, ())
 else
 bif decide (x.fst.snd.snd.snd.snd.snd.fst = 0) then
 bif decide (x.fst.fst = 5) then
 bif decide (x.fst.fst = 5) then
 bif x_2.fst then
 bif decide (x.fst.fst = 7) then some (true, ())
 else
 bif decide (x.fst.snd.snd.snd.snd.snd.snd.snd.snd.snd.snd.fst.fst = 0) then
 bif decide (x.fst.snd.snd.snd.snd.snd.snd.snd.snd.snd.snd.fst.snd.fst = 0) then
 some
 (decide
 (Int.ofNat
 (List.length
 x.fst.snd.snd.snd.snd.snd.snd.snd.snd.snd.snd.fst.snd.snd.fst) =
 0),
 ())
 else some (false, ())
 else some (false, ())
 else
 bif decide (x.fst.fst = 6) then
 bif decide (x.fst.fst = 7) then some (true, ())
 else
 bif decide (x.fst.snd.snd.snd.snd.snd.snd.snd.snd.snd.snd.fst.fst = 0) then
 bif decide (x.fst.snd.snd.snd.snd.snd.snd.snd.snd.snd.snd.fst.snd.fst = 0) then
 some
 (decide
 (Int.ofNat
 (List.length
 x.fst.snd.snd.snd.snd.snd.snd.snd.snd.snd.snd.fst.snd.snd.fst) =
 0),
 ())
 else some (false, ())
 else some (false, ())
 else
 bif !x.fst.snd.snd.snd.snd.snd.snd.snd.snd.fst then
 bif decide (x.fst.fst = 7) then some (true, ())
 else
 bif decide (x.fst.snd.snd.snd.snd.snd.snd.snd.snd.snd.snd.fst.fst = 0) then
 bif
 decide
 (x.fst.snd.snd.snd.snd.snd.snd.snd.snd.snd.snd.fst.snd.fst = 0) then
 some
 (decide
 (Int.ofNat
 (List.length
 x.fst.snd.snd.snd.snd.snd.snd.snd.snd.snd.snd.fst.snd.snd.fst) =
 0),
 ())
 else some (false, ())
 else some (false, ())
 else some (false, ())
 else
 bif decide (x.fst.fst = 6) then
 bif x_2.fst then
 bif decide (x.fst.fst = 7) then some (true, ())
 else
 bif decide (x.fst.snd.snd.snd.snd.snd.snd.snd.snd.snd.snd.fst.fst = 0) then
 bif decide (x.fst.snd.snd.snd.snd.snd.snd.snd.snd.snd.snd.fst.snd.fst = 0) then
 some
 (decide
 (Int.ofNat
 (List.length
 x.fst.snd.snd.snd.snd.snd.snd.snd.snd.snd.snd.fst.snd.snd.fst) =
 0),
 ())
 else some (false, ())
 else some (false, ())
 else
 bif decide (x.fst.fst = 6) then
 bif decide (x.fst.fst = 7) then some (true, ())
 else
 bif decide (x.fst.snd.snd.snd.snd.snd.snd.snd.snd.snd.snd.fst.fst = 0) then
 bif
 decide
 (x.fst.snd.snd.snd.snd.snd.snd.snd.snd.snd.snd.fst.snd.fst = 0) then
 some
 (decide
 (Int.ofNat
 (List.length
 x.fst.snd.snd.snd.snd.snd.snd.snd.snd.snd.snd.fst.snd.snd.fst) =
 0),
 ())
 else some (false, ())
 else some (false, ())
 else
 bif !x.fst.snd.snd.snd.snd.snd.snd.snd.snd.fst then
 bif decide (x.fst.fst = 7) then some (true, ())
 else
 bif decide (x.fst.snd.snd.snd.snd.snd.snd.snd.snd.snd.snd.fst.fst = 0) then
 bif
 decide
 (x.fst.snd.snd.snd.snd.snd.snd.snd.snd.snd.snd.fst.snd.fst = 0) then
 some
 (decide
 (Int.ofNat
 (List.length
 x.fst.snd.snd.snd.snd.snd.snd.snd.snd.snd.snd.fst.snd.snd.fst) =
 0),
 ())
 else some (false, ())
 else some (false, ())
 else some (false, ())
 else
 bif decide (x.fst.snd.snd.snd.snd.snd.snd.snd.fst = 0) then
 bif x_2.fst then
 bif decide (x.fst.fst = 7) then some (true, ())
 else
 bif decide (x.fst.snd.snd.snd.snd.snd.snd.snd.snd.snd.snd.fst.fst = 0) then
 bif
 decide
 (x.fst.snd.snd.snd.snd.snd.snd.snd.snd.snd.snd.fst.snd.fst = 0) then
 some
 (decide
 (Int.ofNat
 (List.length
 x.fst.snd.snd.snd.snd.snd.snd.snd.snd.snd.snd.fst.snd.snd.fst) =
 0),
 ())
 else some (false, ())
 else some (false, ())
 else
 bif decide (x.fst.fst = 6) then
 bif decide (x.fst.fst = 7) then some (true, ())
 else
 bif decide (x.fst.snd.snd.snd.snd.snd.snd.snd.snd.snd.snd.fst.fst = 0) then
 bif
 decide
 (x.fst.snd.snd.snd.snd.snd.snd.snd.snd.snd.snd.fst.snd.fst = 0) then
 some
 (decide
 (Int.ofNat
 (List.length
 x.fst.snd.snd.snd.snd.snd.snd.snd.snd.snd.snd.fst.snd.snd.fst) =
 0),
 ())
 else some (false, ())
 else some (false, ())
 else
 bif !x.fst.snd.snd.snd.snd.snd.snd.snd.snd.fst then
 bif decide (x.fst.fst = 7) then some (true, ())
 else
 bif decide (x.fst.snd.snd.snd.snd.snd.snd.snd.snd.snd.snd.fst.fst = 0) then
 bif
 decide
 (x.fst.snd.snd.snd.snd.snd.snd.snd.snd.snd.snd.fst.snd.fst = 0) then
 some
 (decide
 (Int.ofNat
 (List.length
 x.fst.snd.snd.snd.snd.snd.snd.snd.snd.snd.snd.fst.snd.snd.fst) =
 0),
 ())
 else some (false, ())
 else some (false, ())
 else some (false, ())
 else some (false, ())
 else
 bif decide (x.fst.snd.snd.snd.snd.snd.snd.fst = 0) then
 bif
 decide
 (Int.ofNat (List.length x.fst.snd.snd.snd.snd.snd.snd.snd.snd.snd.fst) = 0) then
 bif decide (x.fst.fst = 5) then
 bif x_2.fst then
 bif decide (x.fst.fst = 7) then some (true, ())
 else
 bif decide (x.fst.snd.snd.snd.snd.snd.snd.snd.snd.snd.snd.fst.fst = 0) then
 bif
 decide
 (x.fst.snd.snd.snd.snd.snd.snd.snd.snd.snd.snd.fst.snd.fst = 0) then
 some
 (decide
 (Int.ofNat
 (List.length
 x.fst.snd.snd.snd.snd.snd.snd.snd.snd.snd.snd.fst.snd.snd.fst) =
 0),
 ())
 else some (false, ())
 else some (false, ())
 else
 bif decide (x.fst.fst = 6) then
 bif decide (x.fst.fst = 7) then some (true, ())
 else
 bif decide (x.fst.snd.snd.snd.snd.snd.snd.snd.snd.snd.snd.fst.fst = 0) then
 bif
 decide
 (x.fst.snd.snd.snd.snd.snd.snd.snd.snd.snd.snd.fst.snd.fst = 0) then
 some
 (decide
 (Int.ofNat
 (List.length
 x.fst.snd.snd.snd.snd.snd.snd.snd.snd.snd.snd.fst.snd.snd.fst) =
 0),
 ())
 else some (false, ())
 else some (false, ())
 else
 bif !x.fst.snd.snd.snd.snd.snd.snd.snd.snd.fst then
 bif decide (x.fst.fst = 7) then some (true, ())
 else
 bif decide (x.fst.snd.snd.snd.snd.snd.snd.snd.snd.snd.snd.fst.fst = 0) then
 bif
 decide
 (x.fst.snd.snd.snd.snd.snd.snd.snd.snd.snd.snd.fst.snd.fst = 0) then
 some
 (decide
 (Int.ofNat
 (List.length
 x.fst.snd.snd.snd.snd.snd.snd.snd.snd.snd.snd.fst.snd.snd.fst) =
 0),
 ())
 else some (false, ())
 else some (false, ())
 else some (false, ())
 else
 bif decide (x.fst.fst = 6) then
 bif x_2.fst then
 bif decide (x.fst.fst = 7) then some (true, ())
 else
 bif decide (x.fst.snd.snd.snd.snd.snd.snd.snd.snd.snd.snd.fst.fst = 0) then
 bif
 decide
 (x.fst.snd.snd.snd.snd.snd.snd.snd.snd.snd.snd.fst.snd.fst = 0) then
 some
 (decide
 (Int.ofNat
 (List.length
 x.fst.snd.snd.snd.snd.snd.snd.snd.snd.snd.snd.fst.snd.snd.fst) =
 0),
 ())
 else some (false, ())
 else some (false, ())
 else
 bif decide (x.fst.fst = 6) then
 bif decide (x.fst.fst = 7) then some (true, ())
 else
 bif decide (x.fst.snd.snd.snd.snd.snd.snd.snd.snd.snd.snd.fst.fst = 0) then
 bif
 decide
 (x.fst.snd.snd.snd.snd.snd.snd.snd.snd.snd.snd.fst.snd.fst = 0) then
 some
 (decide
 (Int.ofNat
 (List.length
 x.fst.snd.snd.snd.snd.snd.snd.snd.snd.snd.snd.fst.snd.snd.fst) =
 0),
 ())
 else some (false, ())
 else some (false, ())
 else
 bif !x.fst.snd.snd.snd.snd.snd.snd.snd.snd.fst then
 bif decide (x.fst.fst = 7) then some (true, ())
 else
 bif
 decide
 (x.fst.snd.snd.snd.snd.snd.snd.snd.snd.snd.snd.fst.fst = 0) then
 bif
 decide
 (x.fst.snd.snd.snd.snd.snd.snd.snd.snd.snd.snd.fst.snd.fst =
 0) then
 some
 (decide
 (Int.ofNat
 (List.length
 x.fst.snd.snd.snd.snd.snd.snd.snd.snd.snd.snd.fst.snd.snd.fst) =
 0),
 ())
 else some (false, ())
 else some (false, ())
 else some (false, ())
 else
 bif decide (x.fst.snd.snd.snd.snd.snd.snd.snd.fst = 0) then
 bif x_2.fst then
 bif decide (x.fst.fst = 7) then some (true, ())
 else
 bif decide (x.fst.snd.snd.snd.snd.snd.snd.snd.snd.snd.snd.fst.fst = 0) then
 bif
 decide
 (x.fst.snd.snd.snd.snd.snd.snd.snd.snd.snd.snd.fst.snd.fst = 0) then
 some
 (decide
 (Int.ofNat
 (List.length
 x.fst.snd.snd.snd.snd.snd.snd.snd.snd.snd.snd.fst.snd.snd.fst) =
 0),
 ())
 else some (false, ())
 else some (false, ())
 else
 bif decide (x.fst.fst = 6) then
 bif decide (x.fst.fst = 7) then some (true, ())
 else
 bif
 decide
 (x.fst.snd.snd.snd.snd.snd.snd.snd.snd.snd.snd.fst.fst = 0) then
 bif
 decide
 (x.fst.snd.snd.snd.snd.snd.snd.snd.snd.snd.snd.fst.snd.fst =
 0) then
 some
 (decide
 (Int.ofNat
 (List.length
 x.fst.snd.snd.snd.snd.snd.snd.snd.snd.snd.snd.fst.snd.snd.fst) =
 0),
 ())
 else some (false, ())
 else some (false, ())
 else
 bif !x.fst.snd.snd.snd.snd.snd.snd.snd.snd.fst then
 bif decide (x.fst.fst = 7) then some (true, ())
 else
 bif
 decide
 (x.fst.snd.snd.snd.snd.snd.snd.snd.snd.snd.snd.fst.fst = 0) then
 bif
 decide
 (x.fst.snd.snd.snd.snd.snd.snd.snd.snd.snd.snd.fst.snd.fst =
 0) then
 some
 (decide
 (Int.ofNat
 (List.length
 x.fst.snd.snd.snd.snd.snd.snd.snd.snd.snd.snd.fst.snd.snd.fst) =
 0),
 ())
 else some (false, ())
 else some (false, ())
 else some (false, ())
 else some (false, ())
 else some (false, ())
 else some (false, ())
 else some (false, ())
 else some (false, ()))
 (fun (val : Bool × Unit) => some val) o)
 (fun (val : Bool × Unit) => some val) o
def S31 : Sig := ⟨P31, R31, F31⟩
noncomputable def E31 : Env := { tab := tab, nt := 114, Γ := lookG [], joins := lookN [(2, ⟨[⟨.slot 3, .bool, .pv⟩], [1], [.site 1000, .fld 1000 0, .fld 1000 1, .fld 1000 2, .fld 1000 3, .fld 1000 4, .fld 1000 5, .fld 1000 6, .fld 1000 7, .fld 1000 8, .fld 1000 9, .fld 1000 10]⟩), (3, ⟨[⟨.slot 4, .bool, .pv⟩], [1, 3], [.site 1000, .fld 1000 0, .fld 1000 1, .fld 1000 2, .fld 1000 3, .fld 1000 4, .fld 1000 5, .fld 1000 6, .fld 1000 7, .fld 1000 8, .fld 1000 9, .fld 1000 10]⟩)], loops := lookN [] }
theorem raw31_eq (x : T27D × Unit) : afun E31 Try.f31 P31 R31 x = F31 x := by kernel_rfl
-- decamp/decampref07.number
def F66 (x : Int × Unit) : Option (Bool × Unit) :=
 bif decide (1 ≤ x.fst) then some (decide (x.fst ≤ 1099511627776), ()) else some (false, ())
def S66 : Sig := ⟨P66, R66, F66⟩
noncomputable def E66 : Env := { tab := tab, nt := 9, Γ := lookG [], joins := lookN [], loops := lookN [] }
theorem raw66_eq (x : Int × Unit) : afun E66 Try.f66 P66 R66 x = F66 x := by kernel_rfl
-- decamp/decampref07.Right
def F65 (x : T25D × Unit) : Option (Bool × Unit) :=
 Option.bind (F66 (x.fst.fst, ())) fun b =>
 bif b.fst then
 Option.bind (F66 (x.fst.snd.fst, ())) fun b =>
 bif b.fst then some (decide (Int.ofNat (List.length x.fst.snd.snd.fst) ≤ 12000), ())
 else some (false, ())
 else some (false, ())
def S65 : Sig := ⟨P65, R65, F65⟩
noncomputable def E65 : Env := { tab := tab, nt := 17, Γ := lookG [(66, [S66])], joins := lookN [], loops := lookN [] }
theorem raw65_eq (x : T25D × Unit) : afun E65 Try.f65 P65 R65 x = F65 x := by kernel_rfl
-- decamp/decampref07.Run
def F32 (x : Int × Int × List T25D × Unit) : Option (Bool × Unit) :=
 iterE (Int × Int × Unit) (Bool × Unit)
 (fun (x_1 : Int × Int × Unit) =>
 bif decide (x_1.snd.fst < Int.ofNat (List.length x.snd.snd.fst)) then
 Option.bind (idx x.snd.snd.fst x_1.snd.fst) fun b =>
 Option.bind (F65 (b, ())) fun b =>
 bif !b.fst then some (Sum.inr (false, ()))
 else
 Option.bind (idx x.snd.snd.fst x_1.snd.fst) fun b =>
 bif decide (b.snd.fst < x_1.fst) then some (Sum.inr (false, ()))
 else
 Option.bind
 (bif decide (x_1.snd.fst = 0) then
 bif decide (x.fst < 0) then some (Sum.inr (Sum.inr (false, ())))
 else
 bif decide (1099511627776 ≤ x.fst) then some (Sum.inr (Sum.inr (false, ())))
 else
 Option.bind (idx x.snd.snd.fst x_1.snd.fst) fun b =>
 bif !decide (b.fst = wrap64 (x.fst + 1)) then
 some (Sum.inr (Sum.inr (false, ())))
 else
 bif decide (0 < x_1.snd.fst) then
 Option.bind (idx x.snd.snd.fst x_1.snd.fst) fun b =>
 Option.bind (idx x.snd.snd.fst (wrap64 (x_1.snd.fst - 1)))
 fun b_1 =>
 bif !decide (b.fst = wrap64 (b_1.fst + 1)) then
 some (Sum.inr (Sum.inr (false, ())))
 else some (Sum.inl ())
 else some (Sum.inl ())
 else
 bif decide (0 < x_1.snd.fst) then
 Option.bind (idx x.snd.snd.fst x_1.snd.fst) fun b =>
 Option.bind (idx x.snd.snd.fst (wrap64 (x_1.snd.fst - 1)))
 fun b_1 =>
 bif !decide (b.fst = wrap64 (b_1.fst + 1)) then
 some (Sum.inr (Sum.inr (false, ())))
 else some (Sum.inl ())
 else some (Sum.inl ()))
 fun o =>
 Sum.elim
 (fun (_z : Unit) =>
 Option.bind (idx x.snd.snd.fst x_1.snd.fst) fun b =>
 some (Sum.inl (b.snd.fst, wrap64 (x_1.snd.fst + 1), ())))
 (fun (val : Int × Int × Unit ⊕ Bool × Unit) => some val) o
 else some (Sum.inr (true, ())))
 big (x.snd.fst, 0, ())
def S32 : Sig := ⟨P32, R32, F32⟩
noncomputable def E32 : Env := { tab := tab, nt := 73, Γ := lookG [(65, [S65])], joins := lookN [(8, ⟨[], [0, 2, 7, 9, 10], []⟩)], loops := lookN [(2, mkLoop ⟨[⟨.slot 1, (.int .i64), .pv⟩, ⟨.slot 10, (.int .i64), .pv⟩], [0, 2, 9], []⟩)] }
theorem raw32_eq (x : Int × Int × List T25D × Unit) : afun E32 Try.f32 P32 R32 x = F32 x := by kernel_rfl
-- decamp/decampref07.Snap
def F33 (x : T25D × Unit) : Option (Bool × Unit) :=
 Option.bind
 (bif decide (x.fst.fst = 0) then
 bif decide (x.fst.snd.fst = 0) then
 some (Sum.inr (decide (Int.ofNat (List.length x.fst.snd.snd.fst) = 0), ()))
 else some (Sum.inl ())
 else some (Sum.inl ()))
 fun o =>
 Sum.elim
 (fun (_z : Unit) =>
 Option.bind (F66 (x.fst.fst, ())) fun b =>
 bif b.fst then
 Option.bind (F66 (x.fst.snd.fst, ())) fun b =>
 bif b.fst then some (decide (Int.ofNat (List.length x.fst.snd.snd.fst) ≤ 50000), ())
 else some (false, ())
 else some (false, ()))
 (fun (val : Bool × Unit) => some val) o
def S33 : Sig := ⟨P33, R33, F33⟩
noncomputable def E33 : Env := { tab := tab, nt := 29, Γ := lookG [(66, [S66])], joins := lookN [(3, ⟨[], [1], [.site 1000, .fld 1000 0, .fld 1000 1, .fld 1000 2]⟩)], loops := lookN [] }
theorem raw33_eq (x : T25D × Unit) : afun E33 Try.f33 P33 R33 x = F33 x := by kernel_rfl
-- decamp/decampref11.Right
def F11 (x : T27D × Unit) : Option (Bool × Unit) :=
 bif decide (x.fst.fst < 1) then some (false, ())
 else
 bif decide (7 < x.fst.fst) then some (false, ())
 else
 bif decide (x.fst.snd.fst < 0) then some (false, ())
 else
 bif decide (2 < x.fst.snd.fst) then some (false, ())
 else
 bif decide (x.fst.snd.snd.fst < 0) then some (false, ())
 else
 bif decide (2 < x.fst.snd.snd.fst) then some (false, ())
 else
 bif decide (x.fst.snd.fst = x.fst.snd.snd.fst) then some (false, ())
 else
 bif decide (x.fst.snd.snd.snd.fst < 1) then some (false, ())
 else
 Option.bind (F30 (x.fst.snd.snd.snd.fst, ())) fun b =>
 bif !b.fst then some (false, ())
 else
 Option.bind (F30 (x.fst.snd.snd.snd.snd.fst, ())) fun b =>
 bif !b.fst then some (false, ())
 else
 Option.bind (F30 (x.fst.snd.snd.snd.snd.snd.fst, ())) fun b =>
 bif !b.fst then some (false, ())
 else
 Option.bind (F30 (x.fst.snd.snd.snd.snd.snd.snd.fst, ()))
 fun b =>
 bif !b.fst then some (false, ())
 else
 Option.bind (F30 (x.fst.snd.snd.snd.snd.snd.snd.snd.fst, ()))
 fun b =>
 bif !b.fst then some (false, ())
 else
 Option.bind (F31 x) fun b =>
 bif !b.fst then some (false, ())
 else
 bif
 decide
 (4 <
 Int.ofNat
 (List.length x.fst.snd.snd.snd.snd.snd.snd.snd.snd.snd.fst)) then
 some (false, ())
 else
 Option.bind
 (F32
 (x.fst.snd.snd.snd.snd.fst, x.fst.snd.snd.snd.snd.snd.fst,
 x.fst.snd.snd.snd.snd.snd.snd.snd.snd.snd.fst, ()))
 fun b =>
 bif !b.fst then some (false, ())
 else
 iterE (Int × Unit) (Bool × Unit)
 (fun (x_1 : Int × Unit) =>
 bif
 decide
 (x_1.fst <
 Int.ofNat
 (List.length
 x.fst.snd.snd.snd.snd.snd.snd.snd.snd.snd.fst)) then
 Option.bind
 (idx x.fst.snd.snd.snd.snd.snd.snd.snd.snd.snd.fst x_1.fst)
 fun b =>
 bif decide (x.fst.snd.snd.snd.fst < b.snd.fst) then
 some (Sum.inr (false, ()))
 else
 some
 (Sum.inl
 (wrap64 (x_1.fst + 1), ()))
 else
 Option.map Sum.inr
 (bif !decide (x.fst.fst = 7) then some (true, ())
 else
 Option.bind
 (F33 x.fst.snd.snd.snd.snd.snd.snd.snd.snd.snd.snd)
 fun b =>
 bif b.fst then
 some
 (decide
 (0 <
 x.fst.snd.snd.snd.snd.snd.snd.snd.snd.snd.snd.fst.fst),
 ())
 else some (false, ())))
 big (0, ())
def S11 : Sig := ⟨P11, R11, F11⟩
noncomputable def E11 : Env := { tab := tab, nt := 121, Γ := lookG [(30, [S30]), (31, [S31]), (32, [S32]), (33, [S33])], joins := lookN [], loops := lookN [(8, mkLoop ⟨[⟨.slot 94, (.int .i64), .pv⟩], [1, 93], [.site 1000, .fld 1000 0, .fld 1000 1, .fld 1000 2, .fld 1000 3, .fld 1000 4, .fld 1000 5, .fld 1000 6, .fld 1000 7, .fld 1000 8, .fld 1000 9, .fld 1000 10]⟩)] }
theorem raw11_eq (x : T27D × Unit) : afun E11 Try.f11 P11 R11 x = F11 x := by kernel_rfl
-- decamp/decampref07.One
def F69 (x : T25D × T25D × Unit) : Option (Bool × Unit) :=
 bif decide (x.fst.fst = x.snd.fst.fst) then
 bif decide (x.fst.snd.fst = x.snd.fst.snd.fst) then
 some (decide (x.fst.snd.snd.fst = x.snd.fst.snd.snd.fst), ())
 else some (false, ())
 else some (false, ())
def S69 : Sig := ⟨P69, R69, F69⟩
noncomputable def E69 : Env := { tab := tab, nt := 26, Γ := lookG [], joins := lookN [], loops := lookN [] }
theorem raw69_eq (x : T25D × T25D × Unit) : afun E69 Try.f69 P69 R69 x = F69 x := by kernel_rfl
-- decamp/decampref07.Same
def F36 (x : List T25D × List T25D × Unit) : Option (Bool × Unit) :=
 bif !decide (Int.ofNat (List.length x.fst) = Int.ofNat (List.length x.snd.fst)) then some (false, ())
 else
 iterE (Int × Unit) (Bool × Unit)
 (fun (x_1 : Int × Unit) =>
 bif decide (x_1.fst < Int.ofNat (List.length x.fst)) then
 Option.bind (idx x.fst x_1.fst) fun b =>
 Option.bind (idx x.snd.fst x_1.fst) fun b_1 =>
 Option.bind (F69 (b, b_1, ())) fun b =>
 bif !b.fst then some (Sum.inr (false, ()))
 else some (Sum.inl (wrap64 (x_1.fst + 1), ()))
 else some (Sum.inr (true, ())))
 big (0, ())
def S36 : Sig := ⟨P36, R36, F36⟩
noncomputable def E36 : Env := { tab := tab, nt := 27, Γ := lookG [(69, [S69])], joins := lookN [], loops := lookN [(4, mkLoop ⟨[⟨.slot 13, (.int .i64), .pv⟩], [0, 1, 12], []⟩)] }
theorem raw36_eq (x : List T25D × List T25D × Unit) : afun E36 Try.f36 P36 R36 x = F36 x := by kernel_rfl
-- decamp/decampref07.SameSnap
def F37 (x : T25D × T25D × Unit) : Option (Bool × Unit) :=
 bif decide (x.fst.fst = x.snd.fst.fst) then
 bif decide (x.fst.snd.fst = x.snd.fst.snd.fst) then
 some (decide (x.fst.snd.snd.fst = x.snd.fst.snd.snd.fst), ())
 else some (false, ())
 else some (false, ())
def S37 : Sig := ⟨P37, R37, F37⟩
noncomputable def E37 : Env := { tab := tab, nt := 26, Γ := lookG [], joins := lookN [], loops := lookN [] }
theorem raw37_eq (x : T25D × T25D × Unit) : afun E37 Try.f37 P37 R37 x = F37 x := by kernel_rfl
-- decamp/decampref11.Same
def F13 (x : T27D × T27D × Unit) : Option (Bool × Unit) :=
 bif decide (x.fst.fst = x.snd.fst.fst) then
 bif decide (x.fst.snd.fst = x.snd.fst.snd.fst) then
 bif decide (x.fst.snd.snd.fst = x.snd.fst.snd.snd.fst) then
 bif decide (x.fst.snd.snd.snd.fst = x.snd.fst.snd.snd.snd.fst) then
 bif decide (x.fst.snd.snd.snd.snd.fst = x.snd.fst.snd.snd.snd.snd.fst) then
 bif decide (x.fst.snd.snd.snd.snd.snd.fst = x.snd.fst.snd.snd.snd.snd.snd.fst) then
 bif decide (x.fst.snd.snd.snd.snd.snd.snd.fst = x.snd.fst.snd.snd.snd.snd.snd.snd.fst) then
 bif decide (x.fst.snd.snd.snd.snd.snd.snd.snd.fst = x.snd.fst.snd.snd.snd.snd.snd.snd.snd.fst) then
 bif x.fst.snd.snd.snd.snd.snd.snd.snd.snd.fst == x.snd.fst.snd.snd.snd.snd.snd.snd.snd.snd.fst then
 Option.bind
 (F36
 (x.fst.snd.snd.snd.snd.snd.snd.snd.snd.snd.fst,
 x.snd.fst.snd.snd.snd.snd.snd.snd.snd.snd.snd.fst, ()))
 fun b =>
 bif b.fst then
 Option.bind
 (F37
 (x.fst.snd.snd.snd.snd.snd.snd.snd.snd.snd.snd.fst,
 x.snd.fst.snd.snd.snd.snd.snd.snd.snd.snd.snd.snd))
 fun b => some b
 else some (false, ())
 else some (false, ())
 else some (false, ())
 else some (false, ())
 else some (false, ())
 else some (false, ())
 else some (false, ())
 else some (false, ())
 else some (false, ())
 else some (false, ())
def S13 : Sig := ⟨P13, R13, F13⟩
noncomputable def E13 : Env := { tab := tab, nt := 80, Γ := lookG [(36, [S36]), (37, [S37])], joins := lookN [], loops := lookN [] }
theorem raw13_eq (x : T27D × T27D × Unit) : afun E13 Try.f13 P13 R13 x = F13 x := by kernel_rfl
-- decamp/decamplaw11.RmsgRight
def F3 (x : T27D × T27D × Unit) : Option (Bool × Unit) :=
 Option.bind (F7 ()) fun b =>
 bif !b.fst then Option.bind (F7 ()) fun b => some b
 else
 Option.bind (F8 (x.fst, ())) fun b =>
 bif !b.fst then Option.bind (F7 ()) fun b => some b
 else
 Option.bind (F8 x.snd) fun b =>
 bif !b.fst then Option.bind (F7 ()) fun b => some b
 else
 Option.bind (F9 (x.fst, ()))
 fun b =>
 Option.bind (F9 x.snd)
 fun b_1 =>
 Option.bind (F10 b) fun b_2 =>
 Option.bind (F11 (x.fst, ())) fun b_3 =>
 bif b_2.fst == b_3.fst then
 Option.bind (F12 (b.fst, b_1)) fun b_4 =>
 Option.bind (F13 x) fun b_5 =>
 bif b_4.fst == b_5.fst then Option.bind (F12 (b.fst, b)) fun b => some b
 else some (false, ())
 else some (false, ())
def S3 : Sig := ⟨P3, R3, F3⟩
noncomputable def E3 : Env := { tab := tab, nt := 43, Γ := lookG [(7, [S7]), (8, [S8]), (9, [S9]), (10, [S10]), (11, [S11]), (12, [S12]), (13, [S13])], joins := lookN [], loops := lookN [] }
theorem raw3_eq (x : T27D × T27D × Unit) : afun E3 Try.f3 P3 R3 x = F3 x := by kernel_rfl
-- decamp/decamplaw11.RmsgBare
def F4 (x : T27D × UInt8 × Int × Unit) : Option (Bool × Unit) :=
 Option.bind (F7 ()) fun b =>
 bif !b.fst then Option.bind (F7 ()) fun b => some b
 else
 Option.bind (F8 (x.fst, ())) fun b =>
 bif !b.fst then Option.bind (F7 ()) fun b => some b
 else
 Option.bind (F11 (x.fst, ())) fun b =>
 bif !b.fst then Option.bind (F7 ()) fun b => some b
 else
 bif decide (x.snd.snd.fst = 0) then Option.bind (F7 ()) fun b => some b
 else
 Option.bind
 (Option.bind (remO (intOf8 x.snd.fst) (intOf8 (UInt8.ofNat 6))) fun b =>
 bif decide (intOf8 (Sx.byteOf b) = intOf8 (UInt8.ofNat 0)) then
 some
 (Sum.inl
 (x.snd.snd.fst, x.fst.snd.snd.snd.snd.snd.fst, x.fst.snd.snd.snd.snd.snd.snd.fst,
 x.fst.snd.snd.snd.snd.snd.snd.snd.fst, x.fst.snd.snd.snd.snd.snd.snd.snd.snd.fst,
 x.fst.snd.snd.snd.snd.snd.snd.snd.snd.snd.snd))
 else
 bif decide (intOf8 (Sx.byteOf b) = intOf8 (UInt8.ofNat 1)) then
 some
 (Sum.inl
 (x.fst.snd.snd.snd.snd.fst, x.snd.snd.fst, x.fst.snd.snd.snd.snd.snd.snd.fst,
 x.fst.snd.snd.snd.snd.snd.snd.snd.fst, x.fst.snd.snd.snd.snd.snd.snd.snd.snd.fst,
 x.fst.snd.snd.snd.snd.snd.snd.snd.snd.snd.snd))
 else
 bif decide (intOf8 (Sx.byteOf b) = intOf8 (UInt8.ofNat 2)) then
 some
 (Sum.inl
 (x.fst.snd.snd.snd.snd.fst, x.fst.snd.snd.snd.snd.snd.fst, x.snd.snd.fst,
 x.fst.snd.snd.snd.snd.snd.snd.snd.fst, x.fst.snd.snd.snd.snd.snd.snd.snd.snd.fst,
 x.fst.snd.snd.snd.snd.snd.snd.snd.snd.snd.snd))
 else
 bif decide (intOf8 (Sx.byteOf b) = intOf8 (UInt8.ofNat 3)) then
 some
 (Sum.inl
 (x.fst.snd.snd.snd.snd.fst, x.fst.snd.snd.snd.snd.snd.fst,
 x.fst.snd.snd.snd.snd.snd.snd.fst, x.snd.snd.fst,
 x.fst.snd.snd.snd.snd.snd.snd.snd.snd.fst,
 x.fst.snd.snd.snd.snd.snd.snd.snd.snd.snd.snd))
 else
 bif decide (intOf8 (Sx.byteOf b) = intOf8 (UInt8.ofNat 4)) then
 some
 (Sum.inl
 (x.fst.snd.snd.snd.snd.fst, x.fst.snd.snd.snd.snd.snd.fst,
 x.fst.snd.snd.snd.snd.snd.snd.fst, x.fst.snd.snd.snd.snd.snd.snd.snd.fst,
 !x.fst.snd.snd.snd.snd.snd.snd.snd.snd.fst,
 x.fst.snd.snd.snd.snd.snd.snd.snd.snd.snd.snd))
 else
 some
 (Sum.inl
 (x.fst.snd.snd.snd.snd.fst, x.fst.snd.snd.snd.snd.snd.fst,
 x.fst.snd.snd.snd.snd.snd.snd.fst, x.fst.snd.snd.snd.snd.snd.snd.snd.fst,
 x.fst.snd.snd.snd.snd.snd.snd.snd.snd.fst,
 (1, 1, x.fst.snd.snd.snd.snd.snd.snd.snd.snd.snd.snd.fst.snd.snd), ())))
 fun o =>
 Sum.elim
 (fun (x_1 : Int × Int × Int × Int × Bool × T25D × Unit) =>
 Option.bind (F9 (x.fst, ()))
 fun b =>
 Option.bind (F10 b) fun b =>
 bif b.fst then
 Option.bind
 (F9
 ((x.fst.fst, x.fst.snd.fst, x.fst.snd.snd.fst, x.fst.snd.snd.snd.fst, x_1.fst,
 x_1.snd.fst, x_1.snd.snd.fst, x_1.snd.snd.snd.fst, x_1.snd.snd.snd.snd.fst,
 x.fst.snd.snd.snd.snd.snd.snd.snd.snd.snd.fst, x_1.snd.snd.snd.snd.snd),
 ()))
 fun b =>
 Option.bind (F10 b) fun b =>
 Option.bind
 (F11
 ((x.fst.fst, x.fst.snd.fst, x.fst.snd.snd.fst, x.fst.snd.snd.snd.fst, x_1.fst,
 x_1.snd.fst, x_1.snd.snd.fst, x_1.snd.snd.snd.fst, x_1.snd.snd.snd.snd.fst,
 x.fst.snd.snd.snd.snd.snd.snd.snd.snd.snd.fst, x_1.snd.snd.snd.snd.snd),
 ()))
 fun b_1 => some (b.fst == b_1.fst, ())
 else some (false, ()))
 (fun (val : Bool × Unit) => some val) o
def S4 : Sig := ⟨P4, R4, F4⟩
noncomputable def E4 : Env := { tab := tab, nt := 65, Γ := lookG [(7, [S7]), (8, [S8]), (9, [S9]), (10, [S10]), (11, [S11])], joins := lookN [(16, ⟨[⟨.fld 3002000 4, (.int .i64), .pv⟩, ⟨.fld 3002000 5, (.int .i64), .pv⟩, ⟨.fld 3002000 6, (.int .i64), .pv⟩, ⟨.fld 3002000 7, (.int .i64), .pv⟩, ⟨.fld 3002000 8, .bool, .pv⟩, ⟨.fld 3002000 10, T25, .pv⟩], [3, 7], [.site 3002000, .fld 3002000 0, .fld 3002000 1, .fld 3002000 2, .fld 3002000 3, .fld 3002000 9, .site 1000, .fld 1000 0, .fld 1000 1, .fld 1000 2, .fld 1000 3, .fld 1000 4, .fld 1000 5, .fld 1000 6, .fld 1000 7, .fld 1000 8, .fld 1000 9, .fld 1000 10]⟩)], loops := lookN [] }
theorem raw4_eq (x : T27D × UInt8 × Int × Unit) : afun E4 Try.f4 P4 R4 x = F4 x := by kernel_rfl
-- bytes.Clone
def F38 (x : List UInt8 × Unit) : Option (List UInt8 × Unit) :=
 bif List.isEmpty x.fst then
 bothE T47D (some ([], ()))
 (Option.bind (appU [] x.fst) fun b => some (b, ()))
 else Option.bind (appU [] x.fst) fun b => some (b, ())
def S38 : Sig := ⟨P38, R38, F38⟩
noncomputable def E38 : Env := { tab := tab, nt := 8, Γ := lookG [], joins := lookN [], loops := lookN [] }
theorem raw38_eq (x : List UInt8 × Unit) : afun E38 Try.f38 P38 R38 x = F38 x := by kernel_rfl
-- decamp/octets.NewIn
def F14 (x : List UInt8 × Unit) : Option (T40D × Unit) :=
 Option.bind (F38 x) fun b => some ((b.fst, false, ()), ())
def S14 : Sig := ⟨P14, R14, F14⟩
noncomputable def E14 : Env := { tab := tab, nt := 7, Γ := lookG [(38, [S38])], joins := lookN [], loops := lookN [] }
theorem raw14_eq (x : List UInt8 × Unit) : afun E14 Try.f14 P14 R14 x = F14 x := by kernel_rfl
-- (*decamp/octets.In).Bad
def F18 (x : T40D × Unit) : Option (Bool × T40D × Unit) := some (x.fst.snd.fst, x)
def S18 : Sig := ⟨P18, R18, F18⟩
noncomputable def E18 : Env := { tab := tab, nt := 11, Γ := lookG [], joins := lookN [], loops := lookN [] }
theorem raw18_eq (x : T40D × Unit) : afun E18 Try.f18 P18 R18 x = F18 x := by kernel_rfl
-- (*decamp/octets.In).Fail
def F45 (x : T40D × Unit) : Option (T40D × Unit) := some (([], true, ()), ())
def S45 : Sig := ⟨P45, R45, F45⟩
noncomputable def E45 : Env := { tab := tab, nt := 10, Γ := lookG [], joins := lookN [], loops := lookN [] }
theorem raw45_eq (x : T40D × Unit) : afun E45 Try.f45 P45 R45 x = F45 x := by kernel_rfl
-- (*decamp/octets.In).take
def F78 (x : T40D × Int × Unit) : Option (List UInt8 × T40D × Unit) :=
 bif x.fst.snd.fst then some ([], x.fst, ())
 else
 bif decide (Int.ofNat (List.length x.fst.fst) < x.snd.fst) then
 Option.bind (F45 (x.fst, ())) fun b => some ([], b)
 else
 Option.bind (sliceO x.fst.fst 0 x.snd.fst) fun b =>
 Option.bind (sliceO b 0 x.snd.fst) fun b =>
 Option.bind (sliceO x.fst.fst x.snd.fst ↑(List.length x.fst.fst)) fun b_1 =>
 some (b, (b_1, x.fst.snd), ())
def S78 : Sig := ⟨P78, R78, F78⟩
noncomputable def E78 : Env := { tab := tab, nt := 40, Γ := lookG [(45, [S45])], joins := lookN [], loops := lookN [] }
theorem raw78_eq (x : T40D × Int × Unit) : afun E78 Try.f78 P78 R78 x = F78 x := by kernel_rfl
-- (*decamp/octets.In).wide
def F70 (x : T40D × Int × Unit) : Option (Int × T40D × Unit) :=
 Option.bind (F78 x) fun b =>
 iterE (Int × Int × Unit) (Int × T40D × Unit)
 (fun (x : Int × Int × Unit) =>
 bif decide (x.snd.fst < Int.ofNat (List.length b.fst)) then
 Option.bind (idx b.fst x.snd.fst) fun b =>
 Option.bind (shlO IntKind.u64 x.fst 8) fun b_1 =>
 some
 (Sum.inl
 (bitsO BinOp.or IntKind.u64 b_1 (IntKind.wrap IntKind.u64 (intOf8 b)),
 wrap64 (x.snd.fst + 1), ()))
 else some (Sum.inr (x.fst, b.snd)))
 big (0, 0, ())
def S70 : Sig := ⟨P70, R70, F70⟩
noncomputable def E70 : Env := { tab := tab, nt := 23, Γ := lookG [(78, [S78])], joins := lookN [], loops := lookN [(3, mkLoop ⟨[⟨.slot 5, (.int .u64), .pv⟩, ⟨.slot 12, (.int .i64), .pv⟩], [10, 11], [.site 0, .fld 0 0, .fld 0 1]⟩)] }
theorem raw70_eq (x : T40D × Int × Unit) : afun E70 Try.f70 P70 R70 x = F70 x := by kernel_rfl
-- (*decamp/octets.In).Byte
def F39 (x : T40D × Unit) : Option (UInt8 × T40D × Unit) :=
 Option.bind (F70 (x.fst, 1, ())) fun b =>
 some (Sx.byteOf (IntKind.wrap IntKind.u8 b.fst), b.snd)
def S39 : Sig := ⟨P39, R39, F39⟩
noncomputable def E39 : Env := { tab := tab, nt := 6, Γ := lookG [(70, [S70])], joins := lookN [], loops := lookN [] }
theorem raw39_eq (x : T40D × Unit) : afun E39 Try.f39 P39 R39 x = F39 x := by kernel_rfl
-- (*decamp/octets.In).Num
def F40 (x : T40D × Unit) : Option (Int × T40D × Unit) :=
 Option.bind (F70 (x.fst, 8, ())) fun b =>
 some (wrap64 b.fst, b.snd)
def S40 : Sig := ⟨P40, R40, F40⟩
noncomputable def E40 : Env := { tab := tab, nt := 6, Γ := lookG [(70, [S70])], joins := lookN [], loops := lookN [] }
theorem raw40_eq (x : T40D × Unit) : afun E40 Try.f40 P40 R40 x = F40 x := by kernel_rfl
-- (*decamp/octets.In).Flag
def F41 (x : T40D × Unit) : Option (Bool × T40D × Unit) :=
 Option.bind (F39 x) fun b =>
 bif decide (intOf8 (UInt8.ofNat 1) < intOf8 b.fst) then
 Option.bind (F45 b.snd) fun b_1 =>
 some (decide (intOf8 b.fst = intOf8 (UInt8.ofNat 1)), b_1)
 else some (decide (intOf8 b.fst = intOf8 (UInt8.ofNat 1)), b.snd)
def S41 : Sig := ⟨P41, R41, F41⟩
noncomputable def E41 : Env := { tab := tab, nt := 12, Γ := lookG [(39, [S39]), (45, [S45])], joins := lookN [], loops := lookN [] }
theorem raw41_eq (x : T40D × Unit) : afun E41 Try.f41 P41 R41 x = F41 x := by kernel_rfl
-- (*decamp/octets.In).Left
def F19 (x : T40D × Unit) : Option (Int × T40D × Unit) := some (Int.ofNat (List.length x.fst.fst), x)
def S19 : Sig := ⟨P19, R19, F19⟩
noncomputable def E19 : Env := { tab := tab, nt := 10, Γ := lookG [], joins := lookN [], loops := lookN [] }
theorem raw19_eq (x : T40D × Unit) : afun E19 Try.f19 P19 R19 x = F19 x := by kernel_rfl
-- (*decamp/octets.In).Count
def F42 (x : T40D × Int × Unit) : Option (Int × T40D × Unit) :=
 Option.bind (F70 (x.fst, 4, ())) fun b =>
 bif decide (IntKind.wrap IntKind.u64 (maxI x.snd.fst 0) < b.fst) then
 Option.bind (F45 b.snd) fun b => some (0, b)
 else
 Option.bind (F19 b.snd) fun b_1 =>
 bif decide (IntKind.wrap IntKind.u64 b_1.fst < b.fst) then
 Option.bind (F45 b_1.snd) fun b => some (0, b)
 else
 bif decide (x.snd.fst < 0) then
 Option.bind (F45 b_1.snd) fun b => some (0, b)
 else some (wrap64 b.fst, b_1.snd)
def S42 : Sig := ⟨P42, R42, F42⟩
noncomputable def E42 : Env := { tab := tab, nt := 28, Γ := lookG [(19, [S19]), (45, [S45]), (70, [S70])], joins := lookN [], loops := lookN [] }
theorem raw42_eq (x : T40D × Int × Unit) : afun E42 Try.f42 P42 R42 x = F42 x := by kernel_rfl
-- (*decamp/octets.In).Bytes
def F71 (x : T40D × Int × Unit) : Option (List UInt8 × T40D × Unit) :=
 Option.bind (F42 x) fun b =>
 Option.bind (F78 (b.snd.fst, b.fst, ())) fun b =>
 some b
def S71 : Sig := ⟨P71, R71, F71⟩
noncomputable def E71 : Env := { tab := tab, nt := 10, Γ := lookG [(42, [S42]), (78, [S78])], joins := lookN [], loops := lookN [] }
theorem raw71_eq (x : T40D × Int × Unit) : afun E71 Try.f71 P71 R71 x = F71 x := by kernel_rfl
-- decamp/entry.Get
def F43 (x : T40D × Unit) : Option (T25D × T40D × Unit) :=
 Option.bind (F40 x) fun b =>
 Option.bind (F40 b.snd) fun b_1 =>
 Option.bind (F71 (b_1.snd.fst, 12000, ())) fun b_2 =>
 Option.bind (F18 b_2.snd) fun b_3 =>
 bif b_3.fst then
 Option.bind (F45 b_3.snd) fun b => some ((0, 0, [], ()), b)
 else
 Option.bind (F63 ((b.fst, b_1.fst, b_2.fst, ()), ())) fun b_4 =>
 bif !b_4.fst then
 Option.bind (F45 b_3.snd) fun b =>
 some ((0, 0, [], ()), b)
 else some ((b.fst, b_1.fst, b_2.fst, ()), b_3.snd)
def S43 : Sig := ⟨P43, R43, F43⟩
noncomputable def E43 : Env := { tab := tab, nt := 22, Γ := lookG [(18, [S18]), (40, [S40]), (45, [S45]), (63, [S63]), (71, [S71])], joins := lookN [], loops := lookN [] }
theorem raw43_eq (x : T40D × Unit) : afun E43 Try.f43 P43 R43 x = F43 x := by kernel_rfl
-- decamp/entry.GetSnap
def F44 (x : T40D × Unit) : Option (T25D × T40D × Unit) :=
 Option.bind (F40 x) fun b =>
 Option.bind (F40 b.snd) fun b_1 =>
 Option.bind (F71 (b_1.snd.fst, 50000, ())) fun b_2 =>
 Option.bind (F18 b_2.snd) fun b_3 =>
 bif b_3.fst then
 Option.bind (F45 b_3.snd) fun b => some ((0, 0, [], ()), b)
 else
 Option.bind (F29 ((b.fst, b_1.fst, b_2.fst, ()), ())) fun b_4 =>
 bif !b_4.fst then
 Option.bind (F45 b_3.snd) fun b =>
 some ((0, 0, [], ()), b)
 else some ((b.fst, b_1.fst, b_2.fst, ()), b_3.snd)
def S44 : Sig := ⟨P44, R44, F44⟩
noncomputable def E44 : Env := { tab := tab, nt := 22, Γ := lookG [(18, [S18]), (29, [S29]), (40, [S40]), (45, [S45]), (71, [S71])], joins := lookN [], loops := lookN [] }
theorem raw44_eq (x : T40D × Unit) : afun E44 Try.f44 P44 R44 x = F44 x := by kernel_rfl
-- decamp/rmsg.Get
def F15 (x : T40D × Unit) : Option (T27D × T40D × Unit) :=
 Option.bind (F39 x) fun b =>
 Option.bind (F39 b.snd) fun b_1 =>
 Option.bind (F39 b_1.snd) fun b_2 =>
 Option.bind (F40 b_2.snd) fun b_3 =>
 Option.bind (F40 b_3.snd) fun b_4 =>
 Option.bind (F40 b_4.snd) fun b_5 =>
 Option.bind (F40 b_5.snd) fun b_6 =>
 Option.bind (F40 b_6.snd) fun b_7 =>
 Option.bind (F41 b_7.snd) fun b_8 =>
 Option.bind (F42 (b_8.snd.fst, 4, ()))
 fun b_9 =>
 iterE (Int × List UInt8 × Bool × List T25D × Unit)
 ((Int × Int × Int × Int × Int × Int × Int × Int × Bool × List T25D × T25D × Unit) × T40D × Unit)
 (fun (x : Int × List UInt8 × Bool × List T25D × Unit) =>
 bif decide (x.fst < b_9.fst) then
 Option.bind (F43 ((x.snd.fst, x.snd.snd.fst, ()), ()))
 fun b =>
 Option.bind (appO x.snd.snd.snd.fst [b.fst])
 fun b_10 =>
 some
 (Sum.inl
 (wrap64 (x.fst + 1), b.snd.fst.fst, b.snd.fst.snd.fst, b_10,
 ()))
 else
 Option.map Sum.inr
 (Option.bind
 (bif decide (wrap64 (intOf8 b.fst) = 7) then
 Option.bind (F44 ((x.snd.fst, x.snd.snd.fst, ()), ()))
 fun b =>
 some (Sum.inl (b.fst, b.snd.fst))
 else some (Sum.inl ((0, 0, [], ()), x.snd.fst, x.snd.snd.fst, ())))
 fun o =>
 Sum.elim
 (fun (x_1 : T25D × T40D) =>
 Option.bind (F18 (x_1.snd, ()))
 fun b_10 =>
 bif b_10.fst then
 Option.bind (F45 b_10.snd) fun b =>
 some
 ((0, 0, 0, 0, 0, 0, 0, 0, false, [], (0, 0, [], ()), ()), b)
 else
 Option.bind
 (F10
 ((wrap64 (intOf8 b.fst),
 wrap64 (intOf8 b_1.fst),
 wrap64 (intOf8 b_2.fst), b_3.fst, b_4.fst, b_5.fst,
 b_6.fst, b_7.fst, b_8.fst, x.snd.snd.snd.fst, x_1.fst, ()),
 ()))
 fun b_11 =>
 bif !b_11.fst then
 Option.bind (F45 b_10.snd) fun b =>
 some
 ((0, 0, 0, 0, 0, 0, 0, 0, false, [], (0, 0, [], ()),
 ()),
 b)
 else
 some
 ((wrap64 (intOf8 b.fst),
 wrap64 (intOf8 b_1.fst),
 wrap64 (intOf8 b_2.fst), b_3.fst, b_4.fst, b_5.fst,
 b_6.fst, b_7.fst, b_8.fst, x.snd.snd.snd.fst, x_1.fst, ()),
 b_10.snd))
 (fun (val :
 (Int × Int × Int × Int × Int × Int × Int × Int × Bool × List T25D × T25D × Unit) × T40D × Unit) =>
 some val)
 o))
 big (0, b_9.snd.fst.fst, b_9.snd.fst.snd.fst, [], ())
def S15 : Sig := ⟨P15, R15, F15⟩
noncomputable def E15 : Env := { tab := tab, nt := 61, Γ := lookG [(10, [S10]), (18, [S18]), (39, [S39]), (40, [S40]), (41, [S41]), (42, [S42]), (43, [S43]), (44, [S44]), (45, [S45])], joins := lookN [(10, ⟨[⟨.fld 1011000 10, T25, .pv⟩, ⟨.fld 0 0, (.slice .u8), .pv⟩, ⟨.fld 0 1, .bool, .pv⟩], [0, 2, 3], [.site 1011000, .fld 1011000 0, .fld 1011000 1, .fld 1011000 2, .fld 1011000 3, .fld 1011000 4, .fld 1011000 5, .fld 1011000 6, .fld 1011000 7, .fld 1011000 8, .fld 1011000 9, .row 50005003, .site 1000, .fld 1000 0, .fld 1000 1, .fld 1000 2, .fld 1000 3, .fld 1000 4, .fld 1000 5, .fld 1000 6, .fld 1000 7, .fld 1000 8, .fld 1000 9, .fld 1000 10, .site 0]⟩)], loops := lookN [(5, mkLoop ⟨[⟨.slot 34, (.int .i64), .pv⟩, ⟨.fld 0 0, (.slice .u8), .pv⟩, ⟨.fld 0 1, .bool, .pv⟩, ⟨.fld 1011000 9, (.slice T25), .own false⟩], [0, 2, 3, 33], [.site 0, .site 1011000, .fld 1011000 0, .fld 1011000 1, .fld 1011000 2, .fld 1011000 3, .fld 1011000 4, .fld 1011000 5, .fld 1011000 6, .fld 1011000 7, .fld 1011000 8, .fld 1011000 10, .site 1000, .fld 1000 0, .fld 1000 1, .fld 1000 2, .fld 1000 3, .fld 1000 4, .fld 1000 5, .fld 1000 6, .fld 1000 7, .fld 1000 8, .fld 1000 9, .fld 1000 10]⟩)] }
theorem raw15_eq (x : T40D × Unit) : afun E15 Try.f15 P15 R15 x = F15 x := by kernel_rfl
-- (decamp/decampref03.In).Bytes
def F79 (x : T40D × Int × Unit) : Option (List UInt8 × T40D × Unit) :=
 bif x.fst.snd.fst then some ([], ([], true, ()), ())
 else
 bif decide (Int.ofNat (List.length x.fst.fst) < x.snd.fst) then some ([], ([], true, ()), ())
 else
 Option.bind (sliceO x.fst.fst 0 x.snd.fst) fun b =>
 Option.bind (sliceO x.fst.fst x.snd.fst ↑(List.length x.fst.fst)) fun b_1 =>
 some (b, (b_1, false, ()), ())
def S79 : Sig := ⟨P79, R79, F79⟩
noncomputable def E79 : Env := { tab := tab, nt := 25, Γ := lookG [], joins := lookN [], loops := lookN [] }
theorem raw79_eq (x : T40D × Int × Unit) : afun E79 Try.f79 P79 R79 x = F79 x := by kernel_rfl
-- (decamp/decampref03.In).Number
def F72 (x : T40D × Int × Unit) : Option (Int × T40D × Unit) :=
 Option.bind (F79 x) fun b =>
 iterE (Int × Int × Unit) (Int × T40D × Unit)
 (fun (x : Int × Int × Unit) =>
 bif decide (x.snd.fst < Int.ofNat (List.length b.fst)) then
 Option.bind (idx b.fst x.snd.fst) fun b =>
 some
 (Sum.inl
 (IntKind.wrap IntKind.u64
 (IntKind.wrap IntKind.u64 (x.fst * 256) + IntKind.wrap IntKind.u64 (intOf8 b)),
 wrap64 (x.snd.fst + 1), ()))
 else some (Sum.inr (x.fst, b.snd)))
 big (0, 0, ())
def S72 : Sig := ⟨P72, R72, F72⟩
noncomputable def E72 : Env := { tab := tab, nt := 32, Γ := lookG [(79, [S79])], joins := lookN [], loops := lookN [(4, mkLoop ⟨[⟨.slot 8, (.int .u64), .pv⟩, ⟨.slot 18, (.int .i64), .pv⟩], [5, 6, 7, 17], [.site 1007000, .fld 1007000 0, .fld 1007000 1, .site 3000, .fld 3000 0, .fld 3000 1]⟩)] }
theorem raw72_eq (x : T40D × Int × Unit) : afun E72 Try.f72 P72 R72 x = F72 x := by kernel_rfl
-- (decamp/decampref03.In).Byte
def F46 (x : T40D × Unit) : Option (UInt8 × T40D × Unit) :=
 Option.bind (F72 (x.fst, 1, ())) fun b =>
 some (Sx.byteOf (IntKind.wrap IntKind.u8 b.fst), b.snd)
def S46 : Sig := ⟨P46, R46, F46⟩
noncomputable def E46 : Env := { tab := tab, nt := 14, Γ := lookG [(72, [S72])], joins := lookN [], loops := lookN [] }
theorem raw46_eq (x : T40D × Unit) : afun E46 Try.f46 P46 R46 x = F46 x := by kernel_rfl
-- (decamp/decampref03.In).Num
def F47 (x : T40D × Unit) : Option (Int × T40D × Unit) :=
 Option.bind (F72 (x.fst, 8, ())) fun b =>
 some (wrap64 b.fst, b.snd)
def S47 : Sig := ⟨P47, R47, F47⟩
noncomputable def E47 : Env := { tab := tab, nt := 14, Γ := lookG [(72, [S72])], joins := lookN [], loops := lookN [] }
theorem raw47_eq (x : T40D × Unit) : afun E47 Try.f47 P47 R47 x = F47 x := by kernel_rfl
-- (decamp/decampref03.In).Flag
def F48 (x : T40D × Unit) : Option (Bool × T40D × Unit) :=
 Option.bind (F72 (x.fst, 1, ())) fun b =>
 bif decide (1 < b.fst) then some (false, ([], true, ()), ()) else some (decide (b.fst = 1), b.snd)
def S48 : Sig := ⟨P48, R48, F48⟩
noncomputable def E48 : Env := { tab := tab, nt := 17, Γ := lookG [(72, [S72])], joins := lookN [], loops := lookN [] }
theorem raw48_eq (x : T40D × Unit) : afun E48 Try.f48 P48 R48 x = F48 x := by kernel_rfl
-- (decamp/decampref03.In).Count
def F49 (x : T40D × Int × Unit) : Option (Int × T40D × Unit) :=
 Option.bind (F72 (x.fst, 4, ())) fun b =>
 bif decide (x.snd.fst < 0) then some (0, ([], true, ()), ())
 else
 bif decide (IntKind.wrap IntKind.u64 x.snd.fst < b.fst) then some (0, ([], true, ()), ())
 else
 bif decide (IntKind.wrap IntKind.u64 (Int.ofNat (List.length b.snd.fst.fst)) < b.fst) then
 some (0, ([], true, ()), ())
 else some (wrap64 b.fst, b.snd)
def S49 : Sig := ⟨P49, R49, F49⟩
noncomputable def E49 : Env := { tab := tab, nt := 33, Γ := lookG [(72, [S72])], joins := lookN [], loops := lookN [] }
theorem raw49_eq (x : T40D × Int × Unit) : afun E49 Try.f49 P49 R49 x = F49 x := by kernel_rfl
-- (decamp/decampref03.In).Text
def F80 (x : T40D × Int × Unit) : Option (List UInt8 × T40D × Unit) :=
 Option.bind (F49 x) fun b =>
 Option.bind (F79 (b.snd.fst, b.fst, ())) fun b =>
 some b
def S80 : Sig := ⟨P80, R80, F80⟩
noncomputable def E80 : Env := { tab := tab, nt := 24, Γ := lookG [(49, [S49]), (79, [S79])], joins := lookN [], loops := lookN [] }
theorem raw80_eq (x : T40D × Int × Unit) : afun E80 Try.f80 P80 R80 x = F80 x := by kernel_rfl
-- decamp/decampref07.taken
def F73 (x : T40D × Int × Unit) : Option (Int × Int × List UInt8 × T40D × Unit) :=
 Option.bind (F47 (x.fst, ())) fun b =>
 Option.bind (F47 b.snd) fun b_1 =>
 Option.bind (F80 (b_1.snd.fst, x.snd)) fun b_2 =>
 some (b.fst, b_1.fst, b_2)
def S73 : Sig := ⟨P73, R73, F73⟩
noncomputable def E73 : Env := { tab := tab, nt := 31, Γ := lookG [(47, [S47]), (80, [S80])], joins := lookN [], loops := lookN [] }
theorem raw73_eq (x : T40D × Int × Unit) : afun E73 Try.f73 P73 R73 x = F73 x := by kernel_rfl
-- decamp/decampref07.From
def F50 (x : T40D × Unit) : Option (T25D × T40D × Unit) :=
 Option.bind (F73 (x.fst, 12000, ())) fun b =>
 bif b.snd.snd.snd.fst.snd.fst then some ((0, 0, [], ()), ([], true, ()), ())
 else
 Option.bind (F65 ((b.fst, b.snd.fst, b.snd.snd.fst, ()), ())) fun b_1 =>
 bif !b_1.fst then some ((0, 0, [], ()), ([], true, ()), ())
 else some ((b.fst, b.snd.fst, b.snd.snd.fst, ()), b.snd.snd.snd)
def S50 : Sig := ⟨P50, R50, F50⟩
noncomputable def E50 : Env := { tab := tab, nt := 31, Γ := lookG [(65, [S65]), (73, [S73])], joins := lookN [], loops := lookN [] }
theorem raw50_eq (x : T40D × Unit) : afun E50 Try.f50 P50 R50 x = F50 x := by kernel_rfl
-- decamp/decampref07.SnapFrom
def F51 (x : T40D × Unit) : Option (T25D × T40D × Unit) :=
 Option.bind (F73 (x.fst, 50000, ())) fun b =>
 bif b.snd.snd.snd.fst.snd.fst then some ((0, 0, [], ()), ([], true, ()), ())
 else
 Option.bind (F33 ((b.fst, b.snd.fst, b.snd.snd.fst, ()), ())) fun b_1 =>
 bif !b_1.fst then some ((0, 0, [], ()), ([], true, ()), ())
 else some ((b.fst, b.snd.fst, b.snd.snd.fst, ()), b.snd.snd.snd)
def S51 : Sig := ⟨P51, R51, F51⟩
noncomputable def E51 : Env := { tab := tab, nt := 31, Γ := lookG [(33, [S33]), (73, [S73])], joins := lookN [], loops := lookN [] }
theorem raw51_eq (x : T40D × Unit) : afun E51 Try.f51 P51 R51 x = F51 x := by kernel_rfl
-- decamp/decampref11.From
def F16 (x : T40D × Unit) : Option (T27D × T40D × Unit) :=
 iterE (Int × UInt8 × UInt8 × UInt8 × T40D)
 ((Int × Int × Int × Int × Int × Int × Int × Int × Bool × List T25D × T25D × Unit) × T40D × Unit)
 (fun (x : Int × UInt8 × UInt8 × UInt8 × T40D) =>
 bif decide (x.fst < 3) then
 Option.bind (F46 (x.snd.snd.snd.snd, ())) fun b =>
 bif decide (x.fst = Int.ofNat 0) then
 some (Sum.inl (wrap64 (x.fst + 1), b.fst, x.snd.snd.fst, x.snd.snd.snd.fst, b.snd.fst))
 else
 bif decide (x.fst = Int.ofNat (0 + 1)) then
 some (Sum.inl (wrap64 (x.fst + 1), x.snd.fst, b.fst, x.snd.snd.snd.fst, b.snd.fst))
 else
 bif decide (x.fst = Int.ofNat (0 + 1 + 1)) then
 some (Sum.inl (wrap64 (x.fst + 1), x.snd.fst, x.snd.snd.fst, b.fst, b.snd.fst))
 else none
 else
 Option.map Sum.inr
 (iterE (Int × Int × Int × Int × Int × Int × T40D)
 ((Int × Int × Int × Int × Int × Int × Int × Int × Bool × List T25D × T25D × Unit) × T40D × Unit)
 (fun (x_1 : Int × Int × Int × Int × Int × Int × T40D) =>
 bif decide (x_1.fst < 5) then
 Option.bind (F47 (x_1.snd.snd.snd.snd.snd.snd, ()))
 fun b =>
 bif decide (x_1.fst = Int.ofNat 0) then
 some
 (Sum.inl
 (wrap64 (x_1.fst + 1), b.fst, x_1.snd.snd.fst, x_1.snd.snd.snd.fst,
 x_1.snd.snd.snd.snd.fst, x_1.snd.snd.snd.snd.snd.fst, b.snd.fst))
 else
 bif decide (x_1.fst = Int.ofNat (0 + 1)) then
 some
 (Sum.inl
 (wrap64 (x_1.fst + 1), x_1.snd.fst, b.fst, x_1.snd.snd.snd.fst,
 x_1.snd.snd.snd.snd.fst, x_1.snd.snd.snd.snd.snd.fst, b.snd.fst))
 else
 bif decide (x_1.fst = Int.ofNat (0 + 1 + 1)) then
 some
 (Sum.inl
 (wrap64 (x_1.fst + 1), x_1.snd.fst, x_1.snd.snd.fst, b.fst,
 x_1.snd.snd.snd.snd.fst, x_1.snd.snd.snd.snd.snd.fst, b.snd.fst))
 else
 bif decide (x_1.fst = Int.ofNat (0 + 1 + 1 + 1)) then
 some
 (Sum.inl
 (wrap64 (x_1.fst + 1), x_1.snd.fst, x_1.snd.snd.fst,
 x_1.snd.snd.snd.fst, b.fst, x_1.snd.snd.snd.snd.snd.fst, b.snd.fst))
 else
 bif decide (x_1.fst = Int.ofNat (0 + 1 + 1 + 1 + 1)) then
 some
 (Sum.inl
 (wrap64 (x_1.fst + 1), x_1.snd.fst, x_1.snd.snd.fst,
 x_1.snd.snd.snd.fst, x_1.snd.snd.snd.snd.fst, b.fst, b.snd.fst))
 else none
 else
 Option.map Sum.inr
 (Option.bind (F48 (x_1.snd.snd.snd.snd.snd.snd, ()))
 fun b =>
 Option.bind (F49 (b.snd.fst, 4, ()))
 fun b_1 =>
 iterE (Int × List T25D × T40D)
 ((Int × Int × Int × Int × Int × Int × Int × Int × Bool × List T25D × T25D × Unit) × T40D × Unit)
 (fun (x_2 : Int × List T25D × T40D) =>
 bif decide (x_2.fst < b_1.fst) then
 Option.bind (F50 (x_2.snd.snd, ()))
 fun b =>
 Option.bind (appO x_2.snd.fst [b.fst])
 fun b_2 =>
 some (Sum.inl (wrap64 (x_2.fst + 1), b_2, b.snd.fst))
 else
 Option.map Sum.inr
 (Option.bind
 (bif decide (wrap64 (intOf8 x.snd.fst) = 7) then
 Option.bind (F51 (x_2.snd.snd, ()))
 fun b =>
 some (Sum.inl (b.fst, b.snd.fst))
 else some (Sum.inl ((0, 0, [], ()), x_2.snd.snd)))
 fun o =>
 Sum.elim
 (fun (x_3 : T25D × T40D) =>
 bif x_3.snd.snd.fst then
 some
 ((0, 0, 0, 0, 0, 0, 0, 0, false, [], (0, 0, [], ()), ()),
 ([], true, ()), ())
 else
 Option.bind
 (F11
 ((wrap64 (intOf8 x.snd.fst),
 wrap64 (intOf8 x.snd.snd.fst),
 wrap64 (intOf8 x.snd.snd.snd.fst), x_1.snd.fst,
 x_1.snd.snd.fst, x_1.snd.snd.snd.fst, x_1.snd.snd.snd.snd.fst,
 x_1.snd.snd.snd.snd.snd.fst, b.fst, x_2.snd.fst, x_3.fst, ()),
 ()))
 fun b_2 =>
 bif !b_2.fst then
 some
 ((0, 0, 0, 0, 0, 0, 0, 0, false, [], (0, 0, [], ()), ()),
 ([], true, ()), ())
 else
 some
 ((wrap64 (intOf8 x.snd.fst),
 wrap64 (intOf8 x.snd.snd.fst),
 wrap64 (intOf8 x.snd.snd.snd.fst), x_1.snd.fst,
 x_1.snd.snd.fst, x_1.snd.snd.snd.fst, x_1.snd.snd.snd.snd.fst,
 x_1.snd.snd.snd.snd.snd.fst, b.fst, x_2.snd.fst, x_3.fst, ()),
 x_3.snd, ()))
 (fun (val :
 (Int × Int × Int × Int × Int × Int × Int × Int × Bool × List T25D × T25D × Unit) × T40D × Unit) =>
 some val)
 o))
 big (0, [], b_1.snd.fst)))
 big (0, 0, 0, 0, 0, 0, x.snd.snd.snd.snd)))
 big (0, 0, 0, 0, x.fst)
def S16 : Sig := ⟨P16, R16, F16⟩
noncomputable def E16 : Env := { tab := tab, nt := 101, Γ := lookG [(11, [S11]), (46, [S46]), (47, [S47]), (48, [S48]), (49, [S49]), (50, [S50]), (51, [S51])], joins := lookN [(24, ⟨[⟨.fld 15022000 10, T25, .pv⟩, ⟨.fld 1000 0, (.slice .u8), .pv⟩, ⟨.fld 1000 1, .bool, .pv⟩], [1, 2, 3, 10], [.site 15022000, .fld 15022000 0, .fld 15022000 1, .fld 15022000 2, .fld 15022000 3, .fld 15022000 4, .fld 15022000 5, .fld 15022000 6, .fld 15022000 7, .fld 15022000 8, .fld 15022000 9, .row 50017001, .site 3000, .fld 3000 0, .fld 3000 1, .site 2000, .fld 2000 0, .fld 2000 1, .fld 2000 2, .fld 2000 3, .fld 2000 4, .fld 2000 5, .fld 2000 6, .fld 2000 7, .fld 2000 8, .fld 2000 9, .fld 2000 10, .site 1000]⟩)], loops := lookN [(3, mkLoop ⟨[⟨.slot 12, (.int .i64), .pv⟩, ⟨.fld 1001000 0, .u8, .pv⟩, ⟨.fld 1001000 1, .u8, .pv⟩, ⟨.fld 1001000 2, .u8, .pv⟩, ⟨.fld 1000 0, (.slice .u8), .pv⟩, ⟨.fld 1000 1, .bool, .pv⟩], [1, 2, 3, 4], [.site 1001000, .site 3000, .fld 3000 0, .fld 3000 1, .site 2000, .fld 2000 0, .fld 2000 1, .fld 2000 2, .fld 2000 3, .fld 2000 4, .fld 2000 5, .fld 2000 6, .fld 2000 7, .fld 2000 8, .fld 2000 9, .fld 2000 10, .site 1000]⟩), (9, mkLoop ⟨[⟨.slot 23, (.int .i64), .pv⟩, ⟨.fld 7001000 0, (.int .i64), .pv⟩, ⟨.fld 7001000 1, (.int .i64), .pv⟩, ⟨.fld 7001000 2, (.int .i64), .pv⟩, ⟨.fld 7001000 3, (.int .i64), .pv⟩, ⟨.fld 7001000 4, (.int .i64), .pv⟩, ⟨.fld 1000 0, (.slice .u8), .pv⟩, ⟨.fld 1000 1, .bool, .pv⟩], [1, 2, 3, 4, 6], [.site 7001000, .site 1001000, .fld 1001000 0, .fld 1001000 1, .fld 1001000 2, .site 3000, .fld 3000 0, .fld 3000 1, .site 2000, .fld 2000 0, .fld 2000 1, .fld 2000 2, .fld 2000 3, .fld 2000 4, .fld 2000 5, .fld 2000 6, .fld 2000 7, .fld 2000 8, .fld 2000 9, .fld 2000 10, .site 1000]⟩), (17, mkLoop ⟨[⟨.slot 66, (.int .i64), .pv⟩, ⟨.fld 15022000 9, (.slice T25), .own false⟩, ⟨.fld 1000 0, (.slice .u8), .pv⟩, ⟨.fld 1000 1, .bool, .pv⟩], [1, 2, 3, 10, 65], [.site 15022000, .fld 15022000 0, .fld 15022000 1, .fld 15022000 2, .fld 15022000 3, .fld 15022000 4, .fld 15022000 5, .fld 15022000 6, .fld 15022000 7, .fld 15022000 8, .fld 15022000 10, .site 3000, .fld 3000 0, .fld 3000 1, .site 2000, .fld 2000 0, .fld 2000 1, .fld 2000 2, .fld 2000 3, .fld 2000 4, .fld 2000 5, .fld 2000 6, .fld 2000 7, .fld 2000 8, .fld 2000 9, .fld 2000 10, .site 1000]⟩)] }
theorem raw16_eq (x : T40D × Unit) : afun E16 Try.f16 P16 R16 x = F16 x := by kernel_rfl
-- decamp/decamplaw11.Of
def F17 (x : T27D × Unit) : Option (T27D × Unit) :=
 some x
def S17 : Sig := ⟨P17, R17, F17⟩
noncomputable def E17 : Env := { tab := tab, nt := 4, Γ := lookG [], joins := lookN [], loops := lookN [] }
theorem raw17_eq (x : T27D × Unit) : afun E17 Try.f17 P17 R17 x = F17 x := by kernel_rfl
-- decamp/decamplaw11.RmsgGets
def F5 (x : List UInt8 × Unit) : Option (Bool × Unit) :=
 Option.bind (F7 ()) fun b =>
 bif !b.fst then Option.bind (F7 ()) fun b => some b
 else
 bif decide (5000 < Int.ofNat (List.length x.fst)) then
 Option.bind (F7 ()) fun b => some b
 else
 Option.bind (F14 x) fun b =>
 Option.bind (F15 b)
 fun b =>
 Option.bind (F16 ((x.fst, false, ()), ()))
 fun b_1 =>
 Option.bind (F17 (b.fst, ()))
 fun b_2 =>
 Option.bind (F13 (b_2.fst, b_1.fst, ())) fun b_3 =>
 bif b_3.fst then
 Option.bind (F18 b.snd) fun b_4 =>
 bif b_4.fst == b_1.snd.fst.snd.fst then
 Option.bind (F19 b_4.snd) fun b_5 =>
 bif decide (b_5.fst = Int.ofNat (List.length b_1.snd.fst.fst)) then
 bif b_1.snd.fst.snd.fst then some (true, ())
 else Option.bind (F10 (b.fst, ())) fun b => some b
 else some (false, ())
 else some (false, ())
 else some (false, ())
def S5 : Sig := ⟨P5, R5, F5⟩
noncomputable def E5 : Env := { tab := tab, nt := 52, Γ := lookG [(7, [S7]), (10, [S10]), (13, [S13]), (14, [S14]), (15, [S15]), (16, [S16]), (17, [S17]), (18, [S18]), (19, [S19])], joins := lookN [], loops := lookN [] }
theorem raw5_eq (x : List UInt8 × Unit) : afun E5 Try.f5 P5 R5 x = F5 x := by kernel_rfl
-- (*decamp/octets.Out).wide
def F74 (x : T47D × Int × Int × Unit) : Option (T47D × Unit) :=
 iterE (Int × T47D) (T47D × Unit)
 (fun (x_1 : Int × T47D) =>
 bif decide (0 ≤ x_1.fst) then
 Option.bind (shrO IntKind.u64 x.snd.fst (wrap64 (8 * x_1.fst))) fun b =>
 Option.bind (appU x_1.snd.fst [Sx.byteOf (IntKind.wrap IntKind.u8 b)]) fun b =>
 some (Sum.inl (wrap64 (x_1.fst - 1), b, ()))
 else some (Sum.inr (x_1.snd, ())))
 big (wrap64 (x.snd.snd.fst - 1), x.fst)
def S74 : Sig := ⟨P74, R74, F74⟩
noncomputable def E74 : Env := { tab := tab, nt := 29, Γ := lookG [], joins := lookN [], loops := lookN [(2, mkLoop ⟨[⟨.slot 6, (.int .i64), .pv⟩, ⟨.fld 0 0, (.slice .u8), .own true⟩], [0, 1], [.site 0]⟩)] }
theorem raw74_eq (x : T47D × Int × Int × Unit) : afun E74 Try.f74 P74 R74 x = F74 x := by kernel_rfl
-- (*decamp/octets.Out).Byte
def F52 (x : T47D × UInt8 × Unit) : Option (T47D × Unit) :=
 Option.bind (F74 (x.fst, IntKind.wrap IntKind.u64 (intOf8 x.snd.fst), 1, ()))
 fun b => some b
def S52 : Sig := ⟨P52, R52, F52⟩
noncomputable def E52 : Env := { tab := tab, nt := 8, Γ := lookG [(74, [S74])], joins := lookN [], loops := lookN [] }
theorem raw52_eq (x : T47D × UInt8 × Unit) : afun E52 Try.f52 P52 R52 x = F52 x := by kernel_rfl
-- (*decamp/octets.Out).Num
def F53 (x : T47D × Int × Unit) : Option (T47D × Unit) :=
 Option.bind (F74 (x.fst, IntKind.wrap IntKind.u64 x.snd.fst, 8, ())) fun b =>
 some b
def S53 : Sig := ⟨P53, R53, F53⟩
noncomputable def E53 : Env := { tab := tab, nt := 8, Γ := lookG [(74, [S74])], joins := lookN [], loops := lookN [] }
theorem raw53_eq (x : T47D × Int × Unit) : afun E53 Try.f53 P53 R53 x = F53 x := by kernel_rfl
-- (*decamp/octets.Out).Flag
def F54 (x : T47D × Bool × Unit) : Option (T47D × Unit) :=
 bif x.snd.fst then
 Option.bind (F52 (x.fst, UInt8.ofNat 1, ())) fun b => some b
 else Option.bind (F52 (x.fst, UInt8.ofNat 0, ())) fun b => some b
def S54 : Sig := ⟨P54, R54, F54⟩
noncomputable def E54 : Env := { tab := tab, nt := 9, Γ := lookG [(52, [S52])], joins := lookN [], loops := lookN [] }
theorem raw54_eq (x : T47D × Bool × Unit) : afun E54 Try.f54 P54 R54 x = F54 x := by kernel_rfl
-- (*decamp/octets.Out).Count
def F55 (x : T47D × Int × Unit) : Option (T47D × Unit) :=
 Option.bind (F74 (x.fst, IntKind.wrap IntKind.u64 x.snd.fst, 4, ())) fun b =>
 some b
def S55 : Sig := ⟨P55, R55, F55⟩
noncomputable def E55 : Env := { tab := tab, nt := 8, Γ := lookG [(74, [S74])], joins := lookN [], loops := lookN [] }
theorem raw55_eq (x : T47D × Int × Unit) : afun E55 Try.f55 P55 R55 x = F55 x := by kernel_rfl
-- (*decamp/octets.Out).Bytes
def F81 (x : T47D × List UInt8 × Unit) : Option (T47D × Unit) :=
 Option.bind (F55 (x.fst, Int.ofNat (List.length x.snd.fst), ())) fun b =>
 Option.bind (appU b.fst.fst x.snd.fst) fun b => some ((b, ()), ())
def S81 : Sig := ⟨P81, R81, F81⟩
noncomputable def E81 : Env := { tab := tab, nt := 19, Γ := lookG [(55, [S55])], joins := lookN [], loops := lookN [] }
theorem raw81_eq (x : T47D × List UInt8 × Unit) : afun E81 Try.f81 P81 R81 x = F81 x := by kernel_rfl
-- decamp/entry.put
def F75 (x : T47D × Int × Int × List UInt8 × Unit) : Option (T47D × Unit) :=
 Option.bind (F53 (x.fst, x.snd.fst, ())) fun b =>
 Option.bind (F53 (b.fst, x.snd.snd.fst, ())) fun b =>
 Option.bind (F81 (b.fst, x.snd.snd.snd)) fun b => some b
def S75 : Sig := ⟨P75, R75, F75⟩
noncomputable def E75 : Env := { tab := tab, nt := 17, Γ := lookG [(53, [S53]), (81, [S81])], joins := lookN [], loops := lookN [] }
theorem raw75_eq (x : T47D × Int × Int × List UInt8 × Unit) : afun E75 Try.f75 P75 R75 x = F75 x := by kernel_rfl
-- decamp/entry.Put
def F56 (x : T47D × T25D × Unit) : Option (T47D × Unit) :=
 Option.bind (F63 x.snd) fun b =>
 bif !b.fst then Option.bind (F75 (x.fst, 0, 0, [], ())) fun b => some b
 else Option.bind (F75 (x.fst, x.snd.fst)) fun b => some b
def S56 : Sig := ⟨P56, R56, F56⟩
noncomputable def E56 : Env := { tab := tab, nt := 16, Γ := lookG [(63, [S63]), (75, [S75])], joins := lookN [], loops := lookN [] }
theorem raw56_eq (x : T47D × T25D × Unit) : afun E56 Try.f56 P56 R56 x = F56 x := by kernel_rfl
-- decamp/entry.PutSnap
def F57 (x : T47D × T25D × Unit) : Option (T47D × Unit) :=
 Option.bind (F29 x.snd) fun b =>
 bif !b.fst then Option.bind (F75 (x.fst, 0, 0, [], ())) fun b => some b
 else Option.bind (F75 (x.fst, x.snd.fst)) fun b => some b
def S57 : Sig := ⟨P57, R57, F57⟩
noncomputable def E57 : Env := { tab := tab, nt := 16, Γ := lookG [(29, [S29]), (75, [S75])], joins := lookN [], loops := lookN [] }
theorem raw57_eq (x : T47D × T25D × Unit) : afun E57 Try.f57 P57 R57 x = F57 x := by kernel_rfl
-- decamp/rmsg.Put
def F20 (x : T47D × T27D × Unit) : Option (T47D × Unit) :=
 Option.bind (F10 x.snd) fun b =>
 bif !b.fst then
 Option.bind (F52 (x.fst, UInt8.ofNat 0, ())) fun b => some b
 else
 iterE (Int × T47D) (T47D × Unit)
 (fun (x_1 : Int × T47D) =>
 bif decide (x_1.fst < Int.ofNat (List.length [x.snd.fst.fst, x.snd.fst.snd.fst, x.snd.fst.snd.snd.fst])) then
 Option.bind (idxN [x.snd.fst.fst, x.snd.fst.snd.fst, x.snd.fst.snd.snd.fst] x_1.fst) fun b =>
 Option.bind [x.snd.fst.fst, x.snd.fst.snd.fst, x.snd.fst.snd.snd.fst][b]? fun (b : Int) =>
 Option.bind (F52 (x_1.snd, Sx.byteOf (IntKind.wrap IntKind.u8 b), ()))
 fun b =>
 some (Sum.inl (wrap64 (x_1.fst + 1), b.fst))
 else
 Option.map Sum.inr
 (iterE (Int × T47D) (T47D × Unit)
 (fun (x_2 : Int × T47D) =>
 bif
 decide
 (x_2.fst <
 Int.ofNat
 (List.length
 [x.snd.fst.snd.snd.snd.fst, x.snd.fst.snd.snd.snd.snd.fst,
 x.snd.fst.snd.snd.snd.snd.snd.fst, x.snd.fst.snd.snd.snd.snd.snd.snd.fst,
 x.snd.fst.snd.snd.snd.snd.snd.snd.snd.fst])) then
 Option.bind
 (idxN
 [x.snd.fst.snd.snd.snd.fst, x.snd.fst.snd.snd.snd.snd.fst, x.snd.fst.snd.snd.snd.snd.snd.fst,
 x.snd.fst.snd.snd.snd.snd.snd.snd.fst, x.snd.fst.snd.snd.snd.snd.snd.snd.snd.fst]
 x_2.fst)
 fun b =>
 Option.bind
 [x.snd.fst.snd.snd.snd.fst, x.snd.fst.snd.snd.snd.snd.fst, x.snd.fst.snd.snd.snd.snd.snd.fst,
 x.snd.fst.snd.snd.snd.snd.snd.snd.fst, x.snd.fst.snd.snd.snd.snd.snd.snd.snd.fst][b]?
 fun (b : Int) =>
 Option.bind (F53 (x_2.snd, b, ())) fun b =>
 some (Sum.inl (wrap64 (x_2.fst + 1), b.fst))
 else
 Option.map Sum.inr
 (Option.bind (F54 (x_2.snd, x.snd.fst.snd.snd.snd.snd.snd.snd.snd.snd.fst, ()))
 fun b =>
 Option.bind
 (F55
 (b.fst, Int.ofNat (List.length x.snd.fst.snd.snd.snd.snd.snd.snd.snd.snd.snd.fst),
 ()))
 fun b =>
 iterE (Int × T47D) (T47D × Unit)
 (fun (x_3 : Int × T47D) =>
 bif
 decide
 (x_3.fst <
 Int.ofNat (List.length x.snd.fst.snd.snd.snd.snd.snd.snd.snd.snd.snd.fst)) then
 Option.bind (idx x.snd.fst.snd.snd.snd.snd.snd.snd.snd.snd.snd.fst x_3.fst)
 fun b =>
 Option.bind (F56 (x_3.snd, b, ())) fun b =>
 some (Sum.inl (wrap64 (x_3.fst + 1), b.fst))
 else
 Option.map Sum.inr
 (bif decide (x.snd.fst.fst = 7) then
 Option.bind (F57 (x_3.snd, x.snd.fst.snd.snd.snd.snd.snd.snd.snd.snd.snd.snd))
 fun b => some b
 else some (x_3.snd, ())))
 big (0, b.fst)))
 big (0, x_1.snd)))
 big (0, x.fst)
def S20 : Sig := ⟨P20, R20, F20⟩
noncomputable def E20 : Env := { tab := tab, nt := 79, Γ := lookG [(10, [S10]), (52, [S52]), (53, [S53]), (54, [S54]), (55, [S55]), (56, [S56]), (57, [S57])], joins := lookN [], loops := lookN [(4, mkLoop ⟨[⟨.slot 23, (.int .i64), .pv⟩, ⟨.fld 0 0, (.slice .u8), .own true⟩], [0, 3, 21, 22], [.site 0, .row 3007000, .site 1000, .fld 1000 0, .fld 1000 1, .fld 1000 2, .fld 1000 3, .fld 1000 4, .fld 1000 5, .fld 1000 6, .fld 1000 7, .fld 1000 8, .fld 1000 9, .fld 1000 10]⟩), (9, mkLoop ⟨[⟨.slot 44, (.int .i64), .pv⟩, ⟨.fld 0 0, (.slice .u8), .own true⟩], [0, 3, 42, 43], [.row 8011000, .site 1000, .fld 1000 0, .fld 1000 1, .fld 1000 2, .fld 1000 3, .fld 1000 4, .fld 1000 5, .fld 1000 6, .fld 1000 7, .fld 1000 8, .fld 1000 9, .fld 1000 10, .site 0]⟩), (16, mkLoop ⟨[⟨.slot 64, (.int .i64), .pv⟩, ⟨.fld 0 0, (.slice .u8), .own true⟩], [0, 3, 62, 63], [.site 1000, .fld 1000 0, .fld 1000 1, .fld 1000 2, .fld 1000 3, .fld 1000 4, .fld 1000 5, .fld 1000 6, .fld 1000 7, .fld 1000 8, .fld 1000 9, .fld 1000 10, .site 0]⟩)] }
theorem raw20_eq (x : T47D × T27D × Unit) : afun E20 Try.f20 P20 R20 x = F20 x := by kernel_rfl
-- (*decamp/octets.Out).End
def F21 (x : T47D × Unit) : Option (List UInt8 × Int × T47D × Unit) :=
 bif decide (60000 < Int.ofNat (List.length x.fst.fst)) then some ([], 3, x)
 else Option.bind (F38 x.fst) fun b => some (b.fst, 0, x)
def S21 : Sig := ⟨P21, R21, F21⟩
noncomputable def E21 : Env := { tab := tab, nt := 19, Γ := lookG [(38, [S38])], joins := lookN [], loops := lookN [] }
theorem raw21_eq (x : T47D × Unit) : afun E21 Try.f21 P21 R21 x = F21 x := by kernel_rfl
-- decamp/decampref03.Wide
def F76 (x : Int × Int × Unit) : Option (List UInt8 × Unit) :=
 Option.bind (mkO 0 x.snd.fst x.snd.fst) fun b =>
 iterE (Int × List UInt8 × Int × Unit) T47D
 (fun (x_1 : Int × List UInt8 × Int × Unit) =>
 bif decide (x_1.snd.snd.fst < x.snd.fst) then
 Option.bind
 (idxN x_1.snd.fst (wrap64 (wrap64 (x.snd.fst - 1) - x_1.snd.snd.fst)))
 fun b =>
 Option.bind x_1.snd.fst[b]? fun (_z : UInt8) =>
 Option.bind (quoO IntKind.u64 x_1.fst 256) fun b_1 =>
 some
 (Sum.inl
 (b_1, List.set x_1.snd.fst b (Sx.byteOf (IntKind.wrap IntKind.u8 x_1.fst)),
 wrap64 (x_1.snd.snd.fst + 1), ()))
 else some (Sum.inr (x_1.snd.fst, ())))
 big (x.fst, b, 0, ())
def S76 : Sig := ⟨P76, R76, F76⟩
noncomputable def E76 : Env := { tab := tab, nt := 25, Γ := lookG [], joins := lookN [], loops := lookN [(3, mkLoop ⟨[⟨.slot 0, (.int .u64), .pv⟩, ⟨.slot 5, (.slice .u8), .own false⟩, ⟨.slot 10, (.int .i64), .pv⟩], [1, 9], []⟩)] }
theorem raw76_eq (x : Int × Int × Unit) : afun E76 Try.f76 P76 R76 x = F76 x := by kernel_rfl
-- decamp/decampref03.Num
def F58 (x : Int × Unit) : Option (List UInt8 × Unit) :=
 Option.bind (F76 (IntKind.wrap IntKind.u64 x.fst, 8, ())) fun b => some b
def S58 : Sig := ⟨P58, R58, F58⟩
noncomputable def E58 : Env := { tab := tab, nt := 6, Γ := lookG [(76, [S76])], joins := lookN [], loops := lookN [] }
theorem raw58_eq (x : Int × Unit) : afun E58 Try.f58 P58 R58 x = F58 x := by kernel_rfl
-- decamp/decampref03.Flag
def F59 (x : Bool × Unit) : Option (List UInt8 × Unit) := bif x.fst then some ([UInt8.ofNat 1], ()) else some ([UInt8.ofNat 0], ())
def S59 : Sig := ⟨P59, R59, F59⟩
noncomputable def E59 : Env := { tab := tab, nt := 6, Γ := lookG [], joins := lookN [], loops := lookN [] }
theorem raw59_eq (x : Bool × Unit) : afun E59 Try.f59 P59 R59 x = F59 x := by kernel_rfl
-- decamp/decampref03.Count
def F60 (x : Int × Unit) : Option (List UInt8 × Unit) :=
 Option.bind (F76 (IntKind.wrap IntKind.u64 x.fst, 4, ())) fun b => some b
def S60 : Sig := ⟨P60, R60, F60⟩
noncomputable def E60 : Env := { tab := tab, nt := 6, Γ := lookG [(76, [S76])], joins := lookN [], loops := lookN [] }
theorem raw60_eq (x : Int × Unit) : afun E60 Try.f60 P60 R60 x = F60 x := by kernel_rfl
-- decamp/decampref03.Text
def F82 (x : List UInt8 × Unit) : Option (List UInt8 × Unit) :=
 Option.bind (F60 (Int.ofNat (List.length x.fst), ())) fun b =>
 Option.bind (appU b.fst x.fst) fun b => some (b, ())
def S82 : Sig := ⟨P82, R82, F82⟩
noncomputable def E82 : Env := { tab := tab, nt := 8, Γ := lookG [(60, [S60])], joins := lookN [], loops := lookN [] }
theorem raw82_eq (x : List UInt8 × Unit) : afun E82 Try.f82 P82 R82 x = F82 x := by kernel_rfl
-- decamp/decampref07.three
def F77 (x : Int × Int × List UInt8 × Unit) : Option (List UInt8 × Unit) :=
 Option.bind (F58 (x.fst, ())) fun b =>
 Option.bind (F58 (x.snd.fst, ())) fun b_1 =>
 Option.bind (appU b.fst b_1.fst) fun b =>
 Option.bind (F82 x.snd.snd) fun b_2 =>
 Option.bind (appU b b_2.fst) fun b => some (b, ())
def S77 : Sig := ⟨P77, R77, F77⟩
noncomputable def E77 : Env := { tab := tab, nt := 16, Γ := lookG [(58, [S58]), (82, [S82])], joins := lookN [], loops := lookN [] }
theorem raw77_eq (x : Int × Int × List UInt8 × Unit) : afun E77 Try.f77 P77 R77 x = F77 x := by kernel_rfl
-- decamp/decampref07.Bytes
def F61 (x : T25D × Unit) : Option (List UInt8 × Unit) :=
 Option.bind (F65 x) fun b =>
 bif !b.fst then Option.bind (mkO 0 20 20) fun b => some (b, ())
 else Option.bind (F77 x.fst) fun b => some b
def S61 : Sig := ⟨P61, R61, F61⟩
noncomputable def E61 : Env := { tab := tab, nt := 14, Γ := lookG [(65, [S65]), (77, [S77])], joins := lookN [], loops := lookN [] }
theorem raw61_eq (x : T25D × Unit) : afun E61 Try.f61 P61 R61 x = F61 x := by kernel_rfl
-- decamp/decampref07.SnapBytes
def F62 (x : T25D × Unit) : Option (List UInt8 × Unit) :=
 Option.bind (F33 x) fun b =>
 bif !b.fst then Option.bind (mkO 0 20 20) fun b => some (b, ())
 else Option.bind (F77 x.fst) fun b => some b
def S62 : Sig := ⟨P62, R62, F62⟩
noncomputable def E62 : Env := { tab := tab, nt := 14, Γ := lookG [(33, [S33]), (77, [S77])], joins := lookN [], loops := lookN [] }
theorem raw62_eq (x : T25D × Unit) : afun E62 Try.f62 P62 R62 x = F62 x := by kernel_rfl
-- decamp/decampref11.Bytes
def F22 (x : T27D × Unit) : Option (List UInt8 × Unit) :=
 Option.bind (F11 x) fun b =>
 bif !b.fst then some ([UInt8.ofNat 0], ())
 else
 iterE (List UInt8 × Int × Unit) T47D
 (fun (x_1 : List UInt8 × Int × Unit) =>
 bif decide (x_1.snd.fst < 5) then
 bif decide (x_1.snd.fst = Int.ofNat 0) then
 Option.bind (F58 (x.fst.snd.snd.snd.fst, ())) fun b =>
 Option.bind (appU x_1.fst b.fst) fun b =>
 some (Sum.inl (b, wrap64 (x_1.snd.fst + 1), ()))
 else
 bif decide (x_1.snd.fst = Int.ofNat (0 + 1)) then
 Option.bind (F58 (x.fst.snd.snd.snd.snd.fst, ())) fun b =>
 Option.bind (appU x_1.fst b.fst) fun b =>
 some (Sum.inl (b, wrap64 (x_1.snd.fst + 1), ()))
 else
 bif decide (x_1.snd.fst = Int.ofNat (0 + 1 + 1)) then
 Option.bind (F58 (x.fst.snd.snd.snd.snd.snd.fst, ())) fun b =>
 Option.bind (appU x_1.fst b.fst) fun b =>
 some (Sum.inl (b, wrap64 (x_1.snd.fst + 1), ()))
 else
 bif decide (x_1.snd.fst = Int.ofNat (0 + 1 + 1 + 1)) then
 Option.bind (F58 (x.fst.snd.snd.snd.snd.snd.snd.fst, ())) fun b =>
 Option.bind (appU x_1.fst b.fst) fun b =>
 some (Sum.inl (b, wrap64 (x_1.snd.fst + 1), ()))
 else
 bif decide (x_1.snd.fst = Int.ofNat (0 + 1 + 1 + 1 + 1)) then
 Option.bind (F58 (x.fst.snd.snd.snd.snd.snd.snd.snd.fst, ()))
 fun b =>
 Option.bind (appU x_1.fst b.fst) fun b =>
 some (Sum.inl (b, wrap64 (x_1.snd.fst + 1), ()))
 else none
 else
 Option.map Sum.inr
 (Option.bind (F59 (x.fst.snd.snd.snd.snd.snd.snd.snd.snd.fst, ())) fun b =>
 Option.bind (appU x_1.fst b.fst) fun b =>
 Option.bind (F60 (Int.ofNat (List.length x.fst.snd.snd.snd.snd.snd.snd.snd.snd.snd.fst), ()))
 fun b_1 =>
 Option.bind (appU b b_1.fst) fun b =>
 iterE (List UInt8 × Int × Unit) T47D
 (fun (x_2 : List UInt8 × Int × Unit) =>
 bif
 decide
 (x_2.snd.fst <
 Int.ofNat (List.length x.fst.snd.snd.snd.snd.snd.snd.snd.snd.snd.fst)) then
 Option.bind (idx x.fst.snd.snd.snd.snd.snd.snd.snd.snd.snd.fst x_2.snd.fst)
 fun b =>
 Option.bind (F61 (b, ())) fun b =>
 Option.bind (appU x_2.fst b.fst) fun b =>
 some (Sum.inl (b, wrap64 (x_2.snd.fst + 1), ()))
 else
 Option.map Sum.inr
 (bif decide (x.fst.fst = 7) then
 Option.bind (F62 x.fst.snd.snd.snd.snd.snd.snd.snd.snd.snd.snd)
 fun b =>
 Option.bind (appU x_2.fst b.fst) fun b => some (b, ())
 else some (x_2.fst, ())))
 big (b, 0, ())))
 big
 ([Sx.byteOf (IntKind.wrap IntKind.u8 x.fst.fst), Sx.byteOf (IntKind.wrap IntKind.u8 x.fst.snd.fst),
 Sx.byteOf (IntKind.wrap IntKind.u8 x.fst.snd.snd.fst)],
 0, ())
def S22 : Sig := ⟨P22, R22, F22⟩
noncomputable def E22 : Env := { tab := tab, nt := 76, Γ := lookG [(11, [S11]), (58, [S58]), (59, [S59]), (60, [S60]), (61, [S61]), (62, [S62])], joins := lookN [], loops := lookN [(6, mkLoop ⟨[⟨.slot 3, (.slice .u8), .own false⟩, ⟨.slot 32, (.int .i64), .pv⟩], [1, 4], [.site 4012000, .fld 4012000 0, .fld 4012000 1, .fld 4012000 2, .fld 4012000 3, .fld 4012000 4, .site 1000, .fld 1000 0, .fld 1000 1, .fld 1000 2, .fld 1000 3, .fld 1000 4, .fld 1000 5, .fld 1000 6, .fld 1000 7, .fld 1000 8, .fld 1000 9, .fld 1000 10]⟩), (12, mkLoop ⟨[⟨.slot 3, (.slice .u8), .own false⟩, ⟨.slot 55, (.int .i64), .pv⟩], [1, 54], [.site 1000, .fld 1000 0, .fld 1000 1, .fld 1000 2, .fld 1000 3, .fld 1000 4, .fld 1000 5, .fld 1000 6, .fld 1000 7, .fld 1000 8, .fld 1000 9, .fld 1000 10]⟩)] }
theorem raw22_eq (x : T27D × Unit) : afun E22 Try.f22 P22 R22 x = F22 x := by kernel_rfl
-- (*decamp/octets.In).Done
def F23 (x : T40D × Unit) : Option (Bool × T40D × Unit) :=
 bif !x.fst.snd.fst then some (decide (Int.ofNat (List.length x.fst.fst) = 0), x) else some (false, x)
def S23 : Sig := ⟨P23, R23, F23⟩
noncomputable def E23 : Env := { tab := tab, nt := 20, Γ := lookG [], joins := lookN [], loops := lookN [] }
theorem raw23_eq (x : T40D × Unit) : afun E23 Try.f23 P23 R23 x = F23 x := by kernel_rfl
-- decamp/decamplaw11.RmsgPuts
def F6 (x : T27D × Unit) : Option (Bool × Unit) :=
 Option.bind (F7 ()) fun b =>
 bif !b.fst then Option.bind (F7 ()) fun b => some b
 else
 Option.bind (F8 x) fun b =>
 bif !b.fst then Option.bind (F7 ()) fun b => some b
 else
 Option.bind (F9 x)
 fun b =>
 Option.bind (F20 (([], ()), b)) fun b =>
 Option.bind (F21 b) fun b =>
 bif !decide (b.snd.fst = 0) then some (false, ())
 else
 Option.bind (F22 x) fun b_1 =>
 bif !decide (b.fst = b_1.fst) then some (false, ())
 else
 Option.bind (F14 (b.fst, ())) fun b =>
 Option.bind (F15 b)
 fun b =>
 Option.bind (F11 x) fun b_2 =>
 bif !b_2.fst then
 Option.bind (F18 b.snd) fun b_3 =>
 bif b_3.fst then
 Option.bind
 (F12
 (b.fst, (0, 0, 0, 0, 0, 0, 0, 0, false, [], (0, 0, [], ()), ()),
 ()))
 fun b => some b
 else some (false, ())
 else
 Option.bind (F23 b.snd) fun b_3 =>
 bif b_3.fst then
 Option.bind (F17 (b.fst, ()))
 fun b =>
 Option.bind (F13 (b.fst, x)) fun b => some b
 else some (false, ())
def S6 : Sig := ⟨P6, R6, F6⟩
noncomputable def E6 : Env := { tab := tab, nt := 55, Γ := lookG [(7, [S7]), (8, [S8]), (9, [S9]), (11, [S11]), (12, [S12]), (13, [S13]), (14, [S14]), (15, [S15]), (17, [S17]), (18, [S18]), (20, [S20]), (21, [S21]), (22, [S22]), (23, [S23])], joins := lookN [], loops := lookN [] }
theorem raw6_eq (x : T27D × Unit) : afun E6 Try.f6 P6 R6 x = F6 x := by kernel_rfl
end
end Go.Proofs.Ytnlcgekolgldcaa
