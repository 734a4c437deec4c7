/-
  Octets: by a program of the bench (seat.py).
-/
import Derived.Test.YtchknfdjnkalkaaOctetsTab
namespace Go.Proofs.Ytchknfdjnkalkaa
open Go.Sx Go
set_option maxRecDepth 100000
noncomputable section
-- (*decamp/octets.Out).wide
def F43 (x : T26D × Int × Int × Unit) : Option (T26D × Unit) :=
 iterE (Int × T26D) (T26D × Unit)
 (fun (x_1 : Int × T26D) =>
 bif decide (0 ≤ x_1.1) then
 Option.bind (shrO IntKind.u64 x.2.1 (wrap64 (8 * x_1.1))) fun (b : Int) =>
 Option.bind (appU x_1.2.1 [Sx.byteOf (IntKind.wrap IntKind.u8 b)]) fun (b : List UInt8) =>
 some (Sum.inl (wrap64 (x_1.1 - 1), b, ()))
 else some (Sum.inr (x_1.2, ())))
 big (wrap64 (x.2.2.1 - 1), x.1)
def S43 : Sig := ⟨P43, R43, F43⟩
noncomputable def E43 : Env := { tab := tab, nt := 29, Γ := lookG [], joins := lookN [], loops := lookN [(2, mkLoop ⟨[⟨.slot 6, (.int .i64), .pv⟩, ⟨.fld 0 0, (.slice .u8), .own true⟩], [0, 1], [.site 0]⟩)] }
theorem raw43_eq (x : T26D × Int × Int × Unit) : afun E43 Try.f43 P43 R43 x = F43 x := by kernel_rfl
-- (*decamp/octets.Out).wide
def F43a (x : Int × Int × Unit) : Option (Unit) := some ()
def S43a : Sig := ⟨P43a, R43a, F43a⟩
noncomputable def E43a : Env := { tab := tab, nt := 29, Γ := lookG [], joins := lookN [], loops := lookN [] }
theorem raw43a_eq (x : Int × Int × Unit) : afun E43a Try.f43 P43a R43a x = F43a x := by kernel_rfl
-- (*decamp/octets.Out).Count
def F26 (x : T26D × Int × Unit) : Option (T26D × Unit) :=
 Option.bind (F43 (x.1, IntKind.wrap IntKind.u64 x.2.1, 4, ())) fun (b : T26D × Unit) =>
 some b
def S26 : Sig := ⟨P26, R26, F26⟩
noncomputable def E26 : Env := { tab := tab, nt := 8, Γ := lookG [(43, [S43, S43a])], joins := lookN [], loops := lookN [] }
theorem raw26_eq (x : T26D × Int × Unit) : afun E26 Try.f26 P26 R26 x = F26 x := by kernel_rfl
-- (*decamp/octets.Out).Count
def F26a (x : Int × Unit) : Option (Unit) :=
 Option.bind (F43a (IntKind.wrap IntKind.u64 x.1, 4, ())) fun (_z : Unit) => some ()
def S26a : Sig := ⟨P26a, R26a, F26a⟩
noncomputable def E26a : Env := { tab := tab, nt := 8, Γ := lookG [(43, [S43, S43a])], joins := lookN [], loops := lookN [] }
theorem raw26a_eq (x : Int × Unit) : afun E26a Try.f26 P26a R26a x = F26a x := by kernel_rfl
-- (*decamp/octets.Out).Text
def F9 (x : T26D × List UInt8 × Unit) : Option (T26D × Unit) :=
 Option.bind (F26 (x.1, Int.ofNat (List.length x.2.1), ())) fun (b : T26D × Unit) =>
 Option.bind (appU b.1.1 x.2.1) fun (b : List UInt8) => some ((b, ()), ())
def S9 : Sig := ⟨P9, R9, F9⟩
noncomputable def E9 : Env := { tab := tab, nt := 19, Γ := lookG [(26, [S26, S26a])], joins := lookN [], loops := lookN [] }
theorem raw9_eq (x : T26D × List UInt8 × Unit) : afun E9 Try.f9 P9 R9 x = F9 x := by kernel_rfl
-- (*decamp/octets.Out).Text
def F9a (x : List UInt8 × Unit) : Option (Unit) := some ()
def S9a : Sig := ⟨P9a, R9a, F9a⟩
noncomputable def E9a : Env := { tab := tab, nt := 19, Γ := lookG [(26, [S26, S26a])], joins := lookN [], loops := lookN [] }
theorem raw9a_eq (x : List UInt8 × Unit) : afun E9a Try.f9 P9a R9a x = F9a x := by kernel_rfl
-- bytes.Clone
def F27 (x : List UInt8 × Unit) : Option (List UInt8 × Unit) :=
 bif List.isEmpty x.1 then
 bothE T26D (some ([], ()))
 (Option.bind (appU [] x.1) fun (b : List UInt8) => some (b, ()))
 else Option.bind (appU [] x.1) fun (b : List UInt8) => some (b, ())
def S27 : Sig := ⟨P27, R27, F27⟩
noncomputable def E27 : Env := { tab := tab, nt := 8, Γ := lookG [], joins := lookN [], loops := lookN [] }
theorem raw27_eq (x : List UInt8 × Unit) : afun E27 Try.f27 P27 R27 x = F27 x := by kernel_rfl
-- (*decamp/octets.Out).End
def F10 (x : T26D × Unit) : Option (List UInt8 × Int × T26D × Unit) :=
 bif decide (60000 < Int.ofNat (List.length x.1.1)) then some ([], 3, x)
 else Option.bind (F27 x.1) fun (b : T26D) => some (b.1, 0, x)
def S10 : Sig := ⟨P10, R10, F10⟩
noncomputable def E10 : Env := { tab := tab, nt := 19, Γ := lookG [(27, [S27])], joins := lookN [], loops := lookN [] }
theorem raw10_eq (x : T26D × Unit) : afun E10 Try.f10 P10 R10 x = F10 x := by kernel_rfl
-- (*decamp/octets.Out).End
def F10a (x : Unit) : Option (List UInt8 × Int × Unit) := some ([], 1, ())
def S10a : Sig := ⟨P10a, R10a, F10a⟩
noncomputable def E10a : Env := { tab := tab, nt := 19, Γ := lookG [(27, [S27])], joins := lookN [], loops := lookN [] }
theorem raw10a_eq (x : Unit) : afun E10a Try.f10 P10a R10a x = F10a x := by kernel_rfl
-- decamp/octets.NewIn
def F11 (x : List UInt8 × Unit) : Option (T38D × Unit) :=
 Option.bind (F27 x) fun (b : T26D) => some ((b.1, false, ()), ())
def S11 : Sig := ⟨P11, R11, F11⟩
noncomputable def E11 : Env := { tab := tab, nt := 7, Γ := lookG [(27, [S27])], joins := lookN [], loops := lookN [] }
theorem raw11_eq (x : List UInt8 × Unit) : afun E11 Try.f11 P11 R11 x = F11 x := by kernel_rfl
-- (*decamp/octets.In).Left
def F14 (x : T38D × Unit) : Option (Int × T38D × Unit) := some (Int.ofNat (List.length x.1.1), x)
def S14 : Sig := ⟨P14, R14, F14⟩
noncomputable def E14 : Env := { tab := tab, nt := 10, Γ := lookG [], joins := lookN [], loops := lookN [] }
theorem raw14_eq (x : T38D × Unit) : afun E14 Try.f14 P14 R14 x = F14 x := by kernel_rfl
-- (*decamp/octets.In).Left
def F14a (x : Unit) : Option (Int × Unit) := some (0, ())
def S14a : Sig := ⟨P14a, R14a, F14a⟩
noncomputable def E14a : Env := { tab := tab, nt := 10, Γ := lookG [], joins := lookN [], loops := lookN [] }
theorem raw14a_eq (x : Unit) : afun E14a Try.f14 P14a R14a x = F14a x := by kernel_rfl
-- (*decamp/octets.In).Fail
def F24 (x : T38D × Unit) : Option (T38D × Unit) := some (([], true, ()), ())
def S24 : Sig := ⟨P24, R24, F24⟩
noncomputable def E24 : Env := { tab := tab, nt := 10, Γ := lookG [], joins := lookN [], loops := lookN [] }
theorem raw24_eq (x : T38D × Unit) : afun E24 Try.f24 P24 R24 x = F24 x := by kernel_rfl
-- (*decamp/octets.In).Fail
def F24a (x : Unit) : Option (Unit) := some ()
def S24a : Sig := ⟨P24a, R24a, F24a⟩
noncomputable def E24a : Env := { tab := tab, nt := 10, Γ := lookG [], joins := lookN [], loops := lookN [] }
theorem raw24a_eq (x : Unit) : afun E24a Try.f24 P24a R24a x = F24a x := by kernel_rfl
-- (*decamp/octets.In).take
def F28 (x : T38D × Int × Unit) : Option (List UInt8 × T38D × Unit) :=
 bif x.1.2.1 then some ([], x.1, ())
 else
 bif decide (Int.ofNat (List.length x.1.1) < x.2.1) then
 Option.bind (F24 (x.1, ())) fun (b : T38D × Unit) => some ([], b)
 else
 Option.bind (sliceO x.1.1 0 x.2.1) fun (b : List UInt8) =>
 Option.bind (sliceO b 0 x.2.1) fun (b : List UInt8) =>
 Option.bind (sliceO x.1.1 x.2.1 ↑(List.length x.1.1)) fun (b_1 : List UInt8) =>
 some (b, (b_1, x.1.2), ())
def S28 : Sig := ⟨P28, R28, F28⟩
noncomputable def E28 : Env := { tab := tab, nt := 40, Γ := lookG [(24, [S24, S24a])], joins := lookN [], loops := lookN [] }
theorem raw28_eq (x : T38D × Int × Unit) : afun E28 Try.f28 P28 R28 x = F28 x := by kernel_rfl
-- (*decamp/octets.In).take
def F28a (x : Int × Unit) : Option (List UInt8 × Unit) := some ([], ())
def S28a : Sig := ⟨P28a, R28a, F28a⟩
noncomputable def E28a : Env := { tab := tab, nt := 40, Γ := lookG [(24, [S24, S24a])], joins := lookN [], loops := lookN [] }
theorem raw28a_eq (x : Int × Unit) : afun E28a Try.f28 P28a R28a x = F28a x := by kernel_rfl
-- (*decamp/octets.In).wide
def F42 (x : T38D × Int × Unit) : Option (Int × T38D × Unit) :=
 Option.bind (F28 x) fun (b : List UInt8 × T38D × Unit) =>
 iterE (Int × Int × Unit) (Int × T38D × Unit)
 (fun (x : Int × Int × Unit) =>
 bif decide (x.2.1 < Int.ofNat (List.length b.1)) then
 Option.bind (idx b.1 x.2.1) fun (b : UInt8) =>
 Option.bind (shlO IntKind.u64 x.1 8) fun (b_1 : Int) =>
 some
 (Sum.inl
 (bitsO BinOp.or IntKind.u64 b_1 (IntKind.wrap IntKind.u64 (intOf8 b)),
 wrap64 (x.2.1 + 1), ()))
 else some (Sum.inr (x.1, b.2)))
 big (0, 0, ())
def S42 : Sig := ⟨P42, R42, F42⟩
noncomputable def E42 : Env := { tab := tab, nt := 23, Γ := lookG [(28, [S28, S28a])], joins := lookN [], loops := lookN [(3, mkLoop ⟨[⟨.slot 5, (.int .u64), .pv⟩, ⟨.slot 12, (.int .i64), .pv⟩], [10, 11], [.site 0, .fld 0 0, .fld 0 1]⟩)] }
theorem raw42_eq (x : T38D × Int × Unit) : afun E42 Try.f42 P42 R42 x = F42 x := by kernel_rfl
-- (*decamp/octets.In).wide
def F42a (x : Int × Unit) : Option (Int × Unit) :=
 Option.bind (F28a x) fun (b : T26D) =>
 iterE (Int × Int × Unit) (Int × Unit)
 (fun (x : Int × Int × Unit) =>
 bif decide (x.2.1 < Int.ofNat (List.length b.1)) then
 Option.bind (idx b.1 x.2.1) fun (b : UInt8) =>
 Option.bind (shlO IntKind.u64 x.1 8) fun (b_1 : Int) =>
 some
 (Sum.inl
 (bitsO BinOp.or IntKind.u64 b_1 (IntKind.wrap IntKind.u64 (intOf8 b)),
 wrap64 (x.2.1 + 1), ()))
 else some (Sum.inr (x.1, ())))
 big (0, 0, ())
def S42a : Sig := ⟨P42a, R42a, F42a⟩
noncomputable def E42a : Env := { tab := tab, nt := 23, Γ := lookG [(28, [S28, S28a])], joins := lookN [], loops := lookN [(3, mkLoop ⟨[⟨.slot 5, (.int .u64), .pv⟩, ⟨.slot 12, (.int .i64), .pv⟩], [10, 11], []⟩)] }
theorem raw42a_eq (x : Int × Unit) : afun E42a Try.f42 P42a R42a x = F42a x := by kernel_rfl
-- (*decamp/octets.In).Count
def F25 (x : T38D × Int × Unit) : Option (Int × T38D × Unit) :=
 Option.bind (F42 (x.1, 4, ())) fun (b : Int × T38D × Unit) =>
 bif decide (IntKind.wrap IntKind.u64 (maxI x.2.1 0) < b.1) then
 Option.bind (F24 b.2) fun (b : T38D × Unit) => some (0, b)
 else
 Option.bind (F14 b.2) fun (b_1 : Int × T38D × Unit) =>
 bif decide (IntKind.wrap IntKind.u64 b_1.1 < b.1) then
 Option.bind (F24 b_1.2) fun (b : T38D × Unit) => some (0, b)
 else
 bif decide (x.2.1 < 0) then
 Option.bind (F24 b_1.2) fun (b : T38D × Unit) => some (0, b)
 else some (wrap64 b.1, b_1.2)
def S25 : Sig := ⟨P25, R25, F25⟩
noncomputable def E25 : Env := { tab := tab, nt := 28, Γ := lookG [(14, [S14, S14a]), (24, [S24, S24a]), (42, [S42, S42a])], joins := lookN [], loops := lookN [] }
theorem raw25_eq (x : T38D × Int × Unit) : afun E25 Try.f25 P25 R25 x = F25 x := by kernel_rfl
-- (*decamp/octets.In).Count
def F25a (x : Int × Unit) : Option (Int × Unit) :=
 Option.bind (F42a (4, ())) fun (b : Int × Unit) =>
 bif decide (IntKind.wrap IntKind.u64 (maxI x.1 0) < b.1) then
 Option.bind (F24a ()) fun (_z : Unit) => some (0, ())
 else
 Option.bind (F14a ()) fun (b_1 : Int × Unit) =>
 bif decide (IntKind.wrap IntKind.u64 b_1.1 < b.1) then
 Option.bind (F24a ()) fun (_z : Unit) => some (0, ())
 else
 bif decide (x.1 < 0) then Option.bind (F24a ()) fun (_z : Unit) => some (0, ())
 else some (wrap64 b.1, ())
def S25a : Sig := ⟨P25a, R25a, F25a⟩
noncomputable def E25a : Env := { tab := tab, nt := 28, Γ := lookG [(14, [S14, S14a]), (24, [S24, S24a]), (42, [S42, S42a])], joins := lookN [], loops := lookN [] }
theorem raw25a_eq (x : Int × Unit) : afun E25a Try.f25 P25a R25a x = F25a x := by kernel_rfl
-- (*decamp/octets.In).Text
def F12 (x : T38D × Int × Unit) : Option (List UInt8 × T38D × Unit) :=
 Option.bind (F25 x) fun (b : Int × T38D × Unit) =>
 Option.bind (F28 (b.2.1, b.1, ())) fun (b : List UInt8 × T38D × Unit) =>
 some b
def S12 : Sig := ⟨P12, R12, F12⟩
noncomputable def E12 : Env := { tab := tab, nt := 11, Γ := lookG [(25, [S25, S25a]), (28, [S28, S28a])], joins := lookN [], loops := lookN [] }
theorem raw12_eq (x : T38D × Int × Unit) : afun E12 Try.f12 P12 R12 x = F12 x := by kernel_rfl
-- (*decamp/octets.In).Text
def F12a (x : Int × Unit) : Option (List UInt8 × Unit) :=
 Option.bind (F25a x) fun (b : Int × Unit) => Option.bind (F28a b) fun (b : T26D) => some b
def S12a : Sig := ⟨P12a, R12a, F12a⟩
noncomputable def E12a : Env := { tab := tab, nt := 11, Γ := lookG [(25, [S25, S25a]), (28, [S28, S28a])], joins := lookN [], loops := lookN [] }
theorem raw12a_eq (x : Int × Unit) : afun E12a Try.f12 P12a R12a x = F12a x := by kernel_rfl
-- decamp/decamplaw03.awake
def F8 (x : Unit) : Option (Bool × Unit) :=
 Option.bind (F9 (([], ()), [97, 98], ())) fun (b : T26D × Unit) =>
 Option.bind (F10 b) fun (b : List UInt8 × Int × T26D × Unit) =>
 bif decide (b.2.1 = 0) then
 bif decide (b.1 = [0, 0, 0, 2, 97, 98]) then
 Option.bind (F11 (b.1, ())) fun (b : T38D × Unit) =>
 Option.bind (F12 (b.1, 2, ())) fun (b : List UInt8 × T38D × Unit) =>
 some (decide (b.1 = [97, 98]), ())
 else some (false, ())
 else some (false, ())
def S8 : Sig := ⟨P8, R8, F8⟩
noncomputable def E8 : Env := { tab := tab, nt := 22, Γ := lookG [(9, [S9, S9a]), (10, [S10, S10a]), (11, [S11]), (12, [S12, S12a])], joins := lookN [], loops := lookN [] }
theorem raw8_eq (x : Unit) : afun E8 Try.f8 P8 R8 x = F8 x := by kernel_rfl
-- (*decamp/octets.In).Bad
def F13 (x : T38D × Unit) : Option (Bool × T38D × Unit) := some (x.1.2.1, x)
def S13 : Sig := ⟨P13, R13, F13⟩
noncomputable def E13 : Env := { tab := tab, nt := 11, Γ := lookG [], joins := lookN [], loops := lookN [] }
theorem raw13_eq (x : T38D × Unit) : afun E13 Try.f13 P13 R13 x = F13 x := by kernel_rfl
-- (*decamp/octets.In).Bad
def F13a (x : Unit) : Option (Bool × Unit) := some (false, ())
def S13a : Sig := ⟨P13a, R13a, F13a⟩
noncomputable def E13a : Env := { tab := tab, nt := 11, Γ := lookG [], joins := lookN [], loops := lookN [] }
theorem raw13a_eq (x : Unit) : afun E13a Try.f13 P13a R13a x = F13a x := by kernel_rfl
-- decamp/decamplaw03.OctetsCut
def F3 (x : List UInt8 × Int × Int × Unit) : Option (Bool × Unit) :=
 Option.bind (F8 ()) fun (b : Bool × Unit) =>
 bif !b.1 then Option.bind (F8 ()) fun (b : Bool × Unit) => some b
 else
 bif decide (3000 < Int.ofNat (List.length x.1)) then
 Option.bind (F8 ()) fun (b : Bool × Unit) => some b
 else
 Option.bind (F9 (([], ()), x.1, ())) fun (b : T26D × Unit) =>
 Option.bind (F10 b) fun (b : List UInt8 × Int × T26D × Unit) =>
 bif !decide (b.2.1 = 0) then some (false, ())
 else
 bif
 !decide
 (Int.ofNat (List.length b.1) =
 wrap64 (Int.ofNat (List.length x.1) + 4)) then
 some (false, ())
 else
 Option.bind (remO (wrap64 x.2.1) (Int.ofNat (List.length b.1)))
 fun (b_1 : Int) =>
 Option.bind (sliceO b.1 0 b_1) fun (b_2 : List UInt8) =>
 Option.bind (F11 (b_2, ())) fun (b_3 : T38D × Unit) =>
 Option.bind (F12 (b_3.1, Int.ofNat (List.length x.1), ()))
 fun (b_4 : List UInt8 × T38D × Unit) =>
 Option.bind (F11 (b.1, ())) fun (b : T38D × Unit) =>
 Option.bind
 (F12
 (b.1,
 wrap64
 (wrap64 (Int.ofNat (List.length x.1) - 1) -
 wrap64 x.2.2.1),
 ()))
 fun (b : List UInt8 × T38D × Unit) =>
 bif decide (b_4.1 = []) then
 Option.bind (F13 b_4.2) fun (b_5 : Bool × T38D × Unit) =>
 bif b_5.1 then
 bif decide (b.1 = []) then
 Option.bind (F13 b.2) fun (b : Bool × T38D × Unit) =>
 bif b.1 then
 Option.bind (F14 b.2) fun (b : Int × T38D × Unit) =>
 some (decide (b.1 = 0), ())
 else some (false, ())
 else some (false, ())
 else some (false, ())
 else some (false, ())
def S3 : Sig := ⟨P3, R3, F3⟩
noncomputable def E3 : Env := { tab := tab, nt := 79, Γ := lookG [(8, [S8]), (9, [S9, S9a]), (10, [S10, S10a]), (11, [S11]), (12, [S12, S12a]), (13, [S13, S13a]), (14, [S14, S14a])], joins := lookN [], loops := lookN [] }
theorem raw3_eq (x : List UInt8 × Int × Int × Unit) : afun E3 Try.f3 P3 R3 x = F3 x := by kernel_rfl
-- (*decamp/octets.In).Byte
def F20 (x : T38D × Unit) : Option (UInt8 × T38D × Unit) :=
 Option.bind (F42 (x.1, 1, ())) fun (b : Int × T38D × Unit) =>
 some (Sx.byteOf (IntKind.wrap IntKind.u8 b.1), b.2)
def S20 : Sig := ⟨P20, R20, F20⟩
noncomputable def E20 : Env := { tab := tab, nt := 6, Γ := lookG [(42, [S42, S42a])], joins := lookN [], loops := lookN [] }
theorem raw20_eq (x : T38D × Unit) : afun E20 Try.f20 P20 R20 x = F20 x := by kernel_rfl
-- (*decamp/octets.In).Byte
def F20a (x : Unit) : Option (UInt8 × Unit) :=
 Option.bind (F42a (1, ())) fun (b : Int × Unit) =>
 some (Sx.byteOf (IntKind.wrap IntKind.u8 b.1), ())
def S20a : Sig := ⟨P20a, R20a, F20a⟩
noncomputable def E20a : Env := { tab := tab, nt := 6, Γ := lookG [(42, [S42, S42a])], joins := lookN [], loops := lookN [] }
theorem raw20a_eq (x : Unit) : afun E20a Try.f20 P20a R20a x = F20a x := by kernel_rfl
-- (*decamp/octets.In).Flag
def F21 (x : T38D × Unit) : Option (Bool × T38D × Unit) :=
 Option.bind (F20 x) fun (b : UInt8 × T38D × Unit) =>
 bif decide (intOf8 (UInt8.ofNat 1) < intOf8 b.1) then
 Option.bind (F24 b.2) fun (b_1 : T38D × Unit) =>
 some (decide (intOf8 b.1 = intOf8 (UInt8.ofNat 1)), b_1)
 else some (decide (intOf8 b.1 = intOf8 (UInt8.ofNat 1)), b.2)
def S21 : Sig := ⟨P21, R21, F21⟩
noncomputable def E21 : Env := { tab := tab, nt := 12, Γ := lookG [(20, [S20, S20a]), (24, [S24, S24a])], joins := lookN [], loops := lookN [] }
theorem raw21_eq (x : T38D × Unit) : afun E21 Try.f21 P21 R21 x = F21 x := by kernel_rfl
-- (*decamp/octets.In).Flag
def F21a (x : Unit) : Option (Bool × Unit) :=
 Option.bind (F20a ()) fun (b : UInt8 × Unit) =>
 bif decide (intOf8 (UInt8.ofNat 1) < intOf8 b.1) then
 Option.bind (F24a ()) fun (_z : Unit) =>
 some (decide (intOf8 b.1 = intOf8 (UInt8.ofNat 1)), ())
 else some (decide (intOf8 b.1 = intOf8 (UInt8.ofNat 1)), ())
def S21a : Sig := ⟨P21a, R21a, F21a⟩
noncomputable def E21a : Env := { tab := tab, nt := 12, Γ := lookG [(20, [S20, S20a]), (24, [S24, S24a])], joins := lookN [], loops := lookN [] }
theorem raw21a_eq (x : Unit) : afun E21a Try.f21 P21a R21a x = F21a x := by kernel_rfl
-- (*decamp/octets.In).Num
def F22 (x : T38D × Unit) : Option (Int × T38D × Unit) :=
 Option.bind (F42 (x.1, 8, ())) fun (b : Int × T38D × Unit) =>
 some (wrap64 b.1, b.2)
def S22 : Sig := ⟨P22, R22, F22⟩
noncomputable def E22 : Env := { tab := tab, nt := 6, Γ := lookG [(42, [S42, S42a])], joins := lookN [], loops := lookN [] }
theorem raw22_eq (x : T38D × Unit) : afun E22 Try.f22 P22 R22 x = F22 x := by kernel_rfl
-- (*decamp/octets.In).Num
def F22a (x : Unit) : Option (Int × Unit) :=
 Option.bind (F42a (8, ())) fun (b : Int × Unit) => some (wrap64 b.1, ())
def S22a : Sig := ⟨P22a, R22a, F22a⟩
noncomputable def E22a : Env := { tab := tab, nt := 6, Γ := lookG [(42, [S42, S42a])], joins := lookN [], loops := lookN [] }
theorem raw22a_eq (x : Unit) : afun E22a Try.f22 P22a R22a x = F22a x := by kernel_rfl
-- (*decamp/octets.In).Bytes
def F23 (x : T38D × Int × Unit) : Option (List UInt8 × T38D × Unit) :=
 Option.bind (F25 x) fun (b : Int × T38D × Unit) =>
 Option.bind (F28 (b.2.1, b.1, ())) fun (b : List UInt8 × T38D × Unit) =>
 some b
def S23 : Sig := ⟨P23, R23, F23⟩
noncomputable def E23 : Env := { tab := tab, nt := 10, Γ := lookG [(25, [S25, S25a]), (28, [S28, S28a])], joins := lookN [], loops := lookN [] }
theorem raw23_eq (x : T38D × Int × Unit) : afun E23 Try.f23 P23 R23 x = F23 x := by kernel_rfl
-- (*decamp/octets.In).Bytes
def F23a (x : Int × Unit) : Option (List UInt8 × Unit) :=
 Option.bind (F25a x) fun (b : Int × Unit) => Option.bind (F28a b) fun (b : T26D) => some b
def S23a : Sig := ⟨P23a, R23a, F23a⟩
noncomputable def E23a : Env := { tab := tab, nt := 10, Γ := lookG [(25, [S25, S25a]), (28, [S28, S28a])], joins := lookN [], loops := lookN [] }
theorem raw23a_eq (x : Int × Unit) : afun E23a Try.f23 P23a R23a x = F23a x := by kernel_rfl
-- (decamp/decampref03.In).Bytes
def F45 (x : T38D × Int × Unit) : Option (List UInt8 × T38D × Unit) :=
 bif x.1.2.1 then some ([], ([], true, ()), ())
 else
 bif decide (Int.ofNat (List.length x.1.1) < x.2.1) then some ([], ([], true, ()), ())
 else
 Option.bind (sliceO x.1.1 0 x.2.1) fun (b : List UInt8) =>
 Option.bind (sliceO x.1.1 x.2.1 ↑(List.length x.1.1)) fun (b_1 : List UInt8) =>
 some (b, (b_1, false, ()), ())
def S45 : Sig := ⟨P45, R45, F45⟩
noncomputable def E45 : Env := { tab := tab, nt := 25, Γ := lookG [], joins := lookN [], loops := lookN [] }
theorem raw45_eq (x : T38D × Int × Unit) : afun E45 Try.f45 P45 R45 x = F45 x := by kernel_rfl
-- (decamp/decampref03.In).Number
def F44 (x : T38D × Int × Unit) : Option (Int × T38D × Unit) :=
 Option.bind (F45 x) fun (b : List UInt8 × T38D × Unit) =>
 iterE (Int × Int × Unit) (Int × T38D × Unit)
 (fun (x : Int × Int × Unit) =>
 bif decide (x.2.1 < Int.ofNat (List.length b.1)) then
 Option.bind (idx b.1 x.2.1) fun (b : UInt8) =>
 some
 (Sum.inl
 (IntKind.wrap IntKind.u64
 (IntKind.wrap IntKind.u64 (x.1 * 256) + IntKind.wrap IntKind.u64 (intOf8 b)),
 wrap64 (x.2.1 + 1), ()))
 else some (Sum.inr (x.1, b.2)))
 big (0, 0, ())
def S44 : Sig := ⟨P44, R44, F44⟩
noncomputable def E44 : Env := { tab := tab, nt := 32, Γ := lookG [(45, [S45])], joins := lookN [], loops := lookN [(4, mkLoop ⟨[⟨.slot 8, (.int .u64), .pv⟩, ⟨.slot 18, (.int .i64), .pv⟩], [5, 6, 7, 17], [.site 1007000, .fld 1007000 0, .fld 1007000 1, .site 3000, .fld 3000 0, .fld 3000 1]⟩)] }
theorem raw44_eq (x : T38D × Int × Unit) : afun E44 Try.f44 P44 R44 x = F44 x := by kernel_rfl
-- (decamp/decampref03.In).Byte
def F29 (x : T38D × Unit) : Option (UInt8 × T38D × Unit) :=
 Option.bind (F44 (x.1, 1, ())) fun (b : Int × T38D × Unit) =>
 some (Sx.byteOf (IntKind.wrap IntKind.u8 b.1), b.2)
def S29 : Sig := ⟨P29, R29, F29⟩
noncomputable def E29 : Env := { tab := tab, nt := 14, Γ := lookG [(44, [S44])], joins := lookN [], loops := lookN [] }
theorem raw29_eq (x : T38D × Unit) : afun E29 Try.f29 P29 R29 x = F29 x := by kernel_rfl
-- (decamp/decampref03.In).Flag
def F30 (x : T38D × Unit) : Option (Bool × T38D × Unit) :=
 Option.bind (F44 (x.1, 1, ())) fun (b : Int × T38D × Unit) =>
 bif decide (1 < b.1) then some (false, ([], true, ()), ()) else some (decide (b.1 = 1), b.2)
def S30 : Sig := ⟨P30, R30, F30⟩
noncomputable def E30 : Env := { tab := tab, nt := 17, Γ := lookG [(44, [S44])], joins := lookN [], loops := lookN [] }
theorem raw30_eq (x : T38D × Unit) : afun E30 Try.f30 P30 R30 x = F30 x := by kernel_rfl
-- (decamp/decampref03.In).Count
def F31 (x : T38D × Int × Unit) : Option (Int × T38D × Unit) :=
 Option.bind (F44 (x.1, 4, ())) fun (b : Int × T38D × Unit) =>
 bif decide (x.2.1 < 0) then some (0, ([], true, ()), ())
 else
 bif decide (IntKind.wrap IntKind.u64 x.2.1 < b.1) then some (0, ([], true, ()), ())
 else
 bif decide (IntKind.wrap IntKind.u64 (Int.ofNat (List.length b.2.1.1)) < b.1) then
 some (0, ([], true, ()), ())
 else some (wrap64 b.1, b.2)
def S31 : Sig := ⟨P31, R31, F31⟩
noncomputable def E31 : Env := { tab := tab, nt := 33, Γ := lookG [(44, [S44])], joins := lookN [], loops := lookN [] }
theorem raw31_eq (x : T38D × Int × Unit) : afun E31 Try.f31 P31 R31 x = F31 x := by kernel_rfl
-- (decamp/decampref03.In).Num
def F32 (x : T38D × Unit) : Option (Int × T38D × Unit) :=
 Option.bind (F44 (x.1, 8, ())) fun (b : Int × T38D × Unit) =>
 some (wrap64 b.1, b.2)
def S32 : Sig := ⟨P32, R32, F32⟩
noncomputable def E32 : Env := { tab := tab, nt := 14, Γ := lookG [(44, [S44])], joins := lookN [], loops := lookN [] }
theorem raw32_eq (x : T38D × Unit) : afun E32 Try.f32 P32 R32 x = F32 x := by kernel_rfl
-- (decamp/decampref03.In).Text
def F33 (x : T38D × Int × Unit) : Option (List UInt8 × T38D × Unit) :=
 Option.bind (F31 x) fun (b : Int × T38D × Unit) =>
 Option.bind (F45 (b.2.1, b.1, ())) fun (b : List UInt8 × T38D × Unit) =>
 some b
def S33 : Sig := ⟨P33, R33, F33⟩
noncomputable def E33 : Env := { tab := tab, nt := 24, Γ := lookG [(31, [S31]), (45, [S45])], joins := lookN [], loops := lookN [] }
theorem raw33_eq (x : T38D × Int × Unit) : afun E33 Try.f33 P33 R33 x = F33 x := by kernel_rfl
-- decamp/decamplaw03.alike
def F15 (x : T38D × T38D × T42D × Unit) : Option (T38D × Bool × T38D × Unit) :=
 bif decide (intOf8 x.2.2.1.1 = intOf8 (UInt8.ofNat 0)) then
 Option.bind (F29 (x.2.1, ())) fun (b : UInt8 × T38D × Unit) =>
 Option.bind (F20 (x.1, ())) fun (b_1 : UInt8 × T38D × Unit) =>
 some (b.2.1, decide (intOf8 b_1.1 = intOf8 b.1), b_1.2)
 else
 bif decide (intOf8 x.2.2.1.1 = intOf8 (UInt8.ofNat 1)) then
 Option.bind (F30 (x.2.1, ())) fun (b : Bool × T38D × Unit) =>
 Option.bind (F21 (x.1, ())) fun (b_1 : Bool × T38D × Unit) =>
 some (b.2.1, b_1.1 == b.1, b_1.2)
 else
 bif decide (intOf8 x.2.2.1.1 = intOf8 (UInt8.ofNat 2)) then
 Option.bind (F31 (x.2.1, x.2.2.1.2)) fun (b : Int × T38D × Unit) =>
 Option.bind (F25 (x.1, x.2.2.1.2)) fun (b_1 : Int × T38D × Unit) =>
 some (b.2.1, decide (b_1.1 = b.1), b_1.2)
 else
 bif decide (intOf8 x.2.2.1.1 = intOf8 (UInt8.ofNat 3)) then
 Option.bind (F32 (x.2.1, ())) fun (b : Int × T38D × Unit) =>
 Option.bind (F22 (x.1, ())) fun (b_1 : Int × T38D × Unit) =>
 some (b.2.1, decide (b_1.1 = b.1), b_1.2)
 else
 bif decide (intOf8 x.2.2.1.1 = intOf8 (UInt8.ofNat 4)) then
 Option.bind (F33 (x.2.1, x.2.2.1.2))
 fun (b : List UInt8 × T38D × Unit) =>
 Option.bind (F12 (x.1, x.2.2.1.2))
 fun (b_1 : List UInt8 × T38D × Unit) =>
 some (b.2.1, decide (b_1.1 = b.1), b_1.2)
 else
 bif decide (intOf8 x.2.2.1.1 = intOf8 (UInt8.ofNat 5)) then
 Option.bind (F33 (x.2.1, x.2.2.1.2))
 fun (b : List UInt8 × T38D × Unit) =>
 Option.bind (F23 (x.1, x.2.2.1.2))
 fun (b_1 : List UInt8 × T38D × Unit) =>
 some (b.2.1, decide (b_1.1 = b.1), b_1.2)
 else
 Option.bind (F24 (x.1, ())) fun (b : T38D × Unit) =>
 some (([], true, ()), true, b)
def S15 : Sig := ⟨P15, R15, F15⟩
noncomputable def E15 : Env := { tab := tab, nt := 110, Γ := lookG [(12, [S12, S12a]), (20, [S20, S20a]), (21, [S21, S21a]), (22, [S22, S22a]), (23, [S23, S23a]), (24, [S24, S24a]), (25, [S25, S25a]), (29, [S29]), (30, [S30]), (31, [S31]), (32, [S32]), (33, [S33])], joins := lookN [], loops := lookN [] }
theorem raw15_eq (x : T38D × T38D × T42D × Unit) : afun E15 Try.f15 P15 R15 x = F15 x := by kernel_rfl
-- (*decamp/octets.In).Done
def F16 (x : T38D × Unit) : Option (Bool × T38D × Unit) :=
 bif !x.1.2.1 then some (decide (Int.ofNat (List.length x.1.1) = 0), x) else some (false, x)
def S16 : Sig := ⟨P16, R16, F16⟩
noncomputable def E16 : Env := { tab := tab, nt := 20, Γ := lookG [], joins := lookN [], loops := lookN [] }
theorem raw16_eq (x : T38D × Unit) : afun E16 Try.f16 P16 R16 x = F16 x := by kernel_rfl
-- (*decamp/octets.In).Done
def F16a (x : Unit) : Option (Bool × Unit) := some (false, ())
def S16a : Sig := ⟨P16a, R16a, F16a⟩
noncomputable def E16a : Env := { tab := tab, nt := 20, Γ := lookG [], joins := lookN [], loops := lookN [] }
theorem raw16a_eq (x : Unit) : afun E16a Try.f16 P16a R16a x = F16a x := by kernel_rfl
-- (decamp/decampref03.In).Done
def F17 (x : T38D × Unit) : Option (Bool × Unit) :=
 bif !x.1.2.1 then some (decide (Int.ofNat (List.length x.1.1) = 0), ())
 else some (false, ())
def S17 : Sig := ⟨P17, R17, F17⟩
noncomputable def E17 : Env := { tab := tab, nt := 12, Γ := lookG [], joins := lookN [], loops := lookN [] }
theorem raw17_eq (x : T38D × Unit) : afun E17 Try.f17 P17 R17 x = F17 x := by kernel_rfl
-- decamp/decamplaw03.OctetsTakes
def F4 (x : List UInt8 × List T42D × Unit) : Option (Bool × Unit) :=
 Option.bind (F8 ()) fun (b : Bool × Unit) =>
 bif !b.1 then Option.bind (F8 ()) fun (b : Bool × Unit) => some b
 else
 bif decide (100 < Int.ofNat (List.length x.2.1)) then
 Option.bind (F8 ()) fun (b : Bool × Unit) => some b
 else
 Option.bind (F11 (x.1, ())) fun (b : T38D × Unit) =>
 iterE (Int × List UInt8 × Bool × T38D) (Bool × Unit)
 (fun (x_1 : Int × List UInt8 × Bool × T38D) =>
 bif decide (x_1.1 < Int.ofNat (List.length x.2.1)) then
 Option.bind (idx x.2.1 x_1.1) fun (b : T42D) =>
 Option.bind (F15 (x_1.2.2.2, (x_1.2.1, x_1.2.2.1, ()), b, ()))
 fun (b : T38D × Bool × T38D × Unit) =>
 bif !b.2.1 then some (Sum.inr (false, ()))
 else
 Option.bind (F13 b.2.2) fun (b_1 : Bool × T38D × Unit) =>
 bif !b_1.1 == b.1.2.1 then some (Sum.inr (false, ()))
 else
 Option.bind (F14 b_1.2) fun (b_2 : Int × T38D × Unit) =>
 bif !decide (b_2.1 = Int.ofNat (List.length b.1.1)) then
 some (Sum.inr (false, ()))
 else
 Option.bind (F16 b_2.2) fun (b_3 : Bool × T38D × Unit) =>
 Option.bind (F17 (b.1, ())) fun (b_4 : Bool × Unit) =>
 bif !b_3.1 == b_4.1 then some (Sum.inr (false, ()))
 else
 some
 (Sum.inl
 (wrap64 (x_1.1 + 1), b.1.1, b.1.2.1, b_3.2.1))
 else some (Sum.inr (true, ())))
 big (0, x.1, false, b.1)
def S4 : Sig := ⟨P4, R4, F4⟩
noncomputable def E4 : Env := { tab := tab, nt := 63, Γ := lookG [(8, [S8]), (11, [S11]), (13, [S13, S13a]), (14, [S14, S14a]), (15, [S15]), (16, [S16, S16a]), (17, [S17])], joins := lookN [], loops := lookN [(6, mkLoop ⟨[⟨.slot 24, (.int .i64), .pv⟩, ⟨.fld 4003000 0, (.slice .u8), .pv⟩, ⟨.fld 4003000 1, .bool, .pv⟩, ⟨.fld 3002001 0, (.slice .u8), .pv⟩, ⟨.fld 3002001 1, .bool, .pv⟩], [1, 5, 6, 23], [.site 4003000, .site 3002001]⟩)] }
theorem raw4_eq (x : List UInt8 × List T42D × Unit) : afun E4 Try.f4 P4 R4 x = F4 x := by kernel_rfl
-- (*decamp/octets.Out).Byte
def F34 (x : T26D × UInt8 × Unit) : Option (T26D × Unit) :=
 Option.bind (F43 (x.1, IntKind.wrap IntKind.u64 (intOf8 x.2.1), 1, ()))
 fun (b : T26D × Unit) => some b
def S34 : Sig := ⟨P34, R34, F34⟩
noncomputable def E34 : Env := { tab := tab, nt := 8, Γ := lookG [(43, [S43, S43a])], joins := lookN [], loops := lookN [] }
theorem raw34_eq (x : T26D × UInt8 × Unit) : afun E34 Try.f34 P34 R34 x = F34 x := by kernel_rfl
-- (*decamp/octets.Out).Byte
def F34a (x : UInt8 × Unit) : Option (Unit) :=
 Option.bind (F43a (IntKind.wrap IntKind.u64 (intOf8 x.1), 1, ())) fun (_z : Unit) => some ()
def S34a : Sig := ⟨P34a, R34a, F34a⟩
noncomputable def E34a : Env := { tab := tab, nt := 8, Γ := lookG [(43, [S43, S43a])], joins := lookN [], loops := lookN [] }
theorem raw34a_eq (x : UInt8 × Unit) : afun E34a Try.f34 P34a R34a x = F34a x := by kernel_rfl
-- (*decamp/octets.Out).Flag
def F35 (x : T26D × Bool × Unit) : Option (T26D × Unit) :=
 bif x.2.1 then
 Option.bind (F34 (x.1, UInt8.ofNat 1, ())) fun (b : T26D × Unit) => some b
 else Option.bind (F34 (x.1, UInt8.ofNat 0, ())) fun (b : T26D × Unit) => some b
def S35 : Sig := ⟨P35, R35, F35⟩
noncomputable def E35 : Env := { tab := tab, nt := 9, Γ := lookG [(34, [S34, S34a])], joins := lookN [], loops := lookN [] }
theorem raw35_eq (x : T26D × Bool × Unit) : afun E35 Try.f35 P35 R35 x = F35 x := by kernel_rfl
-- (*decamp/octets.Out).Flag
def F35a (x : Bool × Unit) : Option (Unit) :=
 bif x.1 then Option.bind (F34a (UInt8.ofNat 1, ())) fun (_z : Unit) => some ()
 else Option.bind (F34a (UInt8.ofNat 0, ())) fun (_z : Unit) => some ()
def S35a : Sig := ⟨P35a, R35a, F35a⟩
noncomputable def E35a : Env := { tab := tab, nt := 9, Γ := lookG [(34, [S34, S34a])], joins := lookN [], loops := lookN [] }
theorem raw35a_eq (x : Bool × Unit) : afun E35a Try.f35 P35a R35a x = F35a x := by kernel_rfl
-- (*decamp/octets.Out).Num
def F36 (x : T26D × Int × Unit) : Option (T26D × Unit) :=
 Option.bind (F43 (x.1, IntKind.wrap IntKind.u64 x.2.1, 8, ())) fun (b : T26D × Unit) =>
 some b
def S36 : Sig := ⟨P36, R36, F36⟩
noncomputable def E36 : Env := { tab := tab, nt := 8, Γ := lookG [(43, [S43, S43a])], joins := lookN [], loops := lookN [] }
theorem raw36_eq (x : T26D × Int × Unit) : afun E36 Try.f36 P36 R36 x = F36 x := by kernel_rfl
-- (*decamp/octets.Out).Num
def F36a (x : Int × Unit) : Option (Unit) :=
 Option.bind (F43a (IntKind.wrap IntKind.u64 x.1, 8, ())) fun (_z : Unit) => some ()
def S36a : Sig := ⟨P36a, R36a, F36a⟩
noncomputable def E36a : Env := { tab := tab, nt := 8, Γ := lookG [(43, [S43, S43a])], joins := lookN [], loops := lookN [] }
theorem raw36a_eq (x : Int × Unit) : afun E36a Try.f36 P36a R36a x = F36a x := by kernel_rfl
-- (*decamp/octets.Out).Bytes
def F37 (x : T26D × List UInt8 × Unit) : Option (T26D × Unit) :=
 Option.bind (F26 (x.1, Int.ofNat (List.length x.2.1), ())) fun (b : T26D × Unit) =>
 Option.bind (appU b.1.1 x.2.1) fun (b : List UInt8) => some ((b, ()), ())
def S37 : Sig := ⟨P37, R37, F37⟩
noncomputable def E37 : Env := { tab := tab, nt := 19, Γ := lookG [(26, [S26, S26a])], joins := lookN [], loops := lookN [] }
theorem raw37_eq (x : T26D × List UInt8 × Unit) : afun E37 Try.f37 P37 R37 x = F37 x := by kernel_rfl
-- (*decamp/octets.Out).Bytes
def F37a (x : List UInt8 × Unit) : Option (Unit) := some ()
def S37a : Sig := ⟨P37a, R37a, F37a⟩
noncomputable def E37a : Env := { tab := tab, nt := 19, Γ := lookG [(26, [S26, S26a])], joins := lookN [], loops := lookN [] }
theorem raw37a_eq (x : List UInt8 × Unit) : afun E37a Try.f37 P37a R37a x = F37a x := by kernel_rfl
-- decamp/decamplaw03.put
def F18 (x : T26D × T46D × Unit) : Option (T26D × Unit) :=
 bif decide (intOf8 x.2.1.1 = intOf8 (UInt8.ofNat 0)) then
 Option.bind (F34 (x.1, Sx.byteOf (IntKind.wrap IntKind.u8 x.2.1.2.1), ()))
 fun (b : T26D × Unit) => some b
 else
 bif decide (intOf8 x.2.1.1 = intOf8 (UInt8.ofNat 1)) then
 Option.bind (remO x.2.1.2.1 2) fun (b : Int) =>
 Option.bind (F35 (x.1, !decide (b = 0), ())) fun (b : T26D × Unit) => some b
 else
 bif decide (intOf8 x.2.1.1 = intOf8 (UInt8.ofNat 2)) then
 Option.bind (F26 (x.1, x.2.1.2.1, ())) fun (b : T26D × Unit) => some b
 else
 bif decide (intOf8 x.2.1.1 = intOf8 (UInt8.ofNat 3)) then
 Option.bind (F36 (x.1, x.2.1.2.1, ())) fun (b : T26D × Unit) => some b
 else
 bif decide (intOf8 x.2.1.1 = intOf8 (UInt8.ofNat 4)) then
 Option.bind (F9 (x.1, x.2.1.2.2)) fun (b : T26D × Unit) => some b
 else Option.bind (F37 (x.1, x.2.1.2.2)) fun (b : T26D × Unit) => some b
def S18 : Sig := ⟨P18, R18, F18⟩
noncomputable def E18 : Env := { tab := tab, nt := 44, Γ := lookG [(9, [S9, S9a]), (26, [S26, S26a]), (34, [S34, S34a]), (35, [S35, S35a]), (36, [S36, S36a]), (37, [S37, S37a])], joins := lookN [], loops := lookN [] }
theorem raw18_eq (x : T26D × T46D × Unit) : afun E18 Try.f18 P18 R18 x = F18 x := by kernel_rfl
-- decamp/decamplaw03.put
def F18a (x : T46D × Unit) : Option (Unit) :=
 bif decide (intOf8 x.1.1 = intOf8 (UInt8.ofNat 0)) then
 Option.bind (F34a (Sx.byteOf (IntKind.wrap IntKind.u8 x.1.2.1), ())) fun (_z : Unit) =>
 some ()
 else
 bif decide (intOf8 x.1.1 = intOf8 (UInt8.ofNat 1)) then
 Option.bind (remO x.1.2.1 2) fun (b : Int) =>
 Option.bind (F35a (!decide (b = 0), ())) fun (_z : Unit) => some ()
 else
 bif decide (intOf8 x.1.1 = intOf8 (UInt8.ofNat 2)) then
 Option.bind (F26a (x.1.2.1, ())) fun (_z : Unit) => some ()
 else
 bif decide (intOf8 x.1.1 = intOf8 (UInt8.ofNat 3)) then
 Option.bind (F36a (x.1.2.1, ())) fun (_z : Unit) => some ()
 else
 bif decide (intOf8 x.1.1 = intOf8 (UInt8.ofNat 4)) then
 Option.bind (F9a x.1.2.2) fun (_z : Unit) => some ()
 else Option.bind (F37a x.1.2.2) fun (_z : Unit) => some ()
def S18a : Sig := ⟨P18a, R18a, F18a⟩
noncomputable def E18a : Env := { tab := tab, nt := 44, Γ := lookG [(9, [S9, S9a]), (26, [S26, S26a]), (34, [S34, S34a]), (35, [S35, S35a]), (36, [S36, S36a]), (37, [S37, S37a])], joins := lookN [], loops := lookN [] }
theorem raw18a_eq (x : T46D × Unit) : afun E18a Try.f18 P18a R18a x = F18a x := by kernel_rfl
-- decamp/decampref03.Flag
def F38 (x : Bool × Unit) : Option (List UInt8 × Unit) := bif x.1 then some ([UInt8.ofNat 1], ()) else some ([UInt8.ofNat 0], ())
def S38 : Sig := ⟨P38, R38, F38⟩
noncomputable def E38 : Env := { tab := tab, nt := 6, Γ := lookG [], joins := lookN [], loops := lookN [] }
theorem raw38_eq (x : Bool × Unit) : afun E38 Try.f38 P38 R38 x = F38 x := by kernel_rfl
-- decamp/decampref03.Wide
def F46 (x : Int × Int × Unit) : Option (List UInt8 × Unit) :=
 Option.bind (mkO 0 x.2.1 x.2.1) fun (b : List UInt8) =>
 iterE (Int × List UInt8 × Int × Unit) T26D
 (fun (x_1 : Int × List UInt8 × Int × Unit) =>
 bif decide (x_1.2.2.1 < x.2.1) then
 Option.bind
 (idxN x_1.2.1 (wrap64 (wrap64 (x.2.1 - 1) - x_1.2.2.1)))
 fun (b : Nat) =>
 Option.bind x_1.2.1[b]? fun (_z : UInt8) =>
 Option.bind (quoO IntKind.u64 x_1.1 256) fun (b_1 : Int) =>
 some
 (Sum.inl
 (b_1, List.set x_1.2.1 b (Sx.byteOf (IntKind.wrap IntKind.u8 x_1.1)),
 wrap64 (x_1.2.2.1 + 1), ()))
 else some (Sum.inr (x_1.2.1, ())))
 big (x.1, b, 0, ())
def S46 : Sig := ⟨P46, R46, F46⟩
noncomputable def E46 : Env := { tab := tab, nt := 25, Γ := lookG [], joins := lookN [], loops := lookN [(3, mkLoop ⟨[⟨.slot 0, (.int .u64), .pv⟩, ⟨.slot 5, (.slice .u8), .own false⟩, ⟨.slot 10, (.int .i64), .pv⟩], [1, 9], []⟩)] }
theorem raw46_eq (x : Int × Int × Unit) : afun E46 Try.f46 P46 R46 x = F46 x := by kernel_rfl
-- decamp/decampref03.Count
def F39 (x : Int × Unit) : Option (List UInt8 × Unit) :=
 Option.bind (F46 (IntKind.wrap IntKind.u64 x.1, 4, ())) fun (b : T26D) => some b
def S39 : Sig := ⟨P39, R39, F39⟩
noncomputable def E39 : Env := { tab := tab, nt := 6, Γ := lookG [(46, [S46])], joins := lookN [], loops := lookN [] }
theorem raw39_eq (x : Int × Unit) : afun E39 Try.f39 P39 R39 x = F39 x := by kernel_rfl
-- decamp/decampref03.Num
def F40 (x : Int × Unit) : Option (List UInt8 × Unit) :=
 Option.bind (F46 (IntKind.wrap IntKind.u64 x.1, 8, ())) fun (b : T26D) => some b
def S40 : Sig := ⟨P40, R40, F40⟩
noncomputable def E40 : Env := { tab := tab, nt := 6, Γ := lookG [(46, [S46])], joins := lookN [], loops := lookN [] }
theorem raw40_eq (x : Int × Unit) : afun E40 Try.f40 P40 R40 x = F40 x := by kernel_rfl
-- decamp/decampref03.Text
def F41 (x : List UInt8 × Unit) : Option (List UInt8 × Unit) :=
 Option.bind (F39 (Int.ofNat (List.length x.1), ())) fun (b : T26D) =>
 Option.bind (appU b.1 x.1) fun (b : List UInt8) => some (b, ())
def S41 : Sig := ⟨P41, R41, F41⟩
noncomputable def E41 : Env := { tab := tab, nt := 8, Γ := lookG [(39, [S39])], joins := lookN [], loops := lookN [] }
theorem raw41_eq (x : List UInt8 × Unit) : afun E41 Try.f41 P41 R41 x = F41 x := by kernel_rfl
-- decamp/decampref03.Put
def F19 (x : T46D × Unit) : Option (List UInt8 × Unit) :=
 bif decide (intOf8 x.1.1 = intOf8 (UInt8.ofNat 0)) then
 some ([Sx.byteOf (IntKind.wrap IntKind.u8 x.1.2.1)], ())
 else
 bif decide (intOf8 x.1.1 = intOf8 (UInt8.ofNat 1)) then
 Option.bind (remO x.1.2.1 2) fun (b : Int) =>
 Option.bind (F38 (!decide (b = 0), ())) fun (b : T26D) => some b
 else
 bif decide (intOf8 x.1.1 = intOf8 (UInt8.ofNat 2)) then
 Option.bind (F39 (x.1.2.1, ())) fun (b : T26D) => some b
 else
 bif decide (intOf8 x.1.1 = intOf8 (UInt8.ofNat 3)) then
 Option.bind (F40 (x.1.2.1, ())) fun (b : T26D) => some b
 else Option.bind (F41 x.1.2.2) fun (b : T26D) => some b
def S19 : Sig := ⟨P19, R19, F19⟩
noncomputable def E19 : Env := { tab := tab, nt := 31, Γ := lookG [(38, [S38]), (39, [S39]), (40, [S40]), (41, [S41])], joins := lookN [], loops := lookN [] }
theorem raw19_eq (x : T46D × Unit) : afun E19 Try.f19 P19 R19 x = F19 x := by kernel_rfl
-- decamp/decamplaw03.OctetsPuts
def F5 (x : List T46D × Unit) : Option (Bool × Unit) :=
 Option.bind (F8 ()) fun (b : Bool × Unit) =>
 bif !b.1 then Option.bind (F8 ()) fun (b : Bool × Unit) => some b
 else
 bif decide (200 < Int.ofNat (List.length x.1)) then Option.bind (F8 ()) fun (b : Bool × Unit) => some b
 else
 iterE (List UInt8 × Int × T26D) (Bool × Unit)
 (fun (x_1 : List UInt8 × Int × T26D) =>
 bif decide (x_1.2.1 < Int.ofNat (List.length x.1)) then
 Option.bind (idx x.1 x_1.2.1) fun (b : T46D) =>
 bif decide (40000 < Int.ofNat (List.length b.2.2.1)) then some (Sum.inr (true, ()))
 else
 bif decide (100000 < Int.ofNat (List.length x_1.1)) then some (Sum.inr (true, ()))
 else
 Option.bind (idx x.1 x_1.2.1) fun (b : T46D) =>
 Option.bind (F18 (x_1.2.2, b, ())) fun (b : T26D × Unit) =>
 Option.bind (idx x.1 x_1.2.1) fun (b_1 : T46D) =>
 Option.bind (F19 (b_1, ())) fun (b_2 : T26D) =>
 Option.bind (appU x_1.1 b_2.1) fun (b_3 : List UInt8) =>
 some (Sum.inl (b_3, wrap64 (x_1.2.1 + 1), b.1))
 else
 Option.map Sum.inr
 (Option.bind (F10 (x_1.2.2, ()))
 fun (b : List UInt8 × Int × T26D × Unit) =>
 bif decide (60000 < Int.ofNat (List.length x_1.1)) then
 bif decide (b.2.1 = 3) then some (decide (Int.ofNat (List.length b.1) = 0), ())
 else some (false, ())
 else
 bif decide (b.2.1 = 0) then some (decide (b.1 = x_1.1), ())
 else some (false, ())))
 big ([], 0, [], ())
def S5 : Sig := ⟨P5, R5, F5⟩
noncomputable def E5 : Env := { tab := tab, nt := 69, Γ := lookG [(8, [S8]), (10, [S10, S10a]), (18, [S18, S18a]), (19, [S19])], joins := lookN [], loops := lookN [(6, mkLoop ⟨[⟨.slot 4, (.slice .u8), .own false⟩, ⟨.slot 18, (.int .i64), .pv⟩, ⟨.fld 3001000 0, (.slice .u8), .own true⟩], [0, 3, 17], [.site 3001000]⟩)] }
theorem raw5_eq (x : List T46D × Unit) : afun E5 Try.f5 P5 R5 x = F5 x := by kernel_rfl
-- decamp/decamplaw03.OctetsBack
def F6 (x : List T46D × Unit) : Option (Bool × Unit) :=
 Option.bind (F8 ()) fun (b : Bool × Unit) =>
 bif !b.1 then Option.bind (F8 ()) fun (b : Bool × Unit) => some b
 else
 bif decide (100 < Int.ofNat (List.length x.1)) then Option.bind (F8 ()) fun (b : Bool × Unit) => some b
 else
 iterE (Int × T26D) (Bool × Unit)
 (fun (x_1 : Int × T26D) =>
 bif decide (x_1.1 < Int.ofNat (List.length x.1)) then
 Option.bind (idx x.1 x_1.1) fun (b : T46D) =>
 bif decide (500 < Int.ofNat (List.length b.2.2.1)) then some (Sum.inr (true, ()))
 else
 Option.bind (idx x.1 x_1.1) fun (b : T46D) =>
 bif !decide (intOf8 b.1 = intOf8 (UInt8.ofNat 2)) then
 Option.bind (idx x.1 x_1.1) fun (b : T46D) =>
 Option.bind (F18 (x_1.2, b, ())) fun (b : T26D × Unit) =>
 some (Sum.inl (wrap64 (x_1.1 + 1), b.1))
 else some (Sum.inl (wrap64 (x_1.1 + 1), x_1.2))
 else
 Option.map Sum.inr
 (Option.bind (F10 (x_1.2, ())) fun (b : List UInt8 × Int × T26D × Unit) =>
 Option.bind (F11 (b.1, ())) fun (b_1 : T38D × Unit) =>
 iterE (Int × T38D) (Bool × Unit)
 (fun (x_2 : Int × T38D) =>
 bif decide (x_2.1 < Int.ofNat (List.length x.1)) then
 Option.bind (idx x.1 x_2.1) fun (b : T46D) =>
 Option.bind
 (bif decide (intOf8 b.1 = intOf8 (UInt8.ofNat 0)) then
 Option.bind (F20 (x_2.2, ()))
 fun (b_2 : UInt8 × T38D × Unit) =>
 some
 (Sum.inl
 (decide (intOf8 b_2.1 = intOf8 (Sx.byteOf (IntKind.wrap IntKind.u8 b.2.1))),
 b_2.2.1))
 else
 bif decide (intOf8 b.1 = intOf8 (UInt8.ofNat 1)) then
 Option.bind (F21 (x_2.2, ()))
 fun (b_2 : Bool × T38D × Unit) =>
 Option.bind (remO b.2.1 2) fun (b : Int) =>
 some (Sum.inl (b_2.1 == !decide (b = 0), b_2.2.1))
 else
 bif decide (intOf8 b.1 = intOf8 (UInt8.ofNat 2)) then some (Sum.inl (true, x_2.2))
 else
 bif decide (intOf8 b.1 = intOf8 (UInt8.ofNat 3)) then
 Option.bind (F22 (x_2.2, ()))
 fun (b_2 : Int × T38D × Unit) =>
 some (Sum.inl (decide (b_2.1 = b.2.1), b_2.2.1))
 else
 bif decide (intOf8 b.1 = intOf8 (UInt8.ofNat 4)) then
 Option.bind (F12 (x_2.2, Int.ofNat (List.length b.2.2.1), ()))
 fun (b_2 : List UInt8 × T38D × Unit) =>
 some (Sum.inl (decide (b_2.1 = b.2.2.1), b_2.2.1))
 else
 Option.bind (F23 (x_2.2, 500, ()))
 fun (b_2 : List UInt8 × T38D × Unit) =>
 some (Sum.inl (decide (b_2.1 = b.2.2.1), b_2.2.1)))
 fun
 (o :
 Bool × T38D ⊕ Int × T38D ⊕ Bool × Unit) =>
 Sum.elim
 (fun (x : Bool × T38D) =>
 bif !x.1 then some (Sum.inr (false, ()))
 else some (Sum.inl (wrap64 (x_2.1 + 1), x.2)))
 (fun (val : Int × T38D ⊕ Bool × Unit) => some val) o
 else
 Option.map Sum.inr
 (bif decide (b.2.1 = 0) then
 Option.bind (F16 (x_2.2, ()))
 fun (b : Bool × T38D × Unit) => some (b.1, ())
 else some (false, ())))
 big (0, b_1.1)))
 big (0, [], ())
def S6 : Sig := ⟨P6, R6, F6⟩
noncomputable def E6 : Env := { tab := tab, nt := 111, Γ := lookG [(8, [S8]), (10, [S10, S10a]), (11, [S11]), (12, [S12, S12a]), (16, [S16, S16a]), (18, [S18, S18a]), (20, [S20, S20a]), (21, [S21, S21a]), (22, [S22, S22a]), (23, [S23, S23a])], joins := lookN [(30, ⟨[⟨.slot 10, .bool, .pv⟩, ⟨.fld 13002001 0, (.slice .u8), .pv⟩, ⟨.fld 13002001 1, .bool, .pv⟩], [0, 6, 7, 50, 51], [.site 13002001]⟩)], loops := lookN [(5, mkLoop ⟨[⟨.slot 21, (.int .i64), .pv⟩, ⟨.fld 3001000 0, (.slice .u8), .own true⟩], [0, 3, 20], [.site 3001000]⟩), (15, mkLoop ⟨[⟨.slot 51, (.int .i64), .pv⟩, ⟨.fld 13002001 0, (.slice .u8), .pv⟩, ⟨.fld 13002001 1, .bool, .pv⟩], [0, 6, 7, 50], [.site 13002001]⟩)] }
theorem raw6_eq (x : List T46D × Unit) : afun E6 Try.f6 P6 R6 x = F6 x := by kernel_rfl
-- decamp/decamplaw03.OctetsNil
def F7 (x : List T46D × List UInt8 × Int × Unit) : Option (Bool × Unit) :=
 Option.bind (F8 ()) fun (b : Bool × Unit) =>
 bif !b.1 then Option.bind (F8 ()) fun (b : Bool × Unit) => some b
 else
 bif decide (20 < Int.ofNat (List.length x.1)) then Option.bind (F8 ()) fun (b : Bool × Unit) => some b
 else
 bif decide (1000 < Int.ofNat (List.length x.2.1)) then
 Option.bind (F8 ()) fun (b : Bool × Unit) => some b
 else
 iterE (Int × Unit) (Bool × Unit)
 (fun (x_1 : Int × Unit) =>
 bif decide (x_1.1 < Int.ofNat (List.length x.1)) then
 Option.bind (idx x.1 x_1.1) fun (b : T46D) =>
 Option.bind (F18a (b, ())) fun (_z : Unit) =>
 some (Sum.inl (wrap64 (x_1.1 + 1), ()))
 else
 Option.map Sum.inr
 (Option.bind (F10a ()) fun (b : List UInt8 × Int × Unit) =>
 Option.bind (F24a ()) fun (_z : Unit) =>
 bif !decide (b.2.1 = 1) then some (false, ())
 else
 bif !decide (Int.ofNat (List.length b.1) = 0) then some (false, ())
 else
 Option.bind (F20a ()) fun (b : UInt8 × Unit) =>
 bif !decide (intOf8 b.1 = intOf8 (UInt8.ofNat 0)) then some (false, ())
 else
 Option.bind (F21a ()) fun (b : Bool × Unit) =>
 bif b.1 then some (false, ())
 else
 Option.bind (F25a x.2.2) fun (b : Int × Unit) =>
 bif !decide (b.1 = 0) then some (false, ())
 else
 Option.bind (F22a ()) fun (b : Int × Unit) =>
 bif !decide (b.1 = 0) then some (false, ())
 else
 Option.bind (F12a x.2.2) fun (b : T26D) =>
 bif !decide (b.1 = []) then some (false, ())
 else
 Option.bind (F23a x.2.2) fun (b : T26D) =>
 bif !decide (Int.ofNat (List.length b.1) = 0) then
 some (false, ())
 else
 Option.bind (F14a ()) fun (b : Int × Unit) =>
 bif !decide (b.1 = 0) then some (false, ())
 else
 Option.bind (F13a ()) fun (b : Bool × Unit) =>
 bif b.1 then some (false, ())
 else
 Option.bind (F16a ()) fun (b : Bool × Unit) =>
 bif b.1 then some (false, ())
 else
 Option.bind (appU [] x.2.1) fun (b : List UInt8) =>
 Option.bind (F11 (b, ()))
 fun (b_1 : T38D × Unit) =>
 iterE (List UInt8 × Int × Unit) (Bool × Unit)
 (fun (x_2 : List UInt8 × Int × Unit) =>
 bif
 decide
 (x_2.2.1 <
 Int.ofNat (List.length b)) then
 Option.bind (idxN x_2.1 x_2.2.1)
 fun (b : Nat) =>
 Option.bind x_2.1[b]? fun (b : UInt8) =>
 Option.bind (idxN x_2.1 x_2.2.1)
 fun (b_2 : Nat) =>
 Option.bind x_2.1[b_2]?
 fun (_z : UInt8) =>
 some
 (Sum.inl
 (List.set x_2.1 b_2
 (Sx.byteOf
 (bitsO BinOp.xor IntKind.u8
 (intOf8 b)
 (intOf8
 (UInt8.ofNat 255)))),
 wrap64
 (x_2.2.1 + 1),
 ()))
 else
 Option.map Sum.inr
 (iterE (Int × T38D)
 (Bool × Unit)
 (fun
 (x_3 :
 Int × T38D) =>
 bif
 decide
 (x_3.1 <
 Int.ofNat
 (List.length x.2.1)) then
 Option.bind (F20 (x_3.2, ()))
 fun
 (b :
 UInt8 × T38D × Unit) =>
 Option.bind (idx x.2.1 x_3.1)
 fun (b_2 : UInt8) =>
 bif
 !decide
 (intOf8 b.1 =
 intOf8 b_2) then
 some (Sum.inr (false, ()))
 else
 some
 (Sum.inl
 (wrap64
 (x_3.1 + 1),
 b.2.1))
 else
 Option.map Sum.inr
 (Option.bind
 (F16 (x_3.2, ()))
 fun
 (b :
 Bool × T38D × Unit) =>
 some (b.1, ())))
 big (0, b_1.1)))
 big (b, 0, ())))
 big (0, ())
def S7 : Sig := ⟨P7, R7, F7⟩
noncomputable def E7 : Env := { tab := tab, nt := 133, Γ := lookG [(8, [S8]), (10, [S10, S10a]), (11, [S11]), (12, [S12, S12a]), (13, [S13, S13a]), (14, [S14, S14a]), (16, [S16, S16a]), (18, [S18, S18a]), (20, [S20, S20a]), (21, [S21, S21a]), (22, [S22, S22a]), (23, [S23, S23a]), (24, [S24, S24a]), (25, [S25, S25a])], joins := lookN [], loops := lookN [(5, mkLoop ⟨[⟨.slot 31, (.int .i64), .pv⟩], [0, 1, 2, 7, 30], []⟩), (17, mkLoop ⟨[⟨.slot 12, (.slice .u8), .own false⟩, ⟨.slot 108, (.int .i64), .pv⟩], [1, 13, 107], [.site 15002001, .fld 15002001 0, .fld 15002001 1, .row 15002002]⟩), (22, mkLoop ⟨[⟨.slot 120, (.int .i64), .pv⟩, ⟨.fld 15002001 0, (.slice .u8), .pv⟩, ⟨.fld 15002001 1, .bool, .pv⟩], [1, 13, 119], [.site 15002001]⟩)] }
theorem raw7_eq (x : List T46D × List UInt8 × Int × Unit) : afun E7 Try.f7 P7 R7 x = F7 x := by kernel_rfl
end
end Go.Proofs.Ytchknfdjnkalkaa
