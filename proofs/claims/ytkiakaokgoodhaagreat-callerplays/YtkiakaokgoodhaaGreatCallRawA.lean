/-
  Call: by a program of the bench (seat.py).
-/
import Derived.Test.YtkiakaokgoodhaaGreatCallTab
namespace Go.Proofs.YtkiakaokgoodhaaGreat
open Go.Sx Go
set_option maxRecDepth 100000
noncomputable section
-- decamp/caller.New
def F10 (x : Int × Int × Int × Int × Int × Unit) : Option ((Bool × Y100D) × Int × Unit) :=
 bif decide (x.fst < 8) then
 some
 ((false, 0, 0, 0, 0, 0, 0, 0, false,
 (0, 0, (0, 0, 0, 0, 0, 0, 0, 0, false, [], (0, 0, [], ()), ()),
 (0, 0, (0, [], [], [], 0, 0, 0, [], [], [], 0, 0, 0, false, [], [], [], ()), ()), 0, [], [],
 0, 0, 0, 0, (0, 0, false, 0, [], 0, 0, ()), [], [], false, (0, 0, [], [], ()),
 (0, 0, 0, [], [], 0, [], 0, 0, 0, ()), ()),
 ()),
 1, ())
 else
 bif decide (15 < x.fst) then
 some
 ((false, 0, 0, 0, 0, 0, 0, 0, false,
 (0, 0, (0, 0, 0, 0, 0, 0, 0, 0, false, [], (0, 0, [], ()), ()),
 (0, 0, (0, [], [], [], 0, 0, 0, [], [], [], 0, 0, 0, false, [], [], [], ()), ()), 0, [],
 [], 0, 0, 0, 0, (0, 0, false, 0, [], 0, 0, ()), [], [], false, (0, 0, [], [], ()),
 (0, 0, 0, [], [], 0, [], 0, 0, 0, ()), ()),
 ()),
 1, ())
 else
 bif decide (x.snd.fst < 0) then
 some
 ((false, 0, 0, 0, 0, 0, 0, 0, false,
 (0, 0, (0, 0, 0, 0, 0, 0, 0, 0, false, [], (0, 0, [], ()), ()),
 (0, 0, (0, [], [], [], 0, 0, 0, [], [], [], 0, 0, 0, false, [], [], [], ()), ()), 0, [],
 [], 0, 0, 0, 0, (0, 0, false, 0, [], 0, 0, ()), [], [], false, (0, 0, [], [], ()),
 (0, 0, 0, [], [], 0, [], 0, 0, 0, ()), ()),
 ()),
 1, ())
 else
 bif decide (1 < x.snd.fst) then
 some
 ((false, 0, 0, 0, 0, 0, 0, 0, false,
 (0, 0, (0, 0, 0, 0, 0, 0, 0, 0, false, [], (0, 0, [], ()), ()),
 (0, 0, (0, [], [], [], 0, 0, 0, [], [], [], 0, 0, 0, false, [], [], [], ()), ()), 0,
 [], [], 0, 0, 0, 0, (0, 0, false, 0, [], 0, 0, ()), [], [], false, (0, 0, [], [], ()),
 (0, 0, 0, [], [], 0, [], 0, 0, 0, ()), ()),
 ()),
 1, ())
 else
 bif decide (x.snd.snd.fst < 1) then
 some
 ((false, 0, 0, 0, 0, 0, 0, 0, false,
 (0, 0, (0, 0, 0, 0, 0, 0, 0, 0, false, [], (0, 0, [], ()), ()),
 (0, 0, (0, [], [], [], 0, 0, 0, [], [], [], 0, 0, 0, false, [], [], [], ()), ()), 0,
 [], [], 0, 0, 0, 0, (0, 0, false, 0, [], 0, 0, ()), [], [], false,
 (0, 0, [], [], ()), (0, 0, 0, [], [], 0, [], 0, 0, 0, ()), ()),
 ()),
 1, ())
 else
 bif decide (3 < x.snd.snd.fst) then
 some
 ((false, 0, 0, 0, 0, 0, 0, 0, false,
 (0, 0, (0, 0, 0, 0, 0, 0, 0, 0, false, [], (0, 0, [], ()), ()),
 (0, 0, (0, [], [], [], 0, 0, 0, [], [], [], 0, 0, 0, false, [], [], [], ()), ()),
 0, [], [], 0, 0, 0, 0, (0, 0, false, 0, [], 0, 0, ()), [], [], false,
 (0, 0, [], [], ()), (0, 0, 0, [], [], 0, [], 0, 0, 0, ()), ()),
 ()),
 1, ())
 else
 bif decide (x.snd.snd.snd.fst < 1) then
 some
 ((false, 0, 0, 0, 0, 0, 0, 0, false,
 (0, 0, (0, 0, 0, 0, 0, 0, 0, 0, false, [], (0, 0, [], ()), ()),
 (0, 0, (0, [], [], [], 0, 0, 0, [], [], [], 0, 0, 0, false, [], [], [], ()),
 ()),
 0, [], [], 0, 0, 0, 0, (0, 0, false, 0, [], 0, 0, ()), [], [], false,
 (0, 0, [], [], ()), (0, 0, 0, [], [], 0, [], 0, 0, 0, ()), ()),
 ()),
 1, ())
 else
 bif decide (100 < x.snd.snd.snd.fst) then
 some
 ((false, 0, 0, 0, 0, 0, 0, 0, false,
 (0, 0, (0, 0, 0, 0, 0, 0, 0, 0, false, [], (0, 0, [], ()), ()),
 (0, 0, (0, [], [], [], 0, 0, 0, [], [], [], 0, 0, 0, false, [], [], [], ()),
 ()),
 0, [], [], 0, 0, 0, 0, (0, 0, false, 0, [], 0, 0, ()), [], [], false,
 (0, 0, [], [], ()), (0, 0, 0, [], [], 0, [], 0, 0, 0, ()), ()),
 ()),
 1, ())
 else
 bif decide (x.snd.snd.snd.snd.fst < 0) then
 some
 ((false, 0, 0, 0, 0, 0, 0, 0, false,
 (0, 0, (0, 0, 0, 0, 0, 0, 0, 0, false, [], (0, 0, [], ()), ()),
 (0, 0, (0, [], [], [], 0, 0, 0, [], [], [], 0, 0, 0, false, [], [], [], ()),
 ()),
 0, [], [], 0, 0, 0, 0, (0, 0, false, 0, [], 0, 0, ()), [], [], false,
 (0, 0, [], [], ()), (0, 0, 0, [], [], 0, [], 0, 0, 0, ()), ()),
 ()),
 1, ())
 else
 bif decide (549755813888 < x.snd.snd.snd.snd.fst) then
 some
 ((false, 0, 0, 0, 0, 0, 0, 0, false,
 (0, 0, (0, 0, 0, 0, 0, 0, 0, 0, false, [], (0, 0, [], ()), ()),
 (0, 0, (0, [], [], [], 0, 0, 0, [], [], [], 0, 0, 0, false, [], [], [], ()),
 ()),
 0, [], [], 0, 0, 0, 0, (0, 0, false, 0, [], 0, 0, ()), [], [], false,
 (0, 0, [], [], ()), (0, 0, 0, [], [], 0, [], 0, 0, 0, ()), ()),
 ()),
 1, ())
 else
 some
 ((true, x.fst, x.snd.fst, x.snd.snd.fst, x.snd.snd.snd.fst, x.snd.snd.snd.snd.fst, 0, 0, false,
 (0, 0, (0, 0, 0, 0, 0, 0, 0, 0, false, [], (0, 0, [], ()), ()),
 (0, 0, (0, [], [], [], 0, 0, 0, [], [], [], 0, 0, 0, false, [], [], [], ()),
 ()),
 0, [], [], 0, 0, 0, 0, (0, 0, false, 0, [], 0, 0, ()), [], [], false,
 (0, 0, [], [], ()), (0, 0, 0, [], [], 0, [], 0, 0, 0, ()), ()),
 ()),
 0, ())
def S10 : Sig := ⟨P10, R10, F10⟩
noncomputable def E10 : Env := { tab := tab, nt := 57, Γ := lookG [], joins := lookN [], loops := lookN [] }
theorem raw10_eq (x : Int × Int × Int × Int × Int × Unit) : afun E10 Tryz.f10 P10 R10 x = F10 x := by kernel_rfl
-- decamp/talk.Answer
def F18 (x : Int × Unit) : Option (Int × Unit) :=
 bif decide (x.fst = 2) then
 bif decide (x.fst = 2) then some (8, ())
 else
 bif decide (x.fst = 4) then some (9, ())
 else
 bif decide (x.fst = 5) then some (10, ())
 else
 bif decide (x.fst = 6) then some (11, ())
 else bif decide (x.fst = 7) then some (12, ()) else some (0, ())
 else
 bif decide (x.fst = 3) then some (8, ())
 else
 bif decide (x.fst = 4) then some (9, ())
 else
 bif decide (x.fst = 5) then some (10, ())
 else
 bif decide (x.fst = 6) then some (11, ())
 else bif decide (x.fst = 7) then some (12, ()) else some (0, ())
def S18 : Sig := ⟨P18, R18, F18⟩
noncomputable def E18 : Env := { tab := tab, nt := 15, Γ := lookG [], joins := lookN [], loops := lookN [] }
theorem raw18_eq (x : Int × Unit) : afun E18 Tryz.f18 P18 R18 x = F18 x := by kernel_rfl
-- bytes.Equal
def F95 (x : List UInt8 × List UInt8 × Unit) : Option (Bool × Unit) := some (decide (x.fst = x.snd.fst), ())
def S95 : Sig := ⟨P95, R95, F95⟩
noncomputable def E95 : Env := { tab := tab, nt := 10, Γ := lookG [], joins := lookN [], loops := lookN [] }
theorem raw95_eq (x : List UInt8 × List UInt8 × Unit) : afun E95 Tryz.f95 P95 R95 x = F95 x := by kernel_rfl
-- decamp/entry.Same$1
def F132 (x : T25D × T25D × Unit) : Option (Bool × Unit) :=
 bif decide (x.fst.fst = x.snd.fst.fst) then
 bif decide (x.fst.snd.fst = x.snd.fst.snd.fst) then
 Option.bind (F95 (x.fst.snd.snd.fst, x.snd.fst.snd.snd)) fun b => some b
 else some (false, ())
 else some (false, ())
def S132 : Sig := ⟨P132, R132, F132⟩
noncomputable def E132 : Env := { tab := tab, nt := 24, Γ := lookG [(95, [S95])], joins := lookN [], loops := lookN [] }
theorem raw132_eq (x : T25D × T25D × Unit) : afun E132 Tryz.f132 P132 R132 x = F132 x := by kernel_rfl
-- slices.EqualFunc[[]decamp/api.Entry,[]decamp/api.Entry,decamp/api.Entry,decamp/api.Entry]
def F131a (x : List T25D × List T25D × Unit) : Option (Bool × Unit) :=
 bif !decide (Int.ofNat (List.length x.fst) = Int.ofNat (List.length x.snd.fst)) then some (false, ())
 else
 iterE (Int × Unit) (Bool × Unit)
 (fun (x_1 : Int × Unit) =>
 bif decide (x_1.fst < Int.ofNat (List.length x.fst)) then
 Option.bind (idx x.fst x_1.fst) fun b =>
 Option.bind (idx x.snd.fst x_1.fst) fun b_1 =>
 Option.bind (F132 (b, b_1, ())) fun b =>
 bif !b.fst then some (Sum.inr (false, ()))
 else some (Sum.inl (wrap64 (x_1.fst + 1), ()))
 else some (Sum.inr (true, ())))
 big (0, ())
def S131a : Sig := ⟨P131a, R131a, F131a⟩
noncomputable def E131a : Env := { tab := tab, nt := 32, Γ := lookG [(132, [S132])], joins := lookN [], loops := lookN [(4, mkLoop ⟨[⟨.slot 17, (.int .i64), .pv⟩], [1, 2, 15, 16], []⟩)] }
theorem raw131a_eq (x : List T25D × List T25D × Unit) : afun E131a Tryz.f131 P131a R131a x = F131a x := by kernel_rfl
-- decamp/entry.Same
def F94 (x : List T25D × List T25D × Unit) : Option (Bool × Unit) :=
 Option.bind (F131a x) fun b => some b
def S94 : Sig := ⟨P94, R94, F94⟩
noncomputable def E94 : Env := { tab := tab, nt := 8, Γ := lookG [(131, [S131a]), (132, [S132])], joins := lookN [], loops := lookN [] }
theorem raw94_eq (x : List T25D × List T25D × Unit) : afun E94 Tryz.f94 P94 R94 x = F94 x := by kernel_rfl
-- decamp/rmsg.Same
def F57 (x : T27D × T27D × Unit) : Option (Bool × Unit) :=
 bif decide (x.fst.fst = x.snd.fst.fst) then
 bif decide (x.fst.snd.fst = x.snd.fst.snd.fst) then
 bif decide (x.fst.snd.snd.fst = x.snd.fst.snd.snd.fst) then
 bif decide (x.fst.snd.snd.snd.fst = x.snd.fst.snd.snd.snd.fst) then
 bif decide (x.fst.snd.snd.snd.snd.fst = x.snd.fst.snd.snd.snd.snd.fst) then
 bif decide (x.fst.snd.snd.snd.snd.snd.fst = x.snd.fst.snd.snd.snd.snd.snd.fst) then
 bif decide (x.fst.snd.snd.snd.snd.snd.snd.fst = x.snd.fst.snd.snd.snd.snd.snd.snd.fst) then
 bif decide (x.fst.snd.snd.snd.snd.snd.snd.snd.fst = x.snd.fst.snd.snd.snd.snd.snd.snd.snd.fst) then
 bif x.fst.snd.snd.snd.snd.snd.snd.snd.snd.fst == x.snd.fst.snd.snd.snd.snd.snd.snd.snd.snd.fst then
 Option.bind
 (F94
 (x.fst.snd.snd.snd.snd.snd.snd.snd.snd.snd.fst,
 x.snd.fst.snd.snd.snd.snd.snd.snd.snd.snd.snd.fst, ()))
 fun b =>
 bif b.fst then
 bif
 decide
 (x.fst.snd.snd.snd.snd.snd.snd.snd.snd.snd.snd.fst.fst =
 x.snd.fst.snd.snd.snd.snd.snd.snd.snd.snd.snd.snd.fst.fst) then
 bif
 decide
 (x.fst.snd.snd.snd.snd.snd.snd.snd.snd.snd.snd.fst.snd.fst =
 x.snd.fst.snd.snd.snd.snd.snd.snd.snd.snd.snd.snd.fst.snd.fst) then
 Option.bind
 (F95
 (x.fst.snd.snd.snd.snd.snd.snd.snd.snd.snd.snd.fst.snd.snd.fst,
 x.snd.fst.snd.snd.snd.snd.snd.snd.snd.snd.snd.snd.fst.snd.snd))
 fun b => some b
 else some (false, ())
 else some (false, ())
 else some (false, ())
 else some (false, ())
 else some (false, ())
 else some (false, ())
 else some (false, ())
 else some (false, ())
 else some (false, ())
 else some (false, ())
 else some (false, ())
 else some (false, ())
def S57 : Sig := ⟨P57, R57, F57⟩
noncomputable def E57 : Env := { tab := tab, nt := 100, Γ := lookG [(94, [S94]), (95, [S95])], joins := lookN [], loops := lookN [] }
theorem raw57_eq (x : T27D × T27D × Unit) : afun E57 Tryz.f57 P57 R57 x = F57 x := by kernel_rfl
-- slices.Equal[[]decamp/api.Cmp,decamp/api.Cmp]
def F96 (x : List T96D × List T96D × Unit) : Option (Bool × Unit) :=
 bif !decide (Int.ofNat (List.length x.fst) = Int.ofNat (List.length x.snd.fst)) then some (false, ())
 else
 iterE (Int × Unit) (Bool × Unit)
 (fun (x_1 : Int × Unit) =>
 bif decide (x_1.fst < Int.ofNat (List.length x.fst)) then
 Option.bind (idx x.fst x_1.fst) fun b =>
 Option.bind (idx x.snd.fst x_1.fst) fun b_1 =>
 bif
 !(decide (b.fst = b_1.fst) &&
 (decide (b.snd.fst = b_1.snd.fst) &&
 (decide (b.snd.snd.fst = b_1.snd.snd.fst) &&
 (decide (b.snd.snd.snd.fst = b_1.snd.snd.snd.fst) &&
 (decide (b.snd.snd.snd.snd.fst = b_1.snd.snd.snd.snd.fst) && true))))) then
 some (Sum.inr (false, ()))
 else some (Sum.inl (wrap64 (x_1.fst + 1), ()))
 else some (Sum.inr (true, ())))
 big (0, ())
def S96 : Sig := ⟨P96, R96, F96⟩
noncomputable def E96 : Env := { tab := tab, nt := 26, Γ := lookG [], joins := lookN [], loops := lookN [(4, mkLoop ⟨[⟨.slot 13, (.int .i64), .pv⟩], [0, 1, 12], []⟩)] }
theorem raw96_eq (x : List T96D × List T96D × Unit) : afun E96 Tryz.f96 P96 R96 x = F96 x := by kernel_rfl
-- slices.Equal[[]decamp/api.Op,decamp/api.Op]
def F97 (x : List T48D × List T48D × Unit) : Option (Bool × Unit) :=
 bif !decide (Int.ofNat (List.length x.fst) = Int.ofNat (List.length x.snd.fst)) then some (false, ())
 else
 iterE (Int × Unit) (Bool × Unit)
 (fun (x_1 : Int × Unit) =>
 bif decide (x_1.fst < Int.ofNat (List.length x.fst)) then
 Option.bind (idx x.fst x_1.fst) fun b =>
 Option.bind (idx x.snd.fst x_1.fst) fun b_1 =>
 bif
 !(decide (b.fst = b_1.fst) &&
 (decide (b.snd.fst = b_1.snd.fst) &&
 (decide (b.snd.snd.fst = b_1.snd.snd.fst) &&
 (decide (b.snd.snd.snd.fst = b_1.snd.snd.snd.fst) &&
 (decide (b.snd.snd.snd.snd.fst = b_1.snd.snd.snd.snd.fst) && true))))) then
 some (Sum.inr (false, ()))
 else some (Sum.inl (wrap64 (x_1.fst + 1), ()))
 else some (Sum.inr (true, ())))
 big (0, ())
def S97 : Sig := ⟨P97, R97, F97⟩
noncomputable def E97 : Env := { tab := tab, nt := 26, Γ := lookG [], joins := lookN [], loops := lookN [(4, mkLoop ⟨[⟨.slot 13, (.int .i64), .pv⟩], [0, 1, 12], []⟩)] }
theorem raw97_eq (x : List T48D × List T48D × Unit) : afun E97 Tryz.f97 P97 R97 x = F97 x := by kernel_rfl
-- slices.Equal[[]decamp/api.Item,decamp/api.Item]
def F61 (x : List T70D × List T70D × Unit) : Option (Bool × Unit) :=
 bif !decide (Int.ofNat (List.length x.fst) = Int.ofNat (List.length x.snd.fst)) then some (false, ())
 else
 iterE (Int × Unit) (Bool × Unit)
 (fun (x_1 : Int × Unit) =>
 bif decide (x_1.fst < Int.ofNat (List.length x.fst)) then
 Option.bind (idx x.fst x_1.fst)
 fun b =>
 Option.bind (idx x.snd.fst x_1.fst)
 fun b_1 =>
 bif
 !(decide (b.fst = b_1.fst) &&
 (decide (b.snd.fst.fst = b_1.snd.fst.fst) &&
 (decide (b.snd.fst.snd.fst = b_1.snd.fst.snd.fst) &&
 (decide (b.snd.fst.snd.snd.fst = b_1.snd.fst.snd.snd.fst) &&
 (decide (b.snd.fst.snd.snd.snd.fst = b_1.snd.fst.snd.snd.snd.fst) &&
 (decide (b.snd.fst.snd.snd.snd.snd.fst = b_1.snd.fst.snd.snd.snd.snd.fst) &&
 (decide (b.snd.fst.snd.snd.snd.snd.snd.fst = b_1.snd.fst.snd.snd.snd.snd.snd.fst) &&
 (b.snd.fst.snd.snd.snd.snd.snd.snd.fst == b_1.snd.fst.snd.snd.snd.snd.snd.snd.fst &&
 true)))))) &&
 true)) then
 some (Sum.inr (false, ()))
 else some (Sum.inl (wrap64 (x_1.fst + 1), ()))
 else some (Sum.inr (true, ())))
 big (0, ())
def S61 : Sig := ⟨P61, R61, F61⟩
noncomputable def E61 : Env := { tab := tab, nt := 26, Γ := lookG [], joins := lookN [], loops := lookN [(4, mkLoop ⟨[⟨.slot 13, (.int .i64), .pv⟩], [0, 1, 12], []⟩)] }
theorem raw61_eq (x : List T70D × List T70D × Unit) : afun E61 Tryz.f61 P61 R61 x = F61 x := by kernel_rfl
-- decamp/cmd.sameItems
def F98 (x : List T70D × List T70D × Unit) : Option (Bool × Unit) :=
 Option.bind (F61 x) fun b => some b
def S98 : Sig := ⟨P98, R98, F98⟩
noncomputable def E98 : Env := { tab := tab, nt := 8, Γ := lookG [(61, [S61])], joins := lookN [], loops := lookN [] }
theorem raw98_eq (x : List T70D × List T70D × Unit) : afun E98 Tryz.f98 P98 R98 x = F98 x := by kernel_rfl
-- decamp/cmd.SameReply
def F59 (x : T51D × T51D × Unit) : Option (Bool × Unit) :=
 bif decide (x.fst.fst = x.snd.fst.fst) then
 bif decide (x.fst.snd.fst = x.snd.fst.snd.fst) then
 bif x.fst.snd.snd.fst == x.snd.fst.snd.snd.fst then
 bif decide (x.fst.snd.snd.snd.fst = x.snd.fst.snd.snd.snd.fst) then
 bif decide (x.fst.snd.snd.snd.snd.snd.fst = x.snd.fst.snd.snd.snd.snd.snd.fst) then
 bif decide (x.fst.snd.snd.snd.snd.snd.snd.fst = x.snd.fst.snd.snd.snd.snd.snd.snd.fst) then
 Option.bind (F98 (x.fst.snd.snd.snd.snd.fst, x.snd.fst.snd.snd.snd.snd.fst, ()))
 fun b => some b
 else some (false, ())
 else some (false, ())
 else some (false, ())
 else some (false, ())
 else some (false, ())
 else some (false, ())
def S59 : Sig := ⟨P59, R59, F59⟩
noncomputable def E59 : Env := { tab := tab, nt := 52, Γ := lookG [(98, [S98])], joins := lookN [], loops := lookN [] }
theorem raw59_eq (x : T51D × T51D × Unit) : afun E59 Tryz.f59 P59 R59 x = F59 x := by kernel_rfl
-- decamp/cmd.sameSess$1
def F134 (x : T94D × T94D × Unit) : Option (Bool × Unit) :=
 bif decide (x.fst.fst = x.snd.fst.fst) then
 bif decide (x.fst.snd.fst = x.snd.fst.snd.fst) then
 Option.bind (F59 (x.fst.snd.snd.fst, x.snd.fst.snd.snd)) fun b => some b
 else some (false, ())
 else some (false, ())
def S134 : Sig := ⟨P134, R134, F134⟩
noncomputable def E134 : Env := { tab := tab, nt := 24, Γ := lookG [(59, [S59])], joins := lookN [], loops := lookN [] }
theorem raw134_eq (x : T94D × T94D × Unit) : afun E134 Tryz.f134 P134 R134 x = F134 x := by kernel_rfl
-- slices.EqualFunc[[]decamp/api.Sess,[]decamp/api.Sess,decamp/api.Sess,decamp/api.Sess]
def F133a (x : List T94D × List T94D × Unit) : Option (Bool × Unit) :=
 bif !decide (Int.ofNat (List.length x.fst) = Int.ofNat (List.length x.snd.fst)) then some (false, ())
 else
 iterE (Int × Unit) (Bool × Unit)
 (fun (x_1 : Int × Unit) =>
 bif decide (x_1.fst < Int.ofNat (List.length x.fst)) then
 Option.bind (idx x.fst x_1.fst)
 fun b =>
 Option.bind (idx x.snd.fst x_1.fst)
 fun b_1 =>
 Option.bind (F134 (b, b_1, ())) fun b =>
 bif !b.fst then some (Sum.inr (false, ()))
 else some (Sum.inl (wrap64 (x_1.fst + 1), ()))
 else some (Sum.inr (true, ())))
 big (0, ())
def S133a : Sig := ⟨P133a, R133a, F133a⟩
noncomputable def E133a : Env := { tab := tab, nt := 32, Γ := lookG [(134, [S134])], joins := lookN [], loops := lookN [(4, mkLoop ⟨[⟨.slot 17, (.int .i64), .pv⟩], [1, 2, 15, 16], []⟩)] }
theorem raw133a_eq (x : List T94D × List T94D × Unit) : afun E133a Tryz.f133 P133a R133a x = F133a x := by kernel_rfl
-- decamp/cmd.sameSess
def F99 (x : List T94D × List T94D × Unit) : Option (Bool × Unit) :=
 Option.bind (F133a x) fun b => some b
def S99 : Sig := ⟨P99, R99, F99⟩
noncomputable def E99 : Env := { tab := tab, nt := 8, Γ := lookG [(133, [S133a]), (134, [S134])], joins := lookN [], loops := lookN [] }
theorem raw99_eq (x : List T94D × List T94D × Unit) : afun E99 Tryz.f99 P99 R99 x = F99 x := by kernel_rfl
-- slices.Equal[[]decamp/api.Lease,decamp/api.Lease]
def F100 (x : List T113D × List T113D × Unit) : Option (Bool × Unit) :=
 bif !decide (Int.ofNat (List.length x.fst) = Int.ofNat (List.length x.snd.fst)) then some (false, ())
 else
 iterE (Int × Unit) (Bool × Unit)
 (fun (x_1 : Int × Unit) =>
 bif decide (x_1.fst < Int.ofNat (List.length x.fst)) then
 Option.bind (idx x.fst x_1.fst) fun b =>
 Option.bind (idx x.snd.fst x_1.fst) fun b_1 =>
 bif
 !(decide (b.fst = b_1.fst) &&
 (decide (b.snd.fst = b_1.snd.fst) && (decide (b.snd.snd.fst = b_1.snd.snd.fst) && true))) then
 some (Sum.inr (false, ()))
 else some (Sum.inl (wrap64 (x_1.fst + 1), ()))
 else some (Sum.inr (true, ())))
 big (0, ())
def S100 : Sig := ⟨P100, R100, F100⟩
noncomputable def E100 : Env := { tab := tab, nt := 26, Γ := lookG [], joins := lookN [], loops := lookN [(4, mkLoop ⟨[⟨.slot 13, (.int .i64), .pv⟩], [0, 1, 12], []⟩)] }
theorem raw100_eq (x : List T113D × List T113D × Unit) : afun E100 Tryz.f100 P100 R100 x = F100 x := by kernel_rfl
-- decamp/cmd.Same
def F58 (x : T28D × T28D × Unit) : Option (Bool × Unit) :=
 bif decide (x.fst.fst = x.snd.fst.fst) then
 bif decide (x.fst.snd.fst = x.snd.fst.snd.fst) then
 bif decide (x.fst.snd.snd.fst = x.snd.fst.snd.snd.fst) then
 bif decide (x.fst.snd.snd.snd.fst = x.snd.fst.snd.snd.snd.fst) then
 bif decide (x.fst.snd.snd.snd.snd.fst = x.snd.fst.snd.snd.snd.snd.fst) then
 bif decide (x.fst.snd.snd.snd.snd.snd.fst = x.snd.fst.snd.snd.snd.snd.snd.fst) then
 bif decide (x.fst.snd.snd.snd.snd.snd.snd.fst = x.snd.fst.snd.snd.snd.snd.snd.snd.fst) then
 bif
 decide
 (x.fst.snd.snd.snd.snd.snd.snd.snd.snd.snd.snd.fst =
 x.snd.fst.snd.snd.snd.snd.snd.snd.snd.snd.snd.snd.fst) then
 bif
 decide
 (x.fst.snd.snd.snd.snd.snd.snd.snd.snd.snd.snd.snd.fst =
 x.snd.fst.snd.snd.snd.snd.snd.snd.snd.snd.snd.snd.snd.fst) then
 bif
 decide
 (x.fst.snd.snd.snd.snd.snd.snd.snd.snd.snd.snd.snd.snd.fst =
 x.snd.fst.snd.snd.snd.snd.snd.snd.snd.snd.snd.snd.snd.snd.fst) then
 bif
 x.fst.snd.snd.snd.snd.snd.snd.snd.snd.snd.snd.snd.snd.snd.fst ==
 x.snd.fst.snd.snd.snd.snd.snd.snd.snd.snd.snd.snd.snd.snd.snd.fst then
 Option.bind
 (F96
 (x.fst.snd.snd.snd.snd.snd.snd.snd.fst, x.snd.fst.snd.snd.snd.snd.snd.snd.snd.fst,
 ()))
 fun b =>
 bif b.fst then
 Option.bind
 (F97
 (x.fst.snd.snd.snd.snd.snd.snd.snd.snd.fst,
 x.snd.fst.snd.snd.snd.snd.snd.snd.snd.snd.fst, ()))
 fun b =>
 bif b.fst then
 Option.bind
 (F97
 (x.fst.snd.snd.snd.snd.snd.snd.snd.snd.snd.fst,
 x.snd.fst.snd.snd.snd.snd.snd.snd.snd.snd.snd.fst, ()))
 fun b =>
 bif b.fst then
 Option.bind
 (F98
 (x.fst.snd.snd.snd.snd.snd.snd.snd.snd.snd.snd.snd.snd.snd.snd.fst,
 x.snd.fst.snd.snd.snd.snd.snd.snd.snd.snd.snd.snd.snd.snd.snd.snd.fst,
 ()))
 fun b =>
 bif b.fst then
 Option.bind
 (F99
 (x.fst.snd.snd.snd.snd.snd.snd.snd.snd.snd.snd.snd.snd.snd.snd.snd.fst,
 x.snd.fst.snd.snd.snd.snd.snd.snd.snd.snd.snd.snd.snd.snd.snd.snd.snd.fst,
 ()))
 fun b =>
 bif b.fst then
 Option.bind
 (F100
 (x.fst.snd.snd.snd.snd.snd.snd.snd.snd.snd.snd.snd.snd.snd.snd.snd.snd.fst,
 x.snd.fst.snd.snd.snd.snd.snd.snd.snd.snd.snd.snd.snd.snd.snd.snd.snd.snd))
 fun b => some b
 else some (false, ())
 else some (false, ())
 else some (false, ())
 else some (false, ())
 else some (false, ())
 else some (false, ())
 else some (false, ())
 else some (false, ())
 else some (false, ())
 else some (false, ())
 else some (false, ())
 else some (false, ())
 else some (false, ())
 else some (false, ())
 else some (false, ())
 else some (false, ())
def S58 : Sig := ⟨P58, R58, F58⟩
noncomputable def E58 : Env := { tab := tab, nt := 122, Γ := lookG [(96, [S96]), (97, [S97]), (98, [S98]), (99, [S99]), (100, [S100])], joins := lookN [], loops := lookN [] }
theorem raw58_eq (x : T28D × T28D × Unit) : afun E58 Tryz.f58 P58 R58 x = F58 x := by kernel_rfl
-- decamp/talk.sameBatches$1
def F102 (x : TBD × TBD × Unit) : Option (Bool × Unit) :=
 bif decide (x.fst.fst = x.snd.fst.fst) then
 Option.bind (F61 (x.fst.snd.fst, x.snd.fst.snd)) fun b => some b
 else some (false, ())
def S102 : Sig := ⟨P102, R102, F102⟩
noncomputable def E102 : Env := { tab := tab, nt := 17, Γ := lookG [(61, [S61])], joins := lookN [], loops := lookN [] }
theorem raw102_eq (x : TBD × TBD × Unit) : afun E102 Tryz.f102 P102 R102 x = F102 x := by kernel_rfl
-- slices.EqualFunc[[]decamp/api.Batch,[]decamp/api.Batch,decamp/api.Batch,decamp/api.Batch]
def F101a (x : List TBD × List TBD × Unit) : Option (Bool × Unit) :=
 bif !decide (Int.ofNat (List.length x.fst) = Int.ofNat (List.length x.snd.fst)) then some (false, ())
 else
 iterE (Int × Unit) (Bool × Unit)
 (fun (x_1 : Int × Unit) =>
 bif decide (x_1.fst < Int.ofNat (List.length x.fst)) then
 Option.bind (idx x.fst x_1.fst)
 fun b =>
 Option.bind (idx x.snd.fst x_1.fst)
 fun b_1 =>
 Option.bind (F102 (b, b_1, ())) fun b =>
 bif !b.fst then some (Sum.inr (false, ()))
 else some (Sum.inl (wrap64 (x_1.fst + 1), ()))
 else some (Sum.inr (true, ())))
 big (0, ())
def S101a : Sig := ⟨P101a, R101a, F101a⟩
noncomputable def E101a : Env := { tab := tab, nt := 32, Γ := lookG [(102, [S102])], joins := lookN [], loops := lookN [(4, mkLoop ⟨[⟨.slot 17, (.int .i64), .pv⟩], [1, 2, 15, 16], []⟩)] }
theorem raw101a_eq (x : List TBD × List TBD × Unit) : afun E101a Tryz.f101 P101a R101a x = F101a x := by kernel_rfl
-- decamp/talk.sameBatches
def F60 (x : List TBD × List TBD × Unit) : Option (Bool × Unit) :=
 Option.bind (F101a x) fun b => some b
def S60 : Sig := ⟨P60, R60, F60⟩
noncomputable def E60 : Env := { tab := tab, nt := 8, Γ := lookG [(101, [S101a]), (102, [S102])], joins := lookN [], loops := lookN [] }
theorem raw60_eq (x : List TBD × List TBD × Unit) : afun E60 Tryz.f60 P60 R60 x = F60 x := by kernel_rfl
-- decamp/talk.sameHand
def F62 (x : T55D × T55D × Unit) : Option (Bool × Unit) :=
 bif decide (x.fst.fst = x.snd.fst.fst) then
 bif decide (x.fst.snd.fst = x.snd.fst.snd.fst) then
 Option.bind
 (F58
 ((0, [], [], [], 0, 0, 0, [], [], [], 0, 0, 0, false, [], x.fst.snd.snd),
 (0, [], [], [], 0, 0, 0, [], [], [], 0, 0, 0, false, [], x.snd.fst.snd.snd), ()))
 fun b => some b
 else some (false, ())
 else some (false, ())
def S62 : Sig := ⟨P62, R62, F62⟩
noncomputable def E62 : Env := { tab := tab, nt := 30, Γ := lookG [(58, [S58])], joins := lookN [], loops := lookN [] }
theorem raw62_eq (x : T55D × T55D × Unit) : afun E62 Tryz.f62 P62 R62 x = F62 x := by kernel_rfl
-- decamp/talk.Same
def F25 (x : TMD × TMD × Unit) : Option (Bool × Unit) :=
 bif decide (x.fst.fst = x.snd.fst.fst) then
 bif decide (x.fst.snd.fst = x.snd.fst.snd.fst) then
 Option.bind (F57 (x.fst.snd.snd.fst, x.snd.fst.snd.snd.fst, ())) fun b =>
 bif b.fst then
 bif decide (x.fst.snd.snd.snd.fst.fst = x.snd.fst.snd.snd.snd.fst.fst) then
 bif decide (x.fst.snd.snd.snd.fst.snd.fst = x.snd.fst.snd.snd.snd.fst.snd.fst) then
 Option.bind (F58 (x.fst.snd.snd.snd.fst.snd.snd.fst, x.snd.fst.snd.snd.snd.fst.snd.snd))
 fun b =>
 bif b.fst then
 bif decide (x.fst.snd.snd.snd.snd.fst = x.snd.fst.snd.snd.snd.snd.fst) then
 bif decide (x.fst.snd.snd.snd.snd.snd.fst = x.snd.fst.snd.snd.snd.snd.snd.fst) then
 bif decide (x.fst.snd.snd.snd.snd.snd.snd.fst = x.snd.fst.snd.snd.snd.snd.snd.snd.fst) then
 bif
 decide
 (x.fst.snd.snd.snd.snd.snd.snd.snd.fst = x.snd.fst.snd.snd.snd.snd.snd.snd.snd.fst) then
 bif
 decide
 (x.fst.snd.snd.snd.snd.snd.snd.snd.snd.fst =
 x.snd.fst.snd.snd.snd.snd.snd.snd.snd.snd.fst) then
 bif
 decide
 (x.fst.snd.snd.snd.snd.snd.snd.snd.snd.snd.fst =
 x.snd.fst.snd.snd.snd.snd.snd.snd.snd.snd.snd.fst) then
 bif
 decide
 (x.fst.snd.snd.snd.snd.snd.snd.snd.snd.snd.snd.fst =
 x.snd.fst.snd.snd.snd.snd.snd.snd.snd.snd.snd.snd.fst) then
 Option.bind
 (F59
 (x.fst.snd.snd.snd.snd.snd.snd.snd.snd.snd.snd.snd.fst,
 x.snd.fst.snd.snd.snd.snd.snd.snd.snd.snd.snd.snd.snd.fst, ()))
 fun b =>
 bif b.fst then
 Option.bind
 (F60
 (x.fst.snd.snd.snd.snd.snd.snd.snd.snd.snd.snd.snd.snd.fst,
 x.snd.fst.snd.snd.snd.snd.snd.snd.snd.snd.snd.snd.snd.snd.fst, ()))
 fun b =>
 bif b.fst then
 Option.bind
 (F61
 (x.fst.snd.snd.snd.snd.snd.snd.snd.snd.snd.snd.snd.snd.snd.fst,
 x.snd.fst.snd.snd.snd.snd.snd.snd.snd.snd.snd.snd.snd.snd.snd.fst,
 ()))
 fun b =>
 bif b.fst then
 bif
 x.fst.snd.snd.snd.snd.snd.snd.snd.snd.snd.snd.snd.snd.snd.snd.fst ==
 x.snd.fst.snd.snd.snd.snd.snd.snd.snd.snd.snd.snd.snd.snd.snd.snd.fst then
 Option.bind
 (F62
 (x.fst.snd.snd.snd.snd.snd.snd.snd.snd.snd.snd.snd.snd.snd.snd.snd.fst,
 x.snd.fst.snd.snd.snd.snd.snd.snd.snd.snd.snd.snd.snd.snd.snd.snd.snd.fst,
 ()))
 fun b =>
 bif b.fst then
 some
 (decide
 (x.fst.snd.snd.snd.snd.snd.snd.snd.snd.snd.snd.snd.snd.snd.snd.snd.snd.fst.fst =
 x.snd.fst.snd.snd.snd.snd.snd.snd.snd.snd.snd.snd.snd.snd.snd.snd.snd.snd.fst.fst) &&
 (decide
 (x.fst.snd.snd.snd.snd.snd.snd.snd.snd.snd.snd.snd.snd.snd.snd.snd.snd.fst.snd.fst =
 x.snd.fst.snd.snd.snd.snd.snd.snd.snd.snd.snd.snd.snd.snd.snd.snd.snd.snd.fst.snd.fst) &&
 (decide
 (x.fst.snd.snd.snd.snd.snd.snd.snd.snd.snd.snd.snd.snd.snd.snd.snd.snd.fst.snd.snd.fst =
 x.snd.fst.snd.snd.snd.snd.snd.snd.snd.snd.snd.snd.snd.snd.snd.snd.snd.snd.fst.snd.snd.fst) &&
 (decide
 (x.fst.snd.snd.snd.snd.snd.snd.snd.snd.snd.snd.snd.snd.snd.snd.snd.snd.fst.snd.snd.snd.fst =
 x.snd.fst.snd.snd.snd.snd.snd.snd.snd.snd.snd.snd.snd.snd.snd.snd.snd.snd.fst.snd.snd.snd.fst) &&
 (decide
 (x.fst.snd.snd.snd.snd.snd.snd.snd.snd.snd.snd.snd.snd.snd.snd.snd.snd.fst.snd.snd.snd.snd.fst =
 x.snd.fst.snd.snd.snd.snd.snd.snd.snd.snd.snd.snd.snd.snd.snd.snd.snd.snd.fst.snd.snd.snd.snd.fst) &&
 (decide
 (x.fst.snd.snd.snd.snd.snd.snd.snd.snd.snd.snd.snd.snd.snd.snd.snd.snd.fst.snd.snd.snd.snd.snd.fst =
 x.snd.fst.snd.snd.snd.snd.snd.snd.snd.snd.snd.snd.snd.snd.snd.snd.snd.snd.fst.snd.snd.snd.snd.snd.fst) &&
 (decide
 (x.fst.snd.snd.snd.snd.snd.snd.snd.snd.snd.snd.snd.snd.snd.snd.snd.snd.fst.snd.snd.snd.snd.snd.snd.fst =
 x.snd.fst.snd.snd.snd.snd.snd.snd.snd.snd.snd.snd.snd.snd.snd.snd.snd.snd.fst.snd.snd.snd.snd.snd.snd.fst) &&
 (decide
 (x.fst.snd.snd.snd.snd.snd.snd.snd.snd.snd.snd.snd.snd.snd.snd.snd.snd.fst.snd.snd.snd.snd.snd.snd.snd.fst =
 x.snd.fst.snd.snd.snd.snd.snd.snd.snd.snd.snd.snd.snd.snd.snd.snd.snd.snd.fst.snd.snd.snd.snd.snd.snd.snd.fst) &&
 (decide
 (x.fst.snd.snd.snd.snd.snd.snd.snd.snd.snd.snd.snd.snd.snd.snd.snd.snd.fst.snd.snd.snd.snd.snd.snd.snd.snd.fst =
 x.snd.fst.snd.snd.snd.snd.snd.snd.snd.snd.snd.snd.snd.snd.snd.snd.snd.snd.fst.snd.snd.snd.snd.snd.snd.snd.snd.fst) &&
 (decide
 (x.fst.snd.snd.snd.snd.snd.snd.snd.snd.snd.snd.snd.snd.snd.snd.snd.snd.fst.snd.snd.snd.snd.snd.snd.snd.snd.snd.fst =
 x.snd.fst.snd.snd.snd.snd.snd.snd.snd.snd.snd.snd.snd.snd.snd.snd.snd.snd.fst.snd.snd.snd.snd.snd.snd.snd.snd.snd.fst) &&
 true))))))))),
 ())
 else some (false, ())
 else some (false, ())
 else some (false, ())
 else some (false, ())
 else some (false, ())
 else some (false, ())
 else some (false, ())
 else some (false, ())
 else some (false, ())
 else some (false, ())
 else some (false, ())
 else some (false, ())
 else some (false, ())
 else some (false, ())
 else some (false, ())
 else some (false, ())
 else some (false, ())
 else some (false, ())
def S25 : Sig := ⟨P25, R25, F25⟩
noncomputable def E25 : Env := { tab := tab, nt := 142, Γ := lookG [(57, [S57]), (58, [S58]), (59, [S59]), (60, [S60]), (61, [S61]), (62, [S62])], joins := lookN [], loops := lookN [] }
theorem raw25_eq (x : TMD × TMD × Unit) : afun E25 Tryz.f25 P25 R25 x = F25 x := by kernel_rfl
-- decamp/talk.keep
def F76 (x : TMD × Unit) : Option (TMD × Unit) :=
 Option.bind
 (bif !decide (x.fst.fst = 1) then some (Sum.inl (x.fst.snd.fst, ())) else some (Sum.inl (0, ())))
 fun o =>
 Sum.elim
 (fun (x_1 : Int × Unit) =>
 Option.bind
 (bif decide (x.fst.fst = 1) then
 some
 (Sum.inl
 (x.fst.snd.snd.fst,
 (0, 0, (0, [], [], [], 0, 0, 0, [], [], [], 0, 0, 0, false, [], [], [], ()), ()), 0,
 [], [], 0, 0, 0, 0, (0, 0, false, 0, [], 0, 0, ()), [], [], false, (0, 0, [], [], ()),
 (0, 0, 0, [], [], 0, [], 0, 0, 0, ()), ()))
 else
 bif decide (x.fst.fst = 2) then
 some
 (Sum.inl
 ((0, 0, 0, 0, 0, 0, 0, 0, false, [], (0, 0, [], ()), ()), x.fst.snd.snd.snd.fst, 0,
 [], [], 0, 0, 0, 0, (0, 0, false, 0, [], 0, 0, ()), [], [], false,
 (0, 0, [], [], ()), (0, 0, 0, [], [], 0, [], 0, 0, 0, ()), ()))
 else
 bif decide (x.fst.fst = 3) then
 some
 (Sum.inl
 ((0, 0, 0, 0, 0, 0, 0, 0, false, [], (0, 0, [], ()), ()),
 (0, 0, (0, [], [], [], 0, 0, 0, [], [], [], 0, 0, 0, false, [], [], [], ()), ()),
 x.fst.snd.snd.snd.snd.fst, x.fst.snd.snd.snd.snd.snd.fst, x.fst.snd.snd.snd.snd.snd.snd.fst,
 x.fst.snd.snd.snd.snd.snd.snd.snd.fst, x.fst.snd.snd.snd.snd.snd.snd.snd.snd.fst, 0, 0,
 (0, 0, false, 0, [], 0, 0, ()), [], [], false, (0, 0, [], [], ()),
 (0, 0, 0, [], [], 0, [], 0, 0, 0, ()), ()))
 else
 bif decide (x.fst.fst = 4) then
 some
 (Sum.inl
 ((0, 0, 0, 0, 0, 0, 0, 0, false, [], (0, 0, [], ()), ()),
 (0, 0, (0, [], [], [], 0, 0, 0, [], [], [], 0, 0, 0, false, [], [], [], ()),
 ()),
 x.fst.snd.snd.snd.snd.fst, x.fst.snd.snd.snd.snd.snd.fst, x.fst.snd.snd.snd.snd.snd.snd.fst,
 x.fst.snd.snd.snd.snd.snd.snd.snd.fst, 0, 0, 0, (0, 0, false, 0, [], 0, 0, ()), [], [],
 false, (0, 0, [], [], ()), (0, 0, 0, [], [], 0, [], 0, 0, 0, ()), ()))
 else
 bif decide (x.fst.fst = 5) then
 some
 (Sum.inl
 ((0, 0, 0, 0, 0, 0, 0, 0, false, [], (0, 0, [], ()), ()),
 (0, 0, (0, [], [], [], 0, 0, 0, [], [], [], 0, 0, 0, false, [], [], [], ()),
 ()),
 0, x.fst.snd.snd.snd.snd.snd.fst, x.fst.snd.snd.snd.snd.snd.snd.fst,
 x.fst.snd.snd.snd.snd.snd.snd.snd.fst, 0, 0, 0, (0, 0, false, 0, [], 0, 0, ()), [],
 [], false, (0, 0, [], [], ()), (0, 0, 0, [], [], 0, [], 0, 0, 0, ()),
 ()))
 else
 bif decide (x.fst.fst = 6) then
 some
 (Sum.inl
 ((0, 0, 0, 0, 0, 0, 0, 0, false, [], (0, 0, [], ()), ()),
 (0, 0, (0, [], [], [], 0, 0, 0, [], [], [], 0, 0, 0, false, [], [], [], ()),
 ()),
 0, [], [], x.fst.snd.snd.snd.snd.snd.snd.snd.fst, 0, 0, 0,
 (0, 0, false, 0, [], 0, 0, ()), [], [], false, (0, 0, [], [], ()),
 (0, 0, 0, [], [], 0, [], 0, 0, 0, ()), ()))
 else
 bif decide (x.fst.fst = 8) then
 some
 (Sum.inl
 ((0, 0, 0, 0, 0, 0, 0, 0, false, [], (0, 0, [], ()), ()),
 (0, 0, (0, [], [], [], 0, 0, 0, [], [], [], 0, 0, 0, false, [], [], [], ()),
 ()),
 0, [], [], 0, 0, x.fst.snd.snd.snd.snd.snd.snd.snd.snd.snd.fst,
 x.fst.snd.snd.snd.snd.snd.snd.snd.snd.snd.snd.fst,
 x.fst.snd.snd.snd.snd.snd.snd.snd.snd.snd.snd.snd.fst, [], [], false,
 (0, 0, [], [], ()), (0, 0, 0, [], [], 0, [], 0, 0, 0, ()), ()))
 else
 bif decide (x.fst.fst = 9) then
 some
 (Sum.inl
 ((0, 0, 0, 0, 0, 0, 0, 0, false, [], (0, 0, [], ()), ()),
 (0, 0, (0, [], [], [], 0, 0, 0, [], [], [], 0, 0, 0, false, [], [], [], ()),
 ()),
 0, [], [], x.fst.snd.snd.snd.snd.snd.snd.snd.fst, 0,
 x.fst.snd.snd.snd.snd.snd.snd.snd.snd.snd.fst, 0,
 (0, 0, false, 0, [], 0, 0, ()),
 x.fst.snd.snd.snd.snd.snd.snd.snd.snd.snd.snd.snd.snd.fst, [], false,
 (0, 0, [], [], ()), (0, 0, 0, [], [], 0, [], 0, 0, 0, ()), ()))
 else
 bif decide (x.fst.fst = 10) then
 some
 (Sum.inl
 ((0, 0, 0, 0, 0, 0, 0, 0, false, [], (0, 0, [], ()), ()),
 (0, 0, (0, [], [], [], 0, 0, 0, [], [], [], 0, 0, 0, false, [], [], [], ()),
 ()),
 0, [], [], 0, 0, x.fst.snd.snd.snd.snd.snd.snd.snd.snd.snd.fst, 0,
 (0, 0, false, 0, [], 0, 0, ()), [],
 x.fst.snd.snd.snd.snd.snd.snd.snd.snd.snd.snd.snd.snd.snd.fst,
 x.fst.snd.snd.snd.snd.snd.snd.snd.snd.snd.snd.snd.snd.snd.snd.fst,
 (0, 0, [], [], ()), (0, 0, 0, [], [], 0, [], 0, 0, 0, ()),
 ()))
 else
 bif decide (x.fst.fst = 11) then
 some
 (Sum.inl
 ((0, 0, 0, 0, 0, 0, 0, 0, false, [], (0, 0, [], ()), ()),
 (0, 0, (0, [], [], [], 0, 0, 0, [], [], [], 0, 0, 0, false, [], [], [], ()),
 ()),
 0, [], [], 0, 0, x.fst.snd.snd.snd.snd.snd.snd.snd.snd.snd.fst, 0,
 (0, 0, false, 0, [], 0, 0, ()), [], [], false,
 x.fst.snd.snd.snd.snd.snd.snd.snd.snd.snd.snd.snd.snd.snd.snd.snd.fst,
 (0, 0, 0, [], [], 0, [], 0, 0, 0, ()), ()))
 else
 bif decide (x.fst.fst = 12) then
 some
 (Sum.inl
 ((0, 0, 0, 0, 0, 0, 0, 0, false, [], (0, 0, [], ()), ()),
 (0, 0,
 (0, [], [], [], 0, 0, 0, [], [], [], 0, 0, 0, false, [], [], [], ()),
 ()),
 0, [], [], x.fst.snd.snd.snd.snd.snd.snd.snd.fst, 0, 0, 0,
 (0, 0, false, 0, [], 0, 0, ()), [], [], false, (0, 0, [], [], ()),
 x.fst.snd.snd.snd.snd.snd.snd.snd.snd.snd.snd.snd.snd.snd.snd.snd.snd))
 else
 some
 (Sum.inl
 ((0, 0, 0, 0, 0, 0, 0, 0, false, [], (0, 0, [], ()), ()),
 (0, 0,
 (0, [], [], [], 0, 0, 0, [], [], [], 0, 0, 0, false, [], [], [], ()),
 ()),
 0, [], [], 0, 0, 0, 0, (0, 0, false, 0, [], 0, 0, ()), [], [], false,
 (0, 0, [], [], ()), (0, 0, 0, [], [], 0, [], 0, 0, 0, ()),
 ())))
 fun o =>
 Sum.elim
 (fun (x_2 :
 (Int × Int × Int × Int × Int × Int × Int × Int × Bool × List T25D × T25D × Unit) × (Int × Int × (Int × List UInt8 × List UInt8 × List UInt8 × Int × Int × Int × List T96D × List T48D × List T48D × Int × Int × Int × Bool × List
 T70D × List
 (Int × Int × (Int × Int × Bool × Int × List
 T70D × Int × Int × Unit) × Unit) × List T113D × Unit) × Unit) × Int × List UInt8 × List UInt8 × Int × Int × Int × Int × (Int × Int × Bool × Int × List
 T70D × Int × Int × Unit) × List
 (Int × List
 T70D × Unit) × List
 T70D × Bool × (Int × Int × List
 (Int × Int × (Int × Int × Bool × Int × List
 T70D × Int × Int × Unit) × Unit) × List T113D × Unit) × T53D × Unit) =>
 some ((x.fst.fst, x_1.fst, x_2), ()))
 (fun (val :
 (Int × Int × (Int × Int × Int × Int × Int × Int × Int × Int × Bool × List T25D × T25D × Unit) × (Int × Int × (Int × List UInt8 × List UInt8 × List UInt8 × Int × Int × Int × List T96D × List T48D × List T48D × Int × Int × Int × Bool × List
 T70D × List
 (Int × Int × (Int × Int × Bool × Int × List
 T70D × Int × Int × Unit) × Unit) × List T113D × Unit) × Unit) × Int × List UInt8 × List UInt8 × Int × Int × Int × Int × (Int × Int × Bool × Int × List
 T70D × Int × Int × Unit) × List
 (Int × List
 T70D × Unit) × List
 T70D × Bool × (Int × Int × List
 (Int × Int × (Int × Int × Bool × Int × List
 T70D × Int × Int × Unit) × Unit) × List T113D × Unit) × T53D × Unit) × Unit) =>
 some val)
 o)
 (fun (val :
 (Int × Int × (Int × Int × Int × Int × Int × Int × Int × Int × Bool × List T25D × T25D × Unit) × (Int × Int × (Int × List UInt8 × List UInt8 × List UInt8 × Int × Int × Int × List T96D × List T48D × List T48D × Int × Int × Int × Bool × List
 T70D × List
 (Int × Int × (Int × Int × Bool × Int × List
 T70D × Int × Int × Unit) × Unit) × List T113D × Unit) × Unit) × Int × List UInt8 × List UInt8 × Int × Int × Int × Int × (Int × Int × Bool × Int × List
 T70D × Int × Int × Unit) × List
 (Int × List
 T70D × Unit) × List
 T70D × Bool × (Int × Int × List
 (Int × Int × (Int × Int × Bool × Int × List
 T70D × Int × Int × Unit) × Unit) × List T113D × Unit) × T53D × Unit) × Unit) =>
 some val)
 o
def S76 : Sig := ⟨P76, R76, F76⟩
noncomputable def E76 : Env := { tab := tab, nt := 122, Γ := lookG [], joins := lookN [(4, ⟨[⟨.fld 1004000 1, (.int .i64), .pv⟩], [1, 2, 3], [.site 1004000, .fld 1004000 0, .fld 1004000 2, .fld 1004000 3, .fld 1004000 4, .fld 1004000 5, .fld 1004000 6, .fld 1004000 7, .fld 1004000 8, .fld 1004000 9, .fld 1004000 10, .fld 1004000 11, .fld 1004000 12, .fld 1004000 13, .fld 1004000 14, .fld 1004000 15, .fld 1004000 16, .site 2000, .fld 2000 0, .fld 2000 1, .fld 2000 2, .fld 2000 3, .fld 2000 4, .fld 2000 5, .fld 2000 6, .fld 2000 7, .fld 2000 8, .fld 2000 9, .fld 2000 10, .fld 2000 11, .fld 2000 12, .fld 2000 13, .fld 2000 14, .fld 2000 15, .fld 2000 16, .site 1000, .fld 1000 0, .fld 1000 1, .fld 1000 2, .fld 1000 3, .fld 1000 4, .fld 1000 5, .fld 1000 6, .fld 1000 7, .fld 1000 8, .fld 1000 9, .fld 1000 10, .fld 1000 11, .fld 1000 12, .fld 1000 13, .fld 1000 14, .fld 1000 15, .fld 1000 16]⟩), (27, ⟨[⟨.fld 1004000 2, T27, .pv⟩, ⟨.fld 1004000 3, T33, .pv⟩, ⟨.fld 1004000 4, (.int .i64), .pv⟩, ⟨.fld 1004000 5, .str, .pv⟩, ⟨.fld 1004000 6, .str, .pv⟩, ⟨.fld 1004000 7, (.int .i64), .pv⟩, ⟨.fld 1004000 8, (.int .i64), .pv⟩, ⟨.fld 1004000 9, (.int .i64), .pv⟩, ⟨.fld 1004000 10, (.int .i64), .pv⟩, ⟨.fld 1004000 11, T51, .pv⟩, ⟨.fld 1004000 12, (.slice TB), .pv⟩, ⟨.fld 1004000 13, (.slice T70), .pv⟩, ⟨.fld 1004000 14, .bool, .pv⟩, ⟨.fld 1004000 15, T55, .pv⟩, ⟨.fld 1004000 16, T53, .pv⟩], [2, 3], [.site 1004000, .fld 1004000 0, .fld 1004000 1, .site 2000, .fld 2000 0, .fld 2000 1, .fld 2000 2, .fld 2000 3, .fld 2000 4, .fld 2000 5, .fld 2000 6, .fld 2000 7, .fld 2000 8, .fld 2000 9, .fld 2000 10, .fld 2000 11, .fld 2000 12, .fld 2000 13, .fld 2000 14, .fld 2000 15, .fld 2000 16]⟩)], loops := lookN [] }
theorem raw76_eq (x : TMD × Unit) : afun E76 Tryz.f76 P76 R76 x = F76 x := by kernel_rfl
-- decamp/rmsg.keep
def F110 (x : T27D × Unit) : Option (T27D × Bool × Unit) :=
 Option.bind
 (bif decide (x.fst.fst = 1) then
 bif decide (x.fst.fst = 1) then
 some
 (Sum.inl
 (x.fst.snd.snd.snd.snd.fst, x.fst.snd.snd.snd.snd.snd.fst, 0, 0, false, [], (0, 0, [], ()), 0, 0, 0,
 0, 0, 0, 0, 0, false, [], (0, 0, [], ()), ()))
 else
 bif decide (x.fst.fst = 2) then
 bif decide (x.fst.fst = 2) then
 some
 (Sum.inl
 (0, 0, 0, 0, x.fst.snd.snd.snd.snd.snd.snd.snd.snd.fst, [], (0, 0, [], ()), 0, 0, 0, 0, 0, 0, 0,
 0, false, [], (0, 0, [], ()), ()))
 else
 bif decide (x.fst.fst = 5) then
 some
 (Sum.inl
 (x.fst.snd.snd.snd.snd.fst, x.fst.snd.snd.snd.snd.snd.fst, x.fst.snd.snd.snd.snd.snd.snd.fst,
 x.fst.snd.snd.snd.snd.snd.snd.snd.fst, false, x.fst.snd.snd.snd.snd.snd.snd.snd.snd.snd.fst,
 (0, 0, [], ()), 0, 0, 0, 0, 0, 0, 0, 0, false, [], (0, 0, [], ()), ()))
 else
 bif decide (x.fst.fst = 6) then
 some
 (Sum.inl
 (x.fst.snd.snd.snd.snd.fst, 0, 0, x.fst.snd.snd.snd.snd.snd.snd.snd.fst,
 x.fst.snd.snd.snd.snd.snd.snd.snd.snd.fst, [], (0, 0, [], ()), 0, 0, 0, 0, 0, 0, 0, 0,
 false, [], (0, 0, [], ()), ()))
 else
 bif decide (x.fst.fst = 7) then
 some
 (Sum.inl
 (0, 0, 0, 0, false, [], x.fst.snd.snd.snd.snd.snd.snd.snd.snd.snd.snd.fst, 0, 0, 0, 0, 0, 0, 0, 0,
 false, [], (0, 0, [], ()), ()))
 else
 some
 (Sum.inr
 ((0, 0, 0, 0, 0, 0, 0, 0, false, [], (0, 0, [], ()), ()), false, ()))
 else
 bif decide (x.fst.fst = 4) then
 some
 (Sum.inl
 (0, 0, 0, 0, x.fst.snd.snd.snd.snd.snd.snd.snd.snd.fst, [], (0, 0, [], ()), 0, 0, 0, 0, 0, 0, 0,
 0, false, [], (0, 0, [], ()), ()))
 else
 bif decide (x.fst.fst = 5) then
 some
 (Sum.inl
 (x.fst.snd.snd.snd.snd.fst, x.fst.snd.snd.snd.snd.snd.fst, x.fst.snd.snd.snd.snd.snd.snd.fst,
 x.fst.snd.snd.snd.snd.snd.snd.snd.fst, false, x.fst.snd.snd.snd.snd.snd.snd.snd.snd.snd.fst,
 (0, 0, [], ()), 0, 0, 0, 0, 0, 0, 0, 0, false, [], (0, 0, [], ()), ()))
 else
 bif decide (x.fst.fst = 6) then
 some
 (Sum.inl
 (x.fst.snd.snd.snd.snd.fst, 0, 0, x.fst.snd.snd.snd.snd.snd.snd.snd.fst,
 x.fst.snd.snd.snd.snd.snd.snd.snd.snd.fst, [], (0, 0, [], ()), 0, 0, 0, 0, 0, 0, 0, 0,
 false, [], (0, 0, [], ()), ()))
 else
 bif decide (x.fst.fst = 7) then
 some
 (Sum.inl
 (0, 0, 0, 0, false, [], x.fst.snd.snd.snd.snd.snd.snd.snd.snd.snd.snd.fst, 0, 0, 0, 0, 0, 0, 0, 0,
 false, [], (0, 0, [], ()), ()))
 else
 some
 (Sum.inr
 ((0, 0, 0, 0, 0, 0, 0, 0, false, [], (0, 0, [], ()), ()), false, ()))
 else
 bif decide (x.fst.fst = 3) then
 some
 (Sum.inl
 (x.fst.snd.snd.snd.snd.fst, x.fst.snd.snd.snd.snd.snd.fst, 0, 0, false, [], (0, 0, [], ()), 0, 0, 0,
 0, 0, 0, 0, 0, false, [], (0, 0, [], ()), ()))
 else
 bif decide (x.fst.fst = 2) then
 bif decide (x.fst.fst = 2) then
 some
 (Sum.inl
 (0, 0, 0, 0, x.fst.snd.snd.snd.snd.snd.snd.snd.snd.fst, [], (0, 0, [], ()), 0, 0, 0, 0, 0, 0, 0,
 0, false, [], (0, 0, [], ()), ()))
 else
 bif decide (x.fst.fst = 5) then
 some
 (Sum.inl
 (x.fst.snd.snd.snd.snd.fst, x.fst.snd.snd.snd.snd.snd.fst, x.fst.snd.snd.snd.snd.snd.snd.fst,
 x.fst.snd.snd.snd.snd.snd.snd.snd.fst, false, x.fst.snd.snd.snd.snd.snd.snd.snd.snd.snd.fst,
 (0, 0, [], ()), 0, 0, 0, 0, 0, 0, 0, 0, false, [], (0, 0, [], ()), ()))
 else
 bif decide (x.fst.fst = 6) then
 some
 (Sum.inl
 (x.fst.snd.snd.snd.snd.fst, 0, 0, x.fst.snd.snd.snd.snd.snd.snd.snd.fst,
 x.fst.snd.snd.snd.snd.snd.snd.snd.snd.fst, [], (0, 0, [], ()), 0, 0, 0, 0, 0, 0, 0, 0,
 false, [], (0, 0, [], ()), ()))
 else
 bif decide (x.fst.fst = 7) then
 some
 (Sum.inl
 (0, 0, 0, 0, false, [], x.fst.snd.snd.snd.snd.snd.snd.snd.snd.snd.snd.fst, 0, 0, 0, 0, 0, 0, 0, 0,
 false, [], (0, 0, [], ()), ()))
 else
 some
 (Sum.inr
 ((0, 0, 0, 0, 0, 0, 0, 0, false, [], (0, 0, [], ()), ()), false, ()))
 else
 bif decide (x.fst.fst = 4) then
 some
 (Sum.inl
 (0, 0, 0, 0, x.fst.snd.snd.snd.snd.snd.snd.snd.snd.fst, [], (0, 0, [], ()), 0, 0, 0, 0, 0, 0, 0,
 0, false, [], (0, 0, [], ()), ()))
 else
 bif decide (x.fst.fst = 5) then
 some
 (Sum.inl
 (x.fst.snd.snd.snd.snd.fst, x.fst.snd.snd.snd.snd.snd.fst, x.fst.snd.snd.snd.snd.snd.snd.fst,
 x.fst.snd.snd.snd.snd.snd.snd.snd.fst, false, x.fst.snd.snd.snd.snd.snd.snd.snd.snd.snd.fst,
 (0, 0, [], ()), 0, 0, 0, 0, 0, 0, 0, 0, false, [], (0, 0, [], ()), ()))
 else
 bif decide (x.fst.fst = 6) then
 some
 (Sum.inl
 (x.fst.snd.snd.snd.snd.fst, 0, 0, x.fst.snd.snd.snd.snd.snd.snd.snd.fst,
 x.fst.snd.snd.snd.snd.snd.snd.snd.snd.fst, [], (0, 0, [], ()), 0, 0, 0, 0, 0, 0, 0, 0,
 false, [], (0, 0, [], ()), ()))
 else
 bif decide (x.fst.fst = 7) then
 some
 (Sum.inl
 (0, 0, 0, 0, false, [], x.fst.snd.snd.snd.snd.snd.snd.snd.snd.snd.snd.fst, 0, 0, 0, 0, 0, 0, 0, 0,
 false, [], (0, 0, [], ()), ()))
 else
 some
 (Sum.inr
 ((0, 0, 0, 0, 0, 0, 0, 0, false, [], (0, 0, [], ()), ()), false, ())))
 fun o =>
 Sum.elim
 (fun (x_1 :
 Int × Int × Int × Int × Bool × List T25D × T25D × Int × Int × Int × Int × Int × Int × Int × Int × Bool × List T25D × T25D × Unit) =>
 some
 ((x.fst.fst, x.fst.snd.fst, x.fst.snd.snd.fst, x.fst.snd.snd.snd.fst, x_1.fst, x_1.snd.fst, x_1.snd.snd.fst,
 x_1.snd.snd.snd.fst, x_1.snd.snd.snd.snd.fst, x_1.snd.snd.snd.snd.snd.fst,
 x_1.snd.snd.snd.snd.snd.snd.fst, ()),
 true, ()))
 (fun (val :
 (Int × Int × Int × Int × Int × Int × Int × Int × Bool × List T25D × T25D × Unit) × Bool × Unit) =>
 some val)
 o
def S110 : Sig := ⟨P110, R110, F110⟩
noncomputable def E110 : Env := { tab := tab, nt := 66, Γ := lookG [], joins := lookN [(16, ⟨[⟨.fld 1010000 4, (.int .i64), .pv⟩, ⟨.fld 1010000 5, (.int .i64), .pv⟩, ⟨.fld 1010000 6, (.int .i64), .pv⟩, ⟨.fld 1010000 7, (.int .i64), .pv⟩, ⟨.fld 1010000 8, .bool, .pv⟩, ⟨.fld 1010000 9, (.slice T25), .pv⟩, ⟨.fld 1010000 10, T25, .pv⟩, ⟨.fld 2000 0, (.int .i64), .pv⟩, ⟨.fld 2000 1, (.int .i64), .pv⟩, ⟨.fld 2000 2, (.int .i64), .pv⟩, ⟨.fld 2000 3, (.int .i64), .pv⟩, ⟨.fld 2000 4, (.int .i64), .pv⟩, ⟨.fld 2000 5, (.int .i64), .pv⟩, ⟨.fld 2000 6, (.int .i64), .pv⟩, ⟨.fld 2000 7, (.int .i64), .pv⟩, ⟨.fld 2000 8, .bool, .pv⟩, ⟨.fld 2000 9, (.slice T25), .own false⟩, ⟨.fld 2000 10, T25, .pv⟩], [2, 4], [.site 1010000, .fld 1010000 0, .fld 1010000 1, .fld 1010000 2, .fld 1010000 3, .site 2000]⟩)], loops := lookN [] }
theorem raw110_eq (x : T27D × Unit) : afun E110 Tryz.f110 P110 R110 x = F110 x := by kernel_rfl
-- decamp/rmsg.node
def F111 (x : Int × Unit) : Option (Bool × Unit) := bif decide (0 ≤ x.fst) then some (decide (x.fst < 3), ()) else some (false, ())
def S111 : Sig := ⟨P111, R111, F111⟩
noncomputable def E111 : Env := { tab := tab, nt := 9, Γ := lookG [], joins := lookN [], loops := lookN [] }
theorem raw111_eq (x : Int × Unit) : afun E111 Tryz.f111 P111 R111 x = F111 x := by kernel_rfl
-- decamp/rmsg.numbers
def F112 (x : List Int × Unit) : Option (Bool × Unit) :=
 iterE (Int × Unit) (Bool × Unit)
 (fun (x_1 : Int × Unit) =>
 bif decide (x_1.fst < Int.ofNat (List.length x.fst)) then
 Option.bind (idx x.fst x_1.fst) fun b =>
 bif decide (b < 0) then some (Sum.inr (false, ()))
 else
 bif decide (1099511627776 < b) then some (Sum.inr (false, ()))
 else some (Sum.inl (wrap64 (x_1.fst + 1), ()))
 else some (Sum.inr (true, ())))
 big (0, ())
def S112 : Sig := ⟨P112, R112, F112⟩
noncomputable def E112 : Env := { tab := tab, nt := 18, Γ := lookG [], joins := lookN [], loops := lookN [(2, mkLoop ⟨[⟨.slot 7, (.int .i64), .pv⟩], [5, 6], []⟩)] }
theorem raw112_eq (x : List Int × Unit) : afun E112 Tryz.f112 P112 R112 x = F112 x := by kernel_rfl
-- decamp/entry.number
def F138 (x : Int × Unit) : Option (Bool × Unit) :=
 bif decide (1 ≤ x.fst) then some (decide (x.fst ≤ 1099511627776), ()) else some (false, ())
def S138 : Sig := ⟨P138, R138, F138⟩
noncomputable def E138 : Env := { tab := tab, nt := 9, Γ := lookG [], joins := lookN [], loops := lookN [] }
theorem raw138_eq (x : Int × Unit) : afun E138 Tryz.f138 P138 R138 x = F138 x := by kernel_rfl
-- decamp/entry.Right
def F137 (x : T25D × Unit) : Option (Bool × Unit) :=
 Option.bind (F138 (x.fst.fst, ())) fun b =>
 bif b.fst then
 Option.bind (F138 (x.fst.snd.fst, ())) fun b =>
 bif b.fst then some (decide (Int.ofNat (List.length x.fst.snd.snd.fst) ≤ 12000), ())
 else some (false, ())
 else some (false, ())
def S137 : Sig := ⟨P137, R137, F137⟩
noncomputable def E137 : Env := { tab := tab, nt := 17, Γ := lookG [(138, [S138])], joins := lookN [], loops := lookN [] }
theorem raw137_eq (x : T25D × Unit) : afun E137 Tryz.f137 P137 R137 x = F137 x := by kernel_rfl
-- decamp/entry.Run
def F113 (x : Int × Int × List T25D × Unit) : Option (Bool × Unit) :=
 iterE T113D (Bool × Unit)
 (fun (x_1 : T113D) =>
 bif decide (x_1.snd.snd.fst < Int.ofNat (List.length x.snd.snd.fst)) then
 Option.bind (idx x.snd.snd.fst x_1.snd.snd.fst) fun b =>
 Option.bind (F137 (b, ())) fun b_1 =>
 bif !b_1.fst then some (Sum.inr (false, ()))
 else
 bif !decide (wrap64 (b.fst - 1) = x_1.fst) then some (Sum.inr (false, ()))
 else
 bif decide (b.snd.fst < x_1.snd.fst) then some (Sum.inr (false, ()))
 else some (Sum.inl (b.fst, b.snd.fst, wrap64 (x_1.snd.snd.fst + 1), ()))
 else some (Sum.inr (true, ())))
 big (x.fst, x.snd.fst, 0, ())
def S113 : Sig := ⟨P113, R113, F113⟩
noncomputable def E113 : Env := { tab := tab, nt := 36, Γ := lookG [(137, [S137])], joins := lookN [], loops := lookN [(2, mkLoop ⟨[⟨.slot 0, (.int .i64), .pv⟩, ⟨.slot 1, (.int .i64), .pv⟩, ⟨.slot 11, (.int .i64), .pv⟩], [9, 10], []⟩)] }
theorem raw113_eq (x : Int × Int × List T25D × Unit) : afun E113 Tryz.f113 P113 R113 x = F113 x := by kernel_rfl
-- decamp/entry.RightSnap
def F114 (x : T25D × Unit) : Option (Bool × Unit) :=
 Option.bind
 (bif decide (x.fst.fst = 0) then
 bif decide (x.fst.snd.fst = 0) then
 some (Sum.inr (decide (Int.ofNat (List.length x.fst.snd.snd.fst) = 0), ()))
 else some (Sum.inl ())
 else some (Sum.inl ()))
 fun o =>
 Sum.elim
 (fun (_z : Unit) =>
 Option.bind (F138 (x.fst.fst, ())) fun b =>
 bif b.fst then
 Option.bind (F138 (x.fst.snd.fst, ())) fun b =>
 bif b.fst then some (decide (Int.ofNat (List.length x.fst.snd.snd.fst) ≤ 50000), ())
 else some (false, ())
 else some (false, ()))
 (fun (val : Bool × Unit) => some val) o
def S114 : Sig := ⟨P114, R114, F114⟩
noncomputable def E114 : Env := { tab := tab, nt := 29, Γ := lookG [(138, [S138])], joins := lookN [(3, ⟨[], [1], [.site 1000, .fld 1000 0, .fld 1000 1, .fld 1000 2]⟩)], loops := lookN [] }
theorem raw114_eq (x : T25D × Unit) : afun E114 Tryz.f114 P114 R114 x = F114 x := by kernel_rfl
-- decamp/rmsg.Right
def F77 (x : T27D × Unit) : Option (Bool × Unit) :=
 Option.bind (F110 x)
 fun b =>
 bif !b.snd.fst then some (false, ())
 else
 Option.bind (F57 (b.fst, x)) fun b =>
 bif !b.fst then some (false, ())
 else
 Option.bind (F111 (x.fst.snd.fst, ())) fun b =>
 bif !b.fst then some (false, ())
 else
 Option.bind (F111 (x.fst.snd.snd.fst, ())) fun b =>
 bif !b.fst then some (false, ())
 else
 bif decide (x.fst.snd.fst = x.fst.snd.snd.fst) then some (false, ())
 else
 bif decide (x.fst.snd.snd.snd.fst < 1) then some (false, ())
 else
 Option.bind
 (F112
 ([x.fst.snd.snd.snd.fst, x.fst.snd.snd.snd.snd.fst, x.fst.snd.snd.snd.snd.snd.fst,
 x.fst.snd.snd.snd.snd.snd.snd.fst, x.fst.snd.snd.snd.snd.snd.snd.snd.fst],
 ()))
 fun b =>
 bif !b.fst then some (false, ())
 else
 bif decide (4 < Int.ofNat (List.length x.fst.snd.snd.snd.snd.snd.snd.snd.snd.snd.fst)) then
 some (false, ())
 else
 Option.bind
 (F113
 (x.fst.snd.snd.snd.snd.fst, x.fst.snd.snd.snd.snd.snd.fst,
 x.fst.snd.snd.snd.snd.snd.snd.snd.snd.snd.fst, ()))
 fun b =>
 bif !b.fst then some (false, ())
 else
 iterE (Int × Unit) (Bool × Unit)
 (fun (x_1 : Int × Unit) =>
 bif
 decide
 (x_1.fst <
 Int.ofNat (List.length x.fst.snd.snd.snd.snd.snd.snd.snd.snd.snd.fst)) then
 Option.bind (idx x.fst.snd.snd.snd.snd.snd.snd.snd.snd.snd.fst x_1.fst)
 fun b =>
 bif decide (x.fst.snd.snd.snd.fst < b.snd.fst) then
 some (Sum.inr (false, ()))
 else some (Sum.inl (wrap64 (x_1.fst + 1), ()))
 else
 Option.map Sum.inr
 (bif !decide (x.fst.fst = 7) then some (true, ())
 else
 Option.bind (F114 x.fst.snd.snd.snd.snd.snd.snd.snd.snd.snd.snd)
 fun b =>
 bif b.fst then
 some
 (decide (0 < x.fst.snd.snd.snd.snd.snd.snd.snd.snd.snd.snd.fst.fst),
 ())
 else some (false, ())))
 big (0, ())
def S77 : Sig := ⟨P77, R77, F77⟩
noncomputable def E77 : Env := { tab := tab, nt := 100, Γ := lookG [(57, [S57]), (110, [S110]), (111, [S111]), (112, [S112]), (113, [S113]), (114, [S114])], joins := lookN [], loops := lookN [(7, mkLoop ⟨[⟨.slot 76, (.int .i64), .pv⟩], [1, 74, 75], [.site 1000, .fld 1000 0, .fld 1000 1, .fld 1000 2, .fld 1000 3, .fld 1000 4, .fld 1000 5, .fld 1000 6, .fld 1000 7, .fld 1000 8, .fld 1000 9, .fld 1000 10]⟩)] }
theorem raw77_eq (x : T27D × Unit) : afun E77 Tryz.f77 P77 R77 x = F77 x := by kernel_rfl
-- decamp/talk.within
def F78 (x : Int × Int × Int × Unit) : Option (Bool × Unit) :=
 bif decide (x.snd.fst ≤ x.fst) then some (decide (x.fst ≤ x.snd.snd.fst), ()) else some (false, ())
def S78 : Sig := ⟨P78, R78, F78⟩
noncomputable def E78 : Env := { tab := tab, nt := 15, Γ := lookG [], joins := lookN [], loops := lookN [] }
theorem raw78_eq (x : Int × Int × Int × Unit) : afun E78 Tryz.f78 P78 R78 x = F78 x := by kernel_rfl
-- decamp/index.text
def F142 (x : List UInt8 × UInt8 × Unit) : Option (Bool × Unit) :=
 bif decide (Int.ofNat (List.length x.fst) < 1) then some (false, ())
 else
 bif decide (32 < Int.ofNat (List.length x.fst)) then some (false, ())
 else
 iterE (Int × Unit) (Bool × Unit)
 (fun (x_1 : Int × Unit) =>
 bif decide (x_1.fst < Int.ofNat (List.length x.fst)) then
 Option.bind (idx x.fst x_1.fst) fun b =>
 bif decide (intOf8 b < intOf8 (UInt8.ofNat 33)) then some (Sum.inr (false, ()))
 else
 Option.bind (idx x.fst x_1.fst) fun b =>
 bif decide (intOf8 x.snd.fst < intOf8 b) then some (Sum.inr (false, ()))
 else some (Sum.inl (wrap64 (x_1.fst + 1), ()))
 else some (Sum.inr (true, ())))
 big (0, ())
def S142 : Sig := ⟨P142, R142, F142⟩
noncomputable def E142 : Env := { tab := tab, nt := 31, Γ := lookG [], joins := lookN [], loops := lookN [(4, mkLoop ⟨[⟨.slot 16, (.int .i64), .pv⟩], [0, 1, 15], []⟩)] }
theorem raw142_eq (x : List UInt8 × UInt8 × Unit) : afun E142 Tryz.f142 P142 R142 x = F142 x := by kernel_rfl
-- decamp/index.Key
def F118 (x : List UInt8 × Unit) : Option (Bool × Unit) := Option.bind (F142 (x.fst, UInt8.ofNat 126, ())) fun b => some b
def S118 : Sig := ⟨P118, R118, F118⟩
noncomputable def E118 : Env := { tab := tab, nt := 5, Γ := lookG [(142, [S142])], joins := lookN [], loops := lookN [] }
theorem raw118_eq (x : List UInt8 × Unit) : afun E118 Tryz.f118 P118 R118 x = F118 x := by kernel_rfl
-- decamp/cmd.Prefix
def F117 (x : List UInt8 × Unit) : Option (Bool × Unit) :=
 bif decide (Int.ofNat (List.length x.fst) ≤ 8) then Option.bind (F118 x) fun b => some b
 else some (false, ())
def S117 : Sig := ⟨P117, R117, F117⟩
noncomputable def E117 : Env := { tab := tab, nt := 10, Γ := lookG [(118, [S118])], joins := lookN [], loops := lookN [] }
theorem raw117_eq (x : List UInt8 × Unit) : afun E117 Tryz.f117 P117 R117 x = F117 x := by kernel_rfl
-- decamp/cmd.within
def F140 (x : Int × Int × Int × Unit) : Option (Bool × Unit) :=
 bif decide (x.snd.fst ≤ x.fst) then some (decide (x.fst ≤ x.snd.snd.fst), ()) else some (false, ())
def S140 : Sig := ⟨P140, R140, F140⟩
noncomputable def E140 : Env := { tab := tab, nt := 15, Γ := lookG [], joins := lookN [], loops := lookN [] }
theorem raw140_eq (x : Int × Int × Int × Unit) : afun E140 Tryz.f140 P140 R140 x = F140 x := by kernel_rfl
-- decamp/cmd.positive$1
def F157 (x : Int × Unit) : Option (Bool × Unit) :=
 Option.bind (F140 (x.fst, 1, 1099511627776, ())) fun b => some (!b.fst, ())
def S157 : Sig := ⟨P157, R157, F157⟩
noncomputable def E157 : Env := { tab := tab, nt := 6, Γ := lookG [(140, [S140])], joins := lookN [], loops := lookN [] }
theorem raw157_eq (x : Int × Unit) : afun E157 Tryz.f157 P157 R157 x = F157 x := by kernel_rfl
-- slices.IndexFunc[[]int64,int64]
def F166a (x : List Int × Unit) : Option (Int × Unit) :=
 iterE (Int × Unit) (Int × Unit)
 (fun (x_1 : Int × Unit) =>
 bif decide (x_1.fst < Int.ofNat (List.length x.fst)) then
 Option.bind (idx x.fst x_1.fst) fun b =>
 Option.bind (F157 (b, ())) fun b =>
 bif b.fst then some (Sum.inr x_1) else some (Sum.inl (wrap64 (x_1.fst + 1), ()))
 else some (Sum.inr (-1, ())))
 big (0, ())
def S166a : Sig := ⟨P166a, R166a, F166a⟩
noncomputable def E166a : Env := { tab := tab, nt := 19, Γ := lookG [(157, [S157])], joins := lookN [], loops := lookN [(2, mkLoop ⟨[⟨.slot 8, (.int .i64), .pv⟩], [0, 1, 7], []⟩)] }
theorem raw166a_eq (x : List Int × Unit) : afun E166a Tryz.f166 P166a R166a x = F166a x := by kernel_rfl
-- slices.ContainsFunc[[]int64,int64]
def F156a (x : List Int × Unit) : Option (Bool × Unit) := Option.bind (F166a x) fun b => some (decide (0 ≤ b.fst), ())
def S156a : Sig := ⟨P156a, R156a, F156a⟩
noncomputable def E156a : Env := { tab := tab, nt := 9, Γ := lookG [(157, [S157]), (166, [S166a])], joins := lookN [], loops := lookN [] }
theorem raw156a_eq (x : List Int × Unit) : afun E156a Tryz.f156 P156a R156a x = F156a x := by kernel_rfl
-- decamp/cmd.positive
def F141 (x : List Int × Unit) : Option (Bool × Unit) := Option.bind (F156a x) fun b => some (!b.fst, ())
def S141 : Sig := ⟨P141, R141, F141⟩
noncomputable def E141 : Env := { tab := tab, nt := 6, Γ := lookG [(156, [S156a]), (157, [S157])], joins := lookN [], loops := lookN [] }
theorem raw141_eq (x : List Int × Unit) : afun E141 Tryz.f141 P141 R141 x = F141 x := by kernel_rfl
-- decamp/cmd.natural$1
def F158 (x : Int × Unit) : Option (Bool × Unit) :=
 Option.bind (F140 (x.fst, 0, 1099511627776, ())) fun b => some (!b.fst, ())
def S158 : Sig := ⟨P158, R158, F158⟩
noncomputable def E158 : Env := { tab := tab, nt := 6, Γ := lookG [(140, [S140])], joins := lookN [], loops := lookN [] }
theorem raw158_eq (x : Int × Unit) : afun E158 Tryz.f158 P158 R158 x = F158 x := by kernel_rfl
-- slices.IndexFunc[[]int64,int64]
def F166b (x : List Int × Unit) : Option (Int × Unit) :=
 iterE (Int × Unit) (Int × Unit)
 (fun (x_1 : Int × Unit) =>
 bif decide (x_1.fst < Int.ofNat (List.length x.fst)) then
 Option.bind (idx x.fst x_1.fst) fun b =>
 Option.bind (F158 (b, ())) fun b =>
 bif b.fst then some (Sum.inr x_1) else some (Sum.inl (wrap64 (x_1.fst + 1), ()))
 else some (Sum.inr (-1, ())))
 big (0, ())
def S166b : Sig := ⟨P166b, R166b, F166b⟩
noncomputable def E166b : Env := { tab := tab, nt := 19, Γ := lookG [(158, [S158])], joins := lookN [], loops := lookN [(2, mkLoop ⟨[⟨.slot 8, (.int .i64), .pv⟩], [0, 1, 7], []⟩)] }
theorem raw166b_eq (x : List Int × Unit) : afun E166b Tryz.f166 P166b R166b x = F166b x := by kernel_rfl
-- slices.ContainsFunc[[]int64,int64]
def F156b (x : List Int × Unit) : Option (Bool × Unit) := Option.bind (F166b x) fun b => some (decide (0 ≤ b.fst), ())
def S156b : Sig := ⟨P156b, R156b, F156b⟩
noncomputable def E156b : Env := { tab := tab, nt := 9, Γ := lookG [(158, [S158]), (166, [S166a, S166b])], joins := lookN [], loops := lookN [] }
theorem raw156b_eq (x : List Int × Unit) : afun E156b Tryz.f156 P156b R156b x = F156b x := by kernel_rfl
-- decamp/cmd.natural
def F143 (x : List Int × Unit) : Option (Bool × Unit) := Option.bind (F156b x) fun b => some (!b.fst, ())
def S143 : Sig := ⟨P143, R143, F143⟩
noncomputable def E143 : Env := { tab := tab, nt := 6, Γ := lookG [(156, [S156a, S156b]), (158, [S158])], joins := lookN [], loops := lookN [] }
theorem raw143_eq (x : List Int × Unit) : afun E143 Tryz.f143 P143 R143 x = F143 x := by kernel_rfl
-- decamp/hist.number
def F167 (x : Int × Unit) : Option (Bool × Unit) :=
 bif decide (1 ≤ x.fst) then some (decide (x.fst ≤ 1099511627776), ()) else some (false, ())
def S167 : Sig := ⟨P167, R167, F167⟩
noncomputable def E167 : Env := { tab := tab, nt := 9, Γ := lookG [], joins := lookN [], loops := lookN [] }
theorem raw167_eq (x : Int × Unit) : afun E167 Tryz.f167 P167 R167 x = F167 x := by kernel_rfl
-- decamp/hist.right
def F160 (x : T66D × Unit) : Option (Bool × Unit) :=
 Option.bind (F167 (x.fst.fst, ())) fun b =>
 bif !b.fst then some (false, ())
 else
 Option.bind (F167 (x.fst.snd.snd.fst, ())) fun b =>
 bif !b.fst then some (false, ())
 else
 bif x.fst.snd.snd.snd.snd.snd.snd.fst then
 bif decide (x.fst.snd.fst = 0) then
 bif decide (x.fst.snd.snd.snd.fst = 0) then
 bif decide (x.fst.snd.snd.snd.snd.snd.fst = 0) then
 some (decide (x.fst.snd.snd.snd.snd.fst = []), ())
 else some (false, ())
 else some (false, ())
 else some (false, ())
 else
 bif decide (1 ≤ x.fst.snd.fst) then
 bif decide (x.fst.snd.fst ≤ x.fst.snd.snd.fst) then
 Option.bind (F167 (x.fst.snd.snd.snd.fst, ())) fun b =>
 bif b.fst then
 bif decide (Int.ofNat (List.length x.fst.snd.snd.snd.snd.fst) ≤ 40) then
 bif decide (-1099511627776 ≤ x.fst.snd.snd.snd.snd.snd.fst) then
 some (decide (x.fst.snd.snd.snd.snd.snd.fst ≤ 1099511627776), ())
 else some (false, ())
 else some (false, ())
 else some (false, ())
 else some (false, ())
 else some (false, ())
def S160 : Sig := ⟨P160, R160, F160⟩
noncomputable def E160 : Env := { tab := tab, nt := 64, Γ := lookG [(167, [S167])], joins := lookN [], loops := lookN [] }
theorem raw160_eq (x : T66D × Unit) : afun E160 Tryz.f160 P160 R160 x = F160 x := by kernel_rfl
-- decamp/hist.Right
def F148 (x : List T66D × Unit) : Option (Bool × Unit) :=
 iterE (Int × Unit) (Bool × Unit)
 (fun (x_1 : Int × Unit) =>
 bif decide (x_1.fst < Int.ofNat (List.length x.fst)) then
 Option.bind (idx x.fst x_1.fst) fun b =>
 Option.bind (F160 (b, ())) fun b_1 =>
 bif !b_1.fst then some (Sum.inr (false, ()))
 else
 bif decide (0 < x_1.fst) then
 Option.bind (idx x.fst (wrap64 (x_1.fst - 1)))
 fun b_2 =>
 bif decide (b.fst ≤ b_2.fst) then some (Sum.inr (false, ()))
 else
 Option.bind (idx x.fst (wrap64 (x_1.fst - 1)))
 fun b_3 =>
 bif decide (b.snd.snd.fst ≤ b_3.snd.snd.fst) then some (Sum.inr (false, ()))
 else some (Sum.inl (wrap64 (x_1.fst + 1), ()))
 else some (Sum.inl (wrap64 (x_1.fst + 1), ()))
 else some (Sum.inr (true, ())))
 big (0, ())
def S148 : Sig := ⟨P148, R148, F148⟩
noncomputable def E148 : Env := { tab := tab, nt := 42, Γ := lookG [(160, [S160])], joins := lookN [], loops := lookN [(2, mkLoop ⟨[⟨.slot 7, (.int .i64), .pv⟩], [0, 5, 6], []⟩)] }
theorem raw148_eq (x : List T66D × Unit) : afun E148 Tryz.f148 P148 R148 x = F148 x := by kernel_rfl
-- decamp/cmd.version
def F146 (x : T66D × Unit) : Option (Bool × Unit) :=
 Option.bind (F148 ([x.fst], ())) fun b => some b
def S146 : Sig := ⟨P146, R146, F146⟩
noncomputable def E146 : Env := { tab := tab, nt := 6, Γ := lookG [(148, [S148])], joins := lookN [], loops := lookN [] }
theorem raw146_eq (x : T66D × Unit) : afun E146 Tryz.f146 P146 R146 x = F146 x := by kernel_rfl
-- decamp/cmd.RightReply$1
def F145 (x : T70D × Unit) : Option (Bool × Unit) :=
 Option.bind (F118 (x.fst.fst, ())) fun b =>
 bif !b.fst then some (true, ())
 else Option.bind (F146 x.fst.snd) fun b => some (!b.fst, ())
def S145 : Sig := ⟨P145, R145, F145⟩
noncomputable def E145 : Env := { tab := tab, nt := 13, Γ := lookG [(118, [S118]), (146, [S146])], joins := lookN [], loops := lookN [] }
theorem raw145_eq (x : T70D × Unit) : afun E145 Tryz.f145 P145 R145 x = F145 x := by kernel_rfl
-- slices.IndexFunc[[]decamp/api.Item,decamp/api.Item]
def F159a (x : List T70D × Unit) : Option (Int × Unit) :=
 iterE (Int × Unit) (Int × Unit)
 (fun (x_1 : Int × Unit) =>
 bif decide (x_1.fst < Int.ofNat (List.length x.fst)) then
 Option.bind (idx x.fst x_1.fst)
 fun b =>
 Option.bind (F145 (b, ())) fun b =>
 bif b.fst then some (Sum.inr x_1) else some (Sum.inl (wrap64 (x_1.fst + 1), ()))
 else some (Sum.inr (-1, ())))
 big (0, ())
def S159a : Sig := ⟨P159a, R159a, F159a⟩
noncomputable def E159a : Env := { tab := tab, nt := 19, Γ := lookG [(145, [S145])], joins := lookN [], loops := lookN [(2, mkLoop ⟨[⟨.slot 8, (.int .i64), .pv⟩], [0, 1, 7], []⟩)] }
theorem raw159a_eq (x : List T70D × Unit) : afun E159a Tryz.f159 P159a R159a x = F159a x := by kernel_rfl
-- slices.ContainsFunc[[]decamp/api.Item,decamp/api.Item]
def F144a (x : List T70D × Unit) : Option (Bool × Unit) :=
 Option.bind (F159a x) fun b => some (decide (0 ≤ b.fst), ())
def S144a : Sig := ⟨P144a, R144a, F144a⟩
noncomputable def E144a : Env := { tab := tab, nt := 9, Γ := lookG [(145, [S145]), (159, [S159a])], joins := lookN [], loops := lookN [] }
theorem raw144a_eq (x : List T70D × Unit) : afun E144a Tryz.f144 P144a R144a x = F144a x := by kernel_rfl
-- decamp/cmd.RightReply
def F119 (x : T51D × Unit) : Option (Bool × Unit) :=
 bif decide (x.fst.fst < 0) then some (false, ())
 else
 bif decide (15 < x.fst.fst) then some (false, ())
 else
 Option.bind (F143 ([x.fst.snd.fst, x.fst.snd.snd.snd.fst, x.fst.snd.snd.snd.snd.snd.snd.fst], ()))
 fun b =>
 bif !b.fst then some (false, ())
 else
 bif decide (x.fst.snd.snd.snd.snd.snd.fst < 0) then some (false, ())
 else
 bif decide (1 < x.fst.snd.snd.snd.snd.snd.fst) then some (false, ())
 else
 bif decide (8 < Int.ofNat (List.length x.fst.snd.snd.snd.snd.fst)) then some (false, ())
 else
 Option.bind (F144a (x.fst.snd.snd.snd.snd.fst, ())) fun b =>
 some (!b.fst, ())
def S119 : Sig := ⟨P119, R119, F119⟩
noncomputable def E119 : Env := { tab := tab, nt := 42, Γ := lookG [(143, [S143]), (144, [S144a]), (145, [S145])], joins := lookN [], loops := lookN [] }
theorem raw119_eq (x : T51D × Unit) : afun E119 Tryz.f119 P119 R119 x = F119 x := by kernel_rfl
-- decamp/cmd.rightSess
def F161 (x : List T94D × Int × Unit) : Option (Bool × Unit) :=
 iterE (Int × Unit) (Bool × Unit)
 (fun (x_1 : Int × Unit) =>
 bif decide (x_1.fst < Int.ofNat (List.length x.fst)) then
 Option.bind (idx x.fst x_1.fst)
 fun b =>
 Option.bind (F140 (b.fst, 1, x.snd)) fun b_1 =>
 bif !b_1.fst then some (Sum.inr (false, ()))
 else
 Option.bind (F141 ([b.snd.fst], ())) fun b_2 =>
 bif !b_2.fst then some (Sum.inr (false, ()))
 else
 Option.bind (F119 b.snd.snd) fun b_3 =>
 bif !b_3.fst then some (Sum.inr (false, ()))
 else
 bif decide (0 < x_1.fst) then
 Option.bind (idx x.fst (wrap64 (x_1.fst - 1)))
 fun b_4 =>
 bif decide (b.fst ≤ b_4.fst) then some (Sum.inr (false, ()))
 else some (Sum.inl (wrap64 (x_1.fst + 1), ()))
 else some (Sum.inl (wrap64 (x_1.fst + 1), ()))
 else some (Sum.inr (true, ())))
 big (0, ())
def S161 : Sig := ⟨P161, R161, F161⟩
noncomputable def E161 : Env := { tab := tab, nt := 48, Γ := lookG [(119, [S119]), (140, [S140]), (141, [S141])], joins := lookN [], loops := lookN [(2, mkLoop ⟨[⟨.slot 9, (.int .i64), .pv⟩], [0, 1, 7, 8], []⟩)] }
theorem raw161_eq (x : List T94D × Int × Unit) : afun E161 Tryz.f161 P161 R161 x = F161 x := by kernel_rfl
-- decamp/cmd.rightLeases
def F162 (x : List T113D × Unit) : Option (Bool × Unit) :=
 iterE (Int × Unit) (Bool × Unit)
 (fun (x_1 : Int × Unit) =>
 bif decide (x_1.fst < Int.ofNat (List.length x.fst)) then
 Option.bind (idx x.fst x_1.fst) fun b =>
 Option.bind (F141 ([b.fst], ())) fun b_1 =>
 bif !b_1.fst then some (Sum.inr (false, ()))
 else
 Option.bind (F140 (b.snd.fst, 1, 1000, ())) fun b_2 =>
 bif !b_2.fst then some (Sum.inr (false, ()))
 else
 Option.bind (F140 (b.snd.snd.fst, 0, 1000, ())) fun b_3 =>
 bif !b_3.fst then some (Sum.inr (false, ()))
 else
 bif decide (0 < x_1.fst) then
 Option.bind (idx x.fst (wrap64 (x_1.fst - 1)))
 fun b_4 =>
 bif decide (b.fst ≤ b_4.fst) then some (Sum.inr (false, ()))
 else some (Sum.inl (wrap64 (x_1.fst + 1), ()))
 else some (Sum.inl (wrap64 (x_1.fst + 1), ()))
 else some (Sum.inr (decide (Int.ofNat (List.length x.fst) ≤ 64), ())))
 big (0, ())
def S162 : Sig := ⟨P162, R162, F162⟩
noncomputable def E162 : Env := { tab := tab, nt := 48, Γ := lookG [(140, [S140]), (141, [S141])], joins := lookN [], loops := lookN [(2, mkLoop ⟨[⟨.slot 7, (.int .i64), .pv⟩], [0, 5, 6], []⟩)] }
theorem raw162_eq (x : List T113D × Unit) : afun E162 Tryz.f162 P162 R162 x = F162 x := by kernel_rfl
-- decamp/cmd.handed
def F149 (x : List T94D × List T113D × Unit) : Option (Bool × Unit) :=
 Option.bind (F161 (x.fst, 15, ())) fun b =>
 bif b.fst then Option.bind (F162 x.snd) fun b => some b else some (false, ())
def S149 : Sig := ⟨P149, R149, F149⟩
noncomputable def E149 : Env := { tab := tab, nt := 11, Γ := lookG [(161, [S161]), (162, [S162])], joins := lookN [], loops := lookN [] }
theorem raw149_eq (x : List T94D × List T113D × Unit) : afun E149 Tryz.f149 P149 R149 x = F149 x := by kernel_rfl
-- decamp/cmd.keepClient
def F163 (x : T28D × Unit) : Option (T28D × Unit) :=
 Option.bind
 (bif decide (x.fst.fst = 1) then
 some (Sum.inl (x.fst.snd.fst, [], x.fst.snd.snd.snd.fst, x.fst.snd.snd.snd.snd.fst, 0, 0, [], [], [], ()))
 else
 bif decide (x.fst.fst = 2) then
 some (Sum.inl (x.fst.snd.fst, x.fst.snd.snd.fst, [], 0, 0, 0, [], [], [], ()))
 else
 bif decide (x.fst.fst = 3) then
 some
 (Sum.inl
 ([], [], [], 0, 0, 0, x.fst.snd.snd.snd.snd.snd.snd.snd.fst, x.fst.snd.snd.snd.snd.snd.snd.snd.snd.fst,
 x.fst.snd.snd.snd.snd.snd.snd.snd.snd.snd.fst, ()))
 else
 bif decide (x.fst.fst = 4) then
 some (Sum.inl ([], [], [], 0, 0, x.fst.snd.snd.snd.snd.snd.snd.fst, [], [], [], ()))
 else
 bif decide (x.fst.fst = 5) then
 some
 (Sum.inl
 ([], [], [], x.fst.snd.snd.snd.snd.fst, x.fst.snd.snd.snd.snd.snd.fst, 0, [], [], [], ()))
 else
 bif decide (x.fst.fst = 6) then
 bif decide (x.fst.fst = 6) then
 some (Sum.inl ([], [], [], x.fst.snd.snd.snd.snd.fst, 0, 0, [], [], [], ()))
 else some (Sum.inl ([], [], [], 0, 0, 0, [], [], [], ()))
 else
 bif decide (x.fst.fst = 7) then
 bif decide (x.fst.fst = 7) then
 some (Sum.inl ([], [], [], x.fst.snd.snd.snd.snd.fst, 0, 0, [], [], [], ()))
 else some (Sum.inl ([], [], [], 0, 0, 0, [], [], [], ()))
 else
 bif decide (x.fst.fst = 9) then
 some (Sum.inl ([], [], [], x.fst.snd.snd.snd.snd.fst, 0, 0, [], [], [], ()))
 else some (Sum.inl ([], [], [], 0, 0, 0, [], [], [], ())))
 fun o =>
 Sum.elim
 (fun (x_1 :
 List UInt8 × List UInt8 × List UInt8 × Int × Int × Int × List T96D × List T48D × List T48D × Unit) =>
 some
 ((x.fst.fst, x_1.fst, x_1.snd.fst, x_1.snd.snd.fst, x_1.snd.snd.snd.fst, x_1.snd.snd.snd.snd.fst,
 x_1.snd.snd.snd.snd.snd.fst, x_1.snd.snd.snd.snd.snd.snd.fst, x_1.snd.snd.snd.snd.snd.snd.snd.fst,
 x_1.snd.snd.snd.snd.snd.snd.snd.snd.fst, 0, 0, 0, false, [], [], [], ()),
 ()))
 (fun (val :
 (Int × List UInt8 × List UInt8 × List UInt8 × Int × Int × Int × List T96D × List T48D × List T48D × Int × Int × Int × Bool × List
 T70D × List
 (Int × Int × (Int × Int × Bool × Int × List
 T70D × Int × Int × Unit) × Unit) × List T113D × Unit) × Unit) =>
 some val)
 o
def S163 : Sig := ⟨P163, R163, F163⟩
noncomputable def E163 : Env := { tab := tab, nt := 60, Γ := lookG [], joins := lookN [(17, ⟨[⟨.fld 1004000 1, .str, .pv⟩, ⟨.fld 1004000 2, .str, .pv⟩, ⟨.fld 1004000 3, .str, .pv⟩, ⟨.fld 1004000 4, (.int .i64), .pv⟩, ⟨.fld 1004000 5, (.int .i64), .pv⟩, ⟨.fld 1004000 6, (.int .i64), .pv⟩, ⟨.fld 1004000 7, (.slice T96), .pv⟩, ⟨.fld 1004000 8, (.slice T48), .pv⟩, ⟨.fld 1004000 9, (.slice T48), .pv⟩], [2, 3], [.site 1004000, .fld 1004000 0, .fld 1004000 10, .fld 1004000 11, .fld 1004000 12, .fld 1004000 13, .fld 1004000 14, .fld 1004000 15, .fld 1004000 16, .site 2000, .fld 2000 0, .fld 2000 1, .fld 2000 2, .fld 2000 3, .fld 2000 4, .fld 2000 5, .fld 2000 6, .fld 2000 7, .fld 2000 8, .fld 2000 9, .fld 2000 10, .fld 2000 11, .fld 2000 12, .fld 2000 13, .fld 2000 14, .fld 2000 15, .fld 2000 16]⟩)], loops := lookN [] }
theorem raw163_eq (x : T28D × Unit) : afun E163 Tryz.f163 P163 R163 x = F163 x := by kernel_rfl
-- decamp/cmd.keep
def F152 (x : T28D × Unit) : Option (T28D × Unit) :=
 Option.bind
 (bif decide (x.fst.fst = 11) then
 bif decide (x.fst.fst = 11) then
 some
 (Sum.inl
 ([], [], 0, 0, 0, false, [], [], [], 0, [], [], [], 0, 0, 0, [], [], [], 0, 0, 0, false, [], [], [],
 ()))
 else
 bif decide (x.fst.fst = 10) then
 some
 (Sum.inl
 (x.fst.snd.fst, [], 0, 0, 0, false, [], [], [], 0, [], [], [], 0, 0, 0, [], [], [], 0, 0, 0, false, [],
 [], [], ()))
 else
 bif decide (x.fst.fst = 12) then
 some
 (Sum.inl
 (x.fst.snd.fst, x.fst.snd.snd.fst, x.fst.snd.snd.snd.snd.snd.snd.fst,
 x.fst.snd.snd.snd.snd.snd.snd.snd.snd.snd.snd.snd.fst, 0, false, [], [], [], 0, [], [], [], 0, 0, 0,
 [], [], [], 0, 0, 0, false, [], [], [], ()))
 else
 bif decide (x.fst.fst = 13) then
 some
 (Sum.inl
 (x.fst.snd.fst, x.fst.snd.snd.fst, 0, x.fst.snd.snd.snd.snd.snd.snd.snd.snd.snd.snd.snd.fst, 0,
 x.fst.snd.snd.snd.snd.snd.snd.snd.snd.snd.snd.snd.snd.snd.fst,
 x.fst.snd.snd.snd.snd.snd.snd.snd.snd.snd.snd.snd.snd.snd.snd.fst, [], [], 0, [], [], [], 0, 0, 0,
 [], [], [], 0, 0, 0, false, [], [], [], ()))
 else
 bif decide (x.fst.fst = 14) then
 some
 (Sum.inl
 ([], [], x.fst.snd.snd.snd.snd.snd.snd.fst, x.fst.snd.snd.snd.snd.snd.snd.snd.snd.snd.snd.snd.fst,
 x.fst.snd.snd.snd.snd.snd.snd.snd.snd.snd.snd.snd.snd.fst, false,
 x.fst.snd.snd.snd.snd.snd.snd.snd.snd.snd.snd.snd.snd.snd.snd.fst, [], [], 0, [], [], [], 0, 0, 0,
 [], [], [], 0, 0, 0, false, [], [], [], ()))
 else
 bif decide (x.fst.fst = 15) then
 some
 (Sum.inl
 ([], [], x.fst.snd.snd.snd.snd.snd.snd.fst, x.fst.snd.snd.snd.snd.snd.snd.snd.snd.snd.snd.snd.fst,
 0, false, [], x.fst.snd.snd.snd.snd.snd.snd.snd.snd.snd.snd.snd.snd.snd.snd.snd.fst,
 x.fst.snd.snd.snd.snd.snd.snd.snd.snd.snd.snd.snd.snd.snd.snd.snd.snd.fst, 0, [], [], [], 0, 0,
 0, [], [], [], 0, 0, 0, false, [], [], [], ()))
 else
 Option.bind (F163 x)
 fun b =>
 some (Sum.inr b)
 else
 bif decide (x.fst.fst = 16) then
 some
 (Sum.inl
 ([], [], 0, 0, 0, false, [], [], [], 0, [], [], [], 0, 0, 0, [], [], [], 0, 0, 0, false, [], [], [],
 ()))
 else
 bif decide (x.fst.fst = 10) then
 some
 (Sum.inl
 (x.fst.snd.fst, [], 0, 0, 0, false, [], [], [], 0, [], [], [], 0, 0, 0, [], [], [], 0, 0, 0, false, [],
 [], [], ()))
 else
 bif decide (x.fst.fst = 12) then
 some
 (Sum.inl
 (x.fst.snd.fst, x.fst.snd.snd.fst, x.fst.snd.snd.snd.snd.snd.snd.fst,
 x.fst.snd.snd.snd.snd.snd.snd.snd.snd.snd.snd.snd.fst, 0, false, [], [], [], 0, [], [], [], 0, 0, 0,
 [], [], [], 0, 0, 0, false, [], [], [], ()))
 else
 bif decide (x.fst.fst = 13) then
 some
 (Sum.inl
 (x.fst.snd.fst, x.fst.snd.snd.fst, 0, x.fst.snd.snd.snd.snd.snd.snd.snd.snd.snd.snd.snd.fst, 0,
 x.fst.snd.snd.snd.snd.snd.snd.snd.snd.snd.snd.snd.snd.snd.fst,
 x.fst.snd.snd.snd.snd.snd.snd.snd.snd.snd.snd.snd.snd.snd.snd.fst, [], [], 0, [], [], [], 0, 0, 0,
 [], [], [], 0, 0, 0, false, [], [], [], ()))
 else
 bif decide (x.fst.fst = 14) then
 some
 (Sum.inl
 ([], [], x.fst.snd.snd.snd.snd.snd.snd.fst, x.fst.snd.snd.snd.snd.snd.snd.snd.snd.snd.snd.snd.fst,
 x.fst.snd.snd.snd.snd.snd.snd.snd.snd.snd.snd.snd.snd.fst, false,
 x.fst.snd.snd.snd.snd.snd.snd.snd.snd.snd.snd.snd.snd.snd.snd.fst, [], [], 0, [], [], [], 0, 0, 0,
 [], [], [], 0, 0, 0, false, [], [], [], ()))
 else
 bif decide (x.fst.fst = 15) then
 some
 (Sum.inl
 ([], [], x.fst.snd.snd.snd.snd.snd.snd.fst, x.fst.snd.snd.snd.snd.snd.snd.snd.snd.snd.snd.snd.fst,
 0, false, [], x.fst.snd.snd.snd.snd.snd.snd.snd.snd.snd.snd.snd.snd.snd.snd.snd.fst,
 x.fst.snd.snd.snd.snd.snd.snd.snd.snd.snd.snd.snd.snd.snd.snd.snd.snd.fst, 0, [], [], [], 0, 0,
 0, [], [], [], 0, 0, 0, false, [], [], [], ()))
 else
 Option.bind (F163 x)
 fun b =>
 some (Sum.inr b))
 fun o =>
 Sum.elim
 (fun (x_1 :
 List UInt8 × List UInt8 × Int × Int × Int × Bool × List T70D × List
 (Int × Int × (Int × Int × Bool × Int × List
 T70D × Int × Int × Unit) × Unit) × List T113D × Int × List UInt8 × List UInt8 × List UInt8 × Int × Int × Int × List T96D × List T48D × List T48D × Int × Int × Int × Bool × List
 T70D × List
 (Int × Int × (Int × Int × Bool × Int × List
 T70D × Int × Int × Unit) × Unit) × List T113D × Unit) =>
 some
 ((x.fst.fst, x_1.fst, x_1.snd.fst, [], 0, 0, x_1.snd.snd.fst, [], [], [],
 x.fst.snd.snd.snd.snd.snd.snd.snd.snd.snd.snd.fst, x_1.snd.snd.snd.fst, x_1.snd.snd.snd.snd.fst,
 x_1.snd.snd.snd.snd.snd.fst, x_1.snd.snd.snd.snd.snd.snd.fst, x_1.snd.snd.snd.snd.snd.snd.snd.fst,
 x_1.snd.snd.snd.snd.snd.snd.snd.snd.fst, ()),
 ()))
 (fun (val :
 (Int × List UInt8 × List UInt8 × List UInt8 × Int × Int × Int × List T96D × List T48D × List T48D × Int × Int × Int × Bool × List
 T70D × List
 (Int × Int × (Int × Int × Bool × Int × List
 T70D × Int × Int × Unit) × Unit) × List T113D × Unit) × Unit) =>
 some val)
 o
def S152 : Sig := ⟨P152, R152, F152⟩
noncomputable def E152 : Env := { tab := tab, nt := 81, Γ := lookG [(163, [S163])], joins := lookN [(16, ⟨[⟨.fld 1006000 1, .str, .pv⟩, ⟨.fld 1006000 2, .str, .pv⟩, ⟨.fld 1006000 6, (.int .i64), .pv⟩, ⟨.fld 1006000 11, (.int .i64), .pv⟩, ⟨.fld 1006000 12, (.int .i64), .pv⟩, ⟨.fld 1006000 13, .bool, .pv⟩, ⟨.fld 1006000 14, (.slice T70), .pv⟩, ⟨.fld 1006000 15, (.slice T94), .pv⟩, ⟨.fld 1006000 16, (.slice T113), .pv⟩, ⟨.fld 2000 0, (.int .i64), .pv⟩, ⟨.fld 2000 1, .str, .pv⟩, ⟨.fld 2000 2, .str, .pv⟩, ⟨.fld 2000 3, .str, .pv⟩, ⟨.fld 2000 4, (.int .i64), .pv⟩, ⟨.fld 2000 5, (.int .i64), .pv⟩, ⟨.fld 2000 6, (.int .i64), .pv⟩, ⟨.fld 2000 7, (.slice T96), .own false⟩, ⟨.fld 2000 8, (.slice T48), .own false⟩, ⟨.fld 2000 9, (.slice T48), .own false⟩, ⟨.fld 2000 10, (.int .i64), .pv⟩, ⟨.fld 2000 11, (.int .i64), .pv⟩, ⟨.fld 2000 12, (.int .i64), .pv⟩, ⟨.fld 2000 13, .bool, .pv⟩, ⟨.fld 2000 14, (.slice T70), .own false⟩, ⟨.fld 2000 15, (.slice T94), .own false⟩, ⟨.fld 2000 16, (.slice T113), .own false⟩], [2, 3], [.site 1006000, .fld 1006000 0, .fld 1006000 3, .fld 1006000 4, .fld 1006000 5, .fld 1006000 7, .fld 1006000 8, .fld 1006000 9, .fld 1006000 10, .site 2000]⟩)], loops := lookN [] }
theorem raw152_eq (x : T28D × Unit) : afun E152 Tryz.f152 P152 R152 x = F152 x := by kernel_rfl
-- decamp/index.Range
def F116 (x : List UInt8 × List UInt8 × Unit) : Option (Bool × Unit) :=
 Option.bind (F118 (x.fst, ())) fun b =>
 bif b.fst then
 bif decide (x.snd.fst = []) then some (true, ())
 else
 Option.bind (F142 (x.snd.fst, UInt8.ofNat 127, ())) fun b =>
 bif b.fst then some (!(strlt x.snd.fst x.fst || decide (x.snd.fst = x.fst)), ())
 else some (false, ())
 else some (false, ())
def S116 : Sig := ⟨P116, R116, F116⟩
noncomputable def E116 : Env := { tab := tab, nt := 20, Γ := lookG [(118, [S118]), (142, [S142])], joins := lookN [], loops := lookN [] }
theorem raw116_eq (x : List UInt8 × List UInt8 × Unit) : afun E116 Tryz.f116 P116 R116 x = F116 x := by kernel_rfl
-- decamp/cmd.put
def F164 (x : List UInt8 × List UInt8 × Int × Unit) : Option (Bool × Unit) :=
 Option.bind (F118 (x.fst, ())) fun b =>
 bif b.fst then
 bif decide (Int.ofNat (List.length x.snd.fst) ≤ 40) then
 Option.bind (F143 ([x.snd.snd.fst], ())) fun b => some b
 else some (false, ())
 else some (false, ())
def S164 : Sig := ⟨P164, R164, F164⟩
noncomputable def E164 : Env := { tab := tab, nt := 19, Γ := lookG [(118, [S118]), (143, [S143])], joins := lookN [], loops := lookN [] }
theorem raw164_eq (x : List UInt8 × List UInt8 × Int × Unit) : afun E164 Tryz.f164 P164 R164 x = F164 x := by kernel_rfl
-- decamp/cmd.rightCmp
def F170 (x : T96D × Unit) : Option (Bool × Unit) :=
 Option.bind (F118 (x.fst.fst, ())) fun b =>
 bif !b.fst then some (false, ())
 else
 bif decide (x.fst.snd.snd.fst < 0) then some (false, ())
 else
 bif decide (2 < x.fst.snd.snd.fst) then some (false, ())
 else
 Option.bind (F140 (x.fst.snd.snd.snd.fst, -1099511627776, 1099511627776, ()))
 fun b =>
 bif !b.fst then some (false, ())
 else
 bif decide (x.fst.snd.fst = 5) then
 bif decide (x.fst.snd.snd.snd.fst = 0) then
 some (decide (Int.ofNat (List.length x.fst.snd.snd.snd.snd.fst) ≤ 40), ())
 else some (false, ())
 else
 bif decide (1 ≤ x.fst.snd.fst) then
 bif decide (x.fst.snd.fst ≤ 4) then some (decide (x.fst.snd.snd.snd.snd.fst = []), ())
 else some (false, ())
 else some (false, ())
def S170 : Sig := ⟨P170, R170, F170⟩
noncomputable def E170 : Env := { tab := tab, nt := 48, Γ := lookG [(118, [S118]), (140, [S140])], joins := lookN [], loops := lookN [] }
theorem raw170_eq (x : T96D × Unit) : afun E170 Tryz.f170 P170 R170 x = F170 x := by kernel_rfl
-- decamp/cmd.rightTxn$1
def F169 (x : T96D × Unit) : Option (Bool × Unit) :=
 Option.bind (F170 x) fun b => some (!b.fst, ())
def S169 : Sig := ⟨P169, R169, F169⟩
noncomputable def E169 : Env := { tab := tab, nt := 6, Γ := lookG [(170, [S170])], joins := lookN [], loops := lookN [] }
theorem raw169_eq (x : T96D × Unit) : afun E169 Tryz.f169 P169 R169 x = F169 x := by kernel_rfl
-- slices.IndexFunc[[]decamp/api.Cmp,decamp/api.Cmp]
def F172a (x : List T96D × Unit) : Option (Int × Unit) :=
 iterE (Int × Unit) (Int × Unit)
 (fun (x_1 : Int × Unit) =>
 bif decide (x_1.fst < Int.ofNat (List.length x.fst)) then
 Option.bind (idx x.fst x_1.fst) fun b =>
 Option.bind (F169 (b, ())) fun b =>
 bif b.fst then some (Sum.inr x_1) else some (Sum.inl (wrap64 (x_1.fst + 1), ()))
 else some (Sum.inr (-1, ())))
 big (0, ())
def S172a : Sig := ⟨P172a, R172a, F172a⟩
noncomputable def E172a : Env := { tab := tab, nt := 19, Γ := lookG [(169, [S169])], joins := lookN [], loops := lookN [(2, mkLoop ⟨[⟨.slot 8, (.int .i64), .pv⟩], [0, 1, 7], []⟩)] }
theorem raw172a_eq (x : List T96D × Unit) : afun E172a Tryz.f172 P172a R172a x = F172a x := by kernel_rfl
-- slices.ContainsFunc[[]decamp/api.Cmp,decamp/api.Cmp]
def F168a (x : List T96D × Unit) : Option (Bool × Unit) :=
 Option.bind (F172a x) fun b => some (decide (0 ≤ b.fst), ())
def S168a : Sig := ⟨P168a, R168a, F168a⟩
noncomputable def E168a : Env := { tab := tab, nt := 9, Γ := lookG [(169, [S169]), (172, [S172a])], joins := lookN [], loops := lookN [] }
theorem raw168a_eq (x : List T96D × Unit) : afun E168a Tryz.f168 P168a R168a x = F168a x := by kernel_rfl
-- decamp/cmd.rightOp
def F173 (x : T48D × Unit) : Option (Bool × Unit) :=
 bif decide (x.fst.fst = 1) then
 bif decide (x.fst.snd.snd.fst = []) then
 Option.bind (F164 (x.fst.snd.fst, x.fst.snd.snd.snd)) fun b => some b
 else some (false, ())
 else
 bif decide (x.fst.fst = 2) then
 bif decide (x.fst.fst = 2) then
 bif decide (x.fst.snd.snd.snd.fst = []) then
 bif decide (x.fst.snd.snd.snd.snd.fst = 0) then
 Option.bind (F116 (x.fst.snd.fst, x.fst.snd.snd.fst, ())) fun b => some b
 else some (false, ())
 else some (false, ())
 else some (false, ())
 else
 bif decide (x.fst.fst = 3) then
 bif decide (x.fst.snd.snd.snd.fst = []) then
 bif decide (x.fst.snd.snd.snd.snd.fst = 0) then
 Option.bind (F116 (x.fst.snd.fst, x.fst.snd.snd.fst, ())) fun b => some b
 else some (false, ())
 else some (false, ())
 else some (false, ())
def S173 : Sig := ⟨P173, R173, F173⟩
noncomputable def E173 : Env := { tab := tab, nt := 37, Γ := lookG [(116, [S116]), (164, [S164])], joins := lookN [], loops := lookN [] }
theorem raw173_eq (x : T48D × Unit) : afun E173 Tryz.f173 P173 R173 x = F173 x := by kernel_rfl
-- decamp/index.In
def F178 (x : List UInt8 × List UInt8 × List UInt8 × Unit) : Option (Bool × Unit) :=
 Option.bind (F116 (x.fst, x.snd.fst, ())) fun b =>
 bif !b.fst then some (false, ())
 else
 Option.bind (F118 x.snd.snd) fun b =>
 bif !b.fst then some (false, ())
 else
 bif decide (x.snd.snd.fst = x.fst) then some (true, ())
 else
 bif !(strlt x.snd.snd.fst x.fst || decide (x.snd.snd.fst = x.fst)) then
 some (strlt x.snd.snd.fst x.snd.fst, ())
 else some (false, ())
def S178 : Sig := ⟨P178, R178, F178⟩
noncomputable def E178 : Env := { tab := tab, nt := 29, Γ := lookG [(116, [S116]), (118, [S118])], joins := lookN [], loops := lookN [] }
theorem raw178_eq (x : List UInt8 × List UInt8 × List UInt8 × Unit) : afun E178 Tryz.f178 P178 R178 x = F178 x := by kernel_rfl
-- decamp/cmd.meet
def F176 (x : T48D × T48D × Unit) : Option (Bool × Unit) :=
 bif decide (x.fst.fst = 3) then some (false, ())
 else
 bif decide (x.snd.fst.fst = 3) then some (false, ())
 else
 bif decide (x.fst.snd.fst = x.snd.fst.snd.fst) then some (true, ())
 else
 Option.bind (F178 (x.fst.snd.fst, x.fst.snd.snd.fst, x.snd.fst.snd.fst, ())) fun b =>
 bif b.fst then some (true, ())
 else
 Option.bind (F178 (x.snd.fst.snd.fst, x.snd.fst.snd.snd.fst, x.fst.snd.fst, ()))
 fun b => some b
def S176 : Sig := ⟨P176, R176, F176⟩
noncomputable def E176 : Env := { tab := tab, nt := 36, Γ := lookG [(178, [S178])], joins := lookN [], loops := lookN [] }
theorem raw176_eq (x : T48D × T48D × Unit) : afun E176 Tryz.f176 P176 R176 x = F176 x := by kernel_rfl
-- decamp/cmd.rightOps$1
def F175 (x : T48D × Unit) : Option (Bool × Unit) := none
def S175 : Sig := ⟨P175, R175, F175⟩
noncomputable def E175 : Env := { tab := tab, nt := 7, Γ := lookG [(176, [S176])], joins := lookN [], loops := lookN [] }
theorem raw175_eq (x : T48D × Unit) : afun E175 Tryz.f175 P175 R175 x = F175 x := by kernel_rfl
-- decamp/cmd.rightOps$1
def F175a (x : T48D × T48D × Unit) : Option (Bool × T48D × Unit) :=
 Option.bind (F176 x) fun b => some (b.fst, x.snd)
def S175a : Sig := ⟨P175a, R175a, F175a⟩
noncomputable def E175a : Env := { tab := tab, nt := 7, Γ := lookG [(176, [S176])], joins := lookN [], loops := lookN [] }
theorem raw175a_eq (x : T48D × T48D × Unit) : afun E175a Tryz.f175 P175a R175a x = F175a x := by kernel_rfl
-- slices.IndexFunc[[]decamp/api.Op,decamp/api.Op]
def F177a (x : List T48D × T48D × Unit) : Option (Int × T48D × Unit) :=
 iterE (Int × T48D)
 (Int × T48D × Unit)
 (fun (x_1 : Int × T48D) =>
 bif decide (x_1.fst < Int.ofNat (List.length x.fst)) then
 Option.bind (idx x.fst x_1.fst) fun b =>
 Option.bind (F175a (b, x_1.snd, ()))
 fun b =>
 bif b.fst then some (Sum.inr (x_1.fst, b.snd))
 else some (Sum.inl (wrap64 (x_1.fst + 1), b.snd.fst))
 else some (Sum.inr (-1, x_1.snd, ())))
 big (0, x.snd.fst)
def S177a : Sig := ⟨P177a, R177a, F177a⟩
noncomputable def E177a : Env := { tab := tab, nt := 19, Γ := lookG [(175, [S175, S175a])], joins := lookN [], loops := lookN [(2, mkLoop ⟨[⟨.slot 8, (.int .i64), .pv⟩, ⟨.fld 2 0, (.int .i64), .pv⟩, ⟨.fld 2 1, .str, .pv⟩, ⟨.fld 2 2, .str, .pv⟩, ⟨.fld 2 3, .str, .pv⟩, ⟨.fld 2 4, (.int .i64), .pv⟩], [0, 1, 7], [.site 2, .comp 1 0]⟩)] }
theorem raw177a_eq (x : List T48D × T48D × Unit) : afun E177a Tryz.f177 P177a R177a x = F177a x := by kernel_rfl
-- slices.ContainsFunc[[]decamp/api.Op,decamp/api.Op]
def F174a (x : List T48D × T48D × Unit) : Option (Bool × T48D × Unit) :=
 Option.bind (F177a x) fun b =>
 some (decide (0 ≤ b.fst), b.snd)
def S174a : Sig := ⟨P174a, R174a, F174a⟩
noncomputable def E174a : Env := { tab := tab, nt := 9, Γ := lookG [(175, [S175, S175a]), (177, [S177a])], joins := lookN [], loops := lookN [] }
theorem raw174a_eq (x : List T48D × T48D × Unit) : afun E174a Tryz.f174 P174a R174a x = F174a x := by kernel_rfl
-- decamp/cmd.rightOps
def F171 (x : List T48D × Unit) : Option (Bool × Unit) :=
 iterE (Int × Unit) (Bool × Unit)
 (fun (x_1 : Int × Unit) =>
 bif decide (x_1.fst < Int.ofNat (List.length x.fst)) then
 Option.bind (idx x.fst x_1.fst) fun b =>
 Option.bind (F173 (b, ())) fun b_1 =>
 bif !b_1.fst then some (Sum.inr (false, ()))
 else
 Option.bind (sliceO x.fst 0 x_1.fst)
 fun b_2 =>
 Option.bind (F174a (b_2, b, ()))
 fun b =>
 bif b.fst then some (Sum.inr (false, ()))
 else some (Sum.inl (wrap64 (x_1.fst + 1), ()))
 else some (Sum.inr (decide (Int.ofNat (List.length x.fst) ≤ 4), ())))
 big (0, ())
def S171 : Sig := ⟨P171, R171, F171⟩
noncomputable def E171 : Env := { tab := tab, nt := 26, Γ := lookG [(173, [S173]), (174, [S174a]), (175, [S175, S175a])], joins := lookN [], loops := lookN [(2, mkLoop ⟨[⟨.slot 7, (.int .i64), .pv⟩], [0, 5, 6], []⟩)] }
theorem raw171_eq (x : List T48D × Unit) : afun E171 Tryz.f171 P171 R171 x = F171 x := by kernel_rfl
-- decamp/cmd.rightTxn
def F165 (x : T28D × Unit) : Option (Bool × Unit) :=
 bif decide (Int.ofNat (List.length x.fst.snd.snd.snd.snd.snd.snd.snd.fst) ≤ 4) then
 Option.bind (F168a (x.fst.snd.snd.snd.snd.snd.snd.snd.fst, ())) fun b =>
 bif !b.fst then
 Option.bind (F171 (x.fst.snd.snd.snd.snd.snd.snd.snd.snd.fst, ())) fun b =>
 bif b.fst then
 Option.bind (F171 (x.fst.snd.snd.snd.snd.snd.snd.snd.snd.snd.fst, ())) fun b =>
 some b
 else some (false, ())
 else some (false, ())
 else some (false, ())
def S165 : Sig := ⟨P165, R165, F165⟩
noncomputable def E165 : Env := { tab := tab, nt := 23, Γ := lookG [(168, [S168a]), (169, [S169]), (171, [S171])], joins := lookN [], loops := lookN [] }
theorem raw165_eq (x : T28D × Unit) : afun E165 Tryz.f165 P165 R165 x = F165 x := by kernel_rfl
-- decamp/cmd.rightClient
def F153 (x : T28D × Unit) : Option (Bool × Unit) :=
 bif decide (x.fst.fst = 1) then
 Option.bind (F164 (x.fst.snd.fst, x.fst.snd.snd.snd.fst, x.fst.snd.snd.snd.snd.fst, ()))
 fun b => some b
 else
 bif decide (x.fst.fst = 2) then
 Option.bind (F116 (x.fst.snd.fst, x.fst.snd.snd.fst, ())) fun b => some b
 else
 bif decide (x.fst.fst = 3) then Option.bind (F165 x) fun b => some b
 else
 bif decide (x.fst.fst = 4) then
 Option.bind (F141 ([x.fst.snd.snd.snd.snd.snd.snd.fst], ())) fun b => some b
 else
 bif decide (x.fst.fst = 5) then
 Option.bind (F141 ([x.fst.snd.snd.snd.snd.fst], ())) fun b =>
 bif b.fst then
 Option.bind (F140 (x.fst.snd.snd.snd.snd.snd.fst, 1, 1000, ())) fun b => some b
 else some (false, ())
 else
 bif decide (x.fst.fst = 6) then
 bif decide (x.fst.fst = 6) then
 Option.bind (F141 ([x.fst.snd.snd.snd.snd.fst], ())) fun b => some b
 else
 bif decide (x.fst.fst = 9) then
 bif !decide (x.fst.snd.snd.snd.snd.fst = 0) then
 Option.bind (F140 (x.fst.snd.snd.snd.snd.fst, -1099511627776, 1099511627776, ()))
 fun b => some b
 else some (false, ())
 else some (decide (x.fst.fst = 8), ())
 else
 bif decide (x.fst.fst = 7) then
 Option.bind (F141 ([x.fst.snd.snd.snd.snd.fst], ())) fun b => some b
 else
 bif decide (x.fst.fst = 9) then
 bif !decide (x.fst.snd.snd.snd.snd.fst = 0) then
 Option.bind (F140 (x.fst.snd.snd.snd.snd.fst, -1099511627776, 1099511627776, ()))
 fun b => some b
 else some (false, ())
 else some (decide (x.fst.fst = 8), ())
def S153 : Sig := ⟨P153, R153, F153⟩
noncomputable def E153 : Env := { tab := tab, nt := 62, Γ := lookG [(116, [S116]), (140, [S140]), (141, [S141]), (164, [S164]), (165, [S165])], joins := lookN [], loops := lookN [] }
theorem raw153_eq (x : T28D × Unit) : afun E153 Tryz.f153 P153 R153 x = F153 x := by kernel_rfl
-- decamp/cmd.rightPage
def F154 (x : T28D × Unit) : Option (Bool × Unit) :=
 Option.bind
 (bif !decide (x.fst.snd.fst = []) then
 Option.bind (F118 (x.fst.snd.fst, ())) fun b =>
 bif !b.fst then some (Sum.inr (false, ()))
 else
 bif !decide (x.fst.snd.snd.fst = []) then
 Option.bind (F118 (x.fst.snd.snd.fst, ())) fun b =>
 bif !b.fst then some (Sum.inr (false, ()))
 else
 bif
 decide
 (8 <
 Int.ofNat (List.length x.fst.snd.snd.snd.snd.snd.snd.snd.snd.snd.snd.snd.snd.snd.snd.fst)) then
 some (Sum.inr (false, ()))
 else some (Sum.inl ())
 else
 bif
 decide
 (8 < Int.ofNat (List.length x.fst.snd.snd.snd.snd.snd.snd.snd.snd.snd.snd.snd.snd.snd.snd.fst)) then
 some (Sum.inr (false, ()))
 else some (Sum.inl ())
 else
 bif !decide (x.fst.snd.snd.fst = []) then
 Option.bind (F118 (x.fst.snd.snd.fst, ())) fun b =>
 bif !b.fst then some (Sum.inr (false, ()))
 else
 bif
 decide
 (8 < Int.ofNat (List.length x.fst.snd.snd.snd.snd.snd.snd.snd.snd.snd.snd.snd.snd.snd.snd.fst)) then
 some (Sum.inr (false, ()))
 else some (Sum.inl ())
 else
 bif decide (8 < Int.ofNat (List.length x.fst.snd.snd.snd.snd.snd.snd.snd.snd.snd.snd.snd.snd.snd.snd.fst)) then
 some (Sum.inr (false, ()))
 else some (Sum.inl ()))
 fun o =>
 Sum.elim
 (fun (_z : Unit) =>
 iterE (Int × Unit) (Bool × Unit)
 (fun (x_1 : Int × Unit) =>
 bif
 decide
 (x_1.fst <
 Int.ofNat (List.length x.fst.snd.snd.snd.snd.snd.snd.snd.snd.snd.snd.snd.snd.snd.snd.fst)) then
 Option.bind (idx x.fst.snd.snd.snd.snd.snd.snd.snd.snd.snd.snd.snd.snd.snd.snd.fst x_1.fst)
 fun b =>
 Option.bind (F118 (b.fst, ())) fun b_1 =>
 bif !b_1.fst then some (Sum.inr (false, ()))
 else
 Option.bind (F146 b.snd) fun b_2 =>
 bif !b_2.fst then some (Sum.inr (false, ()))
 else
 bif b.snd.fst.snd.snd.snd.snd.snd.snd.fst then some (Sum.inr (false, ()))
 else
 bif decide (0 < x_1.fst) then
 Option.bind
 (idx x.fst.snd.snd.snd.snd.snd.snd.snd.snd.snd.snd.snd.snd.snd.snd.fst
 (wrap64 (x_1.fst - 1)))
 fun b_3 =>
 bif !strlt b_3.fst b.fst then some (Sum.inr (false, ()))
 else some (Sum.inl (wrap64 (x_1.fst + 1), ()))
 else some (Sum.inl (wrap64 (x_1.fst + 1), ()))
 else some (Sum.inr (true, ())))
 big (0, ()))
 (fun (val : Bool × Unit) => some val) o
def S154 : Sig := ⟨P154, R154, F154⟩
noncomputable def E154 : Env := { tab := tab, nt := 71, Γ := lookG [(118, [S118]), (146, [S146])], joins := lookN [(3, ⟨[], [1], [.site 1000, .fld 1000 0, .fld 1000 1, .fld 1000 2, .fld 1000 3, .fld 1000 4, .fld 1000 5, .fld 1000 6, .fld 1000 7, .fld 1000 8, .fld 1000 9, .fld 1000 10, .fld 1000 11, .fld 1000 12, .fld 1000 13, .fld 1000 14, .fld 1000 15, .fld 1000 16]⟩)], loops := lookN [(4, mkLoop ⟨[⟨.slot 34, (.int .i64), .pv⟩], [1, 32, 33], [.site 1000, .fld 1000 0, .fld 1000 1, .fld 1000 2, .fld 1000 3, .fld 1000 4, .fld 1000 5, .fld 1000 6, .fld 1000 7, .fld 1000 8, .fld 1000 9, .fld 1000 10, .fld 1000 11, .fld 1000 12, .fld 1000 13, .fld 1000 14, .fld 1000 15, .fld 1000 16]⟩)] }
theorem raw154_eq (x : T28D × Unit) : afun E154 Tryz.f154 P154 R154 x = F154 x := by kernel_rfl
-- decamp/cmd.rightTail
def F155 (x : T28D × Unit) : Option (Bool × Unit) :=
 Option.bind
 (F141 ([x.fst.snd.snd.snd.snd.snd.snd.fst, x.fst.snd.snd.snd.snd.snd.snd.snd.snd.snd.snd.snd.snd.fst], ()))
 fun b =>
 bif !b.fst then some (false, ())
 else
 bif decide (x.fst.snd.snd.snd.snd.snd.snd.snd.snd.snd.snd.snd.snd.fst ≤ x.fst.snd.snd.snd.snd.snd.snd.fst) then
 some (false, ())
 else
 bif decide (64 < Int.ofNat (List.length x.fst.snd.snd.snd.snd.snd.snd.snd.snd.snd.snd.snd.snd.snd.snd.fst)) then
 some (false, ())
 else
 iterE (Int × Unit) (Bool × Unit)
 (fun (x_1 : Int × Unit) =>
 bif
 decide
 (x_1.fst <
 Int.ofNat (List.length x.fst.snd.snd.snd.snd.snd.snd.snd.snd.snd.snd.snd.snd.snd.snd.fst)) then
 Option.bind (idx x.fst.snd.snd.snd.snd.snd.snd.snd.snd.snd.snd.snd.snd.snd.snd.fst x_1.fst)
 fun b =>
 Option.bind (F118 (b.fst, ())) fun b_1 =>
 bif !b_1.fst then some (Sum.inr (false, ()))
 else
 Option.bind (F146 b.snd) fun b_2 =>
 bif !b_2.fst then some (Sum.inr (false, ()))
 else
 bif decide (b.snd.fst.fst ≤ x.fst.snd.snd.snd.snd.snd.snd.fst) then
 some (Sum.inr (false, ()))
 else
 bif decide (x.fst.snd.snd.snd.snd.snd.snd.snd.snd.snd.snd.snd.snd.fst < b.snd.fst.fst) then
 some (Sum.inr (false, ()))
 else
 bif decide (x_1.fst = 0) then
 some (Sum.inl (wrap64 (x_1.fst + 1), ()))
 else
 Option.bind
 (idx x.fst.snd.snd.snd.snd.snd.snd.snd.snd.snd.snd.snd.snd.snd.snd.fst
 (wrap64 (x_1.fst - 1)))
 fun b_3 =>
 bif decide (b.snd.fst.fst < b_3.snd.fst.fst) then some (Sum.inr (false, ()))
 else
 bif decide (b_3.snd.fst.fst = b.snd.fst.fst) then
 bif !strlt b_3.fst b.fst then some (Sum.inr (false, ()))
 else some (Sum.inl (wrap64 (x_1.fst + 1), ()))
 else some (Sum.inl (wrap64 (x_1.fst + 1), ()))
 else some (Sum.inr (true, ())))
 big (0, ())
def S155 : Sig := ⟨P155, R155, F155⟩
noncomputable def E155 : Env := { tab := tab, nt := 92, Γ := lookG [(118, [S118]), (141, [S141]), (146, [S146])], joins := lookN [], loops := lookN [(4, mkLoop ⟨[⟨.slot 29, (.int .i64), .pv⟩], [1, 27, 28], [.site 1000, .fld 1000 0, .fld 1000 1, .fld 1000 2, .fld 1000 3, .fld 1000 4, .fld 1000 5, .fld 1000 6, .fld 1000 7, .fld 1000 8, .fld 1000 9, .fld 1000 10, .fld 1000 11, .fld 1000 12, .fld 1000 13, .fld 1000 14, .fld 1000 15, .fld 1000 16]⟩)] }
theorem raw155_eq (x : T28D × Unit) : afun E155 Tryz.f155 P155 R155 x = F155 x := by kernel_rfl
-- decamp/cmd.Right
def F139 (x : T28D × Unit) : Option (Bool × Unit) :=
 Option.bind (F152 x)
 fun b =>
 Option.bind (F58 (b.fst, x)) fun b =>
 bif !b.fst then some (false, ())
 else
 bif decide (x.fst.fst < 10) then Option.bind (F153 x) fun b => some b
 else
 Option.bind (F141 ([x.fst.snd.snd.snd.snd.snd.snd.snd.snd.snd.snd.fst], ())) fun b =>
 bif !b.fst then some (false, ())
 else
 bif decide (x.fst.fst = 10) then
 Option.bind (F117 (x.fst.snd.fst, ())) fun b => some b
 else
 bif decide (x.fst.fst = 11) then
 bif decide (x.fst.fst = 11) then some (true, ())
 else
 bif decide (x.fst.fst = 12) then
 Option.bind
 (F141
 ([x.fst.snd.snd.snd.snd.snd.snd.snd.snd.snd.snd.snd.fst, x.fst.snd.snd.snd.snd.snd.snd.fst],
 ()))
 fun b =>
 bif b.fst then
 Option.bind (F117 (x.fst.snd.fst, ())) fun b =>
 bif b.fst then
 Option.bind (F117 (x.fst.snd.snd.fst, ())) fun b => some b
 else some (false, ())
 else some (false, ())
 else
 bif decide (x.fst.fst = 13) then
 Option.bind (F141 ([x.fst.snd.snd.snd.snd.snd.snd.snd.snd.snd.snd.snd.fst], ()))
 fun b =>
 bif b.fst then Option.bind (F154 x) fun b => some b
 else some (false, ())
 else
 bif decide (x.fst.fst = 14) then
 Option.bind (F141 ([x.fst.snd.snd.snd.snd.snd.snd.snd.snd.snd.snd.snd.fst], ()))
 fun b =>
 bif b.fst then Option.bind (F155 x) fun b => some b
 else some (false, ())
 else
 bif decide (x.fst.fst = 15) then
 Option.bind
 (F141
 ([x.fst.snd.snd.snd.snd.snd.snd.snd.snd.snd.snd.snd.fst,
 x.fst.snd.snd.snd.snd.snd.snd.fst],
 ()))
 fun b =>
 bif b.fst then
 Option.bind (F149 x.fst.snd.snd.snd.snd.snd.snd.snd.snd.snd.snd.snd.snd.snd.snd.snd)
 fun b => some b
 else some (false, ())
 else some (false, ())
 else
 bif decide (x.fst.fst = 16) then some (true, ())
 else
 bif decide (x.fst.fst = 12) then
 Option.bind
 (F141
 ([x.fst.snd.snd.snd.snd.snd.snd.snd.snd.snd.snd.snd.fst, x.fst.snd.snd.snd.snd.snd.snd.fst],
 ()))
 fun b =>
 bif b.fst then
 Option.bind (F117 (x.fst.snd.fst, ())) fun b =>
 bif b.fst then
 Option.bind (F117 (x.fst.snd.snd.fst, ())) fun b => some b
 else some (false, ())
 else some (false, ())
 else
 bif decide (x.fst.fst = 13) then
 Option.bind (F141 ([x.fst.snd.snd.snd.snd.snd.snd.snd.snd.snd.snd.snd.fst], ()))
 fun b =>
 bif b.fst then Option.bind (F154 x) fun b => some b
 else some (false, ())
 else
 bif decide (x.fst.fst = 14) then
 Option.bind (F141 ([x.fst.snd.snd.snd.snd.snd.snd.snd.snd.snd.snd.snd.fst], ()))
 fun b =>
 bif b.fst then Option.bind (F155 x) fun b => some b
 else some (false, ())
 else
 bif decide (x.fst.fst = 15) then
 Option.bind
 (F141
 ([x.fst.snd.snd.snd.snd.snd.snd.snd.snd.snd.snd.snd.fst,
 x.fst.snd.snd.snd.snd.snd.snd.fst],
 ()))
 fun b =>
 bif b.fst then
 Option.bind (F149 x.fst.snd.snd.snd.snd.snd.snd.snd.snd.snd.snd.snd.snd.snd.snd.snd)
 fun b => some b
 else some (false, ())
 else some (false, ())
def S139 : Sig := ⟨P139, R139, F139⟩
noncomputable def E139 : Env := { tab := tab, nt := 81, Γ := lookG [(58, [S58]), (117, [S117]), (141, [S141]), (149, [S149]), (152, [S152]), (153, [S153]), (154, [S154]), (155, [S155])], joins := lookN [], loops := lookN [] }
theorem raw139_eq (x : T28D × Unit) : afun E139 Tryz.f139 P139 R139 x = F139 x := by kernel_rfl
-- decamp/cmd.RightJob
def F115 (x : T33D × Unit) : Option (Bool × Unit) :=
 Option.bind (F139 x.fst.snd.snd) fun b =>
 bif !b.fst then some (false, ())
 else
 Option.bind (F140 (x.fst.fst, 0, 31, ())) fun b =>
 bif !b.fst then some (false, ())
 else
 bif decide (x.fst.fst = 0) then
 bif decide (x.fst.snd.fst = 0) then some (decide (8 ≤ x.fst.snd.snd.fst.fst), ())
 else some (false, ())
 else
 Option.bind (F141 ([x.fst.snd.fst], ())) fun b =>
 bif b.fst then some (decide (x.fst.snd.snd.fst.fst < 8), ()) else some (false, ())
def S115 : Sig := ⟨P115, R115, F115⟩
noncomputable def E115 : Env := { tab := tab, nt := 35, Γ := lookG [(139, [S139]), (140, [S140]), (141, [S141])], joins := lookN [], loops := lookN [] }
theorem raw115_eq (x : T33D × Unit) : afun E115 Tryz.f115 P115 R115 x = F115 x := by kernel_rfl
-- decamp/talk.asks
def F79 (x : TMD × Unit) : Option (Bool × Unit) :=
 Option.bind (F78 (x.fst.snd.snd.snd.snd.fst, 0, 31, ())) fun b =>
 bif decide (x.fst.fst = 2) then
 Option.bind (F115 (x.fst.snd.snd.snd.fst, ())) fun b => some b
 else
 bif decide (x.fst.fst = 3) then
 bif b.fst then
 Option.bind (F116 (x.fst.snd.snd.snd.snd.snd.fst, x.fst.snd.snd.snd.snd.snd.snd.fst, ()))
 fun b =>
 bif b.fst then
 Option.bind (F78 (x.fst.snd.snd.snd.snd.snd.snd.snd.fst, 0, 1099511627776, ()))
 fun b =>
 bif b.fst then
 Option.bind (F78 (x.fst.snd.snd.snd.snd.snd.snd.snd.snd.fst, 0, 8, ()))
 fun b => some b
 else some (false, ())
 else some (false, ())
 else some (false, ())
 else
 bif decide (x.fst.fst = 4) then
 bif b.fst then
 Option.bind (F116 (x.fst.snd.snd.snd.snd.snd.fst, x.fst.snd.snd.snd.snd.snd.snd.fst, ()))
 fun b =>
 bif b.fst then
 Option.bind (F78 (x.fst.snd.snd.snd.snd.snd.snd.snd.fst, 1, 1099511627776, ()))
 fun b => some b
 else some (false, ())
 else some (false, ())
 else
 bif decide (x.fst.fst = 5) then
 Option.bind (F117 (x.fst.snd.snd.snd.snd.snd.fst, ())) fun b =>
 bif b.fst then
 bif decide (x.fst.snd.snd.snd.snd.snd.snd.fst = []) then
 Option.bind (F78 (x.fst.snd.snd.snd.snd.snd.snd.snd.fst, 1, 1099511627776, ()))
 fun b => some b
 else
 Option.bind (F118 (x.fst.snd.snd.snd.snd.snd.snd.fst, ())) fun b =>
 bif b.fst then
 Option.bind (F78 (x.fst.snd.snd.snd.snd.snd.snd.snd.fst, 1, 1099511627776, ()))
 fun b => some b
 else some (false, ())
 else some (false, ())
 else
 bif decide (x.fst.fst = 6) then
 Option.bind (F78 (x.fst.snd.snd.snd.snd.snd.snd.snd.fst, 1, 1099511627776, ()))
 fun b => some b
 else some (decide (x.fst.fst = 7), ())
def S79 : Sig := ⟨P79, R79, F79⟩
noncomputable def E79 : Env := { tab := tab, nt := 77, Γ := lookG [(78, [S78]), (115, [S115]), (116, [S116]), (117, [S117]), (118, [S118])], joins := lookN [], loops := lookN [] }
theorem raw79_eq (x : TMD × Unit) : afun E79 Tryz.f79 P79 R79 x = F79 x := by kernel_rfl
-- decamp/talk.items$1
def F147 (x : T70D × Unit) : Option (Bool × Unit) :=
 Option.bind (F118 (x.fst.fst, ())) fun b =>
 bif !b.fst then some (true, ())
 else Option.bind (F148 ([x.fst.snd.fst], ())) fun b => some (!b.fst, ())
def S147 : Sig := ⟨P147, R147, F147⟩
noncomputable def E147 : Env := { tab := tab, nt := 14, Γ := lookG [(118, [S118]), (148, [S148])], joins := lookN [], loops := lookN [] }
theorem raw147_eq (x : T70D × Unit) : afun E147 Tryz.f147 P147 R147 x = F147 x := by kernel_rfl
-- slices.IndexFunc[[]decamp/api.Item,decamp/api.Item]
def F159b (x : List T70D × Unit) : Option (Int × Unit) :=
 iterE (Int × Unit) (Int × Unit)
 (fun (x_1 : Int × Unit) =>
 bif decide (x_1.fst < Int.ofNat (List.length x.fst)) then
 Option.bind (idx x.fst x_1.fst)
 fun b =>
 Option.bind (F147 (b, ())) fun b =>
 bif b.fst then some (Sum.inr x_1) else some (Sum.inl (wrap64 (x_1.fst + 1), ()))
 else some (Sum.inr (-1, ())))
 big (0, ())
def S159b : Sig := ⟨P159b, R159b, F159b⟩
noncomputable def E159b : Env := { tab := tab, nt := 19, Γ := lookG [(147, [S147])], joins := lookN [], loops := lookN [(2, mkLoop ⟨[⟨.slot 8, (.int .i64), .pv⟩], [0, 1, 7], []⟩)] }
theorem raw159b_eq (x : List T70D × Unit) : afun E159b Tryz.f159 P159b R159b x = F159b x := by kernel_rfl
-- slices.ContainsFunc[[]decamp/api.Item,decamp/api.Item]
def F144b (x : List T70D × Unit) : Option (Bool × Unit) :=
 Option.bind (F159b x) fun b => some (decide (0 ≤ b.fst), ())
def S144b : Sig := ⟨P144b, R144b, F144b⟩
noncomputable def E144b : Env := { tab := tab, nt := 9, Γ := lookG [(147, [S147]), (159, [S159a, S159b])], joins := lookN [], loops := lookN [] }
theorem raw144b_eq (x : List T70D × Unit) : afun E144b Tryz.f144 P144b R144b x = F144b x := by kernel_rfl
-- decamp/talk.items
def F121 (x : List T70D × Int × Unit) : Option (Bool × Unit) :=
 bif decide (Int.ofNat (List.length x.fst) ≤ x.snd.fst) then
 Option.bind (F144b (x.fst, ())) fun b => some (!b.fst, ())
 else some (false, ())
def S121 : Sig := ⟨P121, R121, F121⟩
noncomputable def E121 : Env := { tab := tab, nt := 14, Γ := lookG [(144, [S144a, S144b]), (147, [S147])], joins := lookN [], loops := lookN [] }
theorem raw121_eq (x : List T70D × Int × Unit) : afun E121 Tryz.f121 P121 R121 x = F121 x := by kernel_rfl
-- decamp/talk.batches
def F120 (x : List TBD × Unit) : Option (Bool × Unit) :=
 iterE (Int × Unit) (Bool × Unit)
 (fun (x_1 : Int × Unit) =>
 bif decide (x_1.fst < Int.ofNat (List.length x.fst)) then
 Option.bind (idx x.fst x_1.fst)
 fun b =>
 Option.bind (F78 (b.fst, 1, 1099511627776, ())) fun b_1 =>
 bif !b_1.fst then some (Sum.inr (false, ()))
 else
 bif decide (0 < x_1.fst) then
 Option.bind (idx x.fst (wrap64 (x_1.fst - 1)))
 fun b_2 =>
 bif decide (b.fst ≤ b_2.fst) then some (Sum.inr (false, ()))
 else
 Option.bind (F121 (b.snd.fst, 48, ())) fun b =>
 bif !b.fst then some (Sum.inr (false, ()))
 else some (Sum.inl (wrap64 (x_1.fst + 1), ()))
 else
 Option.bind (F121 (b.snd.fst, 48, ())) fun b =>
 bif !b.fst then some (Sum.inr (false, ()))
 else some (Sum.inl (wrap64 (x_1.fst + 1), ()))
 else some (Sum.inr (decide (Int.ofNat (List.length x.fst) ≤ 64), ())))
 big (0, ())
def S120 : Sig := ⟨P120, R120, F120⟩
noncomputable def E120 : Env := { tab := tab, nt := 41, Γ := lookG [(78, [S78]), (121, [S121])], joins := lookN [], loops := lookN [(2, mkLoop ⟨[⟨.slot 7, (.int .i64), .pv⟩], [0, 5, 6], []⟩)] }
theorem raw120_eq (x : List TBD × Unit) : afun E120 Tryz.f120 P120 R120 x = F120 x := by kernel_rfl
-- decamp/talk.noHand
def F122 (x : T55D × Unit) : Option (Bool × Unit) :=
 bif decide (x.fst.fst = 0) then
 bif decide (x.fst.snd.fst = 0) then
 bif decide (Int.ofNat (List.length x.fst.snd.snd.fst) = 0) then
 some (decide (Int.ofNat (List.length x.fst.snd.snd.snd.fst) = 0), ())
 else some (false, ())
 else some (false, ())
 else some (false, ())
def S122 : Sig := ⟨P122, R122, F122⟩
noncomputable def E122 : Env := { tab := tab, nt := 23, Γ := lookG [], joins := lookN [], loops := lookN [] }
theorem raw122_eq (x : T55D × Unit) : afun E122 Tryz.f122 P122 R122 x = F122 x := by kernel_rfl
-- decamp/cmd.RightHand
def F123 (x : T55D × Unit) : Option (Bool × Unit) :=
 Option.bind (F141 ([x.fst.fst], ())) fun b =>
 bif b.fst then
 Option.bind (F143 ([x.fst.snd.fst], ())) fun b =>
 bif b.fst then Option.bind (F149 x.fst.snd.snd) fun b => some b else some (false, ())
 else some (false, ())
def S123 : Sig := ⟨P123, R123, F123⟩
noncomputable def E123 : Env := { tab := tab, nt := 20, Γ := lookG [(141, [S141]), (143, [S143]), (149, [S149])], joins := lookN [], loops := lookN [] }
theorem raw123_eq (x : T55D × Unit) : afun E123 Tryz.f123 P123 R123 x = F123 x := by kernel_rfl
-- decamp/cmd.RightMove$1
def F150a (x : List UInt8 × Unit) : Option (Bool × Unit) :=
 bif decide (x.fst = []) then some (true, ()) else Option.bind (F117 x) fun b => some b
def S150a : Sig := ⟨P150a, R150a, F150a⟩
noncomputable def E150a : Env := { tab := tab, nt := 12, Γ := lookG [(117, [S117])], joins := lookN [], loops := lookN [] }
theorem raw150a_eq (x : List UInt8 × Unit) : afun E150a Tryz.f150 P150a R150a x = F150a x := by kernel_rfl
-- decamp/cmd.RightMove$1
def F150b (x : List UInt8 × Unit) : Option (Bool × Unit) :=
 bif decide (x.fst = []) then some (true, ()) else Option.bind (F118 x) fun b => some b
def S150b : Sig := ⟨P150b, R150b, F150b⟩
noncomputable def E150b : Env := { tab := tab, nt := 12, Γ := lookG [(118, [S118])], joins := lookN [], loops := lookN [] }
theorem raw150b_eq (x : List UInt8 × Unit) : afun E150b Tryz.f150 P150b R150b x = F150b x := by kernel_rfl
-- decamp/cmd.RightMove
def F124 (x : T53D × Unit) : Option (Bool × Unit) :=
 bif decide (0 ≤ x.fst.fst) then
 bif decide (x.fst.fst ≤ 4) then
 Option.bind
 (F143
 ([x.fst.snd.fst, x.fst.snd.snd.fst, x.fst.snd.snd.snd.snd.snd.fst, x.fst.snd.snd.snd.snd.snd.snd.snd.fst,
 x.fst.snd.snd.snd.snd.snd.snd.snd.snd.fst, x.fst.snd.snd.snd.snd.snd.snd.snd.snd.snd.fst],
 ()))
 fun b =>
 bif b.fst then
 Option.bind (F150a (x.fst.snd.snd.snd.fst, ())) fun b =>
 bif b.fst then
 Option.bind (F150a (x.fst.snd.snd.snd.snd.fst, ())) fun b =>
 bif b.fst then
 Option.bind (F150b (x.fst.snd.snd.snd.snd.snd.snd.fst, ())) fun b => some b
 else some (false, ())
 else some (false, ())
 else some (false, ())
 else some (false, ())
 else some (false, ())
def S124 : Sig := ⟨P124, R124, F124⟩
noncomputable def E124 : Env := { tab := tab, nt := 46, Γ := lookG [(117, [S117]), (118, [S118]), (143, [S143]), (150, [S150a, S150b])], joins := lookN [], loops := lookN [] }
theorem raw124_eq (x : T53D × Unit) : afun E124 Tryz.f124 P124 R124 x = F124 x := by kernel_rfl
-- decamp/talk.answers
def F80 (x : TMD × Unit) : Option (Bool × Unit) :=
 Option.bind (F78 (x.fst.snd.snd.snd.snd.snd.snd.snd.snd.snd.fst, 0, 15, ())) fun b =>
 bif !b.fst then some (false, ())
 else
 bif decide (x.fst.fst = 8) then
 bif decide (-1 ≤ x.fst.snd.snd.snd.snd.snd.snd.snd.snd.snd.snd.fst) then
 bif decide (x.fst.snd.snd.snd.snd.snd.snd.snd.snd.snd.snd.fst < 3) then
 Option.bind (F119 (x.fst.snd.snd.snd.snd.snd.snd.snd.snd.snd.snd.snd.fst, ()))
 fun b => some b
 else some (false, ())
 else some (false, ())
 else
 bif decide (x.fst.fst = 9) then
 Option.bind (F78 (x.fst.snd.snd.snd.snd.snd.snd.snd.fst, 0, 1099511627777, ()))
 fun b =>
 bif b.fst then
 Option.bind (F120 (x.fst.snd.snd.snd.snd.snd.snd.snd.snd.snd.snd.snd.snd.fst, ()))
 fun b => some b
 else some (false, ())
 else
 bif decide (x.fst.fst = 10) then
 Option.bind (F121 (x.fst.snd.snd.snd.snd.snd.snd.snd.snd.snd.snd.snd.snd.snd.fst, 8, ()))
 fun b => some b
 else
 bif decide (x.fst.fst = 11) then
 Option.bind (F122 (x.fst.snd.snd.snd.snd.snd.snd.snd.snd.snd.snd.snd.snd.snd.snd.snd.fst, ()))
 fun b =>
 bif b.fst then some (true, ())
 else
 Option.bind (F123 (x.fst.snd.snd.snd.snd.snd.snd.snd.snd.snd.snd.snd.snd.snd.snd.snd.fst, ()))
 fun b => some b
 else
 Option.bind (F78 (x.fst.snd.snd.snd.snd.snd.snd.snd.fst, 0, 1099511627776, ()))
 fun b =>
 bif b.fst then
 Option.bind (F124 x.fst.snd.snd.snd.snd.snd.snd.snd.snd.snd.snd.snd.snd.snd.snd.snd.snd)
 fun b => some b
 else some (false, ())
def S80 : Sig := ⟨P80, R80, F80⟩
noncomputable def E80 : Env := { tab := tab, nt := 57, Γ := lookG [(78, [S78]), (119, [S119]), (120, [S120]), (121, [S121]), (122, [S122]), (123, [S123]), (124, [S124])], joins := lookN [], loops := lookN [] }
theorem raw80_eq (x : TMD × Unit) : afun E80 Tryz.f80 P80 R80 x = F80 x := by kernel_rfl
-- decamp/talk.Right
def F43 (x : TMD × Unit) : Option (Bool × Unit) :=
 bif decide (x.fst.fst < 1) then some (false, ())
 else
 bif decide (12 < x.fst.fst) then some (false, ())
 else
 Option.bind (F76 x)
 fun b =>
 Option.bind (F25 (b.fst, x)) fun b =>
 bif !b.fst then some (false, ())
 else
 bif decide (x.fst.fst = 1) then
 Option.bind (F77 (x.fst.snd.snd.fst, ())) fun b => some b
 else
 Option.bind (F78 (x.fst.snd.fst, 1, 1099511627776, ())) fun b =>
 bif !b.fst then some (false, ())
 else
 bif decide (x.fst.fst < 8) then Option.bind (F79 x) fun b => some b
 else Option.bind (F80 x) fun b => some b
def S43 : Sig := ⟨P43, R43, F43⟩
noncomputable def E43 : Env := { tab := tab, nt := 39, Γ := lookG [(25, [S25]), (76, [S76]), (77, [S77]), (78, [S78]), (79, [S79]), (80, [S80])], joins := lookN [], loops := lookN [] }
theorem raw43_eq (x : TMD × Unit) : afun E43 Tryz.f43 P43 R43 x = F43 x := by kernel_rfl
-- slices.Clone[[]decamp/api.Entry,decamp/api.Entry]
def F125 (x : List T25D × Unit) : Option (List T25D × Unit) :=
 bif List.isEmpty x.fst then
 bothE (List T25D × Unit) (some ([], ()))
 (Option.bind (appO [] x.fst) fun b => some (b, ()))
 else Option.bind (appO [] x.fst) fun b => some (b, ())
def S125 : Sig := ⟨P125, R125, F125⟩
noncomputable def E125 : Env := { tab := tab, nt := 8, Γ := lookG [], joins := lookN [], loops := lookN [] }
theorem raw125_eq (x : List T25D × Unit) : afun E125 Tryz.f125 P125 R125 x = F125 x := by kernel_rfl
-- slices.Clone[[]byte,byte]
def F126 (x : List UInt8 × Unit) : Option (List UInt8 × Unit) :=
 bif List.isEmpty x.fst then
 bothE (List UInt8 × Unit) (some ([], ()))
 (Option.bind (appU [] x.fst) fun b => some (b, ()))
 else Option.bind (appU [] x.fst) fun b => some (b, ())
def S126 : Sig := ⟨P126, R126, F126⟩
noncomputable def E126 : Env := { tab := tab, nt := 8, Γ := lookG [], joins := lookN [], loops := lookN [] }
theorem raw126_eq (x : List UInt8 × Unit) : afun E126 Tryz.f126 P126 R126 x = F126 x := by kernel_rfl
-- decamp/talk.cloneRaft
def F81 (x : T27D × Unit) : Option (T27D × Unit) :=
 Option.bind (F125 (x.fst.snd.snd.snd.snd.snd.snd.snd.snd.snd.fst, ()))
 fun b =>
 iterE (Int × List T25D × Unit)
 ((Int × Int × Int × Int × Int × Int × Int × Int × Bool × List T25D × T25D × Unit) × Unit)
 (fun (x_1 : Int × List T25D × Unit) =>
 bif decide (x_1.fst < Int.ofNat (List.length b.fst)) then
 Option.bind (idxN x_1.snd.fst x_1.fst) fun b =>
 Option.bind x_1.snd.fst[b]? fun (b : T25D) =>
 Option.bind (F126 b.snd.snd) fun b =>
 Option.bind (idxN x_1.snd.fst x_1.fst) fun b_1 =>
 Option.bind x_1.snd.fst[b_1]? fun (b_2 : T25D) =>
 some
 (Sum.inl
 (wrap64 (x_1.fst + 1),
 List.set x_1.snd.fst b_1 (b_2.fst, b_2.snd.fst, b.fst, b_2.snd.snd.snd), ()))
 else
 Option.map Sum.inr
 (Option.bind (F126 x.fst.snd.snd.snd.snd.snd.snd.snd.snd.snd.snd.fst.snd.snd)
 fun b =>
 some
 ((x.fst.fst, x.fst.snd.fst, x.fst.snd.snd.fst, x.fst.snd.snd.snd.fst, x.fst.snd.snd.snd.snd.fst,
 x.fst.snd.snd.snd.snd.snd.fst, x.fst.snd.snd.snd.snd.snd.snd.fst,
 x.fst.snd.snd.snd.snd.snd.snd.snd.fst, x.fst.snd.snd.snd.snd.snd.snd.snd.snd.fst, x_1.snd.fst,
 (x.fst.snd.snd.snd.snd.snd.snd.snd.snd.snd.snd.fst.fst,
 x.fst.snd.snd.snd.snd.snd.snd.snd.snd.snd.snd.fst.snd.fst, b.fst,
 x.fst.snd.snd.snd.snd.snd.snd.snd.snd.snd.snd.fst.snd.snd.snd),
 ()),
 ())))
 big (0, b)
def S81 : Sig := ⟨P81, R81, F81⟩
noncomputable def E81 : Env := { tab := tab, nt := 34, Γ := lookG [(125, [S125]), (126, [S126])], joins := lookN [], loops := lookN [(3, mkLoop ⟨[⟨.slot 11, (.int .i64), .pv⟩, ⟨.fld 1000 9, (.slice T25), .own false⟩], [1, 2, 10], [.site 2000, .fld 2000 0, .fld 2000 1, .fld 2000 2, .fld 2000 3, .fld 2000 4, .fld 2000 5, .fld 2000 6, .fld 2000 7, .fld 2000 8, .fld 2000 9, .fld 2000 10, .site 1000, .fld 1000 0, .fld 1000 1, .fld 1000 2, .fld 1000 3, .fld 1000 4, .fld 1000 5, .fld 1000 6, .fld 1000 7, .fld 1000 8, .fld 1000 10]⟩)] }
theorem raw81_eq (x : T27D × Unit) : afun E81 Tryz.f81 P81 R81 x = F81 x := by kernel_rfl
-- slices.Clone[[]decamp/api.Item,decamp/api.Item]
def F84 (x : List T70D × Unit) : Option (List T70D × Unit) :=
 bif List.isEmpty x.fst then
 bothE (List T70D × Unit)
 (some ([], ()))
 (Option.bind (appO [] x.fst)
 fun b =>
 some (b, ()))
 else
 Option.bind (appO [] x.fst)
 fun b =>
 some (b, ())
def S84 : Sig := ⟨P84, R84, F84⟩
noncomputable def E84 : Env := { tab := tab, nt := 8, Γ := lookG [], joins := lookN [], loops := lookN [] }
theorem raw84_eq (x : List T70D × Unit) : afun E84 Tryz.f84 P84 R84 x = F84 x := by kernel_rfl
-- decamp/talk.cloneReply
def F83 (x : T51D × Unit) : Option (T51D × Unit) :=
 Option.bind (F84 (x.fst.snd.snd.snd.snd.fst, ()))
 fun b =>
 some
 ((x.fst.fst, x.fst.snd.fst, x.fst.snd.snd.fst, x.fst.snd.snd.snd.fst, b.fst, x.fst.snd.snd.snd.snd.snd),
 ())
def S83 : Sig := ⟨P83, R83, F83⟩
noncomputable def E83 : Env := { tab := tab, nt := 8, Γ := lookG [(84, [S84])], joins := lookN [], loops := lookN [] }
theorem raw83_eq (x : T51D × Unit) : afun E83 Tryz.f83 P83 R83 x = F83 x := by kernel_rfl
-- slices.Clone[[]decamp/api.Sess,decamp/api.Sess]
def F129 (x : List T94D × Unit) : Option (List T94D × Unit) :=
 bif List.isEmpty x.fst then
 bothE
 (List
 (Int × Int × (Int × Int × Bool × Int × List T70D × Int × Int × Unit) × Unit) × Unit)
 (some ([], ()))
 (Option.bind (appM [] x.fst)
 fun b =>
 some (b, ()))
 else
 Option.bind (appM [] x.fst)
 fun b =>
 some (b, ())
def S129 : Sig := ⟨P129, R129, F129⟩
noncomputable def E129 : Env := { tab := tab, nt := 8, Γ := lookG [], joins := lookN [], loops := lookN [] }
theorem raw129_eq (x : List T94D × Unit) : afun E129 Tryz.f129 P129 R129 x = F129 x := by kernel_rfl
-- decamp/talk.cloneSess
def F86 (x : List T94D × Unit) : Option (List T94D × Unit) :=
 Option.bind (F129 x)
 fun b =>
 iterE
 (List
 (Int × Int × (Int × Int × Bool × Int × List T70D × Int × Int × Unit) × Unit) × Int × Unit)
 (List
 (Int × Int × (Int × Int × Bool × Int × List T70D × Int × Int × Unit) × Unit) × Unit)
 (fun (x :
 List
 (Int × Int × (Int × Int × Bool × Int × List T70D × Int × Int × Unit) × Unit) × Int × Unit) =>
 bif decide (x.snd.fst < Int.ofNat (List.length b.fst)) then
 Option.bind (idxN x.fst x.snd.fst) fun b =>
 Option.bind x.fst[b]?
 fun (b :
 Int × Int × (Int × Int × Bool × Int × List T70D × Int × Int × Unit) × Unit) =>
 Option.bind (F83 b.snd.snd)
 fun b =>
 Option.bind (idxN x.fst x.snd.fst) fun b_1 =>
 Option.bind x.fst[b_1]?
 fun (b_2 :
 Int × Int × (Int × Int × Bool × Int × List
 T70D × Int × Int × Unit) × Unit) =>
 some
 (Sum.inl
 (List.set x.fst b_1 (b_2.fst, b_2.snd.fst, b.fst, b_2.snd.snd.snd),
 wrap64 (x.snd.fst + 1), ()))
 else some (Sum.inr (x.fst, ())))
 big (b.fst, 0, ())
def S86 : Sig := ⟨P86, R86, F86⟩
noncomputable def E86 : Env := { tab := tab, nt := 24, Γ := lookG [(83, [S83]), (129, [S129])], joins := lookN [], loops := lookN [(3, mkLoop ⟨[⟨.slot 3, (.slice T94), .own false⟩, ⟨.slot 9, (.int .i64), .pv⟩], [8], []⟩)] }
theorem raw86_eq (x : List T94D × Unit) : afun E86 Tryz.f86 P86 R86 x = F86 x := by kernel_rfl
-- slices.Clone[[]decamp/api.Lease,decamp/api.Lease]
def F87 (x : List T113D × Unit) : Option (List T113D × Unit) :=
 bif List.isEmpty x.fst then
 bothE (List T113D × Unit) (some ([], ()))
 (Option.bind (appO [] x.fst) fun b => some (b, ()))
 else Option.bind (appO [] x.fst) fun b => some (b, ())
def S87 : Sig := ⟨P87, R87, F87⟩
noncomputable def E87 : Env := { tab := tab, nt := 8, Γ := lookG [], joins := lookN [], loops := lookN [] }
theorem raw87_eq (x : List T113D × Unit) : afun E87 Tryz.f87 P87 R87 x = F87 x := by kernel_rfl
-- slices.Clone[[]decamp/api.Cmp,decamp/api.Cmp]
def F127 (x : List T96D × Unit) : Option (List T96D × Unit) :=
 bif List.isEmpty x.fst then
 bothE (List T96D × Unit) (some ([], ()))
 (Option.bind (appO [] x.fst) fun b =>
 some (b, ()))
 else
 Option.bind (appO [] x.fst) fun b =>
 some (b, ())
def S127 : Sig := ⟨P127, R127, F127⟩
noncomputable def E127 : Env := { tab := tab, nt := 8, Γ := lookG [], joins := lookN [], loops := lookN [] }
theorem raw127_eq (x : List T96D × Unit) : afun E127 Tryz.f127 P127 R127 x = F127 x := by kernel_rfl
-- slices.Clone[[]decamp/api.Op,decamp/api.Op]
def F128 (x : List T48D × Unit) : Option (List T48D × Unit) :=
 bif List.isEmpty x.fst then
 bothE (List T48D × Unit) (some ([], ()))
 (Option.bind (appO [] x.fst) fun b =>
 some (b, ()))
 else
 Option.bind (appO [] x.fst) fun b =>
 some (b, ())
def S128 : Sig := ⟨P128, R128, F128⟩
noncomputable def E128 : Env := { tab := tab, nt := 8, Γ := lookG [], joins := lookN [], loops := lookN [] }
theorem raw128_eq (x : List T48D × Unit) : afun E128 Tryz.f128 P128 R128 x = F128 x := by kernel_rfl
-- decamp/talk.cloneCmd
def F82 (x : T28D × Unit) : Option (T28D × Unit) :=
 Option.bind (F127 (x.fst.snd.snd.snd.snd.snd.snd.snd.fst, ()))
 fun b =>
 Option.bind (F128 (x.fst.snd.snd.snd.snd.snd.snd.snd.snd.fst, ()))
 fun b_1 =>
 Option.bind (F128 (x.fst.snd.snd.snd.snd.snd.snd.snd.snd.snd.fst, ()))
 fun b_2 =>
 Option.bind (F84 (x.fst.snd.snd.snd.snd.snd.snd.snd.snd.snd.snd.snd.snd.snd.snd.fst, ()))
 fun b_3 =>
 Option.bind (F86 (x.fst.snd.snd.snd.snd.snd.snd.snd.snd.snd.snd.snd.snd.snd.snd.snd.fst, ()))
 fun b_4 =>
 Option.bind (F87 x.fst.snd.snd.snd.snd.snd.snd.snd.snd.snd.snd.snd.snd.snd.snd.snd.snd)
 fun b_5 =>
 some
 ((x.fst.fst, x.fst.snd.fst, x.fst.snd.snd.fst, x.fst.snd.snd.snd.fst, x.fst.snd.snd.snd.snd.fst,
 x.fst.snd.snd.snd.snd.snd.fst, x.fst.snd.snd.snd.snd.snd.snd.fst, b.fst, b_1.fst, b_2.fst,
 x.fst.snd.snd.snd.snd.snd.snd.snd.snd.snd.snd.fst,
 x.fst.snd.snd.snd.snd.snd.snd.snd.snd.snd.snd.snd.fst,
 x.fst.snd.snd.snd.snd.snd.snd.snd.snd.snd.snd.snd.snd.fst,
 x.fst.snd.snd.snd.snd.snd.snd.snd.snd.snd.snd.snd.snd.snd.fst, b_3.fst, b_4.fst, b_5),
 ())
def S82 : Sig := ⟨P82, R82, F82⟩
noncomputable def E82 : Env := { tab := tab, nt := 28, Γ := lookG [(84, [S84]), (86, [S86]), (87, [S87]), (127, [S127]), (128, [S128])], joins := lookN [], loops := lookN [] }
theorem raw82_eq (x : T28D × Unit) : afun E82 Tryz.f82 P82 R82 x = F82 x := by kernel_rfl
-- slices.Clone[[]decamp/api.Batch,decamp/api.Batch]
def F85 (x : List TBD × Unit) : Option (List TBD × Unit) :=
 bif List.isEmpty x.fst then
 bothE
 (List (Int × List T70D × Unit) × Unit)
 (some ([], ()))
 (Option.bind (appO [] x.fst)
 fun b =>
 some (b, ()))
 else
 Option.bind (appO [] x.fst)
 fun b =>
 some (b, ())
def S85 : Sig := ⟨P85, R85, F85⟩
noncomputable def E85 : Env := { tab := tab, nt := 8, Γ := lookG [], joins := lookN [], loops := lookN [] }
theorem raw85_eq (x : List TBD × Unit) : afun E85 Tryz.f85 P85 R85 x = F85 x := by kernel_rfl
-- decamp/talk.Clone
def F44 (x : TMD × Unit) : Option (TMD × Unit) :=
 Option.bind (F81 (x.fst.snd.snd.fst, ()))
 fun b =>
 Option.bind (F82 x.fst.snd.snd.snd.fst.snd.snd)
 fun b_1 =>
 Option.bind (F83 (x.fst.snd.snd.snd.snd.snd.snd.snd.snd.snd.snd.snd.fst, ()))
 fun b_2 =>
 Option.bind (F84 (x.fst.snd.snd.snd.snd.snd.snd.snd.snd.snd.snd.snd.snd.snd.fst, ()))
 fun b_3 =>
 Option.bind (F85 (x.fst.snd.snd.snd.snd.snd.snd.snd.snd.snd.snd.snd.snd.fst, ()))
 fun b_4 =>
 iterE
 (Int × List
 (Int × List T70D × Unit) × Unit)
 ((Int × Int × (Int × Int × Int × Int × Int × Int × Int × Int × Bool × List T25D × T25D × Unit) × (Int × Int × (Int × List UInt8 × List UInt8 × List UInt8 × Int × Int × Int × List T96D × List T48D × List T48D × Int × Int × Int × Bool × List
 T70D × List
 (Int × Int × (Int × Int × Bool × Int × List
 T70D × Int × Int × Unit) × Unit) × List T113D × Unit) × Unit) × Int × List UInt8 × List UInt8 × Int × Int × Int × Int × (Int × Int × Bool × Int × List
 T70D × Int × Int × Unit) × List
 (Int × List
 T70D × Unit) × List
 T70D × Bool × (Int × Int × List
 (Int × Int × (Int × Int × Bool × Int × List
 T70D × Int × Int × Unit) × Unit) × List T113D × Unit) × T53D × Unit) × Unit)
 (fun (x_1 :
 Int × List
 (Int × List T70D × Unit) × Unit) =>
 bif decide (x_1.fst < Int.ofNat (List.length b_4.fst)) then
 Option.bind (idxN x_1.snd.fst x_1.fst) fun b =>
 Option.bind x_1.snd.fst[b]?
 fun (b :
 Int × List T70D × Unit) =>
 Option.bind (F84 b.snd)
 fun b =>
 Option.bind (idxN x_1.snd.fst x_1.fst) fun b_5 =>
 Option.bind x_1.snd.fst[b_5]?
 fun (b_6 :
 Int × List
 T70D × Unit) =>
 some
 (Sum.inl
 (wrap64 (x_1.fst + 1),
 List.set x_1.snd.fst b_5 (b_6.fst, b.fst, b_6.snd.snd), ()))
 else
 Option.map Sum.inr
 (Option.bind
 (F86
 (x.fst.snd.snd.snd.snd.snd.snd.snd.snd.snd.snd.snd.snd.snd.snd.snd.fst.snd.snd.fst, ()))
 fun b_5 =>
 Option.bind
 (F87 x.fst.snd.snd.snd.snd.snd.snd.snd.snd.snd.snd.snd.snd.snd.snd.snd.fst.snd.snd.snd)
 fun b_6 =>
 some
 ((x.fst.fst, x.fst.snd.fst, b.fst,
 (x.fst.snd.snd.snd.fst.fst, x.fst.snd.snd.snd.fst.snd.fst, b_1.fst,
 x.fst.snd.snd.snd.fst.snd.snd.snd),
 x.fst.snd.snd.snd.snd.fst, x.fst.snd.snd.snd.snd.snd.fst,
 x.fst.snd.snd.snd.snd.snd.snd.fst, x.fst.snd.snd.snd.snd.snd.snd.snd.fst,
 x.fst.snd.snd.snd.snd.snd.snd.snd.snd.fst, x.fst.snd.snd.snd.snd.snd.snd.snd.snd.snd.fst,
 x.fst.snd.snd.snd.snd.snd.snd.snd.snd.snd.snd.fst, b_2.fst, x_1.snd.fst, b_3.fst,
 x.fst.snd.snd.snd.snd.snd.snd.snd.snd.snd.snd.snd.snd.snd.snd.fst,
 (x.fst.snd.snd.snd.snd.snd.snd.snd.snd.snd.snd.snd.snd.snd.snd.snd.fst.fst,
 x.fst.snd.snd.snd.snd.snd.snd.snd.snd.snd.snd.snd.snd.snd.snd.snd.fst.snd.fst, b_5.fst,
 b_6.fst,
 x.fst.snd.snd.snd.snd.snd.snd.snd.snd.snd.snd.snd.snd.snd.snd.snd.fst.snd.snd.snd.snd),
 x.fst.snd.snd.snd.snd.snd.snd.snd.snd.snd.snd.snd.snd.snd.snd.snd.snd),
 ())))
 big (0, b_4)
def S44 : Sig := ⟨P44, R44, F44⟩
noncomputable def E44 : Env := { tab := tab, nt := 58, Γ := lookG [(81, [S81]), (82, [S82]), (83, [S83]), (84, [S84]), (85, [S85]), (86, [S86]), (87, [S87])], joins := lookN [], loops := lookN [(4, mkLoop ⟨[⟨.slot 29, (.int .i64), .pv⟩, ⟨.fld 1000 12, (.slice TB), .own false⟩], [1, 2, 28], [.site 2000, .fld 2000 0, .fld 2000 1, .fld 2000 2, .fld 2000 3, .fld 2000 4, .fld 2000 5, .fld 2000 6, .fld 2000 7, .fld 2000 8, .fld 2000 9, .fld 2000 10, .fld 2000 11, .fld 2000 12, .fld 2000 13, .fld 2000 14, .fld 2000 15, .fld 2000 16, .site 1000, .fld 1000 0, .fld 1000 1, .fld 1000 2, .fld 1000 3, .fld 1000 4, .fld 1000 5, .fld 1000 6, .fld 1000 7, .fld 1000 8, .fld 1000 9, .fld 1000 10, .fld 1000 11, .fld 1000 13, .fld 1000 14, .fld 1000 15, .fld 1000 16, .row 2003001]⟩)] }
theorem raw44_eq (x : TMD × Unit) : afun E44 Tryz.f44 P44 R44 x = F44 x := by kernel_rfl
-- (*decamp/caller.Caller).parcel
def F45 (x : Y100D × Unit) : Option (Y58D × Y100D × Unit) :=
 Option.bind (F44 x.fst.snd.snd.snd.snd.snd.snd.snd.snd)
 fun b =>
 some
 ((x.fst.fst,
 wrap64 (wrap64 (4 * x.fst.snd.fst) + x.fst.snd.snd.snd.snd.snd.fst), b),
 x)
def S45 : Sig := ⟨P45, R45, F45⟩
noncomputable def E45 : Env := { tab := tab, nt := 23, Γ := lookG [(44, [S44])], joins := lookN [], loops := lookN [] }
theorem raw45_eq (x : Y100D × Unit) : afun E45 Tryz.f45 P45 R45 x = F45 x := by kernel_rfl
-- (*decamp/caller.Caller).Ask
def F12 (x : Y100D × TMD × Unit) : Option (Y58D × Int × Y100D × Unit) :=
 bif x.fst.snd.snd.snd.snd.snd.snd.snd.fst then
 some
 ((0, 0,
 (0, 0, (0, 0, 0, 0, 0, 0, 0, 0, false, [], (0, 0, [], ()), ()),
 (0, 0, (0, [], [], [], 0, 0, 0, [], [], [], 0, 0, 0, false, [], [], [], ()), ()), 0, [], [],
 0, 0, 0, 0, (0, 0, false, 0, [], 0, 0, ()), [], [], false, (0, 0, [], [], ()),
 (0, 0, 0, [], [], 0, [], 0, 0, 0, ()), ()),
 ()),
 7, x.fst, ())
 else
 Option.bind (F18 (x.snd.fst.fst, ())) fun b =>
 bif decide (b.fst = 0) then
 some
 ((0, 0,
 (0, 0, (0, 0, 0, 0, 0, 0, 0, 0, false, [], (0, 0, [], ()), ()),
 (0, 0, (0, [], [], [], 0, 0, 0, [], [], [], 0, 0, 0, false, [], [], [], ()), ()), 0, [],
 [], 0, 0, 0, 0, (0, 0, false, 0, [], 0, 0, ()), [], [], false, (0, 0, [], [], ()),
 (0, 0, 0, [], [], 0, [], 0, 0, 0, ()), ()),
 ()),
 1, x.fst, ())
 else
 Option.bind
 (F43
 ((x.snd.fst.fst, wrap64 (x.fst.snd.snd.snd.snd.fst + 1), x.snd.fst.snd.snd), ()))
 fun b =>
 bif !b.fst then
 some
 ((0, 0,
 (0, 0, (0, 0, 0, 0, 0, 0, 0, 0, false, [], (0, 0, [], ()), ()),
 (0, 0, (0, [], [], [], 0, 0, 0, [], [], [], 0, 0, 0, false, [], [], [], ()), ()), 0,
 [], [], 0, 0, 0, 0, (0, 0, false, 0, [], 0, 0, ()), [], [], false,
 (0, 0, [], [], ()), (0, 0, 0, [], [], 0, [], 0, 0, 0, ()), ()),
 ()),
 1, x.fst, ())
 else
 Option.bind
 (F44
 ((x.snd.fst.fst, wrap64 (x.fst.snd.snd.snd.snd.fst + 1), x.snd.fst.snd.snd),
 ()))
 fun b =>
 Option.bind
 (F45
 ((x.fst.fst, x.fst.snd.fst, x.fst.snd.snd.fst, x.fst.snd.snd.snd.fst,
 wrap64 (x.fst.snd.snd.snd.snd.fst + 1), x.fst.snd.snd.snd.snd.snd.fst, 0, true,
 b),
 ()))
 fun b =>
 some (b.fst, 0, b.snd)
def S12 : Sig := ⟨P12, R12, F12⟩
noncomputable def E12 : Env := { tab := tab, nt := 50, Γ := lookG [(18, [S18]), (43, [S43]), (44, [S44]), (45, [S45])], joins := lookN [], loops := lookN [] }
theorem raw12_eq (x : Y100D × TMD × Unit) : afun E12 Tryz.f12 P12 R12 x = F12 x := by kernel_rfl
-- (*decamp/caller.Caller).Ask
def F12a (x : TMD × Unit) : Option (Y58D × Int × Unit) :=
 some
 ((0, 0,
 (0, 0, (0, 0, 0, 0, 0, 0, 0, 0, false, [], (0, 0, [], ()), ()),
 (0, 0, (0, [], [], [], 0, 0, 0, [], [], [], 0, 0, 0, false, [], [], [], ()), ()), 0, [], [],
 0, 0, 0, 0, (0, 0, false, 0, [], 0, 0, ()), [], [], false, (0, 0, [], [], ()),
 (0, 0, 0, [], [], 0, [], 0, 0, 0, ()), ()),
 ()),
 1, ())
def S12a : Sig := ⟨P12a, R12a, F12a⟩
noncomputable def E12a : Env := { tab := tab, nt := 50, Γ := lookG [(18, [S18]), (43, [S43]), (44, [S44]), (45, [S45])], joins := lookN [], loops := lookN [] }
theorem raw12a_eq (x : TMD × Unit) : afun E12a Tryz.f12 P12a R12a x = F12a x := by kernel_rfl
-- (*decamp/caller.Caller).Open
def F19 (x : Y100D × Unit) : Option (Bool × Y100D × Unit) :=
 some (x.fst.snd.snd.snd.snd.snd.snd.snd.fst, x)
def S19 : Sig := ⟨P19, R19, F19⟩
noncomputable def E19 : Env := { tab := tab, nt := 11, Γ := lookG [], joins := lookN [], loops := lookN [] }
theorem raw19_eq (x : Y100D × Unit) : afun E19 Tryz.f19 P19 R19 x = F19 x := by kernel_rfl
-- (*decamp/caller.Caller).Open
def F19a (x : Unit) : Option (Bool × Unit) := some (false, ())
def S19a : Sig := ⟨P19a, R19a, F19a⟩
noncomputable def E19a : Env := { tab := tab, nt := 11, Γ := lookG [], joins := lookN [], loops := lookN [] }
theorem raw19a_eq (x : Unit) : afun E19a Tryz.f19 P19a R19a x = F19a x := by kernel_rfl
-- decamp/decamplaw24.awake
def F7 (x : Unit) : Option (Bool × Unit) :=
 Option.bind (F10 (8, 1, 3, 2, 10, ()))
 fun b =>
 bif b.fst.fst then
 bif !decide (b.snd.fst = 0) then some (false, ())
 else
 Option.bind
 (F12
 (b.fst.snd,
 (7, 0, (0, 0, 0, 0, 0, 0, 0, 0, false, [], (0, 0, [], ()), ()),
 (0, 0, (0, [], [], [], 0, 0, 0, [], [], [], 0, 0, 0, false, [], [], [], ()), ()), 0, [],
 [], 0, 0, 0, 0, (0, 0, false, 0, [], 0, 0, ()), [], [], false, (0, 0, [], [], ()),
 (0, 0, 0, [], [], 0, [], 0, 0, 0, ()), ()),
 ()))
 fun b =>
 bif decide (b.snd.fst = 0) then
 bif decide (b.fst.fst = 8) then
 bif decide (b.fst.snd.fst = 4) then
 bif decide (b.fst.snd.snd.fst.snd.fst = 11) then
 Option.bind (F19 b.snd.snd)
 fun b =>
 some (b.fst, ())
 else some (false, ())
 else some (false, ())
 else some (false, ())
 else some (false, ())
 else
 bif !decide (b.snd.fst = 0) then some (false, ())
 else
 Option.bind
 (F12a
 ((7, 0, (0, 0, 0, 0, 0, 0, 0, 0, false, [], (0, 0, [], ()), ()),
 (0, 0, (0, [], [], [], 0, 0, 0, [], [], [], 0, 0, 0, false, [], [], [], ()), ()), 0, [],
 [], 0, 0, 0, 0, (0, 0, false, 0, [], 0, 0, ()), [], [], false, (0, 0, [], [], ()),
 (0, 0, 0, [], [], 0, [], 0, 0, 0, ()), ()),
 ()))
 fun b =>
 bif decide (b.snd.fst = 0) then
 bif decide (b.fst.fst = 8) then
 bif decide (b.fst.snd.fst = 4) then
 bif decide (b.fst.snd.snd.fst.snd.fst = 11) then
 Option.bind (F19a ()) fun b => some b
 else some (false, ())
 else some (false, ())
 else some (false, ())
 else some (false, ())
def S7 : Sig := ⟨P7, R7, F7⟩
noncomputable def E7 : Env := { tab := tab, nt := 39, Γ := lookG [(10, [S10]), (12, [S12, S12a]), (19, [S19, S19a])], joins := lookN [], loops := lookN [] }
theorem raw7_eq (x : Unit) : afun E7 Tryz.f7 P7 R7 x = F7 x := by kernel_rfl
-- decamp/decampref17.Few
def F28 (x : T28D × Unit) : Option (Bool × Unit) :=
 bif decide (10 < Int.ofNat (List.length x.fst.snd.snd.snd.snd.snd.snd.snd.fst)) then some (false, ())
 else
 bif decide (10 < Int.ofNat (List.length x.fst.snd.snd.snd.snd.snd.snd.snd.snd.fst)) then some (false, ())
 else
 bif decide (10 < Int.ofNat (List.length x.fst.snd.snd.snd.snd.snd.snd.snd.snd.snd.fst)) then
 some (false, ())
 else
 bif decide (80 < Int.ofNat (List.length x.fst.snd.snd.snd.snd.snd.snd.snd.snd.snd.snd.snd.snd.snd.snd.fst)) then
 some (false, ())
 else
 bif
 decide
 (20 <
 Int.ofNat (List.length x.fst.snd.snd.snd.snd.snd.snd.snd.snd.snd.snd.snd.snd.snd.snd.snd.fst)) then
 some (false, ())
 else
 bif
 decide
 (80 <
 Int.ofNat
 (List.length x.fst.snd.snd.snd.snd.snd.snd.snd.snd.snd.snd.snd.snd.snd.snd.snd.snd.fst)) then
 some (false, ())
 else
 iterE (Int × Int × Unit) (Bool × Unit)
 (fun (x_1 : Int × Int × Unit) =>
 bif
 decide
 (x_1.snd.fst <
 Int.ofNat
 (List.length x.fst.snd.snd.snd.snd.snd.snd.snd.snd.snd.snd.snd.snd.snd.snd.fst)) then
 Option.bind (idx x.fst.snd.snd.snd.snd.snd.snd.snd.snd.snd.snd.snd.snd.snd.snd.fst x_1.snd.fst)
 fun b =>
 Option.bind (idx x.fst.snd.snd.snd.snd.snd.snd.snd.snd.snd.snd.snd.snd.snd.snd.fst x_1.snd.fst)
 fun b_1 =>
 some
 (Sum.inl
 (wrap64
 (wrap64 (x_1.fst + Int.ofNat (List.length b.fst)) +
 Int.ofNat (List.length b_1.snd.fst.snd.snd.snd.snd.fst)),
 wrap64 (x_1.snd.fst + 1), ()))
 else
 Option.map Sum.inr
 (iterE (Int × Int × Unit) (Bool × Unit)
 (fun (x_2 : Int × Int × Unit) =>
 bif
 decide
 (x_2.snd.fst <
 Int.ofNat
 (List.length
 x.fst.snd.snd.snd.snd.snd.snd.snd.snd.snd.snd.snd.snd.snd.snd.snd.fst)) then
 Option.bind
 (idx x.fst.snd.snd.snd.snd.snd.snd.snd.snd.snd.snd.snd.snd.snd.snd.snd.fst x_2.snd.fst)
 fun b =>
 bif decide (12 < Int.ofNat (List.length b.snd.snd.fst.snd.snd.snd.snd.fst)) then
 some (Sum.inr (false, ()))
 else
 Option.bind
 (idx x.fst.snd.snd.snd.snd.snd.snd.snd.snd.snd.snd.snd.snd.snd.snd.snd.fst
 x_2.snd.fst)
 fun b =>
 iterE (Int × Int × Unit) (Int × Int × Unit ⊕ Bool × Unit)
 (fun (x_3 : Int × Int × Unit) =>
 bif
 decide
 (x_3.snd.fst <
 Int.ofNat (List.length b.snd.snd.fst.snd.snd.snd.snd.fst)) then
 Option.bind
 (idx x.fst.snd.snd.snd.snd.snd.snd.snd.snd.snd.snd.snd.snd.snd.snd.snd.fst
 x_2.snd.fst)
 fun b =>
 Option.bind (idx b.snd.snd.fst.snd.snd.snd.snd.fst x_3.snd.fst)
 fun b =>
 Option.bind
 (idx x.fst.snd.snd.snd.snd.snd.snd.snd.snd.snd.snd.snd.snd.snd.snd.snd.fst
 x_2.snd.fst)
 fun b_1 =>
 Option.bind (idx b_1.snd.snd.fst.snd.snd.snd.snd.fst x_3.snd.fst)
 fun b_2 =>
 some
 (Sum.inl
 (wrap64
 (wrap64
 (x_3.fst + Int.ofNat (List.length b.fst)) +
 Int.ofNat (List.length b_2.snd.fst.snd.snd.snd.snd.fst)),
 wrap64 (x_3.snd.fst + 1), ()))
 else
 some
 (Sum.inr
 (Sum.inl
 (x_3.fst, wrap64 (x_2.snd.fst + 1), ()))))
 big (x_2.fst, 0, ())
 else
 Option.map Sum.inr
 (iterE (Int × Int × Unit) (Bool × Unit)
 (fun (x_3 : Int × Int × Unit) =>
 bif
 decide
 (x_3.snd.fst <
 Int.ofNat (List.length x.fst.snd.snd.snd.snd.snd.snd.snd.snd.fst)) then
 Option.bind (idx x.fst.snd.snd.snd.snd.snd.snd.snd.snd.fst x_3.snd.fst)
 fun b =>
 Option.bind (idx x.fst.snd.snd.snd.snd.snd.snd.snd.snd.fst x_3.snd.fst)
 fun b_1 =>
 Option.bind (idx x.fst.snd.snd.snd.snd.snd.snd.snd.snd.fst x_3.snd.fst)
 fun b_2 =>
 some
 (Sum.inl
 (wrap64
 (wrap64
 (wrap64
 (x_3.fst + Int.ofNat (List.length b.snd.fst)) +
 Int.ofNat (List.length b_1.snd.snd.fst)) +
 Int.ofNat (List.length b_2.snd.snd.snd.fst)),
 wrap64 (x_3.snd.fst + 1), ()))
 else
 Option.map Sum.inr
 (iterE (Int × Int × Unit) (Bool × Unit)
 (fun (x_4 : Int × Int × Unit) =>
 bif
 decide
 (x_4.snd.fst <
 Int.ofNat
 (List.length x.fst.snd.snd.snd.snd.snd.snd.snd.snd.snd.fst)) then
 Option.bind (idx x.fst.snd.snd.snd.snd.snd.snd.snd.snd.snd.fst x_4.snd.fst)
 fun b =>
 Option.bind
 (idx x.fst.snd.snd.snd.snd.snd.snd.snd.snd.snd.fst x_4.snd.fst)
 fun b_1 =>
 Option.bind
 (idx x.fst.snd.snd.snd.snd.snd.snd.snd.snd.snd.fst x_4.snd.fst)
 fun b_2 =>
 some
 (Sum.inl
 (wrap64
 (wrap64
 (wrap64
 (x_4.fst + Int.ofNat (List.length b.snd.fst)) +
 Int.ofNat (List.length b_1.snd.snd.fst)) +
 Int.ofNat (List.length b_2.snd.snd.snd.fst)),
 wrap64 (x_4.snd.fst + 1), ()))
 else
 Option.map Sum.inr
 (iterE (Int × Int × Unit) (Bool × Unit)
 (fun (x_5 : Int × Int × Unit) =>
 bif
 decide
 (x_5.snd.fst <
 Int.ofNat
 (List.length x.fst.snd.snd.snd.snd.snd.snd.snd.fst)) then
 Option.bind (idx x.fst.snd.snd.snd.snd.snd.snd.snd.fst x_5.snd.fst)
 fun b =>
 Option.bind
 (idx x.fst.snd.snd.snd.snd.snd.snd.snd.fst x_5.snd.fst)
 fun b_1 =>
 some
 (Sum.inl
 (wrap64
 (wrap64
 (x_5.fst + Int.ofNat (List.length b.fst)) +
 Int.ofNat (List.length b_1.snd.snd.snd.snd.fst)),
 wrap64 (x_5.snd.fst + 1), ()))
 else some (Sum.inr (decide (x_5.fst ≤ 30000), ())))
 big (x_4.fst, 0, ())))
 big (x_3.fst, 0, ())))
 big (x_2.fst, 0, ())))
 big (x_1.fst, 0, ())))
 big
 (wrap64
 (wrap64
 (Int.ofNat (List.length x.fst.snd.fst) + Int.ofNat (List.length x.fst.snd.snd.fst)) +
 Int.ofNat (List.length x.fst.snd.snd.snd.fst)),
 0, ())
def S28 : Sig := ⟨P28, R28, F28⟩
noncomputable def E28 : Env := { tab := tab, nt := 226, Γ := lookG [], joins := lookN [], loops := lookN [(5, mkLoop ⟨[⟨.slot 3, (.int .i64), .pv⟩, ⟨.slot 58, (.int .i64), .pv⟩], [1, 57], [.site 1000, .fld 1000 0, .fld 1000 1, .fld 1000 2, .fld 1000 3, .fld 1000 4, .fld 1000 5, .fld 1000 6, .fld 1000 7, .fld 1000 8, .fld 1000 9, .fld 1000 10, .fld 1000 11, .fld 1000 12, .fld 1000 13, .fld 1000 14, .fld 1000 15, .fld 1000 16]⟩), (10, mkLoop ⟨[⟨.slot 3, (.int .i64), .pv⟩, ⟨.slot 83, (.int .i64), .pv⟩], [1, 82], [.site 1000, .fld 1000 0, .fld 1000 1, .fld 1000 2, .fld 1000 3, .fld 1000 4, .fld 1000 5, .fld 1000 6, .fld 1000 7, .fld 1000 8, .fld 1000 9, .fld 1000 10, .fld 1000 11, .fld 1000 12, .fld 1000 13, .fld 1000 14, .fld 1000 15, .fld 1000 16]⟩), (15, mkLoop ⟨[⟨.slot 3, (.int .i64), .pv⟩, ⟨.slot 103, (.int .i64), .pv⟩], [1, 5, 82, 83, 102], [.site 1000, .fld 1000 0, .fld 1000 1, .fld 1000 2, .fld 1000 3, .fld 1000 4, .fld 1000 5, .fld 1000 6, .fld 1000 7, .fld 1000 8, .fld 1000 9, .fld 1000 10, .fld 1000 11, .fld 1000 12, .fld 1000 13, .fld 1000 14, .fld 1000 15, .fld 1000 16]⟩), (21, mkLoop ⟨[⟨.slot 3, (.int .i64), .pv⟩, ⟨.slot 139, (.int .i64), .pv⟩], [1, 138], [.site 1000, .fld 1000 0, .fld 1000 1, .fld 1000 2, .fld 1000 3, .fld 1000 4, .fld 1000 5, .fld 1000 6, .fld 1000 7, .fld 1000 8, .fld 1000 9, .fld 1000 10, .fld 1000 11, .fld 1000 12, .fld 1000 13, .fld 1000 14, .fld 1000 15, .fld 1000 16]⟩), (26, mkLoop ⟨[⟨.slot 3, (.int .i64), .pv⟩, ⟨.slot 171, (.int .i64), .pv⟩], [1, 170], [.site 1000, .fld 1000 0, .fld 1000 1, .fld 1000 2, .fld 1000 3, .fld 1000 4, .fld 1000 5, .fld 1000 6, .fld 1000 7, .fld 1000 8, .fld 1000 9, .fld 1000 10, .fld 1000 11, .fld 1000 12, .fld 1000 13, .fld 1000 14, .fld 1000 15, .fld 1000 16]⟩), (31, mkLoop ⟨[⟨.slot 3, (.int .i64), .pv⟩, ⟨.slot 203, (.int .i64), .pv⟩], [1, 202], [.site 1000, .fld 1000 0, .fld 1000 1, .fld 1000 2, .fld 1000 3, .fld 1000 4, .fld 1000 5, .fld 1000 6, .fld 1000 7, .fld 1000 8, .fld 1000 9, .fld 1000 10, .fld 1000 11, .fld 1000 12, .fld 1000 13, .fld 1000 14, .fld 1000 15, .fld 1000 16]⟩)] }
theorem raw28_eq (x : T28D × Unit) : afun E28 Tryz.f28 P28 R28 x = F28 x := by kernel_rfl
-- decamp/decampref07.Few
def F63 (x : List T25D × Int × Unit) : Option (Bool × Unit) :=
 iterE (Int × Int × Unit) (Bool × Unit)
 (fun (x_1 : Int × Int × Unit) =>
 bif decide (x_1.snd.fst < Int.ofNat (List.length x.fst)) then
 Option.bind (idx x.fst x_1.snd.fst) fun b =>
 bif decide (x.snd.fst ≤ x_1.snd.fst) then some (Sum.inr (false, ()))
 else
 bif decide (40000 < wrap64 (x_1.fst + Int.ofNat (List.length b.snd.snd.fst))) then
 some (Sum.inr (false, ()))
 else
 some
 (Sum.inl
 (wrap64 (x_1.fst + Int.ofNat (List.length b.snd.snd.fst)),
 wrap64 (x_1.snd.fst + 1), ()))
 else some (Sum.inr (true, ())))
 big (0, 0, ())
def S63 : Sig := ⟨P63, R63, F63⟩
noncomputable def E63 : Env := { tab := tab, nt := 28, Γ := lookG [], joins := lookN [], loops := lookN [(3, mkLoop ⟨[⟨.slot 5, (.int .i64), .pv⟩, ⟨.slot 9, (.int .i64), .pv⟩], [0, 1, 8], []⟩)] }
theorem raw63_eq (x : List T25D × Int × Unit) : afun E63 Tryz.f63 P63 R63 x = F63 x := by kernel_rfl
-- decamp/decampref11.Few
def F29 (x : T27D × Unit) : Option (Bool × Unit) :=
 Option.bind (F63 (x.fst.snd.snd.snd.snd.snd.snd.snd.snd.snd.fst, 6, ())) fun b =>
 bif b.fst then
 some
 (decide (Int.ofNat (List.length x.fst.snd.snd.snd.snd.snd.snd.snd.snd.snd.snd.fst.snd.snd.fst) ≤ 2000),
 ())
 else some (false, ())
def S29 : Sig := ⟨P29, R29, F29⟩
noncomputable def E29 : Env := { tab := tab, nt := 13, Γ := lookG [(63, [S63])], joins := lookN [], loops := lookN [] }
theorem raw29_eq (x : T27D × Unit) : afun E29 Tryz.f29 P29 R29 x = F29 x := by kernel_rfl
-- decamp/decampref22.Few
def F8 (x : TMD × Unit) : Option (Bool × Unit) :=
 iterE (Int × Int × Unit) (Bool × Unit)
 (fun (x_1 : Int × Int × Unit) =>
 bif decide (x_1.snd.fst < Int.ofNat (List.length x.fst.snd.snd.snd.snd.snd.snd.snd.snd.snd.snd.snd.snd.fst)) then
 Option.bind (idx x.fst.snd.snd.snd.snd.snd.snd.snd.snd.snd.snd.snd.snd.fst x_1.snd.fst)
 fun b =>
 bif
 decide
 (400 <
 wrap64
 (wrap64 (x_1.fst + 1) + Int.ofNat (List.length b.snd.fst))) then
 some (Sum.inr (false, ()))
 else
 Option.bind (idx x.fst.snd.snd.snd.snd.snd.snd.snd.snd.snd.snd.snd.snd.fst x_1.snd.fst)
 fun b_1 =>
 Option.bind
 (F28
 ((0, [], [], [], 0, 0, 0, [], [], [], 0, 0, 0, false, b_1.snd.fst, [], [], ()), ()))
 fun b_2 =>
 bif !b_2.fst then some (Sum.inr (false, ()))
 else
 some
 (Sum.inl
 (wrap64
 (wrap64 (x_1.fst + 1) + Int.ofNat (List.length b.snd.fst)),
 wrap64 (x_1.snd.fst + 1), ()))
 else
 Option.map Sum.inr
 (Option.bind (F29 (x.fst.snd.snd.fst, ())) fun b =>
 bif b.fst then
 Option.bind (F28 x.fst.snd.snd.snd.fst.snd.snd) fun b =>
 bif b.fst then
 Option.bind
 (F28
 ((0, [], [], [], 0, 0, 0, [], [], [], 0, 0, 0, false,
 x.fst.snd.snd.snd.snd.snd.snd.snd.snd.snd.snd.snd.snd.snd.fst, [], [], ()),
 ()))
 fun b =>
 bif b.fst then
 Option.bind
 (appM [(0, 0, x.fst.snd.snd.snd.snd.snd.snd.snd.snd.snd.snd.snd.fst, ())]
 x.fst.snd.snd.snd.snd.snd.snd.snd.snd.snd.snd.snd.snd.snd.snd.snd.fst.snd.snd.fst)
 fun b =>
 Option.bind
 (F28
 ((0, [], [], [], 0, 0, 0, [], [], [], 0, 0, 0, false, [], b,
 x.fst.snd.snd.snd.snd.snd.snd.snd.snd.snd.snd.snd.snd.snd.snd.snd.fst.snd.snd.snd),
 ()))
 fun b =>
 bif b.fst then
 some
 (decide
 (wrap64
 (wrap64
 (wrap64
 (wrap64
 (Int.ofNat (List.length x.fst.snd.snd.snd.snd.snd.fst) +
 Int.ofNat (List.length x.fst.snd.snd.snd.snd.snd.snd.fst)) +
 Int.ofNat
 (List.length
 x.fst.snd.snd.snd.snd.snd.snd.snd.snd.snd.snd.snd.snd.snd.snd.snd.snd.fst.snd.snd.snd.fst)) +
 Int.ofNat
 (List.length
 x.fst.snd.snd.snd.snd.snd.snd.snd.snd.snd.snd.snd.snd.snd.snd.snd.snd.fst.snd.snd.snd.snd.fst)) +
 Int.ofNat
 (List.length
 x.fst.snd.snd.snd.snd.snd.snd.snd.snd.snd.snd.snd.snd.snd.snd.snd.snd.fst.snd.snd.snd.snd.snd.snd.fst)) ≤
 500),
 ())
 else some (false, ())
 else some (false, ())
 else some (false, ())
 else some (false, ())))
 big (0, 0, ())
def S8 : Sig := ⟨P8, R8, F8⟩
noncomputable def E8 : Env := { tab := tab, nt := 90, Γ := lookG [(28, [S28]), (29, [S29])], joins := lookN [], loops := lookN [(3, mkLoop ⟨[⟨.slot 3, (.int .i64), .pv⟩, ⟨.slot 8, (.int .i64), .pv⟩], [1, 7], [.site 1000, .fld 1000 0, .fld 1000 1, .fld 1000 2, .fld 1000 3, .fld 1000 4, .fld 1000 5, .fld 1000 6, .fld 1000 7, .fld 1000 8, .fld 1000 9, .fld 1000 10, .fld 1000 11, .fld 1000 12, .fld 1000 13, .fld 1000 14, .fld 1000 15, .fld 1000 16]⟩)] }
theorem raw8_eq (x : TMD × Unit) : afun E8 Tryz.f8 P8 R8 x = F8 x := by kernel_rfl
-- decamp/decampref24.May
def F9 (x : Int × Int × Int × Int × Int × Unit) : Option (Bool × Unit) :=
 bif decide (8 ≤ x.fst) then
 bif decide (x.fst ≤ 15) then
 bif decide (0 ≤ x.snd.fst) then
 bif decide (x.snd.fst ≤ 1) then
 bif decide (1 ≤ x.snd.snd.fst) then
 bif decide (x.snd.snd.fst ≤ 3) then
 bif decide (1 ≤ x.snd.snd.snd.fst) then
 bif decide (x.snd.snd.snd.fst ≤ 100) then
 bif decide (0 ≤ x.snd.snd.snd.snd.fst) then
 some (decide (x.snd.snd.snd.snd.fst ≤ 549755813888), ())
 else some (false, ())
 else some (false, ())
 else some (false, ())
 else some (false, ())
 else some (false, ())
 else some (false, ())
 else some (false, ())
 else some (false, ())
 else some (false, ())
def S9 : Sig := ⟨P9, R9, F9⟩
noncomputable def E9 : Env := { tab := tab, nt := 49, Γ := lookG [], joins := lookN [], loops := lookN [] }
theorem raw9_eq (x : Int × Int × Int × Int × Int × Unit) : afun E9 Tryz.f9 P9 R9 x = F9 x := by kernel_rfl
-- decamp/decampref07.One
def F130 (x : T25D × T25D × Unit) : Option (Bool × Unit) :=
 bif decide (x.fst.fst = x.snd.fst.fst) then
 bif decide (x.fst.snd.fst = x.snd.fst.snd.fst) then
 some (decide (x.fst.snd.snd.fst = x.snd.fst.snd.snd.fst), ())
 else some (false, ())
 else some (false, ())
def S130 : Sig := ⟨P130, R130, F130⟩
noncomputable def E130 : Env := { tab := tab, nt := 26, Γ := lookG [], joins := lookN [], loops := lookN [] }
theorem raw130_eq (x : T25D × T25D × Unit) : afun E130 Tryz.f130 P130 R130 x = F130 x := by kernel_rfl
-- decamp/decampref07.Same
def F88 (x : List T25D × List T25D × Unit) : Option (Bool × Unit) :=
 bif !decide (Int.ofNat (List.length x.fst) = Int.ofNat (List.length x.snd.fst)) then some (false, ())
 else
 iterE (Int × Unit) (Bool × Unit)
 (fun (x_1 : Int × Unit) =>
 bif decide (x_1.fst < Int.ofNat (List.length x.fst)) then
 Option.bind (idx x.fst x_1.fst) fun b =>
 Option.bind (idx x.snd.fst x_1.fst) fun b_1 =>
 Option.bind (F130 (b, b_1, ())) fun b =>
 bif !b.fst then some (Sum.inr (false, ()))
 else some (Sum.inl (wrap64 (x_1.fst + 1), ()))
 else some (Sum.inr (true, ())))
 big (0, ())
def S88 : Sig := ⟨P88, R88, F88⟩
noncomputable def E88 : Env := { tab := tab, nt := 27, Γ := lookG [(130, [S130])], joins := lookN [], loops := lookN [(4, mkLoop ⟨[⟨.slot 13, (.int .i64), .pv⟩], [0, 1, 12], []⟩)] }
theorem raw88_eq (x : List T25D × List T25D × Unit) : afun E88 Tryz.f88 P88 R88 x = F88 x := by kernel_rfl
-- decamp/decampref07.SameSnap
def F89 (x : T25D × T25D × Unit) : Option (Bool × Unit) :=
 bif decide (x.fst.fst = x.snd.fst.fst) then
 bif decide (x.fst.snd.fst = x.snd.fst.snd.fst) then
 some (decide (x.fst.snd.snd.fst = x.snd.fst.snd.snd.fst), ())
 else some (false, ())
 else some (false, ())
def S89 : Sig := ⟨P89, R89, F89⟩
noncomputable def E89 : Env := { tab := tab, nt := 26, Γ := lookG [], joins := lookN [], loops := lookN [] }
theorem raw89_eq (x : T25D × T25D × Unit) : afun E89 Tryz.f89 P89 R89 x = F89 x := by kernel_rfl
-- decamp/decampref11.Same
def F47 (x : T27D × T27D × Unit) : Option (Bool × Unit) :=
 bif decide (x.fst.fst = x.snd.fst.fst) then
 bif decide (x.fst.snd.fst = x.snd.fst.snd.fst) then
 bif decide (x.fst.snd.snd.fst = x.snd.fst.snd.snd.fst) then
 bif decide (x.fst.snd.snd.snd.fst = x.snd.fst.snd.snd.snd.fst) then
 bif decide (x.fst.snd.snd.snd.snd.fst = x.snd.fst.snd.snd.snd.snd.fst) then
 bif decide (x.fst.snd.snd.snd.snd.snd.fst = x.snd.fst.snd.snd.snd.snd.snd.fst) then
 bif decide (x.fst.snd.snd.snd.snd.snd.snd.fst = x.snd.fst.snd.snd.snd.snd.snd.snd.fst) then
 bif decide (x.fst.snd.snd.snd.snd.snd.snd.snd.fst = x.snd.fst.snd.snd.snd.snd.snd.snd.snd.fst) then
 bif x.fst.snd.snd.snd.snd.snd.snd.snd.snd.fst == x.snd.fst.snd.snd.snd.snd.snd.snd.snd.snd.fst then
 Option.bind
 (F88
 (x.fst.snd.snd.snd.snd.snd.snd.snd.snd.snd.fst,
 x.snd.fst.snd.snd.snd.snd.snd.snd.snd.snd.snd.fst, ()))
 fun b =>
 bif b.fst then
 Option.bind
 (F89
 (x.fst.snd.snd.snd.snd.snd.snd.snd.snd.snd.snd.fst,
 x.snd.fst.snd.snd.snd.snd.snd.snd.snd.snd.snd.snd))
 fun b => some b
 else some (false, ())
 else some (false, ())
 else some (false, ())
 else some (false, ())
 else some (false, ())
 else some (false, ())
 else some (false, ())
 else some (false, ())
 else some (false, ())
 else some (false, ())
def S47 : Sig := ⟨P47, R47, F47⟩
noncomputable def E47 : Env := { tab := tab, nt := 80, Γ := lookG [(88, [S88]), (89, [S89])], joins := lookN [], loops := lookN [] }
theorem raw47_eq (x : T27D × T27D × Unit) : afun E47 Tryz.f47 P47 R47 x = F47 x := by kernel_rfl
-- decamp/decampref15.SameItems
def F51 (x : List T70D × List T70D × Unit) : Option (Bool × Unit) :=
 bif !decide (Int.ofNat (List.length x.fst) = Int.ofNat (List.length x.snd.fst)) then some (false, ())
 else
 iterE (Int × Unit) (Bool × Unit)
 (fun (x_1 : Int × Unit) =>
 bif decide (x_1.fst < Int.ofNat (List.length x.fst)) then
 Option.bind (idx x.fst x_1.fst)
 fun b =>
 Option.bind (idx x.snd.fst x_1.fst)
 fun b_1 =>
 bif
 !(decide (b.fst = b_1.fst) &&
 (decide (b.snd.fst.fst = b_1.snd.fst.fst) &&
 (decide (b.snd.fst.snd.fst = b_1.snd.fst.snd.fst) &&
 (decide (b.snd.fst.snd.snd.fst = b_1.snd.fst.snd.snd.fst) &&
 (decide (b.snd.fst.snd.snd.snd.fst = b_1.snd.fst.snd.snd.snd.fst) &&
 (decide (b.snd.fst.snd.snd.snd.snd.fst = b_1.snd.fst.snd.snd.snd.snd.fst) &&
 (decide (b.snd.fst.snd.snd.snd.snd.snd.fst = b_1.snd.fst.snd.snd.snd.snd.snd.fst) &&
 (b.snd.fst.snd.snd.snd.snd.snd.snd.fst == b_1.snd.fst.snd.snd.snd.snd.snd.snd.fst &&
 true)))))) &&
 true)) then
 some (Sum.inr (false, ()))
 else some (Sum.inl (wrap64 (x_1.fst + 1), ()))
 else some (Sum.inr (true, ())))
 big (0, ())
def S51 : Sig := ⟨P51, R51, F51⟩
noncomputable def E51 : Env := { tab := tab, nt := 26, Γ := lookG [], joins := lookN [], loops := lookN [(4, mkLoop ⟨[⟨.slot 13, (.int .i64), .pv⟩], [0, 1, 12], []⟩)] }
theorem raw51_eq (x : List T70D × List T70D × Unit) : afun E51 Tryz.f51 P51 R51 x = F51 x := by kernel_rfl
-- decamp/decampref17.sameCmps
def F90 (x : List T96D × List T96D × Unit) : Option (Bool × Unit) :=
 bif !decide (Int.ofNat (List.length x.fst) = Int.ofNat (List.length x.snd.fst)) then some (false, ())
 else
 iterE (Int × Unit) (Bool × Unit)
 (fun (x_1 : Int × Unit) =>
 bif decide (x_1.fst < Int.ofNat (List.length x.fst)) then
 Option.bind (idx x.fst x_1.fst) fun b =>
 Option.bind (idx x.snd.fst x_1.fst) fun b_1 =>
 bif
 !(decide (b.fst = b_1.fst) &&
 (decide (b.snd.fst = b_1.snd.fst) &&
 (decide (b.snd.snd.fst = b_1.snd.snd.fst) &&
 (decide (b.snd.snd.snd.fst = b_1.snd.snd.snd.fst) &&
 (decide (b.snd.snd.snd.snd.fst = b_1.snd.snd.snd.snd.fst) && true))))) then
 some (Sum.inr (false, ()))
 else some (Sum.inl (wrap64 (x_1.fst + 1), ()))
 else some (Sum.inr (true, ())))
 big (0, ())
def S90 : Sig := ⟨P90, R90, F90⟩
noncomputable def E90 : Env := { tab := tab, nt := 26, Γ := lookG [], joins := lookN [], loops := lookN [(4, mkLoop ⟨[⟨.slot 13, (.int .i64), .pv⟩], [0, 1, 12], []⟩)] }
theorem raw90_eq (x : List T96D × List T96D × Unit) : afun E90 Tryz.f90 P90 R90 x = F90 x := by kernel_rfl
-- decamp/decampref17.sameOps
def F91 (x : List T48D × List T48D × Unit) : Option (Bool × Unit) :=
 bif !decide (Int.ofNat (List.length x.fst) = Int.ofNat (List.length x.snd.fst)) then some (false, ())
 else
 iterE (Int × Unit) (Bool × Unit)
 (fun (x_1 : Int × Unit) =>
 bif decide (x_1.fst < Int.ofNat (List.length x.fst)) then
 Option.bind (idx x.fst x_1.fst) fun b =>
 Option.bind (idx x.snd.fst x_1.fst) fun b_1 =>
 bif
 !(decide (b.fst = b_1.fst) &&
 (decide (b.snd.fst = b_1.snd.fst) &&
 (decide (b.snd.snd.fst = b_1.snd.snd.fst) &&
 (decide (b.snd.snd.snd.fst = b_1.snd.snd.snd.fst) &&
 (decide (b.snd.snd.snd.snd.fst = b_1.snd.snd.snd.snd.fst) && true))))) then
 some (Sum.inr (false, ()))
 else some (Sum.inl (wrap64 (x_1.fst + 1), ()))
 else some (Sum.inr (true, ())))
 big (0, ())
def S91 : Sig := ⟨P91, R91, F91⟩
noncomputable def E91 : Env := { tab := tab, nt := 26, Γ := lookG [], joins := lookN [], loops := lookN [(4, mkLoop ⟨[⟨.slot 13, (.int .i64), .pv⟩], [0, 1, 12], []⟩)] }
theorem raw91_eq (x : List T48D × List T48D × Unit) : afun E91 Tryz.f91 P91 R91 x = F91 x := by kernel_rfl
-- decamp/decampref17.SameReply
def F49 (x : T51D × T51D × Unit) : Option (Bool × Unit) :=
 bif decide (x.fst.fst = x.snd.fst.fst) then
 bif decide (x.fst.snd.fst = x.snd.fst.snd.fst) then
 bif x.fst.snd.snd.fst == x.snd.fst.snd.snd.fst then
 bif decide (x.fst.snd.snd.snd.fst = x.snd.fst.snd.snd.snd.fst) then
 bif decide (x.fst.snd.snd.snd.snd.snd.fst = x.snd.fst.snd.snd.snd.snd.snd.fst) then
 bif decide (x.fst.snd.snd.snd.snd.snd.snd.fst = x.snd.fst.snd.snd.snd.snd.snd.snd.fst) then
 Option.bind (F51 (x.fst.snd.snd.snd.snd.fst, x.snd.fst.snd.snd.snd.snd.fst, ()))
 fun b => some b
 else some (false, ())
 else some (false, ())
 else some (false, ())
 else some (false, ())
 else some (false, ())
 else some (false, ())
def S49 : Sig := ⟨P49, R49, F49⟩
noncomputable def E49 : Env := { tab := tab, nt := 52, Γ := lookG [(51, [S51])], joins := lookN [], loops := lookN [] }
theorem raw49_eq (x : T51D × T51D × Unit) : afun E49 Tryz.f49 P49 R49 x = F49 x := by kernel_rfl
-- decamp/decampref17.SameSess
def F92 (x : List T94D × List T94D × Unit) : Option (Bool × Unit) :=
 bif !decide (Int.ofNat (List.length x.fst) = Int.ofNat (List.length x.snd.fst)) then some (false, ())
 else
 iterE (Int × Unit) (Bool × Unit)
 (fun (x_1 : Int × Unit) =>
 bif decide (x_1.fst < Int.ofNat (List.length x.fst)) then
 Option.bind (idx x.fst x_1.fst)
 fun b =>
 Option.bind (idx x.snd.fst x_1.fst)
 fun b_1 =>
 bif !decide (b.fst = b_1.fst) then some (Sum.inr (false, ()))
 else
 Option.bind (idx x.fst x_1.fst)
 fun b =>
 Option.bind (idx x.snd.fst x_1.fst)
 fun b_2 =>
 bif !decide (b.snd.fst = b_2.snd.fst) then some (Sum.inr (false, ()))
 else
 Option.bind (idx x.fst x_1.fst)
 fun b =>
 Option.bind (idx x.snd.fst x_1.fst)
 fun b_3 =>
 Option.bind (F49 (b.snd.snd.fst, b_3.snd.snd)) fun b =>
 bif !b.fst then some (Sum.inr (false, ()))
 else some (Sum.inl (wrap64 (x_1.fst + 1), ()))
 else some (Sum.inr (true, ())))
 big (0, ())
def S92 : Sig := ⟨P92, R92, F92⟩
noncomputable def E92 : Env := { tab := tab, nt := 55, Γ := lookG [(49, [S49])], joins := lookN [], loops := lookN [(4, mkLoop ⟨[⟨.slot 13, (.int .i64), .pv⟩], [0, 1, 12], []⟩)] }
theorem raw92_eq (x : List T94D × List T94D × Unit) : afun E92 Tryz.f92 P92 R92 x = F92 x := by kernel_rfl
-- decamp/decampref17.SameLeases
def F93 (x : List T113D × List T113D × Unit) : Option (Bool × Unit) :=
 bif !decide (Int.ofNat (List.length x.fst) = Int.ofNat (List.length x.snd.fst)) then some (false, ())
 else
 iterE (Int × Unit) (Bool × Unit)
 (fun (x_1 : Int × Unit) =>
 bif decide (x_1.fst < Int.ofNat (List.length x.fst)) then
 Option.bind (idx x.fst x_1.fst) fun b =>
 Option.bind (idx x.snd.fst x_1.fst) fun b_1 =>
 bif
 !(decide (b.fst = b_1.fst) &&
 (decide (b.snd.fst = b_1.snd.fst) && (decide (b.snd.snd.fst = b_1.snd.snd.fst) && true))) then
 some (Sum.inr (false, ()))
 else some (Sum.inl (wrap64 (x_1.fst + 1), ()))
 else some (Sum.inr (true, ())))
 big (0, ())
def S93 : Sig := ⟨P93, R93, F93⟩
noncomputable def E93 : Env := { tab := tab, nt := 26, Γ := lookG [], joins := lookN [], loops := lookN [(4, mkLoop ⟨[⟨.slot 13, (.int .i64), .pv⟩], [0, 1, 12], []⟩)] }
theorem raw93_eq (x : List T113D × List T113D × Unit) : afun E93 Tryz.f93 P93 R93 x = F93 x := by kernel_rfl
-- decamp/decampref17.Same
def F48 (x : T28D × T28D × Unit) : Option (Bool × Unit) :=
 bif decide (x.fst.fst = x.snd.fst.fst) then
 bif decide (x.fst.snd.fst = x.snd.fst.snd.fst) then
 bif decide (x.fst.snd.snd.fst = x.snd.fst.snd.snd.fst) then
 bif decide (x.fst.snd.snd.snd.fst = x.snd.fst.snd.snd.snd.fst) then
 bif decide (x.fst.snd.snd.snd.snd.fst = x.snd.fst.snd.snd.snd.snd.fst) then
 bif decide (x.fst.snd.snd.snd.snd.snd.fst = x.snd.fst.snd.snd.snd.snd.snd.fst) then
 bif decide (x.fst.snd.snd.snd.snd.snd.snd.fst = x.snd.fst.snd.snd.snd.snd.snd.snd.fst) then
 bif
 decide
 (x.fst.snd.snd.snd.snd.snd.snd.snd.snd.snd.snd.fst =
 x.snd.fst.snd.snd.snd.snd.snd.snd.snd.snd.snd.snd.fst) then
 bif
 decide
 (x.fst.snd.snd.snd.snd.snd.snd.snd.snd.snd.snd.snd.fst =
 x.snd.fst.snd.snd.snd.snd.snd.snd.snd.snd.snd.snd.snd.fst) then
 bif
 decide
 (x.fst.snd.snd.snd.snd.snd.snd.snd.snd.snd.snd.snd.snd.fst =
 x.snd.fst.snd.snd.snd.snd.snd.snd.snd.snd.snd.snd.snd.snd.fst) then
 bif
 x.fst.snd.snd.snd.snd.snd.snd.snd.snd.snd.snd.snd.snd.snd.fst ==
 x.snd.fst.snd.snd.snd.snd.snd.snd.snd.snd.snd.snd.snd.snd.snd.fst then
 Option.bind
 (F90
 (x.fst.snd.snd.snd.snd.snd.snd.snd.fst, x.snd.fst.snd.snd.snd.snd.snd.snd.snd.fst,
 ()))
 fun b =>
 bif b.fst then
 Option.bind
 (F91
 (x.fst.snd.snd.snd.snd.snd.snd.snd.snd.fst,
 x.snd.fst.snd.snd.snd.snd.snd.snd.snd.snd.fst, ()))
 fun b =>
 bif b.fst then
 Option.bind
 (F91
 (x.fst.snd.snd.snd.snd.snd.snd.snd.snd.snd.fst,
 x.snd.fst.snd.snd.snd.snd.snd.snd.snd.snd.snd.fst, ()))
 fun b =>
 bif b.fst then
 Option.bind
 (F51
 (x.fst.snd.snd.snd.snd.snd.snd.snd.snd.snd.snd.snd.snd.snd.snd.fst,
 x.snd.fst.snd.snd.snd.snd.snd.snd.snd.snd.snd.snd.snd.snd.snd.snd.fst,
 ()))
 fun b =>
 bif b.fst then
 Option.bind
 (F92
 (x.fst.snd.snd.snd.snd.snd.snd.snd.snd.snd.snd.snd.snd.snd.snd.snd.fst,
 x.snd.fst.snd.snd.snd.snd.snd.snd.snd.snd.snd.snd.snd.snd.snd.snd.snd.fst,
 ()))
 fun b =>
 bif b.fst then
 Option.bind
 (F93
 (x.fst.snd.snd.snd.snd.snd.snd.snd.snd.snd.snd.snd.snd.snd.snd.snd.snd.fst,
 x.snd.fst.snd.snd.snd.snd.snd.snd.snd.snd.snd.snd.snd.snd.snd.snd.snd.snd))
 fun b => some b
 else some (false, ())
 else some (false, ())
 else some (false, ())
 else some (false, ())
 else some (false, ())
 else some (false, ())
 else some (false, ())
 else some (false, ())
 else some (false, ())
 else some (false, ())
 else some (false, ())
 else some (false, ())
 else some (false, ())
 else some (false, ())
 else some (false, ())
 else some (false, ())
def S48 : Sig := ⟨P48, R48, F48⟩
noncomputable def E48 : Env := { tab := tab, nt := 122, Γ := lookG [(51, [S51]), (90, [S90]), (91, [S91]), (92, [S92]), (93, [S93])], joins := lookN [], loops := lookN [] }
theorem raw48_eq (x : T28D × T28D × Unit) : afun E48 Tryz.f48 P48 R48 x = F48 x := by kernel_rfl
-- decamp/decampref15.SameBatches
def F50 (x : List TBD × List TBD × Unit) : Option (Bool × Unit) :=
 bif !decide (Int.ofNat (List.length x.fst) = Int.ofNat (List.length x.snd.fst)) then some (false, ())
 else
 iterE (Int × Unit) (Bool × Unit)
 (fun (x_1 : Int × Unit) =>
 bif decide (x_1.fst < Int.ofNat (List.length x.fst)) then
 Option.bind (idx x.fst x_1.fst)
 fun b =>
 Option.bind (idx x.snd.fst x_1.fst)
 fun b_1 =>
 bif !decide (b.fst = b_1.fst) then some (Sum.inr (false, ()))
 else
 Option.bind (idx x.fst x_1.fst)
 fun b =>
 Option.bind (idx x.snd.fst x_1.fst)
 fun b_2 =>
 Option.bind (F51 (b.snd.fst, b_2.snd)) fun b =>
 bif !b.fst then some (Sum.inr (false, ()))
 else some (Sum.inl (wrap64 (x_1.fst + 1), ()))
 else some (Sum.inr (true, ())))
 big (0, ())
def S50 : Sig := ⟨P50, R50, F50⟩
noncomputable def E50 : Env := { tab := tab, nt := 42, Γ := lookG [(51, [S51])], joins := lookN [], loops := lookN [(4, mkLoop ⟨[⟨.slot 13, (.int .i64), .pv⟩], [0, 1, 12], []⟩)] }
theorem raw50_eq (x : List TBD × List TBD × Unit) : afun E50 Tryz.f50 P50 R50 x = F50 x := by kernel_rfl
-- decamp/decampref17.SameHand
def F52 (x : T55D × T55D × Unit) : Option (Bool × Unit) :=
 bif decide (x.fst.fst = x.snd.fst.fst) then
 bif decide (x.fst.snd.fst = x.snd.fst.snd.fst) then
 Option.bind (F92 (x.fst.snd.snd.fst, x.snd.fst.snd.snd.fst, ())) fun b =>
 bif b.fst then Option.bind (F93 (x.fst.snd.snd.snd.fst, x.snd.fst.snd.snd.snd)) fun b => some b
 else some (false, ())
 else some (false, ())
 else some (false, ())
def S52 : Sig := ⟨P52, R52, F52⟩
noncomputable def E52 : Env := { tab := tab, nt := 31, Γ := lookG [(92, [S92]), (93, [S93])], joins := lookN [], loops := lookN [] }
theorem raw52_eq (x : T55D × T55D × Unit) : afun E52 Tryz.f52 P52 R52 x = F52 x := by kernel_rfl
-- decamp/decampref22.Same
def F15 (x : TMD × TMD × Unit) : Option (Bool × Unit) :=
 bif decide (x.fst.fst = x.snd.fst.fst) then
 bif decide (x.fst.snd.fst = x.snd.fst.snd.fst) then
 Option.bind (F47 (x.fst.snd.snd.fst, x.snd.fst.snd.snd.fst, ())) fun b =>
 bif b.fst then
 bif decide (x.fst.snd.snd.snd.fst.fst = x.snd.fst.snd.snd.snd.fst.fst) then
 bif decide (x.fst.snd.snd.snd.fst.snd.fst = x.snd.fst.snd.snd.snd.fst.snd.fst) then
 Option.bind (F48 (x.fst.snd.snd.snd.fst.snd.snd.fst, x.snd.fst.snd.snd.snd.fst.snd.snd))
 fun b =>
 bif b.fst then
 bif decide (x.fst.snd.snd.snd.snd.fst = x.snd.fst.snd.snd.snd.snd.fst) then
 bif decide (x.fst.snd.snd.snd.snd.snd.fst = x.snd.fst.snd.snd.snd.snd.snd.fst) then
 bif decide (x.fst.snd.snd.snd.snd.snd.snd.fst = x.snd.fst.snd.snd.snd.snd.snd.snd.fst) then
 bif
 decide
 (x.fst.snd.snd.snd.snd.snd.snd.snd.fst = x.snd.fst.snd.snd.snd.snd.snd.snd.snd.fst) then
 bif
 decide
 (x.fst.snd.snd.snd.snd.snd.snd.snd.snd.fst =
 x.snd.fst.snd.snd.snd.snd.snd.snd.snd.snd.fst) then
 bif
 decide
 (x.fst.snd.snd.snd.snd.snd.snd.snd.snd.snd.fst =
 x.snd.fst.snd.snd.snd.snd.snd.snd.snd.snd.snd.fst) then
 bif
 decide
 (x.fst.snd.snd.snd.snd.snd.snd.snd.snd.snd.snd.fst =
 x.snd.fst.snd.snd.snd.snd.snd.snd.snd.snd.snd.snd.fst) then
 Option.bind
 (F49
 (x.fst.snd.snd.snd.snd.snd.snd.snd.snd.snd.snd.snd.fst,
 x.snd.fst.snd.snd.snd.snd.snd.snd.snd.snd.snd.snd.snd.fst, ()))
 fun b =>
 bif b.fst then
 Option.bind
 (F50
 (x.fst.snd.snd.snd.snd.snd.snd.snd.snd.snd.snd.snd.snd.fst,
 x.snd.fst.snd.snd.snd.snd.snd.snd.snd.snd.snd.snd.snd.snd.fst, ()))
 fun b =>
 bif b.fst then
 Option.bind
 (F51
 (x.fst.snd.snd.snd.snd.snd.snd.snd.snd.snd.snd.snd.snd.snd.fst,
 x.snd.fst.snd.snd.snd.snd.snd.snd.snd.snd.snd.snd.snd.snd.snd.fst,
 ()))
 fun b =>
 bif b.fst then
 bif
 x.fst.snd.snd.snd.snd.snd.snd.snd.snd.snd.snd.snd.snd.snd.snd.fst ==
 x.snd.fst.snd.snd.snd.snd.snd.snd.snd.snd.snd.snd.snd.snd.snd.snd.fst then
 Option.bind
 (F52
 (x.fst.snd.snd.snd.snd.snd.snd.snd.snd.snd.snd.snd.snd.snd.snd.snd.fst,
 x.snd.fst.snd.snd.snd.snd.snd.snd.snd.snd.snd.snd.snd.snd.snd.snd.snd.fst,
 ()))
 fun b =>
 bif b.fst then
 some
 (decide
 (x.fst.snd.snd.snd.snd.snd.snd.snd.snd.snd.snd.snd.snd.snd.snd.snd.snd.fst.fst =
 x.snd.fst.snd.snd.snd.snd.snd.snd.snd.snd.snd.snd.snd.snd.snd.snd.snd.snd.fst.fst) &&
 (decide
 (x.fst.snd.snd.snd.snd.snd.snd.snd.snd.snd.snd.snd.snd.snd.snd.snd.snd.fst.snd.fst =
 x.snd.fst.snd.snd.snd.snd.snd.snd.snd.snd.snd.snd.snd.snd.snd.snd.snd.snd.fst.snd.fst) &&
 (decide
 (x.fst.snd.snd.snd.snd.snd.snd.snd.snd.snd.snd.snd.snd.snd.snd.snd.snd.fst.snd.snd.fst =
 x.snd.fst.snd.snd.snd.snd.snd.snd.snd.snd.snd.snd.snd.snd.snd.snd.snd.snd.fst.snd.snd.fst) &&
 (decide
 (x.fst.snd.snd.snd.snd.snd.snd.snd.snd.snd.snd.snd.snd.snd.snd.snd.snd.fst.snd.snd.snd.fst =
 x.snd.fst.snd.snd.snd.snd.snd.snd.snd.snd.snd.snd.snd.snd.snd.snd.snd.snd.fst.snd.snd.snd.fst) &&
 (decide
 (x.fst.snd.snd.snd.snd.snd.snd.snd.snd.snd.snd.snd.snd.snd.snd.snd.snd.fst.snd.snd.snd.snd.fst =
 x.snd.fst.snd.snd.snd.snd.snd.snd.snd.snd.snd.snd.snd.snd.snd.snd.snd.snd.fst.snd.snd.snd.snd.fst) &&
 (decide
 (x.fst.snd.snd.snd.snd.snd.snd.snd.snd.snd.snd.snd.snd.snd.snd.snd.snd.fst.snd.snd.snd.snd.snd.fst =
 x.snd.fst.snd.snd.snd.snd.snd.snd.snd.snd.snd.snd.snd.snd.snd.snd.snd.snd.fst.snd.snd.snd.snd.snd.fst) &&
 (decide
 (x.fst.snd.snd.snd.snd.snd.snd.snd.snd.snd.snd.snd.snd.snd.snd.snd.snd.fst.snd.snd.snd.snd.snd.snd.fst =
 x.snd.fst.snd.snd.snd.snd.snd.snd.snd.snd.snd.snd.snd.snd.snd.snd.snd.snd.fst.snd.snd.snd.snd.snd.snd.fst) &&
 (decide
 (x.fst.snd.snd.snd.snd.snd.snd.snd.snd.snd.snd.snd.snd.snd.snd.snd.snd.fst.snd.snd.snd.snd.snd.snd.snd.fst =
 x.snd.fst.snd.snd.snd.snd.snd.snd.snd.snd.snd.snd.snd.snd.snd.snd.snd.snd.fst.snd.snd.snd.snd.snd.snd.snd.fst) &&
 (decide
 (x.fst.snd.snd.snd.snd.snd.snd.snd.snd.snd.snd.snd.snd.snd.snd.snd.snd.fst.snd.snd.snd.snd.snd.snd.snd.snd.fst =
 x.snd.fst.snd.snd.snd.snd.snd.snd.snd.snd.snd.snd.snd.snd.snd.snd.snd.snd.fst.snd.snd.snd.snd.snd.snd.snd.snd.fst) &&
 (decide
 (x.fst.snd.snd.snd.snd.snd.snd.snd.snd.snd.snd.snd.snd.snd.snd.snd.snd.fst.snd.snd.snd.snd.snd.snd.snd.snd.snd.fst =
 x.snd.fst.snd.snd.snd.snd.snd.snd.snd.snd.snd.snd.snd.snd.snd.snd.snd.snd.fst.snd.snd.snd.snd.snd.snd.snd.snd.snd.fst) &&
 true))))))))),
 ())
 else some (false, ())
 else some (false, ())
 else some (false, ())
 else some (false, ())
 else some (false, ())
 else some (false, ())
 else some (false, ())
 else some (false, ())
 else some (false, ())
 else some (false, ())
 else some (false, ())
 else some (false, ())
 else some (false, ())
 else some (false, ())
 else some (false, ())
 else some (false, ())
 else some (false, ())
 else some (false, ())
def S15 : Sig := ⟨P15, R15, F15⟩
noncomputable def E15 : Env := { tab := tab, nt := 142, Γ := lookG [(47, [S47]), (48, [S48]), (49, [S49]), (50, [S50]), (51, [S51]), (52, [S52])], joins := lookN [], loops := lookN [] }
theorem raw15_eq (x : TMD × TMD × Unit) : afun E15 Tryz.f15 P15 R15 x = F15 x := by kernel_rfl
-- decamp/decampref22.bare
-- decamp/decamplaw24.CallerNil
end
end Go.Proofs.YtkiakaokgoodhaaGreat

