/-
  Cmd: by a program of the bench (seat.py).
-/
import Derived.Test.YthafmmjfijpalaaGreatCmdTab
namespace Go.Proofs.YthafmmjfijpalaaGreat
open Go.Sx Go
set_option maxRecDepth 100000
noncomputable section
-- slices.Equal[[]decamp/api.Cmp,decamp/api.Cmp]
def F73 (x : List T96D × List T96D × Unit) : Option (Bool × Unit) :=
 bif !decide (Int.ofNat (List.length x.fst) = Int.ofNat (List.length x.snd.fst)) then some (false, ())
 else
 iterE (Int × Unit) (Bool × Unit)
 (fun (x_1 : Int × Unit) =>
 bif decide (x_1.fst < Int.ofNat (List.length x.fst)) then
 Option.bind (idx x.fst x_1.fst) fun b =>
 Option.bind (idx x.snd.fst x_1.fst) fun b_1 =>
 bif
 !(decide (b.fst = b_1.fst) &&
 (decide (b.snd.fst = b_1.snd.fst) &&
 (decide (b.snd.snd.fst = b_1.snd.snd.fst) &&
 (decide (b.snd.snd.snd.fst = b_1.snd.snd.snd.fst) &&
 (decide (b.snd.snd.snd.snd.fst = b_1.snd.snd.snd.snd.fst) && true))))) then
 some (Sum.inr (false, ()))
 else some (Sum.inl (wrap64 (x_1.fst + 1), ()))
 else some (Sum.inr (true, ())))
 big (0, ())
def S73 : Sig := ⟨P73, R73, F73⟩
noncomputable def E73 : Env := { tab := tab, nt := 26, Γ := lookG [], joins := lookN [], loops := lookN [(4, mkLoop ⟨[⟨.slot 13, (.int .i64), .pv⟩], [0, 1, 12], []⟩)] }
theorem raw73_eq (x : List T96D × List T96D × Unit) : afun E73 Tryz.f73 P73 R73 x = F73 x := by kernel_rfl
-- slices.Equal[[]decamp/api.Op,decamp/api.Op]
def F74 (x : List T48D × List T48D × Unit) : Option (Bool × Unit) :=
 bif !decide (Int.ofNat (List.length x.fst) = Int.ofNat (List.length x.snd.fst)) then some (false, ())
 else
 iterE (Int × Unit) (Bool × Unit)
 (fun (x_1 : Int × Unit) =>
 bif decide (x_1.fst < Int.ofNat (List.length x.fst)) then
 Option.bind (idx x.fst x_1.fst) fun b =>
 Option.bind (idx x.snd.fst x_1.fst) fun b_1 =>
 bif
 !(decide (b.fst = b_1.fst) &&
 (decide (b.snd.fst = b_1.snd.fst) &&
 (decide (b.snd.snd.fst = b_1.snd.snd.fst) &&
 (decide (b.snd.snd.snd.fst = b_1.snd.snd.snd.fst) &&
 (decide (b.snd.snd.snd.snd.fst = b_1.snd.snd.snd.snd.fst) && true))))) then
 some (Sum.inr (false, ()))
 else some (Sum.inl (wrap64 (x_1.fst + 1), ()))
 else some (Sum.inr (true, ())))
 big (0, ())
def S74 : Sig := ⟨P74, R74, F74⟩
noncomputable def E74 : Env := { tab := tab, nt := 26, Γ := lookG [], joins := lookN [], loops := lookN [(4, mkLoop ⟨[⟨.slot 13, (.int .i64), .pv⟩], [0, 1, 12], []⟩)] }
theorem raw74_eq (x : List T48D × List T48D × Unit) : afun E74 Tryz.f74 P74 R74 x = F74 x := by kernel_rfl
-- slices.Equal[[]decamp/api.Item,decamp/api.Item]
def F126 (x : List T70D × List T70D × Unit) : Option (Bool × Unit) :=
 bif !decide (Int.ofNat (List.length x.fst) = Int.ofNat (List.length x.snd.fst)) then some (false, ())
 else
 iterE (Int × Unit) (Bool × Unit)
 (fun (x_1 : Int × Unit) =>
 bif decide (x_1.fst < Int.ofNat (List.length x.fst)) then
 Option.bind (idx x.fst x_1.fst)
 fun b =>
 Option.bind (idx x.snd.fst x_1.fst)
 fun b_1 =>
 bif
 !(decide (b.fst = b_1.fst) &&
 (decide (b.snd.fst.fst = b_1.snd.fst.fst) &&
 (decide (b.snd.fst.snd.fst = b_1.snd.fst.snd.fst) &&
 (decide (b.snd.fst.snd.snd.fst = b_1.snd.fst.snd.snd.fst) &&
 (decide (b.snd.fst.snd.snd.snd.fst = b_1.snd.fst.snd.snd.snd.fst) &&
 (decide (b.snd.fst.snd.snd.snd.snd.fst = b_1.snd.fst.snd.snd.snd.snd.fst) &&
 (decide (b.snd.fst.snd.snd.snd.snd.snd.fst = b_1.snd.fst.snd.snd.snd.snd.snd.fst) &&
 (b.snd.fst.snd.snd.snd.snd.snd.snd.fst == b_1.snd.fst.snd.snd.snd.snd.snd.snd.fst &&
 true)))))) &&
 true)) then
 some (Sum.inr (false, ()))
 else some (Sum.inl (wrap64 (x_1.fst + 1), ()))
 else some (Sum.inr (true, ())))
 big (0, ())
def S126 : Sig := ⟨P126, R126, F126⟩
noncomputable def E126 : Env := { tab := tab, nt := 26, Γ := lookG [], joins := lookN [], loops := lookN [(4, mkLoop ⟨[⟨.slot 13, (.int .i64), .pv⟩], [0, 1, 12], []⟩)] }
theorem raw126_eq (x : List T70D × List T70D × Unit) : afun E126 Tryz.f126 P126 R126 x = F126 x := by kernel_rfl
-- decamp/cmd.sameItems
def F75 (x : List T70D × List T70D × Unit) : Option (Bool × Unit) :=
 Option.bind (F126 x) fun b => some b
def S75 : Sig := ⟨P75, R75, F75⟩
noncomputable def E75 : Env := { tab := tab, nt := 8, Γ := lookG [(126, [S126])], joins := lookN [], loops := lookN [] }
theorem raw75_eq (x : List T70D × List T70D × Unit) : afun E75 Tryz.f75 P75 R75 x = F75 x := by kernel_rfl
-- decamp/cmd.SameReply
def F26 (x : T51D × T51D × Unit) : Option (Bool × Unit) :=
 bif decide (x.fst.fst = x.snd.fst.fst) then
 bif decide (x.fst.snd.fst = x.snd.fst.snd.fst) then
 bif x.fst.snd.snd.fst == x.snd.fst.snd.snd.fst then
 bif decide (x.fst.snd.snd.snd.fst = x.snd.fst.snd.snd.snd.fst) then
 bif decide (x.fst.snd.snd.snd.snd.snd.fst = x.snd.fst.snd.snd.snd.snd.snd.fst) then
 bif decide (x.fst.snd.snd.snd.snd.snd.snd.fst = x.snd.fst.snd.snd.snd.snd.snd.snd.fst) then
 Option.bind (F75 (x.fst.snd.snd.snd.snd.fst, x.snd.fst.snd.snd.snd.snd.fst, ()))
 fun b => some b
 else some (false, ())
 else some (false, ())
 else some (false, ())
 else some (false, ())
 else some (false, ())
 else some (false, ())
def S26 : Sig := ⟨P26, R26, F26⟩
noncomputable def E26 : Env := { tab := tab, nt := 52, Γ := lookG [(75, [S75])], joins := lookN [], loops := lookN [] }
theorem raw26_eq (x : T51D × T51D × Unit) : afun E26 Tryz.f26 P26 R26 x = F26 x := by kernel_rfl
-- decamp/cmd.sameSess$1
def F128 (x : T94D × T94D × Unit) : Option (Bool × Unit) :=
 bif decide (x.fst.fst = x.snd.fst.fst) then
 bif decide (x.fst.snd.fst = x.snd.fst.snd.fst) then
 Option.bind (F26 (x.fst.snd.snd.fst, x.snd.fst.snd.snd)) fun b => some b
 else some (false, ())
 else some (false, ())
def S128 : Sig := ⟨P128, R128, F128⟩
noncomputable def E128 : Env := { tab := tab, nt := 24, Γ := lookG [(26, [S26])], joins := lookN [], loops := lookN [] }
theorem raw128_eq (x : T94D × T94D × Unit) : afun E128 Tryz.f128 P128 R128 x = F128 x := by kernel_rfl
-- slices.EqualFunc[[]decamp/api.Sess,[]decamp/api.Sess,decamp/api.Sess,decamp/api.Sess]
def F127a (x : List T94D × List T94D × Unit) : Option (Bool × Unit) :=
 bif !decide (Int.ofNat (List.length x.fst) = Int.ofNat (List.length x.snd.fst)) then some (false, ())
 else
 iterE (Int × Unit) (Bool × Unit)
 (fun (x_1 : Int × Unit) =>
 bif decide (x_1.fst < Int.ofNat (List.length x.fst)) then
 Option.bind (idx x.fst x_1.fst)
 fun b =>
 Option.bind (idx x.snd.fst x_1.fst)
 fun b_1 =>
 Option.bind (F128 (b, b_1, ())) fun b =>
 bif !b.fst then some (Sum.inr (false, ()))
 else some (Sum.inl (wrap64 (x_1.fst + 1), ()))
 else some (Sum.inr (true, ())))
 big (0, ())
def S127a : Sig := ⟨P127a, R127a, F127a⟩
noncomputable def E127a : Env := { tab := tab, nt := 32, Γ := lookG [(128, [S128])], joins := lookN [], loops := lookN [(4, mkLoop ⟨[⟨.slot 17, (.int .i64), .pv⟩], [1, 2, 15, 16], []⟩)] }
theorem raw127a_eq (x : List T94D × List T94D × Unit) : afun E127a Tryz.f127 P127a R127a x = F127a x := by kernel_rfl
-- decamp/cmd.sameSess
def F76 (x : List T94D × List T94D × Unit) : Option (Bool × Unit) :=
 Option.bind (F127a x) fun b => some b
def S76 : Sig := ⟨P76, R76, F76⟩
noncomputable def E76 : Env := { tab := tab, nt := 8, Γ := lookG [(127, [S127a]), (128, [S128])], joins := lookN [], loops := lookN [] }
theorem raw76_eq (x : List T94D × List T94D × Unit) : afun E76 Tryz.f76 P76 R76 x = F76 x := by kernel_rfl
-- slices.Equal[[]decamp/api.Lease,decamp/api.Lease]
def F77 (x : List T113D × List T113D × Unit) : Option (Bool × Unit) :=
 bif !decide (Int.ofNat (List.length x.fst) = Int.ofNat (List.length x.snd.fst)) then some (false, ())
 else
 iterE (Int × Unit) (Bool × Unit)
 (fun (x_1 : Int × Unit) =>
 bif decide (x_1.fst < Int.ofNat (List.length x.fst)) then
 Option.bind (idx x.fst x_1.fst) fun b =>
 Option.bind (idx x.snd.fst x_1.fst) fun b_1 =>
 bif
 !(decide (b.fst = b_1.fst) &&
 (decide (b.snd.fst = b_1.snd.fst) && (decide (b.snd.snd.fst = b_1.snd.snd.fst) && true))) then
 some (Sum.inr (false, ()))
 else some (Sum.inl (wrap64 (x_1.fst + 1), ()))
 else some (Sum.inr (true, ())))
 big (0, ())
def S77 : Sig := ⟨P77, R77, F77⟩
noncomputable def E77 : Env := { tab := tab, nt := 26, Γ := lookG [], joins := lookN [], loops := lookN [(4, mkLoop ⟨[⟨.slot 13, (.int .i64), .pv⟩], [0, 1, 12], []⟩)] }
theorem raw77_eq (x : List T113D × List T113D × Unit) : afun E77 Tryz.f77 P77 R77 x = F77 x := by kernel_rfl
-- decamp/cmd.Same
def F16 (x : T28D × T28D × Unit) : Option (Bool × Unit) :=
 bif decide (x.fst.fst = x.snd.fst.fst) then
 bif decide (x.fst.snd.fst = x.snd.fst.snd.fst) then
 bif decide (x.fst.snd.snd.fst = x.snd.fst.snd.snd.fst) then
 bif decide (x.fst.snd.snd.snd.fst = x.snd.fst.snd.snd.snd.fst) then
 bif decide (x.fst.snd.snd.snd.snd.fst = x.snd.fst.snd.snd.snd.snd.fst) then
 bif decide (x.fst.snd.snd.snd.snd.snd.fst = x.snd.fst.snd.snd.snd.snd.snd.fst) then
 bif decide (x.fst.snd.snd.snd.snd.snd.snd.fst = x.snd.fst.snd.snd.snd.snd.snd.snd.fst) then
 bif
 decide
 (x.fst.snd.snd.snd.snd.snd.snd.snd.snd.snd.snd.fst =
 x.snd.fst.snd.snd.snd.snd.snd.snd.snd.snd.snd.snd.fst) then
 bif
 decide
 (x.fst.snd.snd.snd.snd.snd.snd.snd.snd.snd.snd.snd.fst =
 x.snd.fst.snd.snd.snd.snd.snd.snd.snd.snd.snd.snd.snd.fst) then
 bif
 decide
 (x.fst.snd.snd.snd.snd.snd.snd.snd.snd.snd.snd.snd.snd.fst =
 x.snd.fst.snd.snd.snd.snd.snd.snd.snd.snd.snd.snd.snd.snd.fst) then
 bif
 x.fst.snd.snd.snd.snd.snd.snd.snd.snd.snd.snd.snd.snd.snd.fst ==
 x.snd.fst.snd.snd.snd.snd.snd.snd.snd.snd.snd.snd.snd.snd.snd.fst then
 Option.bind
 (F73
 (x.fst.snd.snd.snd.snd.snd.snd.snd.fst, x.snd.fst.snd.snd.snd.snd.snd.snd.snd.fst,
 ()))
 fun b =>
 bif b.fst then
 Option.bind
 (F74
 (x.fst.snd.snd.snd.snd.snd.snd.snd.snd.fst,
 x.snd.fst.snd.snd.snd.snd.snd.snd.snd.snd.fst, ()))
 fun b =>
 bif b.fst then
 Option.bind
 (F74
 (x.fst.snd.snd.snd.snd.snd.snd.snd.snd.snd.fst,
 x.snd.fst.snd.snd.snd.snd.snd.snd.snd.snd.snd.fst, ()))
 fun b =>
 bif b.fst then
 Option.bind
 (F75
 (x.fst.snd.snd.snd.snd.snd.snd.snd.snd.snd.snd.snd.snd.snd.snd.fst,
 x.snd.fst.snd.snd.snd.snd.snd.snd.snd.snd.snd.snd.snd.snd.snd.snd.fst,
 ()))
 fun b =>
 bif b.fst then
 Option.bind
 (F76
 (x.fst.snd.snd.snd.snd.snd.snd.snd.snd.snd.snd.snd.snd.snd.snd.snd.fst,
 x.snd.fst.snd.snd.snd.snd.snd.snd.snd.snd.snd.snd.snd.snd.snd.snd.snd.fst,
 ()))
 fun b =>
 bif b.fst then
 Option.bind
 (F77
 (x.fst.snd.snd.snd.snd.snd.snd.snd.snd.snd.snd.snd.snd.snd.snd.snd.snd.fst,
 x.snd.fst.snd.snd.snd.snd.snd.snd.snd.snd.snd.snd.snd.snd.snd.snd.snd.snd))
 fun b => some b
 else some (false, ())
 else some (false, ())
 else some (false, ())
 else some (false, ())
 else some (false, ())
 else some (false, ())
 else some (false, ())
 else some (false, ())
 else some (false, ())
 else some (false, ())
 else some (false, ())
 else some (false, ())
 else some (false, ())
 else some (false, ())
 else some (false, ())
 else some (false, ())
def S16 : Sig := ⟨P16, R16, F16⟩
noncomputable def E16 : Env := { tab := tab, nt := 122, Γ := lookG [(73, [S73]), (74, [S74]), (75, [S75]), (76, [S76]), (77, [S77])], joins := lookN [], loops := lookN [] }
theorem raw16_eq (x : T28D × T28D × Unit) : afun E16 Tryz.f16 P16 R16 x = F16 x := by kernel_rfl
-- decamp/index.text
def F137 (x : List UInt8 × UInt8 × Unit) : Option (Bool × Unit) :=
 bif decide (Int.ofNat (List.length x.fst) < 1) then some (false, ())
 else
 bif decide (32 < Int.ofNat (List.length x.fst)) then some (false, ())
 else
 iterE (Int × Unit) (Bool × Unit)
 (fun (x_1 : Int × Unit) =>
 bif decide (x_1.fst < Int.ofNat (List.length x.fst)) then
 Option.bind (idx x.fst x_1.fst) fun b =>
 bif decide (intOf8 b < intOf8 (UInt8.ofNat 33)) then some (Sum.inr (false, ()))
 else
 Option.bind (idx x.fst x_1.fst) fun b =>
 bif decide (intOf8 x.snd.fst < intOf8 b) then some (Sum.inr (false, ()))
 else some (Sum.inl (wrap64 (x_1.fst + 1), ()))
 else some (Sum.inr (true, ())))
 big (0, ())
def S137 : Sig := ⟨P137, R137, F137⟩
noncomputable def E137 : Env := { tab := tab, nt := 31, Γ := lookG [], joins := lookN [], loops := lookN [(4, mkLoop ⟨[⟨.slot 16, (.int .i64), .pv⟩], [0, 1, 15], []⟩)] }
theorem raw137_eq (x : List UInt8 × UInt8 × Unit) : afun E137 Tryz.f137 P137 R137 x = F137 x := by kernel_rfl
-- decamp/index.Key
def F95 (x : List UInt8 × Unit) : Option (Bool × Unit) := Option.bind (F137 (x.fst, UInt8.ofNat 126, ())) fun b => some b
def S95 : Sig := ⟨P95, R95, F95⟩
noncomputable def E95 : Env := { tab := tab, nt := 5, Γ := lookG [(137, [S137])], joins := lookN [], loops := lookN [] }
theorem raw95_eq (x : List UInt8 × Unit) : afun E95 Tryz.f95 P95 R95 x = F95 x := by kernel_rfl
-- decamp/cmd.Prefix
def F22 (x : List UInt8 × Unit) : Option (Bool × Unit) :=
 bif decide (Int.ofNat (List.length x.fst) ≤ 8) then Option.bind (F95 x) fun b => some b
 else some (false, ())
def S22 : Sig := ⟨P22, R22, F22⟩
noncomputable def E22 : Env := { tab := tab, nt := 10, Γ := lookG [(95, [S95])], joins := lookN [], loops := lookN [] }
theorem raw22_eq (x : List UInt8 × Unit) : afun E22 Tryz.f22 P22 R22 x = F22 x := by kernel_rfl
-- decamp/cmd.keepClient
def F116 (x : T28D × Unit) : Option (T28D × Unit) :=
 Option.bind
 (bif decide (x.fst.fst = 1) then
 some (Sum.inl (x.fst.snd.fst, [], x.fst.snd.snd.snd.fst, x.fst.snd.snd.snd.snd.fst, 0, 0, [], [], [], ()))
 else
 bif decide (x.fst.fst = 2) then
 some (Sum.inl (x.fst.snd.fst, x.fst.snd.snd.fst, [], 0, 0, 0, [], [], [], ()))
 else
 bif decide (x.fst.fst = 3) then
 some
 (Sum.inl
 ([], [], [], 0, 0, 0, x.fst.snd.snd.snd.snd.snd.snd.snd.fst, x.fst.snd.snd.snd.snd.snd.snd.snd.snd.fst,
 x.fst.snd.snd.snd.snd.snd.snd.snd.snd.snd.fst, ()))
 else
 bif decide (x.fst.fst = 4) then
 some (Sum.inl ([], [], [], 0, 0, x.fst.snd.snd.snd.snd.snd.snd.fst, [], [], [], ()))
 else
 bif decide (x.fst.fst = 5) then
 some
 (Sum.inl
 ([], [], [], x.fst.snd.snd.snd.snd.fst, x.fst.snd.snd.snd.snd.snd.fst, 0, [], [], [], ()))
 else
 bif decide (x.fst.fst = 6) then
 bif decide (x.fst.fst = 6) then
 some (Sum.inl ([], [], [], x.fst.snd.snd.snd.snd.fst, 0, 0, [], [], [], ()))
 else some (Sum.inl ([], [], [], 0, 0, 0, [], [], [], ()))
 else
 bif decide (x.fst.fst = 7) then
 bif decide (x.fst.fst = 7) then
 some (Sum.inl ([], [], [], x.fst.snd.snd.snd.snd.fst, 0, 0, [], [], [], ()))
 else some (Sum.inl ([], [], [], 0, 0, 0, [], [], [], ()))
 else
 bif decide (x.fst.fst = 9) then
 some (Sum.inl ([], [], [], x.fst.snd.snd.snd.snd.fst, 0, 0, [], [], [], ()))
 else some (Sum.inl ([], [], [], 0, 0, 0, [], [], [], ())))
 fun o =>
 Sum.elim
 (fun (x_1 :
 List UInt8 × List UInt8 × List UInt8 × Int × Int × Int × List T96D × List T48D × List T48D × Unit) =>
 some
 ((x.fst.fst, x_1.fst, x_1.snd.fst, x_1.snd.snd.fst, x_1.snd.snd.snd.fst, x_1.snd.snd.snd.snd.fst,
 x_1.snd.snd.snd.snd.snd.fst, x_1.snd.snd.snd.snd.snd.snd.fst, x_1.snd.snd.snd.snd.snd.snd.snd.fst,
 x_1.snd.snd.snd.snd.snd.snd.snd.snd.fst, 0, 0, 0, false, [], [], [], ()),
 ()))
 (fun (val :
 (Int × List UInt8 × List UInt8 × List UInt8 × Int × Int × Int × List T96D × List T48D × List T48D × Int × Int × Int × Bool × List
 T70D × List
 (Int × Int × (Int × Int × Bool × Int × List
 T70D × Int × Int × Unit) × Unit) × List T113D × Unit) × Unit) =>
 some val)
 o
def S116 : Sig := ⟨P116, R116, F116⟩
noncomputable def E116 : Env := { tab := tab, nt := 60, Γ := lookG [], joins := lookN [(17, ⟨[⟨.fld 1004000 1, .str, .pv⟩, ⟨.fld 1004000 2, .str, .pv⟩, ⟨.fld 1004000 3, .str, .pv⟩, ⟨.fld 1004000 4, (.int .i64), .pv⟩, ⟨.fld 1004000 5, (.int .i64), .pv⟩, ⟨.fld 1004000 6, (.int .i64), .pv⟩, ⟨.fld 1004000 7, (.slice T96), .pv⟩, ⟨.fld 1004000 8, (.slice T48), .pv⟩, ⟨.fld 1004000 9, (.slice T48), .pv⟩], [2, 3], [.site 1004000, .fld 1004000 0, .fld 1004000 10, .fld 1004000 11, .fld 1004000 12, .fld 1004000 13, .fld 1004000 14, .fld 1004000 15, .fld 1004000 16, .site 2000, .fld 2000 0, .fld 2000 1, .fld 2000 2, .fld 2000 3, .fld 2000 4, .fld 2000 5, .fld 2000 6, .fld 2000 7, .fld 2000 8, .fld 2000 9, .fld 2000 10, .fld 2000 11, .fld 2000 12, .fld 2000 13, .fld 2000 14, .fld 2000 15, .fld 2000 16]⟩)], loops := lookN [] }
theorem raw116_eq (x : T28D × Unit) : afun E116 Tryz.f116 P116 R116 x = F116 x := by kernel_rfl
-- decamp/cmd.keep
def F55 (x : T28D × Unit) : Option (T28D × Unit) :=
 Option.bind
 (bif decide (x.fst.fst = 11) then
 bif decide (x.fst.fst = 11) then
 some
 (Sum.inl
 ([], [], 0, 0, 0, false, [], [], [], 0, [], [], [], 0, 0, 0, [], [], [], 0, 0, 0, false, [], [], [],
 ()))
 else
 bif decide (x.fst.fst = 10) then
 some
 (Sum.inl
 (x.fst.snd.fst, [], 0, 0, 0, false, [], [], [], 0, [], [], [], 0, 0, 0, [], [], [], 0, 0, 0, false, [],
 [], [], ()))
 else
 bif decide (x.fst.fst = 12) then
 some
 (Sum.inl
 (x.fst.snd.fst, x.fst.snd.snd.fst, x.fst.snd.snd.snd.snd.snd.snd.fst,
 x.fst.snd.snd.snd.snd.snd.snd.snd.snd.snd.snd.snd.fst, 0, false, [], [], [], 0, [], [], [], 0, 0, 0,
 [], [], [], 0, 0, 0, false, [], [], [], ()))
 else
 bif decide (x.fst.fst = 13) then
 some
 (Sum.inl
 (x.fst.snd.fst, x.fst.snd.snd.fst, 0, x.fst.snd.snd.snd.snd.snd.snd.snd.snd.snd.snd.snd.fst, 0,
 x.fst.snd.snd.snd.snd.snd.snd.snd.snd.snd.snd.snd.snd.snd.fst,
 x.fst.snd.snd.snd.snd.snd.snd.snd.snd.snd.snd.snd.snd.snd.snd.fst, [], [], 0, [], [], [], 0, 0, 0,
 [], [], [], 0, 0, 0, false, [], [], [], ()))
 else
 bif decide (x.fst.fst = 14) then
 some
 (Sum.inl
 ([], [], x.fst.snd.snd.snd.snd.snd.snd.fst, x.fst.snd.snd.snd.snd.snd.snd.snd.snd.snd.snd.snd.fst,
 x.fst.snd.snd.snd.snd.snd.snd.snd.snd.snd.snd.snd.snd.fst, false,
 x.fst.snd.snd.snd.snd.snd.snd.snd.snd.snd.snd.snd.snd.snd.snd.fst, [], [], 0, [], [], [], 0, 0, 0,
 [], [], [], 0, 0, 0, false, [], [], [], ()))
 else
 bif decide (x.fst.fst = 15) then
 some
 (Sum.inl
 ([], [], x.fst.snd.snd.snd.snd.snd.snd.fst, x.fst.snd.snd.snd.snd.snd.snd.snd.snd.snd.snd.snd.fst,
 0, false, [], x.fst.snd.snd.snd.snd.snd.snd.snd.snd.snd.snd.snd.snd.snd.snd.snd.fst,
 x.fst.snd.snd.snd.snd.snd.snd.snd.snd.snd.snd.snd.snd.snd.snd.snd.snd.fst, 0, [], [], [], 0, 0,
 0, [], [], [], 0, 0, 0, false, [], [], [], ()))
 else
 Option.bind (F116 x)
 fun b =>
 some (Sum.inr b)
 else
 bif decide (x.fst.fst = 16) then
 some
 (Sum.inl
 ([], [], 0, 0, 0, false, [], [], [], 0, [], [], [], 0, 0, 0, [], [], [], 0, 0, 0, false, [], [], [],
 ()))
 else
 bif decide (x.fst.fst = 10) then
 some
 (Sum.inl
 (x.fst.snd.fst, [], 0, 0, 0, false, [], [], [], 0, [], [], [], 0, 0, 0, [], [], [], 0, 0, 0, false, [],
 [], [], ()))
 else
 bif decide (x.fst.fst = 12) then
 some
 (Sum.inl
 (x.fst.snd.fst, x.fst.snd.snd.fst, x.fst.snd.snd.snd.snd.snd.snd.fst,
 x.fst.snd.snd.snd.snd.snd.snd.snd.snd.snd.snd.snd.fst, 0, false, [], [], [], 0, [], [], [], 0, 0, 0,
 [], [], [], 0, 0, 0, false, [], [], [], ()))
 else
 bif decide (x.fst.fst = 13) then
 some
 (Sum.inl
 (x.fst.snd.fst, x.fst.snd.snd.fst, 0, x.fst.snd.snd.snd.snd.snd.snd.snd.snd.snd.snd.snd.fst, 0,
 x.fst.snd.snd.snd.snd.snd.snd.snd.snd.snd.snd.snd.snd.snd.fst,
 x.fst.snd.snd.snd.snd.snd.snd.snd.snd.snd.snd.snd.snd.snd.snd.fst, [], [], 0, [], [], [], 0, 0, 0,
 [], [], [], 0, 0, 0, false, [], [], [], ()))
 else
 bif decide (x.fst.fst = 14) then
 some
 (Sum.inl
 ([], [], x.fst.snd.snd.snd.snd.snd.snd.fst, x.fst.snd.snd.snd.snd.snd.snd.snd.snd.snd.snd.snd.fst,
 x.fst.snd.snd.snd.snd.snd.snd.snd.snd.snd.snd.snd.snd.fst, false,
 x.fst.snd.snd.snd.snd.snd.snd.snd.snd.snd.snd.snd.snd.snd.snd.fst, [], [], 0, [], [], [], 0, 0, 0,
 [], [], [], 0, 0, 0, false, [], [], [], ()))
 else
 bif decide (x.fst.fst = 15) then
 some
 (Sum.inl
 ([], [], x.fst.snd.snd.snd.snd.snd.snd.fst, x.fst.snd.snd.snd.snd.snd.snd.snd.snd.snd.snd.snd.fst,
 0, false, [], x.fst.snd.snd.snd.snd.snd.snd.snd.snd.snd.snd.snd.snd.snd.snd.snd.fst,
 x.fst.snd.snd.snd.snd.snd.snd.snd.snd.snd.snd.snd.snd.snd.snd.snd.snd.fst, 0, [], [], [], 0, 0,
 0, [], [], [], 0, 0, 0, false, [], [], [], ()))
 else
 Option.bind (F116 x)
 fun b =>
 some (Sum.inr b))
 fun o =>
 Sum.elim
 (fun (x_1 :
 List UInt8 × List UInt8 × Int × Int × Int × Bool × List T70D × List
 (Int × Int × (Int × Int × Bool × Int × List
 T70D × Int × Int × Unit) × Unit) × List T113D × Int × List UInt8 × List UInt8 × List UInt8 × Int × Int × Int × List T96D × List T48D × List T48D × Int × Int × Int × Bool × List
 T70D × List
 (Int × Int × (Int × Int × Bool × Int × List
 T70D × Int × Int × Unit) × Unit) × List T113D × Unit) =>
 some
 ((x.fst.fst, x_1.fst, x_1.snd.fst, [], 0, 0, x_1.snd.snd.fst, [], [], [],
 x.fst.snd.snd.snd.snd.snd.snd.snd.snd.snd.snd.fst, x_1.snd.snd.snd.fst, x_1.snd.snd.snd.snd.fst,
 x_1.snd.snd.snd.snd.snd.fst, x_1.snd.snd.snd.snd.snd.snd.fst, x_1.snd.snd.snd.snd.snd.snd.snd.fst,
 x_1.snd.snd.snd.snd.snd.snd.snd.snd.fst, ()),
 ()))
 (fun (val :
 (Int × List UInt8 × List UInt8 × List UInt8 × Int × Int × Int × List T96D × List T48D × List T48D × Int × Int × Int × Bool × List
 T70D × List
 (Int × Int × (Int × Int × Bool × Int × List
 T70D × Int × Int × Unit) × Unit) × List T113D × Unit) × Unit) =>
 some val)
 o
def S55 : Sig := ⟨P55, R55, F55⟩
noncomputable def E55 : Env := { tab := tab, nt := 81, Γ := lookG [(116, [S116])], joins := lookN [(16, ⟨[⟨.fld 1006000 1, .str, .pv⟩, ⟨.fld 1006000 2, .str, .pv⟩, ⟨.fld 1006000 6, (.int .i64), .pv⟩, ⟨.fld 1006000 11, (.int .i64), .pv⟩, ⟨.fld 1006000 12, (.int .i64), .pv⟩, ⟨.fld 1006000 13, .bool, .pv⟩, ⟨.fld 1006000 14, (.slice T70), .pv⟩, ⟨.fld 1006000 15, (.slice T94), .pv⟩, ⟨.fld 1006000 16, (.slice T113), .pv⟩, ⟨.fld 2000 0, (.int .i64), .pv⟩, ⟨.fld 2000 1, .str, .pv⟩, ⟨.fld 2000 2, .str, .pv⟩, ⟨.fld 2000 3, .str, .pv⟩, ⟨.fld 2000 4, (.int .i64), .pv⟩, ⟨.fld 2000 5, (.int .i64), .pv⟩, ⟨.fld 2000 6, (.int .i64), .pv⟩, ⟨.fld 2000 7, (.slice T96), .own false⟩, ⟨.fld 2000 8, (.slice T48), .own false⟩, ⟨.fld 2000 9, (.slice T48), .own false⟩, ⟨.fld 2000 10, (.int .i64), .pv⟩, ⟨.fld 2000 11, (.int .i64), .pv⟩, ⟨.fld 2000 12, (.int .i64), .pv⟩, ⟨.fld 2000 13, .bool, .pv⟩, ⟨.fld 2000 14, (.slice T70), .own false⟩, ⟨.fld 2000 15, (.slice T94), .own false⟩, ⟨.fld 2000 16, (.slice T113), .own false⟩], [2, 3], [.site 1006000, .fld 1006000 0, .fld 1006000 3, .fld 1006000 4, .fld 1006000 5, .fld 1006000 7, .fld 1006000 8, .fld 1006000 9, .fld 1006000 10, .site 2000]⟩)], loops := lookN [] }
theorem raw55_eq (x : T28D × Unit) : afun E55 Tryz.f55 P55 R55 x = F55 x := by kernel_rfl
-- decamp/cmd.within
def F72 (x : Int × Int × Int × Unit) : Option (Bool × Unit) :=
 bif decide (x.snd.fst ≤ x.fst) then some (decide (x.fst ≤ x.snd.snd.fst), ()) else some (false, ())
def S72 : Sig := ⟨P72, R72, F72⟩
noncomputable def E72 : Env := { tab := tab, nt := 15, Γ := lookG [], joins := lookN [], loops := lookN [] }
theorem raw72_eq (x : Int × Int × Int × Unit) : afun E72 Tryz.f72 P72 R72 x = F72 x := by kernel_rfl
-- decamp/cmd.positive$1
def F121 (x : Int × Unit) : Option (Bool × Unit) :=
 Option.bind (F72 (x.fst, 1, 1099511627776, ())) fun b => some (!b.fst, ())
def S121 : Sig := ⟨P121, R121, F121⟩
noncomputable def E121 : Env := { tab := tab, nt := 6, Γ := lookG [(72, [S72])], joins := lookN [], loops := lookN [] }
theorem raw121_eq (x : Int × Unit) : afun E121 Tryz.f121 P121 R121 x = F121 x := by kernel_rfl
-- slices.IndexFunc[[]int64,int64]
def F148a (x : List Int × Unit) : Option (Int × Unit) :=
 iterE (Int × Unit) (Int × Unit)
 (fun (x_1 : Int × Unit) =>
 bif decide (x_1.fst < Int.ofNat (List.length x.fst)) then
 Option.bind (idx x.fst x_1.fst) fun b =>
 Option.bind (F121 (b, ())) fun b =>
 bif b.fst then some (Sum.inr x_1) else some (Sum.inl (wrap64 (x_1.fst + 1), ()))
 else some (Sum.inr (-1, ())))
 big (0, ())
def S148a : Sig := ⟨P148a, R148a, F148a⟩
noncomputable def E148a : Env := { tab := tab, nt := 19, Γ := lookG [(121, [S121])], joins := lookN [], loops := lookN [(2, mkLoop ⟨[⟨.slot 8, (.int .i64), .pv⟩], [0, 1, 7], []⟩)] }
theorem raw148a_eq (x : List Int × Unit) : afun E148a Tryz.f148 P148a R148a x = F148a x := by kernel_rfl
-- slices.ContainsFunc[[]int64,int64]
def F120a (x : List Int × Unit) : Option (Bool × Unit) := Option.bind (F148a x) fun b => some (decide (0 ≤ b.fst), ())
def S120a : Sig := ⟨P120a, R120a, F120a⟩
noncomputable def E120a : Env := { tab := tab, nt := 9, Γ := lookG [(121, [S121]), (148, [S148a])], joins := lookN [], loops := lookN [] }
theorem raw120a_eq (x : List Int × Unit) : afun E120a Tryz.f120 P120a R120a x = F120a x := by kernel_rfl
-- decamp/cmd.positive
def F57 (x : List Int × Unit) : Option (Bool × Unit) := Option.bind (F120a x) fun b => some (!b.fst, ())
def S57 : Sig := ⟨P57, R57, F57⟩
noncomputable def E57 : Env := { tab := tab, nt := 6, Γ := lookG [(120, [S120a]), (121, [S121])], joins := lookN [], loops := lookN [] }
theorem raw57_eq (x : List Int × Unit) : afun E57 Tryz.f57 P57 R57 x = F57 x := by kernel_rfl
-- decamp/cmd.natural$1
def F138 (x : Int × Unit) : Option (Bool × Unit) :=
 Option.bind (F72 (x.fst, 0, 1099511627776, ())) fun b => some (!b.fst, ())
def S138 : Sig := ⟨P138, R138, F138⟩
noncomputable def E138 : Env := { tab := tab, nt := 6, Γ := lookG [(72, [S72])], joins := lookN [], loops := lookN [] }
theorem raw138_eq (x : Int × Unit) : afun E138 Tryz.f138 P138 R138 x = F138 x := by kernel_rfl
-- slices.IndexFunc[[]int64,int64]
def F148b (x : List Int × Unit) : Option (Int × Unit) :=
 iterE (Int × Unit) (Int × Unit)
 (fun (x_1 : Int × Unit) =>
 bif decide (x_1.fst < Int.ofNat (List.length x.fst)) then
 Option.bind (idx x.fst x_1.fst) fun b =>
 Option.bind (F138 (b, ())) fun b =>
 bif b.fst then some (Sum.inr x_1) else some (Sum.inl (wrap64 (x_1.fst + 1), ()))
 else some (Sum.inr (-1, ())))
 big (0, ())
def S148b : Sig := ⟨P148b, R148b, F148b⟩
noncomputable def E148b : Env := { tab := tab, nt := 19, Γ := lookG [(138, [S138])], joins := lookN [], loops := lookN [(2, mkLoop ⟨[⟨.slot 8, (.int .i64), .pv⟩], [0, 1, 7], []⟩)] }
theorem raw148b_eq (x : List Int × Unit) : afun E148b Tryz.f148 P148b R148b x = F148b x := by kernel_rfl
-- slices.ContainsFunc[[]int64,int64]
def F120b (x : List Int × Unit) : Option (Bool × Unit) := Option.bind (F148b x) fun b => some (decide (0 ≤ b.fst), ())
def S120b : Sig := ⟨P120b, R120b, F120b⟩
noncomputable def E120b : Env := { tab := tab, nt := 9, Γ := lookG [(138, [S138]), (148, [S148a, S148b])], joins := lookN [], loops := lookN [] }
theorem raw120b_eq (x : List Int × Unit) : afun E120b Tryz.f120 P120b R120b x = F120b x := by kernel_rfl
-- decamp/cmd.natural
def F96 (x : List Int × Unit) : Option (Bool × Unit) := Option.bind (F120b x) fun b => some (!b.fst, ())
def S96 : Sig := ⟨P96, R96, F96⟩
noncomputable def E96 : Env := { tab := tab, nt := 6, Γ := lookG [(120, [S120a, S120b]), (138, [S138])], joins := lookN [], loops := lookN [] }
theorem raw96_eq (x : List Int × Unit) : afun E96 Tryz.f96 P96 R96 x = F96 x := by kernel_rfl
-- decamp/cmd.put
def F117 (x : List UInt8 × List UInt8 × Int × Unit) : Option (Bool × Unit) :=
 Option.bind (F95 (x.fst, ())) fun b =>
 bif b.fst then
 bif decide (Int.ofNat (List.length x.snd.fst) ≤ 40) then
 Option.bind (F96 ([x.snd.snd.fst], ())) fun b => some b
 else some (false, ())
 else some (false, ())
def S117 : Sig := ⟨P117, R117, F117⟩
noncomputable def E117 : Env := { tab := tab, nt := 19, Γ := lookG [(95, [S95]), (96, [S96])], joins := lookN [], loops := lookN [] }
theorem raw117_eq (x : List UInt8 × List UInt8 × Int × Unit) : afun E117 Tryz.f117 P117 R117 x = F117 x := by kernel_rfl
-- decamp/index.Range
def F118 (x : List UInt8 × List UInt8 × Unit) : Option (Bool × Unit) :=
 Option.bind (F95 (x.fst, ())) fun b =>
 bif b.fst then
 bif decide (x.snd.fst = []) then some (true, ())
 else
 Option.bind (F137 (x.snd.fst, UInt8.ofNat 127, ())) fun b =>
 bif b.fst then some (!(strlt x.snd.fst x.fst || decide (x.snd.fst = x.fst)), ())
 else some (false, ())
 else some (false, ())
def S118 : Sig := ⟨P118, R118, F118⟩
noncomputable def E118 : Env := { tab := tab, nt := 20, Γ := lookG [(95, [S95]), (137, [S137])], joins := lookN [], loops := lookN [] }
theorem raw118_eq (x : List UInt8 × List UInt8 × Unit) : afun E118 Tryz.f118 P118 R118 x = F118 x := by kernel_rfl
-- decamp/cmd.rightCmp
def F146 (x : T96D × Unit) : Option (Bool × Unit) :=
 Option.bind (F95 (x.fst.fst, ())) fun b =>
 bif !b.fst then some (false, ())
 else
 bif decide (x.fst.snd.snd.fst < 0) then some (false, ())
 else
 bif decide (2 < x.fst.snd.snd.fst) then some (false, ())
 else
 Option.bind (F72 (x.fst.snd.snd.snd.fst, -1099511627776, 1099511627776, ())) fun b =>
 bif !b.fst then some (false, ())
 else
 bif decide (x.fst.snd.fst = 5) then
 bif decide (x.fst.snd.snd.snd.fst = 0) then
 some (decide (Int.ofNat (List.length x.fst.snd.snd.snd.snd.fst) ≤ 40), ())
 else some (false, ())
 else
 bif decide (1 ≤ x.fst.snd.fst) then
 bif decide (x.fst.snd.fst ≤ 4) then some (decide (x.fst.snd.snd.snd.snd.fst = []), ())
 else some (false, ())
 else some (false, ())
def S146 : Sig := ⟨P146, R146, F146⟩
noncomputable def E146 : Env := { tab := tab, nt := 48, Γ := lookG [(72, [S72]), (95, [S95])], joins := lookN [], loops := lookN [] }
theorem raw146_eq (x : T96D × Unit) : afun E146 Tryz.f146 P146 R146 x = F146 x := by kernel_rfl
-- decamp/cmd.rightTxn$1
def F145 (x : T96D × Unit) : Option (Bool × Unit) :=
 Option.bind (F146 x) fun b => some (!b.fst, ())
def S145 : Sig := ⟨P145, R145, F145⟩
noncomputable def E145 : Env := { tab := tab, nt := 6, Γ := lookG [(146, [S146])], joins := lookN [], loops := lookN [] }
theorem raw145_eq (x : T96D × Unit) : afun E145 Tryz.f145 P145 R145 x = F145 x := by kernel_rfl
-- slices.IndexFunc[[]decamp/api.Cmp,decamp/api.Cmp]
def F151a (x : List T96D × Unit) : Option (Int × Unit) :=
 iterE (Int × Unit) (Int × Unit)
 (fun (x_1 : Int × Unit) =>
 bif decide (x_1.fst < Int.ofNat (List.length x.fst)) then
 Option.bind (idx x.fst x_1.fst) fun b =>
 Option.bind (F145 (b, ())) fun b =>
 bif b.fst then some (Sum.inr x_1) else some (Sum.inl (wrap64 (x_1.fst + 1), ()))
 else some (Sum.inr (-1, ())))
 big (0, ())
def S151a : Sig := ⟨P151a, R151a, F151a⟩
noncomputable def E151a : Env := { tab := tab, nt := 19, Γ := lookG [(145, [S145])], joins := lookN [], loops := lookN [(2, mkLoop ⟨[⟨.slot 8, (.int .i64), .pv⟩], [0, 1, 7], []⟩)] }
theorem raw151a_eq (x : List T96D × Unit) : afun E151a Tryz.f151 P151a R151a x = F151a x := by kernel_rfl
-- slices.ContainsFunc[[]decamp/api.Cmp,decamp/api.Cmp]
def F144a (x : List T96D × Unit) : Option (Bool × Unit) :=
 Option.bind (F151a x) fun b => some (decide (0 ≤ b.fst), ())
def S144a : Sig := ⟨P144a, R144a, F144a⟩
noncomputable def E144a : Env := { tab := tab, nt := 9, Γ := lookG [(145, [S145]), (151, [S151a])], joins := lookN [], loops := lookN [] }
theorem raw144a_eq (x : List T96D × Unit) : afun E144a Tryz.f144 P144a R144a x = F144a x := by kernel_rfl
-- decamp/cmd.rightOp
def F152 (x : T48D × Unit) : Option (Bool × Unit) :=
 bif decide (x.fst.fst = 1) then
 bif decide (x.fst.snd.snd.fst = []) then
 Option.bind (F117 (x.fst.snd.fst, x.fst.snd.snd.snd)) fun b => some b
 else some (false, ())
 else
 bif decide (x.fst.fst = 2) then
 bif decide (x.fst.fst = 2) then
 bif decide (x.fst.snd.snd.snd.fst = []) then
 bif decide (x.fst.snd.snd.snd.snd.fst = 0) then
 Option.bind (F118 (x.fst.snd.fst, x.fst.snd.snd.fst, ())) fun b => some b
 else some (false, ())
 else some (false, ())
 else some (false, ())
 else
 bif decide (x.fst.fst = 3) then
 bif decide (x.fst.snd.snd.snd.fst = []) then
 bif decide (x.fst.snd.snd.snd.snd.fst = 0) then
 Option.bind (F118 (x.fst.snd.fst, x.fst.snd.snd.fst, ())) fun b => some b
 else some (false, ())
 else some (false, ())
 else some (false, ())
def S152 : Sig := ⟨P152, R152, F152⟩
noncomputable def E152 : Env := { tab := tab, nt := 37, Γ := lookG [(117, [S117]), (118, [S118])], joins := lookN [], loops := lookN [] }
theorem raw152_eq (x : T48D × Unit) : afun E152 Tryz.f152 P152 R152 x = F152 x := by kernel_rfl
-- decamp/index.In
def F158 (x : List UInt8 × List UInt8 × List UInt8 × Unit) : Option (Bool × Unit) :=
 Option.bind (F118 (x.fst, x.snd.fst, ())) fun b =>
 bif !b.fst then some (false, ())
 else
 Option.bind (F95 x.snd.snd) fun b =>
 bif !b.fst then some (false, ())
 else
 bif decide (x.snd.snd.fst = x.fst) then some (true, ())
 else
 bif !(strlt x.snd.snd.fst x.fst || decide (x.snd.snd.fst = x.fst)) then
 some (strlt x.snd.snd.fst x.snd.fst, ())
 else some (false, ())
def S158 : Sig := ⟨P158, R158, F158⟩
noncomputable def E158 : Env := { tab := tab, nt := 29, Γ := lookG [(95, [S95]), (118, [S118])], joins := lookN [], loops := lookN [] }
theorem raw158_eq (x : List UInt8 × List UInt8 × List UInt8 × Unit) : afun E158 Tryz.f158 P158 R158 x = F158 x := by kernel_rfl
-- decamp/cmd.meet
def F155 (x : T48D × T48D × Unit) : Option (Bool × Unit) :=
 bif decide (x.fst.fst = 3) then some (false, ())
 else
 bif decide (x.snd.fst.fst = 3) then some (false, ())
 else
 bif decide (x.fst.snd.fst = x.snd.fst.snd.fst) then some (true, ())
 else
 Option.bind (F158 (x.fst.snd.fst, x.fst.snd.snd.fst, x.snd.fst.snd.fst, ())) fun b =>
 bif b.fst then some (true, ())
 else
 Option.bind (F158 (x.snd.fst.snd.fst, x.snd.fst.snd.snd.fst, x.fst.snd.fst, ()))
 fun b => some b
def S155 : Sig := ⟨P155, R155, F155⟩
noncomputable def E155 : Env := { tab := tab, nt := 36, Γ := lookG [(158, [S158])], joins := lookN [], loops := lookN [] }
theorem raw155_eq (x : T48D × T48D × Unit) : afun E155 Tryz.f155 P155 R155 x = F155 x := by kernel_rfl
-- decamp/cmd.rightOps$1
def F154 (x : T48D × Unit) : Option (Bool × Unit) := none
def S154 : Sig := ⟨P154, R154, F154⟩
noncomputable def E154 : Env := { tab := tab, nt := 7, Γ := lookG [(155, [S155])], joins := lookN [], loops := lookN [] }
theorem raw154_eq (x : T48D × Unit) : afun E154 Tryz.f154 P154 R154 x = F154 x := by kernel_rfl
-- decamp/cmd.rightOps$1
def F154a (x : T48D × T48D × Unit) : Option (Bool × T48D × Unit) :=
 Option.bind (F155 x) fun b => some (b.fst, x.snd)
def S154a : Sig := ⟨P154a, R154a, F154a⟩
noncomputable def E154a : Env := { tab := tab, nt := 7, Γ := lookG [(155, [S155])], joins := lookN [], loops := lookN [] }
theorem raw154a_eq (x : T48D × T48D × Unit) : afun E154a Tryz.f154 P154a R154a x = F154a x := by kernel_rfl
-- slices.IndexFunc[[]decamp/api.Op,decamp/api.Op]
def F157a (x : List T48D × T48D × Unit) : Option (Int × T48D × Unit) :=
 iterE (Int × T48D)
 (Int × T48D × Unit)
 (fun (x_1 : Int × T48D) =>
 bif decide (x_1.fst < Int.ofNat (List.length x.fst)) then
 Option.bind (idx x.fst x_1.fst) fun b =>
 Option.bind (F154a (b, x_1.snd, ()))
 fun b =>
 bif b.fst then some (Sum.inr (x_1.fst, b.snd))
 else some (Sum.inl (wrap64 (x_1.fst + 1), b.snd.fst))
 else some (Sum.inr (-1, x_1.snd, ())))
 big (0, x.snd.fst)
def S157a : Sig := ⟨P157a, R157a, F157a⟩
noncomputable def E157a : Env := { tab := tab, nt := 19, Γ := lookG [(154, [S154, S154a])], joins := lookN [], loops := lookN [(2, mkLoop ⟨[⟨.slot 8, (.int .i64), .pv⟩, ⟨.fld 2 0, (.int .i64), .pv⟩, ⟨.fld 2 1, .str, .pv⟩, ⟨.fld 2 2, .str, .pv⟩, ⟨.fld 2 3, .str, .pv⟩, ⟨.fld 2 4, (.int .i64), .pv⟩], [0, 1, 7], [.site 2, .comp 1 0]⟩)] }
theorem raw157a_eq (x : List T48D × T48D × Unit) : afun E157a Tryz.f157 P157a R157a x = F157a x := by kernel_rfl
-- slices.ContainsFunc[[]decamp/api.Op,decamp/api.Op]
def F153a (x : List T48D × T48D × Unit) : Option (Bool × T48D × Unit) :=
 Option.bind (F157a x) fun b =>
 some (decide (0 ≤ b.fst), b.snd)
def S153a : Sig := ⟨P153a, R153a, F153a⟩
noncomputable def E153a : Env := { tab := tab, nt := 9, Γ := lookG [(154, [S154, S154a]), (157, [S157a])], joins := lookN [], loops := lookN [] }
theorem raw153a_eq (x : List T48D × T48D × Unit) : afun E153a Tryz.f153 P153a R153a x = F153a x := by kernel_rfl
-- decamp/cmd.rightOps
def F147 (x : List T48D × Unit) : Option (Bool × Unit) :=
 iterE (Int × Unit) (Bool × Unit)
 (fun (x_1 : Int × Unit) =>
 bif decide (x_1.fst < Int.ofNat (List.length x.fst)) then
 Option.bind (idx x.fst x_1.fst) fun b =>
 Option.bind (F152 (b, ())) fun b_1 =>
 bif !b_1.fst then some (Sum.inr (false, ()))
 else
 Option.bind (sliceO x.fst 0 x_1.fst)
 fun b_2 =>
 Option.bind (F153a (b_2, b, ()))
 fun b =>
 bif b.fst then some (Sum.inr (false, ()))
 else some (Sum.inl (wrap64 (x_1.fst + 1), ()))
 else some (Sum.inr (decide (Int.ofNat (List.length x.fst) ≤ 4), ())))
 big (0, ())
def S147 : Sig := ⟨P147, R147, F147⟩
noncomputable def E147 : Env := { tab := tab, nt := 26, Γ := lookG [(152, [S152]), (153, [S153a]), (154, [S154, S154a])], joins := lookN [], loops := lookN [(2, mkLoop ⟨[⟨.slot 7, (.int .i64), .pv⟩], [0, 5, 6], []⟩)] }
theorem raw147_eq (x : List T48D × Unit) : afun E147 Tryz.f147 P147 R147 x = F147 x := by kernel_rfl
-- decamp/cmd.rightTxn
def F119 (x : T28D × Unit) : Option (Bool × Unit) :=
 bif decide (Int.ofNat (List.length x.fst.snd.snd.snd.snd.snd.snd.snd.fst) ≤ 4) then
 Option.bind (F144a (x.fst.snd.snd.snd.snd.snd.snd.snd.fst, ())) fun b =>
 bif !b.fst then
 Option.bind (F147 (x.fst.snd.snd.snd.snd.snd.snd.snd.snd.fst, ())) fun b =>
 bif b.fst then
 Option.bind (F147 (x.fst.snd.snd.snd.snd.snd.snd.snd.snd.snd.fst, ())) fun b =>
 some b
 else some (false, ())
 else some (false, ())
 else some (false, ())
def S119 : Sig := ⟨P119, R119, F119⟩
noncomputable def E119 : Env := { tab := tab, nt := 23, Γ := lookG [(144, [S144a]), (145, [S145]), (147, [S147])], joins := lookN [], loops := lookN [] }
theorem raw119_eq (x : T28D × Unit) : afun E119 Tryz.f119 P119 R119 x = F119 x := by kernel_rfl
-- decamp/cmd.rightClient
def F56 (x : T28D × Unit) : Option (Bool × Unit) :=
 bif decide (x.fst.fst = 1) then
 Option.bind (F117 (x.fst.snd.fst, x.fst.snd.snd.snd.fst, x.fst.snd.snd.snd.snd.fst, ()))
 fun b => some b
 else
 bif decide (x.fst.fst = 2) then
 Option.bind (F118 (x.fst.snd.fst, x.fst.snd.snd.fst, ())) fun b => some b
 else
 bif decide (x.fst.fst = 3) then Option.bind (F119 x) fun b => some b
 else
 bif decide (x.fst.fst = 4) then
 Option.bind (F57 ([x.fst.snd.snd.snd.snd.snd.snd.fst], ())) fun b => some b
 else
 bif decide (x.fst.fst = 5) then
 Option.bind (F57 ([x.fst.snd.snd.snd.snd.fst], ())) fun b =>
 bif b.fst then
 Option.bind (F72 (x.fst.snd.snd.snd.snd.snd.fst, 1, 1000, ())) fun b => some b
 else some (false, ())
 else
 bif decide (x.fst.fst = 6) then
 bif decide (x.fst.fst = 6) then
 Option.bind (F57 ([x.fst.snd.snd.snd.snd.fst], ())) fun b => some b
 else
 bif decide (x.fst.fst = 9) then
 bif !decide (x.fst.snd.snd.snd.snd.fst = 0) then
 Option.bind (F72 (x.fst.snd.snd.snd.snd.fst, -1099511627776, 1099511627776, ()))
 fun b => some b
 else some (false, ())
 else some (decide (x.fst.fst = 8), ())
 else
 bif decide (x.fst.fst = 7) then
 Option.bind (F57 ([x.fst.snd.snd.snd.snd.fst], ())) fun b => some b
 else
 bif decide (x.fst.fst = 9) then
 bif !decide (x.fst.snd.snd.snd.snd.fst = 0) then
 Option.bind (F72 (x.fst.snd.snd.snd.snd.fst, -1099511627776, 1099511627776, ()))
 fun b => some b
 else some (false, ())
 else some (decide (x.fst.fst = 8), ())
def S56 : Sig := ⟨P56, R56, F56⟩
noncomputable def E56 : Env := { tab := tab, nt := 62, Γ := lookG [(57, [S57]), (72, [S72]), (117, [S117]), (118, [S118]), (119, [S119])], joins := lookN [], loops := lookN [] }
theorem raw56_eq (x : T28D × Unit) : afun E56 Tryz.f56 P56 R56 x = F56 x := by kernel_rfl
-- decamp/hist.number
def F156 (x : Int × Unit) : Option (Bool × Unit) :=
 bif decide (1 ≤ x.fst) then some (decide (x.fst ≤ 1099511627776), ()) else some (false, ())
def S156 : Sig := ⟨P156, R156, F156⟩
noncomputable def E156 : Env := { tab := tab, nt := 9, Γ := lookG [], joins := lookN [], loops := lookN [] }
theorem raw156_eq (x : Int × Unit) : afun E156 Tryz.f156 P156 R156 x = F156 x := by kernel_rfl
-- decamp/hist.right
def F150 (x : T66D × Unit) : Option (Bool × Unit) :=
 Option.bind (F156 (x.fst.fst, ())) fun b =>
 bif !b.fst then some (false, ())
 else
 Option.bind (F156 (x.fst.snd.snd.fst, ())) fun b =>
 bif !b.fst then some (false, ())
 else
 bif x.fst.snd.snd.snd.snd.snd.snd.fst then
 bif decide (x.fst.snd.fst = 0) then
 bif decide (x.fst.snd.snd.snd.fst = 0) then
 bif decide (x.fst.snd.snd.snd.snd.snd.fst = 0) then
 some (decide (x.fst.snd.snd.snd.snd.fst = []), ())
 else some (false, ())
 else some (false, ())
 else some (false, ())
 else
 bif decide (1 ≤ x.fst.snd.fst) then
 bif decide (x.fst.snd.fst ≤ x.fst.snd.snd.fst) then
 Option.bind (F156 (x.fst.snd.snd.snd.fst, ())) fun b =>
 bif b.fst then
 bif decide (Int.ofNat (List.length x.fst.snd.snd.snd.snd.fst) ≤ 40) then
 bif decide (-1099511627776 ≤ x.fst.snd.snd.snd.snd.snd.fst) then
 some (decide (x.fst.snd.snd.snd.snd.snd.fst ≤ 1099511627776), ())
 else some (false, ())
 else some (false, ())
 else some (false, ())
 else some (false, ())
 else some (false, ())
def S150 : Sig := ⟨P150, R150, F150⟩
noncomputable def E150 : Env := { tab := tab, nt := 64, Γ := lookG [(156, [S156])], joins := lookN [], loops := lookN [] }
theorem raw150_eq (x : T66D × Unit) : afun E150 Tryz.f150 P150 R150 x = F150 x := by kernel_rfl
-- decamp/hist.Right
def F140 (x : List T66D × Unit) : Option (Bool × Unit) :=
 iterE (Int × Unit) (Bool × Unit)
 (fun (x_1 : Int × Unit) =>
 bif decide (x_1.fst < Int.ofNat (List.length x.fst)) then
 Option.bind (idx x.fst x_1.fst) fun b =>
 Option.bind (F150 (b, ())) fun b_1 =>
 bif !b_1.fst then some (Sum.inr (false, ()))
 else
 bif decide (0 < x_1.fst) then
 Option.bind (idx x.fst (wrap64 (x_1.fst - 1)))
 fun b_2 =>
 bif decide (b.fst ≤ b_2.fst) then some (Sum.inr (false, ()))
 else
 Option.bind (idx x.fst (wrap64 (x_1.fst - 1)))
 fun b_3 =>
 bif decide (b.snd.snd.fst ≤ b_3.snd.snd.fst) then some (Sum.inr (false, ()))
 else some (Sum.inl (wrap64 (x_1.fst + 1), ()))
 else some (Sum.inl (wrap64 (x_1.fst + 1), ()))
 else some (Sum.inr (true, ())))
 big (0, ())
def S140 : Sig := ⟨P140, R140, F140⟩
noncomputable def E140 : Env := { tab := tab, nt := 42, Γ := lookG [(150, [S150])], joins := lookN [], loops := lookN [(2, mkLoop ⟨[⟨.slot 7, (.int .i64), .pv⟩], [0, 5, 6], []⟩)] }
theorem raw140_eq (x : List T66D × Unit) : afun E140 Tryz.f140 P140 R140 x = F140 x := by kernel_rfl
-- decamp/cmd.version
def F99 (x : T66D × Unit) : Option (Bool × Unit) :=
 Option.bind (F140 ([x.fst], ())) fun b => some b
def S99 : Sig := ⟨P99, R99, F99⟩
noncomputable def E99 : Env := { tab := tab, nt := 6, Γ := lookG [(140, [S140])], joins := lookN [], loops := lookN [] }
theorem raw99_eq (x : T66D × Unit) : afun E99 Tryz.f99 P99 R99 x = F99 x := by kernel_rfl
-- decamp/cmd.rightPage
def F58 (x : T28D × Unit) : Option (Bool × Unit) :=
 Option.bind
 (bif !decide (x.fst.snd.fst = []) then
 Option.bind (F95 (x.fst.snd.fst, ())) fun b =>
 bif !b.fst then some (Sum.inr (false, ()))
 else
 bif !decide (x.fst.snd.snd.fst = []) then
 Option.bind (F95 (x.fst.snd.snd.fst, ())) fun b =>
 bif !b.fst then some (Sum.inr (false, ()))
 else
 bif
 decide
 (8 <
 Int.ofNat (List.length x.fst.snd.snd.snd.snd.snd.snd.snd.snd.snd.snd.snd.snd.snd.snd.fst)) then
 some (Sum.inr (false, ()))
 else some (Sum.inl ())
 else
 bif
 decide
 (8 < Int.ofNat (List.length x.fst.snd.snd.snd.snd.snd.snd.snd.snd.snd.snd.snd.snd.snd.snd.fst)) then
 some (Sum.inr (false, ()))
 else some (Sum.inl ())
 else
 bif !decide (x.fst.snd.snd.fst = []) then
 Option.bind (F95 (x.fst.snd.snd.fst, ())) fun b =>
 bif !b.fst then some (Sum.inr (false, ()))
 else
 bif
 decide
 (8 < Int.ofNat (List.length x.fst.snd.snd.snd.snd.snd.snd.snd.snd.snd.snd.snd.snd.snd.snd.fst)) then
 some (Sum.inr (false, ()))
 else some (Sum.inl ())
 else
 bif decide (8 < Int.ofNat (List.length x.fst.snd.snd.snd.snd.snd.snd.snd.snd.snd.snd.snd.snd.snd.snd.fst)) then
 some (Sum.inr (false, ()))
 else some (Sum.inl ()))
 fun o =>
 Sum.elim
 (fun (_z : Unit) =>
 iterE (Int × Unit) (Bool × Unit)
 (fun (x_1 : Int × Unit) =>
 bif
 decide
 (x_1.fst <
 Int.ofNat (List.length x.fst.snd.snd.snd.snd.snd.snd.snd.snd.snd.snd.snd.snd.snd.snd.fst)) then
 Option.bind (idx x.fst.snd.snd.snd.snd.snd.snd.snd.snd.snd.snd.snd.snd.snd.snd.fst x_1.fst)
 fun b =>
 Option.bind (F95 (b.fst, ())) fun b_1 =>
 bif !b_1.fst then some (Sum.inr (false, ()))
 else
 Option.bind (F99 b.snd) fun b_2 =>
 bif !b_2.fst then some (Sum.inr (false, ()))
 else
 bif b.snd.fst.snd.snd.snd.snd.snd.snd.fst then some (Sum.inr (false, ()))
 else
 bif decide (0 < x_1.fst) then
 Option.bind
 (idx x.fst.snd.snd.snd.snd.snd.snd.snd.snd.snd.snd.snd.snd.snd.snd.fst
 (wrap64 (x_1.fst - 1)))
 fun b_3 =>
 bif !strlt b_3.fst b.fst then some (Sum.inr (false, ()))
 else some (Sum.inl (wrap64 (x_1.fst + 1), ()))
 else some (Sum.inl (wrap64 (x_1.fst + 1), ()))
 else some (Sum.inr (true, ())))
 big (0, ()))
 (fun (val : Bool × Unit) => some val) o
def S58 : Sig := ⟨P58, R58, F58⟩
noncomputable def E58 : Env := { tab := tab, nt := 71, Γ := lookG [(95, [S95]), (99, [S99])], joins := lookN [(3, ⟨[], [1], [.site 1000, .fld 1000 0, .fld 1000 1, .fld 1000 2, .fld 1000 3, .fld 1000 4, .fld 1000 5, .fld 1000 6, .fld 1000 7, .fld 1000 8, .fld 1000 9, .fld 1000 10, .fld 1000 11, .fld 1000 12, .fld 1000 13, .fld 1000 14, .fld 1000 15, .fld 1000 16]⟩)], loops := lookN [(4, mkLoop ⟨[⟨.slot 34, (.int .i64), .pv⟩], [1, 32, 33], [.site 1000, .fld 1000 0, .fld 1000 1, .fld 1000 2, .fld 1000 3, .fld 1000 4, .fld 1000 5, .fld 1000 6, .fld 1000 7, .fld 1000 8, .fld 1000 9, .fld 1000 10, .fld 1000 11, .fld 1000 12, .fld 1000 13, .fld 1000 14, .fld 1000 15, .fld 1000 16]⟩)] }
theorem raw58_eq (x : T28D × Unit) : afun E58 Tryz.f58 P58 R58 x = F58 x := by kernel_rfl
-- decamp/cmd.rightTail
def F59 (x : T28D × Unit) : Option (Bool × Unit) :=
 Option.bind
 (F57 ([x.fst.snd.snd.snd.snd.snd.snd.fst, x.fst.snd.snd.snd.snd.snd.snd.snd.snd.snd.snd.snd.snd.fst], ()))
 fun b =>
 bif !b.fst then some (false, ())
 else
 bif decide (x.fst.snd.snd.snd.snd.snd.snd.snd.snd.snd.snd.snd.snd.fst ≤ x.fst.snd.snd.snd.snd.snd.snd.fst) then
 some (false, ())
 else
 bif decide (64 < Int.ofNat (List.length x.fst.snd.snd.snd.snd.snd.snd.snd.snd.snd.snd.snd.snd.snd.snd.fst)) then
 some (false, ())
 else
 iterE (Int × Unit) (Bool × Unit)
 (fun (x_1 : Int × Unit) =>
 bif
 decide
 (x_1.fst <
 Int.ofNat (List.length x.fst.snd.snd.snd.snd.snd.snd.snd.snd.snd.snd.snd.snd.snd.snd.fst)) then
 Option.bind (idx x.fst.snd.snd.snd.snd.snd.snd.snd.snd.snd.snd.snd.snd.snd.snd.fst x_1.fst)
 fun b =>
 Option.bind (F95 (b.fst, ())) fun b_1 =>
 bif !b_1.fst then some (Sum.inr (false, ()))
 else
 Option.bind (F99 b.snd) fun b_2 =>
 bif !b_2.fst then some (Sum.inr (false, ()))
 else
 bif decide (b.snd.fst.fst ≤ x.fst.snd.snd.snd.snd.snd.snd.fst) then
 some (Sum.inr (false, ()))
 else
 bif decide (x.fst.snd.snd.snd.snd.snd.snd.snd.snd.snd.snd.snd.snd.fst < b.snd.fst.fst) then
 some (Sum.inr (false, ()))
 else
 bif decide (x_1.fst = 0) then
 some (Sum.inl (wrap64 (x_1.fst + 1), ()))
 else
 Option.bind
 (idx x.fst.snd.snd.snd.snd.snd.snd.snd.snd.snd.snd.snd.snd.snd.snd.fst
 (wrap64 (x_1.fst - 1)))
 fun b_3 =>
 bif decide (b.snd.fst.fst < b_3.snd.fst.fst) then some (Sum.inr (false, ()))
 else
 bif decide (b_3.snd.fst.fst = b.snd.fst.fst) then
 bif !strlt b_3.fst b.fst then some (Sum.inr (false, ()))
 else some (Sum.inl (wrap64 (x_1.fst + 1), ()))
 else some (Sum.inl (wrap64 (x_1.fst + 1), ()))
 else some (Sum.inr (true, ())))
 big (0, ())
def S59 : Sig := ⟨P59, R59, F59⟩
noncomputable def E59 : Env := { tab := tab, nt := 92, Γ := lookG [(57, [S57]), (95, [S95]), (99, [S99])], joins := lookN [], loops := lookN [(4, mkLoop ⟨[⟨.slot 29, (.int .i64), .pv⟩], [1, 27, 28], [.site 1000, .fld 1000 0, .fld 1000 1, .fld 1000 2, .fld 1000 3, .fld 1000 4, .fld 1000 5, .fld 1000 6, .fld 1000 7, .fld 1000 8, .fld 1000 9, .fld 1000 10, .fld 1000 11, .fld 1000 12, .fld 1000 13, .fld 1000 14, .fld 1000 15, .fld 1000 16]⟩)] }
theorem raw59_eq (x : T28D × Unit) : afun E59 Tryz.f59 P59 R59 x = F59 x := by kernel_rfl
-- decamp/cmd.RightReply$1
def F98 (x : T70D × Unit) : Option (Bool × Unit) :=
 Option.bind (F95 (x.fst.fst, ())) fun b =>
 bif !b.fst then some (true, ())
 else Option.bind (F99 x.fst.snd) fun b => some (!b.fst, ())
def S98 : Sig := ⟨P98, R98, F98⟩
noncomputable def E98 : Env := { tab := tab, nt := 13, Γ := lookG [(95, [S95]), (99, [S99])], joins := lookN [], loops := lookN [] }
theorem raw98_eq (x : T70D × Unit) : afun E98 Tryz.f98 P98 R98 x = F98 x := by kernel_rfl
-- slices.IndexFunc[[]decamp/api.Item,decamp/api.Item]
def F139a (x : List T70D × Unit) : Option (Int × Unit) :=
 iterE (Int × Unit) (Int × Unit)
 (fun (x_1 : Int × Unit) =>
 bif decide (x_1.fst < Int.ofNat (List.length x.fst)) then
 Option.bind (idx x.fst x_1.fst)
 fun b =>
 Option.bind (F98 (b, ())) fun b =>
 bif b.fst then some (Sum.inr x_1) else some (Sum.inl (wrap64 (x_1.fst + 1), ()))
 else some (Sum.inr (-1, ())))
 big (0, ())
def S139a : Sig := ⟨P139a, R139a, F139a⟩
noncomputable def E139a : Env := { tab := tab, nt := 19, Γ := lookG [(98, [S98])], joins := lookN [], loops := lookN [(2, mkLoop ⟨[⟨.slot 8, (.int .i64), .pv⟩], [0, 1, 7], []⟩)] }
theorem raw139a_eq (x : List T70D × Unit) : afun E139a Tryz.f139 P139a R139a x = F139a x := by kernel_rfl
-- slices.ContainsFunc[[]decamp/api.Item,decamp/api.Item]
def F97a (x : List T70D × Unit) : Option (Bool × Unit) :=
 Option.bind (F139a x) fun b => some (decide (0 ≤ b.fst), ())
def S97a : Sig := ⟨P97a, R97a, F97a⟩
noncomputable def E97a : Env := { tab := tab, nt := 9, Γ := lookG [(98, [S98]), (139, [S139a])], joins := lookN [], loops := lookN [] }
theorem raw97a_eq (x : List T70D × Unit) : afun E97a Tryz.f97 P97a R97a x = F97a x := by kernel_rfl
-- decamp/cmd.RightReply
def F24 (x : T51D × Unit) : Option (Bool × Unit) :=
 bif decide (x.fst.fst < 0) then some (false, ())
 else
 bif decide (15 < x.fst.fst) then some (false, ())
 else
 Option.bind (F96 ([x.fst.snd.fst, x.fst.snd.snd.snd.fst, x.fst.snd.snd.snd.snd.snd.snd.fst], ()))
 fun b =>
 bif !b.fst then some (false, ())
 else
 bif decide (x.fst.snd.snd.snd.snd.snd.fst < 0) then some (false, ())
 else
 bif decide (1 < x.fst.snd.snd.snd.snd.snd.fst) then some (false, ())
 else
 bif decide (8 < Int.ofNat (List.length x.fst.snd.snd.snd.snd.fst)) then some (false, ())
 else
 Option.bind (F97a (x.fst.snd.snd.snd.snd.fst, ())) fun b =>
 some (!b.fst, ())
def S24 : Sig := ⟨P24, R24, F24⟩
noncomputable def E24 : Env := { tab := tab, nt := 42, Γ := lookG [(96, [S96]), (97, [S97a]), (98, [S98])], joins := lookN [], loops := lookN [] }
theorem raw24_eq (x : T51D × Unit) : afun E24 Tryz.f24 P24 R24 x = F24 x := by kernel_rfl
-- decamp/cmd.rightSess
def F122 (x : List T94D × Int × Unit) : Option (Bool × Unit) :=
 iterE (Int × Unit) (Bool × Unit)
 (fun (x_1 : Int × Unit) =>
 bif decide (x_1.fst < Int.ofNat (List.length x.fst)) then
 Option.bind (idx x.fst x_1.fst)
 fun b =>
 Option.bind (F72 (b.fst, 1, x.snd)) fun b_1 =>
 bif !b_1.fst then some (Sum.inr (false, ()))
 else
 Option.bind (F57 ([b.snd.fst], ())) fun b_2 =>
 bif !b_2.fst then some (Sum.inr (false, ()))
 else
 Option.bind (F24 b.snd.snd) fun b_3 =>
 bif !b_3.fst then some (Sum.inr (false, ()))
 else
 bif decide (0 < x_1.fst) then
 Option.bind (idx x.fst (wrap64 (x_1.fst - 1)))
 fun b_4 =>
 bif decide (b.fst ≤ b_4.fst) then some (Sum.inr (false, ()))
 else some (Sum.inl (wrap64 (x_1.fst + 1), ()))
 else some (Sum.inl (wrap64 (x_1.fst + 1), ()))
 else some (Sum.inr (true, ())))
 big (0, ())
def S122 : Sig := ⟨P122, R122, F122⟩
noncomputable def E122 : Env := { tab := tab, nt := 48, Γ := lookG [(24, [S24]), (57, [S57]), (72, [S72])], joins := lookN [], loops := lookN [(2, mkLoop ⟨[⟨.slot 9, (.int .i64), .pv⟩], [0, 1, 7, 8], []⟩)] }
theorem raw122_eq (x : List T94D × Int × Unit) : afun E122 Tryz.f122 P122 R122 x = F122 x := by kernel_rfl
-- decamp/cmd.rightLeases
def F123 (x : List T113D × Unit) : Option (Bool × Unit) :=
 iterE (Int × Unit) (Bool × Unit)
 (fun (x_1 : Int × Unit) =>
 bif decide (x_1.fst < Int.ofNat (List.length x.fst)) then
 Option.bind (idx x.fst x_1.fst) fun b =>
 Option.bind (F57 ([b.fst], ())) fun b_1 =>
 bif !b_1.fst then some (Sum.inr (false, ()))
 else
 Option.bind (F72 (b.snd.fst, 1, 1000, ())) fun b_2 =>
 bif !b_2.fst then some (Sum.inr (false, ()))
 else
 Option.bind (F72 (b.snd.snd.fst, 0, 1000, ())) fun b_3 =>
 bif !b_3.fst then some (Sum.inr (false, ()))
 else
 bif decide (0 < x_1.fst) then
 Option.bind (idx x.fst (wrap64 (x_1.fst - 1)))
 fun b_4 =>
 bif decide (b.fst ≤ b_4.fst) then some (Sum.inr (false, ()))
 else some (Sum.inl (wrap64 (x_1.fst + 1), ()))
 else some (Sum.inl (wrap64 (x_1.fst + 1), ()))
 else some (Sum.inr (decide (Int.ofNat (List.length x.fst) ≤ 64), ())))
 big (0, ())
def S123 : Sig := ⟨P123, R123, F123⟩
noncomputable def E123 : Env := { tab := tab, nt := 48, Γ := lookG [(57, [S57]), (72, [S72])], joins := lookN [], loops := lookN [(2, mkLoop ⟨[⟨.slot 7, (.int .i64), .pv⟩], [0, 5, 6], []⟩)] }
theorem raw123_eq (x : List T113D × Unit) : afun E123 Tryz.f123 P123 R123 x = F123 x := by kernel_rfl
-- decamp/cmd.handed
def F60 (x : List T94D × List T113D × Unit) : Option (Bool × Unit) :=
 Option.bind (F122 (x.fst, 15, ())) fun b =>
 bif b.fst then Option.bind (F123 x.snd) fun b => some b else some (false, ())
def S60 : Sig := ⟨P60, R60, F60⟩
noncomputable def E60 : Env := { tab := tab, nt := 11, Γ := lookG [(122, [S122]), (123, [S123])], joins := lookN [], loops := lookN [] }
theorem raw60_eq (x : List T94D × List T113D × Unit) : afun E60 Tryz.f60 P60 R60 x = F60 x := by kernel_rfl
-- decamp/cmd.Right
def F12 (x : T28D × Unit) : Option (Bool × Unit) :=
 Option.bind (F55 x)
 fun b =>
 Option.bind (F16 (b.fst, x)) fun b =>
 bif !b.fst then some (false, ())
 else
 bif decide (x.fst.fst < 10) then Option.bind (F56 x) fun b => some b
 else
 Option.bind (F57 ([x.fst.snd.snd.snd.snd.snd.snd.snd.snd.snd.snd.fst], ())) fun b =>
 bif !b.fst then some (false, ())
 else
 bif decide (x.fst.fst = 10) then
 Option.bind (F22 (x.fst.snd.fst, ())) fun b => some b
 else
 bif decide (x.fst.fst = 11) then
 bif decide (x.fst.fst = 11) then some (true, ())
 else
 bif decide (x.fst.fst = 12) then
 Option.bind
 (F57
 ([x.fst.snd.snd.snd.snd.snd.snd.snd.snd.snd.snd.snd.fst, x.fst.snd.snd.snd.snd.snd.snd.fst],
 ()))
 fun b =>
 bif b.fst then
 Option.bind (F22 (x.fst.snd.fst, ())) fun b =>
 bif b.fst then
 Option.bind (F22 (x.fst.snd.snd.fst, ())) fun b => some b
 else some (false, ())
 else some (false, ())
 else
 bif decide (x.fst.fst = 13) then
 Option.bind (F57 ([x.fst.snd.snd.snd.snd.snd.snd.snd.snd.snd.snd.snd.fst], ()))
 fun b =>
 bif b.fst then Option.bind (F58 x) fun b => some b
 else some (false, ())
 else
 bif decide (x.fst.fst = 14) then
 Option.bind (F57 ([x.fst.snd.snd.snd.snd.snd.snd.snd.snd.snd.snd.snd.fst], ()))
 fun b =>
 bif b.fst then Option.bind (F59 x) fun b => some b
 else some (false, ())
 else
 bif decide (x.fst.fst = 15) then
 Option.bind
 (F57
 ([x.fst.snd.snd.snd.snd.snd.snd.snd.snd.snd.snd.snd.fst,
 x.fst.snd.snd.snd.snd.snd.snd.fst],
 ()))
 fun b =>
 bif b.fst then
 Option.bind (F60 x.fst.snd.snd.snd.snd.snd.snd.snd.snd.snd.snd.snd.snd.snd.snd.snd)
 fun b => some b
 else some (false, ())
 else some (false, ())
 else
 bif decide (x.fst.fst = 16) then some (true, ())
 else
 bif decide (x.fst.fst = 12) then
 Option.bind
 (F57
 ([x.fst.snd.snd.snd.snd.snd.snd.snd.snd.snd.snd.snd.fst, x.fst.snd.snd.snd.snd.snd.snd.fst],
 ()))
 fun b =>
 bif b.fst then
 Option.bind (F22 (x.fst.snd.fst, ())) fun b =>
 bif b.fst then
 Option.bind (F22 (x.fst.snd.snd.fst, ())) fun b => some b
 else some (false, ())
 else some (false, ())
 else
 bif decide (x.fst.fst = 13) then
 Option.bind (F57 ([x.fst.snd.snd.snd.snd.snd.snd.snd.snd.snd.snd.snd.fst], ()))
 fun b =>
 bif b.fst then Option.bind (F58 x) fun b => some b
 else some (false, ())
 else
 bif decide (x.fst.fst = 14) then
 Option.bind (F57 ([x.fst.snd.snd.snd.snd.snd.snd.snd.snd.snd.snd.snd.fst], ()))
 fun b =>
 bif b.fst then Option.bind (F59 x) fun b => some b
 else some (false, ())
 else
 bif decide (x.fst.fst = 15) then
 Option.bind
 (F57
 ([x.fst.snd.snd.snd.snd.snd.snd.snd.snd.snd.snd.snd.fst,
 x.fst.snd.snd.snd.snd.snd.snd.fst],
 ()))
 fun b =>
 bif b.fst then
 Option.bind (F60 x.fst.snd.snd.snd.snd.snd.snd.snd.snd.snd.snd.snd.snd.snd.snd.snd)
 fun b => some b
 else some (false, ())
 else some (false, ())
def S12 : Sig := ⟨P12, R12, F12⟩
noncomputable def E12 : Env := { tab := tab, nt := 81, Γ := lookG [(16, [S16]), (22, [S22]), (55, [S55]), (56, [S56]), (57, [S57]), (58, [S58]), (59, [S59]), (60, [S60])], joins := lookN [], loops := lookN [] }
theorem raw12_eq (x : T28D × Unit) : afun E12 Tryz.f12 P12 R12 x = F12 x := by kernel_rfl
-- decamp/cmd.RightJob
def F14 (x : T33D × Unit) : Option (Bool × Unit) :=
 Option.bind (F12 x.fst.snd.snd) fun b =>
 bif !b.fst then some (false, ())
 else
 Option.bind (F72 (x.fst.fst, 0, 31, ())) fun b =>
 bif !b.fst then some (false, ())
 else
 bif decide (x.fst.fst = 0) then
 bif decide (x.fst.snd.fst = 0) then some (decide (8 ≤ x.fst.snd.snd.fst.fst), ())
 else some (false, ())
 else
 Option.bind (F57 ([x.fst.snd.fst], ())) fun b =>
 bif b.fst then some (decide (x.fst.snd.snd.fst.fst < 8), ()) else some (false, ())
def S14 : Sig := ⟨P14, R14, F14⟩
noncomputable def E14 : Env := { tab := tab, nt := 35, Γ := lookG [(12, [S12]), (57, [S57]), (72, [S72])], joins := lookN [], loops := lookN [] }
theorem raw14_eq (x : T33D × Unit) : afun E14 Tryz.f14 P14 R14 x = F14 x := by kernel_rfl
-- bytes.Clone
def F101 (x : List UInt8 × Unit) : Option (List UInt8 × Unit) :=
 bif List.isEmpty x.fst then
 bothE T83D (some ([], ()))
 (Option.bind (appU [] x.fst) fun b => some (b, ()))
 else Option.bind (appU [] x.fst) fun b => some (b, ())
def S101 : Sig := ⟨P101, R101, F101⟩
noncomputable def E101 : Env := { tab := tab, nt := 8, Γ := lookG [], joins := lookN [], loops := lookN [] }
theorem raw101_eq (x : List UInt8 × Unit) : afun E101 Tryz.f101 P101 R101 x = F101 x := by kernel_rfl
-- (*decamp/octets.Out).End
def F51 (x : T83D × Unit) : Option (List UInt8 × Int × T83D × Unit) :=
 bif decide (60000 < Int.ofNat (List.length x.fst.fst)) then some ([], 3, x)
 else Option.bind (F101 x.fst) fun b => some (b.fst, 0, x)
def S51 : Sig := ⟨P51, R51, F51⟩
noncomputable def E51 : Env := { tab := tab, nt := 19, Γ := lookG [(101, [S101])], joins := lookN [], loops := lookN [] }
theorem raw51_eq (x : T83D × Unit) : afun E51 Tryz.f51 P51 R51 x = F51 x := by kernel_rfl
-- (*decamp/octets.Out).wide
def F129 (x : T83D × Int × Int × Unit) : Option (T83D × Unit) :=
 iterE (Int × T83D) (T83D × Unit)
 (fun (x_1 : Int × T83D) =>
 bif decide (0 ≤ x_1.fst) then
 Option.bind (shrO IntKind.u64 x.snd.fst (wrap64 (8 * x_1.fst))) fun b =>
 Option.bind (appU x_1.snd.fst [Sx.byteOf (IntKind.wrap IntKind.u8 b)]) fun b =>
 some (Sum.inl (wrap64 (x_1.fst - 1), b, ()))
 else some (Sum.inr (x_1.snd, ())))
 big (wrap64 (x.snd.snd.fst - 1), x.fst)
def S129 : Sig := ⟨P129, R129, F129⟩
noncomputable def E129 : Env := { tab := tab, nt := 29, Γ := lookG [], joins := lookN [], loops := lookN [(2, mkLoop ⟨[⟨.slot 6, (.int .i64), .pv⟩, ⟨.fld 0 0, (.slice .u8), .own true⟩], [0, 1], [.site 0]⟩)] }
theorem raw129_eq (x : T83D × Int × Int × Unit) : afun E129 Tryz.f129 P129 R129 x = F129 x := by kernel_rfl
-- (*decamp/octets.Out).Num
def F83 (x : T83D × Int × Unit) : Option (T83D × Unit) :=
 Option.bind (F129 (x.fst, IntKind.wrap IntKind.u64 x.snd.fst, 8, ()))
 fun b => some b
def S83 : Sig := ⟨P83, R83, F83⟩
noncomputable def E83 : Env := { tab := tab, nt := 8, Γ := lookG [(129, [S129])], joins := lookN [], loops := lookN [] }
theorem raw83_eq (x : T83D × Int × Unit) : afun E83 Tryz.f83 P83 R83 x = F83 x := by kernel_rfl
-- (*decamp/octets.Out).Count
def F143 (x : T83D × Int × Unit) : Option (T83D × Unit) :=
 Option.bind (F129 (x.fst, IntKind.wrap IntKind.u64 x.snd.fst, 4, ()))
 fun b => some b
def S143 : Sig := ⟨P143, R143, F143⟩
noncomputable def E143 : Env := { tab := tab, nt := 8, Γ := lookG [(129, [S129])], joins := lookN [], loops := lookN [] }
theorem raw143_eq (x : T83D × Int × Unit) : afun E143 Tryz.f143 P143 R143 x = F143 x := by kernel_rfl
-- (*decamp/octets.Out).Text
def F110 (x : T83D × List UInt8 × Unit) : Option (T83D × Unit) :=
 Option.bind (F143 (x.fst, Int.ofNat (List.length x.snd.fst), ())) fun b =>
 Option.bind (appU b.fst.fst x.snd.fst) fun b => some ((b, ()), ())
def S110 : Sig := ⟨P110, R110, F110⟩
noncomputable def E110 : Env := { tab := tab, nt := 19, Γ := lookG [(143, [S143])], joins := lookN [], loops := lookN [] }
theorem raw110_eq (x : T83D × List UInt8 × Unit) : afun E110 Tryz.f110 P110 R110 x = F110 x := by kernel_rfl
-- (*decamp/octets.Out).Byte
def F112 (x : T83D × UInt8 × Unit) : Option (T83D × Unit) :=
 Option.bind (F129 (x.fst, IntKind.wrap IntKind.u64 (intOf8 x.snd.fst), 1, ()))
 fun b => some b
def S112 : Sig := ⟨P112, R112, F112⟩
noncomputable def E112 : Env := { tab := tab, nt := 8, Γ := lookG [(129, [S129])], joins := lookN [], loops := lookN [] }
theorem raw112_eq (x : T83D × UInt8 × Unit) : afun E112 Tryz.f112 P112 R112 x = F112 x := by kernel_rfl
-- (*decamp/octets.Out).Flag
def F111 (x : T83D × Bool × Unit) : Option (T83D × Unit) :=
 bif x.snd.fst then
 Option.bind (F112 (x.fst, UInt8.ofNat 1, ())) fun b => some b
 else Option.bind (F112 (x.fst, UInt8.ofNat 0, ())) fun b => some b
def S111 : Sig := ⟨P111, R111, F111⟩
noncomputable def E111 : Env := { tab := tab, nt := 9, Γ := lookG [(112, [S112])], joins := lookN [], loops := lookN [] }
theorem raw111_eq (x : T83D × Bool × Unit) : afun E111 Tryz.f111 P111 R111 x = F111 x := by kernel_rfl
-- decamp/cmd.mayVer
def F104 (x : T66D × Unit) : Option (Bool × Unit) :=
 bif
 decide (x.fst.fst = 0) &&
 (decide (x.fst.snd.fst = 0) &&
 (decide (x.fst.snd.snd.fst = 0) &&
 (decide (x.fst.snd.snd.snd.fst = 0) &&
 (decide (x.fst.snd.snd.snd.snd.fst = []) &&
 (decide (x.fst.snd.snd.snd.snd.snd.fst = 0) &&
 (x.fst.snd.snd.snd.snd.snd.snd.fst == false && true)))))) then
 some (true, ())
 else Option.bind (F99 x) fun b => some b
def S104 : Sig := ⟨P104, R104, F104⟩
noncomputable def E104 : Env := { tab := tab, nt := 10, Γ := lookG [(99, [S99])], joins := lookN [], loops := lookN [] }
theorem raw104_eq (x : T66D × Unit) : afun E104 Tryz.f104 P104 R104 x = F104 x := by kernel_rfl
-- decamp/cmd.PutVer
def F46 (x : T83D × T66D × Unit) : Option (T83D × Unit) :=
 Option.bind
 (Option.bind (F104 x.snd) fun b =>
 bif !b.fst then some (Sum.inl (0, 0, 0, 0, [], 0, false, ())) else some (Sum.inl x.snd.fst))
 fun o =>
 Sum.elim
 (fun (x_1 : T66D) =>
 iterE (Int × T83D) (T83D × Unit)
 (fun (x : Int × T83D) =>
 bif
 decide
 (x.fst < Int.ofNat (List.length [x_1.fst, x_1.snd.fst, x_1.snd.snd.fst, x_1.snd.snd.snd.fst])) then
 Option.bind (idxN [x_1.fst, x_1.snd.fst, x_1.snd.snd.fst, x_1.snd.snd.snd.fst] x.fst) fun b =>
 Option.bind [x_1.fst, x_1.snd.fst, x_1.snd.snd.fst, x_1.snd.snd.snd.fst][b]? fun (b : Int) =>
 Option.bind (F83 (x.snd, b, ())) fun b =>
 some (Sum.inl (wrap64 (x.fst + 1), b.fst))
 else
 Option.map Sum.inr
 (Option.bind (F110 (x.snd, x_1.snd.snd.snd.snd.fst, ()))
 fun b =>
 Option.bind (F83 (b.fst, x_1.snd.snd.snd.snd.snd.fst, ()))
 fun b =>
 Option.bind (F111 (b.fst, x_1.snd.snd.snd.snd.snd.snd)) fun b =>
 some b))
 big (0, x.fst))
 (fun (val : T83D × Unit) => some val) o
def S46 : Sig := ⟨P46, R46, F46⟩
noncomputable def E46 : Env := { tab := tab, nt := 40, Γ := lookG [(83, [S83]), (104, [S104]), (110, [S110]), (111, [S111])], joins := lookN [(3, ⟨[⟨.fld 1000 0, (.int .i64), .pv⟩, ⟨.fld 1000 1, (.int .i64), .pv⟩, ⟨.fld 1000 2, (.int .i64), .pv⟩, ⟨.fld 1000 3, (.int .i64), .pv⟩, ⟨.fld 1000 4, .str, .pv⟩, ⟨.fld 1000 5, (.int .i64), .pv⟩, ⟨.fld 1000 6, .bool, .pv⟩], [0, 3], [.site 0, .fld 0 0, .row 0, .site 1000]⟩)], loops := lookN [(4, mkLoop ⟨[⟨.slot 20, (.int .i64), .pv⟩, ⟨.fld 0 0, (.slice .u8), .own true⟩], [0, 3, 18, 19], [.row 3009000, .site 1000, .fld 1000 0, .fld 1000 1, .fld 1000 2, .fld 1000 3, .fld 1000 4, .fld 1000 5, .fld 1000 6, .site 0]⟩)] }
theorem raw46_eq (x : T83D × T66D × Unit) : afun E46 Tryz.f46 P46 R46 x = F46 x := by kernel_rfl
-- decamp/cmd.rightItem
def F106 (x : T70D × Unit) : Option (Bool × Unit) :=
 bif decide (x.fst.fst = []) then Option.bind (F104 x.fst.snd) fun b => some b
 else
 Option.bind (F95 (x.fst.fst, ())) fun b =>
 bif b.fst then Option.bind (F104 x.fst.snd) fun b => some b else some (false, ())
def S106 : Sig := ⟨P106, R106, F106⟩
noncomputable def E106 : Env := { tab := tab, nt := 16, Γ := lookG [(95, [S95]), (104, [S104])], joins := lookN [], loops := lookN [] }
theorem raw106_eq (x : T70D × Unit) : afun E106 Tryz.f106 P106 R106 x = F106 x := by kernel_rfl
-- decamp/cmd.PutItem
def F47 (x : T83D × T70D × Unit) : Option (T83D × Unit) :=
 Option.bind (F106 x.snd) fun b =>
 bif !b.fst then
 Option.bind (F110 (x.fst, [], ())) fun b =>
 Option.bind (F46 (b.fst, (0, 0, 0, 0, [], 0, false, ()), ()))
 fun b => some b
 else
 Option.bind (F110 (x.fst, x.snd.fst.fst, ())) fun b =>
 Option.bind (F46 (b.fst, x.snd.fst.snd)) fun b => some b
def S47 : Sig := ⟨P47, R47, F47⟩
noncomputable def E47 : Env := { tab := tab, nt := 16, Γ := lookG [(46, [S46]), (106, [S106]), (110, [S110])], joins := lookN [], loops := lookN [] }
theorem raw47_eq (x : T83D × T70D × Unit) : afun E47 Tryz.f47 P47 R47 x = F47 x := by kernel_rfl
-- decamp/cmd.putItems
def F113 (x : T83D × List T70D × Unit) : Option (T83D × Unit) :=
 Option.bind (F143 (x.fst, Int.ofNat (List.length x.snd.fst), ())) fun b =>
 iterE (Int × T83D) (T83D × Unit)
 (fun (x_1 : Int × T83D) =>
 bif decide (x_1.fst < Int.ofNat (List.length x.snd.fst)) then
 Option.bind (idx x.snd.fst x_1.fst)
 fun b =>
 Option.bind (F47 (x_1.snd, b, ())) fun b =>
 some (Sum.inl (wrap64 (x_1.fst + 1), b.fst))
 else some (Sum.inr (x_1.snd, ())))
 big (0, b.fst)
def S113 : Sig := ⟨P113, R113, F113⟩
noncomputable def E113 : Env := { tab := tab, nt := 20, Γ := lookG [(47, [S47]), (143, [S143])], joins := lookN [], loops := lookN [(2, mkLoop ⟨[⟨.slot 12, (.int .i64), .pv⟩, ⟨.fld 0 0, (.slice .u8), .own true⟩], [0, 10, 11], [.site 0]⟩)] }
theorem raw113_eq (x : T83D × List T70D × Unit) : afun E113 Tryz.f113 P113 R113 x = F113 x := by kernel_rfl
-- decamp/cmd.PutReply
def F48 (x : T83D × T51D × Unit) : Option (T83D × Unit) :=
 Option.bind
 (Option.bind (F24 x.snd) fun b =>
 bif !b.fst then some (Sum.inl (0, 0, false, 0, [], 0, 0, ())) else some (Sum.inl x.snd.fst))
 fun o =>
 Sum.elim
 (fun (x_1 :
 Int × Int × Bool × Int × List T70D × Int × Int × Unit) =>
 Option.bind (F112 (x.fst, Sx.byteOf (IntKind.wrap IntKind.u8 x_1.fst), ()))
 fun b =>
 Option.bind (F83 (b.fst, x_1.snd.fst, ())) fun b =>
 Option.bind (F111 (b.fst, x_1.snd.snd.fst, ())) fun b =>
 Option.bind (F83 (b.fst, x_1.snd.snd.snd.fst, ())) fun b =>
 Option.bind (F113 (b.fst, x_1.snd.snd.snd.snd.fst, ()))
 fun b =>
 Option.bind
 (F112 (b.fst, Sx.byteOf (IntKind.wrap IntKind.u8 x_1.snd.snd.snd.snd.snd.fst), ()))
 fun b =>
 Option.bind (F83 (b.fst, x_1.snd.snd.snd.snd.snd.snd)) fun b =>
 some b)
 (fun (val : T83D × Unit) => some val) o
def S48 : Sig := ⟨P48, R48, F48⟩
noncomputable def E48 : Env := { tab := tab, nt := 38, Γ := lookG [(24, [S24]), (83, [S83]), (111, [S111]), (112, [S112]), (113, [S113])], joins := lookN [(3, ⟨[⟨.fld 1000 0, (.int .i64), .pv⟩, ⟨.fld 1000 1, (.int .i64), .pv⟩, ⟨.fld 1000 2, .bool, .pv⟩, ⟨.fld 1000 3, (.int .i64), .pv⟩, ⟨.fld 1000 4, (.slice T70), .pv⟩, ⟨.fld 1000 5, (.int .i64), .pv⟩, ⟨.fld 1000 6, (.int .i64), .pv⟩], [0, 3], [.site 0, .fld 0 0, .row 0, .site 1000]⟩)], loops := lookN [] }
theorem raw48_eq (x : T83D × T51D × Unit) : afun E48 Tryz.f48 P48 R48 x = F48 x := by kernel_rfl
-- decamp/cmd.putHanded
def F114 (x : T83D × List T94D × List T113D × Unit) : Option (T83D × Unit) :=
 Option.bind (F143 (x.fst, Int.ofNat (List.length x.snd.fst), ())) fun b =>
 iterE (Int × T83D) (T83D × Unit)
 (fun (x_1 : Int × T83D) =>
 bif decide (x_1.fst < Int.ofNat (List.length x.snd.fst)) then
 Option.bind (idx x.snd.fst x_1.fst)
 fun b =>
 Option.bind (F83 (x_1.snd, b.fst, ())) fun b_1 =>
 Option.bind (F83 (b_1.fst, b.snd.fst, ())) fun b_2 =>
 Option.bind (F48 (b_2.fst, b.snd.snd)) fun b =>
 some (Sum.inl (wrap64 (x_1.fst + 1), b.fst))
 else
 Option.map Sum.inr
 (Option.bind (F143 (x_1.snd, Int.ofNat (List.length x.snd.snd.fst), ()))
 fun b =>
 iterE (Int × T83D) (T83D × Unit)
 (fun (x_2 : Int × T83D) =>
 bif decide (x_2.fst < Int.ofNat (List.length x.snd.snd.fst)) then
 Option.bind (idx x.snd.snd.fst x_2.fst) fun b =>
 Option.bind (F83 (x_2.snd, b.fst, ())) fun b_1 =>
 Option.bind (F83 (b_1.fst, b.snd.fst, ())) fun b_2 =>
 Option.bind (F83 (b_2.fst, b.snd.snd)) fun b =>
 some (Sum.inl (wrap64 (x_2.fst + 1), b.fst))
 else some (Sum.inr (x_2.snd, ())))
 big (0, b.fst)))
 big (0, b.fst)
def S114 : Sig := ⟨P114, R114, F114⟩
noncomputable def E114 : Env := { tab := tab, nt := 56, Γ := lookG [(48, [S48]), (83, [S83]), (143, [S143])], joins := lookN [], loops := lookN [(2, mkLoop ⟨[⟨.slot 16, (.int .i64), .pv⟩, ⟨.fld 0 0, (.slice .u8), .own true⟩], [0, 2, 14, 15], [.site 0]⟩), (10, mkLoop ⟨[⟨.slot 39, (.int .i64), .pv⟩, ⟨.fld 0 0, (.slice .u8), .own true⟩], [0, 37, 38], [.site 0]⟩)] }
theorem raw114_eq (x : T83D × List T94D × List T113D × Unit) : afun E114 Tryz.f114 P114 R114 x = F114 x := by kernel_rfl
-- decamp/cmd.putCmps
def F130 (x : T83D × List T96D × Unit) : Option (T83D × Unit) :=
 Option.bind (F143 (x.fst, Int.ofNat (List.length x.snd.fst), ())) fun b =>
 iterE (Int × T83D) (T83D × Unit)
 (fun (x_1 : Int × T83D) =>
 bif decide (x_1.fst < Int.ofNat (List.length x.snd.fst)) then
 Option.bind (idx x.snd.fst x_1.fst) fun b =>
 Option.bind (F110 (x_1.snd, b.fst, ())) fun b_1 =>
 Option.bind (F112 (b_1.fst, Sx.byteOf (IntKind.wrap IntKind.u8 b.snd.fst), ()))
 fun b_2 =>
 Option.bind (F112 (b_2.fst, Sx.byteOf (IntKind.wrap IntKind.u8 b.snd.snd.fst), ()))
 fun b_3 =>
 Option.bind (F83 (b_3.fst, b.snd.snd.snd.fst, ())) fun b_4 =>
 Option.bind (F110 (b_4.fst, b.snd.snd.snd.snd)) fun b =>
 some (Sum.inl (wrap64 (x_1.fst + 1), b.fst))
 else some (Sum.inr (x_1.snd, ())))
 big (0, b.fst)
def S130 : Sig := ⟨P130, R130, F130⟩
noncomputable def E130 : Env := { tab := tab, nt := 39, Γ := lookG [(83, [S83]), (110, [S110]), (112, [S112]), (143, [S143])], joins := lookN [], loops := lookN [(2, mkLoop ⟨[⟨.slot 12, (.int .i64), .pv⟩, ⟨.fld 0 0, (.slice .u8), .own true⟩], [0, 10, 11], [.site 0]⟩)] }
theorem raw130_eq (x : T83D × List T96D × Unit) : afun E130 Tryz.f130 P130 R130 x = F130 x := by kernel_rfl
-- decamp/cmd.putOps
def F131 (x : T83D × List T48D × Unit) : Option (T83D × Unit) :=
 Option.bind (F143 (x.fst, Int.ofNat (List.length x.snd.fst), ())) fun b =>
 iterE (Int × T83D) (T83D × Unit)
 (fun (x_1 : Int × T83D) =>
 bif decide (x_1.fst < Int.ofNat (List.length x.snd.fst)) then
 Option.bind (idx x.snd.fst x_1.fst) fun b =>
 Option.bind (F112 (x_1.snd, Sx.byteOf (IntKind.wrap IntKind.u8 b.fst), ()))
 fun b_1 =>
 Option.bind (F110 (b_1.fst, b.snd.fst, ())) fun b_2 =>
 Option.bind (F110 (b_2.fst, b.snd.snd.fst, ())) fun b_3 =>
 Option.bind (F110 (b_3.fst, b.snd.snd.snd.fst, ()))
 fun b_4 =>
 Option.bind (F83 (b_4.fst, b.snd.snd.snd.snd)) fun b =>
 some (Sum.inl (wrap64 (x_1.fst + 1), b.fst))
 else some (Sum.inr (x_1.snd, ())))
 big (0, b.fst)
def S131 : Sig := ⟨P131, R131, F131⟩
noncomputable def E131 : Env := { tab := tab, nt := 38, Γ := lookG [(83, [S83]), (110, [S110]), (112, [S112]), (143, [S143])], joins := lookN [], loops := lookN [(2, mkLoop ⟨[⟨.slot 12, (.int .i64), .pv⟩, ⟨.fld 0 0, (.slice .u8), .own true⟩], [0, 10, 11], [.site 0]⟩)] }
theorem raw131_eq (x : T83D × List T48D × Unit) : afun E131 Tryz.f131 P131 R131 x = F131 x := by kernel_rfl
-- decamp/cmd.putCmd
def F84 (x : T83D × T28D × Unit) : Option (T83D × Unit) :=
 Option.bind (F112 (x.fst, Sx.byteOf (IntKind.wrap IntKind.u8 x.snd.fst.fst), ()))
 fun b =>
 iterE (Int × T83D) (T83D × Unit)
 (fun (x_1 : Int × T83D) =>
 bif
 decide
 (x_1.fst <
 Int.ofNat (List.length [x.snd.fst.snd.fst, x.snd.fst.snd.snd.fst, x.snd.fst.snd.snd.snd.fst])) then
 Option.bind (idxN [x.snd.fst.snd.fst, x.snd.fst.snd.snd.fst, x.snd.fst.snd.snd.snd.fst] x_1.fst)
 fun b =>
 Option.bind [x.snd.fst.snd.fst, x.snd.fst.snd.snd.fst, x.snd.fst.snd.snd.snd.fst][b]?
 fun (b : List UInt8) =>
 Option.bind (F110 (x_1.snd, b, ())) fun b =>
 some (Sum.inl (wrap64 (x_1.fst + 1), b.fst))
 else
 Option.map Sum.inr
 (iterE (Int × T83D) (T83D × Unit)
 (fun (x_2 : Int × T83D) =>
 bif
 decide
 (x_2.fst <
 Int.ofNat
 (List.length
 [x.snd.fst.snd.snd.snd.snd.fst, x.snd.fst.snd.snd.snd.snd.snd.fst,
 x.snd.fst.snd.snd.snd.snd.snd.snd.fst])) then
 Option.bind
 (idxN
 [x.snd.fst.snd.snd.snd.snd.fst, x.snd.fst.snd.snd.snd.snd.snd.fst,
 x.snd.fst.snd.snd.snd.snd.snd.snd.fst]
 x_2.fst)
 fun b =>
 Option.bind
 [x.snd.fst.snd.snd.snd.snd.fst, x.snd.fst.snd.snd.snd.snd.snd.fst,
 x.snd.fst.snd.snd.snd.snd.snd.snd.fst][b]?
 fun (b : Int) =>
 Option.bind (F83 (x_2.snd, b, ())) fun b =>
 some (Sum.inl (wrap64 (x_2.fst + 1), b.fst))
 else
 Option.map Sum.inr
 (Option.bind (F130 (x_2.snd, x.snd.fst.snd.snd.snd.snd.snd.snd.snd.fst, ()))
 fun b =>
 Option.bind (F131 (b.fst, x.snd.fst.snd.snd.snd.snd.snd.snd.snd.snd.fst, ()))
 fun b =>
 Option.bind (F131 (b.fst, x.snd.fst.snd.snd.snd.snd.snd.snd.snd.snd.snd.fst, ()))
 fun b =>
 iterE (Int × T83D) (T83D × Unit)
 (fun (x_3 : Int × T83D) =>
 bif
 decide
 (x_3.fst <
 Int.ofNat
 (List.length
 [x.snd.fst.snd.snd.snd.snd.snd.snd.snd.snd.snd.snd.fst,
 x.snd.fst.snd.snd.snd.snd.snd.snd.snd.snd.snd.snd.snd.fst,
 x.snd.fst.snd.snd.snd.snd.snd.snd.snd.snd.snd.snd.snd.snd.fst])) then
 Option.bind
 (idxN
 [x.snd.fst.snd.snd.snd.snd.snd.snd.snd.snd.snd.snd.fst,
 x.snd.fst.snd.snd.snd.snd.snd.snd.snd.snd.snd.snd.snd.fst,
 x.snd.fst.snd.snd.snd.snd.snd.snd.snd.snd.snd.snd.snd.snd.fst]
 x_3.fst)
 fun b =>
 Option.bind
 [x.snd.fst.snd.snd.snd.snd.snd.snd.snd.snd.snd.snd.fst,
 x.snd.fst.snd.snd.snd.snd.snd.snd.snd.snd.snd.snd.snd.fst,
 x.snd.fst.snd.snd.snd.snd.snd.snd.snd.snd.snd.snd.snd.snd.fst][b]?
 fun (b : Int) =>
 Option.bind (F83 (x_3.snd, b, ())) fun b =>
 some (Sum.inl (wrap64 (x_3.fst + 1), b.fst))
 else
 Option.map Sum.inr
 (Option.bind
 (F111
 (x_3.snd, x.snd.fst.snd.snd.snd.snd.snd.snd.snd.snd.snd.snd.snd.snd.snd.fst,
 ()))
 fun b =>
 Option.bind
 (F113
 (b.fst, x.snd.fst.snd.snd.snd.snd.snd.snd.snd.snd.snd.snd.snd.snd.snd.snd.fst,
 ()))
 fun b =>
 Option.bind
 (F114
 (b.fst,
 x.snd.fst.snd.snd.snd.snd.snd.snd.snd.snd.snd.snd.snd.snd.snd.snd.snd))
 fun b => some b))
 big (0, b.fst)))
 big (0, x_1.snd)))
 big (0, b.fst)
def S84 : Sig := ⟨P84, R84, F84⟩
noncomputable def E84 : Env := { tab := tab, nt := 89, Γ := lookG [(83, [S83]), (110, [S110]), (111, [S111]), (112, [S112]), (113, [S113]), (114, [S114]), (130, [S130]), (131, [S131])], joins := lookN [], loops := lookN [(3, mkLoop ⟨[⟨.slot 23, (.int .i64), .pv⟩, ⟨.fld 0 0, (.slice .u8), .own true⟩], [0, 3, 21, 22], [.site 0, .row 2007000, .site 1000, .fld 1000 0, .fld 1000 1, .fld 1000 2, .fld 1000 3, .fld 1000 4, .fld 1000 5, .fld 1000 6, .fld 1000 7, .fld 1000 8, .fld 1000 9, .fld 1000 10, .fld 1000 11, .fld 1000 12, .fld 1000 13, .fld 1000 14, .fld 1000 15, .fld 1000 16]⟩), (8, mkLoop ⟨[⟨.slot 39, (.int .i64), .pv⟩, ⟨.fld 0 0, (.slice .u8), .own true⟩], [0, 3, 37, 38], [.row 7007000, .site 1000, .fld 1000 0, .fld 1000 1, .fld 1000 2, .fld 1000 3, .fld 1000 4, .fld 1000 5, .fld 1000 6, .fld 1000 7, .fld 1000 8, .fld 1000 9, .fld 1000 10, .fld 1000 11, .fld 1000 12, .fld 1000 13, .fld 1000 14, .fld 1000 15, .fld 1000 16, .site 0]⟩), (16, mkLoop ⟨[⟨.slot 67, (.int .i64), .pv⟩, ⟨.fld 0 0, (.slice .u8), .own true⟩], [0, 3, 65, 66], [.row 15007000, .site 1000, .fld 1000 0, .fld 1000 1, .fld 1000 2, .fld 1000 3, .fld 1000 4, .fld 1000 5, .fld 1000 6, .fld 1000 7, .fld 1000 8, .fld 1000 9, .fld 1000 10, .fld 1000 11, .fld 1000 12, .fld 1000 13, .fld 1000 14, .fld 1000 15, .fld 1000 16, .site 0]⟩)] }
theorem raw84_eq (x : T83D × T28D × Unit) : afun E84 Tryz.f84 P84 R84 x = F84 x := by kernel_rfl
-- decamp/cmd.Encode
def F18 (x : T33D × Unit) : Option (List UInt8 × Int × Unit) :=
 Option.bind (F14 x) fun b =>
 bif !b.fst then some ([], 1, ())
 else
 Option.bind (F83 (([], ()), x.fst.fst, ())) fun b =>
 Option.bind (F83 (b.fst, x.fst.snd.fst, ())) fun b =>
 Option.bind (F84 (b.fst, x.fst.snd.snd)) fun b =>
 Option.bind (F51 b) fun b =>
 bif !decide (b.snd.fst = 0) then some ([], 3, ())
 else
 bif decide (12000 < Int.ofNat (List.length b.fst)) then some ([], 3, ())
 else some (b.fst, 0, ())
def S18 : Sig := ⟨P18, R18, F18⟩
noncomputable def E18 : Env := { tab := tab, nt := 31, Γ := lookG [(14, [S14]), (51, [S51]), (83, [S83]), (84, [S84])], joins := lookN [], loops := lookN [] }
theorem raw18_eq (x : T33D × Unit) : afun E18 Tryz.f18 P18 R18 x = F18 x := by kernel_rfl
-- decamp/octets.NewIn
def F32 (x : List UInt8 × Unit) : Option (T131D × Unit) :=
 Option.bind (F101 x) fun b => some ((b.fst, false, ()), ())
def S32 : Sig := ⟨P32, R32, F32⟩
noncomputable def E32 : Env := { tab := tab, nt := 7, Γ := lookG [(101, [S101])], joins := lookN [], loops := lookN [] }
theorem raw32_eq (x : List UInt8 × Unit) : afun E32 Tryz.f32 P32 R32 x = F32 x := by kernel_rfl
-- (*decamp/octets.In).Done
def F54 (x : T131D × Unit) : Option (Bool × T131D × Unit) :=
 bif !x.fst.snd.fst then some (decide (Int.ofNat (List.length x.fst.fst) = 0), x) else some (false, x)
def S54 : Sig := ⟨P54, R54, F54⟩
noncomputable def E54 : Env := { tab := tab, nt := 20, Γ := lookG [], joins := lookN [], loops := lookN [] }
theorem raw54_eq (x : T131D × Unit) : afun E54 Tryz.f54 P54 R54 x = F54 x := by kernel_rfl
-- (*decamp/octets.In).Fail
def F105 (x : T131D × Unit) : Option (T131D × Unit) := some (([], true, ()), ())
def S105 : Sig := ⟨P105, R105, F105⟩
noncomputable def E105 : Env := { tab := tab, nt := 10, Γ := lookG [], joins := lookN [], loops := lookN [] }
theorem raw105_eq (x : T131D × Unit) : afun E105 Tryz.f105 P105 R105 x = F105 x := by kernel_rfl
-- (*decamp/octets.In).take
def F141 (x : T131D × Int × Unit) : Option (List UInt8 × T131D × Unit) :=
 bif x.fst.snd.fst then some ([], x.fst, ())
 else
 bif decide (Int.ofNat (List.length x.fst.fst) < x.snd.fst) then
 Option.bind (F105 (x.fst, ())) fun b => some ([], b)
 else
 Option.bind (sliceO x.fst.fst 0 x.snd.fst) fun b =>
 Option.bind (sliceO b 0 x.snd.fst) fun b =>
 Option.bind (sliceO x.fst.fst x.snd.fst ↑(List.length x.fst.fst)) fun b_1 =>
 some (b, (b_1, x.fst.snd), ())
def S141 : Sig := ⟨P141, R141, F141⟩
noncomputable def E141 : Env := { tab := tab, nt := 40, Γ := lookG [(105, [S105])], joins := lookN [], loops := lookN [] }
theorem raw141_eq (x : T131D × Int × Unit) : afun E141 Tryz.f141 P141 R141 x = F141 x := by kernel_rfl
-- (*decamp/octets.In).wide
def F134 (x : T131D × Int × Unit) : Option (Int × T131D × Unit) :=
 Option.bind (F141 x) fun b =>
 iterE (Int × Int × Unit) (Int × T131D × Unit)
 (fun (x : Int × Int × Unit) =>
 bif decide (x.snd.fst < Int.ofNat (List.length b.fst)) then
 Option.bind (idx b.fst x.snd.fst) fun b =>
 Option.bind (shlO IntKind.u64 x.fst 8) fun b_1 =>
 some
 (Sum.inl
 (bitsO BinOp.or IntKind.u64 b_1 (IntKind.wrap IntKind.u64 (intOf8 b)),
 wrap64 (x.snd.fst + 1), ()))
 else some (Sum.inr (x.fst, b.snd)))
 big (0, 0, ())
def S134 : Sig := ⟨P134, R134, F134⟩
noncomputable def E134 : Env := { tab := tab, nt := 23, Γ := lookG [(141, [S141])], joins := lookN [], loops := lookN [(3, mkLoop ⟨[⟨.slot 5, (.int .u64), .pv⟩, ⟨.slot 12, (.int .i64), .pv⟩], [10, 11], [.site 0, .fld 0 0, .fld 0 1]⟩)] }
theorem raw134_eq (x : T131D × Int × Unit) : afun E134 Tryz.f134 P134 R134 x = F134 x := by kernel_rfl
-- (*decamp/octets.In).Num
def F93 (x : T131D × Unit) : Option (Int × T131D × Unit) :=
 Option.bind (F134 (x.fst, 8, ())) fun b =>
 some (wrap64 b.fst, b.snd)
def S93 : Sig := ⟨P93, R93, F93⟩
noncomputable def E93 : Env := { tab := tab, nt := 6, Γ := lookG [(134, [S134])], joins := lookN [], loops := lookN [] }
theorem raw93_eq (x : T131D × Unit) : afun E93 Tryz.f93 P93 R93 x = F93 x := by kernel_rfl
-- (*decamp/octets.In).Left
def F45 (x : T131D × Unit) : Option (Int × T131D × Unit) := some (Int.ofNat (List.length x.fst.fst), x)
def S45 : Sig := ⟨P45, R45, F45⟩
noncomputable def E45 : Env := { tab := tab, nt := 10, Γ := lookG [], joins := lookN [], loops := lookN [] }
theorem raw45_eq (x : T131D × Unit) : afun E45 Tryz.f45 P45 R45 x = F45 x := by kernel_rfl
-- (*decamp/octets.In).Count
def F142 (x : T131D × Int × Unit) : Option (Int × T131D × Unit) :=
 Option.bind (F134 (x.fst, 4, ())) fun b =>
 bif decide (IntKind.wrap IntKind.u64 (maxI x.snd.fst 0) < b.fst) then
 Option.bind (F105 b.snd) fun b => some (0, b)
 else
 Option.bind (F45 b.snd) fun b_1 =>
 bif decide (IntKind.wrap IntKind.u64 b_1.fst < b.fst) then
 Option.bind (F105 b_1.snd) fun b => some (0, b)
 else
 bif decide (x.snd.fst < 0) then
 Option.bind (F105 b_1.snd) fun b => some (0, b)
 else some (wrap64 b.fst, b_1.snd)
def S142 : Sig := ⟨P142, R142, F142⟩
noncomputable def E142 : Env := { tab := tab, nt := 28, Γ := lookG [(45, [S45]), (105, [S105]), (134, [S134])], joins := lookN [], loops := lookN [] }
theorem raw142_eq (x : T131D × Int × Unit) : afun E142 Tryz.f142 P142 R142 x = F142 x := by kernel_rfl
-- (*decamp/octets.In).Text
def F102 (x : T131D × Int × Unit) : Option (List UInt8 × T131D × Unit) :=
 Option.bind (F142 x) fun b =>
 Option.bind (F141 (b.snd.fst, b.fst, ())) fun b =>
 some b
def S102 : Sig := ⟨P102, R102, F102⟩
noncomputable def E102 : Env := { tab := tab, nt := 11, Γ := lookG [(141, [S141]), (142, [S142])], joins := lookN [], loops := lookN [] }
theorem raw102_eq (x : T131D × Int × Unit) : afun E102 Tryz.f102 P102 R102 x = F102 x := by kernel_rfl
-- (*decamp/octets.In).Byte
def F107 (x : T131D × Unit) : Option (UInt8 × T131D × Unit) :=
 Option.bind (F134 (x.fst, 1, ())) fun b =>
 some (Sx.byteOf (IntKind.wrap IntKind.u8 b.fst), b.snd)
def S107 : Sig := ⟨P107, R107, F107⟩
noncomputable def E107 : Env := { tab := tab, nt := 6, Γ := lookG [(134, [S134])], joins := lookN [], loops := lookN [] }
theorem raw107_eq (x : T131D × Unit) : afun E107 Tryz.f107 P107 R107 x = F107 x := by kernel_rfl
-- (*decamp/octets.In).Flag
def F103 (x : T131D × Unit) : Option (Bool × T131D × Unit) :=
 Option.bind (F107 x) fun b =>
 bif decide (intOf8 (UInt8.ofNat 1) < intOf8 b.fst) then
 Option.bind (F105 b.snd) fun b_1 =>
 some (decide (intOf8 b.fst = intOf8 (UInt8.ofNat 1)), b_1)
 else some (decide (intOf8 b.fst = intOf8 (UInt8.ofNat 1)), b.snd)
def S103 : Sig := ⟨P103, R103, F103⟩
noncomputable def E103 : Env := { tab := tab, nt := 12, Γ := lookG [(105, [S105]), (107, [S107])], joins := lookN [], loops := lookN [] }
theorem raw103_eq (x : T131D × Unit) : afun E103 Tryz.f103 P103 R103 x = F103 x := by kernel_rfl
-- (*decamp/octets.In).Bad
def F44 (x : T131D × Unit) : Option (Bool × T131D × Unit) := some (x.fst.snd.fst, x)
def S44 : Sig := ⟨P44, R44, F44⟩
noncomputable def E44 : Env := { tab := tab, nt := 11, Γ := lookG [], joins := lookN [], loops := lookN [] }
theorem raw44_eq (x : T131D × Unit) : afun E44 Tryz.f44 P44 R44 x = F44 x := by kernel_rfl
-- decamp/cmd.GetVer
def F33 (x : T131D × Unit) : Option (T66D × T131D × Unit) :=
 Option.bind (F93 x) fun b =>
 Option.bind (F93 b.snd) fun b_1 =>
 Option.bind (F93 b_1.snd) fun b_2 =>
 Option.bind (F93 b_2.snd) fun b_3 =>
 Option.bind (F102 (b_3.snd.fst, 60000, ()))
 fun b_4 =>
 Option.bind (F93 b_4.snd) fun b_5 =>
 Option.bind (F103 b_5.snd) fun b_6 =>
 Option.bind (F44 b_6.snd) fun b_7 =>
 bif b_7.fst then
 Option.bind (F105 b_7.snd) fun b =>
 some ((0, 0, 0, 0, [], 0, false, ()), b)
 else
 Option.bind
 (F104 ((b.fst, b_1.fst, b_2.fst, b_3.fst, b_4.fst, b_5.fst, b_6.fst, ()), ()))
 fun b_8 =>
 bif !b_8.fst then
 Option.bind (F105 b_7.snd) fun b =>
 some ((0, 0, 0, 0, [], 0, false, ()), b)
 else some ((b.fst, b_1.fst, b_2.fst, b_3.fst, b_4.fst, b_5.fst, b_6.fst, ()), b_7.snd)
def S33 : Sig := ⟨P33, R33, F33⟩
noncomputable def E33 : Env := { tab := tab, nt := 30, Γ := lookG [(44, [S44]), (93, [S93]), (102, [S102]), (103, [S103]), (104, [S104]), (105, [S105])], joins := lookN [], loops := lookN [] }
theorem raw33_eq (x : T131D × Unit) : afun E33 Tryz.f33 P33 R33 x = F33 x := by kernel_rfl
-- decamp/cmd.GetItem
def F35 (x : T131D × Unit) : Option (T70D × T131D × Unit) :=
 Option.bind (F102 (x.fst, 60000, ())) fun b =>
 Option.bind (F33 b.snd)
 fun b_1 =>
 Option.bind (F44 b_1.snd) fun b_2 =>
 bif b_2.fst then
 Option.bind (F105 b_2.snd) fun b =>
 some (([], (0, 0, 0, 0, [], 0, false, ()), ()), b)
 else
 Option.bind (F106 ((b.fst, b_1.fst, ()), ())) fun b_3 =>
 bif !b_3.fst then
 Option.bind (F105 b_2.snd) fun b =>
 some (([], (0, 0, 0, 0, [], 0, false, ()), ()), b)
 else some ((b.fst, b_1.fst, ()), b_2.snd)
def S35 : Sig := ⟨P35, R35, F35⟩
noncomputable def E35 : Env := { tab := tab, nt := 20, Γ := lookG [(33, [S33]), (44, [S44]), (102, [S102]), (105, [S105]), (106, [S106])], joins := lookN [], loops := lookN [] }
theorem raw35_eq (x : T131D × Unit) : afun E35 Tryz.f35 P35 R35 x = F35 x := by kernel_rfl
-- decamp/cmd.getItems
def F108 (x : T131D × Unit) : Option (List T70D × T131D × Unit) :=
 Option.bind (F142 (x.fst, 60000, ())) fun b =>
 iterE
 (List T70D × Int × T131D)
 (List T70D × T131D × Unit)
 (fun (x :
 List T70D × Int × T131D) =>
 bif decide (x.snd.fst < b.fst) then
 Option.bind (F35 (x.snd.snd, ()))
 fun b =>
 Option.bind (appO x.fst [b.fst])
 fun b_1 =>
 some (Sum.inl (b_1, wrap64 (x.snd.fst + 1), b.snd.fst))
 else some (Sum.inr (x.fst, x.snd.snd, ())))
 big ([], 0, b.snd.fst)
def S108 : Sig := ⟨P108, R108, F108⟩
noncomputable def E108 : Env := { tab := tab, nt := 15, Γ := lookG [(35, [S35]), (142, [S142])], joins := lookN [], loops := lookN [(3, mkLoop ⟨[⟨.slot 3, (.slice T70), .own false⟩, ⟨.slot 6, (.int .i64), .pv⟩, ⟨.fld 0 0, (.slice .u8), .pv⟩, ⟨.fld 0 1, .bool, .pv⟩], [0, 5], [.site 0]⟩)] }
theorem raw108_eq (x : T131D × Unit) : afun E108 Tryz.f108 P108 R108 x = F108 x := by kernel_rfl
-- decamp/cmd.GetReply
def F37 (x : T131D × Unit) : Option (T51D × T131D × Unit) :=
 Option.bind (F107 x) fun b =>
 Option.bind (F93 b.snd) fun b_1 =>
 Option.bind (F103 b_1.snd) fun b_2 =>
 Option.bind (F93 b_2.snd) fun b_3 =>
 Option.bind (F108 b_3.snd)
 fun b_4 =>
 Option.bind (F107 b_4.snd) fun b_5 =>
 Option.bind (F93 b_5.snd) fun b_6 =>
 Option.bind (F44 b_6.snd) fun b_7 =>
 bif b_7.fst then
 Option.bind (F105 b_7.snd) fun b =>
 some ((0, 0, false, 0, [], 0, 0, ()), b)
 else
 Option.bind
 (F24
 ((wrap64 (intOf8 b.fst), b_1.fst, b_2.fst, b_3.fst, b_4.fst,
 wrap64 (intOf8 b_5.fst), b_6.fst, ()),
 ()))
 fun b_8 =>
 bif !b_8.fst then
 Option.bind (F105 b_7.snd) fun b =>
 some ((0, 0, false, 0, [], 0, 0, ()), b)
 else
 some
 ((wrap64 (intOf8 b.fst), b_1.fst, b_2.fst, b_3.fst, b_4.fst,
 wrap64 (intOf8 b_5.fst), b_6.fst, ()),
 b_7.snd)
def S37 : Sig := ⟨P37, R37, F37⟩
noncomputable def E37 : Env := { tab := tab, nt := 32, Γ := lookG [(24, [S24]), (44, [S44]), (93, [S93]), (103, [S103]), (105, [S105]), (107, [S107]), (108, [S108])], joins := lookN [], loops := lookN [] }
theorem raw37_eq (x : T131D × Unit) : afun E37 Tryz.f37 P37 R37 x = F37 x := by kernel_rfl
-- decamp/cmd.getHanded
def F109 (x : T131D × Unit) : Option (List T94D × List T113D × T131D × Unit) :=
 Option.bind (F142 (x.fst, 60000, ())) fun b =>
 iterE
 (List
 (Int × Int × (Int × Int × Bool × Int × List T70D × Int × Int × Unit) × Unit) × Int × T131D)
 (List
 (Int × Int × (Int × Int × Bool × Int × List T70D × Int × Int × Unit) × Unit) × List T113D × T131D × Unit)
 (fun (x :
 List
 (Int × Int × (Int × Int × Bool × Int × List T70D × Int × Int × Unit) × Unit) × Int × T131D) =>
 bif decide (x.snd.fst < b.fst) then
 Option.bind (F93 (x.snd.snd, ())) fun b =>
 Option.bind (F93 b.snd) fun b_1 =>
 Option.bind (F37 b_1.snd)
 fun b_2 =>
 Option.bind (appM x.fst [(b.fst, b_1.fst, b_2.fst, ())])
 fun b =>
 some (Sum.inl (b, wrap64 (x.snd.fst + 1), b_2.snd.fst))
 else
 Option.map Sum.inr
 (Option.bind (F142 (x.snd.snd, 60000, ())) fun b =>
 iterE (List T113D × Int × T131D)
 (List
 (Int × Int × (Int × Int × Bool × Int × List
 T70D × Int × Int × Unit) × Unit) × List T113D × T131D × Unit)
 (fun (x_1 : List T113D × Int × T131D) =>
 bif decide (x_1.snd.fst < b.fst) then
 Option.bind (F93 (x_1.snd.snd, ())) fun b =>
 Option.bind (F93 b.snd) fun b_1 =>
 Option.bind (F93 b_1.snd) fun b_2 =>
 Option.bind (appO x_1.fst [(b.fst, b_1.fst, b_2.fst, ())])
 fun b =>
 some (Sum.inl (b, wrap64 (x_1.snd.fst + 1), b_2.snd.fst))
 else some (Sum.inr (x.fst, x_1.fst, x_1.snd.snd, ())))
 big ([], 0, b.snd.fst)))
 big ([], 0, b.snd.fst)
def S109 : Sig := ⟨P109, R109, F109⟩
noncomputable def E109 : Env := { tab := tab, nt := 38, Γ := lookG [(37, [S37]), (93, [S93]), (142, [S142])], joins := lookN [], loops := lookN [(3, mkLoop ⟨[⟨.slot 4, (.slice T94), .own false⟩, ⟨.slot 8, (.int .i64), .pv⟩, ⟨.fld 0 0, (.slice .u8), .pv⟩, ⟨.fld 0 1, .bool, .pv⟩], [0, 7], [.site 0]⟩), (8, mkLoop ⟨[⟨.slot 5, (.slice T113), .own false⟩, ⟨.slot 23, (.int .i64), .pv⟩, ⟨.fld 0 0, (.slice .u8), .pv⟩, ⟨.fld 0 1, .bool, .pv⟩], [0, 4, 22], [.row 50003000, .site 0]⟩)] }
theorem raw109_eq (x : T131D × Unit) : afun E109 Tryz.f109 P109 R109 x = F109 x := by kernel_rfl
-- decamp/cmd.getCmps
def F135 (x : T131D × Unit) : Option (List T96D × T131D × Unit) :=
 Option.bind (F142 (x.fst, 60000, ())) fun b =>
 iterE (List T96D × Int × T131D)
 (List T96D × T131D × Unit)
 (fun (x : List T96D × Int × T131D) =>
 bif decide (x.snd.fst < b.fst) then
 Option.bind (F102 (x.snd.snd, 60000, ()))
 fun b =>
 Option.bind (F107 b.snd) fun b_1 =>
 Option.bind (F107 b_1.snd) fun b_2 =>
 Option.bind (F93 b_2.snd) fun b_3 =>
 Option.bind (F102 (b_3.snd.fst, 60000, ()))
 fun b_4 =>
 Option.bind
 (appO x.fst
 [(b.fst, wrap64 (intOf8 b_1.fst), wrap64 (intOf8 b_2.fst),
 b_3.fst, b_4.fst, ())])
 fun b =>
 some (Sum.inl (b, wrap64 (x.snd.fst + 1), b_4.snd.fst))
 else some (Sum.inr (x.fst, x.snd.snd, ())))
 big ([], 0, b.snd.fst)
def S135 : Sig := ⟨P135, R135, F135⟩
noncomputable def E135 : Env := { tab := tab, nt := 26, Γ := lookG [(93, [S93]), (102, [S102]), (107, [S107]), (142, [S142])], joins := lookN [], loops := lookN [(3, mkLoop ⟨[⟨.slot 3, (.slice T96), .own false⟩, ⟨.slot 6, (.int .i64), .pv⟩, ⟨.fld 0 0, (.slice .u8), .pv⟩, ⟨.fld 0 1, .bool, .pv⟩], [0, 5], [.site 0]⟩)] }
theorem raw135_eq (x : T131D × Unit) : afun E135 Tryz.f135 P135 R135 x = F135 x := by kernel_rfl
-- decamp/cmd.getOps
def F136 (x : T131D × Unit) : Option (List T48D × T131D × Unit) :=
 Option.bind (F142 (x.fst, 60000, ())) fun b =>
 iterE (List T48D × Int × T131D)
 (List T48D × T131D × Unit)
 (fun (x : List T48D × Int × T131D) =>
 bif decide (x.snd.fst < b.fst) then
 Option.bind (F107 (x.snd.snd, ())) fun b =>
 Option.bind (F102 (b.snd.fst, 60000, ()))
 fun b_1 =>
 Option.bind (F102 (b_1.snd.fst, 60000, ()))
 fun b_2 =>
 Option.bind (F102 (b_2.snd.fst, 60000, ()))
 fun b_3 =>
 Option.bind (F93 b_3.snd) fun b_4 =>
 Option.bind
 (appO x.fst
 [(wrap64 (intOf8 b.fst), b_1.fst, b_2.fst, b_3.fst, b_4.fst, ())])
 fun b =>
 some (Sum.inl (b, wrap64 (x.snd.fst + 1), b_4.snd.fst))
 else some (Sum.inr (x.fst, x.snd.snd, ())))
 big ([], 0, b.snd.fst)
def S136 : Sig := ⟨P136, R136, F136⟩
noncomputable def E136 : Env := { tab := tab, nt := 25, Γ := lookG [(93, [S93]), (102, [S102]), (107, [S107]), (142, [S142])], joins := lookN [], loops := lookN [(3, mkLoop ⟨[⟨.slot 3, (.slice T48), .own false⟩, ⟨.slot 6, (.int .i64), .pv⟩, ⟨.fld 0 0, (.slice .u8), .pv⟩, ⟨.fld 0 1, .bool, .pv⟩], [0, 5], [.site 0]⟩)] }
theorem raw136_eq (x : T131D × Unit) : afun E136 Tryz.f136 P136 R136 x = F136 x := by kernel_rfl
-- decamp/cmd.getCmd
def F94 (x : T131D × Unit) : Option (T28D × T131D × Unit) :=
 Option.bind (F107 x) fun b =>
 Option.bind (F102 (b.snd.fst, 60000, ())) fun b_1 =>
 Option.bind (F102 (b_1.snd.fst, 60000, ()))
 fun b_2 =>
 Option.bind (F102 (b_2.snd.fst, 60000, ()))
 fun b_3 =>
 Option.bind (F93 b_3.snd) fun b_4 =>
 Option.bind (F93 b_4.snd) fun b_5 =>
 Option.bind (F93 b_5.snd) fun b_6 =>
 Option.bind (F135 b_6.snd)
 fun b_7 =>
 Option.bind (F136 b_7.snd)
 fun b_8 =>
 Option.bind (F136 b_8.snd)
 fun b_9 =>
 Option.bind (F93 b_9.snd) fun b_10 =>
 Option.bind (F93 b_10.snd) fun b_11 =>
 Option.bind (F93 b_11.snd) fun b_12 =>
 Option.bind (F103 b_12.snd) fun b_13 =>
 Option.bind (F108 b_13.snd)
 fun b_14 =>
 Option.bind (F109 b_14.snd)
 fun b_15 =>
 some
 ((wrap64 (intOf8 b.fst), b_1.fst, b_2.fst, b_3.fst, b_4.fst,
 b_5.fst, b_6.fst, b_7.fst, b_8.fst, b_9.fst, b_10.fst, b_11.fst, b_12.fst,
 b_13.fst, b_14.fst, b_15.fst, b_15.snd.fst, ()),
 b_15.snd.snd)
def S94 : Sig := ⟨P94, R94, F94⟩
noncomputable def E94 : Env := { tab := tab, nt := 52, Γ := lookG [(93, [S93]), (102, [S102]), (103, [S103]), (107, [S107]), (108, [S108]), (109, [S109]), (135, [S135]), (136, [S136])], joins := lookN [], loops := lookN [] }
theorem raw94_eq (x : T131D × Unit) : afun E94 Tryz.f94 P94 R94 x = F94 x := by kernel_rfl
-- decamp/cmd.Decode
def F20 (x : List UInt8 × Unit) : Option (T33D × Int × Unit) :=
 Option.bind (F32 x) fun b =>
 Option.bind (F93 b) fun b =>
 Option.bind (F93 b.snd) fun b_1 =>
 Option.bind (F94 b_1.snd)
 fun b_2 =>
 bif decide (12000 < Int.ofNat (List.length x.fst)) then
 some
 ((0, 0, (0, [], [], [], 0, 0, 0, [], [], [], 0, 0, 0, false, [], [], [], ()), ()), 2,
 ())
 else
 Option.bind (F54 b_2.snd) fun b_3 =>
 bif !b_3.fst then
 some
 ((0, 0, (0, [], [], [], 0, 0, 0, [], [], [], 0, 0, 0, false, [], [], [], ()), ()), 2,
 ())
 else
 Option.bind (F14 ((b.fst, b_1.fst, b_2.fst, ()), ())) fun b_4 =>
 bif !b_4.fst then
 some
 ((0, 0, (0, [], [], [], 0, 0, 0, [], [], [], 0, 0, 0, false, [], [], [], ()), ()),
 2, ())
 else some ((b.fst, b_1.fst, b_2.fst, ()), 0, ())
def S20 : Sig := ⟨P20, R20, F20⟩
noncomputable def E20 : Env := { tab := tab, nt := 30, Γ := lookG [(14, [S14]), (32, [S32]), (54, [S54]), (93, [S93]), (94, [S94])], joins := lookN [], loops := lookN [] }
theorem raw20_eq (x : List UInt8 × Unit) : afun E20 Tryz.f20 P20 R20 x = F20 x := by kernel_rfl
-- decamp/decamplaw17.awake
def F10 (x : Unit) : Option (Bool × Unit) :=
 Option.bind
 (F18
 ((1, 1, (1, [97], [], [118], 0, 0, 0, [], [], [], 0, 0, 0, false, [], [], [], ()), ()),
 ()))
 fun b =>
 Option.bind (F20 (b.fst, ()))
 fun b_1 =>
 bif decide (b.snd.fst = 0) then
 bif decide (b_1.snd.fst = 0) then
 Option.bind
 (F16
 (b_1.fst.snd.snd.fst, (1, [97], [], [118], 0, 0, 0, [], [], [], 0, 0, 0, false, [], [], [], ()),
 ()))
 fun b =>
 bif b.fst then
 bif decide (b_1.fst.snd.fst = 1) then
 Option.bind
 (F14
 ((0, 0, (0, [], [], [], 0, 0, 0, [], [], [], 0, 0, 0, false, [], [], [], ()), ()),
 ()))
 fun b => some (!b.fst, ())
 else some (false, ())
 else some (false, ())
 else some (false, ())
 else some (false, ())
def S10 : Sig := ⟨P10, R10, F10⟩
noncomputable def E10 : Env := { tab := tab, nt := 43, Γ := lookG [(14, [S14]), (16, [S16]), (18, [S18]), (20, [S20])], joins := lookN [], loops := lookN [] }
theorem raw10_eq (x : Unit) : afun E10 Tryz.f10 P10 R10 x = F10 x := by kernel_rfl
-- decamp/decampref17.Few
def F11 (x : T28D × Unit) : Option (Bool × Unit) :=
 bif decide (10 < Int.ofNat (List.length x.fst.snd.snd.snd.snd.snd.snd.snd.fst)) then some (false, ())
 else
 bif decide (10 < Int.ofNat (List.length x.fst.snd.snd.snd.snd.snd.snd.snd.snd.fst)) then some (false, ())
 else
 bif decide (10 < Int.ofNat (List.length x.fst.snd.snd.snd.snd.snd.snd.snd.snd.snd.fst)) then
 some (false, ())
 else
 bif decide (80 < Int.ofNat (List.length x.fst.snd.snd.snd.snd.snd.snd.snd.snd.snd.snd.snd.snd.snd.snd.fst)) then
 some (false, ())
 else
 bif
 decide
 (20 <
 Int.ofNat (List.length x.fst.snd.snd.snd.snd.snd.snd.snd.snd.snd.snd.snd.snd.snd.snd.snd.fst)) then
 some (false, ())
 else
 bif
 decide
 (80 <
 Int.ofNat
 (List.length x.fst.snd.snd.snd.snd.snd.snd.snd.snd.snd.snd.snd.snd.snd.snd.snd.snd.fst)) then
 some (false, ())
 else
 iterE (Int × Int × Unit) (Bool × Unit)
 (fun (x_1 : Int × Int × Unit) =>
 bif
 decide
 (x_1.snd.fst <
 Int.ofNat
 (List.length x.fst.snd.snd.snd.snd.snd.snd.snd.snd.snd.snd.snd.snd.snd.snd.fst)) then
 Option.bind (idx x.fst.snd.snd.snd.snd.snd.snd.snd.snd.snd.snd.snd.snd.snd.snd.fst x_1.snd.fst)
 fun b =>
 Option.bind (idx x.fst.snd.snd.snd.snd.snd.snd.snd.snd.snd.snd.snd.snd.snd.snd.fst x_1.snd.fst)
 fun b_1 =>
 some
 (Sum.inl
 (wrap64
 (wrap64 (x_1.fst + Int.ofNat (List.length b.fst)) +
 Int.ofNat (List.length b_1.snd.fst.snd.snd.snd.snd.fst)),
 wrap64 (x_1.snd.fst + 1), ()))
 else
 Option.map Sum.inr
 (iterE (Int × Int × Unit) (Bool × Unit)
 (fun (x_2 : Int × Int × Unit) =>
 bif
 decide
 (x_2.snd.fst <
 Int.ofNat
 (List.length
 x.fst.snd.snd.snd.snd.snd.snd.snd.snd.snd.snd.snd.snd.snd.snd.snd.fst)) then
 Option.bind
 (idx x.fst.snd.snd.snd.snd.snd.snd.snd.snd.snd.snd.snd.snd.snd.snd.snd.fst x_2.snd.fst)
 fun b =>
 bif decide (12 < Int.ofNat (List.length b.snd.snd.fst.snd.snd.snd.snd.fst)) then
 some (Sum.inr (false, ()))
 else
 Option.bind
 (idx x.fst.snd.snd.snd.snd.snd.snd.snd.snd.snd.snd.snd.snd.snd.snd.snd.fst
 x_2.snd.fst)
 fun b =>
 iterE (Int × Int × Unit) (Int × Int × Unit ⊕ Bool × Unit)
 (fun (x_3 : Int × Int × Unit) =>
 bif
 decide
 (x_3.snd.fst <
 Int.ofNat (List.length b.snd.snd.fst.snd.snd.snd.snd.fst)) then
 Option.bind
 (idx x.fst.snd.snd.snd.snd.snd.snd.snd.snd.snd.snd.snd.snd.snd.snd.snd.fst
 x_2.snd.fst)
 fun b =>
 Option.bind (idx b.snd.snd.fst.snd.snd.snd.snd.fst x_3.snd.fst)
 fun b =>
 Option.bind
 (idx x.fst.snd.snd.snd.snd.snd.snd.snd.snd.snd.snd.snd.snd.snd.snd.snd.fst
 x_2.snd.fst)
 fun b_1 =>
 Option.bind (idx b_1.snd.snd.fst.snd.snd.snd.snd.fst x_3.snd.fst)
 fun b_2 =>
 some
 (Sum.inl
 (wrap64
 (wrap64
 (x_3.fst + Int.ofNat (List.length b.fst)) +
 Int.ofNat (List.length b_2.snd.fst.snd.snd.snd.snd.fst)),
 wrap64 (x_3.snd.fst + 1), ()))
 else
 some
 (Sum.inr
 (Sum.inl
 (x_3.fst, wrap64 (x_2.snd.fst + 1), ()))))
 big (x_2.fst, 0, ())
 else
 Option.map Sum.inr
 (iterE (Int × Int × Unit) (Bool × Unit)
 (fun (x_3 : Int × Int × Unit) =>
 bif
 decide
 (x_3.snd.fst <
 Int.ofNat (List.length x.fst.snd.snd.snd.snd.snd.snd.snd.snd.fst)) then
 Option.bind (idx x.fst.snd.snd.snd.snd.snd.snd.snd.snd.fst x_3.snd.fst)
 fun b =>
 Option.bind (idx x.fst.snd.snd.snd.snd.snd.snd.snd.snd.fst x_3.snd.fst)
 fun b_1 =>
 Option.bind (idx x.fst.snd.snd.snd.snd.snd.snd.snd.snd.fst x_3.snd.fst)
 fun b_2 =>
 some
 (Sum.inl
 (wrap64
 (wrap64
 (wrap64
 (x_3.fst + Int.ofNat (List.length b.snd.fst)) +
 Int.ofNat (List.length b_1.snd.snd.fst)) +
 Int.ofNat (List.length b_2.snd.snd.snd.fst)),
 wrap64 (x_3.snd.fst + 1), ()))
 else
 Option.map Sum.inr
 (iterE (Int × Int × Unit) (Bool × Unit)
 (fun (x_4 : Int × Int × Unit) =>
 bif
 decide
 (x_4.snd.fst <
 Int.ofNat
 (List.length x.fst.snd.snd.snd.snd.snd.snd.snd.snd.snd.fst)) then
 Option.bind (idx x.fst.snd.snd.snd.snd.snd.snd.snd.snd.snd.fst x_4.snd.fst)
 fun b =>
 Option.bind
 (idx x.fst.snd.snd.snd.snd.snd.snd.snd.snd.snd.fst x_4.snd.fst)
 fun b_1 =>
 Option.bind
 (idx x.fst.snd.snd.snd.snd.snd.snd.snd.snd.snd.fst x_4.snd.fst)
 fun b_2 =>
 some
 (Sum.inl
 (wrap64
 (wrap64
 (wrap64
 (x_4.fst + Int.ofNat (List.length b.snd.fst)) +
 Int.ofNat (List.length b_1.snd.snd.fst)) +
 Int.ofNat (List.length b_2.snd.snd.snd.fst)),
 wrap64 (x_4.snd.fst + 1), ()))
 else
 Option.map Sum.inr
 (iterE (Int × Int × Unit) (Bool × Unit)
 (fun (x_5 : Int × Int × Unit) =>
 bif
 decide
 (x_5.snd.fst <
 Int.ofNat
 (List.length x.fst.snd.snd.snd.snd.snd.snd.snd.fst)) then
 Option.bind (idx x.fst.snd.snd.snd.snd.snd.snd.snd.fst x_5.snd.fst)
 fun b =>
 Option.bind
 (idx x.fst.snd.snd.snd.snd.snd.snd.snd.fst x_5.snd.fst)
 fun b_1 =>
 some
 (Sum.inl
 (wrap64
 (wrap64
 (x_5.fst + Int.ofNat (List.length b.fst)) +
 Int.ofNat (List.length b_1.snd.snd.snd.snd.fst)),
 wrap64 (x_5.snd.fst + 1), ()))
 else some (Sum.inr (decide (x_5.fst ≤ 30000), ())))
 big (x_4.fst, 0, ())))
 big (x_3.fst, 0, ())))
 big (x_2.fst, 0, ())))
 big (x_1.fst, 0, ())))
 big
 (wrap64
 (wrap64
 (Int.ofNat (List.length x.fst.snd.fst) + Int.ofNat (List.length x.fst.snd.snd.fst)) +
 Int.ofNat (List.length x.fst.snd.snd.snd.fst)),
 0, ())
def S11 : Sig := ⟨P11, R11, F11⟩
noncomputable def E11 : Env := { tab := tab, nt := 226, Γ := lookG [], joins := lookN [], loops := lookN [(5, mkLoop ⟨[⟨.slot 3, (.int .i64), .pv⟩, ⟨.slot 58, (.int .i64), .pv⟩], [1, 57], [.site 1000, .fld 1000 0, .fld 1000 1, .fld 1000 2, .fld 1000 3, .fld 1000 4, .fld 1000 5, .fld 1000 6, .fld 1000 7, .fld 1000 8, .fld 1000 9, .fld 1000 10, .fld 1000 11, .fld 1000 12, .fld 1000 13, .fld 1000 14, .fld 1000 15, .fld 1000 16]⟩), (10, mkLoop ⟨[⟨.slot 3, (.int .i64), .pv⟩, ⟨.slot 83, (.int .i64), .pv⟩], [1, 82], [.site 1000, .fld 1000 0, .fld 1000 1, .fld 1000 2, .fld 1000 3, .fld 1000 4, .fld 1000 5, .fld 1000 6, .fld 1000 7, .fld 1000 8, .fld 1000 9, .fld 1000 10, .fld 1000 11, .fld 1000 12, .fld 1000 13, .fld 1000 14, .fld 1000 15, .fld 1000 16]⟩), (15, mkLoop ⟨[⟨.slot 3, (.int .i64), .pv⟩, ⟨.slot 103, (.int .i64), .pv⟩], [1, 5, 82, 83, 102], [.site 1000, .fld 1000 0, .fld 1000 1, .fld 1000 2, .fld 1000 3, .fld 1000 4, .fld 1000 5, .fld 1000 6, .fld 1000 7, .fld 1000 8, .fld 1000 9, .fld 1000 10, .fld 1000 11, .fld 1000 12, .fld 1000 13, .fld 1000 14, .fld 1000 15, .fld 1000 16]⟩), (21, mkLoop ⟨[⟨.slot 3, (.int .i64), .pv⟩, ⟨.slot 139, (.int .i64), .pv⟩], [1, 138], [.site 1000, .fld 1000 0, .fld 1000 1, .fld 1000 2, .fld 1000 3, .fld 1000 4, .fld 1000 5, .fld 1000 6, .fld 1000 7, .fld 1000 8, .fld 1000 9, .fld 1000 10, .fld 1000 11, .fld 1000 12, .fld 1000 13, .fld 1000 14, .fld 1000 15, .fld 1000 16]⟩), (26, mkLoop ⟨[⟨.slot 3, (.int .i64), .pv⟩, ⟨.slot 171, (.int .i64), .pv⟩], [1, 170], [.site 1000, .fld 1000 0, .fld 1000 1, .fld 1000 2, .fld 1000 3, .fld 1000 4, .fld 1000 5, .fld 1000 6, .fld 1000 7, .fld 1000 8, .fld 1000 9, .fld 1000 10, .fld 1000 11, .fld 1000 12, .fld 1000 13, .fld 1000 14, .fld 1000 15, .fld 1000 16]⟩), (31, mkLoop ⟨[⟨.slot 3, (.int .i64), .pv⟩, ⟨.slot 203, (.int .i64), .pv⟩], [1, 202], [.site 1000, .fld 1000 0, .fld 1000 1, .fld 1000 2, .fld 1000 3, .fld 1000 4, .fld 1000 5, .fld 1000 6, .fld 1000 7, .fld 1000 8, .fld 1000 9, .fld 1000 10, .fld 1000 11, .fld 1000 12, .fld 1000 13, .fld 1000 14, .fld 1000 15, .fld 1000 16]⟩)] }
theorem raw11_eq (x : T28D × Unit) : afun E11 Tryz.f11 P11 R11 x = F11 x := by kernel_rfl
-- decamp/decampref15.text
def F115 (x : List UInt8 × UInt8 × Unit) : Option (Bool × Unit) :=
 iterE (Int × Unit) (Bool × Unit)
 (fun (x_1 : Int × Unit) =>
 bif decide (x_1.fst < Int.ofNat (List.length x.fst)) then
 Option.bind (idx x.fst x_1.fst) fun b =>
 bif decide (intOf8 b < intOf8 (UInt8.ofNat 33)) then some (Sum.inr (false, ()))
 else
 Option.bind (idx x.fst x_1.fst) fun b =>
 bif decide (intOf8 x.snd.fst < intOf8 b) then some (Sum.inr (false, ()))
 else some (Sum.inl (wrap64 (x_1.fst + 1), ()))
 else
 Option.map Sum.inr
 (bif decide (1 ≤ Int.ofNat (List.length x.fst)) then
 some (decide (Int.ofNat (List.length x.fst) ≤ 32), ())
 else some (false, ())))
 big (0, ())
def S115 : Sig := ⟨P115, R115, F115⟩
noncomputable def E115 : Env := { tab := tab, nt := 31, Γ := lookG [], joins := lookN [], loops := lookN [(2, mkLoop ⟨[⟨.slot 8, (.int .i64), .pv⟩], [0, 1, 7], []⟩)] }
theorem raw115_eq (x : List UInt8 × UInt8 × Unit) : afun E115 Tryz.f115 P115 R115 x = F115 x := by kernel_rfl
-- decamp/decampref15.Key
def F53 (x : List UInt8 × Unit) : Option (Bool × Unit) := Option.bind (F115 (x.fst, UInt8.ofNat 126, ())) fun b => some b
def S53 : Sig := ⟨P53, R53, F53⟩
noncomputable def E53 : Env := { tab := tab, nt := 5, Γ := lookG [(115, [S115])], joins := lookN [], loops := lookN [] }
theorem raw53_eq (x : List UInt8 × Unit) : afun E53 Tryz.f53 P53 R53 x = F53 x := by kernel_rfl
-- decamp/decampref17.Prefix
def F23 (x : List UInt8 × Unit) : Option (Bool × Unit) :=
 bif decide (Int.ofNat (List.length x.fst) ≤ 8) then Option.bind (F53 x) fun b => some b
 else some (false, ())
def S23 : Sig := ⟨P23, R23, F23⟩
noncomputable def E23 : Env := { tab := tab, nt := 10, Γ := lookG [(53, [S53])], joins := lookN [], loops := lookN [] }
theorem raw23_eq (x : List UInt8 × Unit) : afun E23 Tryz.f23 P23 R23 x = F23 x := by kernel_rfl
-- decamp/decampref17.bare
def F61 (x : T28D × Unit) : Option (Bool × Unit) := let o : Bool → Bool → Option (Bool × Unit) → Option (Bool × Unit) := (fun (p q : Bool) (r : Option (Bool × Unit)) => bif p then r else bif q then r else some (false, ()))
  
  ((o (decide (x.1.1 = 1) || decide (x.1.1 = 2) || decide (x.1.1 = 10) || decide (x.1.1 = 12) || decide (x.1.1 = 13)) (decide (x.1.2.1 = []))) 
  ((o (decide (x.1.1 = 2) || decide (x.1.1 = 12) || decide (x.1.1 = 13)) (decide (x.1.2.2.1 = []))) 
  ((o (decide (x.1.1 = 1)) (decide (x.1.2.2.2.1 = []))) 
  ((o (decide (x.1.1 = 1) || decide (x.1.1 = 5) || decide (x.1.1 = 6) || decide (x.1.1 = 7) || decide (x.1.1 = 9)) (decide (x.1.2.2.2.2.1 = 0))) 
  ((o (decide (x.1.1 = 5)) (decide (x.1.2.2.2.2.2.1 = 0))) 
  ((o (decide (x.1.1 = 4) || decide (x.1.1 = 12) || decide (x.1.1 = 14) || decide (x.1.1 = 15)) (decide (x.1.2.2.2.2.2.2.1 = 0))) 
  ((o (decide (x.1.1 = 3)) (decide (wrap64 (wrap64 (Int.ofNat (List.length x.1.2.2.2.2.2.2.2.1) + Int.ofNat (List.length x.1.2.2.2.2.2.2.2.2.1)) + Int.ofNat (List.length x.1.2.2.2.2.2.2.2.2.2.1)) = 0))) 
  ((o (decide (10 ≤ x.1.1)) (decide (x.1.2.2.2.2.2.2.2.2.2.2.1 = 0))) 
  ((fun r => bif decide (12 ≤ x.1.1) then (o (decide (x.1.1 ≤ 15)) (decide (x.1.2.2.2.2.2.2.2.2.2.2.2.1 = 0)) r) else (o false (decide (x.1.2.2.2.2.2.2.2.2.2.2.2.1 = 0)) r)) 
  ((o (decide (x.1.1 = 14)) (decide (x.1.2.2.2.2.2.2.2.2.2.2.2.2.1 = 0))) 
  ((o (decide (x.1.1 = 13)) (!x.1.2.2.2.2.2.2.2.2.2.2.2.2.2.1)) 
  ((o (decide (x.1.1 = 13) || decide (x.1.1 = 14)) (decide (Int.ofNat (List.length x.1.2.2.2.2.2.2.2.2.2.2.2.2.2.2.1) = 0))) (bif decide (x.1.1 = 15) then some (true, ()) else some (decide (wrap64 (Int.ofNat (List.length x.1.2.2.2.2.2.2.2.2.2.2.2.2.2.2.2.1) + Int.ofNat (List.length x.1.2.2.2.2.2.2.2.2.2.2.2.2.2.2.2.2.1)) = 0), ()))))))))))))))
def S61 : Sig := ⟨P61, R61, F61⟩
noncomputable def E61 : Env := { tab := tab, nt := 204, Γ := lookG [], joins := lookN [(3, ⟨[⟨.slot 4, .bool, .pv⟩], [1, 3], [.site 1000, .fld 1000 0, .fld 1000 1, .fld 1000 2, .fld 1000 3, .fld 1000 4, .fld 1000 5, .fld 1000 6, .fld 1000 7, .fld 1000 8, .fld 1000 9, .fld 1000 10, .fld 1000 11, .fld 1000 12, .fld 1000 13, .fld 1000 14, .fld 1000 15, .fld 1000 16]⟩), (4, ⟨[⟨.slot 5, .bool, .pv⟩], [1, 3, 4], [.site 1000, .fld 1000 0, .fld 1000 1, .fld 1000 2, .fld 1000 3, .fld 1000 4, .fld 1000 5, .fld 1000 6, .fld 1000 7, .fld 1000 8, .fld 1000 9, .fld 1000 10, .fld 1000 11, .fld 1000 12, .fld 1000 13, .fld 1000 14, .fld 1000 15, .fld 1000 16]⟩), (5, ⟨[⟨.slot 6, .bool, .pv⟩], [1, 3, 4, 5], [.site 1000, .fld 1000 0, .fld 1000 1, .fld 1000 2, .fld 1000 3, .fld 1000 4, .fld 1000 5, .fld 1000 6, .fld 1000 7, .fld 1000 8, .fld 1000 9, .fld 1000 10, .fld 1000 11, .fld 1000 12, .fld 1000 13, .fld 1000 14, .fld 1000 15, .fld 1000 16]⟩), (6, ⟨[⟨.slot 7, .bool, .pv⟩], [1, 3, 4, 5, 6], [.site 1000, .fld 1000 0, .fld 1000 1, .fld 1000 2, .fld 1000 3, .fld 1000 4, .fld 1000 5, .fld 1000 6, .fld 1000 7, .fld 1000 8, .fld 1000 9, .fld 1000 10, .fld 1000 11, .fld 1000 12, .fld 1000 13, .fld 1000 14, .fld 1000 15, .fld 1000 16]⟩)], loops := lookN [] }
-- decamp/decampref17.within
def F67 (x : Int × Int × Int × Unit) : Option (Bool × Unit) :=
 bif decide (x.snd.fst ≤ x.fst) then some (decide (x.fst ≤ x.snd.snd.fst), ()) else some (false, ())
def S67 : Sig := ⟨P67, R67, F67⟩
noncomputable def E67 : Env := { tab := tab, nt := 15, Γ := lookG [], joins := lookN [], loops := lookN [] }
theorem raw67_eq (x : Int × Int × Int × Unit) : afun E67 Tryz.f67 P67 R67 x = F67 x := by kernel_rfl
-- decamp/decampref17.one
def F62 (x : Int × Unit) : Option (Bool × Unit) := Option.bind (F67 (x.fst, 1, 1099511627776, ())) fun b => some b
def S62 : Sig := ⟨P62, R62, F62⟩
noncomputable def E62 : Env := { tab := tab, nt := 5, Γ := lookG [(67, [S67])], joins := lookN [], loops := lookN [] }
theorem raw62_eq (x : Int × Unit) : afun E62 Tryz.f62 P62 R62 x = F62 x := by kernel_rfl
-- decamp/decampref17.natural
def F63 (x : Int × Unit) : Option (Bool × Unit) := Option.bind (F67 (x.fst, 0, 1099511627776, ())) fun b => some b
def S63 : Sig := ⟨P63, R63, F63⟩
noncomputable def E63 : Env := { tab := tab, nt := 5, Γ := lookG [(67, [S67])], joins := lookN [], loops := lookN [] }
theorem raw63_eq (x : Int × Unit) : afun E63 Tryz.f63 P63 R63 x = F63 x := by kernel_rfl
-- decamp/decampref15.Range
def F64 (x : List UInt8 × List UInt8 × Unit) : Option (Bool × Unit) :=
 Option.bind (F53 (x.fst, ())) fun b =>
 bif b.fst then
 bif decide (Int.ofNat (List.length x.snd.fst) = 0) then some (true, ())
 else
 Option.bind (F115 (x.snd.fst, UInt8.ofNat 127, ())) fun b =>
 bif b.fst then some (strlt x.fst x.snd.fst, ()) else some (false, ())
 else some (false, ())
def S64 : Sig := ⟨P64, R64, F64⟩
noncomputable def E64 : Env := { tab := tab, nt := 21, Γ := lookG [(53, [S53]), (115, [S115])], joins := lookN [], loops := lookN [] }
theorem raw64_eq (x : List UInt8 × List UInt8 × Unit) : afun E64 Tryz.f64 P64 R64 x = F64 x := by kernel_rfl
-- decamp/decampref17.cmps
def F65 (x : List T96D × Unit) : Option (Bool × Unit) :=
 iterE (Int × Unit) (Bool × Unit)
 (fun (x_1 : Int × Unit) =>
 bif decide (x_1.fst < Int.ofNat (List.length x.fst)) then
 Option.bind (idx x.fst x_1.fst) fun b =>
 Option.bind
 (bif decide (1 ≤ b.snd.fst) then
 bif decide (b.snd.fst ≤ 4) then
 bif decide (Int.ofNat (List.length b.snd.snd.snd.snd.fst) = 0) then
 Option.bind (F67 (b.snd.snd.snd.fst, -1099511627776, 1099511627776, ()))
 fun b => some (Sum.inl b)
 else some (Sum.inl (false, ()))
 else some (Sum.inl (false, ()))
 else some (Sum.inl (false, ())))
 fun o =>
 Sum.elim
 (fun (x : Bool × Unit) =>
 Option.bind
 (bif decide (b.snd.fst = 5) then
 bif decide (b.snd.snd.snd.fst = 0) then
 some (Sum.inl (decide (Int.ofNat (List.length b.snd.snd.snd.snd.fst) ≤ 40), ()))
 else some (Sum.inl (false, ()))
 else some (Sum.inl (false, ())))
 fun o =>
 Sum.elim
 (fun (x_2 : Bool × Unit) =>
 Option.bind (F53 (b.fst, ())) fun b_1 =>
 bif !b_1.fst then some (Sum.inr (false, ()))
 else
 Option.bind (F67 (b.snd.snd.fst, 0, 2, ())) fun b =>
 bif !b.fst then some (Sum.inr (false, ()))
 else
 bif !x.fst then
 bif !x_2.fst then some (Sum.inr (false, ()))
 else some (Sum.inl (wrap64 (x_1.fst + 1), ()))
 else some (Sum.inl (wrap64 (x_1.fst + 1), ())))
 (fun (val : Int × Unit ⊕ Bool × Unit) => some val) o)
 (fun (val : Int × Unit ⊕ Bool × Unit) => some val) o
 else some (Sum.inr (decide (Int.ofNat (List.length x.fst) ≤ 4), ())))
 big (0, ())
def S65 : Sig := ⟨P65, R65, F65⟩
noncomputable def E65 : Env := { tab := tab, nt := 71, Γ := lookG [(53, [S53]), (67, [S67])], joins := lookN [(6, ⟨[⟨.slot 5, .bool, .pv⟩], [0, 4, 8, 9], [.site 4005000, .fld 4005000 0, .fld 4005000 1, .fld 4005000 2, .fld 4005000 3, .fld 4005000 4]⟩), (7, ⟨[⟨.slot 6, .bool, .pv⟩], [0, 4, 5, 8, 9], [.site 4005000, .fld 4005000 0, .fld 4005000 1, .fld 4005000 2, .fld 4005000 3, .fld 4005000 4]⟩)], loops := lookN [(2, mkLoop ⟨[⟨.slot 9, (.int .i64), .pv⟩], [0, 8], []⟩)] }
theorem raw65_eq (x : List T96D × Unit) : afun E65 Tryz.f65 P65 R65 x = F65 x := by kernel_rfl
-- decamp/decampref17.op
def F124 (x : T48D × Unit) : Option (Bool × Unit) :=
 bif decide (x.fst.fst = 1) then
 bif decide (Int.ofNat (List.length x.fst.snd.snd.fst) = 0) then
 Option.bind (F53 (x.fst.snd.fst, ())) fun b =>
 bif b.fst then
 bif decide (Int.ofNat (List.length x.fst.snd.snd.snd.fst) ≤ 40) then
 Option.bind (F63 x.fst.snd.snd.snd.snd) fun b => some b
 else some (false, ())
 else some (false, ())
 else some (false, ())
 else
 bif decide (x.fst.fst = 2) then
 bif decide (Int.ofNat (List.length x.fst.snd.snd.snd.fst) = 0) then
 bif decide (x.fst.snd.snd.snd.snd.fst = 0) then
 Option.bind (F64 (x.fst.snd.fst, x.fst.snd.snd.fst, ())) fun b => some b
 else some (false, ())
 else some (false, ())
 else
 bif decide (x.fst.fst = 3) then
 bif decide (Int.ofNat (List.length x.fst.snd.snd.snd.fst) = 0) then
 bif decide (x.fst.snd.snd.snd.snd.fst = 0) then
 Option.bind (F64 (x.fst.snd.fst, x.fst.snd.snd.fst, ())) fun b => some b
 else some (false, ())
 else some (false, ())
 else some (false, ())
def S124 : Sig := ⟨P124, R124, F124⟩
noncomputable def E124 : Env := { tab := tab, nt := 52, Γ := lookG [(53, [S53]), (63, [S63]), (64, [S64])], joins := lookN [], loops := lookN [] }
theorem raw124_eq (x : T48D × Unit) : afun E124 Tryz.f124 P124 R124 x = F124 x := by kernel_rfl
-- decamp/decampref15.In
def F149 (x : List UInt8 × List UInt8 × List UInt8 × Unit) : Option (Bool × Unit) :=
 Option.bind (F64 (x.fst, x.snd.fst, ())) fun b =>
 bif !b.fst then some (false, ())
 else
 Option.bind (F53 x.snd.snd) fun b =>
 bif !b.fst then some (false, ())
 else
 bif decide (Int.ofNat (List.length x.snd.fst) = 0) then some (decide (x.snd.snd.fst = x.fst), ())
 else
 bif !strlt x.snd.snd.fst x.fst then some (strlt x.snd.snd.fst x.snd.fst, ())
 else some (false, ())
def S149 : Sig := ⟨P149, R149, F149⟩
noncomputable def E149 : Env := { tab := tab, nt := 30, Γ := lookG [(53, [S53]), (64, [S64])], joins := lookN [], loops := lookN [] }
theorem raw149_eq (x : List UInt8 × List UInt8 × List UInt8 × Unit) : afun E149 Tryz.f149 P149 R149 x = F149 x := by kernel_rfl
-- decamp/decampref17.meet
def F125 (x : T48D × T48D × Unit) : Option (Bool × Unit) :=
 bif decide (x.fst.fst = 3) then some (false, ())
 else
 bif decide (x.snd.fst.fst = 3) then some (false, ())
 else
 Option.bind (F149 (x.fst.snd.fst, x.fst.snd.snd.fst, x.snd.fst.snd.fst, ())) fun b =>
 bif b.fst then some (true, ())
 else
 Option.bind (F149 (x.snd.fst.snd.fst, x.snd.fst.snd.snd.fst, x.fst.snd.fst, ()))
 fun b => some b
def S125 : Sig := ⟨P125, R125, F125⟩
noncomputable def E125 : Env := { tab := tab, nt := 29, Γ := lookG [(149, [S149])], joins := lookN [], loops := lookN [] }
theorem raw125_eq (x : T48D × T48D × Unit) : afun E125 Tryz.f125 P125 R125 x = F125 x := by kernel_rfl
-- decamp/decampref17.ops
def F66 (x : List T48D × Unit) : Option (Bool × Unit) :=
 iterE (Int × Unit) (Bool × Unit)
 (fun (x_1 : Int × Unit) =>
 bif decide (x_1.fst < Int.ofNat (List.length x.fst)) then
 Option.bind (idx x.fst x_1.fst) fun b =>
 Option.bind (F124 (b, ())) fun b =>
 bif !b.fst then some (Sum.inr (false, ()))
 else
 iterE (Int × Unit) (Int × Unit ⊕ Bool × Unit)
 (fun (x_2 : Int × Unit) =>
 bif decide (x_2.fst < x_1.fst) then
 Option.bind (idx x.fst x_2.fst)
 fun b =>
 Option.bind (idx x.fst x_1.fst)
 fun b_1 =>
 Option.bind (F125 (b, b_1, ())) fun b =>
 bif b.fst then some (Sum.inr (Sum.inr (false, ())))
 else some (Sum.inl (wrap64 (x_2.fst + 1), ()))
 else some (Sum.inr (Sum.inl (wrap64 (x_1.fst + 1), ()))))
 big (0, ())
 else some (Sum.inr (decide (Int.ofNat (List.length x.fst) ≤ 4), ())))
 big (0, ())
def S66 : Sig := ⟨P66, R66, F66⟩
noncomputable def E66 : Env := { tab := tab, nt := 34, Γ := lookG [(124, [S124]), (125, [S125])], joins := lookN [], loops := lookN [(2, mkLoop ⟨[⟨.slot 7, (.int .i64), .pv⟩], [0, 6], []⟩), (7, mkLoop ⟨[⟨.slot 17, (.int .i64), .pv⟩], [0, 3, 6, 7, 16], []⟩)] }
theorem raw66_eq (x : List T48D × Unit) : afun E66 Tryz.f66 P66 R66 x = F66 x := by kernel_rfl
-- decamp/decampref14.Ver
def F52 (x : T66D × Unit) : Option (Bool × Unit) :=
 bif decide (x.fst.fst < 1) then some (false, ())
 else
 bif decide (1099511627776 < x.fst.fst) then some (false, ())
 else
 bif decide (x.fst.snd.snd.fst < 1) then some (false, ())
 else
 bif decide (1099511627776 < x.fst.snd.snd.fst) then some (false, ())
 else
 bif x.fst.snd.snd.snd.snd.snd.snd.fst then
 bif decide (x.fst.snd.fst = 0) then
 bif decide (x.fst.snd.snd.snd.fst = 0) then
 bif decide (x.fst.snd.snd.snd.snd.snd.fst = 0) then
 some (decide (Int.ofNat (List.length x.fst.snd.snd.snd.snd.fst) = 0), ())
 else some (false, ())
 else some (false, ())
 else some (false, ())
 else
 bif decide (1 ≤ x.fst.snd.fst) then
 bif decide (x.fst.snd.fst ≤ x.fst.snd.snd.fst) then
 bif decide (1 ≤ x.fst.snd.snd.snd.fst) then
 bif decide (x.fst.snd.snd.snd.fst ≤ 1099511627776) then
 bif decide (Int.ofNat (List.length x.fst.snd.snd.snd.snd.fst) ≤ 40) then
 bif decide (-1099511627776 ≤ x.fst.snd.snd.snd.snd.snd.fst) then
 some (decide (x.fst.snd.snd.snd.snd.snd.fst ≤ 1099511627776), ())
 else some (false, ())
 else some (false, ())
 else some (false, ())
 else some (false, ())
 else some (false, ())
 else some (false, ())
def S52 : Sig := ⟨P52, R52, F52⟩
noncomputable def E52 : Env := { tab := tab, nt := 78, Γ := lookG [], joins := lookN [], loops := lookN [] }
theorem raw52_eq (x : T66D × Unit) : afun E52 Tryz.f52 P52 R52 x = F52 x := by kernel_rfl
-- decamp/decampref17.page
def F68 (x : T28D × Unit) : Option (Bool × Unit) :=
 iterE (Int × Unit) (Bool × Unit)
 (fun (x_1 : Int × Unit) =>
 bif
 decide
 (x_1.fst < Int.ofNat (List.length x.fst.snd.snd.snd.snd.snd.snd.snd.snd.snd.snd.snd.snd.snd.snd.fst)) then
 Option.bind (idx x.fst.snd.snd.snd.snd.snd.snd.snd.snd.snd.snd.snd.snd.snd.snd.fst x_1.fst)
 fun b =>
 Option.bind (F53 (b.fst, ())) fun b_1 =>
 bif !b_1.fst then some (Sum.inr (false, ()))
 else
 Option.bind (F52 b.snd) fun b_2 =>
 bif !b_2.fst then some (Sum.inr (false, ()))
 else
 bif b.snd.fst.snd.snd.snd.snd.snd.snd.fst then some (Sum.inr (false, ()))
 else
 bif decide (0 < x_1.fst) then
 Option.bind
 (idx x.fst.snd.snd.snd.snd.snd.snd.snd.snd.snd.snd.snd.snd.snd.snd.fst
 (wrap64 (x_1.fst - 1)))
 fun b_3 =>
 bif !strlt b_3.fst b.fst then some (Sum.inr (false, ()))
 else some (Sum.inl (wrap64 (x_1.fst + 1), ()))
 else some (Sum.inl (wrap64 (x_1.fst + 1), ()))
 else
 Option.map Sum.inr
 (bif decide (x.fst.snd.fst = []) then
 bif decide (x.fst.snd.snd.fst = []) then
 some
 (decide (Int.ofNat (List.length x.fst.snd.snd.snd.snd.snd.snd.snd.snd.snd.snd.snd.snd.snd.snd.fst) ≤ 8),
 ())
 else
 Option.bind (F53 (x.fst.snd.snd.fst, ())) fun b =>
 bif b.fst then
 some
 (decide
 (Int.ofNat (List.length x.fst.snd.snd.snd.snd.snd.snd.snd.snd.snd.snd.snd.snd.snd.snd.fst) ≤ 8),
 ())
 else some (false, ())
 else
 Option.bind (F53 (x.fst.snd.fst, ())) fun b =>
 bif b.fst then
 bif decide (x.fst.snd.snd.fst = []) then
 some
 (decide
 (Int.ofNat (List.length x.fst.snd.snd.snd.snd.snd.snd.snd.snd.snd.snd.snd.snd.snd.snd.fst) ≤ 8),
 ())
 else
 Option.bind (F53 (x.fst.snd.snd.fst, ())) fun b =>
 bif b.fst then
 some
 (decide
 (Int.ofNat (List.length x.fst.snd.snd.snd.snd.snd.snd.snd.snd.snd.snd.snd.snd.snd.snd.fst) ≤
 8),
 ())
 else some (false, ())
 else some (false, ())))
 big (0, ())
def S68 : Sig := ⟨P68, R68, F68⟩
noncomputable def E68 : Env := { tab := tab, nt := 72, Γ := lookG [(52, [S52]), (53, [S53])], joins := lookN [], loops := lookN [(2, mkLoop ⟨[⟨.slot 8, (.int .i64), .pv⟩], [1, 7], [.site 1000, .fld 1000 0, .fld 1000 1, .fld 1000 2, .fld 1000 3, .fld 1000 4, .fld 1000 5, .fld 1000 6, .fld 1000 7, .fld 1000 8, .fld 1000 9, .fld 1000 10, .fld 1000 11, .fld 1000 12, .fld 1000 13, .fld 1000 14, .fld 1000 15, .fld 1000 16]⟩)] }
theorem raw68_eq (x : T28D × Unit) : afun E68 Tryz.f68 P68 R68 x = F68 x := by kernel_rfl
-- decamp/decampref17.tail
def F69 (x : T28D × Unit) : Option (Bool × Unit) :=
 iterE (Int × Unit) (Bool × Unit)
 (fun (x_1 : Int × Unit) =>
 bif
 decide
 (x_1.fst < Int.ofNat (List.length x.fst.snd.snd.snd.snd.snd.snd.snd.snd.snd.snd.snd.snd.snd.snd.fst)) then
 Option.bind (idx x.fst.snd.snd.snd.snd.snd.snd.snd.snd.snd.snd.snd.snd.snd.snd.fst x_1.fst)
 fun b =>
 Option.bind (F53 (b.fst, ())) fun b_1 =>
 bif !b_1.fst then some (Sum.inr (false, ()))
 else
 Option.bind (F52 b.snd) fun b_2 =>
 bif !b_2.fst then some (Sum.inr (false, ()))
 else
 bif decide (b.snd.fst.fst ≤ x.fst.snd.snd.snd.snd.snd.snd.fst) then some (Sum.inr (false, ()))
 else
 bif decide (x.fst.snd.snd.snd.snd.snd.snd.snd.snd.snd.snd.snd.snd.fst < b.snd.fst.fst) then
 some (Sum.inr (false, ()))
 else
 bif decide (0 < x_1.fst) then
 Option.bind
 (idx x.fst.snd.snd.snd.snd.snd.snd.snd.snd.snd.snd.snd.snd.snd.snd.fst
 (wrap64 (x_1.fst - 1)))
 fun b_3 =>
 bif decide (b.snd.fst.fst < b_3.snd.fst.fst) then some (Sum.inr (false, ()))
 else
 Option.bind
 (idx x.fst.snd.snd.snd.snd.snd.snd.snd.snd.snd.snd.snd.snd.snd.snd.fst
 (wrap64 (x_1.fst - 1)))
 fun b_4 =>
 bif decide (b_4.snd.fst.fst = b.snd.fst.fst) then
 Option.bind
 (idx x.fst.snd.snd.snd.snd.snd.snd.snd.snd.snd.snd.snd.snd.snd.snd.fst
 (wrap64 (x_1.fst - 1)))
 fun b_5 =>
 bif !strlt b_5.fst b.fst then some (Sum.inr (false, ()))
 else some (Sum.inl (wrap64 (x_1.fst + 1), ()))
 else some (Sum.inl (wrap64 (x_1.fst + 1), ()))
 else some (Sum.inl (wrap64 (x_1.fst + 1), ()))
 else
 Option.map Sum.inr
 (Option.bind (F62 (x.fst.snd.snd.snd.snd.snd.snd.fst, ())) fun b =>
 bif b.fst then
 Option.bind (F62 (x.fst.snd.snd.snd.snd.snd.snd.snd.snd.snd.snd.snd.snd.fst, ()))
 fun b =>
 bif b.fst then
 bif
 decide
 (x.fst.snd.snd.snd.snd.snd.snd.fst <
 x.fst.snd.snd.snd.snd.snd.snd.snd.snd.snd.snd.snd.snd.fst) then
 some
 (decide
 (Int.ofNat (List.length x.fst.snd.snd.snd.snd.snd.snd.snd.snd.snd.snd.snd.snd.snd.snd.fst) ≤
 64),
 ())
 else some (false, ())
 else some (false, ())
 else some (false, ())))
 big (0, ())
def S69 : Sig := ⟨P69, R69, F69⟩
noncomputable def E69 : Env := { tab := tab, nt := 106, Γ := lookG [(52, [S52]), (53, [S53]), (62, [S62])], joins := lookN [], loops := lookN [(2, mkLoop ⟨[⟨.slot 8, (.int .i64), .pv⟩], [1, 7], [.site 1000, .fld 1000 0, .fld 1000 1, .fld 1000 2, .fld 1000 3, .fld 1000 4, .fld 1000 5, .fld 1000 6, .fld 1000 7, .fld 1000 8, .fld 1000 9, .fld 1000 10, .fld 1000 11, .fld 1000 12, .fld 1000 13, .fld 1000 14, .fld 1000 15, .fld 1000 16]⟩)] }
theorem raw69_eq (x : T28D × Unit) : afun E69 Tryz.f69 P69 R69 x = F69 x := by kernel_rfl
-- decamp/decampref17.Reply
def F25 (x : T51D × Unit) : Option (Bool × Unit) :=
 iterE (Int × Unit) (Bool × Unit)
 (fun (x_1 : Int × Unit) =>
 bif decide (x_1.fst < Int.ofNat (List.length x.fst.snd.snd.snd.snd.fst)) then
 Option.bind (idx x.fst.snd.snd.snd.snd.fst x_1.fst)
 fun b =>
 Option.bind (F53 (b.fst, ())) fun b =>
 bif !b.fst then some (Sum.inr (false, ()))
 else
 Option.bind (idx x.fst.snd.snd.snd.snd.fst x_1.fst)
 fun b =>
 Option.bind (F52 b.snd) fun b =>
 bif !b.fst then some (Sum.inr (false, ()))
 else some (Sum.inl (wrap64 (x_1.fst + 1), ()))
 else
 Option.map Sum.inr
 (Option.bind (F67 (x.fst.fst, 0, 15, ())) fun b =>
 bif b.fst then
 Option.bind (F63 (x.fst.snd.fst, ())) fun b =>
 bif b.fst then
 Option.bind (F63 (x.fst.snd.snd.snd.fst, ())) fun b =>
 bif b.fst then
 Option.bind (F63 x.fst.snd.snd.snd.snd.snd.snd) fun b =>
 bif b.fst then
 Option.bind (F67 (x.fst.snd.snd.snd.snd.snd.fst, 0, 1, ())) fun b =>
 bif b.fst then
 some (decide (Int.ofNat (List.length x.fst.snd.snd.snd.snd.fst) ≤ 8), ())
 else some (false, ())
 else some (false, ())
 else some (false, ())
 else some (false, ())
 else some (false, ())))
 big (0, ())
def S25 : Sig := ⟨P25, R25, F25⟩
noncomputable def E25 : Env := { tab := tab, nt := 58, Γ := lookG [(52, [S52]), (53, [S53]), (63, [S63]), (67, [S67])], joins := lookN [], loops := lookN [(2, mkLoop ⟨[⟨.slot 7, (.int .i64), .pv⟩], [1, 6], [.site 1000, .fld 1000 0, .fld 1000 1, .fld 1000 2, .fld 1000 3, .fld 1000 4, .fld 1000 5, .fld 1000 6]⟩)] }
theorem raw25_eq (x : T51D × Unit) : afun E25 Tryz.f25 P25 R25 x = F25 x := by kernel_rfl
-- decamp/decampref17.Sess
def F70 (x : List T94D × Int × Unit) : Option (Bool × Unit) :=
 iterE (Int × Unit) (Bool × Unit)
 (fun (x_1 : Int × Unit) =>
 bif decide (x_1.fst < Int.ofNat (List.length x.fst)) then
 Option.bind (idx x.fst x_1.fst)
 fun b =>
 Option.bind (F67 (b.fst, 1, x.snd)) fun b =>
 bif !b.fst then some (Sum.inr (false, ()))
 else
 Option.bind (idx x.fst x_1.fst)
 fun b =>
 Option.bind (F62 (b.snd.fst, ())) fun b =>
 bif !b.fst then some (Sum.inr (false, ()))
 else
 Option.bind (idx x.fst x_1.fst)
 fun b =>
 Option.bind (F25 b.snd.snd) fun b =>
 bif !b.fst then some (Sum.inr (false, ()))
 else
 bif decide (0 < x_1.fst) then
 Option.bind (idx x.fst (wrap64 (x_1.fst - 1)))
 fun b =>
 Option.bind (idx x.fst x_1.fst)
 fun b_1 =>
 bif decide (b_1.fst ≤ b.fst) then some (Sum.inr (false, ()))
 else some (Sum.inl (wrap64 (x_1.fst + 1), ()))
 else some (Sum.inl (wrap64 (x_1.fst + 1), ()))
 else some (Sum.inr (true, ())))
 big (0, ())
def S70 : Sig := ⟨P70, R70, F70⟩
noncomputable def E70 : Env := { tab := tab, nt := 56, Γ := lookG [(25, [S25]), (62, [S62]), (67, [S67])], joins := lookN [], loops := lookN [(2, mkLoop ⟨[⟨.slot 8, (.int .i64), .pv⟩], [0, 1, 7], []⟩)] }
theorem raw70_eq (x : List T94D × Int × Unit) : afun E70 Tryz.f70 P70 R70 x = F70 x := by kernel_rfl
-- decamp/decampref17.leases
def F71 (x : List T113D × Unit) : Option (Bool × Unit) :=
 iterE (Int × Unit) (Bool × Unit)
 (fun (x_1 : Int × Unit) =>
 bif decide (x_1.fst < Int.ofNat (List.length x.fst)) then
 Option.bind (idx x.fst x_1.fst) fun b =>
 Option.bind (F62 (b.fst, ())) fun b =>
 bif !b.fst then some (Sum.inr (false, ()))
 else
 Option.bind (idx x.fst x_1.fst) fun b =>
 Option.bind (F67 (b.snd.fst, 1, 1000, ())) fun b =>
 bif !b.fst then some (Sum.inr (false, ()))
 else
 Option.bind (idx x.fst x_1.fst) fun b =>
 Option.bind (F67 (b.snd.snd.fst, 0, 1000, ())) fun b =>
 bif !b.fst then some (Sum.inr (false, ()))
 else
 bif decide (0 < x_1.fst) then
 Option.bind (idx x.fst (wrap64 (x_1.fst - 1)))
 fun b =>
 Option.bind (idx x.fst x_1.fst) fun b_1 =>
 bif decide (b_1.fst ≤ b.fst) then some (Sum.inr (false, ()))
 else some (Sum.inl (wrap64 (x_1.fst + 1), ()))
 else some (Sum.inl (wrap64 (x_1.fst + 1), ()))
 else some (Sum.inr (decide (Int.ofNat (List.length x.fst) ≤ 64), ())))
 big (0, ())
def S71 : Sig := ⟨P71, R71, F71⟩
noncomputable def E71 : Env := { tab := tab, nt := 56, Γ := lookG [(62, [S62]), (67, [S67])], joins := lookN [], loops := lookN [(2, mkLoop ⟨[⟨.slot 6, (.int .i64), .pv⟩], [0, 5], []⟩)] }
theorem raw71_eq (x : List T113D × Unit) : afun E71 Tryz.f71 P71 R71 x = F71 x := by kernel_rfl
-- decamp/decampref17.Right
def F13 (x : T28D × Unit) : Option (Bool × Unit) :=
 Option.bind
 (Option.bind (F61 x) fun b =>
 bif !b.fst then some (Sum.inr (false, ()))
 else
 bif decide (10 ≤ x.fst.fst) then
 Option.bind (F62 (x.fst.snd.snd.snd.snd.snd.snd.snd.snd.snd.snd.fst, ())) fun b =>
 bif !b.fst then some (Sum.inr (false, ()))
 else
 bif decide (12 ≤ x.fst.fst) then
 bif decide (x.fst.fst ≤ 15) then
 Option.bind (F62 (x.fst.snd.snd.snd.snd.snd.snd.snd.snd.snd.snd.snd.fst, ()))
 fun b =>
 bif !b.fst then some (Sum.inr (false, ())) else some (Sum.inl ())
 else some (Sum.inl ())
 else some (Sum.inl ())
 else
 bif decide (12 ≤ x.fst.fst) then
 bif decide (x.fst.fst ≤ 15) then
 Option.bind (F62 (x.fst.snd.snd.snd.snd.snd.snd.snd.snd.snd.snd.snd.fst, ()))
 fun b =>
 bif !b.fst then some (Sum.inr (false, ())) else some (Sum.inl ())
 else some (Sum.inl ())
 else some (Sum.inl ()))
 fun o =>
 Sum.elim
 (fun (_z : Unit) =>
 Option.bind
 (bif decide (x.fst.fst = 1) then
 Option.bind (F53 (x.fst.snd.fst, ())) fun b =>
 bif b.fst then
 bif decide (Int.ofNat (List.length x.fst.snd.snd.snd.fst) ≤ 40) then
 Option.bind (F63 (x.fst.snd.snd.snd.snd.fst, ())) fun b => some (Sum.inr b)
 else some (Sum.inr (false, ()))
 else some (Sum.inr (false, ()))
 else
 bif decide (x.fst.fst = 2) then
 Option.bind (F64 (x.fst.snd.fst, x.fst.snd.snd.fst, ())) fun b =>
 some (Sum.inr b)
 else
 bif decide (x.fst.fst = 3) then
 Option.bind (F65 (x.fst.snd.snd.snd.snd.snd.snd.snd.fst, ())) fun b =>
 bif b.fst then
 Option.bind (F66 (x.fst.snd.snd.snd.snd.snd.snd.snd.snd.fst, ())) fun b =>
 bif b.fst then
 Option.bind (F66 (x.fst.snd.snd.snd.snd.snd.snd.snd.snd.snd.fst, ()))
 fun b => some (Sum.inr b)
 else some (Sum.inr (false, ()))
 else some (Sum.inr (false, ()))
 else
 bif decide (x.fst.fst = 4) then
 Option.bind (F62 (x.fst.snd.snd.snd.snd.snd.snd.fst, ())) fun b =>
 some (Sum.inr b)
 else
 bif decide (x.fst.fst = 5) then
 Option.bind (F62 (x.fst.snd.snd.snd.snd.fst, ())) fun b =>
 bif b.fst then
 Option.bind (F67 (x.fst.snd.snd.snd.snd.snd.fst, 1, 1000, ())) fun b =>
 some (Sum.inr b)
 else some (Sum.inr (false, ()))
 else
 bif decide (x.fst.fst = 6) then
 bif decide (x.fst.fst = 6) then
 Option.bind (F62 (x.fst.snd.snd.snd.snd.fst, ())) fun b =>
 some (Sum.inr b)
 else
 bif decide (x.fst.fst = 9) then
 bif !decide (x.fst.snd.snd.snd.snd.fst = 0) then
 Option.bind (F67 (x.fst.snd.snd.snd.snd.fst, -1099511627776, 1099511627776, ()))
 fun b => some (Sum.inr b)
 else some (Sum.inr (false, ()))
 else
 bif decide (x.fst.fst = 10) then
 Option.bind (F23 (x.fst.snd.fst, ())) fun b => some (Sum.inr b)
 else
 bif decide (x.fst.fst = 12) then
 Option.bind (F23 (x.fst.snd.fst, ())) fun b =>
 bif b.fst then
 Option.bind (F23 (x.fst.snd.snd.fst, ())) fun b =>
 bif b.fst then
 Option.bind (F62 (x.fst.snd.snd.snd.snd.snd.snd.fst, ()))
 fun b => some (Sum.inr b)
 else some (Sum.inr (false, ()))
 else some (Sum.inr (false, ()))
 else
 bif decide (x.fst.fst = 13) then
 Option.bind (F68 x) fun b => some (Sum.inr b)
 else
 bif decide (x.fst.fst = 14) then
 Option.bind (F69 x) fun b => some (Sum.inr b)
 else
 bif decide (x.fst.fst = 15) then
 Option.bind (F62 (x.fst.snd.snd.snd.snd.snd.snd.fst, ()))
 fun b =>
 bif b.fst then
 Option.bind
 (F70
 (x.fst.snd.snd.snd.snd.snd.snd.snd.snd.snd.snd.snd.snd.snd.snd.snd.fst, 15,
 ()))
 fun b =>
 bif b.fst then
 Option.bind
 (F71
 x.fst.snd.snd.snd.snd.snd.snd.snd.snd.snd.snd.snd.snd.snd.snd.snd.snd)
 fun b => some (Sum.inr b)
 else some (Sum.inr (false, ()))
 else some (Sum.inr (false, ()))
 else some (Sum.inl ())
 else
 bif decide (x.fst.fst = 7) then
 Option.bind (F62 (x.fst.snd.snd.snd.snd.fst, ())) fun b =>
 some (Sum.inr b)
 else
 bif decide (x.fst.fst = 9) then
 bif !decide (x.fst.snd.snd.snd.snd.fst = 0) then
 Option.bind (F67 (x.fst.snd.snd.snd.snd.fst, -1099511627776, 1099511627776, ()))
 fun b => some (Sum.inr b)
 else some (Sum.inr (false, ()))
 else
 bif decide (x.fst.fst = 10) then
 Option.bind (F23 (x.fst.snd.fst, ())) fun b => some (Sum.inr b)
 else
 bif decide (x.fst.fst = 12) then
 Option.bind (F23 (x.fst.snd.fst, ())) fun b =>
 bif b.fst then
 Option.bind (F23 (x.fst.snd.snd.fst, ())) fun b =>
 bif b.fst then
 Option.bind (F62 (x.fst.snd.snd.snd.snd.snd.snd.fst, ()))
 fun b => some (Sum.inr b)
 else some (Sum.inr (false, ()))
 else some (Sum.inr (false, ()))
 else
 bif decide (x.fst.fst = 13) then
 Option.bind (F68 x) fun b => some (Sum.inr b)
 else
 bif decide (x.fst.fst = 14) then
 Option.bind (F69 x) fun b => some (Sum.inr b)
 else
 bif decide (x.fst.fst = 15) then
 Option.bind (F62 (x.fst.snd.snd.snd.snd.snd.snd.fst, ()))
 fun b =>
 bif b.fst then
 Option.bind
 (F70
 (x.fst.snd.snd.snd.snd.snd.snd.snd.snd.snd.snd.snd.snd.snd.snd.snd.fst, 15,
 ()))
 fun b =>
 bif b.fst then
 Option.bind
 (F71
 x.fst.snd.snd.snd.snd.snd.snd.snd.snd.snd.snd.snd.snd.snd.snd.snd.snd)
 fun b => some (Sum.inr b)
 else some (Sum.inr (false, ()))
 else some (Sum.inr (false, ()))
 else some (Sum.inl ()))
 fun o =>
 Sum.elim
 (fun (_z : Unit) =>
 bif decide (x.fst.fst = 8) then some (true, ())
 else
 bif decide (x.fst.fst = 11) then some (true, ())
 else some (decide (x.fst.fst = 16), ()))
 (fun (val : Bool × Unit) => some val) o)
 (fun (val : Bool × Unit) => some val) o
def S13 : Sig := ⟨P13, R13, F13⟩
noncomputable def E13 : Env := { tab := tab, nt := 160, Γ := lookG [(23, [S23]), (53, [S53]), (61, [S61]), (62, [S62]), (63, [S63]), (64, [S64]), (65, [S65]), (66, [S66]), (67, [S67]), (68, [S68]), (69, [S69]), (70, [S70]), (71, [S71])], joins := lookN [(3, ⟨[], [1], [.site 1000, .fld 1000 0, .fld 1000 1, .fld 1000 2, .fld 1000 3, .fld 1000 4, .fld 1000 5, .fld 1000 6, .fld 1000 7, .fld 1000 8, .fld 1000 9, .fld 1000 10, .fld 1000 11, .fld 1000 12, .fld 1000 13, .fld 1000 14, .fld 1000 15, .fld 1000 16]⟩), (29, ⟨[], [1], [.site 1000, .fld 1000 0, .fld 1000 1, .fld 1000 2, .fld 1000 3, .fld 1000 4, .fld 1000 5, .fld 1000 6, .fld 1000 7, .fld 1000 8, .fld 1000 9, .fld 1000 10, .fld 1000 11, .fld 1000 12, .fld 1000 13, .fld 1000 14, .fld 1000 15, .fld 1000 16]⟩)], loops := lookN [] }
theorem raw13_eq (x : T28D × Unit) : afun E13 Tryz.f13 P13 R13 x = F13 x := by kernel_rfl
-- decamp/decampref17.RightJob
def F15 (x : T33D × Unit) : Option (Bool × Unit) :=
 Option.bind (F13 x.fst.snd.snd) fun b =>
 bif !b.fst then some (false, ())
 else
 bif decide (x.fst.fst = 0) then
 bif decide (x.fst.snd.fst = 0) then some (decide (8 ≤ x.fst.snd.snd.fst.fst), ())
 else some (false, ())
 else
 Option.bind (F67 (x.fst.fst, 1, 31, ())) fun b =>
 bif b.fst then
 Option.bind (F62 (x.fst.snd.fst, ())) fun b =>
 bif b.fst then some (decide (x.fst.snd.snd.fst.fst < 8), ()) else some (false, ())
 else some (false, ())
def S15 : Sig := ⟨P15, R15, F15⟩
noncomputable def E15 : Env := { tab := tab, nt := 33, Γ := lookG [(13, [S13]), (62, [S62]), (67, [S67])], joins := lookN [], loops := lookN [] }
theorem raw15_eq (x : T33D × Unit) : afun E15 Tryz.f15 P15 R15 x = F15 x := by kernel_rfl
-- decamp/decampref17.sameCmps
def F78 (x : List T96D × List T96D × Unit) : Option (Bool × Unit) :=
 bif !decide (Int.ofNat (List.length x.fst) = Int.ofNat (List.length x.snd.fst)) then some (false, ())
 else
 iterE (Int × Unit) (Bool × Unit)
 (fun (x_1 : Int × Unit) =>
 bif decide (x_1.fst < Int.ofNat (List.length x.fst)) then
 Option.bind (idx x.fst x_1.fst) fun b =>
 Option.bind (idx x.snd.fst x_1.fst) fun b_1 =>
 bif
 !(decide (b.fst = b_1.fst) &&
 (decide (b.snd.fst = b_1.snd.fst) &&
 (decide (b.snd.snd.fst = b_1.snd.snd.fst) &&
 (decide (b.snd.snd.snd.fst = b_1.snd.snd.snd.fst) &&
 (decide (b.snd.snd.snd.snd.fst = b_1.snd.snd.snd.snd.fst) && true))))) then
 some (Sum.inr (false, ()))
 else some (Sum.inl (wrap64 (x_1.fst + 1), ()))
 else some (Sum.inr (true, ())))
 big (0, ())
def S78 : Sig := ⟨P78, R78, F78⟩
noncomputable def E78 : Env := { tab := tab, nt := 26, Γ := lookG [], joins := lookN [], loops := lookN [(4, mkLoop ⟨[⟨.slot 13, (.int .i64), .pv⟩], [0, 1, 12], []⟩)] }
theorem raw78_eq (x : List T96D × List T96D × Unit) : afun E78 Tryz.f78 P78 R78 x = F78 x := by kernel_rfl
-- decamp/decampref17.sameOps
def F79 (x : List T48D × List T48D × Unit) : Option (Bool × Unit) :=
 bif !decide (Int.ofNat (List.length x.fst) = Int.ofNat (List.length x.snd.fst)) then some (false, ())
 else
 iterE (Int × Unit) (Bool × Unit)
 (fun (x_1 : Int × Unit) =>
 bif decide (x_1.fst < Int.ofNat (List.length x.fst)) then
 Option.bind (idx x.fst x_1.fst) fun b =>
 Option.bind (idx x.snd.fst x_1.fst) fun b_1 =>
 bif
 !(decide (b.fst = b_1.fst) &&
 (decide (b.snd.fst = b_1.snd.fst) &&
 (decide (b.snd.snd.fst = b_1.snd.snd.fst) &&
 (decide (b.snd.snd.snd.fst = b_1.snd.snd.snd.fst) &&
 (decide (b.snd.snd.snd.snd.fst = b_1.snd.snd.snd.snd.fst) && true))))) then
 some (Sum.inr (false, ()))
 else some (Sum.inl (wrap64 (x_1.fst + 1), ()))
 else some (Sum.inr (true, ())))
 big (0, ())
def S79 : Sig := ⟨P79, R79, F79⟩
noncomputable def E79 : Env := { tab := tab, nt := 26, Γ := lookG [], joins := lookN [], loops := lookN [(4, mkLoop ⟨[⟨.slot 13, (.int .i64), .pv⟩], [0, 1, 12], []⟩)] }
theorem raw79_eq (x : List T48D × List T48D × Unit) : afun E79 Tryz.f79 P79 R79 x = F79 x := by kernel_rfl
-- decamp/decampref15.SameItems
def F80 (x : List T70D × List T70D × Unit) : Option (Bool × Unit) :=
 bif !decide (Int.ofNat (List.length x.fst) = Int.ofNat (List.length x.snd.fst)) then some (false, ())
 else
 iterE (Int × Unit) (Bool × Unit)
 (fun (x_1 : Int × Unit) =>
 bif decide (x_1.fst < Int.ofNat (List.length x.fst)) then
 Option.bind (idx x.fst x_1.fst)
 fun b =>
 Option.bind (idx x.snd.fst x_1.fst)
 fun b_1 =>
 bif
 !(decide (b.fst = b_1.fst) &&
 (decide (b.snd.fst.fst = b_1.snd.fst.fst) &&
 (decide (b.snd.fst.snd.fst = b_1.snd.fst.snd.fst) &&
 (decide (b.snd.fst.snd.snd.fst = b_1.snd.fst.snd.snd.fst) &&
 (decide (b.snd.fst.snd.snd.snd.fst = b_1.snd.fst.snd.snd.snd.fst) &&
 (decide (b.snd.fst.snd.snd.snd.snd.fst = b_1.snd.fst.snd.snd.snd.snd.fst) &&
 (decide (b.snd.fst.snd.snd.snd.snd.snd.fst = b_1.snd.fst.snd.snd.snd.snd.snd.fst) &&
 (b.snd.fst.snd.snd.snd.snd.snd.snd.fst == b_1.snd.fst.snd.snd.snd.snd.snd.snd.fst &&
 true)))))) &&
 true)) then
 some (Sum.inr (false, ()))
 else some (Sum.inl (wrap64 (x_1.fst + 1), ()))
 else some (Sum.inr (true, ())))
 big (0, ())
def S80 : Sig := ⟨P80, R80, F80⟩
noncomputable def E80 : Env := { tab := tab, nt := 26, Γ := lookG [], joins := lookN [], loops := lookN [(4, mkLoop ⟨[⟨.slot 13, (.int .i64), .pv⟩], [0, 1, 12], []⟩)] }
theorem raw80_eq (x : List T70D × List T70D × Unit) : afun E80 Tryz.f80 P80 R80 x = F80 x := by kernel_rfl
-- decamp/decampref17.SameReply
def F27 (x : T51D × T51D × Unit) : Option (Bool × Unit) :=
 bif decide (x.fst.fst = x.snd.fst.fst) then
 bif decide (x.fst.snd.fst = x.snd.fst.snd.fst) then
 bif x.fst.snd.snd.fst == x.snd.fst.snd.snd.fst then
 bif decide (x.fst.snd.snd.snd.fst = x.snd.fst.snd.snd.snd.fst) then
 bif decide (x.fst.snd.snd.snd.snd.snd.fst = x.snd.fst.snd.snd.snd.snd.snd.fst) then
 bif decide (x.fst.snd.snd.snd.snd.snd.snd.fst = x.snd.fst.snd.snd.snd.snd.snd.snd.fst) then
 Option.bind (F80 (x.fst.snd.snd.snd.snd.fst, x.snd.fst.snd.snd.snd.snd.fst, ()))
 fun b => some b
 else some (false, ())
 else some (false, ())
 else some (false, ())
 else some (false, ())
 else some (false, ())
 else some (false, ())
def S27 : Sig := ⟨P27, R27, F27⟩
noncomputable def E27 : Env := { tab := tab, nt := 52, Γ := lookG [(80, [S80])], joins := lookN [], loops := lookN [] }
theorem raw27_eq (x : T51D × T51D × Unit) : afun E27 Tryz.f27 P27 R27 x = F27 x := by kernel_rfl
-- decamp/decampref17.SameSess
def F81 (x : List T94D × List T94D × Unit) : Option (Bool × Unit) :=
 bif !decide (Int.ofNat (List.length x.fst) = Int.ofNat (List.length x.snd.fst)) then some (false, ())
 else
 iterE (Int × Unit) (Bool × Unit)
 (fun (x_1 : Int × Unit) =>
 bif decide (x_1.fst < Int.ofNat (List.length x.fst)) then
 Option.bind (idx x.fst x_1.fst)
 fun b =>
 Option.bind (idx x.snd.fst x_1.fst)
 fun b_1 =>
 bif !decide (b.fst = b_1.fst) then some (Sum.inr (false, ()))
 else
 Option.bind (idx x.fst x_1.fst)
 fun b =>
 Option.bind (idx x.snd.fst x_1.fst)
 fun b_2 =>
 bif !decide (b.snd.fst = b_2.snd.fst) then some (Sum.inr (false, ()))
 else
 Option.bind (idx x.fst x_1.fst)
 fun b =>
 Option.bind (idx x.snd.fst x_1.fst)
 fun b_3 =>
 Option.bind (F27 (b.snd.snd.fst, b_3.snd.snd)) fun b =>
 bif !b.fst then some (Sum.inr (false, ()))
 else some (Sum.inl (wrap64 (x_1.fst + 1), ()))
 else some (Sum.inr (true, ())))
 big (0, ())
def S81 : Sig := ⟨P81, R81, F81⟩
noncomputable def E81 : Env := { tab := tab, nt := 55, Γ := lookG [(27, [S27])], joins := lookN [], loops := lookN [(4, mkLoop ⟨[⟨.slot 13, (.int .i64), .pv⟩], [0, 1, 12], []⟩)] }
theorem raw81_eq (x : List T94D × List T94D × Unit) : afun E81 Tryz.f81 P81 R81 x = F81 x := by kernel_rfl
-- decamp/decampref17.SameLeases
def F82 (x : List T113D × List T113D × Unit) : Option (Bool × Unit) :=
 bif !decide (Int.ofNat (List.length x.fst) = Int.ofNat (List.length x.snd.fst)) then some (false, ())
 else
 iterE (Int × Unit) (Bool × Unit)
 (fun (x_1 : Int × Unit) =>
 bif decide (x_1.fst < Int.ofNat (List.length x.fst)) then
 Option.bind (idx x.fst x_1.fst) fun b =>
 Option.bind (idx x.snd.fst x_1.fst) fun b_1 =>
 bif
 !(decide (b.fst = b_1.fst) &&
 (decide (b.snd.fst = b_1.snd.fst) && (decide (b.snd.snd.fst = b_1.snd.snd.fst) && true))) then
 some (Sum.inr (false, ()))
 else some (Sum.inl (wrap64 (x_1.fst + 1), ()))
 else some (Sum.inr (true, ())))
 big (0, ())
def S82 : Sig := ⟨P82, R82, F82⟩
noncomputable def E82 : Env := { tab := tab, nt := 26, Γ := lookG [], joins := lookN [], loops := lookN [(4, mkLoop ⟨[⟨.slot 13, (.int .i64), .pv⟩], [0, 1, 12], []⟩)] }
theorem raw82_eq (x : List T113D × List T113D × Unit) : afun E82 Tryz.f82 P82 R82 x = F82 x := by kernel_rfl
-- decamp/decampref17.Same
def F17 (x : T28D × T28D × Unit) : Option (Bool × Unit) :=
 bif decide (x.fst.fst = x.snd.fst.fst) then
 bif decide (x.fst.snd.fst = x.snd.fst.snd.fst) then
 bif decide (x.fst.snd.snd.fst = x.snd.fst.snd.snd.fst) then
 bif decide (x.fst.snd.snd.snd.fst = x.snd.fst.snd.snd.snd.fst) then
 bif decide (x.fst.snd.snd.snd.snd.fst = x.snd.fst.snd.snd.snd.snd.fst) then
 bif decide (x.fst.snd.snd.snd.snd.snd.fst = x.snd.fst.snd.snd.snd.snd.snd.fst) then
 bif decide (x.fst.snd.snd.snd.snd.snd.snd.fst = x.snd.fst.snd.snd.snd.snd.snd.snd.fst) then
 bif
 decide
 (x.fst.snd.snd.snd.snd.snd.snd.snd.snd.snd.snd.fst =
 x.snd.fst.snd.snd.snd.snd.snd.snd.snd.snd.snd.snd.fst) then
 bif
 decide
 (x.fst.snd.snd.snd.snd.snd.snd.snd.snd.snd.snd.snd.fst =
 x.snd.fst.snd.snd.snd.snd.snd.snd.snd.snd.snd.snd.snd.fst) then
 bif
 decide
 (x.fst.snd.snd.snd.snd.snd.snd.snd.snd.snd.snd.snd.snd.fst =
 x.snd.fst.snd.snd.snd.snd.snd.snd.snd.snd.snd.snd.snd.snd.fst) then
 bif
 x.fst.snd.snd.snd.snd.snd.snd.snd.snd.snd.snd.snd.snd.snd.fst ==
 x.snd.fst.snd.snd.snd.snd.snd.snd.snd.snd.snd.snd.snd.snd.snd.fst then
 Option.bind
 (F78
 (x.fst.snd.snd.snd.snd.snd.snd.snd.fst, x.snd.fst.snd.snd.snd.snd.snd.snd.snd.fst,
 ()))
 fun b =>
 bif b.fst then
 Option.bind
 (F79
 (x.fst.snd.snd.snd.snd.snd.snd.snd.snd.fst,
 x.snd.fst.snd.snd.snd.snd.snd.snd.snd.snd.fst, ()))
 fun b =>
 bif b.fst then
 Option.bind
 (F79
 (x.fst.snd.snd.snd.snd.snd.snd.snd.snd.snd.fst,
 x.snd.fst.snd.snd.snd.snd.snd.snd.snd.snd.snd.fst, ()))
 fun b =>
 bif b.fst then
 Option.bind
 (F80
 (x.fst.snd.snd.snd.snd.snd.snd.snd.snd.snd.snd.snd.snd.snd.snd.fst,
 x.snd.fst.snd.snd.snd.snd.snd.snd.snd.snd.snd.snd.snd.snd.snd.snd.fst,
 ()))
 fun b =>
 bif b.fst then
 Option.bind
 (F81
 (x.fst.snd.snd.snd.snd.snd.snd.snd.snd.snd.snd.snd.snd.snd.snd.snd.fst,
 x.snd.fst.snd.snd.snd.snd.snd.snd.snd.snd.snd.snd.snd.snd.snd.snd.snd.fst,
 ()))
 fun b =>
 bif b.fst then
 Option.bind
 (F82
 (x.fst.snd.snd.snd.snd.snd.snd.snd.snd.snd.snd.snd.snd.snd.snd.snd.snd.fst,
 x.snd.fst.snd.snd.snd.snd.snd.snd.snd.snd.snd.snd.snd.snd.snd.snd.snd.snd))
 fun b => some b
 else some (false, ())
 else some (false, ())
 else some (false, ())
 else some (false, ())
 else some (false, ())
 else some (false, ())
 else some (false, ())
 else some (false, ())
 else some (false, ())
 else some (false, ())
 else some (false, ())
 else some (false, ())
 else some (false, ())
 else some (false, ())
 else some (false, ())
 else some (false, ())
def S17 : Sig := ⟨P17, R17, F17⟩
noncomputable def E17 : Env := { tab := tab, nt := 122, Γ := lookG [(78, [S78]), (79, [S79]), (80, [S80]), (81, [S81]), (82, [S82])], joins := lookN [], loops := lookN [] }
theorem raw17_eq (x : T28D × T28D × Unit) : afun E17 Tryz.f17 P17 R17 x = F17 x := by kernel_rfl
-- decamp/decamplaw17.CmdRight
def F3 (x : T28D × T28D × Int × Int × Unit) : Option (Bool × Unit) :=
 Option.bind (F10 ()) fun b =>
 bif !b.fst then Option.bind (F10 ()) fun b => some b
 else
 Option.bind (F11 (x.fst, ())) fun b =>
 bif !b.fst then Option.bind (F10 ()) fun b => some b
 else
 Option.bind (F11 (x.snd.fst, ())) fun b =>
 bif !b.fst then Option.bind (F10 ()) fun b => some b
 else
 Option.bind (F12 (x.fst, ())) fun b =>
 Option.bind (F13 (x.fst, ())) fun b_1 =>
 bif b.fst == b_1.fst then
 Option.bind (F14 ((x.snd.snd.fst, x.snd.snd.snd.fst, x.fst, ()), ()))
 fun b =>
 Option.bind (F15 ((x.snd.snd.fst, x.snd.snd.snd.fst, x.fst, ()), ()))
 fun b_2 =>
 bif b.fst == b_2.fst then
 Option.bind (F16 (x.fst, x.snd.fst, ())) fun b =>
 Option.bind (F17 (x.fst, x.snd.fst, ())) fun b_3 =>
 bif b.fst == b_3.fst then
 Option.bind (F16 (x.fst, x.fst, ())) fun b => some b
 else some (false, ())
 else some (false, ())
 else some (false, ())
def S3 : Sig := ⟨P3, R3, F3⟩
noncomputable def E3 : Env := { tab := tab, nt := 54, Γ := lookG [(10, [S10]), (11, [S11]), (12, [S12]), (13, [S13]), (14, [S14]), (15, [S15]), (16, [S16]), (17, [S17])], joins := lookN [], loops := lookN [] }
theorem raw3_eq (x : T28D × T28D × Int × Int × Unit) : afun E3 Tryz.f3 P3 R3 x = F3 x := by kernel_rfl
-- decamp/decampref17.join
def F85 (x : List (List UInt8) × Unit) : Option (List UInt8 × Unit) :=
 iterE (List UInt8 × Int × Unit) T83D
 (fun (x_1 : List UInt8 × Int × Unit) =>
 bif decide (x_1.snd.fst < Int.ofNat (List.length x.fst)) then
 Option.bind (idx x.fst x_1.snd.fst) fun b =>
 Option.bind (appU x_1.fst b) fun b =>
 some (Sum.inl (b, wrap64 (x_1.snd.fst + 1), ()))
 else some (Sum.inr (x_1.fst, ())))
 big ([], 0, ())
def S85 : Sig := ⟨P85, R85, F85⟩
noncomputable def E85 : Env := { tab := tab, nt := 18, Γ := lookG [], joins := lookN [], loops := lookN [(3, mkLoop ⟨[⟨.slot 3, (.slice .u8), .own false⟩, ⟨.slot 7, (.int .i64), .pv⟩], [0, 6], []⟩)] }
theorem raw85_eq (x : List (List UInt8) × Unit) : afun E85 Tryz.f85 P85 R85 x = F85 x := by kernel_rfl
-- decamp/decampref03.Wide
def F133 (x : Int × Int × Unit) : Option (List UInt8 × Unit) :=
 Option.bind (mkO 0 x.snd.fst x.snd.fst) fun b =>
 iterE (Int × List UInt8 × Int × Unit) T83D
 (fun (x_1 : Int × List UInt8 × Int × Unit) =>
 bif decide (x_1.snd.snd.fst < x.snd.fst) then
 Option.bind
 (idxN x_1.snd.fst (wrap64 (wrap64 (x.snd.fst - 1) - x_1.snd.snd.fst)))
 fun b =>
 Option.bind x_1.snd.fst[b]? fun (_z : UInt8) =>
 Option.bind (quoO IntKind.u64 x_1.fst 256) fun b_1 =>
 some
 (Sum.inl
 (b_1, List.set x_1.snd.fst b (Sx.byteOf (IntKind.wrap IntKind.u8 x_1.fst)),
 wrap64 (x_1.snd.snd.fst + 1), ()))
 else some (Sum.inr (x_1.snd.fst, ())))
 big (x.fst, b, 0, ())
def S133 : Sig := ⟨P133, R133, F133⟩
noncomputable def E133 : Env := { tab := tab, nt := 25, Γ := lookG [], joins := lookN [], loops := lookN [(3, mkLoop ⟨[⟨.slot 0, (.int .u64), .pv⟩, ⟨.slot 5, (.slice .u8), .own false⟩, ⟨.slot 10, (.int .i64), .pv⟩], [1, 9], []⟩)] }
theorem raw133_eq (x : Int × Int × Unit) : afun E133 Tryz.f133 P133 R133 x = F133 x := by kernel_rfl
-- decamp/decampref03.Num
def F132 (x : Int × Unit) : Option (List UInt8 × Unit) :=
 Option.bind (F133 (IntKind.wrap IntKind.u64 x.fst, 8, ())) fun b => some b
def S132 : Sig := ⟨P132, R132, F132⟩
noncomputable def E132 : Env := { tab := tab, nt := 6, Γ := lookG [(133, [S133])], joins := lookN [], loops := lookN [] }
theorem raw132_eq (x : Int × Unit) : afun E132 Tryz.f132 P132 R132 x = F132 x := by kernel_rfl
-- decamp/decampref17.Nums
def F86 (x : List Int × Unit) : Option (List UInt8 × Unit) :=
 iterE (List UInt8 × Int × Unit) T83D
 (fun (x_1 : List UInt8 × Int × Unit) =>
 bif decide (x_1.snd.fst < Int.ofNat (List.length x.fst)) then
 Option.bind (idx x.fst x_1.snd.fst) fun b =>
 Option.bind (F132 (b, ())) fun b =>
 Option.bind (appU x_1.fst b.fst) fun b =>
 some (Sum.inl (b, wrap64 (x_1.snd.fst + 1), ()))
 else some (Sum.inr (x_1.fst, ())))
 big ([], 0, ())
def S86 : Sig := ⟨P86, R86, F86⟩
noncomputable def E86 : Env := { tab := tab, nt := 19, Γ := lookG [(132, [S132])], joins := lookN [], loops := lookN [(3, mkLoop ⟨[⟨.slot 3, (.slice .u8), .own false⟩, ⟨.slot 7, (.int .i64), .pv⟩], [0, 6], []⟩)] }
theorem raw86_eq (x : List Int × Unit) : afun E86 Tryz.f86 P86 R86 x = F86 x := by kernel_rfl
-- decamp/decampref03.Count
def F88 (x : Int × Unit) : Option (List UInt8 × Unit) :=
 Option.bind (F133 (IntKind.wrap IntKind.u64 x.fst, 4, ())) fun b => some b
def S88 : Sig := ⟨P88, R88, F88⟩
noncomputable def E88 : Env := { tab := tab, nt := 6, Γ := lookG [(133, [S133])], joins := lookN [], loops := lookN [] }
theorem raw88_eq (x : Int × Unit) : afun E88 Tryz.f88 P88 R88 x = F88 x := by kernel_rfl
-- decamp/decampref03.Text
def F87 (x : List UInt8 × Unit) : Option (List UInt8 × Unit) :=
 Option.bind (F88 (Int.ofNat (List.length x.fst), ())) fun b =>
 Option.bind (appU b.fst x.fst) fun b => some (b, ())
def S87 : Sig := ⟨P87, R87, F87⟩
noncomputable def E87 : Env := { tab := tab, nt := 8, Γ := lookG [(88, [S88])], joins := lookN [], loops := lookN [] }
theorem raw87_eq (x : List UInt8 × Unit) : afun E87 Tryz.f87 P87 R87 x = F87 x := by kernel_rfl
-- decamp/decampref17.opsBytes
def F89 (x : List T48D × Unit) : Option (List UInt8 × Unit) :=
 Option.bind (F88 (Int.ofNat (List.length x.fst), ())) fun b =>
 iterE (List UInt8 × Int × Unit) T83D
 (fun (x_1 : List UInt8 × Int × Unit) =>
 bif decide (x_1.snd.fst < Int.ofNat (List.length x.fst)) then
 Option.bind (idx x.fst x_1.snd.fst) fun b =>
 Option.bind (idx x.fst x_1.snd.fst) fun b_1 =>
 Option.bind (F87 (b_1.snd.fst, ())) fun b_2 =>
 Option.bind (idx x.fst x_1.snd.fst)
 fun b_3 =>
 Option.bind (F87 (b_3.snd.snd.fst, ())) fun b_4 =>
 Option.bind (idx x.fst x_1.snd.fst)
 fun b_5 =>
 Option.bind (F87 (b_5.snd.snd.snd.fst, ())) fun b_6 =>
 Option.bind (idx x.fst x_1.snd.fst)
 fun b_7 =>
 Option.bind (F86 ([b_7.snd.snd.snd.snd.fst], ())) fun b_8 =>
 Option.bind
 (F85
 ([x_1.fst, [Sx.byteOf (IntKind.wrap IntKind.u8 b.fst)], b_2.fst, b_4.fst, b_6.fst,
 b_8.fst],
 ()))
 fun b =>
 some (Sum.inl (b.fst, wrap64 (x_1.snd.fst + 1), ()))
 else some (Sum.inr (x_1.fst, ())))
 big (b.fst, 0, ())
def S89 : Sig := ⟨P89, R89, F89⟩
noncomputable def E89 : Env := { tab := tab, nt := 50, Γ := lookG [(85, [S85]), (86, [S86]), (87, [S87]), (88, [S88])], joins := lookN [], loops := lookN [(3, mkLoop ⟨[⟨.slot 3, (.slice .u8), .own false⟩, ⟨.slot 10, (.int .i64), .pv⟩], [0, 9], []⟩)] }
theorem raw89_eq (x : List T48D × Unit) : afun E89 Tryz.f89 P89 R89 x = F89 x := by kernel_rfl
-- decamp/decampref03.Flag
def F90 (x : Bool × Unit) : Option (List UInt8 × Unit) := bif x.fst then some ([UInt8.ofNat 1], ()) else some ([UInt8.ofNat 0], ())
def S90 : Sig := ⟨P90, R90, F90⟩
noncomputable def E90 : Env := { tab := tab, nt := 6, Γ := lookG [], joins := lookN [], loops := lookN [] }
theorem raw90_eq (x : Bool × Unit) : afun E90 Tryz.f90 P90 R90 x = F90 x := by kernel_rfl
-- decamp/decampref17.VerBytes
def F34 (x : T66D × Unit) : Option (List UInt8 × Unit) :=
 Option.bind
 (Option.bind (F52 x) fun b =>
 bif !b.fst then some (Sum.inl (0, 0, 0, 0, [], 0, false, ())) else some (Sum.inl x.fst))
 fun o =>
 Sum.elim
 (fun (x : T66D) =>
 Option.bind (F86 ([x.fst, x.snd.fst, x.snd.snd.fst, x.snd.snd.snd.fst], ()))
 fun b =>
 Option.bind (F87 (x.snd.snd.snd.snd.fst, ())) fun b_1 =>
 Option.bind (F86 ([x.snd.snd.snd.snd.snd.fst], ())) fun b_2 =>
 Option.bind (F90 x.snd.snd.snd.snd.snd.snd) fun b_3 =>
 Option.bind (F85 ([b.fst, b_1.fst, b_2.fst, b_3.fst], ())) fun b =>
 some b)
 (fun (val : T83D) => some val) o
def S34 : Sig := ⟨P34, R34, F34⟩
noncomputable def E34 : Env := { tab := tab, nt := 29, Γ := lookG [(52, [S52]), (85, [S85]), (86, [S86]), (87, [S87]), (90, [S90])], joins := lookN [(3, ⟨[⟨.fld 1000 0, (.int .i64), .pv⟩, ⟨.fld 1000 1, (.int .i64), .pv⟩, ⟨.fld 1000 2, (.int .i64), .pv⟩, ⟨.fld 1000 3, (.int .i64), .pv⟩, ⟨.fld 1000 4, .str, .pv⟩, ⟨.fld 1000 5, (.int .i64), .pv⟩, ⟨.fld 1000 6, .bool, .pv⟩], [1], [.site 1000]⟩)], loops := lookN [] }
theorem raw34_eq (x : T66D × Unit) : afun E34 Tryz.f34 P34 R34 x = F34 x := by kernel_rfl
-- decamp/decampref17.ItemBytes
def F36 (x : T70D × Unit) : Option (List UInt8 × Unit) :=
 Option.bind
 (bif !decide (x.fst.fst = []) then
 Option.bind (F53 (x.fst.fst, ())) fun b =>
 bif !b.fst then some (Sum.inl ([], (0, 0, 0, 0, [], 0, false, ()), ()))
 else
 bif
 !(decide (x.fst.snd.fst.fst = 0) &&
 (decide (x.fst.snd.fst.snd.fst = 0) &&
 (decide (x.fst.snd.fst.snd.snd.fst = 0) &&
 (decide (x.fst.snd.fst.snd.snd.snd.fst = 0) &&
 (decide (x.fst.snd.fst.snd.snd.snd.snd.fst = []) &&
 (decide (x.fst.snd.fst.snd.snd.snd.snd.snd.fst = 0) &&
 (x.fst.snd.fst.snd.snd.snd.snd.snd.snd.fst == false && true))))))) then
 Option.bind (F52 x.fst.snd) fun b =>
 bif !b.fst then some (Sum.inl ([], (0, 0, 0, 0, [], 0, false, ()), ()))
 else some (Sum.inl x.fst)
 else some (Sum.inl x.fst)
 else
 bif
 !(decide (x.fst.snd.fst.fst = 0) &&
 (decide (x.fst.snd.fst.snd.fst = 0) &&
 (decide (x.fst.snd.fst.snd.snd.fst = 0) &&
 (decide (x.fst.snd.fst.snd.snd.snd.fst = 0) &&
 (decide (x.fst.snd.fst.snd.snd.snd.snd.fst = []) &&
 (decide (x.fst.snd.fst.snd.snd.snd.snd.snd.fst = 0) &&
 (x.fst.snd.fst.snd.snd.snd.snd.snd.snd.fst == false && true))))))) then
 Option.bind (F52 x.fst.snd) fun b =>
 bif !b.fst then some (Sum.inl ([], (0, 0, 0, 0, [], 0, false, ()), ()))
 else some (Sum.inl x.fst)
 else some (Sum.inl x.fst))
 fun o =>
 Sum.elim
 (fun (x : T70D) =>
 Option.bind (F87 (x.fst, ())) fun b =>
 Option.bind (F34 x.snd) fun b_1 =>
 Option.bind (F85 ([b.fst, b_1.fst], ())) fun b => some b)
 (fun (val : T83D) => some val) o
def S36 : Sig := ⟨P36, R36, F36⟩
noncomputable def E36 : Env := { tab := tab, nt := 33, Γ := lookG [(34, [S34]), (52, [S52]), (53, [S53]), (85, [S85]), (87, [S87])], joins := lookN [(3, ⟨[⟨.fld 1000 0, .str, .pv⟩, ⟨.fld 1000 1, T66, .pv⟩], [1], [.site 1000]⟩)], loops := lookN [] }
theorem raw36_eq (x : T70D × Unit) : afun E36 Tryz.f36 P36 R36 x = F36 x := by kernel_rfl
-- decamp/decampref17.itemsBytes
def F91 (x : List T70D × Unit) : Option (List UInt8 × Unit) :=
 Option.bind (F88 (Int.ofNat (List.length x.fst), ())) fun b =>
 iterE (List UInt8 × Int × Unit) T83D
 (fun (x_1 : List UInt8 × Int × Unit) =>
 bif decide (x_1.snd.fst < Int.ofNat (List.length x.fst)) then
 Option.bind (idx x.fst x_1.snd.fst)
 fun b =>
 Option.bind (F36 (b, ())) fun b =>
 Option.bind (appU x_1.fst b.fst) fun b =>
 some (Sum.inl (b, wrap64 (x_1.snd.fst + 1), ()))
 else some (Sum.inr (x_1.fst, ())))
 big (b.fst, 0, ())
def S91 : Sig := ⟨P91, R91, F91⟩
noncomputable def E91 : Env := { tab := tab, nt := 22, Γ := lookG [(36, [S36]), (88, [S88])], joins := lookN [], loops := lookN [(3, mkLoop ⟨[⟨.slot 3, (.slice .u8), .own false⟩, ⟨.slot 10, (.int .i64), .pv⟩], [0, 9], []⟩)] }
theorem raw91_eq (x : List T70D × Unit) : afun E91 Tryz.f91 P91 R91 x = F91 x := by kernel_rfl
-- decamp/decampref17.ReplyBytes
def F38 (x : T51D × Unit) : Option (List UInt8 × Unit) :=
 Option.bind
 (Option.bind (F25 x) fun b =>
 bif !b.fst then some (Sum.inl (0, 0, false, 0, [], 0, 0, ())) else some (Sum.inl x.fst))
 fun o =>
 Sum.elim
 (fun (x :
 Int × Int × Bool × Int × List T70D × Int × Int × Unit) =>
 Option.bind (F86 ([x.snd.fst], ())) fun b =>
 Option.bind (F90 (x.snd.snd.fst, ())) fun b_1 =>
 Option.bind (F86 ([x.snd.snd.snd.fst], ())) fun b_2 =>
 Option.bind (F91 (x.snd.snd.snd.snd.fst, ())) fun b_3 =>
 Option.bind (F86 ([x.snd.snd.snd.snd.snd.snd.fst], ())) fun b_4 =>
 Option.bind
 (F85
 ([[Sx.byteOf (IntKind.wrap IntKind.u8 x.fst)], b.fst, b_1.fst, b_2.fst, b_3.fst,
 [Sx.byteOf (IntKind.wrap IntKind.u8 x.snd.snd.snd.snd.snd.fst)], b_4.fst],
 ()))
 fun b => some b)
 (fun (val : T83D) => some val) o
def S38 : Sig := ⟨P38, R38, F38⟩
noncomputable def E38 : Env := { tab := tab, nt := 35, Γ := lookG [(25, [S25]), (85, [S85]), (86, [S86]), (90, [S90]), (91, [S91])], joins := lookN [(3, ⟨[⟨.fld 1000 0, (.int .i64), .pv⟩, ⟨.fld 1000 1, (.int .i64), .pv⟩, ⟨.fld 1000 2, .bool, .pv⟩, ⟨.fld 1000 3, (.int .i64), .pv⟩, ⟨.fld 1000 4, (.slice T70), .pv⟩, ⟨.fld 1000 5, (.int .i64), .pv⟩, ⟨.fld 1000 6, (.int .i64), .pv⟩], [1], [.site 1000]⟩)], loops := lookN [] }
theorem raw38_eq (x : T51D × Unit) : afun E38 Tryz.f38 P38 R38 x = F38 x := by kernel_rfl
-- decamp/decampref17.handedBytes
def F92 (x : List T94D × List T113D × Unit) : Option (List UInt8 × Unit) :=
 Option.bind (F88 (Int.ofNat (List.length x.fst), ())) fun b =>
 iterE (List UInt8 × Int × Unit) T83D
 (fun (x_1 : List UInt8 × Int × Unit) =>
 bif decide (x_1.snd.fst < Int.ofNat (List.length x.fst)) then
 Option.bind (idx x.fst x_1.snd.fst)
 fun b =>
 Option.bind (idx x.fst x_1.snd.fst)
 fun b_1 =>
 Option.bind (F86 ([b.fst, b_1.snd.fst], ())) fun b =>
 Option.bind (idx x.fst x_1.snd.fst)
 fun b_2 =>
 Option.bind (F38 b_2.snd.snd) fun b_3 =>
 Option.bind (F85 ([x_1.fst, b.fst, b_3.fst], ())) fun b =>
 some (Sum.inl (b.fst, wrap64 (x_1.snd.fst + 1), ()))
 else
 Option.map Sum.inr
 (Option.bind (F88 (Int.ofNat (List.length x.snd.fst), ())) fun b =>
 Option.bind (F85 ([x_1.fst, b.fst], ())) fun b =>
 iterE (List UInt8 × Int × Unit) T83D
 (fun (x_2 : List UInt8 × Int × Unit) =>
 bif decide (x_2.snd.fst < Int.ofNat (List.length x.snd.fst)) then
 Option.bind (idx x.snd.fst x_2.snd.fst) fun b =>
 Option.bind (idx x.snd.fst x_2.snd.fst) fun b_1 =>
 Option.bind (idx x.snd.fst x_2.snd.fst) fun b_2 =>
 Option.bind (F86 ([b.fst, b_1.snd.fst, b_2.snd.snd.fst], ()))
 fun b =>
 Option.bind (F85 ([x_2.fst, b.fst], ())) fun b =>
 some (Sum.inl (b.fst, wrap64 (x_2.snd.fst + 1), ()))
 else some (Sum.inr (x_2.fst, ())))
 big (b.fst, 0, ())))
 big (b.fst, 0, ())
def S92 : Sig := ⟨P92, R92, F92⟩
noncomputable def E92 : Env := { tab := tab, nt := 71, Γ := lookG [(38, [S38]), (85, [S85]), (86, [S86]), (88, [S88])], joins := lookN [], loops := lookN [(3, mkLoop ⟨[⟨.slot 5, (.slice .u8), .own false⟩, ⟨.slot 13, (.int .i64), .pv⟩], [0, 1, 12], []⟩), (9, mkLoop ⟨[⟨.slot 5, (.slice .u8), .own false⟩, ⟨.slot 46, (.int .i64), .pv⟩], [1, 45], []⟩)] }
theorem raw92_eq (x : List T94D × List T113D × Unit) : afun E92 Tryz.f92 P92 R92 x = F92 x := by kernel_rfl
-- decamp/decampref17.Bytes
def F19 (x : T33D × Unit) : Option (List UInt8 × Unit) :=
 Option.bind (F86 ([x.fst.fst, x.fst.snd.fst], ())) fun b =>
 Option.bind (F87 (x.fst.snd.snd.fst.snd.fst, ())) fun b_1 =>
 Option.bind (F87 (x.fst.snd.snd.fst.snd.snd.fst, ())) fun b_2 =>
 Option.bind (F87 (x.fst.snd.snd.fst.snd.snd.snd.fst, ())) fun b_3 =>
 Option.bind
 (F86
 ([x.fst.snd.snd.fst.snd.snd.snd.snd.fst, x.fst.snd.snd.fst.snd.snd.snd.snd.snd.fst,
 x.fst.snd.snd.fst.snd.snd.snd.snd.snd.snd.fst],
 ()))
 fun b_4 =>
 Option.bind (F88 (Int.ofNat (List.length x.fst.snd.snd.fst.snd.snd.snd.snd.snd.snd.snd.fst), ()))
 fun b_5 =>
 Option.bind
 (F85
 ([b.fst, [Sx.byteOf (IntKind.wrap IntKind.u8 x.fst.snd.snd.fst.fst)], b_1.fst, b_2.fst, b_3.fst,
 b_4.fst, b_5.fst],
 ()))
 fun b =>
 iterE (List UInt8 × Int × Unit) T83D
 (fun (x_1 : List UInt8 × Int × Unit) =>
 bif
 decide
 (x_1.snd.fst < Int.ofNat (List.length x.fst.snd.snd.fst.snd.snd.snd.snd.snd.snd.snd.fst)) then
 Option.bind (idx x.fst.snd.snd.fst.snd.snd.snd.snd.snd.snd.snd.fst x_1.snd.fst)
 fun b =>
 Option.bind (F87 (b.fst, ())) fun b_6 =>
 Option.bind (F86 ([b.snd.snd.snd.fst], ())) fun b_7 =>
 Option.bind (F87 b.snd.snd.snd.snd) fun b_8 =>
 Option.bind
 (F85
 ([x_1.fst, b_6.fst,
 [Sx.byteOf (IntKind.wrap IntKind.u8 b.snd.fst),
 Sx.byteOf (IntKind.wrap IntKind.u8 b.snd.snd.fst)],
 b_7.fst, b_8.fst],
 ()))
 fun b =>
 some (Sum.inl (b.fst, wrap64 (x_1.snd.fst + 1), ()))
 else
 Option.map Sum.inr
 (Option.bind (F89 (x.fst.snd.snd.fst.snd.snd.snd.snd.snd.snd.snd.snd.fst, ()))
 fun b =>
 Option.bind (F89 (x.fst.snd.snd.fst.snd.snd.snd.snd.snd.snd.snd.snd.snd.fst, ()))
 fun b_6 =>
 Option.bind
 (F86
 ([x.fst.snd.snd.fst.snd.snd.snd.snd.snd.snd.snd.snd.snd.snd.fst,
 x.fst.snd.snd.fst.snd.snd.snd.snd.snd.snd.snd.snd.snd.snd.snd.fst,
 x.fst.snd.snd.fst.snd.snd.snd.snd.snd.snd.snd.snd.snd.snd.snd.snd.fst],
 ()))
 fun b_7 =>
 Option.bind
 (F90
 (x.fst.snd.snd.fst.snd.snd.snd.snd.snd.snd.snd.snd.snd.snd.snd.snd.snd.fst,
 ()))
 fun b_8 =>
 Option.bind
 (F91
 (x.fst.snd.snd.fst.snd.snd.snd.snd.snd.snd.snd.snd.snd.snd.snd.snd.snd.snd.fst,
 ()))
 fun b_9 =>
 Option.bind
 (F92 x.fst.snd.snd.fst.snd.snd.snd.snd.snd.snd.snd.snd.snd.snd.snd.snd.snd.snd.snd)
 fun b_10 =>
 Option.bind
 (F85 ([x_1.fst, b.fst, b_6.fst, b_7.fst, b_8.fst, b_9.fst, b_10.fst], ()))
 fun b => some b))
 big (b.fst, 0, ())
def S19 : Sig := ⟨P19, R19, F19⟩
noncomputable def E19 : Env := { tab := tab, nt := 102, Γ := lookG [(85, [S85]), (86, [S86]), (87, [S87]), (88, [S88]), (89, [S89]), (90, [S90]), (91, [S91]), (92, [S92])], joins := lookN [], loops := lookN [(4, mkLoop ⟨[⟨.slot 4, (.slice .u8), .own false⟩, ⟨.slot 45, (.int .i64), .pv⟩], [3, 44], [.site 1003000, .fld 1003000 0, .fld 1003000 1, .fld 1003000 2, .fld 1003000 3, .fld 1003000 4, .fld 1003000 5, .fld 1003000 6, .fld 1003000 7, .fld 1003000 8, .fld 1003000 9, .fld 1003000 10, .fld 1003000 11, .fld 1003000 12, .fld 1003000 13, .fld 1003000 14, .fld 1003000 15, .fld 1003000 16]⟩)] }
theorem raw19_eq (x : T33D × Unit) : afun E19 Tryz.f19 P19 R19 x = F19 x := by kernel_rfl
-- decamp/decamplaw17.CmdEncodes
def F4 (x : Int × Int × T28D × Unit) : Option (Bool × Unit) :=
 Option.bind (F10 ()) fun b =>
 bif !b.fst then Option.bind (F10 ()) fun b => some b
 else
 Option.bind (F11 x.snd.snd) fun b =>
 bif !b.fst then Option.bind (F10 ()) fun b => some b
 else
 Option.bind (F18 (x, ())) fun b =>
 Option.bind (F15 (x, ())) fun b_1 =>
 bif !b_1.fst then
 bif decide (b.snd.fst = 1) then some (decide (Int.ofNat (List.length b.fst) = 0), ())
 else some (false, ())
 else
 Option.bind (F19 (x, ())) fun b_2 =>
 bif decide (12000 < Int.ofNat (List.length b_2.fst)) then
 bif decide (b.snd.fst = 3) then some (decide (Int.ofNat (List.length b.fst) = 0), ())
 else some (false, ())
 else
 Option.bind (F20 (b.fst, ()))
 fun b_3 =>
 bif decide (b.snd.fst = 0) then
 bif decide (b.fst = b_2.fst) then
 bif decide (b_3.snd.fst = 0) then
 bif decide (b_3.fst.fst = x.fst) then
 bif decide (b_3.fst.snd.fst = x.snd.fst) then
 Option.bind (F17 (b_3.fst.snd.snd.fst, x.snd.snd)) fun b => some b
 else some (false, ())
 else some (false, ())
 else some (false, ())
 else some (false, ())
 else some (false, ())
def S4 : Sig := ⟨P4, R4, F4⟩
noncomputable def E4 : Env := { tab := tab, nt := 93, Γ := lookG [(10, [S10]), (11, [S11]), (15, [S15]), (17, [S17]), (18, [S18]), (19, [S19]), (20, [S20])], joins := lookN [], loops := lookN [] }
theorem raw4_eq (x : Int × Int × T28D × Unit) : afun E4 Tryz.f4 P4 R4 x = F4 x := by kernel_rfl
-- decamp/decamplaw17.CmdDecodes
def F5 (x : List UInt8 × Unit) : Option (Bool × Unit) :=
 Option.bind (F10 ()) fun b =>
 bif !b.fst then Option.bind (F10 ()) fun b => some b
 else
 bif decide (20000 < Int.ofNat (List.length x.fst)) then
 Option.bind (F10 ()) fun b => some b
 else
 Option.bind (F20 x)
 fun b =>
 bif !decide (b.snd.fst = 0) then
 bif decide (b.snd.fst = 2) then
 Option.bind
 (F16
 (b.fst.snd.snd.fst, (0, [], [], [], 0, 0, 0, [], [], [], 0, 0, 0, false, [], [], [], ()),
 ()))
 fun b_1 =>
 bif b_1.fst then
 bif decide (b.fst.fst = 0) then some (decide (b.fst.snd.fst = 0), ())
 else some (false, ())
 else some (false, ())
 else some (false, ())
 else
 Option.bind (F15 (b.fst, ())) fun b_1 =>
 bif b_1.fst then
 Option.bind (F19 (b.fst, ())) fun b =>
 bif decide (b.fst = x.fst) then some (decide (Int.ofNat (List.length x.fst) ≤ 12000), ())
 else some (false, ())
 else some (false, ())
def S5 : Sig := ⟨P5, R5, F5⟩
noncomputable def E5 : Env := { tab := tab, nt := 61, Γ := lookG [(10, [S10]), (15, [S15]), (16, [S16]), (19, [S19]), (20, [S20])], joins := lookN [], loops := lookN [] }
theorem raw5_eq (x : List UInt8 × Unit) : afun E5 Tryz.f5 P5 R5 x = F5 x := by kernel_rfl
-- decamp/decamplaw17.CmdMeets
def F6 (x : List T48D × UInt8 × UInt8 × Unit) : Option (Bool × Unit) :=
 Option.bind (F10 ()) fun b =>
 bif !b.fst then Option.bind (F10 ()) fun b => some b
 else
 bif decide (Int.ofNat (List.length x.fst) = 0) then Option.bind (F10 ()) fun b => some b
 else
 bif decide (3 < Int.ofNat (List.length x.fst)) then
 Option.bind (F10 ()) fun b => some b
 else
 Option.bind
 (F11 ((0, [], [], [], 0, 0, 0, [], x.fst, [], 0, 0, 0, false, [], [], [], ()), ()))
 fun b =>
 bif !b.fst then Option.bind (F10 ()) fun b => some b
 else
 Option.bind
 (F13 ((3, [], [], [], 0, 0, 0, [], x.fst, [], 0, 0, 0, false, [], [], [], ()), ()))
 fun b =>
 bif !b.fst then Option.bind (F10 ()) fun b => some b
 else
 Option.bind (remO (wrap64 (intOf8 x.snd.fst)) (Int.ofNat (List.length x.fst)))
 fun b =>
 Option.bind (idx x.fst b) fun b =>
 Option.bind
 (remO (wrap64 (intOf8 x.snd.snd.fst))
 (wrap64 (Int.ofNat (List.length x.fst) + 1)))
 fun b_1 =>
 Option.bind (sliceO x.fst 0 b_1)
 fun b_2 =>
 Option.bind (appO [] b_2)
 fun b_3 =>
 Option.bind (appO b_3 [b])
 fun b_4 =>
 Option.bind (sliceO x.fst b_1 ↑(List.length x.fst))
 fun b_5 =>
 Option.bind (appO b_4 b_5)
 fun b_6 =>
 Option.bind
 (F12
 ((3, [], [], [], 0, 0, 0, [], x.fst, x.fst, 0, 0, 0, false, [], [], [],
 ()),
 ()))
 fun b_7 =>
 bif b_7.fst then
 Option.bind
 (F12
 ((3, [], [], [], 0, 0, 0, [], b_6, [], 0, 0, 0, false, [], [], [],
 ()),
 ()))
 fun b_8 =>
 bif b_8.fst == decide (b.fst = 3) then
 Option.bind
 (F12
 ((3, [], [], [], 0, 0, 0, [], [], b_6, 0, 0, 0, false, [], [], [],
 ()),
 ()))
 fun b_9 => some (b_9.fst == decide (b.fst = 3), ())
 else some (false, ())
 else some (false, ())
def S6 : Sig := ⟨P6, R6, F6⟩
noncomputable def E6 : Env := { tab := tab, nt := 83, Γ := lookG [(10, [S10]), (11, [S11]), (12, [S12]), (13, [S13])], joins := lookN [], loops := lookN [] }
theorem raw6_eq (x : List T48D × UInt8 × UInt8 × Unit) : afun E6 Tryz.f6 P6 R6 x = F6 x := by kernel_rfl
-- decamp/decamplaw17.few
def F21 (x : T51D × T55D × Unit) : Option (Bool × Unit) :=
 Option.bind (appM [(0, 0, x.fst, ())] x.snd.fst.snd.snd.fst)
 fun b =>
 Option.bind (F11 ((0, [], [], [], 0, 0, 0, [], [], [], 0, 0, 0, false, [], b, x.snd.fst.snd.snd.snd), ()))
 fun b => some b
def S21 : Sig := ⟨P21, R21, F21⟩
noncomputable def E21 : Env := { tab := tab, nt := 15, Γ := lookG [(11, [S11])], joins := lookN [], loops := lookN [] }
theorem raw21_eq (x : T51D × T55D × Unit) : afun E21 Tryz.f21 P21 R21 x = F21 x := by kernel_rfl
-- decamp/cmd.RightMove$1
def F100a (x : List UInt8 × Unit) : Option (Bool × Unit) :=
 bif decide (x.fst = []) then some (true, ()) else Option.bind (F22 x) fun b => some b
def S100a : Sig := ⟨P100a, R100a, F100a⟩
noncomputable def E100a : Env := { tab := tab, nt := 12, Γ := lookG [(22, [S22])], joins := lookN [], loops := lookN [] }
theorem raw100a_eq (x : List UInt8 × Unit) : afun E100a Tryz.f100 P100a R100a x = F100a x := by kernel_rfl
-- decamp/cmd.RightMove$1
def F100b (x : List UInt8 × Unit) : Option (Bool × Unit) :=
 bif decide (x.fst = []) then some (true, ()) else Option.bind (F95 x) fun b => some b
def S100b : Sig := ⟨P100b, R100b, F100b⟩
noncomputable def E100b : Env := { tab := tab, nt := 12, Γ := lookG [(95, [S95])], joins := lookN [], loops := lookN [] }
theorem raw100b_eq (x : List UInt8 × Unit) : afun E100b Tryz.f100 P100b R100b x = F100b x := by kernel_rfl
-- decamp/cmd.RightMove
def F28 (x : T53D × Unit) : Option (Bool × Unit) :=
 bif decide (0 ≤ x.fst.fst) then
 bif decide (x.fst.fst ≤ 4) then
 Option.bind
 (F96
 ([x.fst.snd.fst, x.fst.snd.snd.fst, x.fst.snd.snd.snd.snd.snd.fst, x.fst.snd.snd.snd.snd.snd.snd.snd.fst,
 x.fst.snd.snd.snd.snd.snd.snd.snd.snd.fst, x.fst.snd.snd.snd.snd.snd.snd.snd.snd.snd.fst],
 ()))
 fun b =>
 bif b.fst then
 Option.bind (F100a (x.fst.snd.snd.snd.fst, ())) fun b =>
 bif b.fst then
 Option.bind (F100a (x.fst.snd.snd.snd.snd.fst, ())) fun b =>
 bif b.fst then
 Option.bind (F100b (x.fst.snd.snd.snd.snd.snd.snd.fst, ())) fun b => some b
 else some (false, ())
 else some (false, ())
 else some (false, ())
 else some (false, ())
 else some (false, ())
def S28 : Sig := ⟨P28, R28, F28⟩
noncomputable def E28 : Env := { tab := tab, nt := 46, Γ := lookG [(22, [S22]), (95, [S95]), (96, [S96]), (100, [S100a, S100b])], joins := lookN [], loops := lookN [] }
theorem raw28_eq (x : T53D × Unit) : afun E28 Tryz.f28 P28 R28 x = F28 x := by kernel_rfl
-- decamp/decampref17.Move
def F29 (x : T53D × Unit) : Option (Bool × Unit) :=
 Option.bind (F67 (x.fst.fst, 0, 4, ())) fun b =>
 bif b.fst then
 Option.bind (F63 (x.fst.snd.fst, ())) fun b =>
 bif b.fst then
 Option.bind (F63 (x.fst.snd.snd.fst, ())) fun b =>
 bif b.fst then
 Option.bind (F63 (x.fst.snd.snd.snd.snd.snd.fst, ())) fun b =>
 bif b.fst then
 Option.bind (F63 (x.fst.snd.snd.snd.snd.snd.snd.snd.fst, ())) fun b =>
 bif b.fst then
 Option.bind (F63 (x.fst.snd.snd.snd.snd.snd.snd.snd.snd.fst, ()))
 fun b =>
 bif b.fst then
 Option.bind (F63 x.fst.snd.snd.snd.snd.snd.snd.snd.snd.snd) fun b =>
 bif b.fst then
 bif decide (x.fst.snd.snd.snd.fst = []) then
 bif decide (x.fst.snd.snd.snd.snd.fst = []) then
 bif decide (x.fst.snd.snd.snd.snd.snd.snd.fst = []) then some (true, ())
 else
 Option.bind (F53 (x.fst.snd.snd.snd.snd.snd.snd.fst, ()))
 fun b => some b
 else
 Option.bind (F23 (x.fst.snd.snd.snd.snd.fst, ())) fun b =>
 bif b.fst then
 bif decide (x.fst.snd.snd.snd.snd.snd.snd.fst = []) then some (true, ())
 else
 Option.bind (F53 (x.fst.snd.snd.snd.snd.snd.snd.fst, ()))
 fun b => some b
 else some (false, ())
 else
 Option.bind (F23 (x.fst.snd.snd.snd.fst, ())) fun b =>
 bif b.fst then
 bif decide (x.fst.snd.snd.snd.snd.fst = []) then
 bif decide (x.fst.snd.snd.snd.snd.snd.snd.fst = []) then some (true, ())
 else
 Option.bind (F53 (x.fst.snd.snd.snd.snd.snd.snd.fst, ()))
 fun b => some b
 else
 Option.bind (F23 (x.fst.snd.snd.snd.snd.fst, ()))
 fun b =>
 bif b.fst then
 bif decide (x.fst.snd.snd.snd.snd.snd.snd.fst = []) then
 some (true, ())
 else
 Option.bind (F53 (x.fst.snd.snd.snd.snd.snd.snd.fst, ()))
 fun b => some b
 else some (false, ())
 else some (false, ())
 else some (false, ())
 else some (false, ())
 else some (false, ())
 else some (false, ())
 else some (false, ())
 else some (false, ())
 else some (false, ())
def S29 : Sig := ⟨P29, R29, F29⟩
noncomputable def E29 : Env := { tab := tab, nt := 66, Γ := lookG [(23, [S23]), (53, [S53]), (63, [S63]), (67, [S67])], joins := lookN [], loops := lookN [] }
theorem raw29_eq (x : T53D × Unit) : afun E29 Tryz.f29 P29 R29 x = F29 x := by kernel_rfl
-- decamp/cmd.RightHand
def F30 (x : T55D × Unit) : Option (Bool × Unit) :=
 Option.bind (F57 ([x.fst.fst], ())) fun b =>
 bif b.fst then
 Option.bind (F96 ([x.fst.snd.fst], ())) fun b =>
 bif b.fst then Option.bind (F60 x.fst.snd.snd) fun b => some b else some (false, ())
 else some (false, ())
def S30 : Sig := ⟨P30, R30, F30⟩
noncomputable def E30 : Env := { tab := tab, nt := 20, Γ := lookG [(57, [S57]), (60, [S60]), (96, [S96])], joins := lookN [], loops := lookN [] }
theorem raw30_eq (x : T55D × Unit) : afun E30 Tryz.f30 P30 R30 x = F30 x := by kernel_rfl
-- decamp/decampref17.Hand
def F31 (x : T55D × Unit) : Option (Bool × Unit) :=
 Option.bind (F62 (x.fst.fst, ())) fun b =>
 bif b.fst then
 Option.bind (F63 (x.fst.snd.fst, ())) fun b =>
 bif b.fst then
 Option.bind (F70 (x.fst.snd.snd.fst, 15, ())) fun b =>
 bif b.fst then Option.bind (F71 x.fst.snd.snd.snd) fun b => some b
 else some (false, ())
 else some (false, ())
 else some (false, ())
def S31 : Sig := ⟨P31, R31, F31⟩
noncomputable def E31 : Env := { tab := tab, nt := 21, Γ := lookG [(62, [S62]), (63, [S63]), (70, [S70]), (71, [S71])], joins := lookN [], loops := lookN [] }
theorem raw31_eq (x : T55D × Unit) : afun E31 Tryz.f31 P31 R31 x = F31 x := by kernel_rfl
-- decamp/decamplaw17.CmdOthers
def F7 (x : List UInt8 × T51D × T51D × T53D × T55D × Unit) : Option (Bool × Unit) :=
 Option.bind (F10 ()) fun b =>
 bif !b.fst then Option.bind (F10 ()) fun b => some b
 else
 Option.bind (F21 (x.snd.fst, x.snd.snd.snd.snd)) fun b =>
 bif !b.fst then Option.bind (F10 ()) fun b => some b
 else
 Option.bind (F21 (x.snd.snd.fst, x.snd.snd.snd.snd)) fun b =>
 bif !b.fst then Option.bind (F10 ()) fun b => some b
 else
 bif
 decide
 (500 <
 wrap64
 (wrap64
 (wrap64
 (Int.ofNat (List.length x.fst) +
 Int.ofNat (List.length x.snd.snd.snd.fst.snd.snd.snd.fst)) +
 Int.ofNat (List.length x.snd.snd.snd.fst.snd.snd.snd.snd.fst)) +
 Int.ofNat (List.length x.snd.snd.snd.fst.snd.snd.snd.snd.snd.snd.fst))) then
 Option.bind (F10 ()) fun b => some b
 else
 Option.bind (F22 (x.fst, ())) fun b =>
 Option.bind (F23 (x.fst, ())) fun b_1 =>
 bif b.fst == b_1.fst then
 Option.bind (F24 (x.snd.fst, ())) fun b =>
 Option.bind (F25 (x.snd.fst, ())) fun b_2 =>
 bif b.fst == b_2.fst then
 Option.bind (F26 (x.snd.fst, x.snd.snd.fst, ())) fun b =>
 Option.bind (F27 (x.snd.fst, x.snd.snd.fst, ())) fun b_3 =>
 bif b.fst == b_3.fst then
 Option.bind (F26 (x.snd.fst, x.snd.fst, ())) fun b =>
 bif b.fst then
 Option.bind (F28 (x.snd.snd.snd.fst, ())) fun b =>
 Option.bind (F29 (x.snd.snd.snd.fst, ())) fun b_4 =>
 bif b.fst == b_4.fst then
 Option.bind (F30 x.snd.snd.snd.snd) fun b =>
 Option.bind (F31 x.snd.snd.snd.snd) fun b_5 =>
 some (b.fst == b_5.fst, ())
 else some (false, ())
 else some (false, ())
 else some (false, ())
 else some (false, ())
 else some (false, ())
def S7 : Sig := ⟨P7, R7, F7⟩
noncomputable def E7 : Env := { tab := tab, nt := 83, Γ := lookG [(10, [S10]), (21, [S21]), (22, [S22]), (23, [S23]), (24, [S24]), (25, [S25]), (26, [S26]), (27, [S27]), (28, [S28]), (29, [S29]), (30, [S30]), (31, [S31])], joins := lookN [], loops := lookN [] }
theorem raw7_eq (x : List UInt8 × T51D × T51D × T53D × T55D × Unit) : afun E7 Tryz.f7 P7 R7 x = F7 x := by kernel_rfl
-- decamp/cmd.GetMove
def F39 (x : T131D × Unit) : Option (T53D × T131D × Unit) :=
 Option.bind (F107 x) fun b =>
 Option.bind (F93 b.snd) fun b_1 =>
 Option.bind (F93 b_1.snd) fun b_2 =>
 Option.bind (F102 (b_2.snd.fst, 60000, ()))
 fun b_3 =>
 Option.bind (F102 (b_3.snd.fst, 60000, ()))
 fun b_4 =>
 Option.bind (F93 b_4.snd) fun b_5 =>
 Option.bind (F102 (b_5.snd.fst, 60000, ()))
 fun b_6 =>
 Option.bind (F93 b_6.snd) fun b_7 =>
 Option.bind (F93 b_7.snd) fun b_8 =>
 Option.bind (F93 b_8.snd) fun b_9 =>
 Option.bind (F44 b_9.snd) fun b_10 =>
 bif b_10.fst then
 Option.bind (F105 b_10.snd) fun b =>
 some ((0, 0, 0, [], [], 0, [], 0, 0, 0, ()), b)
 else
 Option.bind
 (F28
 ((wrap64 (intOf8 b.fst), b_1.fst, b_2.fst, b_3.fst, b_4.fst, b_5.fst,
 b_6.fst, b_7.fst, b_8.fst, b_9.fst, ()),
 ()))
 fun b_11 =>
 bif !b_11.fst then
 Option.bind (F105 b_10.snd) fun b =>
 some ((0, 0, 0, [], [], 0, [], 0, 0, 0, ()), b)
 else
 some
 ((wrap64 (intOf8 b.fst), b_1.fst, b_2.fst, b_3.fst, b_4.fst, b_5.fst,
 b_6.fst, b_7.fst, b_8.fst, b_9.fst, ()),
 b_10.snd)
def S39 : Sig := ⟨P39, R39, F39⟩
noncomputable def E39 : Env := { tab := tab, nt := 37, Γ := lookG [(28, [S28]), (44, [S44]), (93, [S93]), (102, [S102]), (105, [S105]), (107, [S107])], joins := lookN [], loops := lookN [] }
theorem raw39_eq (x : T131D × Unit) : afun E39 Tryz.f39 P39 R39 x = F39 x := by kernel_rfl
-- decamp/decampref17.MoveBytes
def F40 (x : T53D × Unit) : Option (List UInt8 × Unit) :=
 Option.bind
 (Option.bind (F29 x) fun b =>
 bif !b.fst then some (Sum.inl (0, 0, 0, [], [], 0, [], 0, 0, 0, ())) else some (Sum.inl x.fst))
 fun o =>
 Sum.elim
 (fun (x : T53D) =>
 Option.bind (F86 ([x.snd.fst, x.snd.snd.fst], ())) fun b =>
 Option.bind (F87 (x.snd.snd.snd.fst, ())) fun b_1 =>
 Option.bind (F87 (x.snd.snd.snd.snd.fst, ())) fun b_2 =>
 Option.bind (F86 ([x.snd.snd.snd.snd.snd.fst], ())) fun b_3 =>
 Option.bind (F87 (x.snd.snd.snd.snd.snd.snd.fst, ())) fun b_4 =>
 Option.bind
 (F86
 ([x.snd.snd.snd.snd.snd.snd.snd.fst, x.snd.snd.snd.snd.snd.snd.snd.snd.fst,
 x.snd.snd.snd.snd.snd.snd.snd.snd.snd.fst],
 ()))
 fun b_5 =>
 Option.bind
 (F85
 ([[Sx.byteOf (IntKind.wrap IntKind.u8 x.fst)], b.fst, b_1.fst, b_2.fst, b_3.fst, b_4.fst,
 b_5.fst],
 ()))
 fun b => some b)
 (fun (val : T83D) => some val) o
def S40 : Sig := ⟨P40, R40, F40⟩
noncomputable def E40 : Env := { tab := tab, nt := 40, Γ := lookG [(29, [S29]), (85, [S85]), (86, [S86]), (87, [S87])], joins := lookN [(3, ⟨[⟨.fld 1000 0, (.int .i64), .pv⟩, ⟨.fld 1000 1, (.int .i64), .pv⟩, ⟨.fld 1000 2, (.int .i64), .pv⟩, ⟨.fld 1000 3, .str, .pv⟩, ⟨.fld 1000 4, .str, .pv⟩, ⟨.fld 1000 5, (.int .i64), .pv⟩, ⟨.fld 1000 6, .str, .pv⟩, ⟨.fld 1000 7, (.int .i64), .pv⟩, ⟨.fld 1000 8, (.int .i64), .pv⟩, ⟨.fld 1000 9, (.int .i64), .pv⟩], [1], [.site 1000]⟩)], loops := lookN [] }
theorem raw40_eq (x : T53D × Unit) : afun E40 Tryz.f40 P40 R40 x = F40 x := by kernel_rfl
-- decamp/cmd.GetHand
def F41 (x : T131D × Unit) : Option (T55D × T131D × Unit) :=
 Option.bind (F93 x) fun b =>
 Option.bind (F93 b.snd) fun b_1 =>
 Option.bind (F109 b_1.snd)
 fun b_2 =>
 Option.bind (F44 b_2.snd.snd) fun b_3 =>
 bif b_3.fst then
 Option.bind (F105 b_3.snd) fun b =>
 some ((0, 0, [], [], ()), b)
 else
 Option.bind (F30 ((b.fst, b_1.fst, b_2.fst, b_2.snd.fst, ()), ()))
 fun b_4 =>
 bif !b_4.fst then
 Option.bind (F105 b_3.snd) fun b =>
 some ((0, 0, [], [], ()), b)
 else some ((b.fst, b_1.fst, b_2.fst, b_2.snd.fst, ()), b_3.snd)
def S41 : Sig := ⟨P41, R41, F41⟩
noncomputable def E41 : Env := { tab := tab, nt := 27, Γ := lookG [(30, [S30]), (44, [S44]), (93, [S93]), (105, [S105]), (109, [S109])], joins := lookN [], loops := lookN [] }
theorem raw41_eq (x : T131D × Unit) : afun E41 Tryz.f41 P41 R41 x = F41 x := by kernel_rfl
-- decamp/decampref17.HandBytes
def F42 (x : T55D × Unit) : Option (List UInt8 × Unit) :=
 Option.bind
 (Option.bind (F31 x) fun b =>
 bif !b.fst then some (Sum.inl (0, 0, [], [], ())) else some (Sum.inl x.fst))
 fun o =>
 Sum.elim
 (fun (x :
 Int × Int × List
 (Int × Int × (Int × Int × Bool × Int × List
 T70D × Int × Int × Unit) × Unit) × List T113D × Unit) =>
 Option.bind (F86 ([x.fst, x.snd.fst], ())) fun b =>
 Option.bind (F92 x.snd.snd) fun b_1 =>
 Option.bind (F85 ([b.fst, b_1.fst], ())) fun b => some b)
 (fun (val : T83D) => some val) o
def S42 : Sig := ⟨P42, R42, F42⟩
noncomputable def E42 : Env := { tab := tab, nt := 20, Γ := lookG [(31, [S31]), (85, [S85]), (86, [S86]), (92, [S92])], joins := lookN [(3, ⟨[⟨.fld 1000 0, (.int .i64), .pv⟩, ⟨.fld 1000 1, (.int .i64), .pv⟩, ⟨.fld 1000 2, (.slice T94), .pv⟩, ⟨.fld 1000 3, (.slice T113), .pv⟩], [1], [.site 1000]⟩)], loops := lookN [] }
theorem raw42_eq (x : T55D × Unit) : afun E42 Tryz.f42 P42 R42 x = F42 x := by kernel_rfl
-- decamp/decampref17.SameHand
def F43 (x : T55D × T55D × Unit) : Option (Bool × Unit) :=
 bif decide (x.fst.fst = x.snd.fst.fst) then
 bif decide (x.fst.snd.fst = x.snd.fst.snd.fst) then
 Option.bind (F81 (x.fst.snd.snd.fst, x.snd.fst.snd.snd.fst, ())) fun b =>
 bif b.fst then Option.bind (F82 (x.fst.snd.snd.snd.fst, x.snd.fst.snd.snd.snd)) fun b => some b
 else some (false, ())
 else some (false, ())
 else some (false, ())
def S43 : Sig := ⟨P43, R43, F43⟩
noncomputable def E43 : Env := { tab := tab, nt := 31, Γ := lookG [(81, [S81]), (82, [S82])], joins := lookN [], loops := lookN [] }
theorem raw43_eq (x : T55D × T55D × Unit) : afun E43 Tryz.f43 P43 R43 x = F43 x := by kernel_rfl
-- decamp/decamplaw17.CmdGets
def F8 (x : List UInt8 × List UInt8 × Unit) : Option (Bool × Unit) :=
 Option.bind (F10 ()) fun b =>
 bif !b.fst then Option.bind (F10 ()) fun b => some b
 else
 bif decide (5000 < Int.ofNat (List.length x.fst)) then
 Option.bind (F10 ()) fun b => some b
 else
 bif decide (20 < Int.ofNat (List.length x.snd.fst)) then
 Option.bind (F10 ()) fun b => some b
 else
 Option.bind (F32 (x.fst, ())) fun b =>
 iterE (Int × Int × T131D) (Bool × Unit)
 (fun (x_1 : Int × Int × T131D) =>
 bif decide (x_1.snd.fst < Int.ofNat (List.length x.snd.fst)) then
 Option.bind
 (Option.bind (idx x.snd.fst x_1.snd.fst) fun b =>
 Option.bind (remO (intOf8 b) (intOf8 (UInt8.ofNat 5))) fun b =>
 bif decide (intOf8 (Sx.byteOf b) = intOf8 (UInt8.ofNat 0)) then
 Option.bind (F33 (x_1.snd.snd, ()))
 fun b =>
 Option.bind (F34 (b.fst, ())) fun b_1 =>
 some
 (Sum.inl
 (b_1.fst,
 decide (b.fst.fst = 0) &&
 (decide (b.fst.snd.fst = 0) &&
 (decide (b.fst.snd.snd.fst = 0) &&
 (decide (b.fst.snd.snd.snd.fst = 0) &&
 (decide (b.fst.snd.snd.snd.snd.fst = []) &&
 (decide (b.fst.snd.snd.snd.snd.snd.fst = 0) &&
 (b.fst.snd.snd.snd.snd.snd.snd.fst == false && true)))))),
 b.snd.fst))
 else
 bif decide (intOf8 (Sx.byteOf b) = intOf8 (UInt8.ofNat 1)) then
 Option.bind (F35 (x_1.snd.snd, ()))
 fun b =>
 Option.bind (F36 (b.fst, ())) fun b_1 =>
 some
 (Sum.inl
 (b_1.fst,
 decide (b.fst.fst = []) &&
 (decide (b.fst.snd.fst.fst = 0) &&
 (decide (b.fst.snd.fst.snd.fst = 0) &&
 (decide (b.fst.snd.fst.snd.snd.fst = 0) &&
 (decide (b.fst.snd.fst.snd.snd.snd.fst = 0) &&
 (decide (b.fst.snd.fst.snd.snd.snd.snd.fst = []) &&
 (decide (b.fst.snd.fst.snd.snd.snd.snd.snd.fst = 0) &&
 (b.fst.snd.fst.snd.snd.snd.snd.snd.snd.fst == false &&
 true)))))) &&
 true),
 b.snd.fst))
 else
 bif decide (intOf8 (Sx.byteOf b) = intOf8 (UInt8.ofNat 2)) then
 Option.bind (F37 (x_1.snd.snd, ()))
 fun b =>
 Option.bind (F38 (b.fst, ())) fun b_1 =>
 Option.bind (F27 (b.fst, (0, 0, false, 0, [], 0, 0, ()), ()))
 fun b_2 => some (Sum.inl (b_1.fst, b_2.fst, b.snd.fst))
 else
 bif decide (intOf8 (Sx.byteOf b) = intOf8 (UInt8.ofNat 3)) then
 Option.bind (F39 (x_1.snd.snd, ()))
 fun b =>
 Option.bind (F40 (b.fst, ())) fun b_1 =>
 some
 (Sum.inl
 (b_1.fst,
 decide (b.fst.fst = 0) &&
 (decide (b.fst.snd.fst = 0) &&
 (decide (b.fst.snd.snd.fst = 0) &&
 (decide (b.fst.snd.snd.snd.fst = []) &&
 (decide (b.fst.snd.snd.snd.snd.fst = []) &&
 (decide (b.fst.snd.snd.snd.snd.snd.fst = 0) &&
 (decide (b.fst.snd.snd.snd.snd.snd.snd.fst = []) &&
 (decide (b.fst.snd.snd.snd.snd.snd.snd.snd.fst = 0) &&
 (decide (b.fst.snd.snd.snd.snd.snd.snd.snd.snd.fst = 0) &&
 (decide
 (b.fst.snd.snd.snd.snd.snd.snd.snd.snd.snd.fst = 0) &&
 true))))))))),
 b.snd.fst))
 else
 Option.bind (F41 (x_1.snd.snd, ()))
 fun b =>
 Option.bind (F42 (b.fst, ())) fun b_1 =>
 Option.bind (F43 (b.fst, (0, 0, [], [], ()), ()))
 fun b_2 => some (Sum.inl (b_1.fst, b_2.fst, b.snd.fst)))
 fun o =>
 Sum.elim
 (fun (x_2 : List UInt8 × Bool × T131D) =>
 Option.bind (F44 (x_2.snd.snd, ()))
 fun b =>
 bif b.fst then
 bif x_2.snd.fst then
 Option.bind (F45 b.snd) fun b =>
 some (Sum.inr (decide (b.fst = 0), ()))
 else some (Sum.inr (false, ()))
 else
 bif
 decide
 (Int.ofNat (List.length x.fst) <
 wrap64 (x_1.fst + Int.ofNat (List.length x_2.fst))) then
 some (Sum.inr (false, ()))
 else
 Option.bind
 (sliceO x.fst x_1.fst
 (wrap64 (x_1.fst + Int.ofNat (List.length x_2.fst))))
 fun b_1 =>
 bif !decide (b_1 = x_2.fst) then some (Sum.inr (false, ()))
 else
 Option.bind (F45 b.snd) fun b =>
 bif
 !decide
 (b.fst =
 wrap64
 (Int.ofNat (List.length x.fst) -
 wrap64
 (x_1.fst + Int.ofNat (List.length x_2.fst)))) then
 some (Sum.inr (false, ()))
 else
 some
 (Sum.inl
 (wrap64 (x_1.fst + Int.ofNat (List.length x_2.fst)),
 wrap64 (x_1.snd.fst + 1), b.snd.fst)))
 (fun (val : Int × Int × T131D ⊕ Bool × Unit) => some val) o
 else some (Sum.inr (true, ())))
 big (0, 0, b.fst)
def S8 : Sig := ⟨P8, R8, F8⟩
noncomputable def E8 : Env := { tab := tab, nt := 123, Γ := lookG [(10, [S10]), (27, [S27]), (32, [S32]), (33, [S33]), (34, [S34]), (35, [S35]), (36, [S36]), (37, [S37]), (38, [S38]), (39, [S39]), (40, [S40]), (41, [S41]), (42, [S42]), (43, [S43]), (44, [S44]), (45, [S45])], joins := lookN [(25, ⟨[⟨.slot 8, (.slice .u8), .own false⟩, ⟨.slot 9, .bool, .pv⟩, ⟨.fld 3002001 0, (.slice .u8), .pv⟩, ⟨.fld 3002001 1, .bool, .pv⟩], [0, 1, 5, 6, 31, 32], [.site 3002001]⟩)], loops := lookN [(6, mkLoop ⟨[⟨.slot 6, (.int .i64), .pv⟩, ⟨.slot 32, (.int .i64), .pv⟩, ⟨.fld 3002001 0, (.slice .u8), .pv⟩, ⟨.fld 3002001 1, .bool, .pv⟩], [0, 1, 5, 31], [.site 3002001]⟩)] }
theorem raw8_eq (x : List UInt8 × List UInt8 × Unit) : afun E8 Tryz.f8 P8 R8 x = F8 x := by kernel_rfl
-- decamp/cmd.PutMove
def F49 (x : T83D × T53D × Unit) : Option (T83D × Unit) :=
 Option.bind
 (Option.bind (F28 x.snd) fun b =>
 bif !b.fst then some (Sum.inl (0, 0, 0, [], [], 0, [], 0, 0, 0, ())) else some (Sum.inl x.snd.fst))
 fun o =>
 Sum.elim
 (fun (x_1 : T53D) =>
 Option.bind (F112 (x.fst, Sx.byteOf (IntKind.wrap IntKind.u8 x_1.fst), ()))
 fun b =>
 Option.bind (F83 (b.fst, x_1.snd.fst, ())) fun b =>
 Option.bind (F83 (b.fst, x_1.snd.snd.fst, ())) fun b =>
 Option.bind (F110 (b.fst, x_1.snd.snd.snd.fst, ())) fun b =>
 Option.bind (F110 (b.fst, x_1.snd.snd.snd.snd.fst, ()))
 fun b =>
 Option.bind (F83 (b.fst, x_1.snd.snd.snd.snd.snd.fst, ()))
 fun b =>
 Option.bind (F110 (b.fst, x_1.snd.snd.snd.snd.snd.snd.fst, ()))
 fun b =>
 Option.bind (F83 (b.fst, x_1.snd.snd.snd.snd.snd.snd.snd.fst, ()))
 fun b =>
 Option.bind (F83 (b.fst, x_1.snd.snd.snd.snd.snd.snd.snd.snd.fst, ()))
 fun b =>
 Option.bind (F83 (b.fst, x_1.snd.snd.snd.snd.snd.snd.snd.snd.snd))
 fun b => some b)
 (fun (val : T83D × Unit) => some val) o
def S49 : Sig := ⟨P49, R49, F49⟩
noncomputable def E49 : Env := { tab := tab, nt := 49, Γ := lookG [(28, [S28]), (83, [S83]), (110, [S110]), (112, [S112])], joins := lookN [(3, ⟨[⟨.fld 1000 0, (.int .i64), .pv⟩, ⟨.fld 1000 1, (.int .i64), .pv⟩, ⟨.fld 1000 2, (.int .i64), .pv⟩, ⟨.fld 1000 3, .str, .pv⟩, ⟨.fld 1000 4, .str, .pv⟩, ⟨.fld 1000 5, (.int .i64), .pv⟩, ⟨.fld 1000 6, .str, .pv⟩, ⟨.fld 1000 7, (.int .i64), .pv⟩, ⟨.fld 1000 8, (.int .i64), .pv⟩, ⟨.fld 1000 9, (.int .i64), .pv⟩], [0, 3], [.site 0, .fld 0 0, .row 0, .site 1000]⟩)], loops := lookN [] }
theorem raw49_eq (x : T83D × T53D × Unit) : afun E49 Tryz.f49 P49 R49 x = F49 x := by kernel_rfl
-- decamp/cmd.PutHand
def F50 (x : T83D × T55D × Unit) : Option (T83D × Unit) :=
 Option.bind
 (Option.bind (F30 x.snd) fun b =>
 bif !b.fst then some (Sum.inl (0, 0, [], [], ())) else some (Sum.inl x.snd.fst))
 fun o =>
 Sum.elim
 (fun (x_1 :
 Int × Int × List
 (Int × Int × (Int × Int × Bool × Int × List
 T70D × Int × Int × Unit) × Unit) × List T113D × Unit) =>
 Option.bind (F83 (x.fst, x_1.fst, ())) fun b =>
 Option.bind (F83 (b.fst, x_1.snd.fst, ())) fun b =>
 Option.bind (F114 (b.fst, x_1.snd.snd)) fun b => some b)
 (fun (val : T83D × Unit) => some val) o
def S50 : Sig := ⟨P50, R50, F50⟩
noncomputable def E50 : Env := { tab := tab, nt := 22, Γ := lookG [(30, [S30]), (83, [S83]), (114, [S114])], joins := lookN [(3, ⟨[⟨.fld 1000 0, (.int .i64), .pv⟩, ⟨.fld 1000 1, (.int .i64), .pv⟩, ⟨.fld 1000 2, (.slice T94), .pv⟩, ⟨.fld 1000 3, (.slice T113), .pv⟩], [0, 3], [.site 0, .fld 0 0, .row 0, .site 1000]⟩)], loops := lookN [] }
theorem raw50_eq (x : T83D × T55D × Unit) : afun E50 Tryz.f50 P50 R50 x = F50 x := by kernel_rfl
-- decamp/decamplaw17.CmdPuts
def F9 (x : T70D × T51D × T53D × T55D × Unit) : Option (Bool × Unit) :=
 Option.bind (F10 ()) fun b =>
 bif !b.fst then Option.bind (F10 ()) fun b => some b
 else
 Option.bind (F21 (x.snd.fst, x.snd.snd.snd)) fun b =>
 bif !b.fst then Option.bind (F10 ()) fun b => some b
 else
 bif
 decide
 (500 <
 wrap64
 (wrap64
 (wrap64
 (wrap64
 (Int.ofNat (List.length x.snd.snd.fst.snd.snd.snd.fst) +
 Int.ofNat (List.length x.snd.snd.fst.snd.snd.snd.snd.fst)) +
 Int.ofNat (List.length x.snd.snd.fst.snd.snd.snd.snd.snd.snd.fst)) +
 Int.ofNat (List.length x.fst.fst)) +
 Int.ofNat (List.length x.fst.snd.fst.snd.snd.snd.snd.fst))) then
 Option.bind (F10 ()) fun b => some b
 else
 Option.bind (F46 (([], ()), x.fst.snd)) fun b =>
 Option.bind (F47 (b.fst, x.fst, ())) fun b =>
 Option.bind (F48 (b.fst, x.snd.fst, ())) fun b =>
 Option.bind (F49 (b.fst, x.snd.snd.fst, ())) fun b =>
 Option.bind (F50 (b.fst, x.snd.snd.snd)) fun b =>
 Option.bind (F51 b) fun b =>
 Option.bind (F34 x.fst.snd) fun b_1 =>
 Option.bind (F36 (x.fst, ())) fun b_2 =>
 Option.bind (appU b_1.fst b_2.fst) fun b_3 =>
 Option.bind (F38 (x.snd.fst, ())) fun b_4 =>
 Option.bind (appU b_3 b_4.fst) fun b_5 =>
 Option.bind (F40 (x.snd.snd.fst, ())) fun b_6 =>
 Option.bind (appU b_5 b_6.fst) fun b_7 =>
 Option.bind (F42 x.snd.snd.snd) fun b_8 =>
 Option.bind (appU b_7 b_8.fst) fun b_9 =>
 bif decide (60000 < Int.ofNat (List.length b_9)) then
 some (decide (b.snd.fst = 3), ())
 else
 bif !decide (b.snd.fst = 0) then some (false, ())
 else
 bif !decide (b.fst = b_9) then some (false, ())
 else
 Option.bind
 (bif
 decide (x.fst.snd.fst.fst = 0) &&
 (decide (x.fst.snd.fst.snd.fst = 0) &&
 (decide (x.fst.snd.fst.snd.snd.fst = 0) &&
 (decide (x.fst.snd.fst.snd.snd.snd.fst = 0) &&
 (decide (x.fst.snd.fst.snd.snd.snd.snd.fst = []) &&
 (decide (x.fst.snd.fst.snd.snd.snd.snd.snd.fst = 0) &&
 (x.fst.snd.fst.snd.snd.snd.snd.snd.snd.fst == false &&
 true)))))) then
 some (Sum.inl (true, ()))
 else
 Option.bind (F52 x.fst.snd) fun b =>
 some (Sum.inl b))
 fun o =>
 Sum.elim
 (fun (x_1 : Bool × Unit) =>
 Option.bind
 (bif !x_1.fst then some (Sum.inr (true, ()))
 else
 bif !decide (x.fst.fst = []) then
 Option.bind (F53 (x.fst.fst, ()))
 fun b =>
 bif !b.fst then some (Sum.inr (true, ()))
 else
 Option.bind (F25 (x.snd.fst, ()))
 fun b =>
 bif !b.fst then some (Sum.inr (true, ()))
 else
 Option.bind (F29 (x.snd.snd.fst, ()))
 fun b =>
 bif !b.fst then some (Sum.inr (true, ()))
 else
 Option.bind (F31 x.snd.snd.snd)
 fun b =>
 bif !b.fst then
 some (Sum.inr (true, ()))
 else some (Sum.inl ())
 else
 Option.bind (F25 (x.snd.fst, ()))
 fun b =>
 bif !b.fst then some (Sum.inr (true, ()))
 else
 Option.bind (F29 (x.snd.snd.fst, ()))
 fun b =>
 bif !b.fst then some (Sum.inr (true, ()))
 else
 Option.bind (F31 x.snd.snd.snd)
 fun b =>
 bif !b.fst then some (Sum.inr (true, ()))
 else some (Sum.inl ()))
 fun o =>
 Sum.elim
 (fun (_z : Unit) =>
 Option.bind (F32 (b.fst, ()))
 fun b =>
 Option.bind (F33 b)
 fun b =>
 bif
 decide (b.fst.fst = x.fst.snd.fst.fst) &&
 (decide (b.fst.snd.fst = x.fst.snd.fst.snd.fst) &&
 (decide
 (b.fst.snd.snd.fst =
 x.fst.snd.fst.snd.snd.fst) &&
 (decide
 (b.fst.snd.snd.snd.fst =
 x.fst.snd.fst.snd.snd.snd.fst) &&
 (decide
 (b.fst.snd.snd.snd.snd.fst =
 x.fst.snd.fst.snd.snd.snd.snd.fst) &&
 (decide
 (b.fst.snd.snd.snd.snd.snd.fst =
 x.fst.snd.fst.snd.snd.snd.snd.snd.fst) &&
 (b.fst.snd.snd.snd.snd.snd.snd.fst ==
 x.fst.snd.fst.snd.snd.snd.snd.snd.snd.fst &&
 true)))))) then
 Option.bind (F35 b.snd)
 fun b =>
 bif
 decide (b.fst.fst = x.fst.fst) &&
 (decide
 (b.fst.snd.fst.fst =
 x.fst.snd.fst.fst) &&
 (decide
 (b.fst.snd.fst.snd.fst =
 x.fst.snd.fst.snd.fst) &&
 (decide
 (b.fst.snd.fst.snd.snd.fst =
 x.fst.snd.fst.snd.snd.fst) &&
 (decide
 (b.fst.snd.fst.snd.snd.snd.fst =
 x.fst.snd.fst.snd.snd.snd.fst) &&
 (decide
 (b.fst.snd.fst.snd.snd.snd.snd.fst =
 x.fst.snd.fst.snd.snd.snd.snd.fst) &&
 (decide
 (b.fst.snd.fst.snd.snd.snd.snd.snd.fst =
 x.fst.snd.fst.snd.snd.snd.snd.snd.fst) &&
 (b.fst.snd.fst.snd.snd.snd.snd.snd.snd.fst ==
 x.fst.snd.fst.snd.snd.snd.snd.snd.snd.fst &&
 true)))))) &&
 true) then
 Option.bind (F37 b.snd)
 fun b =>
 Option.bind (F27 (b.fst, x.snd.fst, ()))
 fun b_10 =>
 bif b_10.fst then
 Option.bind (F39 b.snd)
 fun b =>
 bif
 decide
 (b.fst.fst = x.snd.snd.fst.fst) &&
 (decide
 (b.fst.snd.fst =
 x.snd.snd.fst.snd.fst) &&
 (decide
 (b.fst.snd.snd.fst =
 x.snd.snd.fst.snd.snd.fst) &&
 (decide
 (b.fst.snd.snd.snd.fst =
 x.snd.snd.fst.snd.snd.snd.fst) &&
 (decide
 (b.fst.snd.snd.snd.snd.fst =
 x.snd.snd.fst.snd.snd.snd.snd.fst) &&
 (decide
 (b.fst.snd.snd.snd.snd.snd.fst =
 x.snd.snd.fst.snd.snd.snd.snd.snd.fst) &&
 (decide
 (b.fst.snd.snd.snd.snd.snd.snd.fst =
 x.snd.snd.fst.snd.snd.snd.snd.snd.snd.fst) &&
 (decide
 (b.fst.snd.snd.snd.snd.snd.snd.snd.fst =
 x.snd.snd.fst.snd.snd.snd.snd.snd.snd.snd.fst) &&
 (decide
 (b.fst.snd.snd.snd.snd.snd.snd.snd.snd.fst =
 x.snd.snd.fst.snd.snd.snd.snd.snd.snd.snd.snd.fst) &&
 (decide
 (b.fst.snd.snd.snd.snd.snd.snd.snd.snd.snd.fst =
 x.snd.snd.fst.snd.snd.snd.snd.snd.snd.snd.snd.snd.fst) &&
 true))))))))) then
 Option.bind (F41 b.snd)
 fun b =>
 Option.bind
 (F43 (b.fst, x.snd.snd.snd))
 fun b_11 =>
 bif b_11.fst then
 Option.bind (F54 b.snd)
 fun b =>
 some (b.fst, ())
 else some (false, ())
 else some (false, ())
 else some (false, ())
 else some (false, ())
 else some (false, ()))
 (fun (val : Bool × Unit) => some val) o)
 (fun (val : Bool × Unit) => some val) o
def S9 : Sig := ⟨P9, R9, F9⟩
noncomputable def E9 : Env := { tab := tab, nt := 163, Γ := lookG [(10, [S10]), (21, [S21]), (25, [S25]), (27, [S27]), (29, [S29]), (31, [S31]), (32, [S32]), (33, [S33]), (34, [S34]), (35, [S35]), (36, [S36]), (37, [S37]), (38, [S38]), (39, [S39]), (40, [S40]), (41, [S41]), (42, [S42]), (43, [S43]), (46, [S46]), (47, [S47]), (48, [S48]), (49, [S49]), (50, [S50]), (51, [S51]), (52, [S52]), (53, [S53]), (54, [S54])], joins := lookN [(16, ⟨[⟨.slot 13, .bool, .pv⟩], [4, 5, 6, 7, 10], [.row 9001001, .site 4000, .fld 4000 0, .fld 4000 1, .fld 4000 2, .fld 4000 3, .site 3000, .fld 3000 0, .fld 3000 1, .fld 3000 2, .fld 3000 3, .fld 3000 4, .fld 3000 5, .fld 3000 6, .fld 3000 7, .fld 3000 8, .fld 3000 9, .site 2000, .fld 2000 0, .fld 2000 1, .fld 2000 2, .fld 2000 3, .fld 2000 4, .fld 2000 5, .fld 2000 6, .site 1000, .fld 1000 0, .fld 1000 1]⟩), (18, ⟨[], [4, 5, 6, 7, 10], [.row 9001001, .site 4000, .fld 4000 0, .fld 4000 1, .fld 4000 2, .fld 4000 3, .site 3000, .fld 3000 0, .fld 3000 1, .fld 3000 2, .fld 3000 3, .fld 3000 4, .fld 3000 5, .fld 3000 6, .fld 3000 7, .fld 3000 8, .fld 3000 9, .site 2000, .fld 2000 0, .fld 2000 1, .fld 2000 2, .fld 2000 3, .fld 2000 4, .fld 2000 5, .fld 2000 6, .site 1000, .fld 1000 0, .fld 1000 1]⟩)], loops := lookN [] }
theorem raw9_eq (x : T70D × T51D × T53D × T55D × Unit) : afun E9 Tryz.f9 P9 R9 x = F9 x := by kernel_rfl
end
end Go.Proofs.YthafmmjfijpalaaGreat
