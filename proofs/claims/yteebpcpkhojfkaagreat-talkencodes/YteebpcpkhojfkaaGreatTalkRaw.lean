/-
  Talk: by a program of the bench (seat.py).
-/
import Derived.Test.YteebpcpkhojfkaaGreatTalkTab
namespace Go.Proofs.YteebpcpkhojfkaaGreat
open Go.Sx Go
set_option maxRecDepth 100000
noncomputable section
def en (n : Nat) (g : List (FuncId × List Sig)) (j : List (Nat × Shape)) (l : List (Nat × LoopH)) : Env := { tab := tab, nt := n, Γ := lookG g, joins := lookN j, loops := lookN l }
-- bytes.Equal
def F160 (x : List UInt8 × T83D) : Option (Bool × Unit) := some (decide (x.1 = x.2.1), ())
def S160 : Sig := ⟨P160, R160, F160⟩
def E160 : Env := en 10 [] [] []
theorem raw160_eq (x : List UInt8 × T83D) : afun E160 Tryz.f160 P160 R160 x = F160 x := by kernel_rfl
-- decamp/entry.Same$1
def F210 (x : T25D × T25D × Unit) : Option (Bool × Unit) :=
 bif decide (x.1.1 = x.2.1.1) then
 bif decide (x.1.2.1 = x.2.1.2.1) then
 Option.bind (F160 (x.1.2.2.1, x.2.1.2.2)) fun b => some b
 else some (false, ())
 else some (false, ())
def S210 : Sig := ⟨P210, R210, F210⟩
def E210 : Env := en 24 [(160, [S160])] [] []
theorem raw210_eq (x : T25D × T25D × Unit) : afun E210 Tryz.f210 P210 R210 x = F210 x := by kernel_rfl
-- slices.EqualFunc[[]decamp/api.Entry,[]decamp/api.Entry,decamp/api.Entry,decamp/api.Entry]
def F209a (x : List T25D × List T25D × Unit) : Option (Bool × Unit) :=
 bif !decide (Int.ofNat (List.length x.1) = Int.ofNat (List.length x.2.1)) then some (false, ())
 else
 iterE (Int × Unit) (Bool × Unit)
 (fun (x_1 : Int × Unit) =>
 bif decide (x_1.1 < Int.ofNat (List.length x.1)) then
 Option.bind (idx x.1 x_1.1) fun b =>
 Option.bind (idx x.2.1 x_1.1) fun b_1 =>
 Option.bind (F210 (b, b_1, ())) fun b =>
 bif !b.1 then some (Sum.inr (false, ()))
 else some (Sum.inl (wrap64 (x_1.1 + 1), ()))
 else some (Sum.inr (true, ())))
 big (0, ())
def S209a : Sig := ⟨P209a, R209a, F209a⟩
def E209a : Env := en 32 [(210, [S210])] [] [(4, mkLoop ⟨[⟨.slot 17, (.int .i64), .pv⟩], [1, 2, 15, 16], []⟩)]
theorem raw209a_eq (x : List T25D × List T25D × Unit) : afun E209a Tryz.f209 P209a R209a x = F209a x := by kernel_rfl
-- decamp/entry.Same
def F159 (x : List T25D × List T25D × Unit) : Option (Bool × Unit) :=
 Option.bind (F209a x) fun b => some b
def S159 : Sig := ⟨P159, R159, F159⟩
def E159 : Env := en 8 [(209, [S209a]), (210, [S210])] [] []
theorem raw159_eq (x : List T25D × List T25D × Unit) : afun E159 Tryz.f159 P159 R159 x = F159 x := by kernel_rfl
-- decamp/rmsg.Same
def F75 (x : T27D × T27D × Unit) : Option (Bool × Unit) :=
 bif decide (x.1.1 = x.2.1.1) then
 bif decide (x.1.2.1 = x.2.1.2.1) then
 bif decide (x.1.2.2.1 = x.2.1.2.2.1) then
 bif decide (x.1.2.2.2.1 = x.2.1.2.2.2.1) then
 bif decide (x.1.2.2.2.2.1 = x.2.1.2.2.2.2.1) then
 bif decide (x.1.2.2.2.2.2.1 = x.2.1.2.2.2.2.2.1) then
 bif decide (x.1.2.2.2.2.2.2.1 = x.2.1.2.2.2.2.2.2.1) then
 bif decide (x.1.2.2.2.2.2.2.2.1 = x.2.1.2.2.2.2.2.2.2.1) then
 bif x.1.2.2.2.2.2.2.2.2.1 == x.2.1.2.2.2.2.2.2.2.2.1 then
 Option.bind
 (F159
 (x.1.2.2.2.2.2.2.2.2.2.1,
 x.2.1.2.2.2.2.2.2.2.2.2.1, ()))
 fun b =>
 bif b.1 then
 bif
 decide
 (x.1.2.2.2.2.2.2.2.2.2.2.1.1 =
 x.2.1.2.2.2.2.2.2.2.2.2.2.1.1) then
 bif
 decide
 (x.1.2.2.2.2.2.2.2.2.2.2.1.2.1 =
 x.2.1.2.2.2.2.2.2.2.2.2.2.1.2.1) then
 Option.bind
 (F160
 (x.1.2.2.2.2.2.2.2.2.2.2.1.2.2.1,
 x.2.1.2.2.2.2.2.2.2.2.2.2.1.2.2))
 fun b => some b
 else some (false, ())
 else some (false, ())
 else some (false, ())
 else some (false, ())
 else some (false, ())
 else some (false, ())
 else some (false, ())
 else some (false, ())
 else some (false, ())
 else some (false, ())
 else some (false, ())
 else some (false, ())
def S75 : Sig := ⟨P75, R75, F75⟩
def E75 : Env := en 100 [(159, [S159]), (160, [S160])] [] []
theorem raw75_eq (x : T27D × T27D × Unit) : afun E75 Tryz.f75 P75 R75 x = F75 x := by kernel_rfl
-- slices.Equal[[]decamp/api.Cmp,decamp/api.Cmp]
def F161 (x : List T96D × List T96D × Unit) : Option (Bool × Unit) :=
 bif !decide (Int.ofNat (List.length x.1) = Int.ofNat (List.length x.2.1)) then some (false, ())
 else
 iterE (Int × Unit) (Bool × Unit)
 (fun (x_1 : Int × Unit) =>
 bif decide (x_1.1 < Int.ofNat (List.length x.1)) then
 Option.bind (idx x.1 x_1.1) fun b =>
 Option.bind (idx x.2.1 x_1.1) fun b_1 =>
 bif
 !(decide (b.1 = b_1.1) &&
 (decide (b.2.1 = b_1.2.1) &&
 (decide (b.2.2.1 = b_1.2.2.1) &&
 (decide (b.2.2.2.1 = b_1.2.2.2.1) &&
 (decide (b.2.2.2.2.1 = b_1.2.2.2.2.1) && true))))) then
 some (Sum.inr (false, ()))
 else some (Sum.inl (wrap64 (x_1.1 + 1), ()))
 else some (Sum.inr (true, ())))
 big (0, ())
def S161 : Sig := ⟨P161, R161, F161⟩
def E161 : Env := en 26 [] [] [(4, mkLoop ⟨[⟨.slot 13, (.int .i64), .pv⟩], [0, 1, 12], []⟩)]
theorem raw161_eq (x : List T96D × List T96D × Unit) : afun E161 Tryz.f161 P161 R161 x = F161 x := by kernel_rfl
-- slices.Equal[[]decamp/api.Op,decamp/api.Op]
def F162 (x : List T48D × List T48D × Unit) : Option (Bool × Unit) :=
 bif !decide (Int.ofNat (List.length x.1) = Int.ofNat (List.length x.2.1)) then some (false, ())
 else
 iterE (Int × Unit) (Bool × Unit)
 (fun (x_1 : Int × Unit) =>
 bif decide (x_1.1 < Int.ofNat (List.length x.1)) then
 Option.bind (idx x.1 x_1.1) fun b =>
 Option.bind (idx x.2.1 x_1.1) fun b_1 =>
 bif
 !(decide (b.1 = b_1.1) &&
 (decide (b.2.1 = b_1.2.1) &&
 (decide (b.2.2.1 = b_1.2.2.1) &&
 (decide (b.2.2.2.1 = b_1.2.2.2.1) &&
 (decide (b.2.2.2.2.1 = b_1.2.2.2.2.1) && true))))) then
 some (Sum.inr (false, ()))
 else some (Sum.inl (wrap64 (x_1.1 + 1), ()))
 else some (Sum.inr (true, ())))
 big (0, ())
def S162 : Sig := ⟨P162, R162, F162⟩
def E162 : Env := en 26 [] [] [(4, mkLoop ⟨[⟨.slot 13, (.int .i64), .pv⟩], [0, 1, 12], []⟩)]
theorem raw162_eq (x : List T48D × List T48D × Unit) : afun E162 Tryz.f162 P162 R162 x = F162 x := by kernel_rfl
-- slices.Equal[[]decamp/api.Item,decamp/api.Item]
def F79 (x : List T70D × List T70D × Unit) : Option (Bool × Unit) :=
 bif !decide (Int.ofNat (List.length x.1) = Int.ofNat (List.length x.2.1)) then some (false, ())
 else
 iterE (Int × Unit) (Bool × Unit)
 (fun (x_1 : Int × Unit) =>
 bif decide (x_1.1 < Int.ofNat (List.length x.1)) then
 Option.bind (idx x.1 x_1.1)
 fun b =>
 Option.bind (idx x.2.1 x_1.1)
 fun b_1 =>
 bif
 !(decide (b.1 = b_1.1) &&
 (decide (b.2.1.1 = b_1.2.1.1) &&
 (decide (b.2.1.2.1 = b_1.2.1.2.1) &&
 (decide (b.2.1.2.2.1 = b_1.2.1.2.2.1) &&
 (decide (b.2.1.2.2.2.1 = b_1.2.1.2.2.2.1) &&
 (decide (b.2.1.2.2.2.2.1 = b_1.2.1.2.2.2.2.1) &&
 (decide (b.2.1.2.2.2.2.2.1 = b_1.2.1.2.2.2.2.2.1) &&
 (b.2.1.2.2.2.2.2.2.1 == b_1.2.1.2.2.2.2.2.2.1 &&
 true)))))) &&
 true)) then
 some (Sum.inr (false, ()))
 else some (Sum.inl (wrap64 (x_1.1 + 1), ()))
 else some (Sum.inr (true, ())))
 big (0, ())
def S79 : Sig := ⟨P79, R79, F79⟩
def E79 : Env := en 26 [] [] [(4, mkLoop ⟨[⟨.slot 13, (.int .i64), .pv⟩], [0, 1, 12], []⟩)]
theorem raw79_eq (x : List T70D × List T70D × Unit) : afun E79 Tryz.f79 P79 R79 x = F79 x := by kernel_rfl
-- decamp/cmd.sameItems
def F163 (x : List T70D × List T70D × Unit) : Option (Bool × Unit) :=
 Option.bind (F79 x) fun b => some b
def S163 : Sig := ⟨P163, R163, F163⟩
def E163 : Env := en 8 [(79, [S79])] [] []
theorem raw163_eq (x : List T70D × List T70D × Unit) : afun E163 Tryz.f163 P163 R163 x = F163 x := by kernel_rfl
-- decamp/cmd.SameReply
def F77 (x : T51D × T51D × Unit) : Option (Bool × Unit) :=
 bif decide (x.1.1 = x.2.1.1) then
 bif decide (x.1.2.1 = x.2.1.2.1) then
 bif x.1.2.2.1 == x.2.1.2.2.1 then
 bif decide (x.1.2.2.2.1 = x.2.1.2.2.2.1) then
 bif decide (x.1.2.2.2.2.2.1 = x.2.1.2.2.2.2.2.1) then
 bif decide (x.1.2.2.2.2.2.2.1 = x.2.1.2.2.2.2.2.2.1) then
 Option.bind (F163 (x.1.2.2.2.2.1, x.2.1.2.2.2.2.1, ()))
 fun b => some b
 else some (false, ())
 else some (false, ())
 else some (false, ())
 else some (false, ())
 else some (false, ())
 else some (false, ())
def S77 : Sig := ⟨P77, R77, F77⟩
def E77 : Env := en 52 [(163, [S163])] [] []
theorem raw77_eq (x : T51D × T51D × Unit) : afun E77 Tryz.f77 P77 R77 x = F77 x := by kernel_rfl
-- decamp/cmd.sameSess$1
def F212 (x : T94D × T94D × Unit) : Option (Bool × Unit) :=
 bif decide (x.1.1 = x.2.1.1) then
 bif decide (x.1.2.1 = x.2.1.2.1) then
 Option.bind (F77 (x.1.2.2.1, x.2.1.2.2)) fun b => some b
 else some (false, ())
 else some (false, ())
def S212 : Sig := ⟨P212, R212, F212⟩
def E212 : Env := en 24 [(77, [S77])] [] []
theorem raw212_eq (x : T94D × T94D × Unit) : afun E212 Tryz.f212 P212 R212 x = F212 x := by kernel_rfl
-- slices.EqualFunc[[]decamp/api.Sess,[]decamp/api.Sess,decamp/api.Sess,decamp/api.Sess]
def F211a (x : List T94D × List T94D × Unit) : Option (Bool × Unit) :=
 bif !decide (Int.ofNat (List.length x.1) = Int.ofNat (List.length x.2.1)) then some (false, ())
 else
 iterE (Int × Unit) (Bool × Unit)
 (fun (x_1 : Int × Unit) =>
 bif decide (x_1.1 < Int.ofNat (List.length x.1)) then
 Option.bind (idx x.1 x_1.1)
 fun b =>
 Option.bind (idx x.2.1 x_1.1)
 fun b_1 =>
 Option.bind (F212 (b, b_1, ())) fun b =>
 bif !b.1 then some (Sum.inr (false, ()))
 else some (Sum.inl (wrap64 (x_1.1 + 1), ()))
 else some (Sum.inr (true, ())))
 big (0, ())
def S211a : Sig := ⟨P211a, R211a, F211a⟩
def E211a : Env := en 32 [(212, [S212])] [] [(4, mkLoop ⟨[⟨.slot 17, (.int .i64), .pv⟩], [1, 2, 15, 16], []⟩)]
theorem raw211a_eq (x : List T94D × List T94D × Unit) : afun E211a Tryz.f211 P211a R211a x = F211a x := by kernel_rfl
-- decamp/cmd.sameSess
def F164 (x : List T94D × List T94D × Unit) : Option (Bool × Unit) :=
 Option.bind (F211a x) fun b => some b
def S164 : Sig := ⟨P164, R164, F164⟩
def E164 : Env := en 8 [(211, [S211a]), (212, [S212])] [] []
theorem raw164_eq (x : List T94D × List T94D × Unit) : afun E164 Tryz.f164 P164 R164 x = F164 x := by kernel_rfl
-- slices.Equal[[]decamp/api.Lease,decamp/api.Lease]
def F165 (x : List T113D × List T113D × Unit) : Option (Bool × Unit) :=
 bif !decide (Int.ofNat (List.length x.1) = Int.ofNat (List.length x.2.1)) then some (false, ())
 else
 iterE (Int × Unit) (Bool × Unit)
 (fun (x_1 : Int × Unit) =>
 bif decide (x_1.1 < Int.ofNat (List.length x.1)) then
 Option.bind (idx x.1 x_1.1) fun b =>
 Option.bind (idx x.2.1 x_1.1) fun b_1 =>
 bif
 !(decide (b.1 = b_1.1) &&
 (decide (b.2.1 = b_1.2.1) && (decide (b.2.2.1 = b_1.2.2.1) && true))) then
 some (Sum.inr (false, ()))
 else some (Sum.inl (wrap64 (x_1.1 + 1), ()))
 else some (Sum.inr (true, ())))
 big (0, ())
def S165 : Sig := ⟨P165, R165, F165⟩
def E165 : Env := en 26 [] [] [(4, mkLoop ⟨[⟨.slot 13, (.int .i64), .pv⟩], [0, 1, 12], []⟩)]
theorem raw165_eq (x : List T113D × List T113D × Unit) : afun E165 Tryz.f165 P165 R165 x = F165 x := by kernel_rfl
-- decamp/cmd.Same
def F76 (x : T28D × T28D × Unit) : Option (Bool × Unit) :=
 bif decide (x.1.1 = x.2.1.1) then
 bif decide (x.1.2.1 = x.2.1.2.1) then
 bif decide (x.1.2.2.1 = x.2.1.2.2.1) then
 bif decide (x.1.2.2.2.1 = x.2.1.2.2.2.1) then
 bif decide (x.1.2.2.2.2.1 = x.2.1.2.2.2.2.1) then
 bif decide (x.1.2.2.2.2.2.1 = x.2.1.2.2.2.2.2.1) then
 bif decide (x.1.2.2.2.2.2.2.1 = x.2.1.2.2.2.2.2.2.1) then
 bif
 decide
 (x.1.2.2.2.2.2.2.2.2.2.2.1 =
 x.2.1.2.2.2.2.2.2.2.2.2.2.1) then
 bif
 decide
 (x.1.2.2.2.2.2.2.2.2.2.2.2.1 =
 x.2.1.2.2.2.2.2.2.2.2.2.2.2.1) then
 bif
 decide
 (x.1.2.2.2.2.2.2.2.2.2.2.2.2.1 =
 x.2.1.2.2.2.2.2.2.2.2.2.2.2.2.1) then
 bif
 x.1.2.2.2.2.2.2.2.2.2.2.2.2.2.1 ==
 x.2.1.2.2.2.2.2.2.2.2.2.2.2.2.2.1 then
 Option.bind
 (F161
 (x.1.2.2.2.2.2.2.2.1, x.2.1.2.2.2.2.2.2.2.1,
 ()))
 fun b =>
 bif b.1 then
 Option.bind
 (F162
 (x.1.2.2.2.2.2.2.2.2.1,
 x.2.1.2.2.2.2.2.2.2.2.1, ()))
 fun b =>
 bif b.1 then
 Option.bind
 (F162
 (x.1.2.2.2.2.2.2.2.2.2.1,
 x.2.1.2.2.2.2.2.2.2.2.2.1, ()))
 fun b =>
 bif b.1 then
 Option.bind
 (F163
 (x.1.2.2.2.2.2.2.2.2.2.2.2.2.2.2.1,
 x.2.1.2.2.2.2.2.2.2.2.2.2.2.2.2.2.1,
 ()))
 fun b =>
 bif b.1 then
 Option.bind
 (F164
 (x.1.2.2.2.2.2.2.2.2.2.2.2.2.2.2.2.1,
 x.2.1.2.2.2.2.2.2.2.2.2.2.2.2.2.2.2.1,
 ()))
 fun b =>
 bif b.1 then
 Option.bind
 (F165
 (x.1.2.2.2.2.2.2.2.2.2.2.2.2.2.2.2.2.1,
 x.2.1.2.2.2.2.2.2.2.2.2.2.2.2.2.2.2.2))
 fun b => some b
 else some (false, ())
 else some (false, ())
 else some (false, ())
 else some (false, ())
 else some (false, ())
 else some (false, ())
 else some (false, ())
 else some (false, ())
 else some (false, ())
 else some (false, ())
 else some (false, ())
 else some (false, ())
 else some (false, ())
 else some (false, ())
 else some (false, ())
 else some (false, ())
def S76 : Sig := ⟨P76, R76, F76⟩
def E76 : Env := en 122 [(161, [S161]), (162, [S162]), (163, [S163]), (164, [S164]), (165, [S165])] [] []
theorem raw76_eq (x : T28D × T28D × Unit) : afun E76 Tryz.f76 P76 R76 x = F76 x := by kernel_rfl
-- decamp/talk.sameBatches$1
def F167 (x : TBD × TBD × Unit) : Option (Bool × Unit) :=
 bif decide (x.1.1 = x.2.1.1) then
 Option.bind (F79 (x.1.2.1, x.2.1.2)) fun b => some b
 else some (false, ())
def S167 : Sig := ⟨P167, R167, F167⟩
def E167 : Env := en 17 [(79, [S79])] [] []
theorem raw167_eq (x : TBD × TBD × Unit) : afun E167 Tryz.f167 P167 R167 x = F167 x := by kernel_rfl
-- slices.EqualFunc[[]decamp/api.Batch,[]decamp/api.Batch,decamp/api.Batch,decamp/api.Batch]
def F166a (x : List TBD × List TBD × Unit) : Option (Bool × Unit) :=
 bif !decide (Int.ofNat (List.length x.1) = Int.ofNat (List.length x.2.1)) then some (false, ())
 else
 iterE (Int × Unit) (Bool × Unit)
 (fun (x_1 : Int × Unit) =>
 bif decide (x_1.1 < Int.ofNat (List.length x.1)) then
 Option.bind (idx x.1 x_1.1)
 fun b =>
 Option.bind (idx x.2.1 x_1.1)
 fun b_1 =>
 Option.bind (F167 (b, b_1, ())) fun b =>
 bif !b.1 then some (Sum.inr (false, ()))
 else some (Sum.inl (wrap64 (x_1.1 + 1), ()))
 else some (Sum.inr (true, ())))
 big (0, ())
def S166a : Sig := ⟨P166a, R166a, F166a⟩
def E166a : Env := en 32 [(167, [S167])] [] [(4, mkLoop ⟨[⟨.slot 17, (.int .i64), .pv⟩], [1, 2, 15, 16], []⟩)]
theorem raw166a_eq (x : List TBD × List TBD × Unit) : afun E166a Tryz.f166 P166a R166a x = F166a x := by kernel_rfl
-- decamp/talk.sameBatches
def F78 (x : List TBD × List TBD × Unit) : Option (Bool × Unit) :=
 Option.bind (F166a x) fun b => some b
def S78 : Sig := ⟨P78, R78, F78⟩
def E78 : Env := en 8 [(166, [S166a]), (167, [S167])] [] []
theorem raw78_eq (x : List TBD × List TBD × Unit) : afun E78 Tryz.f78 P78 R78 x = F78 x := by kernel_rfl
-- decamp/talk.sameHand
def F80 (x : T55D × T55D × Unit) : Option (Bool × Unit) :=
 bif decide (x.1.1 = x.2.1.1) then
 bif decide (x.1.2.1 = x.2.1.2.1) then
 Option.bind
 (F76
 ((0, [], [], [], 0, 0, 0, [], [], [], 0, 0, 0, false, [], x.1.2.2),
 (0, [], [], [], 0, 0, 0, [], [], [], 0, 0, 0, false, [], x.2.1.2.2), ()))
 fun b => some b
 else some (false, ())
 else some (false, ())
def S80 : Sig := ⟨P80, R80, F80⟩
def E80 : Env := en 30 [(76, [S76])] [] []
theorem raw80_eq (x : T55D × T55D × Unit) : afun E80 Tryz.f80 P80 R80 x = F80 x := by kernel_rfl
-- decamp/talk.Same
def F18 (x : TMD × TMD × Unit) : Option (Bool × Unit) :=
 bif decide (x.1.1 = x.2.1.1) then
 bif decide (x.1.2.1 = x.2.1.2.1) then
 Option.bind (F75 (x.1.2.2.1, x.2.1.2.2.1, ())) fun b =>
 bif b.1 then
 bif decide (x.1.2.2.2.1.1 = x.2.1.2.2.2.1.1) then
 bif decide (x.1.2.2.2.1.2.1 = x.2.1.2.2.2.1.2.1) then
 Option.bind (F76 (x.1.2.2.2.1.2.2.1, x.2.1.2.2.2.1.2.2))
 fun b =>
 bif b.1 then
 bif decide (x.1.2.2.2.2.1 = x.2.1.2.2.2.2.1) then
 bif decide (x.1.2.2.2.2.2.1 = x.2.1.2.2.2.2.2.1) then
 bif decide (x.1.2.2.2.2.2.2.1 = x.2.1.2.2.2.2.2.2.1) then
 bif
 decide
 (x.1.2.2.2.2.2.2.2.1 = x.2.1.2.2.2.2.2.2.2.1) then
 bif
 decide
 (x.1.2.2.2.2.2.2.2.2.1 =
 x.2.1.2.2.2.2.2.2.2.2.1) then
 bif
 decide
 (x.1.2.2.2.2.2.2.2.2.2.1 =
 x.2.1.2.2.2.2.2.2.2.2.2.1) then
 bif
 decide
 (x.1.2.2.2.2.2.2.2.2.2.2.1 =
 x.2.1.2.2.2.2.2.2.2.2.2.2.1) then
 Option.bind
 (F77
 (x.1.2.2.2.2.2.2.2.2.2.2.2.1,
 x.2.1.2.2.2.2.2.2.2.2.2.2.2.1, ()))
 fun b =>
 bif b.1 then
 Option.bind
 (F78
 (x.1.2.2.2.2.2.2.2.2.2.2.2.2.1,
 x.2.1.2.2.2.2.2.2.2.2.2.2.2.2.1, ()))
 fun b =>
 bif b.1 then
 Option.bind
 (F79
 (x.1.2.2.2.2.2.2.2.2.2.2.2.2.2.1,
 x.2.1.2.2.2.2.2.2.2.2.2.2.2.2.2.1,
 ()))
 fun b =>
 bif b.1 then
 bif
 x.1.2.2.2.2.2.2.2.2.2.2.2.2.2.2.1 ==
 x.2.1.2.2.2.2.2.2.2.2.2.2.2.2.2.2.1 then
 Option.bind
 (F80
 (x.1.2.2.2.2.2.2.2.2.2.2.2.2.2.2.2.1,
 x.2.1.2.2.2.2.2.2.2.2.2.2.2.2.2.2.2.1,
 ()))
 fun b =>
 bif b.1 then
 some
 (decide
 (x.1.2.2.2.2.2.2.2.2.2.2.2.2.2.2.2.2.1.1 =
 x.2.1.2.2.2.2.2.2.2.2.2.2.2.2.2.2.2.2.1.1) &&
 (decide
 (x.1.2.2.2.2.2.2.2.2.2.2.2.2.2.2.2.2.1.2.1 =
 x.2.1.2.2.2.2.2.2.2.2.2.2.2.2.2.2.2.2.1.2.1) &&
 (decide
 (x.1.2.2.2.2.2.2.2.2.2.2.2.2.2.2.2.2.1.2.2.1 =
 x.2.1.2.2.2.2.2.2.2.2.2.2.2.2.2.2.2.2.1.2.2.1) &&
 (decide
 (x.1.2.2.2.2.2.2.2.2.2.2.2.2.2.2.2.2.1.2.2.2.1 =
 x.2.1.2.2.2.2.2.2.2.2.2.2.2.2.2.2.2.2.1.2.2.2.1) &&
 (decide
 (x.1.2.2.2.2.2.2.2.2.2.2.2.2.2.2.2.2.1.2.2.2.2.1 =
 x.2.1.2.2.2.2.2.2.2.2.2.2.2.2.2.2.2.2.1.2.2.2.2.1) &&
 (decide
 (x.1.2.2.2.2.2.2.2.2.2.2.2.2.2.2.2.2.1.2.2.2.2.2.1 =
 x.2.1.2.2.2.2.2.2.2.2.2.2.2.2.2.2.2.2.1.2.2.2.2.2.1) &&
 (decide
 (x.1.2.2.2.2.2.2.2.2.2.2.2.2.2.2.2.2.1.2.2.2.2.2.2.1 =
 x.2.1.2.2.2.2.2.2.2.2.2.2.2.2.2.2.2.2.1.2.2.2.2.2.2.1) &&
 (decide
 (x.1.2.2.2.2.2.2.2.2.2.2.2.2.2.2.2.2.1.2.2.2.2.2.2.2.1 =
 x.2.1.2.2.2.2.2.2.2.2.2.2.2.2.2.2.2.2.1.2.2.2.2.2.2.2.1) &&
 (decide
 (x.1.2.2.2.2.2.2.2.2.2.2.2.2.2.2.2.2.1.2.2.2.2.2.2.2.2.1 =
 x.2.1.2.2.2.2.2.2.2.2.2.2.2.2.2.2.2.2.1.2.2.2.2.2.2.2.2.1) &&
 (decide
 (x.1.2.2.2.2.2.2.2.2.2.2.2.2.2.2.2.2.1.2.2.2.2.2.2.2.2.2.1 =
 x.2.1.2.2.2.2.2.2.2.2.2.2.2.2.2.2.2.2.1.2.2.2.2.2.2.2.2.2.1) &&
 true))))))))),
 ())
 else some (false, ())
 else some (false, ())
 else some (false, ())
 else some (false, ())
 else some (false, ())
 else some (false, ())
 else some (false, ())
 else some (false, ())
 else some (false, ())
 else some (false, ())
 else some (false, ())
 else some (false, ())
 else some (false, ())
 else some (false, ())
 else some (false, ())
 else some (false, ())
 else some (false, ())
 else some (false, ())
def S18 : Sig := ⟨P18, R18, F18⟩
def E18 : Env := en 142 [(75, [S75]), (76, [S76]), (77, [S77]), (78, [S78]), (79, [S79]), (80, [S80])] [] []
theorem raw18_eq (x : TMD × TMD × Unit) : afun E18 Tryz.f18 P18 R18 x = F18 x := by kernel_rfl
-- decamp/talk.keep
def F70 (x : TMD × Unit) : Option (TMD × Unit) :=
 Option.bind
 (bif !decide (x.1.1 = 1) then some (Sum.inl (x.1.2.1, ())) else some (Sum.inl (0, ())))
 fun o =>
 Sum.elim
 (fun (x_1 : Int × Unit) =>
 Option.bind
 (bif decide (x.1.1 = 1) then
 some
 (Sum.inl
 (x.1.2.2.1,
 (0, 0, (0, [], [], [], 0, 0, 0, [], [], [], 0, 0, 0, false, [], [], [], ()), ()), 0,
 [], [], 0, 0, 0, 0, (0, 0, false, 0, [], 0, 0, ()), [], [], false, (0, 0, [], [], ()),
 (0, 0, 0, [], [], 0, [], 0, 0, 0, ()), ()))
 else
 bif decide (x.1.1 = 2) then
 some
 (Sum.inl
 ((0, 0, 0, 0, 0, 0, 0, 0, false, [], (0, 0, [], ()), ()), x.1.2.2.2.1, 0,
 [], [], 0, 0, 0, 0, (0, 0, false, 0, [], 0, 0, ()), [], [], false,
 (0, 0, [], [], ()), (0, 0, 0, [], [], 0, [], 0, 0, 0, ()), ()))
 else
 bif decide (x.1.1 = 3) then
 some
 (Sum.inl
 ((0, 0, 0, 0, 0, 0, 0, 0, false, [], (0, 0, [], ()), ()),
 (0, 0, (0, [], [], [], 0, 0, 0, [], [], [], 0, 0, 0, false, [], [], [], ()), ()),
 x.1.2.2.2.2.1, x.1.2.2.2.2.2.1, x.1.2.2.2.2.2.2.1,
 x.1.2.2.2.2.2.2.2.1, x.1.2.2.2.2.2.2.2.2.1, 0, 0,
 (0, 0, false, 0, [], 0, 0, ()), [], [], false, (0, 0, [], [], ()),
 (0, 0, 0, [], [], 0, [], 0, 0, 0, ()), ()))
 else
 bif decide (x.1.1 = 4) then
 some
 (Sum.inl
 ((0, 0, 0, 0, 0, 0, 0, 0, false, [], (0, 0, [], ()), ()),
 (0, 0, (0, [], [], [], 0, 0, 0, [], [], [], 0, 0, 0, false, [], [], [], ()),
 ()),
 x.1.2.2.2.2.1, x.1.2.2.2.2.2.1, x.1.2.2.2.2.2.2.1,
 x.1.2.2.2.2.2.2.2.1, 0, 0, 0, (0, 0, false, 0, [], 0, 0, ()), [], [],
 false, (0, 0, [], [], ()), (0, 0, 0, [], [], 0, [], 0, 0, 0, ()), ()))
 else
 bif decide (x.1.1 = 5) then
 some
 (Sum.inl
 ((0, 0, 0, 0, 0, 0, 0, 0, false, [], (0, 0, [], ()), ()),
 (0, 0, (0, [], [], [], 0, 0, 0, [], [], [], 0, 0, 0, false, [], [], [], ()),
 ()),
 0, x.1.2.2.2.2.2.1, x.1.2.2.2.2.2.2.1,
 x.1.2.2.2.2.2.2.2.1, 0, 0, 0, (0, 0, false, 0, [], 0, 0, ()), [],
 [], false, (0, 0, [], [], ()), (0, 0, 0, [], [], 0, [], 0, 0, 0, ()),
 ()))
 else
 bif decide (x.1.1 = 6) then
 some
 (Sum.inl
 ((0, 0, 0, 0, 0, 0, 0, 0, false, [], (0, 0, [], ()), ()),
 (0, 0, (0, [], [], [], 0, 0, 0, [], [], [], 0, 0, 0, false, [], [], [], ()),
 ()),
 0, [], [], x.1.2.2.2.2.2.2.2.1, 0, 0, 0,
 (0, 0, false, 0, [], 0, 0, ()), [], [], false, (0, 0, [], [], ()),
 (0, 0, 0, [], [], 0, [], 0, 0, 0, ()), ()))
 else
 bif decide (x.1.1 = 8) then
 some
 (Sum.inl
 ((0, 0, 0, 0, 0, 0, 0, 0, false, [], (0, 0, [], ()), ()),
 (0, 0, (0, [], [], [], 0, 0, 0, [], [], [], 0, 0, 0, false, [], [], [], ()),
 ()),
 0, [], [], 0, 0, x.1.2.2.2.2.2.2.2.2.2.1,
 x.1.2.2.2.2.2.2.2.2.2.2.1,
 x.1.2.2.2.2.2.2.2.2.2.2.2.1, [], [], false,
 (0, 0, [], [], ()), (0, 0, 0, [], [], 0, [], 0, 0, 0, ()), ()))
 else
 bif decide (x.1.1 = 9) then
 some
 (Sum.inl
 ((0, 0, 0, 0, 0, 0, 0, 0, false, [], (0, 0, [], ()), ()),
 (0, 0, (0, [], [], [], 0, 0, 0, [], [], [], 0, 0, 0, false, [], [], [], ()),
 ()),
 0, [], [], x.1.2.2.2.2.2.2.2.1, 0,
 x.1.2.2.2.2.2.2.2.2.2.1, 0,
 (0, 0, false, 0, [], 0, 0, ()),
 x.1.2.2.2.2.2.2.2.2.2.2.2.2.1, [], false,
 (0, 0, [], [], ()), (0, 0, 0, [], [], 0, [], 0, 0, 0, ()), ()))
 else
 bif decide (x.1.1 = 10) then
 some
 (Sum.inl
 ((0, 0, 0, 0, 0, 0, 0, 0, false, [], (0, 0, [], ()), ()),
 (0, 0, (0, [], [], [], 0, 0, 0, [], [], [], 0, 0, 0, false, [], [], [], ()),
 ()),
 0, [], [], 0, 0, x.1.2.2.2.2.2.2.2.2.2.1, 0,
 (0, 0, false, 0, [], 0, 0, ()), [],
 x.1.2.2.2.2.2.2.2.2.2.2.2.2.2.1,
 x.1.2.2.2.2.2.2.2.2.2.2.2.2.2.2.1,
 (0, 0, [], [], ()), (0, 0, 0, [], [], 0, [], 0, 0, 0, ()),
 ()))
 else
 bif decide (x.1.1 = 11) then
 some
 (Sum.inl
 ((0, 0, 0, 0, 0, 0, 0, 0, false, [], (0, 0, [], ()), ()),
 (0, 0, (0, [], [], [], 0, 0, 0, [], [], [], 0, 0, 0, false, [], [], [], ()),
 ()),
 0, [], [], 0, 0, x.1.2.2.2.2.2.2.2.2.2.1, 0,
 (0, 0, false, 0, [], 0, 0, ()), [], [], false,
 x.1.2.2.2.2.2.2.2.2.2.2.2.2.2.2.2.1,
 (0, 0, 0, [], [], 0, [], 0, 0, 0, ()), ()))
 else
 bif decide (x.1.1 = 12) then
 some
 (Sum.inl
 ((0, 0, 0, 0, 0, 0, 0, 0, false, [], (0, 0, [], ()), ()),
 (0, 0,
 (0, [], [], [], 0, 0, 0, [], [], [], 0, 0, 0, false, [], [], [], ()),
 ()),
 0, [], [], x.1.2.2.2.2.2.2.2.1, 0, 0, 0,
 (0, 0, false, 0, [], 0, 0, ()), [], [], false, (0, 0, [], [], ()),
 x.1.2.2.2.2.2.2.2.2.2.2.2.2.2.2.2.2))
 else
 some
 (Sum.inl
 ((0, 0, 0, 0, 0, 0, 0, 0, false, [], (0, 0, [], ()), ()),
 (0, 0,
 (0, [], [], [], 0, 0, 0, [], [], [], 0, 0, 0, false, [], [], [], ()),
 ()),
 0, [], [], 0, 0, 0, 0, (0, 0, false, 0, [], 0, 0, ()), [], [], false,
 (0, 0, [], [], ()), (0, 0, 0, [], [], 0, [], 0, 0, 0, ()),
 ())))
 fun o =>
 Sum.elim
 (fun (x_2 :
 (Int × Int × Int × Int × Int × Int × Int × Int × Bool × List T25D × T25D × Unit) × (Int × Int × (Int × List UInt8 × List UInt8 × List UInt8 × Int × Int × Int × List T96D × List T48D × List T48D × Int × Int × Int × Bool × List T70D × List (Int × Int × (Int × Int × Bool × Int × List T70D × Int × Int × Unit) × Unit) × List T113D × Unit) × Unit) × Int × List UInt8 × List UInt8 × Int × Int × Int × Int × (Int × Int × Bool × Int × List T70D × Int × Int × Unit) × List (Int × List T70D × Unit) × List T70D × Bool × (Int × Int × List (Int × Int × (Int × Int × Bool × Int × List T70D × Int × Int × Unit) × Unit) × List T113D × Unit) × T53D × Unit) =>
 some ((x.1.1, x_1.1, x_2), ()))
 (fun (val :
 (Int × Int × (Int × Int × Int × Int × Int × Int × Int × Int × Bool × List T25D × T25D × Unit) × (Int × Int × (Int × List UInt8 × List UInt8 × List UInt8 × Int × Int × Int × List T96D × List T48D × List T48D × Int × Int × Int × Bool × List T70D × List (Int × Int × (Int × Int × Bool × Int × List T70D × Int × Int × Unit) × Unit) × List T113D × Unit) × Unit) × Int × List UInt8 × List UInt8 × Int × Int × Int × Int × (Int × Int × Bool × Int × List T70D × Int × Int × Unit) × List (Int × List T70D × Unit) × List T70D × Bool × (Int × Int × List (Int × Int × (Int × Int × Bool × Int × List T70D × Int × Int × Unit) × Unit) × List T113D × Unit) × T53D × Unit) × Unit) =>
 some val)
 o)
 (fun (val :
 (Int × Int × (Int × Int × Int × Int × Int × Int × Int × Int × Bool × List T25D × T25D × Unit) × (Int × Int × (Int × List UInt8 × List UInt8 × List UInt8 × Int × Int × Int × List T96D × List T48D × List T48D × Int × Int × Int × Bool × List T70D × List (Int × Int × (Int × Int × Bool × Int × List T70D × Int × Int × Unit) × Unit) × List T113D × Unit) × Unit) × Int × List UInt8 × List UInt8 × Int × Int × Int × Int × (Int × Int × Bool × Int × List T70D × Int × Int × Unit) × List (Int × List T70D × Unit) × List T70D × Bool × (Int × Int × List (Int × Int × (Int × Int × Bool × Int × List T70D × Int × Int × Unit) × Unit) × List T113D × Unit) × T53D × Unit) × Unit) =>
 some val)
 o
def S70 : Sig := ⟨P70, R70, F70⟩
def E70 : Env := en 122 [] [(4, ⟨[⟨.fld 1004000 1, (.int .i64), .pv⟩], [1, 2, 3], [.site 1004000, .fld 1004000 0, .fld 1004000 2, .fld 1004000 3, .fld 1004000 4, .fld 1004000 5, .fld 1004000 6, .fld 1004000 7, .fld 1004000 8, .fld 1004000 9, .fld 1004000 10, .fld 1004000 11, .fld 1004000 12, .fld 1004000 13, .fld 1004000 14, .fld 1004000 15, .fld 1004000 16, .site 2000, .fld 2000 0, .fld 2000 1, .fld 2000 2, .fld 2000 3, .fld 2000 4, .fld 2000 5, .fld 2000 6, .fld 2000 7, .fld 2000 8, .fld 2000 9, .fld 2000 10, .fld 2000 11, .fld 2000 12, .fld 2000 13, .fld 2000 14, .fld 2000 15, .fld 2000 16, .site 1000, .fld 1000 0, .fld 1000 1, .fld 1000 2, .fld 1000 3, .fld 1000 4, .fld 1000 5, .fld 1000 6, .fld 1000 7, .fld 1000 8, .fld 1000 9, .fld 1000 10, .fld 1000 11, .fld 1000 12, .fld 1000 13, .fld 1000 14, .fld 1000 15, .fld 1000 16]⟩), (27, ⟨[⟨.fld 1004000 2, T27, .pv⟩, ⟨.fld 1004000 3, T33, .pv⟩, ⟨.fld 1004000 4, (.int .i64), .pv⟩, ⟨.fld 1004000 5, .str, .pv⟩, ⟨.fld 1004000 6, .str, .pv⟩, ⟨.fld 1004000 7, (.int .i64), .pv⟩, ⟨.fld 1004000 8, (.int .i64), .pv⟩, ⟨.fld 1004000 9, (.int .i64), .pv⟩, ⟨.fld 1004000 10, (.int .i64), .pv⟩, ⟨.fld 1004000 11, T51, .pv⟩, ⟨.fld 1004000 12, (.slice TB), .pv⟩, ⟨.fld 1004000 13, (.slice T70), .pv⟩, ⟨.fld 1004000 14, .bool, .pv⟩, ⟨.fld 1004000 15, T55, .pv⟩, ⟨.fld 1004000 16, T53, .pv⟩], [2, 3], [.site 1004000, .fld 1004000 0, .fld 1004000 1, .site 2000, .fld 2000 0, .fld 2000 1, .fld 2000 2, .fld 2000 3, .fld 2000 4, .fld 2000 5, .fld 2000 6, .fld 2000 7, .fld 2000 8, .fld 2000 9, .fld 2000 10, .fld 2000 11, .fld 2000 12, .fld 2000 13, .fld 2000 14, .fld 2000 15, .fld 2000 16]⟩)] []
theorem raw70_eq (x : TMD × Unit) : afun E70 Tryz.f70 P70 R70 x = F70 x := by kernel_rfl
-- decamp/rmsg.keep
def F146 (x : T27D × Unit) : Option (T27D × Bool × Unit) :=
 Option.bind
 (bif decide (x.1.1 = 1) then
 bif decide (x.1.1 = 1) then
 some
 (Sum.inl
 (x.1.2.2.2.2.1, x.1.2.2.2.2.2.1, 0, 0, false, [], (0, 0, [], ()), 0, 0, 0,
 0, 0, 0, 0, 0, false, [], (0, 0, [], ()), ()))
 else
 bif decide (x.1.1 = 2) then
 bif decide (x.1.1 = 2) then
 some
 (Sum.inl
 (0, 0, 0, 0, x.1.2.2.2.2.2.2.2.2.1, [], (0, 0, [], ()), 0, 0, 0, 0, 0, 0, 0,
 0, false, [], (0, 0, [], ()), ()))
 else
 bif decide (x.1.1 = 5) then
 some
 (Sum.inl
 (x.1.2.2.2.2.1, x.1.2.2.2.2.2.1, x.1.2.2.2.2.2.2.1,
 x.1.2.2.2.2.2.2.2.1, false, x.1.2.2.2.2.2.2.2.2.2.1,
 (0, 0, [], ()), 0, 0, 0, 0, 0, 0, 0, 0, false, [], (0, 0, [], ()), ()))
 else
 bif decide (x.1.1 = 6) then
 some
 (Sum.inl
 (x.1.2.2.2.2.1, 0, 0, x.1.2.2.2.2.2.2.2.1,
 x.1.2.2.2.2.2.2.2.2.1, [], (0, 0, [], ()), 0, 0, 0, 0, 0, 0, 0, 0,
 false, [], (0, 0, [], ()), ()))
 else
 bif decide (x.1.1 = 7) then
 some
 (Sum.inl
 (0, 0, 0, 0, false, [], x.1.2.2.2.2.2.2.2.2.2.2.1, 0, 0, 0, 0, 0, 0, 0, 0,
 false, [], (0, 0, [], ()), ()))
 else
 some
 (Sum.inr
 ((0, 0, 0, 0, 0, 0, 0, 0, false, [], (0, 0, [], ()), ()), false, ()))
 else
 bif decide (x.1.1 = 4) then
 some
 (Sum.inl
 (0, 0, 0, 0, x.1.2.2.2.2.2.2.2.2.1, [], (0, 0, [], ()), 0, 0, 0, 0, 0, 0, 0,
 0, false, [], (0, 0, [], ()), ()))
 else
 bif decide (x.1.1 = 5) then
 some
 (Sum.inl
 (x.1.2.2.2.2.1, x.1.2.2.2.2.2.1, x.1.2.2.2.2.2.2.1,
 x.1.2.2.2.2.2.2.2.1, false, x.1.2.2.2.2.2.2.2.2.2.1,
 (0, 0, [], ()), 0, 0, 0, 0, 0, 0, 0, 0, false, [], (0, 0, [], ()), ()))
 else
 bif decide (x.1.1 = 6) then
 some
 (Sum.inl
 (x.1.2.2.2.2.1, 0, 0, x.1.2.2.2.2.2.2.2.1,
 x.1.2.2.2.2.2.2.2.2.1, [], (0, 0, [], ()), 0, 0, 0, 0, 0, 0, 0, 0,
 false, [], (0, 0, [], ()), ()))
 else
 bif decide (x.1.1 = 7) then
 some
 (Sum.inl
 (0, 0, 0, 0, false, [], x.1.2.2.2.2.2.2.2.2.2.2.1, 0, 0, 0, 0, 0, 0, 0, 0,
 false, [], (0, 0, [], ()), ()))
 else
 some
 (Sum.inr
 ((0, 0, 0, 0, 0, 0, 0, 0, false, [], (0, 0, [], ()), ()), false, ()))
 else
 bif decide (x.1.1 = 3) then
 some
 (Sum.inl
 (x.1.2.2.2.2.1, x.1.2.2.2.2.2.1, 0, 0, false, [], (0, 0, [], ()), 0, 0, 0,
 0, 0, 0, 0, 0, false, [], (0, 0, [], ()), ()))
 else
 bif decide (x.1.1 = 2) then
 bif decide (x.1.1 = 2) then
 some
 (Sum.inl
 (0, 0, 0, 0, x.1.2.2.2.2.2.2.2.2.1, [], (0, 0, [], ()), 0, 0, 0, 0, 0, 0, 0,
 0, false, [], (0, 0, [], ()), ()))
 else
 bif decide (x.1.1 = 5) then
 some
 (Sum.inl
 (x.1.2.2.2.2.1, x.1.2.2.2.2.2.1, x.1.2.2.2.2.2.2.1,
 x.1.2.2.2.2.2.2.2.1, false, x.1.2.2.2.2.2.2.2.2.2.1,
 (0, 0, [], ()), 0, 0, 0, 0, 0, 0, 0, 0, false, [], (0, 0, [], ()), ()))
 else
 bif decide (x.1.1 = 6) then
 some
 (Sum.inl
 (x.1.2.2.2.2.1, 0, 0, x.1.2.2.2.2.2.2.2.1,
 x.1.2.2.2.2.2.2.2.2.1, [], (0, 0, [], ()), 0, 0, 0, 0, 0, 0, 0, 0,
 false, [], (0, 0, [], ()), ()))
 else
 bif decide (x.1.1 = 7) then
 some
 (Sum.inl
 (0, 0, 0, 0, false, [], x.1.2.2.2.2.2.2.2.2.2.2.1, 0, 0, 0, 0, 0, 0, 0, 0,
 false, [], (0, 0, [], ()), ()))
 else
 some
 (Sum.inr
 ((0, 0, 0, 0, 0, 0, 0, 0, false, [], (0, 0, [], ()), ()), false, ()))
 else
 bif decide (x.1.1 = 4) then
 some
 (Sum.inl
 (0, 0, 0, 0, x.1.2.2.2.2.2.2.2.2.1, [], (0, 0, [], ()), 0, 0, 0, 0, 0, 0, 0,
 0, false, [], (0, 0, [], ()), ()))
 else
 bif decide (x.1.1 = 5) then
 some
 (Sum.inl
 (x.1.2.2.2.2.1, x.1.2.2.2.2.2.1, x.1.2.2.2.2.2.2.1,
 x.1.2.2.2.2.2.2.2.1, false, x.1.2.2.2.2.2.2.2.2.2.1,
 (0, 0, [], ()), 0, 0, 0, 0, 0, 0, 0, 0, false, [], (0, 0, [], ()), ()))
 else
 bif decide (x.1.1 = 6) then
 some
 (Sum.inl
 (x.1.2.2.2.2.1, 0, 0, x.1.2.2.2.2.2.2.2.1,
 x.1.2.2.2.2.2.2.2.2.1, [], (0, 0, [], ()), 0, 0, 0, 0, 0, 0, 0, 0,
 false, [], (0, 0, [], ()), ()))
 else
 bif decide (x.1.1 = 7) then
 some
 (Sum.inl
 (0, 0, 0, 0, false, [], x.1.2.2.2.2.2.2.2.2.2.2.1, 0, 0, 0, 0, 0, 0, 0, 0,
 false, [], (0, 0, [], ()), ()))
 else
 some
 (Sum.inr
 ((0, 0, 0, 0, 0, 0, 0, 0, false, [], (0, 0, [], ()), ()), false, ())))
 fun o =>
 Sum.elim
 (fun (x_1 :
 Int × Int × Int × Int × Bool × List T25D × T25D × Int × Int × Int × Int × Int × Int × Int × Int × Bool × List T25D × T25D × Unit) =>
 some
 ((x.1.1, x.1.2.1, x.1.2.2.1, x.1.2.2.2.1, x_1.1, x_1.2.1, x_1.2.2.1,
 x_1.2.2.2.1, x_1.2.2.2.2.1, x_1.2.2.2.2.2.1,
 x_1.2.2.2.2.2.2.1, ()),
 true, ()))
 (fun (val :
 (Int × Int × Int × Int × Int × Int × Int × Int × Bool × List T25D × T25D × Unit) × Bool × Unit) =>
 some val)
 o
def S146 : Sig := ⟨P146, R146, F146⟩
def E146 : Env := en 66 [] [(16, ⟨[⟨.fld 1010000 4, (.int .i64), .pv⟩, ⟨.fld 1010000 5, (.int .i64), .pv⟩, ⟨.fld 1010000 6, (.int .i64), .pv⟩, ⟨.fld 1010000 7, (.int .i64), .pv⟩, ⟨.fld 1010000 8, .bool, .pv⟩, ⟨.fld 1010000 9, (.slice T25), .pv⟩, ⟨.fld 1010000 10, T25, .pv⟩, ⟨.fld 2000 0, (.int .i64), .pv⟩, ⟨.fld 2000 1, (.int .i64), .pv⟩, ⟨.fld 2000 2, (.int .i64), .pv⟩, ⟨.fld 2000 3, (.int .i64), .pv⟩, ⟨.fld 2000 4, (.int .i64), .pv⟩, ⟨.fld 2000 5, (.int .i64), .pv⟩, ⟨.fld 2000 6, (.int .i64), .pv⟩, ⟨.fld 2000 7, (.int .i64), .pv⟩, ⟨.fld 2000 8, .bool, .pv⟩, ⟨.fld 2000 9, (.slice T25), .own false⟩, ⟨.fld 2000 10, T25, .pv⟩], [2, 4], [.site 1010000, .fld 1010000 0, .fld 1010000 1, .fld 1010000 2, .fld 1010000 3, .site 2000]⟩)] []
theorem raw146_eq (x : T27D × Unit) : afun E146 Tryz.f146 P146 R146 x = F146 x := by kernel_rfl
-- decamp/rmsg.node
def F147 (x : Int × Unit) : Option (Bool × Unit) := bif decide (0 ≤ x.1) then some (decide (x.1 < 3), ()) else some (false, ())
def S147 : Sig := ⟨P147, R147, F147⟩
def E147 : Env := en 9 [] [] []
theorem raw147_eq (x : Int × Unit) : afun E147 Tryz.f147 P147 R147 x = F147 x := by kernel_rfl
-- decamp/rmsg.numbers
def F148 (x : List Int × Unit) : Option (Bool × Unit) :=
 iterE (Int × Unit) (Bool × Unit)
 (fun (x_1 : Int × Unit) =>
 bif decide (x_1.1 < Int.ofNat (List.length x.1)) then
 Option.bind (idx x.1 x_1.1) fun b =>
 bif decide (b < 0) then some (Sum.inr (false, ()))
 else
 bif decide (1099511627776 < b) then some (Sum.inr (false, ()))
 else some (Sum.inl (wrap64 (x_1.1 + 1), ()))
 else some (Sum.inr (true, ())))
 big (0, ())
def S148 : Sig := ⟨P148, R148, F148⟩
def E148 : Env := en 18 [] [] [(2, mkLoop ⟨[⟨.slot 7, (.int .i64), .pv⟩], [5, 6], []⟩)]
theorem raw148_eq (x : List Int × Unit) : afun E148 Tryz.f148 P148 R148 x = F148 x := by kernel_rfl
-- decamp/entry.number
def F199 (x : Int × Unit) : Option (Bool × Unit) :=
 bif decide (1 ≤ x.1) then some (decide (x.1 ≤ 1099511627776), ()) else some (false, ())
def S199 : Sig := ⟨P199, R199, F199⟩
def E199 : Env := en 9 [] [] []
theorem raw199_eq (x : Int × Unit) : afun E199 Tryz.f199 P199 R199 x = F199 x := by kernel_rfl
-- decamp/entry.Right
def F173 (x : T25D × Unit) : Option (Bool × Unit) :=
 Option.bind (F199 (x.1.1, ())) fun b =>
 bif b.1 then
 Option.bind (F199 (x.1.2.1, ())) fun b =>
 bif b.1 then some (decide (Int.ofNat (List.length x.1.2.2.1) ≤ 12000), ())
 else some (false, ())
 else some (false, ())
def S173 : Sig := ⟨P173, R173, F173⟩
def E173 : Env := en 17 [(199, [S199])] [] []
theorem raw173_eq (x : T25D × Unit) : afun E173 Tryz.f173 P173 R173 x = F173 x := by kernel_rfl
-- decamp/entry.Run
def F149 (x : Int × Int × List T25D × Unit) : Option (Bool × Unit) :=
 iterE T113D (Bool × Unit)
 (fun (x_1 : T113D) =>
 bif decide (x_1.2.2.1 < Int.ofNat (List.length x.2.2.1)) then
 Option.bind (idx x.2.2.1 x_1.2.2.1) fun b =>
 Option.bind (F173 (b, ())) fun b_1 =>
 bif !b_1.1 then some (Sum.inr (false, ()))
 else
 bif !decide (wrap64 (b.1 - 1) = x_1.1) then some (Sum.inr (false, ()))
 else
 bif decide (b.2.1 < x_1.2.1) then some (Sum.inr (false, ()))
 else some (Sum.inl (b.1, b.2.1, wrap64 (x_1.2.2.1 + 1), ()))
 else some (Sum.inr (true, ())))
 big (x.1, x.2.1, 0, ())
def S149 : Sig := ⟨P149, R149, F149⟩
def E149 : Env := en 36 [(173, [S173])] [] [(2, mkLoop ⟨[⟨.slot 0, (.int .i64), .pv⟩, ⟨.slot 1, (.int .i64), .pv⟩, ⟨.slot 11, (.int .i64), .pv⟩], [9, 10], []⟩)]
theorem raw149_eq (x : Int × Int × List T25D × Unit) : afun E149 Tryz.f149 P149 R149 x = F149 x := by kernel_rfl
-- decamp/entry.RightSnap
def F150 (x : T25D × Unit) : Option (Bool × Unit) :=
 Option.bind
 (bif decide (x.1.1 = 0) then
 bif decide (x.1.2.1 = 0) then
 some (Sum.inr (decide (Int.ofNat (List.length x.1.2.2.1) = 0), ()))
 else some (Sum.inl ())
 else some (Sum.inl ()))
 fun o =>
 Sum.elim
 (fun (_z : Unit) =>
 Option.bind (F199 (x.1.1, ())) fun b =>
 bif b.1 then
 Option.bind (F199 (x.1.2.1, ())) fun b =>
 bif b.1 then some (decide (Int.ofNat (List.length x.1.2.2.1) ≤ 50000), ())
 else some (false, ())
 else some (false, ()))
 (fun (val : Bool × Unit) => some val) o
def S150 : Sig := ⟨P150, R150, F150⟩
def E150 : Env := en 29 [(199, [S199])] [(3, ⟨[], [1], [.site 1000, .fld 1000 0, .fld 1000 1, .fld 1000 2]⟩)] []
theorem raw150_eq (x : T25D × Unit) : afun E150 Tryz.f150 P150 R150 x = F150 x := by kernel_rfl
-- decamp/rmsg.Right
def F71 (x : T27D × Unit) : Option (Bool × Unit) :=
 Option.bind (F146 x)
 fun b =>
 bif !b.2.1 then some (false, ())
 else
 Option.bind (F75 (b.1, x)) fun b =>
 bif !b.1 then some (false, ())
 else
 Option.bind (F147 (x.1.2.1, ())) fun b =>
 bif !b.1 then some (false, ())
 else
 Option.bind (F147 (x.1.2.2.1, ())) fun b =>
 bif !b.1 then some (false, ())
 else
 bif decide (x.1.2.1 = x.1.2.2.1) then some (false, ())
 else
 bif decide (x.1.2.2.2.1 < 1) then some (false, ())
 else
 Option.bind
 (F148
 ([x.1.2.2.2.1, x.1.2.2.2.2.1, x.1.2.2.2.2.2.1,
 x.1.2.2.2.2.2.2.1, x.1.2.2.2.2.2.2.2.1],
 ()))
 fun b =>
 bif !b.1 then some (false, ())
 else
 bif decide (4 < Int.ofNat (List.length x.1.2.2.2.2.2.2.2.2.2.1)) then
 some (false, ())
 else
 Option.bind
 (F149
 (x.1.2.2.2.2.1, x.1.2.2.2.2.2.1,
 x.1.2.2.2.2.2.2.2.2.2.1, ()))
 fun b =>
 bif !b.1 then some (false, ())
 else
 iterE (Int × Unit) (Bool × Unit)
 (fun (x_1 : Int × Unit) =>
 bif
 decide
 (x_1.1 <
 Int.ofNat (List.length x.1.2.2.2.2.2.2.2.2.2.1)) then
 Option.bind (idx x.1.2.2.2.2.2.2.2.2.2.1 x_1.1)
 fun b =>
 bif decide (x.1.2.2.2.1 < b.2.1) then
 some (Sum.inr (false, ()))
 else some (Sum.inl (wrap64 (x_1.1 + 1), ()))
 else
 Option.map Sum.inr
 (bif !decide (x.1.1 = 7) then some (true, ())
 else
 Option.bind (F150 x.1.2.2.2.2.2.2.2.2.2.2)
 fun b =>
 bif b.1 then
 some
 (decide (0 < x.1.2.2.2.2.2.2.2.2.2.2.1.1),
 ())
 else some (false, ())))
 big (0, ())
def S71 : Sig := ⟨P71, R71, F71⟩
def E71 : Env := en 100 [(75, [S75]), (146, [S146]), (147, [S147]), (148, [S148]), (149, [S149]), (150, [S150])] [] [(7, mkLoop ⟨[⟨.slot 76, (.int .i64), .pv⟩], [1, 74, 75], [.site 1000, .fld 1000 0, .fld 1000 1, .fld 1000 2, .fld 1000 3, .fld 1000 4, .fld 1000 5, .fld 1000 6, .fld 1000 7, .fld 1000 8, .fld 1000 9, .fld 1000 10]⟩)]
theorem raw71_eq (x : T27D × Unit) : afun E71 Tryz.f71 P71 R71 x = F71 x := by kernel_rfl
-- decamp/talk.within
def F72 (x : T113D) : Option (Bool × Unit) :=
 bif decide (x.2.1 ≤ x.1) then some (decide (x.1 ≤ x.2.2.1), ()) else some (false, ())
def S72 : Sig := ⟨P72, R72, F72⟩
def E72 : Env := en 15 [] [] []
theorem raw72_eq (x : T113D) : afun E72 Tryz.f72 P72 R72 x = F72 x := by kernel_rfl
-- decamp/index.text
def F200 (x : List UInt8 × UInt8 × Unit) : Option (Bool × Unit) :=
 bif decide (Int.ofNat (List.length x.1) < 1) then some (false, ())
 else
 bif decide (32 < Int.ofNat (List.length x.1)) then some (false, ())
 else
 iterE (Int × Unit) (Bool × Unit)
 (fun (x_1 : Int × Unit) =>
 bif decide (x_1.1 < Int.ofNat (List.length x.1)) then
 Option.bind (idx x.1 x_1.1) fun b =>
 bif decide (intOf8 b < intOf8 (UInt8.ofNat 33)) then some (Sum.inr (false, ()))
 else
 Option.bind (idx x.1 x_1.1) fun b =>
 bif decide (intOf8 x.2.1 < intOf8 b) then some (Sum.inr (false, ()))
 else some (Sum.inl (wrap64 (x_1.1 + 1), ()))
 else some (Sum.inr (true, ())))
 big (0, ())
def S200 : Sig := ⟨P200, R200, F200⟩
def E200 : Env := en 31 [] [] [(4, mkLoop ⟨[⟨.slot 16, (.int .i64), .pv⟩], [0, 1, 15], []⟩)]
theorem raw200_eq (x : List UInt8 × UInt8 × Unit) : afun E200 Tryz.f200 P200 R200 x = F200 x := by kernel_rfl
-- decamp/index.Key
def F153 (x : T83D) : Option (Bool × Unit) := Option.bind (F200 (x.1, UInt8.ofNat 126, ())) fun b => some b
def S153 : Sig := ⟨P153, R153, F153⟩
def E153 : Env := en 5 [(200, [S200])] [] []
theorem raw153_eq (x : T83D) : afun E153 Tryz.f153 P153 R153 x = F153 x := by kernel_rfl
-- decamp/cmd.Prefix
def F152 (x : T83D) : Option (Bool × Unit) :=
 bif decide (Int.ofNat (List.length x.1) ≤ 8) then Option.bind (F153 x) fun b => some b
 else some (false, ())
def S152 : Sig := ⟨P152, R152, F152⟩
def E152 : Env := en 10 [(153, [S153])] [] []
theorem raw152_eq (x : T83D) : afun E152 Tryz.f152 P152 R152 x = F152 x := by kernel_rfl
-- decamp/cmd.within
def F176 (x : T113D) : Option (Bool × Unit) :=
 bif decide (x.2.1 ≤ x.1) then some (decide (x.1 ≤ x.2.2.1), ()) else some (false, ())
def S176 : Sig := ⟨P176, R176, F176⟩
def E176 : Env := en 15 [] [] []
theorem raw176_eq (x : T113D) : afun E176 Tryz.f176 P176 R176 x = F176 x := by kernel_rfl
-- decamp/cmd.positive$1
def F218 (x : Int × Unit) : Option (Bool × Unit) :=
 Option.bind (F176 (x.1, 1, 1099511627776, ())) fun b => some (!b.1, ())
def S218 : Sig := ⟨P218, R218, F218⟩
def E218 : Env := en 6 [(176, [S176])] [] []
theorem raw218_eq (x : Int × Unit) : afun E218 Tryz.f218 P218 R218 x = F218 x := by kernel_rfl
-- slices.IndexFunc[[]int64,int64]
def F234a (x : List Int × Unit) : Option (Int × Unit) :=
 iterE (Int × Unit) (Int × Unit)
 (fun (x_1 : Int × Unit) =>
 bif decide (x_1.1 < Int.ofNat (List.length x.1)) then
 Option.bind (idx x.1 x_1.1) fun b =>
 Option.bind (F218 (b, ())) fun b =>
 bif b.1 then some (Sum.inr x_1) else some (Sum.inl (wrap64 (x_1.1 + 1), ()))
 else some (Sum.inr (-1, ())))
 big (0, ())
def S234a : Sig := ⟨P234a, R234a, F234a⟩
def E234a : Env := en 19 [(218, [S218])] [] [(2, mkLoop ⟨[⟨.slot 8, (.int .i64), .pv⟩], [0, 1, 7], []⟩)]
theorem raw234a_eq (x : List Int × Unit) : afun E234a Tryz.f234 P234a R234a x = F234a x := by kernel_rfl
-- slices.ContainsFunc[[]int64,int64]
def F217a (x : List Int × Unit) : Option (Bool × Unit) := Option.bind (F234a x) fun b => some (decide (0 ≤ b.1), ())
def S217a : Sig := ⟨P217a, R217a, F217a⟩
def E217a : Env := en 9 [(218, [S218]), (234, [S234a])] [] []
theorem raw217a_eq (x : List Int × Unit) : afun E217a Tryz.f217 P217a R217a x = F217a x := by kernel_rfl
-- decamp/cmd.positive
def F177 (x : List Int × Unit) : Option (Bool × Unit) := Option.bind (F217a x) fun b => some (!b.1, ())
def S177 : Sig := ⟨P177, R177, F177⟩
def E177 : Env := en 6 [(217, [S217a]), (218, [S218])] [] []
theorem raw177_eq (x : List Int × Unit) : afun E177 Tryz.f177 P177 R177 x = F177 x := by kernel_rfl
-- decamp/cmd.natural$1
def F226 (x : Int × Unit) : Option (Bool × Unit) :=
 Option.bind (F176 (x.1, 0, 1099511627776, ())) fun b => some (!b.1, ())
def S226 : Sig := ⟨P226, R226, F226⟩
def E226 : Env := en 6 [(176, [S176])] [] []
theorem raw226_eq (x : Int × Unit) : afun E226 Tryz.f226 P226 R226 x = F226 x := by kernel_rfl
-- slices.IndexFunc[[]int64,int64]
def F234b (x : List Int × Unit) : Option (Int × Unit) :=
 iterE (Int × Unit) (Int × Unit)
 (fun (x_1 : Int × Unit) =>
 bif decide (x_1.1 < Int.ofNat (List.length x.1)) then
 Option.bind (idx x.1 x_1.1) fun b =>
 Option.bind (F226 (b, ())) fun b =>
 bif b.1 then some (Sum.inr x_1) else some (Sum.inl (wrap64 (x_1.1 + 1), ()))
 else some (Sum.inr (-1, ())))
 big (0, ())
def S234b : Sig := ⟨P234b, R234b, F234b⟩
def E234b : Env := en 19 [(226, [S226])] [] [(2, mkLoop ⟨[⟨.slot 8, (.int .i64), .pv⟩], [0, 1, 7], []⟩)]
theorem raw234b_eq (x : List Int × Unit) : afun E234b Tryz.f234 P234b R234b x = F234b x := by kernel_rfl
-- slices.ContainsFunc[[]int64,int64]
def F217b (x : List Int × Unit) : Option (Bool × Unit) := Option.bind (F234b x) fun b => some (decide (0 ≤ b.1), ())
def S217b : Sig := ⟨P217b, R217b, F217b⟩
def E217b : Env := en 9 [(226, [S226]), (234, [S234a, S234b])] [] []
theorem raw217b_eq (x : List Int × Unit) : afun E217b Tryz.f217 P217b R217b x = F217b x := by kernel_rfl
-- decamp/cmd.natural
def F201 (x : List Int × Unit) : Option (Bool × Unit) := Option.bind (F217b x) fun b => some (!b.1, ())
def S201 : Sig := ⟨P201, R201, F201⟩
def E201 : Env := en 6 [(217, [S217a, S217b]), (226, [S226])] [] []
theorem raw201_eq (x : List Int × Unit) : afun E201 Tryz.f201 P201 R201 x = F201 x := by kernel_rfl
-- decamp/hist.number
def F237 (x : Int × Unit) : Option (Bool × Unit) :=
 bif decide (1 ≤ x.1) then some (decide (x.1 ≤ 1099511627776), ()) else some (false, ())
def S237 : Sig := ⟨P237, R237, F237⟩
def E237 : Env := en 9 [] [] []
theorem raw237_eq (x : Int × Unit) : afun E237 Tryz.f237 P237 R237 x = F237 x := by kernel_rfl
-- decamp/hist.right
def F228 (x : T66D × Unit) : Option (Bool × Unit) :=
 Option.bind (F237 (x.1.1, ())) fun b =>
 bif !b.1 then some (false, ())
 else
 Option.bind (F237 (x.1.2.2.1, ())) fun b =>
 bif !b.1 then some (false, ())
 else
 bif x.1.2.2.2.2.2.2.1 then
 bif decide (x.1.2.1 = 0) then
 bif decide (x.1.2.2.2.1 = 0) then
 bif decide (x.1.2.2.2.2.2.1 = 0) then
 some (decide (x.1.2.2.2.2.1 = []), ())
 else some (false, ())
 else some (false, ())
 else some (false, ())
 else
 bif decide (1 ≤ x.1.2.1) then
 bif decide (x.1.2.1 ≤ x.1.2.2.1) then
 Option.bind (F237 (x.1.2.2.2.1, ())) fun b =>
 bif b.1 then
 bif decide (Int.ofNat (List.length x.1.2.2.2.2.1) ≤ 40) then
 bif decide (-1099511627776 ≤ x.1.2.2.2.2.2.1) then
 some (decide (x.1.2.2.2.2.2.1 ≤ 1099511627776), ())
 else some (false, ())
 else some (false, ())
 else some (false, ())
 else some (false, ())
 else some (false, ())
def S228 : Sig := ⟨P228, R228, F228⟩
def E228 : Env := en 64 [(237, [S237])] [] []
theorem raw228_eq (x : T66D × Unit) : afun E228 Tryz.f228 P228 R228 x = F228 x := by kernel_rfl
-- decamp/hist.Right
def F206 (x : List T66D × Unit) : Option (Bool × Unit) :=
 iterE (Int × Unit) (Bool × Unit)
 (fun (x_1 : Int × Unit) =>
 bif decide (x_1.1 < Int.ofNat (List.length x.1)) then
 Option.bind (idx x.1 x_1.1) fun b =>
 Option.bind (F228 (b, ())) fun b_1 =>
 bif !b_1.1 then some (Sum.inr (false, ()))
 else
 bif decide (0 < x_1.1) then
 Option.bind (idx x.1 (wrap64 (x_1.1 - 1)))
 fun b_2 =>
 bif decide (b.1 ≤ b_2.1) then some (Sum.inr (false, ()))
 else
 Option.bind (idx x.1 (wrap64 (x_1.1 - 1)))
 fun b_3 =>
 bif decide (b.2.2.1 ≤ b_3.2.2.1) then some (Sum.inr (false, ()))
 else some (Sum.inl (wrap64 (x_1.1 + 1), ()))
 else some (Sum.inl (wrap64 (x_1.1 + 1), ()))
 else some (Sum.inr (true, ())))
 big (0, ())
def S206 : Sig := ⟨P206, R206, F206⟩
def E206 : Env := en 42 [(228, [S228])] [] [(2, mkLoop ⟨[⟨.slot 7, (.int .i64), .pv⟩], [0, 5, 6], []⟩)]
theorem raw206_eq (x : List T66D × Unit) : afun E206 Tryz.f206 P206 R206 x = F206 x := by kernel_rfl
-- decamp/cmd.version
def F204 (x : T66D × Unit) : Option (Bool × Unit) :=
 Option.bind (F206 ([x.1], ())) fun b => some b
def S204 : Sig := ⟨P204, R204, F204⟩
def E204 : Env := en 6 [(206, [S206])] [] []
theorem raw204_eq (x : T66D × Unit) : afun E204 Tryz.f204 P204 R204 x = F204 x := by kernel_rfl
-- decamp/cmd.RightReply$1
def F203 (x : T70D × Unit) : Option (Bool × Unit) :=
 Option.bind (F153 (x.1.1, ())) fun b =>
 bif !b.1 then some (true, ())
 else Option.bind (F204 x.1.2) fun b => some (!b.1, ())
def S203 : Sig := ⟨P203, R203, F203⟩
def E203 : Env := en 13 [(153, [S153]), (204, [S204])] [] []
theorem raw203_eq (x : T70D × Unit) : afun E203 Tryz.f203 P203 R203 x = F203 x := by kernel_rfl
-- slices.IndexFunc[[]decamp/api.Item,decamp/api.Item]
def F227a (x : List T70D × Unit) : Option (Int × Unit) :=
 iterE (Int × Unit) (Int × Unit)
 (fun (x_1 : Int × Unit) =>
 bif decide (x_1.1 < Int.ofNat (List.length x.1)) then
 Option.bind (idx x.1 x_1.1)
 fun b =>
 Option.bind (F203 (b, ())) fun b =>
 bif b.1 then some (Sum.inr x_1) else some (Sum.inl (wrap64 (x_1.1 + 1), ()))
 else some (Sum.inr (-1, ())))
 big (0, ())
def S227a : Sig := ⟨P227a, R227a, F227a⟩
def E227a : Env := en 19 [(203, [S203])] [] [(2, mkLoop ⟨[⟨.slot 8, (.int .i64), .pv⟩], [0, 1, 7], []⟩)]
theorem raw227a_eq (x : List T70D × Unit) : afun E227a Tryz.f227 P227a R227a x = F227a x := by kernel_rfl
-- slices.ContainsFunc[[]decamp/api.Item,decamp/api.Item]
def F202a (x : List T70D × Unit) : Option (Bool × Unit) :=
 Option.bind (F227a x) fun b => some (decide (0 ≤ b.1), ())
def S202a : Sig := ⟨P202a, R202a, F202a⟩
def E202a : Env := en 9 [(203, [S203]), (227, [S227a])] [] []
theorem raw202a_eq (x : List T70D × Unit) : afun E202a Tryz.f202 P202a R202a x = F202a x := by kernel_rfl
-- decamp/cmd.RightReply
def F154 (x : T51D × Unit) : Option (Bool × Unit) :=
 bif decide (x.1.1 < 0) then some (false, ())
 else
 bif decide (15 < x.1.1) then some (false, ())
 else
 Option.bind (F201 ([x.1.2.1, x.1.2.2.2.1, x.1.2.2.2.2.2.2.1], ()))
 fun b =>
 bif !b.1 then some (false, ())
 else
 bif decide (x.1.2.2.2.2.2.1 < 0) then some (false, ())
 else
 bif decide (1 < x.1.2.2.2.2.2.1) then some (false, ())
 else
 bif decide (8 < Int.ofNat (List.length x.1.2.2.2.2.1)) then some (false, ())
 else
 Option.bind (F202a (x.1.2.2.2.2.1, ())) fun b =>
 some (!b.1, ())
def S154 : Sig := ⟨P154, R154, F154⟩
def E154 : Env := en 42 [(201, [S201]), (202, [S202a]), (203, [S203])] [] []
theorem raw154_eq (x : T51D × Unit) : afun E154 Tryz.f154 P154 R154 x = F154 x := by kernel_rfl
-- decamp/cmd.rightSess
def F229 (x : List T94D × Int × Unit) : Option (Bool × Unit) :=
 iterE (Int × Unit) (Bool × Unit)
 (fun (x_1 : Int × Unit) =>
 bif decide (x_1.1 < Int.ofNat (List.length x.1)) then
 Option.bind (idx x.1 x_1.1)
 fun b =>
 Option.bind (F176 (b.1, 1, x.2)) fun b_1 =>
 bif !b_1.1 then some (Sum.inr (false, ()))
 else
 Option.bind (F177 ([b.2.1], ())) fun b_2 =>
 bif !b_2.1 then some (Sum.inr (false, ()))
 else
 Option.bind (F154 b.2.2) fun b_3 =>
 bif !b_3.1 then some (Sum.inr (false, ()))
 else
 bif decide (0 < x_1.1) then
 Option.bind (idx x.1 (wrap64 (x_1.1 - 1)))
 fun b_4 =>
 bif decide (b.1 ≤ b_4.1) then some (Sum.inr (false, ()))
 else some (Sum.inl (wrap64 (x_1.1 + 1), ()))
 else some (Sum.inl (wrap64 (x_1.1 + 1), ()))
 else some (Sum.inr (true, ())))
 big (0, ())
def S229 : Sig := ⟨P229, R229, F229⟩
def E229 : Env := en 48 [(154, [S154]), (176, [S176]), (177, [S177])] [] [(2, mkLoop ⟨[⟨.slot 9, (.int .i64), .pv⟩], [0, 1, 7, 8], []⟩)]
theorem raw229_eq (x : List T94D × Int × Unit) : afun E229 Tryz.f229 P229 R229 x = F229 x := by kernel_rfl
-- decamp/cmd.rightLeases
def F230 (x : List T113D × Unit) : Option (Bool × Unit) :=
 iterE (Int × Unit) (Bool × Unit)
 (fun (x_1 : Int × Unit) =>
 bif decide (x_1.1 < Int.ofNat (List.length x.1)) then
 Option.bind (idx x.1 x_1.1) fun b =>
 Option.bind (F177 ([b.1], ())) fun b_1 =>
 bif !b_1.1 then some (Sum.inr (false, ()))
 else
 Option.bind (F176 (b.2.1, 1, 1000, ())) fun b_2 =>
 bif !b_2.1 then some (Sum.inr (false, ()))
 else
 Option.bind (F176 (b.2.2.1, 0, 1000, ())) fun b_3 =>
 bif !b_3.1 then some (Sum.inr (false, ()))
 else
 bif decide (0 < x_1.1) then
 Option.bind (idx x.1 (wrap64 (x_1.1 - 1)))
 fun b_4 =>
 bif decide (b.1 ≤ b_4.1) then some (Sum.inr (false, ()))
 else some (Sum.inl (wrap64 (x_1.1 + 1), ()))
 else some (Sum.inl (wrap64 (x_1.1 + 1), ()))
 else some (Sum.inr (decide (Int.ofNat (List.length x.1) ≤ 64), ())))
 big (0, ())
def S230 : Sig := ⟨P230, R230, F230⟩
def E230 : Env := en 48 [(176, [S176]), (177, [S177])] [] [(2, mkLoop ⟨[⟨.slot 7, (.int .i64), .pv⟩], [0, 5, 6], []⟩)]
theorem raw230_eq (x : List T113D × Unit) : afun E230 Tryz.f230 P230 R230 x = F230 x := by kernel_rfl
-- decamp/cmd.handed
def F207 (x : List T94D × List T113D × Unit) : Option (Bool × Unit) :=
 Option.bind (F229 (x.1, 15, ())) fun b =>
 bif b.1 then Option.bind (F230 x.2) fun b => some b else some (false, ())
def S207 : Sig := ⟨P207, R207, F207⟩
def E207 : Env := en 11 [(229, [S229]), (230, [S230])] [] []
theorem raw207_eq (x : List T94D × List T113D × Unit) : afun E207 Tryz.f207 P207 R207 x = F207 x := by kernel_rfl
-- decamp/cmd.keepClient
def F231 (x : T28D × Unit) : Option (T28D × Unit) :=
 Option.bind
 (bif decide (x.1.1 = 1) then
 some (Sum.inl (x.1.2.1, [], x.1.2.2.2.1, x.1.2.2.2.2.1, 0, 0, [], [], [], ()))
 else
 bif decide (x.1.1 = 2) then
 some (Sum.inl (x.1.2.1, x.1.2.2.1, [], 0, 0, 0, [], [], [], ()))
 else
 bif decide (x.1.1 = 3) then
 some
 (Sum.inl
 ([], [], [], 0, 0, 0, x.1.2.2.2.2.2.2.2.1, x.1.2.2.2.2.2.2.2.2.1,
 x.1.2.2.2.2.2.2.2.2.2.1, ()))
 else
 bif decide (x.1.1 = 4) then
 some (Sum.inl ([], [], [], 0, 0, x.1.2.2.2.2.2.2.1, [], [], [], ()))
 else
 bif decide (x.1.1 = 5) then
 some
 (Sum.inl
 ([], [], [], x.1.2.2.2.2.1, x.1.2.2.2.2.2.1, 0, [], [], [], ()))
 else
 bif decide (x.1.1 = 6) then
 bif decide (x.1.1 = 6) then
 some (Sum.inl ([], [], [], x.1.2.2.2.2.1, 0, 0, [], [], [], ()))
 else some (Sum.inl ([], [], [], 0, 0, 0, [], [], [], ()))
 else
 bif decide (x.1.1 = 7) then
 bif decide (x.1.1 = 7) then
 some (Sum.inl ([], [], [], x.1.2.2.2.2.1, 0, 0, [], [], [], ()))
 else some (Sum.inl ([], [], [], 0, 0, 0, [], [], [], ()))
 else
 bif decide (x.1.1 = 9) then
 some (Sum.inl ([], [], [], x.1.2.2.2.2.1, 0, 0, [], [], [], ()))
 else some (Sum.inl ([], [], [], 0, 0, 0, [], [], [], ())))
 fun o =>
 Sum.elim
 (fun (x_1 :
 List UInt8 × List UInt8 × List UInt8 × Int × Int × Int × List T96D × List T48D × List T48D × Unit) =>
 some
 ((x.1.1, x_1.1, x_1.2.1, x_1.2.2.1, x_1.2.2.2.1, x_1.2.2.2.2.1,
 x_1.2.2.2.2.2.1, x_1.2.2.2.2.2.2.1, x_1.2.2.2.2.2.2.2.1,
 x_1.2.2.2.2.2.2.2.2.1, 0, 0, 0, false, [], [], [], ()),
 ()))
 (fun (val :
 (Int × List UInt8 × List UInt8 × List UInt8 × Int × Int × Int × List T96D × List T48D × List T48D × Int × Int × Int × Bool × List T70D × List (Int × Int × (Int × Int × Bool × Int × List T70D × Int × Int × Unit) × Unit) × List T113D × Unit) × Unit) =>
 some val)
 o
def S231 : Sig := ⟨P231, R231, F231⟩
def E231 : Env := en 60 [] [(17, ⟨[⟨.fld 1004000 1, .str, .pv⟩, ⟨.fld 1004000 2, .str, .pv⟩, ⟨.fld 1004000 3, .str, .pv⟩, ⟨.fld 1004000 4, (.int .i64), .pv⟩, ⟨.fld 1004000 5, (.int .i64), .pv⟩, ⟨.fld 1004000 6, (.int .i64), .pv⟩, ⟨.fld 1004000 7, (.slice T96), .pv⟩, ⟨.fld 1004000 8, (.slice T48), .pv⟩, ⟨.fld 1004000 9, (.slice T48), .pv⟩], [2, 3], [.site 1004000, .fld 1004000 0, .fld 1004000 10, .fld 1004000 11, .fld 1004000 12, .fld 1004000 13, .fld 1004000 14, .fld 1004000 15, .fld 1004000 16, .site 2000, .fld 2000 0, .fld 2000 1, .fld 2000 2, .fld 2000 3, .fld 2000 4, .fld 2000 5, .fld 2000 6, .fld 2000 7, .fld 2000 8, .fld 2000 9, .fld 2000 10, .fld 2000 11, .fld 2000 12, .fld 2000 13, .fld 2000 14, .fld 2000 15, .fld 2000 16]⟩)] []
theorem raw231_eq (x : T28D × Unit) : afun E231 Tryz.f231 P231 R231 x = F231 x := by kernel_rfl
-- decamp/cmd.keep
def F213 (x : T28D × Unit) : Option (T28D × Unit) :=
 Option.bind
 (bif decide (x.1.1 = 11) then
 bif decide (x.1.1 = 11) then
 some
 (Sum.inl
 ([], [], 0, 0, 0, false, [], [], [], 0, [], [], [], 0, 0, 0, [], [], [], 0, 0, 0, false, [], [], [],
 ()))
 else
 bif decide (x.1.1 = 10) then
 some
 (Sum.inl
 (x.1.2.1, [], 0, 0, 0, false, [], [], [], 0, [], [], [], 0, 0, 0, [], [], [], 0, 0, 0, false, [],
 [], [], ()))
 else
 bif decide (x.1.1 = 12) then
 some
 (Sum.inl
 (x.1.2.1, x.1.2.2.1, x.1.2.2.2.2.2.2.1,
 x.1.2.2.2.2.2.2.2.2.2.2.2.1, 0, false, [], [], [], 0, [], [], [], 0, 0, 0,
 [], [], [], 0, 0, 0, false, [], [], [], ()))
 else
 bif decide (x.1.1 = 13) then
 some
 (Sum.inl
 (x.1.2.1, x.1.2.2.1, 0, x.1.2.2.2.2.2.2.2.2.2.2.2.1, 0,
 x.1.2.2.2.2.2.2.2.2.2.2.2.2.2.1,
 x.1.2.2.2.2.2.2.2.2.2.2.2.2.2.2.1, [], [], 0, [], [], [], 0, 0, 0,
 [], [], [], 0, 0, 0, false, [], [], [], ()))
 else
 bif decide (x.1.1 = 14) then
 some
 (Sum.inl
 ([], [], x.1.2.2.2.2.2.2.1, x.1.2.2.2.2.2.2.2.2.2.2.2.1,
 x.1.2.2.2.2.2.2.2.2.2.2.2.2.1, false,
 x.1.2.2.2.2.2.2.2.2.2.2.2.2.2.2.1, [], [], 0, [], [], [], 0, 0, 0,
 [], [], [], 0, 0, 0, false, [], [], [], ()))
 else
 bif decide (x.1.1 = 15) then
 some
 (Sum.inl
 ([], [], x.1.2.2.2.2.2.2.1, x.1.2.2.2.2.2.2.2.2.2.2.2.1,
 0, false, [], x.1.2.2.2.2.2.2.2.2.2.2.2.2.2.2.2.1,
 x.1.2.2.2.2.2.2.2.2.2.2.2.2.2.2.2.2.1, 0, [], [], [], 0, 0,
 0, [], [], [], 0, 0, 0, false, [], [], [], ()))
 else
 Option.bind (F231 x)
 fun b =>
 some (Sum.inr b)
 else
 bif decide (x.1.1 = 16) then
 some
 (Sum.inl
 ([], [], 0, 0, 0, false, [], [], [], 0, [], [], [], 0, 0, 0, [], [], [], 0, 0, 0, false, [], [], [],
 ()))
 else
 bif decide (x.1.1 = 10) then
 some
 (Sum.inl
 (x.1.2.1, [], 0, 0, 0, false, [], [], [], 0, [], [], [], 0, 0, 0, [], [], [], 0, 0, 0, false, [],
 [], [], ()))
 else
 bif decide (x.1.1 = 12) then
 some
 (Sum.inl
 (x.1.2.1, x.1.2.2.1, x.1.2.2.2.2.2.2.1,
 x.1.2.2.2.2.2.2.2.2.2.2.2.1, 0, false, [], [], [], 0, [], [], [], 0, 0, 0,
 [], [], [], 0, 0, 0, false, [], [], [], ()))
 else
 bif decide (x.1.1 = 13) then
 some
 (Sum.inl
 (x.1.2.1, x.1.2.2.1, 0, x.1.2.2.2.2.2.2.2.2.2.2.2.1, 0,
 x.1.2.2.2.2.2.2.2.2.2.2.2.2.2.1,
 x.1.2.2.2.2.2.2.2.2.2.2.2.2.2.2.1, [], [], 0, [], [], [], 0, 0, 0,
 [], [], [], 0, 0, 0, false, [], [], [], ()))
 else
 bif decide (x.1.1 = 14) then
 some
 (Sum.inl
 ([], [], x.1.2.2.2.2.2.2.1, x.1.2.2.2.2.2.2.2.2.2.2.2.1,
 x.1.2.2.2.2.2.2.2.2.2.2.2.2.1, false,
 x.1.2.2.2.2.2.2.2.2.2.2.2.2.2.2.1, [], [], 0, [], [], [], 0, 0, 0,
 [], [], [], 0, 0, 0, false, [], [], [], ()))
 else
 bif decide (x.1.1 = 15) then
 some
 (Sum.inl
 ([], [], x.1.2.2.2.2.2.2.1, x.1.2.2.2.2.2.2.2.2.2.2.2.1,
 0, false, [], x.1.2.2.2.2.2.2.2.2.2.2.2.2.2.2.2.1,
 x.1.2.2.2.2.2.2.2.2.2.2.2.2.2.2.2.2.1, 0, [], [], [], 0, 0,
 0, [], [], [], 0, 0, 0, false, [], [], [], ()))
 else
 Option.bind (F231 x)
 fun b =>
 some (Sum.inr b))
 fun o =>
 Sum.elim
 (fun (x_1 :
 List UInt8 × List UInt8 × Int × Int × Int × Bool × List T70D × List (Int × Int × (Int × Int × Bool × Int × List T70D × Int × Int × Unit) × Unit) × List T113D × Int × List UInt8 × List UInt8 × List UInt8 × Int × Int × Int × List T96D × List T48D × List T48D × Int × Int × Int × Bool × List T70D × List (Int × Int × (Int × Int × Bool × Int × List T70D × Int × Int × Unit) × Unit) × List T113D × Unit) =>
 some
 ((x.1.1, x_1.1, x_1.2.1, [], 0, 0, x_1.2.2.1, [], [], [],
 x.1.2.2.2.2.2.2.2.2.2.2.1, x_1.2.2.2.1, x_1.2.2.2.2.1,
 x_1.2.2.2.2.2.1, x_1.2.2.2.2.2.2.1, x_1.2.2.2.2.2.2.2.1,
 x_1.2.2.2.2.2.2.2.2.1, ()),
 ()))
 (fun (val :
 (Int × List UInt8 × List UInt8 × List UInt8 × Int × Int × Int × List T96D × List T48D × List T48D × Int × Int × Int × Bool × List T70D × List (Int × Int × (Int × Int × Bool × Int × List T70D × Int × Int × Unit) × Unit) × List T113D × Unit) × Unit) =>
 some val)
 o
def S213 : Sig := ⟨P213, R213, F213⟩
def E213 : Env := en 81 [(231, [S231])] [(16, ⟨[⟨.fld 1006000 1, .str, .pv⟩, ⟨.fld 1006000 2, .str, .pv⟩, ⟨.fld 1006000 6, (.int .i64), .pv⟩, ⟨.fld 1006000 11, (.int .i64), .pv⟩, ⟨.fld 1006000 12, (.int .i64), .pv⟩, ⟨.fld 1006000 13, .bool, .pv⟩, ⟨.fld 1006000 14, (.slice T70), .pv⟩, ⟨.fld 1006000 15, (.slice T94), .pv⟩, ⟨.fld 1006000 16, (.slice T113), .pv⟩, ⟨.fld 2000 0, (.int .i64), .pv⟩, ⟨.fld 2000 1, .str, .pv⟩, ⟨.fld 2000 2, .str, .pv⟩, ⟨.fld 2000 3, .str, .pv⟩, ⟨.fld 2000 4, (.int .i64), .pv⟩, ⟨.fld 2000 5, (.int .i64), .pv⟩, ⟨.fld 2000 6, (.int .i64), .pv⟩, ⟨.fld 2000 7, (.slice T96), .own false⟩, ⟨.fld 2000 8, (.slice T48), .own false⟩, ⟨.fld 2000 9, (.slice T48), .own false⟩, ⟨.fld 2000 10, (.int .i64), .pv⟩, ⟨.fld 2000 11, (.int .i64), .pv⟩, ⟨.fld 2000 12, (.int .i64), .pv⟩, ⟨.fld 2000 13, .bool, .pv⟩, ⟨.fld 2000 14, (.slice T70), .own false⟩, ⟨.fld 2000 15, (.slice T94), .own false⟩, ⟨.fld 2000 16, (.slice T113), .own false⟩], [2, 3], [.site 1006000, .fld 1006000 0, .fld 1006000 3, .fld 1006000 4, .fld 1006000 5, .fld 1006000 7, .fld 1006000 8, .fld 1006000 9, .fld 1006000 10, .site 2000]⟩)] []
theorem raw213_eq (x : T28D × Unit) : afun E213 Tryz.f213 P213 R213 x = F213 x := by kernel_rfl
-- decamp/index.Range
def F151 (x : List UInt8 × T83D) : Option (Bool × Unit) :=
 Option.bind (F153 (x.1, ())) fun b =>
 bif b.1 then
 bif decide (x.2.1 = []) then some (true, ())
 else
 Option.bind (F200 (x.2.1, UInt8.ofNat 127, ())) fun b =>
 bif b.1 then some (!(strlt x.2.1 x.1 || decide (x.2.1 = x.1)), ())
 else some (false, ())
 else some (false, ())
def S151 : Sig := ⟨P151, R151, F151⟩
def E151 : Env := en 20 [(153, [S153]), (200, [S200])] [] []
theorem raw151_eq (x : List UInt8 × T83D) : afun E151 Tryz.f151 P151 R151 x = F151 x := by kernel_rfl
-- decamp/cmd.put
def F232 (x : List UInt8 × List UInt8 × Int × Unit) : Option (Bool × Unit) :=
 Option.bind (F153 (x.1, ())) fun b =>
 bif b.1 then
 bif decide (Int.ofNat (List.length x.2.1) ≤ 40) then
 Option.bind (F201 ([x.2.2.1], ())) fun b => some b
 else some (false, ())
 else some (false, ())
def S232 : Sig := ⟨P232, R232, F232⟩
def E232 : Env := en 19 [(153, [S153]), (201, [S201])] [] []
theorem raw232_eq (x : List UInt8 × List UInt8 × Int × Unit) : afun E232 Tryz.f232 P232 R232 x = F232 x := by kernel_rfl
-- decamp/cmd.rightCmp
def F240 (x : T96D × Unit) : Option (Bool × Unit) :=
 Option.bind (F153 (x.1.1, ())) fun b =>
 bif !b.1 then some (false, ())
 else
 bif decide (x.1.2.2.1 < 0) then some (false, ())
 else
 bif decide (2 < x.1.2.2.1) then some (false, ())
 else
 Option.bind (F176 (x.1.2.2.2.1, -1099511627776, 1099511627776, ()))
 fun b =>
 bif !b.1 then some (false, ())
 else
 bif decide (x.1.2.1 = 5) then
 bif decide (x.1.2.2.2.1 = 0) then
 some (decide (Int.ofNat (List.length x.1.2.2.2.2.1) ≤ 40), ())
 else some (false, ())
 else
 bif decide (1 ≤ x.1.2.1) then
 bif decide (x.1.2.1 ≤ 4) then some (decide (x.1.2.2.2.2.1 = []), ())
 else some (false, ())
 else some (false, ())
def S240 : Sig := ⟨P240, R240, F240⟩
def E240 : Env := en 48 [(153, [S153]), (176, [S176])] [] []
theorem raw240_eq (x : T96D × Unit) : afun E240 Tryz.f240 P240 R240 x = F240 x := by kernel_rfl
-- decamp/cmd.rightTxn$1
def F239 (x : T96D × Unit) : Option (Bool × Unit) :=
 Option.bind (F240 x) fun b => some (!b.1, ())
def S239 : Sig := ⟨P239, R239, F239⟩
def E239 : Env := en 6 [(240, [S240])] [] []
theorem raw239_eq (x : T96D × Unit) : afun E239 Tryz.f239 P239 R239 x = F239 x := by kernel_rfl
-- slices.IndexFunc[[]decamp/api.Cmp,decamp/api.Cmp]
def F242a (x : List T96D × Unit) : Option (Int × Unit) :=
 iterE (Int × Unit) (Int × Unit)
 (fun (x_1 : Int × Unit) =>
 bif decide (x_1.1 < Int.ofNat (List.length x.1)) then
 Option.bind (idx x.1 x_1.1) fun b =>
 Option.bind (F239 (b, ())) fun b =>
 bif b.1 then some (Sum.inr x_1) else some (Sum.inl (wrap64 (x_1.1 + 1), ()))
 else some (Sum.inr (-1, ())))
 big (0, ())
def S242a : Sig := ⟨P242a, R242a, F242a⟩
def E242a : Env := en 19 [(239, [S239])] [] [(2, mkLoop ⟨[⟨.slot 8, (.int .i64), .pv⟩], [0, 1, 7], []⟩)]
theorem raw242a_eq (x : List T96D × Unit) : afun E242a Tryz.f242 P242a R242a x = F242a x := by kernel_rfl
-- slices.ContainsFunc[[]decamp/api.Cmp,decamp/api.Cmp]
def F238a (x : List T96D × Unit) : Option (Bool × Unit) :=
 Option.bind (F242a x) fun b => some (decide (0 ≤ b.1), ())
def S238a : Sig := ⟨P238a, R238a, F238a⟩
def E238a : Env := en 9 [(239, [S239]), (242, [S242a])] [] []
theorem raw238a_eq (x : List T96D × Unit) : afun E238a Tryz.f238 P238a R238a x = F238a x := by kernel_rfl
-- decamp/cmd.rightOp
def F243 (x : T48D × Unit) : Option (Bool × Unit) :=
 bif decide (x.1.1 = 1) then
 bif decide (x.1.2.2.1 = []) then
 Option.bind (F232 (x.1.2.1, x.1.2.2.2)) fun b => some b
 else some (false, ())
 else
 bif decide (x.1.1 = 2) then
 bif decide (x.1.1 = 2) then
 bif decide (x.1.2.2.2.1 = []) then
 bif decide (x.1.2.2.2.2.1 = 0) then
 Option.bind (F151 (x.1.2.1, x.1.2.2.1, ())) fun b => some b
 else some (false, ())
 else some (false, ())
 else some (false, ())
 else
 bif decide (x.1.1 = 3) then
 bif decide (x.1.2.2.2.1 = []) then
 bif decide (x.1.2.2.2.2.1 = 0) then
 Option.bind (F151 (x.1.2.1, x.1.2.2.1, ())) fun b => some b
 else some (false, ())
 else some (false, ())
 else some (false, ())
def S243 : Sig := ⟨P243, R243, F243⟩
def E243 : Env := en 37 [(151, [S151]), (232, [S232])] [] []
theorem raw243_eq (x : T48D × Unit) : afun E243 Tryz.f243 P243 R243 x = F243 x := by kernel_rfl
-- decamp/index.In
def F248 (x : List UInt8 × List UInt8 × T83D) : Option (Bool × Unit) :=
 Option.bind (F151 (x.1, x.2.1, ())) fun b =>
 bif !b.1 then some (false, ())
 else
 Option.bind (F153 x.2.2) fun b =>
 bif !b.1 then some (false, ())
 else
 bif decide (x.2.2.1 = x.1) then some (true, ())
 else
 bif !(strlt x.2.2.1 x.1 || decide (x.2.2.1 = x.1)) then
 some (strlt x.2.2.1 x.2.1, ())
 else some (false, ())
def S248 : Sig := ⟨P248, R248, F248⟩
def E248 : Env := en 29 [(151, [S151]), (153, [S153])] [] []
theorem raw248_eq (x : List UInt8 × List UInt8 × T83D) : afun E248 Tryz.f248 P248 R248 x = F248 x := by kernel_rfl
-- decamp/cmd.meet
def F246 (x : T48D × T48D × Unit) : Option (Bool × Unit) :=
 bif decide (x.1.1 = 3) then some (false, ())
 else
 bif decide (x.2.1.1 = 3) then some (false, ())
 else
 bif decide (x.1.2.1 = x.2.1.2.1) then some (true, ())
 else
 Option.bind (F248 (x.1.2.1, x.1.2.2.1, x.2.1.2.1, ())) fun b =>
 bif b.1 then some (true, ())
 else
 Option.bind (F248 (x.2.1.2.1, x.2.1.2.2.1, x.1.2.1, ()))
 fun b => some b
def S246 : Sig := ⟨P246, R246, F246⟩
def E246 : Env := en 36 [(248, [S248])] [] []
theorem raw246_eq (x : T48D × T48D × Unit) : afun E246 Tryz.f246 P246 R246 x = F246 x := by kernel_rfl
-- decamp/cmd.rightOps$1
def F245 (x : T48D × Unit) : Option (Bool × Unit) := none
def S245 : Sig := ⟨P245, R245, F245⟩
def E245 : Env := en 7 [(246, [S246])] [] []
theorem raw245_eq (x : T48D × Unit) : afun E245 Tryz.f245 P245 R245 x = F245 x := by kernel_rfl
-- decamp/cmd.rightOps$1
def F245a (x : T48D × T48D × Unit) : Option (Bool × T48D × Unit) :=
 Option.bind (F246 x) fun b => some (b.1, x.2)
def S245a : Sig := ⟨P245a, R245a, F245a⟩
def E245a : Env := en 7 [(246, [S246])] [] []
theorem raw245a_eq (x : T48D × T48D × Unit) : afun E245a Tryz.f245 P245a R245a x = F245a x := by kernel_rfl
-- slices.IndexFunc[[]decamp/api.Op,decamp/api.Op]
def F247a (x : List T48D × T48D × Unit) : Option (Int × T48D × Unit) :=
 iterE (Int × T48D)
 (Int × T48D × Unit)
 (fun (x_1 : Int × T48D) =>
 bif decide (x_1.1 < Int.ofNat (List.length x.1)) then
 Option.bind (idx x.1 x_1.1) fun b =>
 Option.bind (F245a (b, x_1.2, ()))
 fun b =>
 bif b.1 then some (Sum.inr (x_1.1, b.2))
 else some (Sum.inl (wrap64 (x_1.1 + 1), b.2.1))
 else some (Sum.inr (-1, x_1.2, ())))
 big (0, x.2.1)
def S247a : Sig := ⟨P247a, R247a, F247a⟩
def E247a : Env := en 19 [(245, [S245, S245a])] [] [(2, mkLoop ⟨[⟨.slot 8, (.int .i64), .pv⟩, ⟨.fld 2 0, (.int .i64), .pv⟩, ⟨.fld 2 1, .str, .pv⟩, ⟨.fld 2 2, .str, .pv⟩, ⟨.fld 2 3, .str, .pv⟩, ⟨.fld 2 4, (.int .i64), .pv⟩], [0, 1, 7], [.site 2, .comp 1 0]⟩)]
theorem raw247a_eq (x : List T48D × T48D × Unit) : afun E247a Tryz.f247 P247a R247a x = F247a x := by kernel_rfl
-- slices.ContainsFunc[[]decamp/api.Op,decamp/api.Op]
def F244a (x : List T48D × T48D × Unit) : Option (Bool × T48D × Unit) :=
 Option.bind (F247a x) fun b =>
 some (decide (0 ≤ b.1), b.2)
def S244a : Sig := ⟨P244a, R244a, F244a⟩
def E244a : Env := en 9 [(245, [S245, S245a]), (247, [S247a])] [] []
theorem raw244a_eq (x : List T48D × T48D × Unit) : afun E244a Tryz.f244 P244a R244a x = F244a x := by kernel_rfl
-- decamp/cmd.rightOps
def F241 (x : List T48D × Unit) : Option (Bool × Unit) :=
 iterE (Int × Unit) (Bool × Unit)
 (fun (x_1 : Int × Unit) =>
 bif decide (x_1.1 < Int.ofNat (List.length x.1)) then
 Option.bind (idx x.1 x_1.1) fun b =>
 Option.bind (F243 (b, ())) fun b_1 =>
 bif !b_1.1 then some (Sum.inr (false, ()))
 else
 Option.bind (sliceO x.1 0 x_1.1)
 fun b_2 =>
 Option.bind (F244a (b_2, b, ()))
 fun b =>
 bif b.1 then some (Sum.inr (false, ()))
 else some (Sum.inl (wrap64 (x_1.1 + 1), ()))
 else some (Sum.inr (decide (Int.ofNat (List.length x.1) ≤ 4), ())))
 big (0, ())
def S241 : Sig := ⟨P241, R241, F241⟩
def E241 : Env := en 26 [(243, [S243]), (244, [S244a]), (245, [S245, S245a])] [] [(2, mkLoop ⟨[⟨.slot 7, (.int .i64), .pv⟩], [0, 5, 6], []⟩)]
theorem raw241_eq (x : List T48D × Unit) : afun E241 Tryz.f241 P241 R241 x = F241 x := by kernel_rfl
-- decamp/cmd.rightTxn
def F233 (x : T28D × Unit) : Option (Bool × Unit) :=
 bif decide (Int.ofNat (List.length x.1.2.2.2.2.2.2.2.1) ≤ 4) then
 Option.bind (F238a (x.1.2.2.2.2.2.2.2.1, ())) fun b =>
 bif !b.1 then
 Option.bind (F241 (x.1.2.2.2.2.2.2.2.2.1, ())) fun b =>
 bif b.1 then
 Option.bind (F241 (x.1.2.2.2.2.2.2.2.2.2.1, ())) fun b =>
 some b
 else some (false, ())
 else some (false, ())
 else some (false, ())
def S233 : Sig := ⟨P233, R233, F233⟩
def E233 : Env := en 23 [(238, [S238a]), (239, [S239]), (241, [S241])] [] []
theorem raw233_eq (x : T28D × Unit) : afun E233 Tryz.f233 P233 R233 x = F233 x := by kernel_rfl
-- decamp/cmd.rightClient
def F214 (x : T28D × Unit) : Option (Bool × Unit) :=
 bif decide (x.1.1 = 1) then
 Option.bind (F232 (x.1.2.1, x.1.2.2.2.1, x.1.2.2.2.2.1, ()))
 fun b => some b
 else
 bif decide (x.1.1 = 2) then
 Option.bind (F151 (x.1.2.1, x.1.2.2.1, ())) fun b => some b
 else
 bif decide (x.1.1 = 3) then Option.bind (F233 x) fun b => some b
 else
 bif decide (x.1.1 = 4) then
 Option.bind (F177 ([x.1.2.2.2.2.2.2.1], ())) fun b => some b
 else
 bif decide (x.1.1 = 5) then
 Option.bind (F177 ([x.1.2.2.2.2.1], ())) fun b =>
 bif b.1 then
 Option.bind (F176 (x.1.2.2.2.2.2.1, 1, 1000, ())) fun b => some b
 else some (false, ())
 else
 bif decide (x.1.1 = 6) then
 bif decide (x.1.1 = 6) then
 Option.bind (F177 ([x.1.2.2.2.2.1], ())) fun b => some b
 else
 bif decide (x.1.1 = 9) then
 bif !decide (x.1.2.2.2.2.1 = 0) then
 Option.bind (F176 (x.1.2.2.2.2.1, -1099511627776, 1099511627776, ()))
 fun b => some b
 else some (false, ())
 else some (decide (x.1.1 = 8), ())
 else
 bif decide (x.1.1 = 7) then
 Option.bind (F177 ([x.1.2.2.2.2.1], ())) fun b => some b
 else
 bif decide (x.1.1 = 9) then
 bif !decide (x.1.2.2.2.2.1 = 0) then
 Option.bind (F176 (x.1.2.2.2.2.1, -1099511627776, 1099511627776, ()))
 fun b => some b
 else some (false, ())
 else some (decide (x.1.1 = 8), ())
def S214 : Sig := ⟨P214, R214, F214⟩
def E214 : Env := en 62 [(151, [S151]), (176, [S176]), (177, [S177]), (232, [S232]), (233, [S233])] [] []
theorem raw214_eq (x : T28D × Unit) : afun E214 Tryz.f214 P214 R214 x = F214 x := by kernel_rfl
-- decamp/cmd.rightPage
def F215 (x : T28D × Unit) : Option (Bool × Unit) :=
 Option.bind
 (bif !decide (x.1.2.1 = []) then
 Option.bind (F153 (x.1.2.1, ())) fun b =>
 bif !b.1 then some (Sum.inr (false, ()))
 else
 bif !decide (x.1.2.2.1 = []) then
 Option.bind (F153 (x.1.2.2.1, ())) fun b =>
 bif !b.1 then some (Sum.inr (false, ()))
 else
 bif
 decide
 (8 <
 Int.ofNat (List.length x.1.2.2.2.2.2.2.2.2.2.2.2.2.2.2.1)) then
 some (Sum.inr (false, ()))
 else some (Sum.inl ())
 else
 bif
 decide
 (8 < Int.ofNat (List.length x.1.2.2.2.2.2.2.2.2.2.2.2.2.2.2.1)) then
 some (Sum.inr (false, ()))
 else some (Sum.inl ())
 else
 bif !decide (x.1.2.2.1 = []) then
 Option.bind (F153 (x.1.2.2.1, ())) fun b =>
 bif !b.1 then some (Sum.inr (false, ()))
 else
 bif
 decide
 (8 < Int.ofNat (List.length x.1.2.2.2.2.2.2.2.2.2.2.2.2.2.2.1)) then
 some (Sum.inr (false, ()))
 else some (Sum.inl ())
 else
 bif decide (8 < Int.ofNat (List.length x.1.2.2.2.2.2.2.2.2.2.2.2.2.2.2.1)) then
 some (Sum.inr (false, ()))
 else some (Sum.inl ()))
 fun o =>
 Sum.elim
 (fun (_z : Unit) =>
 iterE (Int × Unit) (Bool × Unit)
 (fun (x_1 : Int × Unit) =>
 bif
 decide
 (x_1.1 <
 Int.ofNat (List.length x.1.2.2.2.2.2.2.2.2.2.2.2.2.2.2.1)) then
 Option.bind (idx x.1.2.2.2.2.2.2.2.2.2.2.2.2.2.2.1 x_1.1)
 fun b =>
 Option.bind (F153 (b.1, ())) fun b_1 =>
 bif !b_1.1 then some (Sum.inr (false, ()))
 else
 Option.bind (F204 b.2) fun b_2 =>
 bif !b_2.1 then some (Sum.inr (false, ()))
 else
 bif b.2.1.2.2.2.2.2.2.1 then some (Sum.inr (false, ()))
 else
 bif decide (0 < x_1.1) then
 Option.bind
 (idx x.1.2.2.2.2.2.2.2.2.2.2.2.2.2.2.1
 (wrap64 (x_1.1 - 1)))
 fun b_3 =>
 bif !strlt b_3.1 b.1 then some (Sum.inr (false, ()))
 else some (Sum.inl (wrap64 (x_1.1 + 1), ()))
 else some (Sum.inl (wrap64 (x_1.1 + 1), ()))
 else some (Sum.inr (true, ())))
 big (0, ()))
 (fun (val : Bool × Unit) => some val) o
def S215 : Sig := ⟨P215, R215, F215⟩
def E215 : Env := en 71 [(153, [S153]), (204, [S204])] [(3, ⟨[], [1], [.site 1000, .fld 1000 0, .fld 1000 1, .fld 1000 2, .fld 1000 3, .fld 1000 4, .fld 1000 5, .fld 1000 6, .fld 1000 7, .fld 1000 8, .fld 1000 9, .fld 1000 10, .fld 1000 11, .fld 1000 12, .fld 1000 13, .fld 1000 14, .fld 1000 15, .fld 1000 16]⟩)] [(4, mkLoop ⟨[⟨.slot 34, (.int .i64), .pv⟩], [1, 32, 33], [.site 1000, .fld 1000 0, .fld 1000 1, .fld 1000 2, .fld 1000 3, .fld 1000 4, .fld 1000 5, .fld 1000 6, .fld 1000 7, .fld 1000 8, .fld 1000 9, .fld 1000 10, .fld 1000 11, .fld 1000 12, .fld 1000 13, .fld 1000 14, .fld 1000 15, .fld 1000 16]⟩)]
theorem raw215_eq (x : T28D × Unit) : afun E215 Tryz.f215 P215 R215 x = F215 x := by kernel_rfl
-- decamp/cmd.rightTail
def F216 (x : T28D × Unit) : Option (Bool × Unit) :=
 Option.bind
 (F177 ([x.1.2.2.2.2.2.2.1, x.1.2.2.2.2.2.2.2.2.2.2.2.2.1], ()))
 fun b =>
 bif !b.1 then some (false, ())
 else
 bif decide (x.1.2.2.2.2.2.2.2.2.2.2.2.2.1 ≤ x.1.2.2.2.2.2.2.1) then
 some (false, ())
 else
 bif decide (64 < Int.ofNat (List.length x.1.2.2.2.2.2.2.2.2.2.2.2.2.2.2.1)) then
 some (false, ())
 else
 iterE (Int × Unit) (Bool × Unit)
 (fun (x_1 : Int × Unit) =>
 bif
 decide
 (x_1.1 <
 Int.ofNat (List.length x.1.2.2.2.2.2.2.2.2.2.2.2.2.2.2.1)) then
 Option.bind (idx x.1.2.2.2.2.2.2.2.2.2.2.2.2.2.2.1 x_1.1)
 fun b =>
 Option.bind (F153 (b.1, ())) fun b_1 =>
 bif !b_1.1 then some (Sum.inr (false, ()))
 else
 Option.bind (F204 b.2) fun b_2 =>
 bif !b_2.1 then some (Sum.inr (false, ()))
 else
 bif decide (b.2.1.1 ≤ x.1.2.2.2.2.2.2.1) then
 some (Sum.inr (false, ()))
 else
 bif decide (x.1.2.2.2.2.2.2.2.2.2.2.2.2.1 < b.2.1.1) then
 some (Sum.inr (false, ()))
 else
 bif decide (x_1.1 = 0) then
 some (Sum.inl (wrap64 (x_1.1 + 1), ()))
 else
 Option.bind
 (idx x.1.2.2.2.2.2.2.2.2.2.2.2.2.2.2.1
 (wrap64 (x_1.1 - 1)))
 fun b_3 =>
 bif decide (b.2.1.1 < b_3.2.1.1) then some (Sum.inr (false, ()))
 else
 bif decide (b_3.2.1.1 = b.2.1.1) then
 bif !strlt b_3.1 b.1 then some (Sum.inr (false, ()))
 else some (Sum.inl (wrap64 (x_1.1 + 1), ()))
 else some (Sum.inl (wrap64 (x_1.1 + 1), ()))
 else some (Sum.inr (true, ())))
 big (0, ())
def S216 : Sig := ⟨P216, R216, F216⟩
def E216 : Env := en 92 [(153, [S153]), (177, [S177]), (204, [S204])] [] [(4, mkLoop ⟨[⟨.slot 29, (.int .i64), .pv⟩], [1, 27, 28], [.site 1000, .fld 1000 0, .fld 1000 1, .fld 1000 2, .fld 1000 3, .fld 1000 4, .fld 1000 5, .fld 1000 6, .fld 1000 7, .fld 1000 8, .fld 1000 9, .fld 1000 10, .fld 1000 11, .fld 1000 12, .fld 1000 13, .fld 1000 14, .fld 1000 15, .fld 1000 16]⟩)]
theorem raw216_eq (x : T28D × Unit) : afun E216 Tryz.f216 P216 R216 x = F216 x := by kernel_rfl
-- decamp/cmd.Right
def F175 (x : T28D × Unit) : Option (Bool × Unit) :=
 Option.bind (F213 x)
 fun b =>
 Option.bind (F76 (b.1, x)) fun b =>
 bif !b.1 then some (false, ())
 else
 bif decide (x.1.1 < 10) then Option.bind (F214 x) fun b => some b
 else
 Option.bind (F177 ([x.1.2.2.2.2.2.2.2.2.2.2.1], ())) fun b =>
 bif !b.1 then some (false, ())
 else
 bif decide (x.1.1 = 10) then
 Option.bind (F152 (x.1.2.1, ())) fun b => some b
 else
 bif decide (x.1.1 = 11) then
 bif decide (x.1.1 = 11) then some (true, ())
 else
 bif decide (x.1.1 = 12) then
 Option.bind
 (F177
 ([x.1.2.2.2.2.2.2.2.2.2.2.2.1, x.1.2.2.2.2.2.2.1],
 ()))
 fun b =>
 bif b.1 then
 Option.bind (F152 (x.1.2.1, ())) fun b =>
 bif b.1 then
 Option.bind (F152 (x.1.2.2.1, ())) fun b => some b
 else some (false, ())
 else some (false, ())
 else
 bif decide (x.1.1 = 13) then
 Option.bind (F177 ([x.1.2.2.2.2.2.2.2.2.2.2.2.1], ()))
 fun b =>
 bif b.1 then Option.bind (F215 x) fun b => some b
 else some (false, ())
 else
 bif decide (x.1.1 = 14) then
 Option.bind (F177 ([x.1.2.2.2.2.2.2.2.2.2.2.2.1], ()))
 fun b =>
 bif b.1 then Option.bind (F216 x) fun b => some b
 else some (false, ())
 else
 bif decide (x.1.1 = 15) then
 Option.bind
 (F177
 ([x.1.2.2.2.2.2.2.2.2.2.2.2.1,
 x.1.2.2.2.2.2.2.1],
 ()))
 fun b =>
 bif b.1 then
 Option.bind (F207 x.1.2.2.2.2.2.2.2.2.2.2.2.2.2.2.2)
 fun b => some b
 else some (false, ())
 else some (false, ())
 else
 bif decide (x.1.1 = 16) then some (true, ())
 else
 bif decide (x.1.1 = 12) then
 Option.bind
 (F177
 ([x.1.2.2.2.2.2.2.2.2.2.2.2.1, x.1.2.2.2.2.2.2.1],
 ()))
 fun b =>
 bif b.1 then
 Option.bind (F152 (x.1.2.1, ())) fun b =>
 bif b.1 then
 Option.bind (F152 (x.1.2.2.1, ())) fun b => some b
 else some (false, ())
 else some (false, ())
 else
 bif decide (x.1.1 = 13) then
 Option.bind (F177 ([x.1.2.2.2.2.2.2.2.2.2.2.2.1], ()))
 fun b =>
 bif b.1 then Option.bind (F215 x) fun b => some b
 else some (false, ())
 else
 bif decide (x.1.1 = 14) then
 Option.bind (F177 ([x.1.2.2.2.2.2.2.2.2.2.2.2.1], ()))
 fun b =>
 bif b.1 then Option.bind (F216 x) fun b => some b
 else some (false, ())
 else
 bif decide (x.1.1 = 15) then
 Option.bind
 (F177
 ([x.1.2.2.2.2.2.2.2.2.2.2.2.1,
 x.1.2.2.2.2.2.2.1],
 ()))
 fun b =>
 bif b.1 then
 Option.bind (F207 x.1.2.2.2.2.2.2.2.2.2.2.2.2.2.2.2)
 fun b => some b
 else some (false, ())
 else some (false, ())
def S175 : Sig := ⟨P175, R175, F175⟩
def E175 : Env := en 81 [(76, [S76]), (152, [S152]), (177, [S177]), (207, [S207]), (213, [S213]), (214, [S214]), (215, [S215]), (216, [S216])] [] []
theorem raw175_eq (x : T28D × Unit) : afun E175 Tryz.f175 P175 R175 x = F175 x := by kernel_rfl
-- decamp/cmd.RightJob
def F94 (x : T33D × Unit) : Option (Bool × Unit) :=
 Option.bind (F175 x.1.2.2) fun b =>
 bif !b.1 then some (false, ())
 else
 Option.bind (F176 (x.1.1, 0, 31, ())) fun b =>
 bif !b.1 then some (false, ())
 else
 bif decide (x.1.1 = 0) then
 bif decide (x.1.2.1 = 0) then some (decide (8 ≤ x.1.2.2.1.1), ())
 else some (false, ())
 else
 Option.bind (F177 ([x.1.2.1], ())) fun b =>
 bif b.1 then some (decide (x.1.2.2.1.1 < 8), ()) else some (false, ())
def S94 : Sig := ⟨P94, R94, F94⟩
def E94 : Env := en 35 [(175, [S175]), (176, [S176]), (177, [S177])] [] []
theorem raw94_eq (x : T33D × Unit) : afun E94 Tryz.f94 P94 R94 x = F94 x := by kernel_rfl
-- decamp/talk.asks
def F73 (x : TMD × Unit) : Option (Bool × Unit) :=
 Option.bind (F72 (x.1.2.2.2.2.1, 0, 31, ())) fun b =>
 bif decide (x.1.1 = 2) then
 Option.bind (F94 (x.1.2.2.2.1, ())) fun b => some b
 else
 bif decide (x.1.1 = 3) then
 bif b.1 then
 Option.bind (F151 (x.1.2.2.2.2.2.1, x.1.2.2.2.2.2.2.1, ()))
 fun b =>
 bif b.1 then
 Option.bind (F72 (x.1.2.2.2.2.2.2.2.1, 0, 1099511627776, ()))
 fun b =>
 bif b.1 then
 Option.bind (F72 (x.1.2.2.2.2.2.2.2.2.1, 0, 8, ()))
 fun b => some b
 else some (false, ())
 else some (false, ())
 else some (false, ())
 else
 bif decide (x.1.1 = 4) then
 bif b.1 then
 Option.bind (F151 (x.1.2.2.2.2.2.1, x.1.2.2.2.2.2.2.1, ()))
 fun b =>
 bif b.1 then
 Option.bind (F72 (x.1.2.2.2.2.2.2.2.1, 1, 1099511627776, ()))
 fun b => some b
 else some (false, ())
 else some (false, ())
 else
 bif decide (x.1.1 = 5) then
 Option.bind (F152 (x.1.2.2.2.2.2.1, ())) fun b =>
 bif b.1 then
 bif decide (x.1.2.2.2.2.2.2.1 = []) then
 Option.bind (F72 (x.1.2.2.2.2.2.2.2.1, 1, 1099511627776, ()))
 fun b => some b
 else
 Option.bind (F153 (x.1.2.2.2.2.2.2.1, ())) fun b =>
 bif b.1 then
 Option.bind (F72 (x.1.2.2.2.2.2.2.2.1, 1, 1099511627776, ()))
 fun b => some b
 else some (false, ())
 else some (false, ())
 else
 bif decide (x.1.1 = 6) then
 Option.bind (F72 (x.1.2.2.2.2.2.2.2.1, 1, 1099511627776, ()))
 fun b => some b
 else some (decide (x.1.1 = 7), ())
def S73 : Sig := ⟨P73, R73, F73⟩
def E73 : Env := en 77 [(72, [S72]), (94, [S94]), (151, [S151]), (152, [S152]), (153, [S153])] [] []
theorem raw73_eq (x : TMD × Unit) : afun E73 Tryz.f73 P73 R73 x = F73 x := by kernel_rfl
-- decamp/talk.noHand
def F100 (x : T55D × Unit) : Option (Bool × Unit) :=
 bif decide (x.1.1 = 0) then
 bif decide (x.1.2.1 = 0) then
 bif decide (Int.ofNat (List.length x.1.2.2.1) = 0) then
 some (decide (Int.ofNat (List.length x.1.2.2.2.1) = 0), ())
 else some (false, ())
 else some (false, ())
 else some (false, ())
def S100 : Sig := ⟨P100, R100, F100⟩
def E100 : Env := en 23 [] [] []
theorem raw100_eq (x : T55D × Unit) : afun E100 Tryz.f100 P100 R100 x = F100 x := by kernel_rfl
-- decamp/talk.items$1
def F205 (x : T70D × Unit) : Option (Bool × Unit) :=
 Option.bind (F153 (x.1.1, ())) fun b =>
 bif !b.1 then some (true, ())
 else Option.bind (F206 ([x.1.2.1], ())) fun b => some (!b.1, ())
def S205 : Sig := ⟨P205, R205, F205⟩
def E205 : Env := en 14 [(153, [S153]), (206, [S206])] [] []
theorem raw205_eq (x : T70D × Unit) : afun E205 Tryz.f205 P205 R205 x = F205 x := by kernel_rfl
-- slices.IndexFunc[[]decamp/api.Item,decamp/api.Item]
def F227b (x : List T70D × Unit) : Option (Int × Unit) :=
 iterE (Int × Unit) (Int × Unit)
 (fun (x_1 : Int × Unit) =>
 bif decide (x_1.1 < Int.ofNat (List.length x.1)) then
 Option.bind (idx x.1 x_1.1)
 fun b =>
 Option.bind (F205 (b, ())) fun b =>
 bif b.1 then some (Sum.inr x_1) else some (Sum.inl (wrap64 (x_1.1 + 1), ()))
 else some (Sum.inr (-1, ())))
 big (0, ())
def S227b : Sig := ⟨P227b, R227b, F227b⟩
def E227b : Env := en 19 [(205, [S205])] [] [(2, mkLoop ⟨[⟨.slot 8, (.int .i64), .pv⟩], [0, 1, 7], []⟩)]
theorem raw227b_eq (x : List T70D × Unit) : afun E227b Tryz.f227 P227b R227b x = F227b x := by kernel_rfl
-- slices.ContainsFunc[[]decamp/api.Item,decamp/api.Item]
def F202b (x : List T70D × Unit) : Option (Bool × Unit) :=
 Option.bind (F227b x) fun b => some (decide (0 ≤ b.1), ())
def S202b : Sig := ⟨P202b, R202b, F202b⟩
def E202b : Env := en 9 [(205, [S205]), (227, [S227a, S227b])] [] []
theorem raw202b_eq (x : List T70D × Unit) : afun E202b Tryz.f202 P202b R202b x = F202b x := by kernel_rfl
-- decamp/talk.items
def F156 (x : List T70D × Int × Unit) : Option (Bool × Unit) :=
 bif decide (Int.ofNat (List.length x.1) ≤ x.2.1) then
 Option.bind (F202b (x.1, ())) fun b => some (!b.1, ())
 else some (false, ())
def S156 : Sig := ⟨P156, R156, F156⟩
def E156 : Env := en 14 [(202, [S202a, S202b]), (205, [S205])] [] []
theorem raw156_eq (x : List T70D × Int × Unit) : afun E156 Tryz.f156 P156 R156 x = F156 x := by kernel_rfl
-- decamp/talk.batches
def F155 (x : List TBD × Unit) : Option (Bool × Unit) :=
 iterE (Int × Unit) (Bool × Unit)
 (fun (x_1 : Int × Unit) =>
 bif decide (x_1.1 < Int.ofNat (List.length x.1)) then
 Option.bind (idx x.1 x_1.1)
 fun b =>
 Option.bind (F72 (b.1, 1, 1099511627776, ())) fun b_1 =>
 bif !b_1.1 then some (Sum.inr (false, ()))
 else
 bif decide (0 < x_1.1) then
 Option.bind (idx x.1 (wrap64 (x_1.1 - 1)))
 fun b_2 =>
 bif decide (b.1 ≤ b_2.1) then some (Sum.inr (false, ()))
 else
 Option.bind (F156 (b.2.1, 48, ())) fun b =>
 bif !b.1 then some (Sum.inr (false, ()))
 else some (Sum.inl (wrap64 (x_1.1 + 1), ()))
 else
 Option.bind (F156 (b.2.1, 48, ())) fun b =>
 bif !b.1 then some (Sum.inr (false, ()))
 else some (Sum.inl (wrap64 (x_1.1 + 1), ()))
 else some (Sum.inr (decide (Int.ofNat (List.length x.1) ≤ 64), ())))
 big (0, ())
def S155 : Sig := ⟨P155, R155, F155⟩
def E155 : Env := en 41 [(72, [S72]), (156, [S156])] [] [(2, mkLoop ⟨[⟨.slot 7, (.int .i64), .pv⟩], [0, 5, 6], []⟩)]
theorem raw155_eq (x : List TBD × Unit) : afun E155 Tryz.f155 P155 R155 x = F155 x := by kernel_rfl
-- decamp/cmd.RightHand
def F157 (x : T55D × Unit) : Option (Bool × Unit) :=
 Option.bind (F177 ([x.1.1], ())) fun b =>
 bif b.1 then
 Option.bind (F201 ([x.1.2.1], ())) fun b =>
 bif b.1 then Option.bind (F207 x.1.2.2) fun b => some b else some (false, ())
 else some (false, ())
def S157 : Sig := ⟨P157, R157, F157⟩
def E157 : Env := en 20 [(177, [S177]), (201, [S201]), (207, [S207])] [] []
theorem raw157_eq (x : T55D × Unit) : afun E157 Tryz.f157 P157 R157 x = F157 x := by kernel_rfl
-- decamp/cmd.RightMove$1
def F208a (x : T83D) : Option (Bool × Unit) :=
 bif decide (x.1 = []) then some (true, ()) else Option.bind (F152 x) fun b => some b
def S208a : Sig := ⟨P208a, R208a, F208a⟩
def E208a : Env := en 12 [(152, [S152])] [] []
theorem raw208a_eq (x : T83D) : afun E208a Tryz.f208 P208a R208a x = F208a x := by kernel_rfl
-- decamp/cmd.RightMove$1
def F208b (x : T83D) : Option (Bool × Unit) :=
 bif decide (x.1 = []) then some (true, ()) else Option.bind (F153 x) fun b => some b
def S208b : Sig := ⟨P208b, R208b, F208b⟩
def E208b : Env := en 12 [(153, [S153])] [] []
theorem raw208b_eq (x : T83D) : afun E208b Tryz.f208 P208b R208b x = F208b x := by kernel_rfl
-- decamp/cmd.RightMove
def F158 (x : T53D × Unit) : Option (Bool × Unit) :=
 bif decide (0 ≤ x.1.1) then
 bif decide (x.1.1 ≤ 4) then
 Option.bind
 (F201
 ([x.1.2.1, x.1.2.2.1, x.1.2.2.2.2.2.1, x.1.2.2.2.2.2.2.2.1,
 x.1.2.2.2.2.2.2.2.2.1, x.1.2.2.2.2.2.2.2.2.2.1],
 ()))
 fun b =>
 bif b.1 then
 Option.bind (F208a (x.1.2.2.2.1, ())) fun b =>
 bif b.1 then
 Option.bind (F208a (x.1.2.2.2.2.1, ())) fun b =>
 bif b.1 then
 Option.bind (F208b (x.1.2.2.2.2.2.2.1, ())) fun b => some b
 else some (false, ())
 else some (false, ())
 else some (false, ())
 else some (false, ())
 else some (false, ())
def S158 : Sig := ⟨P158, R158, F158⟩
def E158 : Env := en 46 [(152, [S152]), (153, [S153]), (201, [S201]), (208, [S208a, S208b])] [] []
theorem raw158_eq (x : T53D × Unit) : afun E158 Tryz.f158 P158 R158 x = F158 x := by kernel_rfl
-- decamp/talk.answers
def F74 (x : TMD × Unit) : Option (Bool × Unit) :=
 Option.bind (F72 (x.1.2.2.2.2.2.2.2.2.2.1, 0, 15, ())) fun b =>
 bif !b.1 then some (false, ())
 else
 bif decide (x.1.1 = 8) then
 bif decide (-1 ≤ x.1.2.2.2.2.2.2.2.2.2.2.1) then
 bif decide (x.1.2.2.2.2.2.2.2.2.2.2.1 < 3) then
 Option.bind (F154 (x.1.2.2.2.2.2.2.2.2.2.2.2.1, ()))
 fun b => some b
 else some (false, ())
 else some (false, ())
 else
 bif decide (x.1.1 = 9) then
 Option.bind (F72 (x.1.2.2.2.2.2.2.2.1, 0, 1099511627777, ()))
 fun b =>
 bif b.1 then
 Option.bind (F155 (x.1.2.2.2.2.2.2.2.2.2.2.2.2.1, ()))
 fun b => some b
 else some (false, ())
 else
 bif decide (x.1.1 = 10) then
 Option.bind (F156 (x.1.2.2.2.2.2.2.2.2.2.2.2.2.2.1, 8, ()))
 fun b => some b
 else
 bif decide (x.1.1 = 11) then
 Option.bind (F100 (x.1.2.2.2.2.2.2.2.2.2.2.2.2.2.2.2.1, ()))
 fun b =>
 bif b.1 then some (true, ())
 else
 Option.bind (F157 (x.1.2.2.2.2.2.2.2.2.2.2.2.2.2.2.2.1, ()))
 fun b => some b
 else
 Option.bind (F72 (x.1.2.2.2.2.2.2.2.1, 0, 1099511627776, ()))
 fun b =>
 bif b.1 then
 Option.bind (F158 x.1.2.2.2.2.2.2.2.2.2.2.2.2.2.2.2.2)
 fun b => some b
 else some (false, ())
def S74 : Sig := ⟨P74, R74, F74⟩
def E74 : Env := en 57 [(72, [S72]), (100, [S100]), (154, [S154]), (155, [S155]), (156, [S156]), (157, [S157]), (158, [S158])] [] []
theorem raw74_eq (x : TMD × Unit) : afun E74 Tryz.f74 P74 R74 x = F74 x := by kernel_rfl
-- decamp/talk.Right
def F17 (x : TMD × Unit) : Option (Bool × Unit) :=
 bif decide (x.1.1 < 1) then some (false, ())
 else
 bif decide (12 < x.1.1) then some (false, ())
 else
 Option.bind (F70 x)
 fun b =>
 Option.bind (F18 (b.1, x)) fun b =>
 bif !b.1 then some (false, ())
 else
 bif decide (x.1.1 = 1) then
 Option.bind (F71 (x.1.2.2.1, ())) fun b => some b
 else
 Option.bind (F72 (x.1.2.1, 1, 1099511627776, ())) fun b =>
 bif !b.1 then some (false, ())
 else
 bif decide (x.1.1 < 8) then Option.bind (F73 x) fun b => some b
 else Option.bind (F74 x) fun b => some b
def S17 : Sig := ⟨P17, R17, F17⟩
def E17 : Env := en 39 [(18, [S18]), (70, [S70]), (71, [S71]), (72, [S72]), (73, [S73]), (74, [S74])] [] []
theorem raw17_eq (x : TMD × Unit) : afun E17 Tryz.f17 P17 R17 x = F17 x := by kernel_rfl
-- (*decamp/octets.Out).wide
def F89 (x : T83D × Int × Int × Unit) : Option (T83D × Unit) :=
 iterE (Int × T83D) (T83D × Unit)
 (fun (x_1 : Int × T83D) =>
 bif decide (0 ≤ x_1.1) then
 Option.bind (shrO IntKind.u64 x.2.1 (wrap64 (8 * x_1.1))) fun b =>
 Option.bind (appU x_1.2.1 [Sx.byteOf (IntKind.wrap IntKind.u8 b)]) fun b =>
 some (Sum.inl (wrap64 (x_1.1 - 1), b, ()))
 else some (Sum.inr (x_1.2, ())))
 big (wrap64 (x.2.2.1 - 1), x.1)
def S89 : Sig := ⟨P89, R89, F89⟩
def E89 : Env := en 29 [] [] [(2, mkLoop ⟨[⟨.slot 6, (.int .i64), .pv⟩, ⟨.fld 0 0, (.slice .u8), .own true⟩], [0, 1], [.site 0]⟩)]
theorem raw89_eq (x : T83D × Int × Int × Unit) : afun E89 Tryz.f89 P89 R89 x = F89 x := by kernel_rfl
-- (*decamp/octets.Out).Byte
def F25 (x : T83D × UInt8 × Unit) : Option (T83D × Unit) :=
 Option.bind (F89 (x.1, IntKind.wrap IntKind.u64 (intOf8 x.2.1), 1, ()))
 fun b => some b
def S25 : Sig := ⟨P25, R25, F25⟩
def E25 : Env := en 8 [(89, [S89])] [] []
theorem raw25_eq (x : T83D × UInt8 × Unit) : afun E25 Tryz.f25 P25 R25 x = F25 x := by kernel_rfl
-- (*decamp/octets.Out).Num
def F28 (x : T83D × Int × Unit) : Option (T83D × Unit) :=
 Option.bind (F89 (x.1, IntKind.wrap IntKind.u64 x.2.1, 8, ())) fun b =>
 some b
def S28 : Sig := ⟨P28, R28, F28⟩
def E28 : Env := en 8 [(89, [S89])] [] []
theorem raw28_eq (x : T83D × Int × Unit) : afun E28 Tryz.f28 P28 R28 x = F28 x := by kernel_rfl
-- (*decamp/octets.Out).Flag
def F90 (x : T83D × Bool × Unit) : Option (T83D × Unit) :=
 bif x.2.1 then
 Option.bind (F25 (x.1, UInt8.ofNat 1, ())) fun b => some b
 else Option.bind (F25 (x.1, UInt8.ofNat 0, ())) fun b => some b
def S90 : Sig := ⟨P90, R90, F90⟩
def E90 : Env := en 9 [(25, [S25])] [] []
theorem raw90_eq (x : T83D × Bool × Unit) : afun E90 Tryz.f90 P90 R90 x = F90 x := by kernel_rfl
-- (*decamp/octets.Out).Count
def F91 (x : T83D × Int × Unit) : Option (T83D × Unit) :=
 Option.bind (F89 (x.1, IntKind.wrap IntKind.u64 x.2.1, 4, ())) fun b =>
 some b
def S91 : Sig := ⟨P91, R91, F91⟩
def E91 : Env := en 8 [(89, [S89])] [] []
theorem raw91_eq (x : T83D × Int × Unit) : afun E91 Tryz.f91 P91 R91 x = F91 x := by kernel_rfl
-- (*decamp/octets.Out).Bytes
def F29 (x : T83D × T83D) : Option (T83D × Unit) :=
 Option.bind (F91 (x.1, Int.ofNat (List.length x.2.1), ())) fun b =>
 Option.bind (appU b.1.1 x.2.1) fun b => some ((b, ()), ())
def S29 : Sig := ⟨P29, R29, F29⟩
def E29 : Env := en 19 [(91, [S91])] [] []
theorem raw29_eq (x : T83D × T83D) : afun E29 Tryz.f29 P29 R29 x = F29 x := by kernel_rfl
-- decamp/entry.put
def F174 (x : T83D × Int × Int × T83D) : Option (T83D × Unit) :=
 Option.bind (F28 (x.1, x.2.1, ())) fun b =>
 Option.bind (F28 (b.1, x.2.2.1, ())) fun b =>
 Option.bind (F29 (b.1, x.2.2.2)) fun b => some b
def S174 : Sig := ⟨P174, R174, F174⟩
def E174 : Env := en 17 [(28, [S28]), (29, [S29])] [] []
theorem raw174_eq (x : T83D × Int × Int × T83D) : afun E174 Tryz.f174 P174 R174 x = F174 x := by kernel_rfl
-- decamp/entry.Put
def F92 (x : T83D × T25D × Unit) : Option (T83D × Unit) :=
 Option.bind (F173 x.2) fun b =>
 bif !b.1 then Option.bind (F174 (x.1, 0, 0, [], ())) fun b => some b
 else Option.bind (F174 (x.1, x.2.1)) fun b => some b
def S92 : Sig := ⟨P92, R92, F92⟩
def E92 : Env := en 16 [(173, [S173]), (174, [S174])] [] []
theorem raw92_eq (x : T83D × T25D × Unit) : afun E92 Tryz.f92 P92 R92 x = F92 x := by kernel_rfl
-- decamp/entry.PutSnap
def F93 (x : T83D × T25D × Unit) : Option (T83D × Unit) :=
 Option.bind (F150 x.2) fun b =>
 bif !b.1 then Option.bind (F174 (x.1, 0, 0, [], ())) fun b => some b
 else Option.bind (F174 (x.1, x.2.1)) fun b => some b
def S93 : Sig := ⟨P93, R93, F93⟩
def E93 : Env := en 16 [(150, [S150]), (174, [S174])] [] []
theorem raw93_eq (x : T83D × T25D × Unit) : afun E93 Tryz.f93 P93 R93 x = F93 x := by kernel_rfl
-- decamp/rmsg.Put
def F26 (x : T83D × T27D × Unit) : Option (T83D × Unit) :=
 Option.bind (F71 x.2) fun b =>
 bif !b.1 then
 Option.bind (F25 (x.1, UInt8.ofNat 0, ())) fun b => some b
 else
 iterE (Int × T83D) (T83D × Unit)
 (fun (x_1 : Int × T83D) =>
 bif decide (x_1.1 < Int.ofNat (List.length [x.2.1.1, x.2.1.2.1, x.2.1.2.2.1])) then
 Option.bind (idxN [x.2.1.1, x.2.1.2.1, x.2.1.2.2.1] x_1.1) fun b =>
 Option.bind [x.2.1.1, x.2.1.2.1, x.2.1.2.2.1][b]? fun (b : Int) =>
 Option.bind (F25 (x_1.2, Sx.byteOf (IntKind.wrap IntKind.u8 b), ()))
 fun b =>
 some (Sum.inl (wrap64 (x_1.1 + 1), b.1))
 else
 Option.map Sum.inr
 (iterE (Int × T83D) (T83D × Unit)
 (fun (x_2 : Int × T83D) =>
 bif
 decide
 (x_2.1 <
 Int.ofNat
 (List.length
 [x.2.1.2.2.2.1, x.2.1.2.2.2.2.1,
 x.2.1.2.2.2.2.2.1, x.2.1.2.2.2.2.2.2.1,
 x.2.1.2.2.2.2.2.2.2.1])) then
 Option.bind
 (idxN
 [x.2.1.2.2.2.1, x.2.1.2.2.2.2.1, x.2.1.2.2.2.2.2.1,
 x.2.1.2.2.2.2.2.2.1, x.2.1.2.2.2.2.2.2.2.1]
 x_2.1)
 fun b =>
 Option.bind
 [x.2.1.2.2.2.1, x.2.1.2.2.2.2.1, x.2.1.2.2.2.2.2.1,
 x.2.1.2.2.2.2.2.2.1, x.2.1.2.2.2.2.2.2.2.1][b]?
 fun (b : Int) =>
 Option.bind (F28 (x_2.2, b, ())) fun b =>
 some (Sum.inl (wrap64 (x_2.1 + 1), b.1))
 else
 Option.map Sum.inr
 (Option.bind (F90 (x_2.2, x.2.1.2.2.2.2.2.2.2.2.1, ()))
 fun b =>
 Option.bind
 (F91
 (b.1, Int.ofNat (List.length x.2.1.2.2.2.2.2.2.2.2.2.1),
 ()))
 fun b =>
 iterE (Int × T83D) (T83D × Unit)
 (fun (x_3 : Int × T83D) =>
 bif
 decide
 (x_3.1 <
 Int.ofNat (List.length x.2.1.2.2.2.2.2.2.2.2.2.1)) then
 Option.bind (idx x.2.1.2.2.2.2.2.2.2.2.2.1 x_3.1)
 fun b =>
 Option.bind (F92 (x_3.2, b, ())) fun b =>
 some (Sum.inl (wrap64 (x_3.1 + 1), b.1))
 else
 Option.map Sum.inr
 (bif decide (x.2.1.1 = 7) then
 Option.bind (F93 (x_3.2, x.2.1.2.2.2.2.2.2.2.2.2.2))
 fun b => some b
 else some (x_3.2, ())))
 big (0, b.1)))
 big (0, x_1.2)))
 big (0, x.1)
def S26 : Sig := ⟨P26, R26, F26⟩
def E26 : Env := en 79 [(25, [S25]), (28, [S28]), (71, [S71]), (90, [S90]), (91, [S91]), (92, [S92]), (93, [S93])] [] [(4, mkLoop ⟨[⟨.slot 23, (.int .i64), .pv⟩, ⟨.fld 0 0, (.slice .u8), .own true⟩], [0, 3, 21, 22], [.site 0, .row 3007000, .site 1000, .fld 1000 0, .fld 1000 1, .fld 1000 2, .fld 1000 3, .fld 1000 4, .fld 1000 5, .fld 1000 6, .fld 1000 7, .fld 1000 8, .fld 1000 9, .fld 1000 10]⟩), (9, mkLoop ⟨[⟨.slot 44, (.int .i64), .pv⟩, ⟨.fld 0 0, (.slice .u8), .own true⟩], [0, 3, 42, 43], [.row 8011000, .site 1000, .fld 1000 0, .fld 1000 1, .fld 1000 2, .fld 1000 3, .fld 1000 4, .fld 1000 5, .fld 1000 6, .fld 1000 7, .fld 1000 8, .fld 1000 9, .fld 1000 10, .site 0]⟩), (16, mkLoop ⟨[⟨.slot 64, (.int .i64), .pv⟩, ⟨.fld 0 0, (.slice .u8), .own true⟩], [0, 3, 62, 63], [.site 1000, .fld 1000 0, .fld 1000 1, .fld 1000 2, .fld 1000 3, .fld 1000 4, .fld 1000 5, .fld 1000 6, .fld 1000 7, .fld 1000 8, .fld 1000 9, .fld 1000 10, .site 0]⟩)]
theorem raw26_eq (x : T83D × T27D × Unit) : afun E26 Tryz.f26 P26 R26 x = F26 x := by kernel_rfl
-- bytes.Clone
def F103 (x : T83D) : Option T83D :=
 bif List.isEmpty x.1 then
 bothE T83D (some ([], ()))
 (Option.bind (appU [] x.1) fun b => some (b, ()))
 else Option.bind (appU [] x.1) fun b => some (b, ())
def S103 : Sig := ⟨P103, R103, F103⟩
def E103 : Env := en 8 [] [] []
theorem raw103_eq (x : T83D) : afun E103 Tryz.f103 P103 R103 x = F103 x := by kernel_rfl
-- (*decamp/octets.Out).End
def F31 (x : T83D × Unit) : Option (List UInt8 × Int × T83D × Unit) :=
 bif decide (60000 < Int.ofNat (List.length x.1.1)) then some ([], 3, x)
 else Option.bind (F103 x.1) fun b => some (b.1, 0, x)
def S31 : Sig := ⟨P31, R31, F31⟩
def E31 : Env := en 19 [(103, [S103])] [] []
theorem raw31_eq (x : T83D × Unit) : afun E31 Tryz.f31 P31 R31 x = F31 x := by kernel_rfl
-- (*decamp/octets.Out).Text
def F97 (x : T83D × T83D) : Option (T83D × Unit) :=
 Option.bind (F91 (x.1, Int.ofNat (List.length x.2.1), ())) fun b =>
 Option.bind (appU b.1.1 x.2.1) fun b => some ((b, ()), ())
def S97 : Sig := ⟨P97, R97, F97⟩
def E97 : Env := en 19 [(91, [S91])] [] []
theorem raw97_eq (x : T83D × T83D) : afun E97 Tryz.f97 P97 R97 x = F97 x := by kernel_rfl
-- decamp/cmd.putCmps
def F178 (x : T83D × List T96D × Unit) : Option (T83D × Unit) :=
 Option.bind (F91 (x.1, Int.ofNat (List.length x.2.1), ())) fun b =>
 iterE (Int × T83D) (T83D × Unit)
 (fun (x_1 : Int × T83D) =>
 bif decide (x_1.1 < Int.ofNat (List.length x.2.1)) then
 Option.bind (idx x.2.1 x_1.1) fun b =>
 Option.bind (F97 (x_1.2, b.1, ())) fun b_1 =>
 Option.bind (F25 (b_1.1, Sx.byteOf (IntKind.wrap IntKind.u8 b.2.1), ()))
 fun b_2 =>
 Option.bind (F25 (b_2.1, Sx.byteOf (IntKind.wrap IntKind.u8 b.2.2.1), ()))
 fun b_3 =>
 Option.bind (F28 (b_3.1, b.2.2.2.1, ())) fun b_4 =>
 Option.bind (F97 (b_4.1, b.2.2.2.2)) fun b =>
 some (Sum.inl (wrap64 (x_1.1 + 1), b.1))
 else some (Sum.inr (x_1.2, ())))
 big (0, b.1)
def S178 : Sig := ⟨P178, R178, F178⟩
def E178 : Env := en 39 [(25, [S25]), (28, [S28]), (91, [S91]), (97, [S97])] [] [(2, mkLoop ⟨[⟨.slot 12, (.int .i64), .pv⟩, ⟨.fld 0 0, (.slice .u8), .own true⟩], [0, 10, 11], [.site 0]⟩)]
theorem raw178_eq (x : T83D × List T96D × Unit) : afun E178 Tryz.f178 P178 R178 x = F178 x := by kernel_rfl
-- decamp/cmd.putOps
def F179 (x : T83D × List T48D × Unit) : Option (T83D × Unit) :=
 Option.bind (F91 (x.1, Int.ofNat (List.length x.2.1), ())) fun b =>
 iterE (Int × T83D) (T83D × Unit)
 (fun (x_1 : Int × T83D) =>
 bif decide (x_1.1 < Int.ofNat (List.length x.2.1)) then
 Option.bind (idx x.2.1 x_1.1) fun b =>
 Option.bind (F25 (x_1.2, Sx.byteOf (IntKind.wrap IntKind.u8 b.1), ()))
 fun b_1 =>
 Option.bind (F97 (b_1.1, b.2.1, ())) fun b_2 =>
 Option.bind (F97 (b_2.1, b.2.2.1, ())) fun b_3 =>
 Option.bind (F97 (b_3.1, b.2.2.2.1, ())) fun b_4 =>
 Option.bind (F28 (b_4.1, b.2.2.2.2)) fun b =>
 some (Sum.inl (wrap64 (x_1.1 + 1), b.1))
 else some (Sum.inr (x_1.2, ())))
 big (0, b.1)
def S179 : Sig := ⟨P179, R179, F179⟩
def E179 : Env := en 38 [(25, [S25]), (28, [S28]), (91, [S91]), (97, [S97])] [] [(2, mkLoop ⟨[⟨.slot 12, (.int .i64), .pv⟩, ⟨.fld 0 0, (.slice .u8), .own true⟩], [0, 10, 11], [.site 0]⟩)]
theorem raw179_eq (x : T83D × List T48D × Unit) : afun E179 Tryz.f179 P179 R179 x = F179 x := by kernel_rfl
-- decamp/cmd.mayVer
def F235 (x : T66D × Unit) : Option (Bool × Unit) :=
 bif
 decide (x.1.1 = 0) &&
 (decide (x.1.2.1 = 0) &&
 (decide (x.1.2.2.1 = 0) &&
 (decide (x.1.2.2.2.1 = 0) &&
 (decide (x.1.2.2.2.2.1 = []) &&
 (decide (x.1.2.2.2.2.2.1 = 0) &&
 (x.1.2.2.2.2.2.2.1 == false && true)))))) then
 some (true, ())
 else Option.bind (F204 x) fun b => some b
def S235 : Sig := ⟨P235, R235, F235⟩
def E235 : Env := en 10 [(204, [S204])] [] []
theorem raw235_eq (x : T66D × Unit) : afun E235 Tryz.f235 P235 R235 x = F235 x := by kernel_rfl
-- decamp/cmd.rightItem
def F219 (x : T70D × Unit) : Option (Bool × Unit) :=
 bif decide (x.1.1 = []) then Option.bind (F235 x.1.2) fun b => some b
 else
 Option.bind (F153 (x.1.1, ())) fun b =>
 bif b.1 then Option.bind (F235 x.1.2) fun b => some b else some (false, ())
def S219 : Sig := ⟨P219, R219, F219⟩
def E219 : Env := en 16 [(153, [S153]), (235, [S235])] [] []
theorem raw219_eq (x : T70D × Unit) : afun E219 Tryz.f219 P219 R219 x = F219 x := by kernel_rfl
-- decamp/cmd.PutVer
def F220 (x : T83D × T66D × Unit) : Option (T83D × Unit) :=
 Option.bind
 (Option.bind (F235 x.2) fun b =>
 bif !b.1 then some (Sum.inl (0, 0, 0, 0, [], 0, false, ())) else some (Sum.inl x.2.1))
 fun o =>
 Sum.elim
 (fun (x_1 : T66D) =>
 iterE (Int × T83D) (T83D × Unit)
 (fun (x : Int × T83D) =>
 bif
 decide
 (x.1 < Int.ofNat (List.length [x_1.1, x_1.2.1, x_1.2.2.1, x_1.2.2.2.1])) then
 Option.bind (idxN [x_1.1, x_1.2.1, x_1.2.2.1, x_1.2.2.2.1] x.1) fun b =>
 Option.bind [x_1.1, x_1.2.1, x_1.2.2.1, x_1.2.2.2.1][b]? fun (b : Int) =>
 Option.bind (F28 (x.2, b, ())) fun b =>
 some (Sum.inl (wrap64 (x.1 + 1), b.1))
 else
 Option.map Sum.inr
 (Option.bind (F97 (x.2, x_1.2.2.2.2.1, ()))
 fun b =>
 Option.bind (F28 (b.1, x_1.2.2.2.2.2.1, ()))
 fun b =>
 Option.bind (F90 (b.1, x_1.2.2.2.2.2.2)) fun b =>
 some b))
 big (0, x.1))
 (fun (val : T83D × Unit) => some val) o
def S220 : Sig := ⟨P220, R220, F220⟩
def E220 : Env := en 40 [(28, [S28]), (90, [S90]), (97, [S97]), (235, [S235])] [(3, ⟨[⟨.fld 1000 0, (.int .i64), .pv⟩, ⟨.fld 1000 1, (.int .i64), .pv⟩, ⟨.fld 1000 2, (.int .i64), .pv⟩, ⟨.fld 1000 3, (.int .i64), .pv⟩, ⟨.fld 1000 4, .str, .pv⟩, ⟨.fld 1000 5, (.int .i64), .pv⟩, ⟨.fld 1000 6, .bool, .pv⟩], [0, 3], [.site 0, .fld 0 0, .row 0, .site 1000]⟩)] [(4, mkLoop ⟨[⟨.slot 20, (.int .i64), .pv⟩, ⟨.fld 0 0, (.slice .u8), .own true⟩], [0, 3, 18, 19], [.row 3009000, .site 1000, .fld 1000 0, .fld 1000 1, .fld 1000 2, .fld 1000 3, .fld 1000 4, .fld 1000 5, .fld 1000 6, .site 0]⟩)]
theorem raw220_eq (x : T83D × T66D × Unit) : afun E220 Tryz.f220 P220 R220 x = F220 x := by kernel_rfl
-- decamp/cmd.PutItem
def F182 (x : T83D × T70D × Unit) : Option (T83D × Unit) :=
 Option.bind (F219 x.2) fun b =>
 bif !b.1 then
 Option.bind (F97 (x.1, [], ())) fun b =>
 Option.bind (F220 (b.1, (0, 0, 0, 0, [], 0, false, ()), ()))
 fun b => some b
 else
 Option.bind (F97 (x.1, x.2.1.1, ())) fun b =>
 Option.bind (F220 (b.1, x.2.1.2)) fun b => some b
def S182 : Sig := ⟨P182, R182, F182⟩
def E182 : Env := en 16 [(97, [S97]), (219, [S219]), (220, [S220])] [] []
theorem raw182_eq (x : T83D × T70D × Unit) : afun E182 Tryz.f182 P182 R182 x = F182 x := by kernel_rfl
-- decamp/cmd.putItems
def F180 (x : T83D × List T70D × Unit) : Option (T83D × Unit) :=
 Option.bind (F91 (x.1, Int.ofNat (List.length x.2.1), ())) fun b =>
 iterE (Int × T83D) (T83D × Unit)
 (fun (x_1 : Int × T83D) =>
 bif decide (x_1.1 < Int.ofNat (List.length x.2.1)) then
 Option.bind (idx x.2.1 x_1.1)
 fun b =>
 Option.bind (F182 (x_1.2, b, ())) fun b =>
 some (Sum.inl (wrap64 (x_1.1 + 1), b.1))
 else some (Sum.inr (x_1.2, ())))
 big (0, b.1)
def S180 : Sig := ⟨P180, R180, F180⟩
def E180 : Env := en 20 [(91, [S91]), (182, [S182])] [] [(2, mkLoop ⟨[⟨.slot 12, (.int .i64), .pv⟩, ⟨.fld 0 0, (.slice .u8), .own true⟩], [0, 10, 11], [.site 0]⟩)]
theorem raw180_eq (x : T83D × List T70D × Unit) : afun E180 Tryz.f180 P180 R180 x = F180 x := by kernel_rfl
-- decamp/cmd.PutReply
def F98 (x : T83D × T51D × Unit) : Option (T83D × Unit) :=
 Option.bind
 (Option.bind (F154 x.2) fun b =>
 bif !b.1 then some (Sum.inl (0, 0, false, 0, [], 0, 0, ())) else some (Sum.inl x.2.1))
 fun o =>
 Sum.elim
 (fun (x_1 :
 Int × Int × Bool × Int × List T70D × Int × Int × Unit) =>
 Option.bind (F25 (x.1, Sx.byteOf (IntKind.wrap IntKind.u8 x_1.1), ()))
 fun b =>
 Option.bind (F28 (b.1, x_1.2.1, ())) fun b =>
 Option.bind (F90 (b.1, x_1.2.2.1, ())) fun b =>
 Option.bind (F28 (b.1, x_1.2.2.2.1, ())) fun b =>
 Option.bind (F180 (b.1, x_1.2.2.2.2.1, ()))
 fun b =>
 Option.bind (F25 (b.1, Sx.byteOf (IntKind.wrap IntKind.u8 x_1.2.2.2.2.2.1), ()))
 fun b =>
 Option.bind (F28 (b.1, x_1.2.2.2.2.2.2)) fun b =>
 some b)
 (fun (val : T83D × Unit) => some val) o
def S98 : Sig := ⟨P98, R98, F98⟩
def E98 : Env := en 38 [(25, [S25]), (28, [S28]), (90, [S90]), (154, [S154]), (180, [S180])] [(3, ⟨[⟨.fld 1000 0, (.int .i64), .pv⟩, ⟨.fld 1000 1, (.int .i64), .pv⟩, ⟨.fld 1000 2, .bool, .pv⟩, ⟨.fld 1000 3, (.int .i64), .pv⟩, ⟨.fld 1000 4, (.slice T70), .pv⟩, ⟨.fld 1000 5, (.int .i64), .pv⟩, ⟨.fld 1000 6, (.int .i64), .pv⟩], [0, 3], [.site 0, .fld 0 0, .row 0, .site 1000]⟩)] []
theorem raw98_eq (x : T83D × T51D × Unit) : afun E98 Tryz.f98 P98 R98 x = F98 x := by kernel_rfl
-- decamp/cmd.putHanded
def F181 (x : T83D × List T94D × List T113D × Unit) : Option (T83D × Unit) :=
 Option.bind (F91 (x.1, Int.ofNat (List.length x.2.1), ())) fun b =>
 iterE (Int × T83D) (T83D × Unit)
 (fun (x_1 : Int × T83D) =>
 bif decide (x_1.1 < Int.ofNat (List.length x.2.1)) then
 Option.bind (idx x.2.1 x_1.1)
 fun b =>
 Option.bind (F28 (x_1.2, b.1, ())) fun b_1 =>
 Option.bind (F28 (b_1.1, b.2.1, ())) fun b_2 =>
 Option.bind (F98 (b_2.1, b.2.2)) fun b =>
 some (Sum.inl (wrap64 (x_1.1 + 1), b.1))
 else
 Option.map Sum.inr
 (Option.bind (F91 (x_1.2, Int.ofNat (List.length x.2.2.1), ()))
 fun b =>
 iterE (Int × T83D) (T83D × Unit)
 (fun (x_2 : Int × T83D) =>
 bif decide (x_2.1 < Int.ofNat (List.length x.2.2.1)) then
 Option.bind (idx x.2.2.1 x_2.1) fun b =>
 Option.bind (F28 (x_2.2, b.1, ())) fun b_1 =>
 Option.bind (F28 (b_1.1, b.2.1, ())) fun b_2 =>
 Option.bind (F28 (b_2.1, b.2.2)) fun b =>
 some (Sum.inl (wrap64 (x_2.1 + 1), b.1))
 else some (Sum.inr (x_2.2, ())))
 big (0, b.1)))
 big (0, b.1)
def S181 : Sig := ⟨P181, R181, F181⟩
def E181 : Env := en 56 [(28, [S28]), (91, [S91]), (98, [S98])] [] [(2, mkLoop ⟨[⟨.slot 16, (.int .i64), .pv⟩, ⟨.fld 0 0, (.slice .u8), .own true⟩], [0, 2, 14, 15], [.site 0]⟩), (10, mkLoop ⟨[⟨.slot 39, (.int .i64), .pv⟩, ⟨.fld 0 0, (.slice .u8), .own true⟩], [0, 37, 38], [.site 0]⟩)]
theorem raw181_eq (x : T83D × List T94D × List T113D × Unit) : afun E181 Tryz.f181 P181 R181 x = F181 x := by kernel_rfl
-- decamp/cmd.putCmd
def F95 (x : T83D × T28D × Unit) : Option (T83D × Unit) :=
 Option.bind (F25 (x.1, Sx.byteOf (IntKind.wrap IntKind.u8 x.2.1.1), ()))
 fun b =>
 iterE (Int × T83D) (T83D × Unit)
 (fun (x_1 : Int × T83D) =>
 bif
 decide
 (x_1.1 <
 Int.ofNat (List.length [x.2.1.2.1, x.2.1.2.2.1, x.2.1.2.2.2.1])) then
 Option.bind (idxN [x.2.1.2.1, x.2.1.2.2.1, x.2.1.2.2.2.1] x_1.1)
 fun b =>
 Option.bind [x.2.1.2.1, x.2.1.2.2.1, x.2.1.2.2.2.1][b]?
 fun (b : List UInt8) =>
 Option.bind (F97 (x_1.2, b, ())) fun b =>
 some (Sum.inl (wrap64 (x_1.1 + 1), b.1))
 else
 Option.map Sum.inr
 (iterE (Int × T83D) (T83D × Unit)
 (fun (x_2 : Int × T83D) =>
 bif
 decide
 (x_2.1 <
 Int.ofNat
 (List.length
 [x.2.1.2.2.2.2.1, x.2.1.2.2.2.2.2.1,
 x.2.1.2.2.2.2.2.2.1])) then
 Option.bind
 (idxN
 [x.2.1.2.2.2.2.1, x.2.1.2.2.2.2.2.1,
 x.2.1.2.2.2.2.2.2.1]
 x_2.1)
 fun b =>
 Option.bind
 [x.2.1.2.2.2.2.1, x.2.1.2.2.2.2.2.1,
 x.2.1.2.2.2.2.2.2.1][b]?
 fun (b : Int) =>
 Option.bind (F28 (x_2.2, b, ())) fun b =>
 some (Sum.inl (wrap64 (x_2.1 + 1), b.1))
 else
 Option.map Sum.inr
 (Option.bind (F178 (x_2.2, x.2.1.2.2.2.2.2.2.2.1, ()))
 fun b =>
 Option.bind (F179 (b.1, x.2.1.2.2.2.2.2.2.2.2.1, ()))
 fun b =>
 Option.bind (F179 (b.1, x.2.1.2.2.2.2.2.2.2.2.2.1, ()))
 fun b =>
 iterE (Int × T83D) (T83D × Unit)
 (fun (x_3 : Int × T83D) =>
 bif
 decide
 (x_3.1 <
 Int.ofNat
 (List.length
 [x.2.1.2.2.2.2.2.2.2.2.2.2.1,
 x.2.1.2.2.2.2.2.2.2.2.2.2.2.1,
 x.2.1.2.2.2.2.2.2.2.2.2.2.2.2.1])) then
 Option.bind
 (idxN
 [x.2.1.2.2.2.2.2.2.2.2.2.2.1,
 x.2.1.2.2.2.2.2.2.2.2.2.2.2.1,
 x.2.1.2.2.2.2.2.2.2.2.2.2.2.2.1]
 x_3.1)
 fun b =>
 Option.bind
 [x.2.1.2.2.2.2.2.2.2.2.2.2.1,
 x.2.1.2.2.2.2.2.2.2.2.2.2.2.1,
 x.2.1.2.2.2.2.2.2.2.2.2.2.2.2.1][b]?
 fun (b : Int) =>
 Option.bind (F28 (x_3.2, b, ())) fun b =>
 some (Sum.inl (wrap64 (x_3.1 + 1), b.1))
 else
 Option.map Sum.inr
 (Option.bind
 (F90
 (x_3.2, x.2.1.2.2.2.2.2.2.2.2.2.2.2.2.2.1,
 ()))
 fun b =>
 Option.bind
 (F180
 (b.1, x.2.1.2.2.2.2.2.2.2.2.2.2.2.2.2.2.1,
 ()))
 fun b =>
 Option.bind
 (F181
 (b.1,
 x.2.1.2.2.2.2.2.2.2.2.2.2.2.2.2.2.2))
 fun b => some b))
 big (0, b.1)))
 big (0, x_1.2)))
 big (0, b.1)
def S95 : Sig := ⟨P95, R95, F95⟩
def E95 : Env := en 89 [(25, [S25]), (28, [S28]), (90, [S90]), (97, [S97]), (178, [S178]), (179, [S179]), (180, [S180]), (181, [S181])] [] [(3, mkLoop ⟨[⟨.slot 23, (.int .i64), .pv⟩, ⟨.fld 0 0, (.slice .u8), .own true⟩], [0, 3, 21, 22], [.site 0, .row 2007000, .site 1000, .fld 1000 0, .fld 1000 1, .fld 1000 2, .fld 1000 3, .fld 1000 4, .fld 1000 5, .fld 1000 6, .fld 1000 7, .fld 1000 8, .fld 1000 9, .fld 1000 10, .fld 1000 11, .fld 1000 12, .fld 1000 13, .fld 1000 14, .fld 1000 15, .fld 1000 16]⟩), (8, mkLoop ⟨[⟨.slot 39, (.int .i64), .pv⟩, ⟨.fld 0 0, (.slice .u8), .own true⟩], [0, 3, 37, 38], [.row 7007000, .site 1000, .fld 1000 0, .fld 1000 1, .fld 1000 2, .fld 1000 3, .fld 1000 4, .fld 1000 5, .fld 1000 6, .fld 1000 7, .fld 1000 8, .fld 1000 9, .fld 1000 10, .fld 1000 11, .fld 1000 12, .fld 1000 13, .fld 1000 14, .fld 1000 15, .fld 1000 16, .site 0]⟩), (16, mkLoop ⟨[⟨.slot 67, (.int .i64), .pv⟩, ⟨.fld 0 0, (.slice .u8), .own true⟩], [0, 3, 65, 66], [.row 15007000, .site 1000, .fld 1000 0, .fld 1000 1, .fld 1000 2, .fld 1000 3, .fld 1000 4, .fld 1000 5, .fld 1000 6, .fld 1000 7, .fld 1000 8, .fld 1000 9, .fld 1000 10, .fld 1000 11, .fld 1000 12, .fld 1000 13, .fld 1000 14, .fld 1000 15, .fld 1000 16, .site 0]⟩)]
theorem raw95_eq (x : T83D × T28D × Unit) : afun E95 Tryz.f95 P95 R95 x = F95 x := by kernel_rfl
-- decamp/cmd.Encode
def F27 (x : T33D × Unit) : Option (List UInt8 × Int × Unit) :=
 Option.bind (F94 x) fun b =>
 bif !b.1 then some ([], 1, ())
 else
 Option.bind (F28 (([], ()), x.1.1, ())) fun b =>
 Option.bind (F28 (b.1, x.1.2.1, ())) fun b =>
 Option.bind (F95 (b.1, x.1.2.2)) fun b =>
 Option.bind (F31 b) fun b =>
 bif !decide (b.2.1 = 0) then some ([], 3, ())
 else
 bif decide (12000 < Int.ofNat (List.length b.1)) then some ([], 3, ())
 else some (b.1, 0, ())
def S27 : Sig := ⟨P27, R27, F27⟩
def E27 : Env := en 31 [(28, [S28]), (31, [S31]), (94, [S94]), (95, [S95])] [] []
theorem raw27_eq (x : T33D × Unit) : afun E27 Tryz.f27 P27 R27 x = F27 x := by kernel_rfl
-- decamp/talk.put$1
def F96 (x : List Int × Unit) : Option (Unit) :=
 iterE Unit Unit
 (fun (_z : Unit) =>
 bif decide (0 < Int.ofNat (List.length x.1)) then Option.bind (idx x.1 0) fun _z => none
 else some (Sum.inr ()))
 big ()
def S96 : Sig := ⟨P96, R96, F96⟩
def E96 : Env := en 15 [(28, [S28])] [] [(1, mkLoop ⟨[], [5, 6, 7], []⟩)]
theorem raw96_eq (x : List Int × Unit) : afun E96 Tryz.f96 P96 R96 x = F96 x := by kernel_rfl
-- decamp/talk.put$1
def F96a (x : List Int × T83D × Unit) : Option (T83D × Unit) :=
 iterE (Int × T83D) (T83D × Unit)
 (fun (x_1 : Int × T83D) =>
 bif decide (x_1.1 < Int.ofNat (List.length x.1)) then
 Option.bind (idx x.1 x_1.1) fun b =>
 Option.bind (F28 (x_1.2, b, ())) fun b =>
 some (Sum.inl (wrap64 (x_1.1 + 1), b.1))
 else some (Sum.inr (x_1.2, ())))
 big (0, x.2.1)
def S96a : Sig := ⟨P96a, R96a, F96a⟩
def E96a : Env := en 15 [(28, [S28])] [] [(1, mkLoop ⟨[⟨.slot 7, (.int .i64), .pv⟩, ⟨.fld 2 0, (.slice .u8), .own true⟩], [1, 5, 6], [.site 2, .site 1, .fld 1 0]⟩)]
theorem raw96a_eq (x : List Int × T83D × Unit) : afun E96a Tryz.f96 P96a R96a x = F96a x := by kernel_rfl
-- decamp/talk.putItems
def F99 (x : T83D × List T70D × Unit) : Option (T83D × Unit) :=
 Option.bind (F91 (x.1, Int.ofNat (List.length x.2.1), ())) fun b =>
 iterE (Int × T83D) (T83D × Unit)
 (fun (x_1 : Int × T83D) =>
 bif decide (x_1.1 < Int.ofNat (List.length x.2.1)) then
 Option.bind (idx x.2.1 x_1.1)
 fun b =>
 Option.bind (F182 (x_1.2, b, ())) fun b =>
 some (Sum.inl (wrap64 (x_1.1 + 1), b.1))
 else some (Sum.inr (x_1.2, ())))
 big (0, b.1)
def S99 : Sig := ⟨P99, R99, F99⟩
def E99 : Env := en 20 [(91, [S91]), (182, [S182])] [] [(2, mkLoop ⟨[⟨.slot 12, (.int .i64), .pv⟩, ⟨.fld 0 0, (.slice .u8), .own true⟩], [0, 10, 11], [.site 0]⟩)]
theorem raw99_eq (x : T83D × List T70D × Unit) : afun E99 Tryz.f99 P99 R99 x = F99 x := by kernel_rfl
-- decamp/cmd.PutHand
def F101 (x : T83D × T55D × Unit) : Option (T83D × Unit) :=
 Option.bind
 (Option.bind (F157 x.2) fun b =>
 bif !b.1 then some (Sum.inl (0, 0, [], [], ())) else some (Sum.inl x.2.1))
 fun o =>
 Sum.elim
 (fun (x_1 :
 Int × Int × List (Int × Int × (Int × Int × Bool × Int × List T70D × Int × Int × Unit) × Unit) × List T113D × Unit) =>
 Option.bind (F28 (x.1, x_1.1, ())) fun b =>
 Option.bind (F28 (b.1, x_1.2.1, ())) fun b =>
 Option.bind (F181 (b.1, x_1.2.2)) fun b => some b)
 (fun (val : T83D × Unit) => some val) o
def S101 : Sig := ⟨P101, R101, F101⟩
def E101 : Env := en 22 [(28, [S28]), (157, [S157]), (181, [S181])] [(3, ⟨[⟨.fld 1000 0, (.int .i64), .pv⟩, ⟨.fld 1000 1, (.int .i64), .pv⟩, ⟨.fld 1000 2, (.slice T94), .pv⟩, ⟨.fld 1000 3, (.slice T113), .pv⟩], [0, 3], [.site 0, .fld 0 0, .row 0, .site 1000]⟩)] []
theorem raw101_eq (x : T83D × T55D × Unit) : afun E101 Tryz.f101 P101 R101 x = F101 x := by kernel_rfl
-- decamp/cmd.PutMove
def F102 (x : T83D × T53D × Unit) : Option (T83D × Unit) :=
 Option.bind
 (Option.bind (F158 x.2) fun b =>
 bif !b.1 then some (Sum.inl (0, 0, 0, [], [], 0, [], 0, 0, 0, ())) else some (Sum.inl x.2.1))
 fun o =>
 Sum.elim
 (fun (x_1 : T53D) =>
 Option.bind (F25 (x.1, Sx.byteOf (IntKind.wrap IntKind.u8 x_1.1), ()))
 fun b =>
 Option.bind (F28 (b.1, x_1.2.1, ())) fun b =>
 Option.bind (F28 (b.1, x_1.2.2.1, ())) fun b =>
 Option.bind (F97 (b.1, x_1.2.2.2.1, ())) fun b =>
 Option.bind (F97 (b.1, x_1.2.2.2.2.1, ())) fun b =>
 Option.bind (F28 (b.1, x_1.2.2.2.2.2.1, ()))
 fun b =>
 Option.bind (F97 (b.1, x_1.2.2.2.2.2.2.1, ()))
 fun b =>
 Option.bind (F28 (b.1, x_1.2.2.2.2.2.2.2.1, ()))
 fun b =>
 Option.bind (F28 (b.1, x_1.2.2.2.2.2.2.2.2.1, ()))
 fun b =>
 Option.bind (F28 (b.1, x_1.2.2.2.2.2.2.2.2.2))
 fun b => some b)
 (fun (val : T83D × Unit) => some val) o
def S102 : Sig := ⟨P102, R102, F102⟩
def E102 : Env := en 49 [(25, [S25]), (28, [S28]), (97, [S97]), (158, [S158])] [(3, ⟨[⟨.fld 1000 0, (.int .i64), .pv⟩, ⟨.fld 1000 1, (.int .i64), .pv⟩, ⟨.fld 1000 2, (.int .i64), .pv⟩, ⟨.fld 1000 3, .str, .pv⟩, ⟨.fld 1000 4, .str, .pv⟩, ⟨.fld 1000 5, (.int .i64), .pv⟩, ⟨.fld 1000 6, .str, .pv⟩, ⟨.fld 1000 7, (.int .i64), .pv⟩, ⟨.fld 1000 8, (.int .i64), .pv⟩, ⟨.fld 1000 9, (.int .i64), .pv⟩], [0, 3], [.site 0, .fld 0 0, .row 0, .site 1000]⟩)] []
theorem raw102_eq (x : T83D × T53D × Unit) : afun E102 Tryz.f102 P102 R102 x = F102 x := by kernel_rfl
-- decamp/talk.put
def F30 (x : T83D × TMD × Unit) : Option (T83D × Unit) :=
 bif decide (x.2.1.1 = 3) then
 Option.bind (F96a ([x.2.1.2.2.2.2.1], x.1, ())) fun b =>
 Option.bind (F97 (b.1, x.2.1.2.2.2.2.2.1, ())) fun b =>
 Option.bind (F97 (b.1, x.2.1.2.2.2.2.2.2.1, ()))
 fun b =>
 Option.bind
 (F96a ([x.2.1.2.2.2.2.2.2.2.1, x.2.1.2.2.2.2.2.2.2.2.1], b))
 fun b => some b
 else
 bif decide (x.2.1.1 = 4) then
 Option.bind (F96a ([x.2.1.2.2.2.2.1], x.1, ())) fun b =>
 Option.bind (F97 (b.1, x.2.1.2.2.2.2.2.1, ()))
 fun b =>
 Option.bind (F97 (b.1, x.2.1.2.2.2.2.2.2.1, ()))
 fun b =>
 Option.bind (F96a ([x.2.1.2.2.2.2.2.2.2.1], b))
 fun b => some b
 else
 bif decide (x.2.1.1 = 5) then
 Option.bind (F97 (x.1, x.2.1.2.2.2.2.2.1, ()))
 fun b =>
 Option.bind (F97 (b.1, x.2.1.2.2.2.2.2.2.1, ()))
 fun b =>
 Option.bind (F96a ([x.2.1.2.2.2.2.2.2.2.1], b))
 fun b => some b
 else
 bif decide (x.2.1.1 = 6) then
 Option.bind (F96a ([x.2.1.2.2.2.2.2.2.2.1], x.1, ()))
 fun b => some b
 else
 bif decide (x.2.1.1 = 8) then
 Option.bind
 (F96a
 ([x.2.1.2.2.2.2.2.2.2.2.2.1,
 x.2.1.2.2.2.2.2.2.2.2.2.2.1],
 x.1, ()))
 fun b =>
 Option.bind (F98 (b.1, x.2.1.2.2.2.2.2.2.2.2.2.2.2.1, ()))
 fun b => some b
 else
 bif decide (x.2.1.1 = 9) then
 Option.bind
 (F96a
 ([x.2.1.2.2.2.2.2.2.2.2.2.1, x.2.1.2.2.2.2.2.2.2.1],
 x.1, ()))
 fun b =>
 Option.bind
 (F91
 (b.1, Int.ofNat (List.length x.2.1.2.2.2.2.2.2.2.2.2.2.2.2.1),
 ()))
 fun b =>
 iterE (Int × T83D) (T83D × Unit)
 (fun (x_1 : Int × T83D) =>
 bif
 decide
 (x_1.1 <
 Int.ofNat
 (List.length x.2.1.2.2.2.2.2.2.2.2.2.2.2.2.1)) then
 Option.bind (idx x.2.1.2.2.2.2.2.2.2.2.2.2.2.2.1 x_1.1)
 fun b =>
 Option.bind (F96a ([b.1], x_1.2, ())) fun b_1 =>
 Option.bind (F99 (b_1.1, b.2)) fun b =>
 some (Sum.inl (wrap64 (x_1.1 + 1), b.1))
 else some (Sum.inr (x_1.2, ())))
 big (0, b.1)
 else
 bif decide (x.2.1.1 = 10) then
 Option.bind (F96a ([x.2.1.2.2.2.2.2.2.2.2.2.1], x.1, ()))
 fun b =>
 Option.bind
 (F90 (b.1, x.2.1.2.2.2.2.2.2.2.2.2.2.2.2.2.2.1, ()))
 fun b =>
 Option.bind
 (F99 (b.1, x.2.1.2.2.2.2.2.2.2.2.2.2.2.2.2.1, ()))
 fun b => some b
 else
 bif decide (x.2.1.1 = 11) then
 Option.bind (F96a ([x.2.1.2.2.2.2.2.2.2.2.2.1], x.1, ()))
 fun b =>
 Option.bind
 (F100 (x.2.1.2.2.2.2.2.2.2.2.2.2.2.2.2.2.2.1, ()))
 fun b_1 =>
 Option.bind (F90 (b.1, !b_1.1, ())) fun b =>
 Option.bind
 (F100 (x.2.1.2.2.2.2.2.2.2.2.2.2.2.2.2.2.2.1, ()))
 fun b_2 =>
 bif !b_2.1 then
 Option.bind
 (F101
 (b.1, x.2.1.2.2.2.2.2.2.2.2.2.2.2.2.2.2.2.1,
 ()))
 fun b => some b
 else some b
 else
 bif decide (x.2.1.1 = 12) then
 Option.bind (F96a ([x.2.1.2.2.2.2.2.2.2.1], x.1, ()))
 fun b =>
 Option.bind
 (F102 (b.1, x.2.1.2.2.2.2.2.2.2.2.2.2.2.2.2.2.2.2))
 fun b => some b
 else some (x.1, ())
def S30 : Sig := ⟨P30, R30, F30⟩
def E30 : Env := en 165 [(90, [S90]), (91, [S91]), (96, [S96, S96a]), (97, [S97]), (98, [S98]), (99, [S99]), (100, [S100]), (101, [S101]), (102, [S102])] [] [(26, mkLoop ⟨[⟨.slot 104, (.int .i64), .pv⟩, ⟨.fld 0 0, (.slice .u8), .own true⟩], [2, 4, 102, 103], [.site 0, .comp 1001000 0, .site 1000, .fld 1000 0]⟩)]
theorem raw30_eq (x : T83D × TMD × Unit) : afun E30 Tryz.f30 P30 R30 x = F30 x := by kernel_rfl
-- decamp/talk.Encode
def F9 (x : TMD × Unit) : Option (List UInt8 × Int × Unit) :=
 Option.bind (F17 x) fun b =>
 bif !b.1 then some ([], 1, ())
 else
 Option.bind (F25 (([], ()), Sx.byteOf (IntKind.wrap IntKind.u8 x.1.1), ()))
 fun b =>
 Option.bind
 (bif decide (x.1.1 = 1) then
 Option.bind (F26 (b.1, x.1.2.2.1, ())) fun b =>
 some (Sum.inl b.1)
 else
 bif decide (x.1.1 = 2) then
 Option.bind (F27 (x.1.2.2.2.1, ())) fun b_1 =>
 bif !decide (b_1.2.1 = 0) then some (Sum.inr ([], 3, ()))
 else
 Option.bind (F28 (b.1, x.1.2.1, ())) fun b =>
 Option.bind (F29 (b.1, b_1.1, ())) fun b =>
 some (Sum.inl b.1)
 else
 Option.bind (F28 (b.1, x.1.2.1, ())) fun b =>
 Option.bind (F30 (b.1, x)) fun b => some (Sum.inl b.1))
 fun o =>
 Sum.elim
 (fun (x : T83D) =>
 Option.bind (F31 (x, ())) fun b =>
 some (b.1, b.2.1, ()))
 (fun (val : List UInt8 × Int × Unit) => some val) o
def S9 : Sig := ⟨P9, R9, F9⟩
def E9 : Env := en 44 [(17, [S17]), (25, [S25]), (26, [S26]), (27, [S27]), (28, [S28]), (29, [S29]), (30, [S30]), (31, [S31])] [(16, ⟨[⟨.fld 3001000 0, (.slice .u8), .own true⟩], [4], [.site 3001000]⟩)] []
theorem raw9_eq (x : TMD × Unit) : afun E9 Tryz.f9 P9 R9 x = F9 x := by kernel_rfl
-- decamp/octets.NewIn
def F47 (x : T83D) : Option (T131D × Unit) :=
 Option.bind (F103 x) fun b => some ((b.1, false, ()), ())
def S47 : Sig := ⟨P47, R47, F47⟩
def E47 : Env := en 7 [(103, [S103])] [] []
theorem raw47_eq (x : T83D) : afun E47 Tryz.f47 P47 R47 x = F47 x := by kernel_rfl
-- (*decamp/octets.In).Fail
def F126 (x : T131D × Unit) : Option (T131D × Unit) := some (([], true, ()), ())
def S126 : Sig := ⟨P126, R126, F126⟩
def E126 : Env := en 10 [] [] []
theorem raw126_eq (x : T131D × Unit) : afun E126 Tryz.f126 P126 R126 x = F126 x := by kernel_rfl
-- (*decamp/octets.In).take
def F190 (x : T131D × Int × Unit) : Option (List UInt8 × T131D × Unit) :=
 bif x.1.2.1 then some ([], x.1, ())
 else
 bif decide (Int.ofNat (List.length x.1.1) < x.2.1) then
 Option.bind (F126 (x.1, ())) fun b => some ([], b)
 else
 Option.bind (sliceO x.1.1 0 x.2.1) fun b =>
 Option.bind (sliceO b 0 x.2.1) fun b =>
 Option.bind (sliceO x.1.1 x.2.1 ↑(List.length x.1.1)) fun b_1 =>
 some (b, (b_1, x.1.2), ())
def S190 : Sig := ⟨P190, R190, F190⟩
def E190 : Env := en 40 [(126, [S126])] [] []
theorem raw190_eq (x : T131D × Int × Unit) : afun E190 Tryz.f190 P190 R190 x = F190 x := by kernel_rfl
-- (*decamp/octets.In).wide
def F120 (x : T131D × Int × Unit) : Option (Int × T131D × Unit) :=
 Option.bind (F190 x) fun b =>
 iterE (Int × Int × Unit) (Int × T131D × Unit)
 (fun (x : Int × Int × Unit) =>
 bif decide (x.2.1 < Int.ofNat (List.length b.1)) then
 Option.bind (idx b.1 x.2.1) fun b =>
 Option.bind (shlO IntKind.u64 x.1 8) fun b_1 =>
 some
 (Sum.inl
 (bitsO BinOp.or IntKind.u64 b_1 (IntKind.wrap IntKind.u64 (intOf8 b)),
 wrap64 (x.2.1 + 1), ()))
 else some (Sum.inr (x.1, b.2)))
 big (0, 0, ())
def S120 : Sig := ⟨P120, R120, F120⟩
def E120 : Env := en 23 [(190, [S190])] [] [(3, mkLoop ⟨[⟨.slot 5, (.int .u64), .pv⟩, ⟨.slot 12, (.int .i64), .pv⟩], [10, 11], [.site 0, .fld 0 0, .fld 0 1]⟩)]
theorem raw120_eq (x : T131D × Int × Unit) : afun E120 Tryz.f120 P120 R120 x = F120 x := by kernel_rfl
-- (*decamp/octets.In).Byte
def F48 (x : T131D × Unit) : Option (UInt8 × T131D × Unit) :=
 Option.bind (F120 (x.1, 1, ())) fun b =>
 some (Sx.byteOf (IntKind.wrap IntKind.u8 b.1), b.2)
def S48 : Sig := ⟨P48, R48, F48⟩
def E48 : Env := en 6 [(120, [S120])] [] []
theorem raw48_eq (x : T131D × Unit) : afun E48 Tryz.f48 P48 R48 x = F48 x := by kernel_rfl
-- (*decamp/octets.In).Num
def F50 (x : T131D × Unit) : Option (Int × T131D × Unit) :=
 Option.bind (F120 (x.1, 8, ())) fun b =>
 some (wrap64 b.1, b.2)
def S50 : Sig := ⟨P50, R50, F50⟩
def E50 : Env := en 6 [(120, [S120])] [] []
theorem raw50_eq (x : T131D × Unit) : afun E50 Tryz.f50 P50 R50 x = F50 x := by kernel_rfl
-- (*decamp/octets.In).Flag
def F121 (x : T131D × Unit) : Option (Bool × T131D × Unit) :=
 Option.bind (F48 x) fun b =>
 bif decide (intOf8 (UInt8.ofNat 1) < intOf8 b.1) then
 Option.bind (F126 b.2) fun b_1 =>
 some (decide (intOf8 b.1 = intOf8 (UInt8.ofNat 1)), b_1)
 else some (decide (intOf8 b.1 = intOf8 (UInt8.ofNat 1)), b.2)
def S121 : Sig := ⟨P121, R121, F121⟩
def E121 : Env := en 12 [(48, [S48]), (126, [S126])] [] []
theorem raw121_eq (x : T131D × Unit) : afun E121 Tryz.f121 P121 R121 x = F121 x := by kernel_rfl
-- (*decamp/octets.In).Left
def F191 (x : T131D × Unit) : Option (Int × T131D × Unit) := some (Int.ofNat (List.length x.1.1), x)
def S191 : Sig := ⟨P191, R191, F191⟩
def E191 : Env := en 10 [] [] []
theorem raw191_eq (x : T131D × Unit) : afun E191 Tryz.f191 P191 R191 x = F191 x := by kernel_rfl
-- (*decamp/octets.In).Count
def F122 (x : T131D × Int × Unit) : Option (Int × T131D × Unit) :=
 Option.bind (F120 (x.1, 4, ())) fun b =>
 bif decide (IntKind.wrap IntKind.u64 (maxI x.2.1 0) < b.1) then
 Option.bind (F126 b.2) fun b => some (0, b)
 else
 Option.bind (F191 b.2) fun b_1 =>
 bif decide (IntKind.wrap IntKind.u64 b_1.1 < b.1) then
 Option.bind (F126 b_1.2) fun b => some (0, b)
 else
 bif decide (x.2.1 < 0) then
 Option.bind (F126 b_1.2) fun b => some (0, b)
 else some (wrap64 b.1, b_1.2)
def S122 : Sig := ⟨P122, R122, F122⟩
def E122 : Env := en 28 [(120, [S120]), (126, [S126]), (191, [S191])] [] []
theorem raw122_eq (x : T131D × Int × Unit) : afun E122 Tryz.f122 P122 R122 x = F122 x := by kernel_rfl
-- (*decamp/octets.In).Bad
def F125 (x : T131D × Unit) : Option (Bool × T131D × Unit) := some (x.1.2.1, x)
def S125 : Sig := ⟨P125, R125, F125⟩
def E125 : Env := en 11 [] [] []
theorem raw125_eq (x : T131D × Unit) : afun E125 Tryz.f125 P125 R125 x = F125 x := by kernel_rfl
-- (*decamp/octets.In).Bytes
def F129 (x : T131D × Int × Unit) : Option (List UInt8 × T131D × Unit) :=
 Option.bind (F122 x) fun b =>
 Option.bind (F190 (b.2.1, b.1, ())) fun b =>
 some b
def S129 : Sig := ⟨P129, R129, F129⟩
def E129 : Env := en 10 [(122, [S122]), (190, [S190])] [] []
theorem raw129_eq (x : T131D × Int × Unit) : afun E129 Tryz.f129 P129 R129 x = F129 x := by kernel_rfl
-- decamp/entry.Get
def F123 (x : T131D × Unit) : Option (T25D × T131D × Unit) :=
 Option.bind (F50 x) fun b =>
 Option.bind (F50 b.2) fun b_1 =>
 Option.bind (F129 (b_1.2.1, 12000, ()))
 fun b_2 =>
 Option.bind (F125 b_2.2) fun b_3 =>
 bif b_3.1 then
 Option.bind (F126 b_3.2) fun b => some ((0, 0, [], ()), b)
 else
 Option.bind (F173 ((b.1, b_1.1, b_2.1, ()), ())) fun b_4 =>
 bif !b_4.1 then
 Option.bind (F126 b_3.2) fun b =>
 some ((0, 0, [], ()), b)
 else some ((b.1, b_1.1, b_2.1, ()), b_3.2)
def S123 : Sig := ⟨P123, R123, F123⟩
def E123 : Env := en 22 [(50, [S50]), (125, [S125]), (126, [S126]), (129, [S129]), (173, [S173])] [] []
theorem raw123_eq (x : T131D × Unit) : afun E123 Tryz.f123 P123 R123 x = F123 x := by kernel_rfl
-- decamp/entry.GetSnap
def F124 (x : T131D × Unit) : Option (T25D × T131D × Unit) :=
 Option.bind (F50 x) fun b =>
 Option.bind (F50 b.2) fun b_1 =>
 Option.bind (F129 (b_1.2.1, 50000, ()))
 fun b_2 =>
 Option.bind (F125 b_2.2) fun b_3 =>
 bif b_3.1 then
 Option.bind (F126 b_3.2) fun b => some ((0, 0, [], ()), b)
 else
 Option.bind (F150 ((b.1, b_1.1, b_2.1, ()), ())) fun b_4 =>
 bif !b_4.1 then
 Option.bind (F126 b_3.2) fun b =>
 some ((0, 0, [], ()), b)
 else some ((b.1, b_1.1, b_2.1, ()), b_3.2)
def S124 : Sig := ⟨P124, R124, F124⟩
def E124 : Env := en 22 [(50, [S50]), (125, [S125]), (126, [S126]), (129, [S129]), (150, [S150])] [] []
theorem raw124_eq (x : T131D × Unit) : afun E124 Tryz.f124 P124 R124 x = F124 x := by kernel_rfl
-- decamp/rmsg.Get
def F49 (x : T131D × Unit) : Option (T27D × T131D × Unit) :=
 Option.bind (F48 x) fun b =>
 Option.bind (F48 b.2) fun b_1 =>
 Option.bind (F48 b_1.2) fun b_2 =>
 Option.bind (F50 b_2.2) fun b_3 =>
 Option.bind (F50 b_3.2) fun b_4 =>
 Option.bind (F50 b_4.2) fun b_5 =>
 Option.bind (F50 b_5.2) fun b_6 =>
 Option.bind (F50 b_6.2) fun b_7 =>
 Option.bind (F121 b_7.2) fun b_8 =>
 Option.bind (F122 (b_8.2.1, 4, ()))
 fun b_9 =>
 iterE (Int × List UInt8 × Bool × List T25D × Unit)
 ((Int × Int × Int × Int × Int × Int × Int × Int × Bool × List T25D × T25D × Unit) × T131D × Unit)
 (fun (x : Int × List UInt8 × Bool × List T25D × Unit) =>
 bif decide (x.1 < b_9.1) then
 Option.bind (F123 ((x.2.1, x.2.2.1, ()), ()))
 fun b =>
 Option.bind (appO x.2.2.2.1 [b.1])
 fun b_10 =>
 some
 (Sum.inl
 (wrap64 (x.1 + 1), b.2.1.1, b.2.1.2.1, b_10,
 ()))
 else
 Option.map Sum.inr
 (Option.bind
 (bif decide (wrap64 (intOf8 b.1) = 7) then
 Option.bind (F124 ((x.2.1, x.2.2.1, ()), ()))
 fun b =>
 some (Sum.inl (b.1, b.2.1))
 else some (Sum.inl ((0, 0, [], ()), x.2.1, x.2.2.1, ())))
 fun o =>
 Sum.elim
 (fun (x_1 : T25D × T131D) =>
 Option.bind (F125 (x_1.2, ()))
 fun b_10 =>
 bif b_10.1 then
 Option.bind (F126 b_10.2) fun b =>
 some
 ((0, 0, 0, 0, 0, 0, 0, 0, false, [], (0, 0, [], ()), ()), b)
 else
 Option.bind
 (F71
 ((wrap64 (intOf8 b.1),
 wrap64 (intOf8 b_1.1),
 wrap64 (intOf8 b_2.1), b_3.1, b_4.1, b_5.1,
 b_6.1, b_7.1, b_8.1, x.2.2.2.1, x_1.1, ()),
 ()))
 fun b_11 =>
 bif !b_11.1 then
 Option.bind (F126 b_10.2) fun b =>
 some
 ((0, 0, 0, 0, 0, 0, 0, 0, false, [], (0, 0, [], ()),
 ()),
 b)
 else
 some
 ((wrap64 (intOf8 b.1),
 wrap64 (intOf8 b_1.1),
 wrap64 (intOf8 b_2.1), b_3.1, b_4.1, b_5.1,
 b_6.1, b_7.1, b_8.1, x.2.2.2.1, x_1.1, ()),
 b_10.2))
 (fun (val :
 (Int × Int × Int × Int × Int × Int × Int × Int × Bool × List T25D × T25D × Unit) × T131D × Unit) =>
 some val)
 o))
 big (0, b_9.2.1.1, b_9.2.1.2.1, [], ())
def S49 : Sig := ⟨P49, R49, F49⟩
def E49 : Env := en 61 [(48, [S48]), (50, [S50]), (71, [S71]), (121, [S121]), (122, [S122]), (123, [S123]), (124, [S124]), (125, [S125]), (126, [S126])] [(10, ⟨[⟨.fld 1011000 10, T25, .pv⟩, ⟨.fld 0 0, (.slice .u8), .pv⟩, ⟨.fld 0 1, .bool, .pv⟩], [0, 2, 3], [.site 1011000, .fld 1011000 0, .fld 1011000 1, .fld 1011000 2, .fld 1011000 3, .fld 1011000 4, .fld 1011000 5, .fld 1011000 6, .fld 1011000 7, .fld 1011000 8, .fld 1011000 9, .row 50005003, .site 1000, .fld 1000 0, .fld 1000 1, .fld 1000 2, .fld 1000 3, .fld 1000 4, .fld 1000 5, .fld 1000 6, .fld 1000 7, .fld 1000 8, .fld 1000 9, .fld 1000 10, .site 0]⟩)] [(5, mkLoop ⟨[⟨.slot 34, (.int .i64), .pv⟩, ⟨.fld 0 0, (.slice .u8), .pv⟩, ⟨.fld 0 1, .bool, .pv⟩, ⟨.fld 1011000 9, (.slice T25), .own false⟩], [0, 2, 3, 33], [.site 0, .site 1011000, .fld 1011000 0, .fld 1011000 1, .fld 1011000 2, .fld 1011000 3, .fld 1011000 4, .fld 1011000 5, .fld 1011000 6, .fld 1011000 7, .fld 1011000 8, .fld 1011000 10, .site 1000, .fld 1000 0, .fld 1000 1, .fld 1000 2, .fld 1000 3, .fld 1000 4, .fld 1000 5, .fld 1000 6, .fld 1000 7, .fld 1000 8, .fld 1000 9, .fld 1000 10]⟩)]
theorem raw49_eq (x : T131D × Unit) : afun E49 Tryz.f49 P49 R49 x = F49 x := by kernel_rfl
-- decamp/talk.get$1
def F127 (x : Unit) : Option (Int × Unit) := none
def S127 : Sig := ⟨P127, R127, F127⟩
def E127 : Env := en 4 [(50, [S50])] [] []
theorem raw127_eq (x : Unit) : afun E127 Tryz.f127 P127 R127 x = F127 x := by kernel_rfl
-- decamp/talk.get$1
def F127a (x : T131D × Unit) : Option (Int × T131D × Unit) :=
 Option.bind (F50 x) fun b => some b
def S127a : Sig := ⟨P127a, R127a, F127a⟩
def E127a : Env := en 4 [(50, [S50])] [] []
theorem raw127a_eq (x : T131D × Unit) : afun E127a Tryz.f127 P127a R127a x = F127a x := by kernel_rfl
-- (*decamp/octets.In).Done
def F52 (x : T131D × Unit) : Option (Bool × T131D × Unit) :=
 bif !x.1.2.1 then some (decide (Int.ofNat (List.length x.1.1) = 0), x) else some (false, x)
def S52 : Sig := ⟨P52, R52, F52⟩
def E52 : Env := en 20 [] [] []
theorem raw52_eq (x : T131D × Unit) : afun E52 Tryz.f52 P52 R52 x = F52 x := by kernel_rfl
-- (*decamp/octets.In).Text
def F130 (x : T131D × Int × Unit) : Option (List UInt8 × T131D × Unit) :=
 Option.bind (F122 x) fun b =>
 Option.bind (F190 (b.2.1, b.1, ())) fun b =>
 some b
def S130 : Sig := ⟨P130, R130, F130⟩
def E130 : Env := en 11 [(122, [S122]), (190, [S190])] [] []
theorem raw130_eq (x : T131D × Int × Unit) : afun E130 Tryz.f130 P130 R130 x = F130 x := by kernel_rfl
-- decamp/cmd.GetVer
def F225 (x : T131D × Unit) : Option (T66D × T131D × Unit) :=
 Option.bind (F50 x) fun b =>
 Option.bind (F50 b.2) fun b_1 =>
 Option.bind (F50 b_1.2) fun b_2 =>
 Option.bind (F50 b_2.2) fun b_3 =>
 Option.bind (F130 (b_3.2.1, 60000, ()))
 fun b_4 =>
 Option.bind (F50 b_4.2) fun b_5 =>
 Option.bind (F121 b_5.2) fun b_6 =>
 Option.bind (F125 b_6.2) fun b_7 =>
 bif b_7.1 then
 Option.bind (F126 b_7.2) fun b =>
 some ((0, 0, 0, 0, [], 0, false, ()), b)
 else
 Option.bind
 (F235 ((b.1, b_1.1, b_2.1, b_3.1, b_4.1, b_5.1, b_6.1, ()), ()))
 fun b_8 =>
 bif !b_8.1 then
 Option.bind (F126 b_7.2) fun b =>
 some ((0, 0, 0, 0, [], 0, false, ()), b)
 else some ((b.1, b_1.1, b_2.1, b_3.1, b_4.1, b_5.1, b_6.1, ()), b_7.2)
def S225 : Sig := ⟨P225, R225, F225⟩
def E225 : Env := en 30 [(50, [S50]), (121, [S121]), (125, [S125]), (126, [S126]), (130, [S130]), (235, [S235])] [] []
theorem raw225_eq (x : T131D × Unit) : afun E225 Tryz.f225 P225 R225 x = F225 x := by kernel_rfl
-- decamp/cmd.GetItem
def F194 (x : T131D × Unit) : Option (T70D × T131D × Unit) :=
 Option.bind (F130 (x.1, 60000, ())) fun b =>
 Option.bind (F225 b.2)
 fun b_1 =>
 Option.bind (F125 b_1.2) fun b_2 =>
 bif b_2.1 then
 Option.bind (F126 b_2.2) fun b =>
 some (([], (0, 0, 0, 0, [], 0, false, ()), ()), b)
 else
 Option.bind (F219 ((b.1, b_1.1, ()), ())) fun b_3 =>
 bif !b_3.1 then
 Option.bind (F126 b_2.2) fun b =>
 some (([], (0, 0, 0, 0, [], 0, false, ()), ()), b)
 else some ((b.1, b_1.1, ()), b_2.2)
def S194 : Sig := ⟨P194, R194, F194⟩
def E194 : Env := en 20 [(125, [S125]), (126, [S126]), (130, [S130]), (219, [S219]), (225, [S225])] [] []
theorem raw194_eq (x : T131D × Unit) : afun E194 Tryz.f194 P194 R194 x = F194 x := by kernel_rfl
-- decamp/cmd.getItems
def F193 (x : T131D × Unit) : Option (List T70D × T131D × Unit) :=
 Option.bind (F122 (x.1, 60000, ())) fun b =>
 iterE
 (List T70D × Int × T131D)
 (List T70D × T131D × Unit)
 (fun (x :
 List T70D × Int × T131D) =>
 bif decide (x.2.1 < b.1) then
 Option.bind (F194 (x.2.2, ()))
 fun b =>
 Option.bind (appO x.1 [b.1])
 fun b_1 =>
 some (Sum.inl (b_1, wrap64 (x.2.1 + 1), b.2.1))
 else some (Sum.inr (x.1, x.2.2, ())))
 big ([], 0, b.2.1)
def S193 : Sig := ⟨P193, R193, F193⟩
def E193 : Env := en 15 [(122, [S122]), (194, [S194])] [] [(3, mkLoop ⟨[⟨.slot 3, (.slice T70), .own false⟩, ⟨.slot 6, (.int .i64), .pv⟩, ⟨.fld 0 0, (.slice .u8), .pv⟩, ⟨.fld 0 1, .bool, .pv⟩], [0, 5], [.site 0]⟩)]
theorem raw193_eq (x : T131D × Unit) : afun E193 Tryz.f193 P193 R193 x = F193 x := by kernel_rfl
-- decamp/cmd.GetReply
def F131 (x : T131D × Unit) : Option (T51D × T131D × Unit) :=
 Option.bind (F48 x) fun b =>
 Option.bind (F50 b.2) fun b_1 =>
 Option.bind (F121 b_1.2) fun b_2 =>
 Option.bind (F50 b_2.2) fun b_3 =>
 Option.bind (F193 b_3.2)
 fun b_4 =>
 Option.bind (F48 b_4.2) fun b_5 =>
 Option.bind (F50 b_5.2) fun b_6 =>
 Option.bind (F125 b_6.2) fun b_7 =>
 bif b_7.1 then
 Option.bind (F126 b_7.2) fun b =>
 some ((0, 0, false, 0, [], 0, 0, ()), b)
 else
 Option.bind
 (F154
 ((wrap64 (intOf8 b.1), b_1.1, b_2.1, b_3.1, b_4.1,
 wrap64 (intOf8 b_5.1), b_6.1, ()),
 ()))
 fun b_8 =>
 bif !b_8.1 then
 Option.bind (F126 b_7.2) fun b =>
 some ((0, 0, false, 0, [], 0, 0, ()), b)
 else
 some
 ((wrap64 (intOf8 b.1), b_1.1, b_2.1, b_3.1, b_4.1,
 wrap64 (intOf8 b_5.1), b_6.1, ()),
 b_7.2)
def S131 : Sig := ⟨P131, R131, F131⟩
def E131 : Env := en 32 [(48, [S48]), (50, [S50]), (121, [S121]), (125, [S125]), (126, [S126]), (154, [S154]), (193, [S193])] [] []
theorem raw131_eq (x : T131D × Unit) : afun E131 Tryz.f131 P131 R131 x = F131 x := by kernel_rfl
-- decamp/cmd.getHanded
def F195 (x : T131D × Unit) : Option (List T94D × List T113D × T131D × Unit) :=
 Option.bind (F122 (x.1, 60000, ())) fun b =>
 iterE
 (List (Int × Int × (Int × Int × Bool × Int × List T70D × Int × Int × Unit) × Unit) × Int × T131D)
 (List (Int × Int × (Int × Int × Bool × Int × List T70D × Int × Int × Unit) × Unit) × List T113D × T131D × Unit)
 (fun (x :
 List (Int × Int × (Int × Int × Bool × Int × List T70D × Int × Int × Unit) × Unit) × Int × T131D) =>
 bif decide (x.2.1 < b.1) then
 Option.bind (F50 (x.2.2, ())) fun b =>
 Option.bind (F50 b.2) fun b_1 =>
 Option.bind (F131 b_1.2)
 fun b_2 =>
 Option.bind (appM x.1 [(b.1, b_1.1, b_2.1, ())])
 fun b =>
 some (Sum.inl (b, wrap64 (x.2.1 + 1), b_2.2.1))
 else
 Option.map Sum.inr
 (Option.bind (F122 (x.2.2, 60000, ())) fun b =>
 iterE (List T113D × Int × T131D)
 (List (Int × Int × (Int × Int × Bool × Int × List T70D × Int × Int × Unit) × Unit) × List T113D × T131D × Unit)
 (fun (x_1 : List T113D × Int × T131D) =>
 bif decide (x_1.2.1 < b.1) then
 Option.bind (F50 (x_1.2.2, ())) fun b =>
 Option.bind (F50 b.2) fun b_1 =>
 Option.bind (F50 b_1.2) fun b_2 =>
 Option.bind (appO x_1.1 [(b.1, b_1.1, b_2.1, ())])
 fun b =>
 some (Sum.inl (b, wrap64 (x_1.2.1 + 1), b_2.2.1))
 else some (Sum.inr (x.1, x_1.1, x_1.2.2, ())))
 big ([], 0, b.2.1)))
 big ([], 0, b.2.1)
def S195 : Sig := ⟨P195, R195, F195⟩
def E195 : Env := en 38 [(50, [S50]), (122, [S122]), (131, [S131])] [] [(3, mkLoop ⟨[⟨.slot 4, (.slice T94), .own false⟩, ⟨.slot 8, (.int .i64), .pv⟩, ⟨.fld 0 0, (.slice .u8), .pv⟩, ⟨.fld 0 1, .bool, .pv⟩], [0, 7], [.site 0]⟩), (8, mkLoop ⟨[⟨.slot 5, (.slice T113), .own false⟩, ⟨.slot 23, (.int .i64), .pv⟩, ⟨.fld 0 0, (.slice .u8), .pv⟩, ⟨.fld 0 1, .bool, .pv⟩], [0, 4, 22], [.row 50003000, .site 0]⟩)]
theorem raw195_eq (x : T131D × Unit) : afun E195 Tryz.f195 P195 R195 x = F195 x := by kernel_rfl
-- decamp/cmd.getCmps
def F223 (x : T131D × Unit) : Option (List T96D × T131D × Unit) :=
 Option.bind (F122 (x.1, 60000, ())) fun b =>
 iterE (List T96D × Int × T131D)
 (List T96D × T131D × Unit)
 (fun (x : List T96D × Int × T131D) =>
 bif decide (x.2.1 < b.1) then
 Option.bind (F130 (x.2.2, 60000, ()))
 fun b =>
 Option.bind (F48 b.2) fun b_1 =>
 Option.bind (F48 b_1.2) fun b_2 =>
 Option.bind (F50 b_2.2) fun b_3 =>
 Option.bind (F130 (b_3.2.1, 60000, ()))
 fun b_4 =>
 Option.bind
 (appO x.1
 [(b.1, wrap64 (intOf8 b_1.1), wrap64 (intOf8 b_2.1),
 b_3.1, b_4.1, ())])
 fun b =>
 some (Sum.inl (b, wrap64 (x.2.1 + 1), b_4.2.1))
 else some (Sum.inr (x.1, x.2.2, ())))
 big ([], 0, b.2.1)
def S223 : Sig := ⟨P223, R223, F223⟩
def E223 : Env := en 26 [(48, [S48]), (50, [S50]), (122, [S122]), (130, [S130])] [] [(3, mkLoop ⟨[⟨.slot 3, (.slice T96), .own false⟩, ⟨.slot 6, (.int .i64), .pv⟩, ⟨.fld 0 0, (.slice .u8), .pv⟩, ⟨.fld 0 1, .bool, .pv⟩], [0, 5], [.site 0]⟩)]
theorem raw223_eq (x : T131D × Unit) : afun E223 Tryz.f223 P223 R223 x = F223 x := by kernel_rfl
-- decamp/cmd.getOps
def F224 (x : T131D × Unit) : Option (List T48D × T131D × Unit) :=
 Option.bind (F122 (x.1, 60000, ())) fun b =>
 iterE (List T48D × Int × T131D)
 (List T48D × T131D × Unit)
 (fun (x : List T48D × Int × T131D) =>
 bif decide (x.2.1 < b.1) then
 Option.bind (F48 (x.2.2, ())) fun b =>
 Option.bind (F130 (b.2.1, 60000, ()))
 fun b_1 =>
 Option.bind (F130 (b_1.2.1, 60000, ()))
 fun b_2 =>
 Option.bind (F130 (b_2.2.1, 60000, ()))
 fun b_3 =>
 Option.bind (F50 b_3.2) fun b_4 =>
 Option.bind
 (appO x.1
 [(wrap64 (intOf8 b.1), b_1.1, b_2.1, b_3.1, b_4.1, ())])
 fun b =>
 some (Sum.inl (b, wrap64 (x.2.1 + 1), b_4.2.1))
 else some (Sum.inr (x.1, x.2.2, ())))
 big ([], 0, b.2.1)
def S224 : Sig := ⟨P224, R224, F224⟩
def E224 : Env := en 25 [(48, [S48]), (50, [S50]), (122, [S122]), (130, [S130])] [] [(3, mkLoop ⟨[⟨.slot 3, (.slice T48), .own false⟩, ⟨.slot 6, (.int .i64), .pv⟩, ⟨.fld 0 0, (.slice .u8), .pv⟩, ⟨.fld 0 1, .bool, .pv⟩], [0, 5], [.site 0]⟩)]
theorem raw224_eq (x : T131D × Unit) : afun E224 Tryz.f224 P224 R224 x = F224 x := by kernel_rfl
-- decamp/cmd.getCmd
def F192 (x : T131D × Unit) : Option (T28D × T131D × Unit) :=
 Option.bind (F48 x) fun b =>
 Option.bind (F130 (b.2.1, 60000, ())) fun b_1 =>
 Option.bind (F130 (b_1.2.1, 60000, ()))
 fun b_2 =>
 Option.bind (F130 (b_2.2.1, 60000, ()))
 fun b_3 =>
 Option.bind (F50 b_3.2) fun b_4 =>
 Option.bind (F50 b_4.2) fun b_5 =>
 Option.bind (F50 b_5.2) fun b_6 =>
 Option.bind (F223 b_6.2)
 fun b_7 =>
 Option.bind (F224 b_7.2)
 fun b_8 =>
 Option.bind (F224 b_8.2)
 fun b_9 =>
 Option.bind (F50 b_9.2) fun b_10 =>
 Option.bind (F50 b_10.2) fun b_11 =>
 Option.bind (F50 b_11.2) fun b_12 =>
 Option.bind (F121 b_12.2) fun b_13 =>
 Option.bind (F193 b_13.2)
 fun b_14 =>
 Option.bind (F195 b_14.2)
 fun b_15 =>
 some
 ((wrap64 (intOf8 b.1), b_1.1, b_2.1, b_3.1, b_4.1,
 b_5.1, b_6.1, b_7.1, b_8.1, b_9.1, b_10.1, b_11.1, b_12.1,
 b_13.1, b_14.1, b_15.1, b_15.2.1, ()),
 b_15.2.2)
def S192 : Sig := ⟨P192, R192, F192⟩
def E192 : Env := en 52 [(48, [S48]), (50, [S50]), (121, [S121]), (130, [S130]), (193, [S193]), (195, [S195]), (223, [S223]), (224, [S224])] [] []
theorem raw192_eq (x : T131D × Unit) : afun E192 Tryz.f192 P192 R192 x = F192 x := by kernel_rfl
-- decamp/cmd.Decode
def F128 (x : T83D) : Option (T33D × Int × Unit) :=
 Option.bind (F47 x) fun b =>
 Option.bind (F50 b) fun b =>
 Option.bind (F50 b.2) fun b_1 =>
 Option.bind (F192 b_1.2)
 fun b_2 =>
 bif decide (12000 < Int.ofNat (List.length x.1)) then
 some
 ((0, 0, (0, [], [], [], 0, 0, 0, [], [], [], 0, 0, 0, false, [], [], [], ()), ()), 2,
 ())
 else
 Option.bind (F52 b_2.2) fun b_3 =>
 bif !b_3.1 then
 some
 ((0, 0, (0, [], [], [], 0, 0, 0, [], [], [], 0, 0, 0, false, [], [], [], ()), ()), 2,
 ())
 else
 Option.bind (F94 ((b.1, b_1.1, b_2.1, ()), ())) fun b_4 =>
 bif !b_4.1 then
 some
 ((0, 0, (0, [], [], [], 0, 0, 0, [], [], [], 0, 0, 0, false, [], [], [], ()), ()),
 2, ())
 else some ((b.1, b_1.1, b_2.1, ()), 0, ())
def S128 : Sig := ⟨P128, R128, F128⟩
def E128 : Env := en 30 [(47, [S47]), (50, [S50]), (52, [S52]), (94, [S94]), (192, [S192])] [] []
theorem raw128_eq (x : T83D) : afun E128 Tryz.f128 P128 R128 x = F128 x := by kernel_rfl
-- decamp/talk.getItems
def F132 (x : T131D × Unit) : Option (List T70D × T131D × Unit) :=
 Option.bind (F122 (x.1, 60000, ())) fun b =>
 iterE
 (List T70D × Int × T131D)
 (List T70D × T131D × Unit)
 (fun (x :
 List T70D × Int × T131D) =>
 bif decide (x.2.1 < b.1) then
 Option.bind (F194 (x.2.2, ()))
 fun b =>
 Option.bind (appO x.1 [b.1])
 fun b_1 =>
 some (Sum.inl (b_1, wrap64 (x.2.1 + 1), b.2.1))
 else some (Sum.inr (x.1, x.2.2, ())))
 big ([], 0, b.2.1)
def S132 : Sig := ⟨P132, R132, F132⟩
def E132 : Env := en 15 [(122, [S122]), (194, [S194])] [] [(3, mkLoop ⟨[⟨.slot 3, (.slice T70), .own false⟩, ⟨.slot 6, (.int .i64), .pv⟩, ⟨.fld 0 0, (.slice .u8), .pv⟩, ⟨.fld 0 1, .bool, .pv⟩], [0, 5], [.site 0]⟩)]
theorem raw132_eq (x : T131D × Unit) : afun E132 Tryz.f132 P132 R132 x = F132 x := by kernel_rfl
-- decamp/cmd.GetHand
def F133 (x : T131D × Unit) : Option (T55D × T131D × Unit) :=
 Option.bind (F50 x) fun b =>
 Option.bind (F50 b.2) fun b_1 =>
 Option.bind (F195 b_1.2)
 fun b_2 =>
 Option.bind (F125 b_2.2.2) fun b_3 =>
 bif b_3.1 then
 Option.bind (F126 b_3.2) fun b =>
 some ((0, 0, [], [], ()), b)
 else
 Option.bind (F157 ((b.1, b_1.1, b_2.1, b_2.2.1, ()), ()))
 fun b_4 =>
 bif !b_4.1 then
 Option.bind (F126 b_3.2) fun b =>
 some ((0, 0, [], [], ()), b)
 else some ((b.1, b_1.1, b_2.1, b_2.2.1, ()), b_3.2)
def S133 : Sig := ⟨P133, R133, F133⟩
def E133 : Env := en 27 [(50, [S50]), (125, [S125]), (126, [S126]), (157, [S157]), (195, [S195])] [] []
theorem raw133_eq (x : T131D × Unit) : afun E133 Tryz.f133 P133 R133 x = F133 x := by kernel_rfl
-- decamp/cmd.GetMove
def F134 (x : T131D × Unit) : Option (T53D × T131D × Unit) :=
 Option.bind (F48 x) fun b =>
 Option.bind (F50 b.2) fun b_1 =>
 Option.bind (F50 b_1.2) fun b_2 =>
 Option.bind (F130 (b_2.2.1, 60000, ()))
 fun b_3 =>
 Option.bind (F130 (b_3.2.1, 60000, ()))
 fun b_4 =>
 Option.bind (F50 b_4.2) fun b_5 =>
 Option.bind (F130 (b_5.2.1, 60000, ()))
 fun b_6 =>
 Option.bind (F50 b_6.2) fun b_7 =>
 Option.bind (F50 b_7.2) fun b_8 =>
 Option.bind (F50 b_8.2) fun b_9 =>
 Option.bind (F125 b_9.2) fun b_10 =>
 bif b_10.1 then
 Option.bind (F126 b_10.2) fun b =>
 some ((0, 0, 0, [], [], 0, [], 0, 0, 0, ()), b)
 else
 Option.bind
 (F158
 ((wrap64 (intOf8 b.1), b_1.1, b_2.1, b_3.1, b_4.1, b_5.1,
 b_6.1, b_7.1, b_8.1, b_9.1, ()),
 ()))
 fun b_11 =>
 bif !b_11.1 then
 Option.bind (F126 b_10.2) fun b =>
 some ((0, 0, 0, [], [], 0, [], 0, 0, 0, ()), b)
 else
 some
 ((wrap64 (intOf8 b.1), b_1.1, b_2.1, b_3.1, b_4.1, b_5.1,
 b_6.1, b_7.1, b_8.1, b_9.1, ()),
 b_10.2)
def S134 : Sig := ⟨P134, R134, F134⟩
def E134 : Env := en 37 [(48, [S48]), (50, [S50]), (125, [S125]), (126, [S126]), (130, [S130]), (158, [S158])] [] []
theorem raw134_eq (x : T131D × Unit) : afun E134 Tryz.f134 P134 R134 x = F134 x := by kernel_rfl
-- decamp/talk.get
def F51 (x : T131D × TMD × Unit) : Option (T131D × TMD × Unit) :=
 bif decide (x.2.1.1 = 2) then
 Option.bind (F129 (x.1, 60000, ())) fun b =>
 Option.bind (F128 (b.1, ()))
 fun b_1 =>
 bif !decide (b_1.2.1 = 0) then
 Option.bind (F126 b.2) fun b =>
 some
 (b.1, (x.2.1.1, x.2.1.2.1, x.2.1.2.2.1, b_1.1, x.2.1.2.2.2.2),
 ())
 else
 some
 (b.2.1, (x.2.1.1, x.2.1.2.1, x.2.1.2.2.1, b_1.1, x.2.1.2.2.2.2),
 ())
 else
 bif decide (x.2.1.1 = 3) then
 Option.bind (F50 (x.1, ())) fun b =>
 Option.bind (F130 (b.2.1, 60000, ()))
 fun b_1 =>
 Option.bind (F130 (b_1.2.1, 60000, ()))
 fun b_2 =>
 Option.bind (F50 b_2.2) fun b_3 =>
 Option.bind (F50 b_3.2) fun b_4 =>
 some
 (b_4.2.1,
 (x.2.1.1, x.2.1.2.1, x.2.1.2.2.1, x.2.1.2.2.2.1, b.1, b_1.1,
 b_2.1, b_3.1, b_4.1, x.2.1.2.2.2.2.2.2.2.2.2),
 ())
 else
 bif decide (x.2.1.1 = 4) then
 Option.bind (F50 (x.1, ())) fun b =>
 Option.bind (F130 (b.2.1, 60000, ()))
 fun b_1 =>
 Option.bind (F130 (b_1.2.1, 60000, ()))
 fun b_2 =>
 Option.bind (F50 b_2.2) fun b_3 =>
 some
 (b_3.2.1,
 (x.2.1.1, x.2.1.2.1, x.2.1.2.2.1, x.2.1.2.2.2.1, b.1, b_1.1,
 b_2.1, b_3.1, x.2.1.2.2.2.2.2.2.2.2),
 ())
 else
 bif decide (x.2.1.1 = 5) then
 Option.bind (F130 (x.1, 60000, ())) fun b =>
 Option.bind (F130 (b.2.1, 60000, ()))
 fun b_1 =>
 Option.bind (F50 b_1.2) fun b_2 =>
 some
 (b_2.2.1,
 (x.2.1.1, x.2.1.2.1, x.2.1.2.2.1, x.2.1.2.2.2.1,
 x.2.1.2.2.2.2.1, b.1, b_1.1, b_2.1,
 x.2.1.2.2.2.2.2.2.2.2),
 ())
 else
 bif decide (x.2.1.1 = 6) then
 Option.bind (F50 (x.1, ())) fun b =>
 some
 (b.2.1,
 (x.2.1.1, x.2.1.2.1, x.2.1.2.2.1, x.2.1.2.2.2.1,
 x.2.1.2.2.2.2.1, x.2.1.2.2.2.2.2.1,
 x.2.1.2.2.2.2.2.2.1, b.1, x.2.1.2.2.2.2.2.2.2.2),
 ())
 else
 bif decide (x.2.1.1 = 8) then
 Option.bind (F127a (x.1, ())) fun b =>
 Option.bind (F50 b.2) fun b_1 =>
 Option.bind (F131 b_1.2)
 fun b_2 =>
 some
 (b_2.2.1,
 (x.2.1.1, x.2.1.2.1, x.2.1.2.2.1, x.2.1.2.2.2.1,
 x.2.1.2.2.2.2.1, x.2.1.2.2.2.2.2.1,
 x.2.1.2.2.2.2.2.2.1, x.2.1.2.2.2.2.2.2.2.1,
 x.2.1.2.2.2.2.2.2.2.2.1, b.1, b_1.1, b_2.1,
 x.2.1.2.2.2.2.2.2.2.2.2.2.2.2),
 ())
 else
 bif decide (x.2.1.1 = 9) then
 Option.bind (F127a (x.1, ())) fun b =>
 Option.bind (F50 b.2) fun b_1 =>
 Option.bind (F122 (b_1.2.1, 60000, ()))
 fun b_2 =>
 iterE
 (Int × List (Int × List T70D × Unit) × T131D)
 (T131D × (Int × Int × (Int × Int × Int × Int × Int × Int × Int × Int × Bool × List T25D × T25D × Unit) × (Int × Int × (Int × List UInt8 × List UInt8 × List UInt8 × Int × Int × Int × List T96D × List T48D × List T48D × Int × Int × Int × Bool × List T70D × List (Int × Int × (Int × Int × Bool × Int × List T70D × Int × Int × Unit) × Unit) × List T113D × Unit) × Unit) × Int × List UInt8 × List UInt8 × Int × Int × Int × Int × (Int × Int × Bool × Int × List T70D × Int × Int × Unit) × List (Int × List T70D × Unit) × List T70D × Bool × (Int × Int × List (Int × Int × (Int × Int × Bool × Int × List T70D × Int × Int × Unit) × Unit) × List T113D × Unit) × T53D × Unit) × Unit)
 (fun (x_1 :
 Int × List (Int × List T70D × Unit) × T131D) =>
 bif decide (x_1.1 < b_2.1) then
 Option.bind (F50 (x_1.2.2, ()))
 fun b =>
 Option.bind (F132 b.2)
 fun b_3 =>
 Option.bind (appO x_1.2.1 [(b.1, b_3.1, ())])
 fun b =>
 some (Sum.inl (wrap64 (x_1.1 + 1), b, b_3.2.1))
 else
 some
 (Sum.inr
 (x_1.2.2,
 (x.2.1.1, x.2.1.2.1, x.2.1.2.2.1, x.2.1.2.2.2.1,
 x.2.1.2.2.2.2.1, x.2.1.2.2.2.2.2.1,
 x.2.1.2.2.2.2.2.2.1, b_1.1,
 x.2.1.2.2.2.2.2.2.2.2.1, b.1,
 x.2.1.2.2.2.2.2.2.2.2.2.2.1,
 x.2.1.2.2.2.2.2.2.2.2.2.2.2.1, x_1.2.1,
 x.2.1.2.2.2.2.2.2.2.2.2.2.2.2.2),
 ())))
 big (0, x.2.1.2.2.2.2.2.2.2.2.2.2.2.2.1, b_2.2.1)
 else
 bif decide (x.2.1.1 = 10) then
 Option.bind (F127a (x.1, ())) fun b =>
 Option.bind (F121 b.2) fun b_1 =>
 Option.bind (F132 b_1.2)
 fun b_2 =>
 some
 (b_2.2.1,
 (x.2.1.1, x.2.1.2.1, x.2.1.2.2.1, x.2.1.2.2.2.1,
 x.2.1.2.2.2.2.1, x.2.1.2.2.2.2.2.1,
 x.2.1.2.2.2.2.2.2.1, x.2.1.2.2.2.2.2.2.2.1,
 x.2.1.2.2.2.2.2.2.2.2.1, b.1,
 x.2.1.2.2.2.2.2.2.2.2.2.2.1,
 x.2.1.2.2.2.2.2.2.2.2.2.2.2.1,
 x.2.1.2.2.2.2.2.2.2.2.2.2.2.2.1, b_2.1, b_1.1,
 x.2.1.2.2.2.2.2.2.2.2.2.2.2.2.2.2.2),
 ())
 else
 bif decide (x.2.1.1 = 11) then
 Option.bind (F127a (x.1, ())) fun b =>
 Option.bind (F121 b.2) fun b_1 =>
 bif b_1.1 then
 Option.bind (F133 b_1.2)
 fun b_2 =>
 some
 (b_2.2.1,
 (x.2.1.1, x.2.1.2.1, x.2.1.2.2.1, x.2.1.2.2.2.1,
 x.2.1.2.2.2.2.1, x.2.1.2.2.2.2.2.1,
 x.2.1.2.2.2.2.2.2.1, x.2.1.2.2.2.2.2.2.2.1,
 x.2.1.2.2.2.2.2.2.2.2.1, b.1,
 x.2.1.2.2.2.2.2.2.2.2.2.2.1,
 x.2.1.2.2.2.2.2.2.2.2.2.2.2.1,
 x.2.1.2.2.2.2.2.2.2.2.2.2.2.2.1,
 x.2.1.2.2.2.2.2.2.2.2.2.2.2.2.2.1,
 x.2.1.2.2.2.2.2.2.2.2.2.2.2.2.2.2.1, b_2.1,
 x.2.1.2.2.2.2.2.2.2.2.2.2.2.2.2.2.2.2),
 ())
 else
 some
 (b_1.2.1,
 (x.2.1.1, x.2.1.2.1, x.2.1.2.2.1, x.2.1.2.2.2.1,
 x.2.1.2.2.2.2.1, x.2.1.2.2.2.2.2.1,
 x.2.1.2.2.2.2.2.2.1, x.2.1.2.2.2.2.2.2.2.1,
 x.2.1.2.2.2.2.2.2.2.2.1, b.1,
 x.2.1.2.2.2.2.2.2.2.2.2.2),
 ())
 else
 bif decide (x.2.1.1 = 12) then
 Option.bind (F50 (x.1, ())) fun b =>
 Option.bind (F134 b.2)
 fun b_1 =>
 some
 (b_1.2.1,
 (x.2.1.1, x.2.1.2.1, x.2.1.2.2.1, x.2.1.2.2.2.1,
 x.2.1.2.2.2.2.1, x.2.1.2.2.2.2.2.1,
 x.2.1.2.2.2.2.2.2.1, b.1,
 x.2.1.2.2.2.2.2.2.2.2.1,
 x.2.1.2.2.2.2.2.2.2.2.2.1,
 x.2.1.2.2.2.2.2.2.2.2.2.2.1,
 x.2.1.2.2.2.2.2.2.2.2.2.2.2.1,
 x.2.1.2.2.2.2.2.2.2.2.2.2.2.2.1,
 x.2.1.2.2.2.2.2.2.2.2.2.2.2.2.2.1,
 x.2.1.2.2.2.2.2.2.2.2.2.2.2.2.2.2.1,
 x.2.1.2.2.2.2.2.2.2.2.2.2.2.2.2.2.2.1, b_1.1,
 ()),
 ())
 else some x
def S51 : Sig := ⟨P51, R51, F51⟩
def E51 : Env := en 192 [(50, [S50]), (121, [S121]), (122, [S122]), (126, [S126]), (127, [S127, S127a]), (128, [S128]), (129, [S129]), (130, [S130]), (131, [S131]), (132, [S132]), (133, [S133]), (134, [S134])] [] [(21, mkLoop ⟨[⟨.slot 132, (.int .i64), .pv⟩, ⟨.fld 1 12, (.slice TB), .own true⟩, ⟨.fld 0 0, (.slice .u8), .pv⟩, ⟨.fld 0 1, .bool, .pv⟩], [1, 2, 131], [.site 1, .fld 1 0, .fld 1 1, .fld 1 2, .fld 1 3, .fld 1 4, .fld 1 5, .fld 1 6, .fld 1 7, .fld 1 8, .fld 1 9, .fld 1 10, .fld 1 11, .fld 1 13, .fld 1 14, .fld 1 15, .fld 1 16, .site 0, .site 1000, .fld 1000 0]⟩)]
theorem raw51_eq (x : T131D × TMD × Unit) : afun E51 Tryz.f51 P51 R51 x = F51 x := by kernel_rfl
-- decamp/talk.Decode
def F13 (x : T83D) : Option (TMD × Int × Unit) :=
 Option.bind (F47 x) fun b =>
 Option.bind (F48 b) fun b =>
 Option.bind
 (bif decide (wrap64 (intOf8 b.1) = 1) then
 Option.bind (F49 b.2)
 fun b_1 =>
 some
 (Sum.inl
 (wrap64 (intOf8 b.1), 0, b_1.1,
 (0, 0, (0, [], [], [], 0, 0, 0, [], [], [], 0, 0, 0, false, [], [], [], ()), ()), 0,
 [], [], 0, 0, 0, 0, (0, 0, false, 0, [], 0, 0, ()), [], [], false, (0, 0, [], [], ()),
 (0, 0, 0, [], [], 0, [], 0, 0, 0, ()), b_1.2.1))
 else
 Option.bind (F50 b.2) fun b_1 =>
 Option.bind
 (F51
 (b_1.2.1,
 (wrap64 (intOf8 b.1), b_1.1,
 (0, 0, 0, 0, 0, 0, 0, 0, false, [], (0, 0, [], ()), ()),
 (0, 0, (0, [], [], [], 0, 0, 0, [], [], [], 0, 0, 0, false, [], [], [], ()), ()), 0,
 [], [], 0, 0, 0, 0, (0, 0, false, 0, [], 0, 0, ()), [], [], false,
 (0, 0, [], [], ()), (0, 0, 0, [], [], 0, [], 0, 0, 0, ()), ()),
 ()))
 fun b =>
 some
 (Sum.inl
 (b.2.1.1, b.2.1.2.1, b.2.1.2.2.1, b.2.1.2.2.2.1,
 b.2.1.2.2.2.2.1, b.2.1.2.2.2.2.2.1,
 b.2.1.2.2.2.2.2.2.1, b.2.1.2.2.2.2.2.2.2.1,
 b.2.1.2.2.2.2.2.2.2.2.1, b.2.1.2.2.2.2.2.2.2.2.2.1,
 b.2.1.2.2.2.2.2.2.2.2.2.2.1,
 b.2.1.2.2.2.2.2.2.2.2.2.2.2.1,
 b.2.1.2.2.2.2.2.2.2.2.2.2.2.2.1,
 b.2.1.2.2.2.2.2.2.2.2.2.2.2.2.2.1,
 b.2.1.2.2.2.2.2.2.2.2.2.2.2.2.2.2.1,
 b.2.1.2.2.2.2.2.2.2.2.2.2.2.2.2.2.2.1,
 b.2.1.2.2.2.2.2.2.2.2.2.2.2.2.2.2.2.2.1, b.1)))
 fun o =>
 Sum.elim
 (fun (x_1 :
 Int × Int × (Int × Int × Int × Int × Int × Int × Int × Int × Bool × List T25D × T25D × Unit) × (Int × Int × (Int × List UInt8 × List UInt8 × List UInt8 × Int × Int × Int × List T96D × List T48D × List T48D × Int × Int × Int × Bool × List T70D × List (Int × Int × (Int × Int × Bool × Int × List T70D × Int × Int × Unit) × Unit) × List T113D × Unit) × Unit) × Int × List UInt8 × List UInt8 × Int × Int × Int × Int × (Int × Int × Bool × Int × List T70D × Int × Int × Unit) × List (Int × List T70D × Unit) × List T70D × Bool × (Int × Int × List (Int × Int × (Int × Int × Bool × Int × List T70D × Int × Int × Unit) × Unit) × List T113D × Unit) × T53D × T131D) =>
 bif decide (60000 < Int.ofNat (List.length x.1)) then
 some
 ((0, 0, (0, 0, 0, 0, 0, 0, 0, 0, false, [], (0, 0, [], ()), ()),
 (0, 0, (0, [], [], [], 0, 0, 0, [], [], [], 0, 0, 0, false, [], [], [], ()), ()), 0,
 [], [], 0, 0, 0, 0, (0, 0, false, 0, [], 0, 0, ()), [], [], false,
 (0, 0, [], [], ()), (0, 0, 0, [], [], 0, [], 0, 0, 0, ()), ()),
 2, ())
 else
 Option.bind (F52 (x_1.2.2.2.2.2.2.2.2.2.2.2.2.2.2.2.2.2, ()))
 fun b =>
 bif !b.1 then
 some
 ((0, 0, (0, 0, 0, 0, 0, 0, 0, 0, false, [], (0, 0, [], ()), ()),
 (0, 0, (0, [], [], [], 0, 0, 0, [], [], [], 0, 0, 0, false, [], [], [], ()),
 ()),
 0, [], [], 0, 0, 0, 0, (0, 0, false, 0, [], 0, 0, ()), [], [], false,
 (0, 0, [], [], ()), (0, 0, 0, [], [], 0, [], 0, 0, 0, ()), ()),
 2, ())
 else
 Option.bind
 (F17
 ((x_1.1, x_1.2.1, x_1.2.2.1, x_1.2.2.2.1, x_1.2.2.2.2.1,
 x_1.2.2.2.2.2.1, x_1.2.2.2.2.2.2.1,
 x_1.2.2.2.2.2.2.2.1, x_1.2.2.2.2.2.2.2.2.1,
 x_1.2.2.2.2.2.2.2.2.2.1, x_1.2.2.2.2.2.2.2.2.2.2.1,
 x_1.2.2.2.2.2.2.2.2.2.2.2.1,
 x_1.2.2.2.2.2.2.2.2.2.2.2.2.1,
 x_1.2.2.2.2.2.2.2.2.2.2.2.2.2.1,
 x_1.2.2.2.2.2.2.2.2.2.2.2.2.2.2.1,
 x_1.2.2.2.2.2.2.2.2.2.2.2.2.2.2.2.1,
 x_1.2.2.2.2.2.2.2.2.2.2.2.2.2.2.2.2.1, ()),
 ()))
 fun b =>
 bif !b.1 then
 some
 ((0, 0, (0, 0, 0, 0, 0, 0, 0, 0, false, [], (0, 0, [], ()), ()),
 (0, 0, (0, [], [], [], 0, 0, 0, [], [], [], 0, 0, 0, false, [], [], [], ()),
 ()),
 0, [], [], 0, 0, 0, 0, (0, 0, false, 0, [], 0, 0, ()), [], [], false,
 (0, 0, [], [], ()), (0, 0, 0, [], [], 0, [], 0, 0, 0, ()), ()),
 2, ())
 else
 some
 ((x_1.1, x_1.2.1, x_1.2.2.1, x_1.2.2.2.1, x_1.2.2.2.2.1,
 x_1.2.2.2.2.2.1, x_1.2.2.2.2.2.2.1,
 x_1.2.2.2.2.2.2.2.1, x_1.2.2.2.2.2.2.2.2.1,
 x_1.2.2.2.2.2.2.2.2.2.1,
 x_1.2.2.2.2.2.2.2.2.2.2.1,
 x_1.2.2.2.2.2.2.2.2.2.2.2.1,
 x_1.2.2.2.2.2.2.2.2.2.2.2.2.1,
 x_1.2.2.2.2.2.2.2.2.2.2.2.2.2.1,
 x_1.2.2.2.2.2.2.2.2.2.2.2.2.2.2.1,
 x_1.2.2.2.2.2.2.2.2.2.2.2.2.2.2.2.1,
 x_1.2.2.2.2.2.2.2.2.2.2.2.2.2.2.2.2.1, ()),
 0, ()))
 (fun (val :
 (Int × Int × (Int × Int × Int × Int × Int × Int × Int × Int × Bool × List T25D × T25D × Unit) × (Int × Int × (Int × List UInt8 × List UInt8 × List UInt8 × Int × Int × Int × List T96D × List T48D × List T48D × Int × Int × Int × Bool × List T70D × List (Int × Int × (Int × Int × Bool × Int × List T70D × Int × Int × Unit) × Unit) × List T113D × Unit) × Unit) × Int × List UInt8 × List UInt8 × Int × Int × Int × Int × (Int × Int × Bool × Int × List T70D × Int × Int × Unit) × List (Int × List T70D × Unit) × List T70D × Bool × (Int × Int × List (Int × Int × (Int × Int × Bool × Int × List T70D × Int × Int × Unit) × Unit) × List T113D × Unit) × T53D × Unit) × Int × Unit) =>
 some val)
 o
def S13 : Sig := ⟨P13, R13, F13⟩
def E13 : Env := en 38 [(17, [S17]), (47, [S47]), (48, [S48]), (49, [S49]), (50, [S50]), (51, [S51]), (52, [S52])] [(7, ⟨[⟨.fld 2005000 0, (.int .i64), .pv⟩, ⟨.fld 2005000 1, (.int .i64), .pv⟩, ⟨.fld 2005000 2, T27, .pv⟩, ⟨.fld 2005000 3, T33, .pv⟩, ⟨.fld 2005000 4, (.int .i64), .pv⟩, ⟨.fld 2005000 5, .str, .pv⟩, ⟨.fld 2005000 6, .str, .pv⟩, ⟨.fld 2005000 7, (.int .i64), .pv⟩, ⟨.fld 2005000 8, (.int .i64), .pv⟩, ⟨.fld 2005000 9, (.int .i64), .pv⟩, ⟨.fld 2005000 10, (.int .i64), .pv⟩, ⟨.fld 2005000 11, T51, .pv⟩, ⟨.fld 2005000 12, (.slice TB), .own true⟩, ⟨.fld 2005000 13, (.slice T70), .pv⟩, ⟨.fld 2005000 14, .bool, .pv⟩, ⟨.fld 2005000 15, T55, .pv⟩, ⟨.fld 2005000 16, T53, .pv⟩, ⟨.fld 1002001 0, (.slice .u8), .pv⟩, ⟨.fld 1002001 1, .bool, .pv⟩], [0, 2, 4, 5], [.site 2005000, .site 1002001, .site 1000, .fld 1000 0, .fld 1000 1, .fld 1000 2, .fld 1000 3, .fld 1000 4, .fld 1000 5, .fld 1000 6, .fld 1000 7, .fld 1000 8, .fld 1000 9, .fld 1000 10, .fld 1000 11, .fld 1000 12, .fld 1000 13, .fld 1000 14, .fld 1000 15, .fld 1000 16]⟩)] []
theorem raw13_eq (x : T83D) : afun E13 Tryz.f13 P13 R13 x = F13 x := by kernel_rfl
-- decamp/decamplaw22.awake
def F7 (x : Unit) : Option (Bool × Unit) :=
 Option.bind
 (F9
 ((7, 5, (0, 0, 0, 0, 0, 0, 0, 0, false, [], (0, 0, [], ()), ()),
 (0, 0, (0, [], [], [], 0, 0, 0, [], [], [], 0, 0, 0, false, [], [], [], ()), ()), 0, [], [],
 0, 0, 0, 0, (0, 0, false, 0, [], 0, 0, ()), [], [], false, (0, 0, [], [], ()),
 (0, 0, 0, [], [], 0, [], 0, 0, 0, ()), ()),
 ()))
 fun b =>
 Option.bind (F13 (b.1, ()))
 fun b_1 =>
 bif decide (b.2.1 = 0) then
 bif decide (Int.ofNat (List.length b.1) = 9) then
 bif decide (b_1.2.1 = 0) then
 Option.bind
 (F18
 (b_1.1,
 (7, 5, (0, 0, 0, 0, 0, 0, 0, 0, false, [], (0, 0, [], ()), ()),
 (0, 0, (0, [], [], [], 0, 0, 0, [], [], [], 0, 0, 0, false, [], [], [], ()), ()), 0,
 [], [], 0, 0, 0, 0, (0, 0, false, 0, [], 0, 0, ()), [], [], false,
 (0, 0, [], [], ()), (0, 0, 0, [], [], 0, [], 0, 0, 0, ()), ()),
 ()))
 fun b =>
 bif b.1 then
 Option.bind
 (F17
 ((0, 0, (0, 0, 0, 0, 0, 0, 0, 0, false, [], (0, 0, [], ()), ()),
 (0, 0, (0, [], [], [], 0, 0, 0, [], [], [], 0, 0, 0, false, [], [], [], ()),
 ()),
 0, [], [], 0, 0, 0, 0, (0, 0, false, 0, [], 0, 0, ()), [], [], false,
 (0, 0, [], [], ()), (0, 0, 0, [], [], 0, [], 0, 0, 0, ()), ()),
 ()))
 fun b => some (!b.1, ())
 else some (false, ())
 else some (false, ())
 else some (false, ())
 else some (false, ())
def S7 : Sig := ⟨P7, R7, F7⟩
def E7 : Env := en 40 [(9, [S9]), (13, [S13]), (17, [S17]), (18, [S18])] [] []
theorem raw7_eq (x : Unit) : afun E7 Tryz.f7 P7 R7 x = F7 x := by kernel_rfl
-- decamp/decampref17.Few
def F23 (x : T28D × Unit) : Option (Bool × Unit) :=
 bif decide (10 < Int.ofNat (List.length x.1.2.2.2.2.2.2.2.1)) then some (false, ())
 else
 bif decide (10 < Int.ofNat (List.length x.1.2.2.2.2.2.2.2.2.1)) then some (false, ())
 else
 bif decide (10 < Int.ofNat (List.length x.1.2.2.2.2.2.2.2.2.2.1)) then
 some (false, ())
 else
 bif decide (80 < Int.ofNat (List.length x.1.2.2.2.2.2.2.2.2.2.2.2.2.2.2.1)) then
 some (false, ())
 else
 bif
 decide
 (20 <
 Int.ofNat (List.length x.1.2.2.2.2.2.2.2.2.2.2.2.2.2.2.2.1)) then
 some (false, ())
 else
 bif
 decide
 (80 <
 Int.ofNat
 (List.length x.1.2.2.2.2.2.2.2.2.2.2.2.2.2.2.2.2.1)) then
 some (false, ())
 else
 iterE (Int × Int × Unit) (Bool × Unit)
 (fun (x_1 : Int × Int × Unit) =>
 bif
 decide
 (x_1.2.1 <
 Int.ofNat
 (List.length x.1.2.2.2.2.2.2.2.2.2.2.2.2.2.2.1)) then
 Option.bind (idx x.1.2.2.2.2.2.2.2.2.2.2.2.2.2.2.1 x_1.2.1)
 fun b =>
 Option.bind (idx x.1.2.2.2.2.2.2.2.2.2.2.2.2.2.2.1 x_1.2.1)
 fun b_1 =>
 some
 (Sum.inl
 (wrap64
 (wrap64 (x_1.1 + Int.ofNat (List.length b.1)) +
 Int.ofNat (List.length b_1.2.1.2.2.2.2.1)),
 wrap64 (x_1.2.1 + 1), ()))
 else
 Option.map Sum.inr
 (iterE (Int × Int × Unit) (Bool × Unit)
 (fun (x_2 : Int × Int × Unit) =>
 bif
 decide
 (x_2.2.1 <
 Int.ofNat
 (List.length
 x.1.2.2.2.2.2.2.2.2.2.2.2.2.2.2.2.1)) then
 Option.bind
 (idx x.1.2.2.2.2.2.2.2.2.2.2.2.2.2.2.2.1 x_2.2.1)
 fun b =>
 bif decide (12 < Int.ofNat (List.length b.2.2.1.2.2.2.2.1)) then
 some (Sum.inr (false, ()))
 else
 Option.bind
 (idx x.1.2.2.2.2.2.2.2.2.2.2.2.2.2.2.2.1
 x_2.2.1)
 fun b =>
 iterE (Int × Int × Unit) (Int × Int × Unit ⊕ Bool × Unit)
 (fun (x_3 : Int × Int × Unit) =>
 bif
 decide
 (x_3.2.1 <
 Int.ofNat (List.length b.2.2.1.2.2.2.2.1)) then
 Option.bind
 (idx x.1.2.2.2.2.2.2.2.2.2.2.2.2.2.2.2.1
 x_2.2.1)
 fun b =>
 Option.bind (idx b.2.2.1.2.2.2.2.1 x_3.2.1)
 fun b =>
 Option.bind
 (idx x.1.2.2.2.2.2.2.2.2.2.2.2.2.2.2.2.1
 x_2.2.1)
 fun b_1 =>
 Option.bind (idx b_1.2.2.1.2.2.2.2.1 x_3.2.1)
 fun b_2 =>
 some
 (Sum.inl
 (wrap64
 (wrap64
 (x_3.1 + Int.ofNat (List.length b.1)) +
 Int.ofNat (List.length b_2.2.1.2.2.2.2.1)),
 wrap64 (x_3.2.1 + 1), ()))
 else
 some
 (Sum.inr
 (Sum.inl
 (x_3.1, wrap64 (x_2.2.1 + 1), ()))))
 big (x_2.1, 0, ())
 else
 Option.map Sum.inr
 (iterE (Int × Int × Unit) (Bool × Unit)
 (fun (x_3 : Int × Int × Unit) =>
 bif
 decide
 (x_3.2.1 <
 Int.ofNat (List.length x.1.2.2.2.2.2.2.2.2.1)) then
 Option.bind (idx x.1.2.2.2.2.2.2.2.2.1 x_3.2.1)
 fun b =>
 Option.bind (idx x.1.2.2.2.2.2.2.2.2.1 x_3.2.1)
 fun b_1 =>
 Option.bind (idx x.1.2.2.2.2.2.2.2.2.1 x_3.2.1)
 fun b_2 =>
 some
 (Sum.inl
 (wrap64
 (wrap64
 (wrap64
 (x_3.1 + Int.ofNat (List.length b.2.1)) +
 Int.ofNat (List.length b_1.2.2.1)) +
 Int.ofNat (List.length b_2.2.2.2.1)),
 wrap64 (x_3.2.1 + 1), ()))
 else
 Option.map Sum.inr
 (iterE (Int × Int × Unit) (Bool × Unit)
 (fun (x_4 : Int × Int × Unit) =>
 bif
 decide
 (x_4.2.1 <
 Int.ofNat
 (List.length x.1.2.2.2.2.2.2.2.2.2.1)) then
 Option.bind (idx x.1.2.2.2.2.2.2.2.2.2.1 x_4.2.1)
 fun b =>
 Option.bind
 (idx x.1.2.2.2.2.2.2.2.2.2.1 x_4.2.1)
 fun b_1 =>
 Option.bind
 (idx x.1.2.2.2.2.2.2.2.2.2.1 x_4.2.1)
 fun b_2 =>
 some
 (Sum.inl
 (wrap64
 (wrap64
 (wrap64
 (x_4.1 + Int.ofNat (List.length b.2.1)) +
 Int.ofNat (List.length b_1.2.2.1)) +
 Int.ofNat (List.length b_2.2.2.2.1)),
 wrap64 (x_4.2.1 + 1), ()))
 else
 Option.map Sum.inr
 (iterE (Int × Int × Unit) (Bool × Unit)
 (fun (x_5 : Int × Int × Unit) =>
 bif
 decide
 (x_5.2.1 <
 Int.ofNat
 (List.length x.1.2.2.2.2.2.2.2.1)) then
 Option.bind (idx x.1.2.2.2.2.2.2.2.1 x_5.2.1)
 fun b =>
 Option.bind
 (idx x.1.2.2.2.2.2.2.2.1 x_5.2.1)
 fun b_1 =>
 some
 (Sum.inl
 (wrap64
 (wrap64
 (x_5.1 + Int.ofNat (List.length b.1)) +
 Int.ofNat (List.length b_1.2.2.2.2.1)),
 wrap64 (x_5.2.1 + 1), ()))
 else some (Sum.inr (decide (x_5.1 ≤ 30000), ())))
 big (x_4.1, 0, ())))
 big (x_3.1, 0, ())))
 big (x_2.1, 0, ())))
 big (x_1.1, 0, ())))
 big
 (wrap64
 (wrap64
 (Int.ofNat (List.length x.1.2.1) + Int.ofNat (List.length x.1.2.2.1)) +
 Int.ofNat (List.length x.1.2.2.2.1)),
 0, ())
def S23 : Sig := ⟨P23, R23, F23⟩
def E23 : Env := en 226 [] [] [(5, mkLoop ⟨[⟨.slot 3, (.int .i64), .pv⟩, ⟨.slot 58, (.int .i64), .pv⟩], [1, 57], [.site 1000, .fld 1000 0, .fld 1000 1, .fld 1000 2, .fld 1000 3, .fld 1000 4, .fld 1000 5, .fld 1000 6, .fld 1000 7, .fld 1000 8, .fld 1000 9, .fld 1000 10, .fld 1000 11, .fld 1000 12, .fld 1000 13, .fld 1000 14, .fld 1000 15, .fld 1000 16]⟩), (10, mkLoop ⟨[⟨.slot 3, (.int .i64), .pv⟩, ⟨.slot 83, (.int .i64), .pv⟩], [1, 82], [.site 1000, .fld 1000 0, .fld 1000 1, .fld 1000 2, .fld 1000 3, .fld 1000 4, .fld 1000 5, .fld 1000 6, .fld 1000 7, .fld 1000 8, .fld 1000 9, .fld 1000 10, .fld 1000 11, .fld 1000 12, .fld 1000 13, .fld 1000 14, .fld 1000 15, .fld 1000 16]⟩), (15, mkLoop ⟨[⟨.slot 3, (.int .i64), .pv⟩, ⟨.slot 103, (.int .i64), .pv⟩], [1, 5, 82, 83, 102], [.site 1000, .fld 1000 0, .fld 1000 1, .fld 1000 2, .fld 1000 3, .fld 1000 4, .fld 1000 5, .fld 1000 6, .fld 1000 7, .fld 1000 8, .fld 1000 9, .fld 1000 10, .fld 1000 11, .fld 1000 12, .fld 1000 13, .fld 1000 14, .fld 1000 15, .fld 1000 16]⟩), (21, mkLoop ⟨[⟨.slot 3, (.int .i64), .pv⟩, ⟨.slot 139, (.int .i64), .pv⟩], [1, 138], [.site 1000, .fld 1000 0, .fld 1000 1, .fld 1000 2, .fld 1000 3, .fld 1000 4, .fld 1000 5, .fld 1000 6, .fld 1000 7, .fld 1000 8, .fld 1000 9, .fld 1000 10, .fld 1000 11, .fld 1000 12, .fld 1000 13, .fld 1000 14, .fld 1000 15, .fld 1000 16]⟩), (26, mkLoop ⟨[⟨.slot 3, (.int .i64), .pv⟩, ⟨.slot 171, (.int .i64), .pv⟩], [1, 170], [.site 1000, .fld 1000 0, .fld 1000 1, .fld 1000 2, .fld 1000 3, .fld 1000 4, .fld 1000 5, .fld 1000 6, .fld 1000 7, .fld 1000 8, .fld 1000 9, .fld 1000 10, .fld 1000 11, .fld 1000 12, .fld 1000 13, .fld 1000 14, .fld 1000 15, .fld 1000 16]⟩), (31, mkLoop ⟨[⟨.slot 3, (.int .i64), .pv⟩, ⟨.slot 203, (.int .i64), .pv⟩], [1, 202], [.site 1000, .fld 1000 0, .fld 1000 1, .fld 1000 2, .fld 1000 3, .fld 1000 4, .fld 1000 5, .fld 1000 6, .fld 1000 7, .fld 1000 8, .fld 1000 9, .fld 1000 10, .fld 1000 11, .fld 1000 12, .fld 1000 13, .fld 1000 14, .fld 1000 15, .fld 1000 16]⟩)]
theorem raw23_eq (x : T28D × Unit) : afun E23 Tryz.f23 P23 R23 x = F23 x := by kernel_rfl
-- decamp/decampref07.Few
def F88 (x : List T25D × Int × Unit) : Option (Bool × Unit) :=
 iterE (Int × Int × Unit) (Bool × Unit)
 (fun (x_1 : Int × Int × Unit) =>
 bif decide (x_1.2.1 < Int.ofNat (List.length x.1)) then
 Option.bind (idx x.1 x_1.2.1) fun b =>
 bif decide (x.2.1 ≤ x_1.2.1) then some (Sum.inr (false, ()))
 else
 bif decide (40000 < wrap64 (x_1.1 + Int.ofNat (List.length b.2.2.1))) then
 some (Sum.inr (false, ()))
 else
 some
 (Sum.inl
 (wrap64 (x_1.1 + Int.ofNat (List.length b.2.2.1)),
 wrap64 (x_1.2.1 + 1), ()))
 else some (Sum.inr (true, ())))
 big (0, 0, ())
def S88 : Sig := ⟨P88, R88, F88⟩
def E88 : Env := en 28 [] [] [(3, mkLoop ⟨[⟨.slot 5, (.int .i64), .pv⟩, ⟨.slot 9, (.int .i64), .pv⟩], [0, 1, 8], []⟩)]
theorem raw88_eq (x : List T25D × Int × Unit) : afun E88 Tryz.f88 P88 R88 x = F88 x := by kernel_rfl
-- decamp/decampref11.Few
def F24 (x : T27D × Unit) : Option (Bool × Unit) :=
 Option.bind (F88 (x.1.2.2.2.2.2.2.2.2.2.1, 6, ())) fun b =>
 bif b.1 then
 some
 (decide (Int.ofNat (List.length x.1.2.2.2.2.2.2.2.2.2.2.1.2.2.1) ≤ 2000),
 ())
 else some (false, ())
def S24 : Sig := ⟨P24, R24, F24⟩
def E24 : Env := en 13 [(88, [S88])] [] []
theorem raw24_eq (x : T27D × Unit) : afun E24 Tryz.f24 P24 R24 x = F24 x := by kernel_rfl
-- decamp/decampref22.Few
def F8 (x : TMD × Unit) : Option (Bool × Unit) :=
 iterE (Int × Int × Unit) (Bool × Unit)
 (fun (x_1 : Int × Int × Unit) =>
 bif decide (x_1.2.1 < Int.ofNat (List.length x.1.2.2.2.2.2.2.2.2.2.2.2.2.1)) then
 Option.bind (idx x.1.2.2.2.2.2.2.2.2.2.2.2.2.1 x_1.2.1)
 fun b =>
 bif
 decide
 (400 <
 wrap64
 (wrap64 (x_1.1 + 1) + Int.ofNat (List.length b.2.1))) then
 some (Sum.inr (false, ()))
 else
 Option.bind (idx x.1.2.2.2.2.2.2.2.2.2.2.2.2.1 x_1.2.1)
 fun b_1 =>
 Option.bind
 (F23
 ((0, [], [], [], 0, 0, 0, [], [], [], 0, 0, 0, false, b_1.2.1, [], [], ()), ()))
 fun b_2 =>
 bif !b_2.1 then some (Sum.inr (false, ()))
 else
 some
 (Sum.inl
 (wrap64
 (wrap64 (x_1.1 + 1) + Int.ofNat (List.length b.2.1)),
 wrap64 (x_1.2.1 + 1), ()))
 else
 Option.map Sum.inr
 (Option.bind (F24 (x.1.2.2.1, ())) fun b =>
 bif b.1 then
 Option.bind (F23 x.1.2.2.2.1.2.2) fun b =>
 bif b.1 then
 Option.bind
 (F23
 ((0, [], [], [], 0, 0, 0, [], [], [], 0, 0, 0, false,
 x.1.2.2.2.2.2.2.2.2.2.2.2.2.2.1, [], [], ()),
 ()))
 fun b =>
 bif b.1 then
 Option.bind
 (appM [(0, 0, x.1.2.2.2.2.2.2.2.2.2.2.2.1, ())]
 x.1.2.2.2.2.2.2.2.2.2.2.2.2.2.2.2.1.2.2.1)
 fun b =>
 Option.bind
 (F23
 ((0, [], [], [], 0, 0, 0, [], [], [], 0, 0, 0, false, [], b,
 x.1.2.2.2.2.2.2.2.2.2.2.2.2.2.2.2.1.2.2.2),
 ()))
 fun b =>
 bif b.1 then
 some
 (decide
 (wrap64
 (wrap64
 (wrap64
 (wrap64
 (Int.ofNat (List.length x.1.2.2.2.2.2.1) +
 Int.ofNat (List.length x.1.2.2.2.2.2.2.1)) +
 Int.ofNat
 (List.length
 x.1.2.2.2.2.2.2.2.2.2.2.2.2.2.2.2.2.1.2.2.2.1)) +
 Int.ofNat
 (List.length
 x.1.2.2.2.2.2.2.2.2.2.2.2.2.2.2.2.2.1.2.2.2.2.1)) +
 Int.ofNat
 (List.length
 x.1.2.2.2.2.2.2.2.2.2.2.2.2.2.2.2.2.1.2.2.2.2.2.2.1)) ≤
 500),
 ())
 else some (false, ())
 else some (false, ())
 else some (false, ())
 else some (false, ())))
 big (0, 0, ())
def S8 : Sig := ⟨P8, R8, F8⟩
def E8 : Env := en 90 [(23, [S23]), (24, [S24])] [] [(3, mkLoop ⟨[⟨.slot 3, (.int .i64), .pv⟩, ⟨.slot 8, (.int .i64), .pv⟩], [1, 7], [.site 1000, .fld 1000 0, .fld 1000 1, .fld 1000 2, .fld 1000 3, .fld 1000 4, .fld 1000 5, .fld 1000 6, .fld 1000 7, .fld 1000 8, .fld 1000 9, .fld 1000 10, .fld 1000 11, .fld 1000 12, .fld 1000 13, .fld 1000 14, .fld 1000 15, .fld 1000 16]⟩)]
theorem raw8_eq (x : TMD × Unit) : afun E8 Tryz.f8 P8 R8 x = F8 x := by kernel_rfl
-- decamp/decamplaw11.To
def F32 (x : T27D × Unit) : Option (T27D × Unit) :=
 some x
def S32 : Sig := ⟨P32, R32, F32⟩
def E32 : Env := en 4 [] [] []
theorem raw32_eq (x : T27D × Unit) : afun E32 Tryz.f32 P32 R32 x = F32 x := by kernel_rfl
-- decamp/decamplaw22.To
def F10 (x : TMD × Unit) : Option (TMD × Unit) :=
 Option.bind (F32 (x.1.2.2.1, ()))
 fun b =>
 some ((x.1.1, x.1.2.1, b.1, x.1.2.2.2), ())
def S10 : Sig := ⟨P10, R10, F10⟩
def E10 : Env := en 47 [(32, [S32])] [] []
theorem raw10_eq (x : TMD × Unit) : afun E10 Tryz.f10 P10 R10 x = F10 x := by kernel_rfl
-- decamp/decampref07.One
def F198 (x : T25D × T25D × Unit) : Option (Bool × Unit) :=
 bif decide (x.1.1 = x.2.1.1) then
 bif decide (x.1.2.1 = x.2.1.2.1) then
 some (decide (x.1.2.2.1 = x.2.1.2.2.1), ())
 else some (false, ())
 else some (false, ())
def S198 : Sig := ⟨P198, R198, F198⟩
def E198 : Env := en 26 [] [] []
theorem raw198_eq (x : T25D × T25D × Unit) : afun E198 Tryz.f198 P198 R198 x = F198 x := by kernel_rfl
-- decamp/decampref07.Same
def F140 (x : List T25D × List T25D × Unit) : Option (Bool × Unit) :=
 bif !decide (Int.ofNat (List.length x.1) = Int.ofNat (List.length x.2.1)) then some (false, ())
 else
 iterE (Int × Unit) (Bool × Unit)
 (fun (x_1 : Int × Unit) =>
 bif decide (x_1.1 < Int.ofNat (List.length x.1)) then
 Option.bind (idx x.1 x_1.1) fun b =>
 Option.bind (idx x.2.1 x_1.1) fun b_1 =>
 Option.bind (F198 (b, b_1, ())) fun b =>
 bif !b.1 then some (Sum.inr (false, ()))
 else some (Sum.inl (wrap64 (x_1.1 + 1), ()))
 else some (Sum.inr (true, ())))
 big (0, ())
def S140 : Sig := ⟨P140, R140, F140⟩
def E140 : Env := en 27 [(198, [S198])] [] [(4, mkLoop ⟨[⟨.slot 13, (.int .i64), .pv⟩], [0, 1, 12], []⟩)]
theorem raw140_eq (x : List T25D × List T25D × Unit) : afun E140 Tryz.f140 P140 R140 x = F140 x := by kernel_rfl
-- decamp/decampref07.SameSnap
def F141 (x : T25D × T25D × Unit) : Option (Bool × Unit) :=
 bif decide (x.1.1 = x.2.1.1) then
 bif decide (x.1.2.1 = x.2.1.2.1) then
 some (decide (x.1.2.2.1 = x.2.1.2.2.1), ())
 else some (false, ())
 else some (false, ())
def S141 : Sig := ⟨P141, R141, F141⟩
def E141 : Env := en 26 [] [] []
theorem raw141_eq (x : T25D × T25D × Unit) : afun E141 Tryz.f141 P141 R141 x = F141 x := by kernel_rfl
-- decamp/decampref11.Same
def F63 (x : T27D × T27D × Unit) : Option (Bool × Unit) :=
 bif decide (x.1.1 = x.2.1.1) then
 bif decide (x.1.2.1 = x.2.1.2.1) then
 bif decide (x.1.2.2.1 = x.2.1.2.2.1) then
 bif decide (x.1.2.2.2.1 = x.2.1.2.2.2.1) then
 bif decide (x.1.2.2.2.2.1 = x.2.1.2.2.2.2.1) then
 bif decide (x.1.2.2.2.2.2.1 = x.2.1.2.2.2.2.2.1) then
 bif decide (x.1.2.2.2.2.2.2.1 = x.2.1.2.2.2.2.2.2.1) then
 bif decide (x.1.2.2.2.2.2.2.2.1 = x.2.1.2.2.2.2.2.2.2.1) then
 bif x.1.2.2.2.2.2.2.2.2.1 == x.2.1.2.2.2.2.2.2.2.2.1 then
 Option.bind
 (F140
 (x.1.2.2.2.2.2.2.2.2.2.1,
 x.2.1.2.2.2.2.2.2.2.2.2.1, ()))
 fun b =>
 bif b.1 then
 Option.bind
 (F141
 (x.1.2.2.2.2.2.2.2.2.2.2.1,
 x.2.1.2.2.2.2.2.2.2.2.2.2))
 fun b => some b
 else some (false, ())
 else some (false, ())
 else some (false, ())
 else some (false, ())
 else some (false, ())
 else some (false, ())
 else some (false, ())
 else some (false, ())
 else some (false, ())
 else some (false, ())
def S63 : Sig := ⟨P63, R63, F63⟩
def E63 : Env := en 80 [(140, [S140]), (141, [S141])] [] []
theorem raw63_eq (x : T27D × T27D × Unit) : afun E63 Tryz.f63 P63 R63 x = F63 x := by kernel_rfl
-- decamp/decampref15.SameItems
def F67 (x : List T70D × List T70D × Unit) : Option (Bool × Unit) :=
 bif !decide (Int.ofNat (List.length x.1) = Int.ofNat (List.length x.2.1)) then some (false, ())
 else
 iterE (Int × Unit) (Bool × Unit)
 (fun (x_1 : Int × Unit) =>
 bif decide (x_1.1 < Int.ofNat (List.length x.1)) then
 Option.bind (idx x.1 x_1.1)
 fun b =>
 Option.bind (idx x.2.1 x_1.1)
 fun b_1 =>
 bif
 !(decide (b.1 = b_1.1) &&
 (decide (b.2.1.1 = b_1.2.1.1) &&
 (decide (b.2.1.2.1 = b_1.2.1.2.1) &&
 (decide (b.2.1.2.2.1 = b_1.2.1.2.2.1) &&
 (decide (b.2.1.2.2.2.1 = b_1.2.1.2.2.2.1) &&
 (decide (b.2.1.2.2.2.2.1 = b_1.2.1.2.2.2.2.1) &&
 (decide (b.2.1.2.2.2.2.2.1 = b_1.2.1.2.2.2.2.2.1) &&
 (b.2.1.2.2.2.2.2.2.1 == b_1.2.1.2.2.2.2.2.2.1 &&
 true)))))) &&
 true)) then
 some (Sum.inr (false, ()))
 else some (Sum.inl (wrap64 (x_1.1 + 1), ()))
 else some (Sum.inr (true, ())))
 big (0, ())
def S67 : Sig := ⟨P67, R67, F67⟩
def E67 : Env := en 26 [] [] [(4, mkLoop ⟨[⟨.slot 13, (.int .i64), .pv⟩], [0, 1, 12], []⟩)]
theorem raw67_eq (x : List T70D × List T70D × Unit) : afun E67 Tryz.f67 P67 R67 x = F67 x := by kernel_rfl
-- decamp/decampref17.sameCmps
def F142 (x : List T96D × List T96D × Unit) : Option (Bool × Unit) :=
 bif !decide (Int.ofNat (List.length x.1) = Int.ofNat (List.length x.2.1)) then some (false, ())
 else
 iterE (Int × Unit) (Bool × Unit)
 (fun (x_1 : Int × Unit) =>
 bif decide (x_1.1 < Int.ofNat (List.length x.1)) then
 Option.bind (idx x.1 x_1.1) fun b =>
 Option.bind (idx x.2.1 x_1.1) fun b_1 =>
 bif
 !(decide (b.1 = b_1.1) &&
 (decide (b.2.1 = b_1.2.1) &&
 (decide (b.2.2.1 = b_1.2.2.1) &&
 (decide (b.2.2.2.1 = b_1.2.2.2.1) &&
 (decide (b.2.2.2.2.1 = b_1.2.2.2.2.1) && true))))) then
 some (Sum.inr (false, ()))
 else some (Sum.inl (wrap64 (x_1.1 + 1), ()))
 else some (Sum.inr (true, ())))
 big (0, ())
def S142 : Sig := ⟨P142, R142, F142⟩
def E142 : Env := en 26 [] [] [(4, mkLoop ⟨[⟨.slot 13, (.int .i64), .pv⟩], [0, 1, 12], []⟩)]
theorem raw142_eq (x : List T96D × List T96D × Unit) : afun E142 Tryz.f142 P142 R142 x = F142 x := by kernel_rfl
-- decamp/decampref17.sameOps
def F143 (x : List T48D × List T48D × Unit) : Option (Bool × Unit) :=
 bif !decide (Int.ofNat (List.length x.1) = Int.ofNat (List.length x.2.1)) then some (false, ())
 else
 iterE (Int × Unit) (Bool × Unit)
 (fun (x_1 : Int × Unit) =>
 bif decide (x_1.1 < Int.ofNat (List.length x.1)) then
 Option.bind (idx x.1 x_1.1) fun b =>
 Option.bind (idx x.2.1 x_1.1) fun b_1 =>
 bif
 !(decide (b.1 = b_1.1) &&
 (decide (b.2.1 = b_1.2.1) &&
 (decide (b.2.2.1 = b_1.2.2.1) &&
 (decide (b.2.2.2.1 = b_1.2.2.2.1) &&
 (decide (b.2.2.2.2.1 = b_1.2.2.2.2.1) && true))))) then
 some (Sum.inr (false, ()))
 else some (Sum.inl (wrap64 (x_1.1 + 1), ()))
 else some (Sum.inr (true, ())))
 big (0, ())
def S143 : Sig := ⟨P143, R143, F143⟩
def E143 : Env := en 26 [] [] [(4, mkLoop ⟨[⟨.slot 13, (.int .i64), .pv⟩], [0, 1, 12], []⟩)]
theorem raw143_eq (x : List T48D × List T48D × Unit) : afun E143 Tryz.f143 P143 R143 x = F143 x := by kernel_rfl
-- decamp/decampref17.SameReply
def F65 (x : T51D × T51D × Unit) : Option (Bool × Unit) :=
 bif decide (x.1.1 = x.2.1.1) then
 bif decide (x.1.2.1 = x.2.1.2.1) then
 bif x.1.2.2.1 == x.2.1.2.2.1 then
 bif decide (x.1.2.2.2.1 = x.2.1.2.2.2.1) then
 bif decide (x.1.2.2.2.2.2.1 = x.2.1.2.2.2.2.2.1) then
 bif decide (x.1.2.2.2.2.2.2.1 = x.2.1.2.2.2.2.2.2.1) then
 Option.bind (F67 (x.1.2.2.2.2.1, x.2.1.2.2.2.2.1, ()))
 fun b => some b
 else some (false, ())
 else some (false, ())
 else some (false, ())
 else some (false, ())
 else some (false, ())
 else some (false, ())
def S65 : Sig := ⟨P65, R65, F65⟩
def E65 : Env := en 52 [(67, [S67])] [] []
theorem raw65_eq (x : T51D × T51D × Unit) : afun E65 Tryz.f65 P65 R65 x = F65 x := by kernel_rfl
-- decamp/decampref17.SameSess
def F144 (x : List T94D × List T94D × Unit) : Option (Bool × Unit) :=
 bif !decide (Int.ofNat (List.length x.1) = Int.ofNat (List.length x.2.1)) then some (false, ())
 else
 iterE (Int × Unit) (Bool × Unit)
 (fun (x_1 : Int × Unit) =>
 bif decide (x_1.1 < Int.ofNat (List.length x.1)) then
 Option.bind (idx x.1 x_1.1)
 fun b =>
 Option.bind (idx x.2.1 x_1.1)
 fun b_1 =>
 bif !decide (b.1 = b_1.1) then some (Sum.inr (false, ()))
 else
 Option.bind (idx x.1 x_1.1)
 fun b =>
 Option.bind (idx x.2.1 x_1.1)
 fun b_2 =>
 bif !decide (b.2.1 = b_2.2.1) then some (Sum.inr (false, ()))
 else
 Option.bind (idx x.1 x_1.1)
 fun b =>
 Option.bind (idx x.2.1 x_1.1)
 fun b_3 =>
 Option.bind (F65 (b.2.2.1, b_3.2.2)) fun b =>
 bif !b.1 then some (Sum.inr (false, ()))
 else some (Sum.inl (wrap64 (x_1.1 + 1), ()))
 else some (Sum.inr (true, ())))
 big (0, ())
def S144 : Sig := ⟨P144, R144, F144⟩
def E144 : Env := en 55 [(65, [S65])] [] [(4, mkLoop ⟨[⟨.slot 13, (.int .i64), .pv⟩], [0, 1, 12], []⟩)]
theorem raw144_eq (x : List T94D × List T94D × Unit) : afun E144 Tryz.f144 P144 R144 x = F144 x := by kernel_rfl
-- decamp/decampref17.SameLeases
def F145 (x : List T113D × List T113D × Unit) : Option (Bool × Unit) :=
 bif !decide (Int.ofNat (List.length x.1) = Int.ofNat (List.length x.2.1)) then some (false, ())
 else
 iterE (Int × Unit) (Bool × Unit)
 (fun (x_1 : Int × Unit) =>
 bif decide (x_1.1 < Int.ofNat (List.length x.1)) then
 Option.bind (idx x.1 x_1.1) fun b =>
 Option.bind (idx x.2.1 x_1.1) fun b_1 =>
 bif
 !(decide (b.1 = b_1.1) &&
 (decide (b.2.1 = b_1.2.1) && (decide (b.2.2.1 = b_1.2.2.1) && true))) then
 some (Sum.inr (false, ()))
 else some (Sum.inl (wrap64 (x_1.1 + 1), ()))
 else some (Sum.inr (true, ())))
 big (0, ())
def S145 : Sig := ⟨P145, R145, F145⟩
def E145 : Env := en 26 [] [] [(4, mkLoop ⟨[⟨.slot 13, (.int .i64), .pv⟩], [0, 1, 12], []⟩)]
theorem raw145_eq (x : List T113D × List T113D × Unit) : afun E145 Tryz.f145 P145 R145 x = F145 x := by kernel_rfl
-- decamp/decampref17.Same
def F64 (x : T28D × T28D × Unit) : Option (Bool × Unit) :=
 bif decide (x.1.1 = x.2.1.1) then
 bif decide (x.1.2.1 = x.2.1.2.1) then
 bif decide (x.1.2.2.1 = x.2.1.2.2.1) then
 bif decide (x.1.2.2.2.1 = x.2.1.2.2.2.1) then
 bif decide (x.1.2.2.2.2.1 = x.2.1.2.2.2.2.1) then
 bif decide (x.1.2.2.2.2.2.1 = x.2.1.2.2.2.2.2.1) then
 bif decide (x.1.2.2.2.2.2.2.1 = x.2.1.2.2.2.2.2.2.1) then
 bif
 decide
 (x.1.2.2.2.2.2.2.2.2.2.2.1 =
 x.2.1.2.2.2.2.2.2.2.2.2.2.1) then
 bif
 decide
 (x.1.2.2.2.2.2.2.2.2.2.2.2.1 =
 x.2.1.2.2.2.2.2.2.2.2.2.2.2.1) then
 bif
 decide
 (x.1.2.2.2.2.2.2.2.2.2.2.2.2.1 =
 x.2.1.2.2.2.2.2.2.2.2.2.2.2.2.1) then
 bif
 x.1.2.2.2.2.2.2.2.2.2.2.2.2.2.1 ==
 x.2.1.2.2.2.2.2.2.2.2.2.2.2.2.2.1 then
 Option.bind
 (F142
 (x.1.2.2.2.2.2.2.2.1, x.2.1.2.2.2.2.2.2.2.1,
 ()))
 fun b =>
 bif b.1 then
 Option.bind
 (F143
 (x.1.2.2.2.2.2.2.2.2.1,
 x.2.1.2.2.2.2.2.2.2.2.1, ()))
 fun b =>
 bif b.1 then
 Option.bind
 (F143
 (x.1.2.2.2.2.2.2.2.2.2.1,
 x.2.1.2.2.2.2.2.2.2.2.2.1, ()))
 fun b =>
 bif b.1 then
 Option.bind
 (F67
 (x.1.2.2.2.2.2.2.2.2.2.2.2.2.2.2.1,
 x.2.1.2.2.2.2.2.2.2.2.2.2.2.2.2.2.1,
 ()))
 fun b =>
 bif b.1 then
 Option.bind
 (F144
 (x.1.2.2.2.2.2.2.2.2.2.2.2.2.2.2.2.1,
 x.2.1.2.2.2.2.2.2.2.2.2.2.2.2.2.2.2.1,
 ()))
 fun b =>
 bif b.1 then
 Option.bind
 (F145
 (x.1.2.2.2.2.2.2.2.2.2.2.2.2.2.2.2.2.1,
 x.2.1.2.2.2.2.2.2.2.2.2.2.2.2.2.2.2.2))
 fun b => some b
 else some (false, ())
 else some (false, ())
 else some (false, ())
 else some (false, ())
 else some (false, ())
 else some (false, ())
 else some (false, ())
 else some (false, ())
 else some (false, ())
 else some (false, ())
 else some (false, ())
 else some (false, ())
 else some (false, ())
 else some (false, ())
 else some (false, ())
 else some (false, ())
def S64 : Sig := ⟨P64, R64, F64⟩
def E64 : Env := en 122 [(67, [S67]), (142, [S142]), (143, [S143]), (144, [S144]), (145, [S145])] [] []
theorem raw64_eq (x : T28D × T28D × Unit) : afun E64 Tryz.f64 P64 R64 x = F64 x := by kernel_rfl
-- decamp/decampref15.SameBatches
def F66 (x : List TBD × List TBD × Unit) : Option (Bool × Unit) :=
 bif !decide (Int.ofNat (List.length x.1) = Int.ofNat (List.length x.2.1)) then some (false, ())
 else
 iterE (Int × Unit) (Bool × Unit)
 (fun (x_1 : Int × Unit) =>
 bif decide (x_1.1 < Int.ofNat (List.length x.1)) then
 Option.bind (idx x.1 x_1.1)
 fun b =>
 Option.bind (idx x.2.1 x_1.1)
 fun b_1 =>
 bif !decide (b.1 = b_1.1) then some (Sum.inr (false, ()))
 else
 Option.bind (idx x.1 x_1.1)
 fun b =>
 Option.bind (idx x.2.1 x_1.1)
 fun b_2 =>
 Option.bind (F67 (b.2.1, b_2.2)) fun b =>
 bif !b.1 then some (Sum.inr (false, ()))
 else some (Sum.inl (wrap64 (x_1.1 + 1), ()))
 else some (Sum.inr (true, ())))
 big (0, ())
def S66 : Sig := ⟨P66, R66, F66⟩
def E66 : Env := en 42 [(67, [S67])] [] [(4, mkLoop ⟨[⟨.slot 13, (.int .i64), .pv⟩], [0, 1, 12], []⟩)]
theorem raw66_eq (x : List TBD × List TBD × Unit) : afun E66 Tryz.f66 P66 R66 x = F66 x := by kernel_rfl
-- decamp/decampref17.SameHand
def F68 (x : T55D × T55D × Unit) : Option (Bool × Unit) :=
 bif decide (x.1.1 = x.2.1.1) then
 bif decide (x.1.2.1 = x.2.1.2.1) then
 Option.bind (F144 (x.1.2.2.1, x.2.1.2.2.1, ())) fun b =>
 bif b.1 then
 Option.bind (F145 (x.1.2.2.2.1, x.2.1.2.2.2)) fun b => some b
 else some (false, ())
 else some (false, ())
 else some (false, ())
def S68 : Sig := ⟨P68, R68, F68⟩
def E68 : Env := en 31 [(144, [S144]), (145, [S145])] [] []
theorem raw68_eq (x : T55D × T55D × Unit) : afun E68 Tryz.f68 P68 R68 x = F68 x := by kernel_rfl
-- decamp/decampref22.Same
def F15 (x : TMD × TMD × Unit) : Option (Bool × Unit) :=
 bif decide (x.1.1 = x.2.1.1) then
 bif decide (x.1.2.1 = x.2.1.2.1) then
 Option.bind (F63 (x.1.2.2.1, x.2.1.2.2.1, ())) fun b =>
 bif b.1 then
 bif decide (x.1.2.2.2.1.1 = x.2.1.2.2.2.1.1) then
 bif decide (x.1.2.2.2.1.2.1 = x.2.1.2.2.2.1.2.1) then
 Option.bind (F64 (x.1.2.2.2.1.2.2.1, x.2.1.2.2.2.1.2.2))
 fun b =>
 bif b.1 then
 bif decide (x.1.2.2.2.2.1 = x.2.1.2.2.2.2.1) then
 bif decide (x.1.2.2.2.2.2.1 = x.2.1.2.2.2.2.2.1) then
 bif decide (x.1.2.2.2.2.2.2.1 = x.2.1.2.2.2.2.2.2.1) then
 bif
 decide
 (x.1.2.2.2.2.2.2.2.1 = x.2.1.2.2.2.2.2.2.2.1) then
 bif
 decide
 (x.1.2.2.2.2.2.2.2.2.1 =
 x.2.1.2.2.2.2.2.2.2.2.1) then
 bif
 decide
 (x.1.2.2.2.2.2.2.2.2.2.1 =
 x.2.1.2.2.2.2.2.2.2.2.2.1) then
 bif
 decide
 (x.1.2.2.2.2.2.2.2.2.2.2.1 =
 x.2.1.2.2.2.2.2.2.2.2.2.2.1) then
 Option.bind
 (F65
 (x.1.2.2.2.2.2.2.2.2.2.2.2.1,
 x.2.1.2.2.2.2.2.2.2.2.2.2.2.1, ()))
 fun b =>
 bif b.1 then
 Option.bind
 (F66
 (x.1.2.2.2.2.2.2.2.2.2.2.2.2.1,
 x.2.1.2.2.2.2.2.2.2.2.2.2.2.2.1, ()))
 fun b =>
 bif b.1 then
 Option.bind
 (F67
 (x.1.2.2.2.2.2.2.2.2.2.2.2.2.2.1,
 x.2.1.2.2.2.2.2.2.2.2.2.2.2.2.2.1,
 ()))
 fun b =>
 bif b.1 then
 bif
 x.1.2.2.2.2.2.2.2.2.2.2.2.2.2.2.1 ==
 x.2.1.2.2.2.2.2.2.2.2.2.2.2.2.2.2.1 then
 Option.bind
 (F68
 (x.1.2.2.2.2.2.2.2.2.2.2.2.2.2.2.2.1,
 x.2.1.2.2.2.2.2.2.2.2.2.2.2.2.2.2.2.1,
 ()))
 fun b =>
 bif b.1 then
 some
 (decide
 (x.1.2.2.2.2.2.2.2.2.2.2.2.2.2.2.2.2.1.1 =
 x.2.1.2.2.2.2.2.2.2.2.2.2.2.2.2.2.2.2.1.1) &&
 (decide
 (x.1.2.2.2.2.2.2.2.2.2.2.2.2.2.2.2.2.1.2.1 =
 x.2.1.2.2.2.2.2.2.2.2.2.2.2.2.2.2.2.2.1.2.1) &&
 (decide
 (x.1.2.2.2.2.2.2.2.2.2.2.2.2.2.2.2.2.1.2.2.1 =
 x.2.1.2.2.2.2.2.2.2.2.2.2.2.2.2.2.2.2.1.2.2.1) &&
 (decide
 (x.1.2.2.2.2.2.2.2.2.2.2.2.2.2.2.2.2.1.2.2.2.1 =
 x.2.1.2.2.2.2.2.2.2.2.2.2.2.2.2.2.2.2.1.2.2.2.1) &&
 (decide
 (x.1.2.2.2.2.2.2.2.2.2.2.2.2.2.2.2.2.1.2.2.2.2.1 =
 x.2.1.2.2.2.2.2.2.2.2.2.2.2.2.2.2.2.2.1.2.2.2.2.1) &&
 (decide
 (x.1.2.2.2.2.2.2.2.2.2.2.2.2.2.2.2.2.1.2.2.2.2.2.1 =
 x.2.1.2.2.2.2.2.2.2.2.2.2.2.2.2.2.2.2.1.2.2.2.2.2.1) &&
 (decide
 (x.1.2.2.2.2.2.2.2.2.2.2.2.2.2.2.2.2.1.2.2.2.2.2.2.1 =
 x.2.1.2.2.2.2.2.2.2.2.2.2.2.2.2.2.2.2.1.2.2.2.2.2.2.1) &&
 (decide
 (x.1.2.2.2.2.2.2.2.2.2.2.2.2.2.2.2.2.1.2.2.2.2.2.2.2.1 =
 x.2.1.2.2.2.2.2.2.2.2.2.2.2.2.2.2.2.2.1.2.2.2.2.2.2.2.1) &&
 (decide
 (x.1.2.2.2.2.2.2.2.2.2.2.2.2.2.2.2.2.1.2.2.2.2.2.2.2.2.1 =
 x.2.1.2.2.2.2.2.2.2.2.2.2.2.2.2.2.2.2.1.2.2.2.2.2.2.2.2.1) &&
 (decide
 (x.1.2.2.2.2.2.2.2.2.2.2.2.2.2.2.2.2.1.2.2.2.2.2.2.2.2.2.1 =
 x.2.1.2.2.2.2.2.2.2.2.2.2.2.2.2.2.2.2.1.2.2.2.2.2.2.2.2.2.1) &&
 true))))))))),
 ())
 else some (false, ())
 else some (false, ())
 else some (false, ())
 else some (false, ())
 else some (false, ())
 else some (false, ())
 else some (false, ())
 else some (false, ())
 else some (false, ())
 else some (false, ())
 else some (false, ())
 else some (false, ())
 else some (false, ())
 else some (false, ())
 else some (false, ())
 else some (false, ())
 else some (false, ())
 else some (false, ())
def S15 : Sig := ⟨P15, R15, F15⟩
def E15 : Env := en 142 [(63, [S63]), (64, [S64]), (65, [S65]), (66, [S66]), (67, [S67]), (68, [S68])] [] []
theorem raw15_eq (x : TMD × TMD × Unit) : afun E15 Tryz.f15 P15 R15 x = F15 x := by kernel_rfl
-- decamp/decampref22.bare
def F33 (x : TMD × Unit) : Option (TMD × Unit) :=
 bif decide (x.1.1 = 1) then
 some
 ((1, 0, x.1.2.2.1,
 (0, 0, (0, [], [], [], 0, 0, 0, [], [], [], 0, 0, 0, false, [], [], [], ()), ()), 0, [], [],
 0, 0, 0, 0, (0, 0, false, 0, [], 0, 0, ()), [], [], false, (0, 0, [], [], ()),
 (0, 0, 0, [], [], 0, [], 0, 0, 0, ()), ()),
 ())
 else
 Option.bind
 (bif decide (x.1.1 = 2) then some (Sum.inl (x.1.2.2.2.1, ()))
 else
 some
 (Sum.inl
 ((0, 0, (0, [], [], [], 0, 0, 0, [], [], [], 0, 0, 0, false, [], [], [], ()), ()),
 ())))
 fun o =>
 Sum.elim
 (fun (x_1 :
 (Int × Int × (Int × List UInt8 × List UInt8 × List UInt8 × Int × Int × Int × List T96D × List T48D × List T48D × Int × Int × Int × Bool × List T70D × List (Int × Int × (Int × Int × Bool × Int × List T70D × Int × Int × Unit) × Unit) × List T113D × Unit) × Unit) × Unit) =>
 Option.bind
 (bif decide (x.1.1 = 3) then some (Sum.inl (x.1.2.2.2.2.1, ()))
 else
 bif decide (x.1.1 = 4) then some (Sum.inl (x.1.2.2.2.2.1, ()))
 else some (Sum.inl (0, ())))
 fun o =>
 Sum.elim
 (fun (x_2 : Int × Unit) =>
 Option.bind
 (bif decide (3 ≤ x.1.1) then
 bif decide (x.1.1 ≤ 5) then
 some (Sum.inl (x.1.2.2.2.2.2.1, x.1.2.2.2.2.2.2.1, ()))
 else some (Sum.inl ([], [], ()))
 else some (Sum.inl ([], [], ())))
 fun o =>
 Sum.elim
 (fun (x_3 : List UInt8 × T83D) =>
 Option.bind
 (bif decide (3 ≤ x.1.1) then
 bif decide (x.1.1 ≤ 6) then
 some (Sum.inl (x.1.2.2.2.2.2.2.2.1, ()))
 else
 bif decide (x.1.1 = 9) then
 some (Sum.inl (x.1.2.2.2.2.2.2.2.1, ()))
 else
 bif decide (x.1.1 = 12) then
 some (Sum.inl (x.1.2.2.2.2.2.2.2.1, ()))
 else some (Sum.inl (0, ()))
 else
 bif decide (x.1.1 = 9) then
 some (Sum.inl (x.1.2.2.2.2.2.2.2.1, ()))
 else
 bif decide (x.1.1 = 12) then
 some (Sum.inl (x.1.2.2.2.2.2.2.2.1, ()))
 else some (Sum.inl (0, ())))
 fun o =>
 Sum.elim
 (fun (x_4 : Int × Unit) =>
 Option.bind
 (bif decide (x.1.1 = 3) then
 some (Sum.inl (x.1.2.2.2.2.2.2.2.2.1, ()))
 else some (Sum.inl (0, ())))
 fun o =>
 Sum.elim
 (fun (x_5 : Int × Unit) =>
 Option.bind
 (bif decide (8 ≤ x.1.1) then
 bif decide (x.1.1 ≤ 11) then
 some (Sum.inl (x.1.2.2.2.2.2.2.2.2.2.1, ()))
 else some (Sum.inl (0, ()))
 else some (Sum.inl (0, ())))
 fun o =>
 Sum.elim
 (fun (x_6 : Int × Unit) =>
 Option.bind
 (bif decide (x.1.1 = 8) then
 some
 (Sum.inl
 (x.1.2.2.2.2.2.2.2.2.2.2.1,
 x.1.2.2.2.2.2.2.2.2.2.2.2.1, [], [], false,
 (0, 0, [], [], ()),
 (0, 0, 0, [], [], 0, [], 0, 0, 0, ()), ()))
 else
 bif decide (x.1.1 = 9) then
 some
 (Sum.inl
 (0, (0, 0, false, 0, [], 0, 0, ()),
 x.1.2.2.2.2.2.2.2.2.2.2.2.2.1, [],
 false, (0, 0, [], [], ()),
 (0, 0, 0, [], [], 0, [], 0, 0, 0, ()), ()))
 else
 bif decide (x.1.1 = 10) then
 some
 (Sum.inl
 (0, (0, 0, false, 0, [], 0, 0, ()), [],
 x.1.2.2.2.2.2.2.2.2.2.2.2.2.2.1,
 x.1.2.2.2.2.2.2.2.2.2.2.2.2.2.2.1,
 (0, 0, [], [], ()),
 (0, 0, 0, [], [], 0, [], 0, 0, 0, ()), ()))
 else
 bif decide (x.1.1 = 11) then
 some
 (Sum.inl
 (0, (0, 0, false, 0, [], 0, 0, ()), [], [], false,
 x.1.2.2.2.2.2.2.2.2.2.2.2.2.2.2.2.1,
 (0, 0, 0, [], [], 0, [], 0, 0, 0, ()), ()))
 else
 bif decide (x.1.1 = 12) then
 some
 (Sum.inl
 (0, (0, 0, false, 0, [], 0, 0, ()), [], [], false,
 (0, 0, [], [], ()),
 x.1.2.2.2.2.2.2.2.2.2.2.2.2.2.2.2.2))
 else
 some
 (Sum.inl
 (0, (0, 0, false, 0, [], 0, 0, ()), [], [], false,
 (0, 0, [], [], ()),
 (0, 0, 0, [], [], 0, [], 0, 0, 0, ()), ())))
 fun o =>
 Sum.elim
 (fun (x_7 :
 Int × (Int × Int × Bool × Int × List T70D × Int × Int × Unit) × List (Int × List T70D × Unit) × List T70D × Bool × (Int × Int × List (Int × Int × (Int × Int × Bool × Int × List T70D × Int × Int × Unit) × Unit) × List T113D × Unit) × T53D × Unit) =>
 some
 ((x.1.1, x.1.2.1,
 (0, 0, 0, 0, 0, 0, 0, 0, false, [], (0, 0, [], ()),
 ()),
 x_1.1, x_2.1, x_3.1, x_3.2.1, x_4.1, x_5.1, x_6.1,
 x_7),
 ()))
 (fun (val :
 (Int × Int × (Int × Int × Int × Int × Int × Int × Int × Int × Bool × List T25D × T25D × Unit) × (Int × Int × (Int × List UInt8 × List UInt8 × List UInt8 × Int × Int × Int × List T96D × List T48D × List T48D × Int × Int × Int × Bool × List T70D × List (Int × Int × (Int × Int × Bool × Int × List T70D × Int × Int × Unit) × Unit) × List T113D × Unit) × Unit) × Int × List UInt8 × List UInt8 × Int × Int × Int × Int × (Int × Int × Bool × Int × List T70D × Int × Int × Unit) × List (Int × List T70D × Unit) × List T70D × Bool × (Int × Int × List (Int × Int × (Int × Int × Bool × Int × List T70D × Int × Int × Unit) × Unit) × List T113D × Unit) × T53D × Unit) × Unit) =>
 some val)
 o)
 (fun (val :
 (Int × Int × (Int × Int × Int × Int × Int × Int × Int × Int × Bool × List T25D × T25D × Unit) × (Int × Int × (Int × List UInt8 × List UInt8 × List UInt8 × Int × Int × Int × List T96D × List T48D × List T48D × Int × Int × Int × Bool × List T70D × List (Int × Int × (Int × Int × Bool × Int × List T70D × Int × Int × Unit) × Unit) × List T113D × Unit) × Unit) × Int × List UInt8 × List UInt8 × Int × Int × Int × Int × (Int × Int × Bool × Int × List T70D × Int × Int × Unit) × List (Int × List T70D × Unit) × List T70D × Bool × (Int × Int × List (Int × Int × (Int × Int × Bool × Int × List T70D × Int × Int × Unit) × Unit) × List T113D × Unit) × T53D × Unit) × Unit) =>
 some val)
 o)
 (fun (val :
 (Int × Int × (Int × Int × Int × Int × Int × Int × Int × Int × Bool × List T25D × T25D × Unit) × (Int × Int × (Int × List UInt8 × List UInt8 × List UInt8 × Int × Int × Int × List T96D × List T48D × List T48D × Int × Int × Int × Bool × List T70D × List (Int × Int × (Int × Int × Bool × Int × List T70D × Int × Int × Unit) × Unit) × List T113D × Unit) × Unit) × Int × List UInt8 × List UInt8 × Int × Int × Int × Int × (Int × Int × Bool × Int × List T70D × Int × Int × Unit) × List (Int × List T70D × Unit) × List T70D × Bool × (Int × Int × List (Int × Int × (Int × Int × Bool × Int × List T70D × Int × Int × Unit) × Unit) × List T113D × Unit) × T53D × Unit) × Unit) =>
 some val)
 o)
 (fun (val :
 (Int × Int × (Int × Int × Int × Int × Int × Int × Int × Int × Bool × List T25D × T25D × Unit) × (Int × Int × (Int × List UInt8 × List UInt8 × List UInt8 × Int × Int × Int × List T96D × List T48D × List T48D × Int × Int × Int × Bool × List T70D × List (Int × Int × (Int × Int × Bool × Int × List T70D × Int × Int × Unit) × Unit) × List T113D × Unit) × Unit) × Int × List UInt8 × List UInt8 × Int × Int × Int × Int × (Int × Int × Bool × Int × List T70D × Int × Int × Unit) × List (Int × List T70D × Unit) × List T70D × Bool × (Int × Int × List (Int × Int × (Int × Int × Bool × Int × List T70D × Int × Int × Unit) × Unit) × List T113D × Unit) × T53D × Unit) × Unit) =>
 some val)
 o)
 (fun (val :
 (Int × Int × (Int × Int × Int × Int × Int × Int × Int × Int × Bool × List T25D × T25D × Unit) × (Int × Int × (Int × List UInt8 × List UInt8 × List UInt8 × Int × Int × Int × List T96D × List T48D × List T48D × Int × Int × Int × Bool × List T70D × List (Int × Int × (Int × Int × Bool × Int × List T70D × Int × Int × Unit) × Unit) × List T113D × Unit) × Unit) × Int × List UInt8 × List UInt8 × Int × Int × Int × Int × (Int × Int × Bool × Int × List T70D × Int × Int × Unit) × List (Int × List T70D × Unit) × List T70D × Bool × (Int × Int × List (Int × Int × (Int × Int × Bool × Int × List T70D × Int × Int × Unit) × Unit) × List T113D × Unit) × T53D × Unit) × Unit) =>
 some val)
 o)
 (fun (val :
 (Int × Int × (Int × Int × Int × Int × Int × Int × Int × Int × Bool × List T25D × T25D × Unit) × (Int × Int × (Int × List UInt8 × List UInt8 × List UInt8 × Int × Int × Int × List T96D × List T48D × List T48D × Int × Int × Int × Bool × List T70D × List (Int × Int × (Int × Int × Bool × Int × List T70D × Int × Int × Unit) × Unit) × List T113D × Unit) × Unit) × Int × List UInt8 × List UInt8 × Int × Int × Int × Int × (Int × Int × Bool × Int × List T70D × Int × Int × Unit) × List (Int × List T70D × Unit) × List T70D × Bool × (Int × Int × List (Int × Int × (Int × Int × Bool × Int × List T70D × Int × Int × Unit) × Unit) × List T113D × Unit) × T53D × Unit) × Unit) =>
 some val)
 o)
 (fun (val :
 (Int × Int × (Int × Int × Int × Int × Int × Int × Int × Int × Bool × List T25D × T25D × Unit) × (Int × Int × (Int × List UInt8 × List UInt8 × List UInt8 × Int × Int × Int × List T96D × List T48D × List T48D × Int × Int × Int × Bool × List T70D × List (Int × Int × (Int × Int × Bool × Int × List T70D × Int × Int × Unit) × Unit) × List T113D × Unit) × Unit) × Int × List UInt8 × List UInt8 × Int × Int × Int × Int × (Int × Int × Bool × Int × List T70D × Int × Int × Unit) × List (Int × List T70D × Unit) × List T70D × Bool × (Int × Int × List (Int × Int × (Int × Int × Bool × Int × List T70D × Int × Int × Unit) × Unit) × List T113D × Unit) × T53D × Unit) × Unit) =>
 some val)
 o
def S33 : Sig := ⟨P33, R33, F33⟩
def E33 : Env := en 106 [] [(7, ⟨[⟨.fld 2005000 3, T33, .pv⟩], [1, 2, 3, 4], [.site 2005000, .fld 2005000 0, .fld 2005000 1, .fld 2005000 2, .fld 2005000 4, .fld 2005000 5, .fld 2005000 6, .fld 2005000 7, .fld 2005000 8, .fld 2005000 9, .fld 2005000 10, .fld 2005000 11, .fld 2005000 12, .fld 2005000 13, .fld 2005000 14, .fld 2005000 15, .fld 2005000 16, .site 2000, .fld 2000 0, .fld 2000 1, .fld 2000 2, .fld 2000 3, .fld 2000 4, .fld 2000 5, .fld 2000 6, .fld 2000 7, .fld 2000 8, .fld 2000 9, .fld 2000 10, .fld 2000 11, .fld 2000 12, .fld 2000 13, .fld 2000 14, .fld 2000 15, .fld 2000 16, .site 1000, .fld 1000 0, .fld 1000 1, .fld 1000 2, .fld 1000 3, .fld 1000 4, .fld 1000 5, .fld 1000 6, .fld 1000 7, .fld 1000 8, .fld 1000 9, .fld 1000 10, .fld 1000 11, .fld 1000 12, .fld 1000 13, .fld 1000 14, .fld 1000 15, .fld 1000 16]⟩), (9, ⟨[⟨.fld 2005000 4, (.int .i64), .pv⟩], [1, 2, 3, 4], [.site 2005000, .fld 2005000 0, .fld 2005000 1, .fld 2005000 2, .fld 2005000 3, .fld 2005000 5, .fld 2005000 6, .fld 2005000 7, .fld 2005000 8, .fld 2005000 9, .fld 2005000 10, .fld 2005000 11, .fld 2005000 12, .fld 2005000 13, .fld 2005000 14, .fld 2005000 15, .fld 2005000 16, .site 2000, .fld 2000 0, .fld 2000 1, .fld 2000 2, .fld 2000 3, .fld 2000 4, .fld 2000 5, .fld 2000 6, .fld 2000 7, .fld 2000 8, .fld 2000 9, .fld 2000 10, .fld 2000 11, .fld 2000 12, .fld 2000 13, .fld 2000 14, .fld 2000 15, .fld 2000 16, .site 1000, .fld 1000 0, .fld 1000 1, .fld 1000 2, .fld 1000 3, .fld 1000 4, .fld 1000 5, .fld 1000 6, .fld 1000 7, .fld 1000 8, .fld 1000 9, .fld 1000 10, .fld 1000 11, .fld 1000 12, .fld 1000 13, .fld 1000 14, .fld 1000 15, .fld 1000 16]⟩), (11, ⟨[⟨.fld 2005000 5, .str, .pv⟩, ⟨.fld 2005000 6, .str, .pv⟩], [1, 2, 3, 4], [.site 2005000, .fld 2005000 0, .fld 2005000 1, .fld 2005000 2, .fld 2005000 3, .fld 2005000 4, .fld 2005000 7, .fld 2005000 8, .fld 2005000 9, .fld 2005000 10, .fld 2005000 11, .fld 2005000 12, .fld 2005000 13, .fld 2005000 14, .fld 2005000 15, .fld 2005000 16, .site 2000, .fld 2000 0, .fld 2000 1, .fld 2000 2, .fld 2000 3, .fld 2000 4, .fld 2000 5, .fld 2000 6, .fld 2000 7, .fld 2000 8, .fld 2000 9, .fld 2000 10, .fld 2000 11, .fld 2000 12, .fld 2000 13, .fld 2000 14, .fld 2000 15, .fld 2000 16, .site 1000, .fld 1000 0, .fld 1000 1, .fld 1000 2, .fld 1000 3, .fld 1000 4, .fld 1000 5, .fld 1000 6, .fld 1000 7, .fld 1000 8, .fld 1000 9, .fld 1000 10, .fld 1000 11, .fld 1000 12, .fld 1000 13, .fld 1000 14, .fld 1000 15, .fld 1000 16]⟩), (13, ⟨[⟨.fld 2005000 7, (.int .i64), .pv⟩], [1, 2, 3, 4], [.site 2005000, .fld 2005000 0, .fld 2005000 1, .fld 2005000 2, .fld 2005000 3, .fld 2005000 4, .fld 2005000 5, .fld 2005000 6, .fld 2005000 8, .fld 2005000 9, .fld 2005000 10, .fld 2005000 11, .fld 2005000 12, .fld 2005000 13, .fld 2005000 14, .fld 2005000 15, .fld 2005000 16, .site 2000, .fld 2000 0, .fld 2000 1, .fld 2000 2, .fld 2000 3, .fld 2000 4, .fld 2000 5, .fld 2000 6, .fld 2000 7, .fld 2000 8, .fld 2000 9, .fld 2000 10, .fld 2000 11, .fld 2000 12, .fld 2000 13, .fld 2000 14, .fld 2000 15, .fld 2000 16, .site 1000, .fld 1000 0, .fld 1000 1, .fld 1000 2, .fld 1000 3, .fld 1000 4, .fld 1000 5, .fld 1000 6, .fld 1000 7, .fld 1000 8, .fld 1000 9, .fld 1000 10, .fld 1000 11, .fld 1000 12, .fld 1000 13, .fld 1000 14, .fld 1000 15, .fld 1000 16]⟩), (15, ⟨[⟨.fld 2005000 8, (.int .i64), .pv⟩], [1, 2, 3, 4], [.site 2005000, .fld 2005000 0, .fld 2005000 1, .fld 2005000 2, .fld 2005000 3, .fld 2005000 4, .fld 2005000 5, .fld 2005000 6, .fld 2005000 7, .fld 2005000 9, .fld 2005000 10, .fld 2005000 11, .fld 2005000 12, .fld 2005000 13, .fld 2005000 14, .fld 2005000 15, .fld 2005000 16, .site 2000, .fld 2000 0, .fld 2000 1, .fld 2000 2, .fld 2000 3, .fld 2000 4, .fld 2000 5, .fld 2000 6, .fld 2000 7, .fld 2000 8, .fld 2000 9, .fld 2000 10, .fld 2000 11, .fld 2000 12, .fld 2000 13, .fld 2000 14, .fld 2000 15, .fld 2000 16, .site 1000, .fld 1000 0, .fld 1000 1, .fld 1000 2, .fld 1000 3, .fld 1000 4, .fld 1000 5, .fld 1000 6, .fld 1000 7, .fld 1000 8, .fld 1000 9, .fld 1000 10, .fld 1000 11, .fld 1000 12, .fld 1000 13, .fld 1000 14, .fld 1000 15, .fld 1000 16]⟩), (17, ⟨[⟨.fld 2005000 9, (.int .i64), .pv⟩], [1, 2, 3, 4], [.site 2005000, .fld 2005000 0, .fld 2005000 1, .fld 2005000 2, .fld 2005000 3, .fld 2005000 4, .fld 2005000 5, .fld 2005000 6, .fld 2005000 7, .fld 2005000 8, .fld 2005000 10, .fld 2005000 11, .fld 2005000 12, .fld 2005000 13, .fld 2005000 14, .fld 2005000 15, .fld 2005000 16, .site 2000, .fld 2000 0, .fld 2000 1, .fld 2000 2, .fld 2000 3, .fld 2000 4, .fld 2000 5, .fld 2000 6, .fld 2000 7, .fld 2000 8, .fld 2000 9, .fld 2000 10, .fld 2000 11, .fld 2000 12, .fld 2000 13, .fld 2000 14, .fld 2000 15, .fld 2000 16, .site 1000, .fld 1000 0, .fld 1000 1, .fld 1000 2, .fld 1000 3, .fld 1000 4, .fld 1000 5, .fld 1000 6, .fld 1000 7, .fld 1000 8, .fld 1000 9, .fld 1000 10, .fld 1000 11, .fld 1000 12, .fld 1000 13, .fld 1000 14, .fld 1000 15, .fld 1000 16]⟩), (28, ⟨[⟨.fld 2005000 10, (.int .i64), .pv⟩, ⟨.fld 2005000 11, T51, .pv⟩, ⟨.fld 2005000 12, (.slice TB), .pv⟩, ⟨.fld 2005000 13, (.slice T70), .pv⟩, ⟨.fld 2005000 14, .bool, .pv⟩, ⟨.fld 2005000 15, T55, .pv⟩, ⟨.fld 2005000 16, T53, .pv⟩], [2, 4], [.site 2005000, .fld 2005000 0, .fld 2005000 1, .fld 2005000 2, .fld 2005000 3, .fld 2005000 4, .fld 2005000 5, .fld 2005000 6, .fld 2005000 7, .fld 2005000 8, .fld 2005000 9, .site 2000, .fld 2000 0, .fld 2000 1, .fld 2000 2, .fld 2000 3, .fld 2000 4, .fld 2000 5, .fld 2000 6, .fld 2000 7, .fld 2000 8, .fld 2000 9, .fld 2000 10, .fld 2000 11, .fld 2000 12, .fld 2000 13, .fld 2000 14, .fld 2000 15, .fld 2000 16]⟩)] []
theorem raw33_eq (x : TMD × Unit) : afun E33 Tryz.f33 P33 R33 x = F33 x := by kernel_rfl
-- decamp/decampref11.number
def F104 (x : Int × Unit) : Option (Bool × Unit) :=
 bif decide (0 ≤ x.1) then some (decide (x.1 ≤ 1099511627776), ()) else some (false, ())
def S104 : Sig := ⟨P104, R104, F104⟩
def E104 : Env := en 9 [] [] []
theorem raw104_eq (x : Int × Unit) : afun E104 Tryz.f104 P104 R104 x = F104 x := by kernel_rfl
-- decamp/decampref11.bare
def F105 (x : T27D × Unit) : Option (Bool × Unit) := let o : Bool → Bool → Option (Bool × Unit) → Option (Bool × Unit) := (fun (p q : Bool) (r : Option (Bool × Unit)) => bif p then r else bif q then r else some (false, ()))

  (o (decide (x.1.1 = 1) || decide (x.1.1 = 3) || decide (x.1.1 = 5) || decide (x.1.1 = 6)) (decide (x.1.2.2.2.2.1 = 0))
  (o (decide (x.1.1 = 1) || decide (x.1.1 = 3) || decide (x.1.1 = 5)) (decide (x.1.2.2.2.2.2.1 = 0))
  (o (decide (x.1.1 = 5)) (decide (x.1.2.2.2.2.2.2.1 = 0)) 
  (o (decide (x.1.1 = 5)) (decide (Int.ofNat (List.length x.1.2.2.2.2.2.2.2.2.2.1) = 0))
  (o (decide (x.1.1 = 5) || decide (x.1.1 = 6)) (decide (x.1.2.2.2.2.2.2.2.1 = 0))
  (o (decide (x.1.1 = 2) || decide (x.1.1 = 4) || decide (x.1.1 = 6)) (!x.1.2.2.2.2.2.2.2.2.1)
  (bif decide (x.1.1 = 7) then some (true, ()) else bif decide (x.1.2.2.2.2.2.2.2.2.2.2.1.1 = 0) then bif decide (x.1.2.2.2.2.2.2.2.2.2.2.1.2.1 = 0) then some (decide (Int.ofNat (List.length x.1.2.2.2.2.2.2.2.2.2.2.1.2.2.1) = 0), ()) else some (false, ()) else some (false, ()))))))))
def S105 : Sig := ⟨P105, R105, F105⟩
def E105 : Env := en 114 [] [(2, ⟨[⟨.slot 3, .bool, .pv⟩], [1], [.site 1000, .fld 1000 0, .fld 1000 1, .fld 1000 2, .fld 1000 3, .fld 1000 4, .fld 1000 5, .fld 1000 6, .fld 1000 7, .fld 1000 8, .fld 1000 9, .fld 1000 10]⟩), (3, ⟨[⟨.slot 4, .bool, .pv⟩], [1, 3], [.site 1000, .fld 1000 0, .fld 1000 1, .fld 1000 2, .fld 1000 3, .fld 1000 4, .fld 1000 5, .fld 1000 6, .fld 1000 7, .fld 1000 8, .fld 1000 9, .fld 1000 10]⟩)] []
-- decamp/decampref07.number
def F184 (x : Int × Unit) : Option (Bool × Unit) :=
 bif decide (1 ≤ x.1) then some (decide (x.1 ≤ 1099511627776), ()) else some (false, ())
def S184 : Sig := ⟨P184, R184, F184⟩
def E184 : Env := en 9 [] [] []
theorem raw184_eq (x : Int × Unit) : afun E184 Tryz.f184 P184 R184 x = F184 x := by kernel_rfl
-- decamp/decampref07.Right
def F183 (x : T25D × Unit) : Option (Bool × Unit) :=
 Option.bind (F184 (x.1.1, ())) fun b =>
 bif b.1 then
 Option.bind (F184 (x.1.2.1, ())) fun b =>
 bif b.1 then some (decide (Int.ofNat (List.length x.1.2.2.1) ≤ 12000), ())
 else some (false, ())
 else some (false, ())
def S183 : Sig := ⟨P183, R183, F183⟩
def E183 : Env := en 17 [(184, [S184])] [] []
theorem raw183_eq (x : T25D × Unit) : afun E183 Tryz.f183 P183 R183 x = F183 x := by kernel_rfl
-- decamp/decampref07.Run
def F106 (x : Int × Int × List T25D × Unit) : Option (Bool × Unit) :=
 iterE (Int × Int × Unit) (Bool × Unit)
 (fun (x_1 : Int × Int × Unit) =>
 bif decide (x_1.2.1 < Int.ofNat (List.length x.2.2.1)) then
 Option.bind (idx x.2.2.1 x_1.2.1) fun b =>
 Option.bind (F183 (b, ())) fun b =>
 bif !b.1 then some (Sum.inr (false, ()))
 else
 Option.bind (idx x.2.2.1 x_1.2.1) fun b =>
 bif decide (b.2.1 < x_1.1) then some (Sum.inr (false, ()))
 else
 Option.bind
 (bif decide (x_1.2.1 = 0) then
 bif decide (x.1 < 0) then some (Sum.inr (Sum.inr (false, ())))
 else
 bif decide (1099511627776 ≤ x.1) then some (Sum.inr (Sum.inr (false, ())))
 else
 Option.bind (idx x.2.2.1 x_1.2.1) fun b =>
 bif !decide (b.1 = wrap64 (x.1 + 1)) then
 some (Sum.inr (Sum.inr (false, ())))
 else
 bif decide (0 < x_1.2.1) then
 Option.bind (idx x.2.2.1 x_1.2.1) fun b =>
 Option.bind (idx x.2.2.1 (wrap64 (x_1.2.1 - 1)))
 fun b_1 =>
 bif !decide (b.1 = wrap64 (b_1.1 + 1)) then
 some (Sum.inr (Sum.inr (false, ())))
 else some (Sum.inl ())
 else some (Sum.inl ())
 else
 bif decide (0 < x_1.2.1) then
 Option.bind (idx x.2.2.1 x_1.2.1) fun b =>
 Option.bind (idx x.2.2.1 (wrap64 (x_1.2.1 - 1)))
 fun b_1 =>
 bif !decide (b.1 = wrap64 (b_1.1 + 1)) then
 some (Sum.inr (Sum.inr (false, ())))
 else some (Sum.inl ())
 else some (Sum.inl ()))
 fun o =>
 Sum.elim
 (fun (_z : Unit) =>
 Option.bind (idx x.2.2.1 x_1.2.1) fun b =>
 some (Sum.inl (b.2.1, wrap64 (x_1.2.1 + 1), ())))
 (fun (val : Int × Int × Unit ⊕ Bool × Unit) => some val) o
 else some (Sum.inr (true, ())))
 big (x.2.1, 0, ())
def S106 : Sig := ⟨P106, R106, F106⟩
def E106 : Env := en 73 [(183, [S183])] [(8, ⟨[], [0, 2, 7, 9, 10], []⟩)] [(2, mkLoop ⟨[⟨.slot 1, (.int .i64), .pv⟩, ⟨.slot 10, (.int .i64), .pv⟩], [0, 2, 9], []⟩)]
theorem raw106_eq (x : Int × Int × List T25D × Unit) : afun E106 Tryz.f106 P106 R106 x = F106 x := by kernel_rfl
-- decamp/decampref07.Snap
def F107 (x : T25D × Unit) : Option (Bool × Unit) :=
 Option.bind
 (bif decide (x.1.1 = 0) then
 bif decide (x.1.2.1 = 0) then
 some (Sum.inr (decide (Int.ofNat (List.length x.1.2.2.1) = 0), ()))
 else some (Sum.inl ())
 else some (Sum.inl ()))
 fun o =>
 Sum.elim
 (fun (_z : Unit) =>
 Option.bind (F184 (x.1.1, ())) fun b =>
 bif b.1 then
 Option.bind (F184 (x.1.2.1, ())) fun b =>
 bif b.1 then some (decide (Int.ofNat (List.length x.1.2.2.1) ≤ 50000), ())
 else some (false, ())
 else some (false, ()))
 (fun (val : Bool × Unit) => some val) o
def S107 : Sig := ⟨P107, R107, F107⟩
def E107 : Env := en 29 [(184, [S184])] [(3, ⟨[], [1], [.site 1000, .fld 1000 0, .fld 1000 1, .fld 1000 2]⟩)] []
theorem raw107_eq (x : T25D × Unit) : afun E107 Tryz.f107 P107 R107 x = F107 x := by kernel_rfl
-- decamp/decampref11.Right
def F34 (x : T27D × Unit) : Option (Bool × Unit) :=
 bif decide (x.1.1 < 1) then some (false, ())
 else
 bif decide (7 < x.1.1) then some (false, ())
 else
 bif decide (x.1.2.1 < 0) then some (false, ())
 else
 bif decide (2 < x.1.2.1) then some (false, ())
 else
 bif decide (x.1.2.2.1 < 0) then some (false, ())
 else
 bif decide (2 < x.1.2.2.1) then some (false, ())
 else
 bif decide (x.1.2.1 = x.1.2.2.1) then some (false, ())
 else
 bif decide (x.1.2.2.2.1 < 1) then some (false, ())
 else
 Option.bind (F104 (x.1.2.2.2.1, ())) fun b =>
 bif !b.1 then some (false, ())
 else
 Option.bind (F104 (x.1.2.2.2.2.1, ())) fun b =>
 bif !b.1 then some (false, ())
 else
 Option.bind (F104 (x.1.2.2.2.2.2.1, ())) fun b =>
 bif !b.1 then some (false, ())
 else
 Option.bind (F104 (x.1.2.2.2.2.2.2.1, ()))
 fun b =>
 bif !b.1 then some (false, ())
 else
 Option.bind (F104 (x.1.2.2.2.2.2.2.2.1, ()))
 fun b =>
 bif !b.1 then some (false, ())
 else
 Option.bind (F105 x) fun b =>
 bif !b.1 then some (false, ())
 else
 bif
 decide
 (4 <
 Int.ofNat
 (List.length x.1.2.2.2.2.2.2.2.2.2.1)) then
 some (false, ())
 else
 Option.bind
 (F106
 (x.1.2.2.2.2.1, x.1.2.2.2.2.2.1,
 x.1.2.2.2.2.2.2.2.2.2.1, ()))
 fun b =>
 bif !b.1 then some (false, ())
 else
 iterE (Int × Unit) (Bool × Unit)
 (fun (x_1 : Int × Unit) =>
 bif
 decide
 (x_1.1 <
 Int.ofNat
 (List.length
 x.1.2.2.2.2.2.2.2.2.2.1)) then
 Option.bind
 (idx x.1.2.2.2.2.2.2.2.2.2.1 x_1.1)
 fun b =>
 bif decide (x.1.2.2.2.1 < b.2.1) then
 some (Sum.inr (false, ()))
 else
 some
 (Sum.inl
 (wrap64 (x_1.1 + 1), ()))
 else
 Option.map Sum.inr
 (bif !decide (x.1.1 = 7) then some (true, ())
 else
 Option.bind
 (F107 x.1.2.2.2.2.2.2.2.2.2.2)
 fun b =>
 bif b.1 then
 some
 (decide
 (0 <
 x.1.2.2.2.2.2.2.2.2.2.2.1.1),
 ())
 else some (false, ())))
 big (0, ())
def S34 : Sig := ⟨P34, R34, F34⟩
def E34 : Env := en 121 [(104, [S104]), (105, [S105]), (106, [S106]), (107, [S107])] [] [(8, mkLoop ⟨[⟨.slot 94, (.int .i64), .pv⟩], [1, 93], [.site 1000, .fld 1000 0, .fld 1000 1, .fld 1000 2, .fld 1000 3, .fld 1000 4, .fld 1000 5, .fld 1000 6, .fld 1000 7, .fld 1000 8, .fld 1000 9, .fld 1000 10]⟩)]
theorem raw34_eq (x : T27D × Unit) : afun E34 Tryz.f34 P34 R34 x = F34 x := by kernel_rfl
-- decamp/decampref22.within
def F35 (x : T113D) : Option (Bool × Unit) :=
 bif decide (x.2.1 ≤ x.1) then some (decide (x.1 ≤ x.2.2.1), ()) else some (false, ())
def S35 : Sig := ⟨P35, R35, F35⟩
def E35 : Env := en 15 [] [] []
theorem raw35_eq (x : T113D) : afun E35 Tryz.f35 P35 R35 x = F35 x := by kernel_rfl
-- decamp/decampref15.text
def F111 (x : List UInt8 × UInt8 × Unit) : Option (Bool × Unit) :=
 iterE (Int × Unit) (Bool × Unit)
 (fun (x_1 : Int × Unit) =>
 bif decide (x_1.1 < Int.ofNat (List.length x.1)) then
 Option.bind (idx x.1 x_1.1) fun b =>
 bif decide (intOf8 b < intOf8 (UInt8.ofNat 33)) then some (Sum.inr (false, ()))
 else
 Option.bind (idx x.1 x_1.1) fun b =>
 bif decide (intOf8 x.2.1 < intOf8 b) then some (Sum.inr (false, ()))
 else some (Sum.inl (wrap64 (x_1.1 + 1), ()))
 else
 Option.map Sum.inr
 (bif decide (1 ≤ Int.ofNat (List.length x.1)) then
 some (decide (Int.ofNat (List.length x.1) ≤ 32), ())
 else some (false, ())))
 big (0, ())
def S111 : Sig := ⟨P111, R111, F111⟩
def E111 : Env := en 31 [] [] [(2, mkLoop ⟨[⟨.slot 8, (.int .i64), .pv⟩], [0, 1, 7], []⟩)]
theorem raw111_eq (x : List UInt8 × UInt8 × Unit) : afun E111 Tryz.f111 P111 R111 x = F111 x := by kernel_rfl
-- decamp/decampref15.Key
def F39 (x : T83D) : Option (Bool × Unit) := Option.bind (F111 (x.1, UInt8.ofNat 126, ())) fun b => some b
def S39 : Sig := ⟨P39, R39, F39⟩
def E39 : Env := en 5 [(111, [S111])] [] []
theorem raw39_eq (x : T83D) : afun E39 Tryz.f39 P39 R39 x = F39 x := by kernel_rfl
-- decamp/decampref15.Range
def F37 (x : List UInt8 × T83D) : Option (Bool × Unit) :=
 Option.bind (F39 (x.1, ())) fun b =>
 bif b.1 then
 bif decide (Int.ofNat (List.length x.2.1) = 0) then some (true, ())
 else
 Option.bind (F111 (x.2.1, UInt8.ofNat 127, ())) fun b =>
 bif b.1 then some (strlt x.1 x.2.1, ()) else some (false, ())
 else some (false, ())
def S37 : Sig := ⟨P37, R37, F37⟩
def E37 : Env := en 21 [(39, [S39]), (111, [S111])] [] []
theorem raw37_eq (x : List UInt8 × T83D) : afun E37 Tryz.f37 P37 R37 x = F37 x := by kernel_rfl
-- decamp/decampref17.Prefix
def F38 (x : T83D) : Option (Bool × Unit) :=
 bif decide (Int.ofNat (List.length x.1) ≤ 8) then Option.bind (F39 x) fun b => some b
 else some (false, ())
def S38 : Sig := ⟨P38, R38, F38⟩
def E38 : Env := en 10 [(39, [S39])] [] []
theorem raw38_eq (x : T83D) : afun E38 Tryz.f38 P38 R38 x = F38 x := by kernel_rfl
-- decamp/decampref17.within
def F109 (x : T113D) : Option (Bool × Unit) :=
 bif decide (x.2.1 ≤ x.1) then some (decide (x.1 ≤ x.2.2.1), ()) else some (false, ())
def S109 : Sig := ⟨P109, R109, F109⟩
def E109 : Env := en 15 [] [] []
theorem raw109_eq (x : T113D) : afun E109 Tryz.f109 P109 R109 x = F109 x := by kernel_rfl
-- decamp/decampref17.one
def F110 (x : Int × Unit) : Option (Bool × Unit) := Option.bind (F109 (x.1, 1, 1099511627776, ())) fun b => some b
def S110 : Sig := ⟨P110, R110, F110⟩
def E110 : Env := en 5 [(109, [S109])] [] []
theorem raw110_eq (x : Int × Unit) : afun E110 Tryz.f110 P110 R110 x = F110 x := by kernel_rfl
-- decamp/decampref17.natural
def F113 (x : Int × Unit) : Option (Bool × Unit) := Option.bind (F109 (x.1, 0, 1099511627776, ())) fun b => some b
def S113 : Sig := ⟨P113, R113, F113⟩
def E113 : Env := en 5 [(109, [S109])] [] []
theorem raw113_eq (x : Int × Unit) : afun E113 Tryz.f113 P113 R113 x = F113 x := by kernel_rfl
-- decamp/decampref14.Ver
def F112 (x : T66D × Unit) : Option (Bool × Unit) :=
 bif decide (x.1.1 < 1) then some (false, ())
 else
 bif decide (1099511627776 < x.1.1) then some (false, ())
 else
 bif decide (x.1.2.2.1 < 1) then some (false, ())
 else
 bif decide (1099511627776 < x.1.2.2.1) then some (false, ())
 else
 bif x.1.2.2.2.2.2.2.1 then
 bif decide (x.1.2.1 = 0) then
 bif decide (x.1.2.2.2.1 = 0) then
 bif decide (x.1.2.2.2.2.2.1 = 0) then
 some (decide (Int.ofNat (List.length x.1.2.2.2.2.1) = 0), ())
 else some (false, ())
 else some (false, ())
 else some (false, ())
 else
 bif decide (1 ≤ x.1.2.1) then
 bif decide (x.1.2.1 ≤ x.1.2.2.1) then
 bif decide (1 ≤ x.1.2.2.2.1) then
 bif decide (x.1.2.2.2.1 ≤ 1099511627776) then
 bif decide (Int.ofNat (List.length x.1.2.2.2.2.1) ≤ 40) then
 bif decide (-1099511627776 ≤ x.1.2.2.2.2.2.1) then
 some (decide (x.1.2.2.2.2.2.1 ≤ 1099511627776), ())
 else some (false, ())
 else some (false, ())
 else some (false, ())
 else some (false, ())
 else some (false, ())
 else some (false, ())
def S112 : Sig := ⟨P112, R112, F112⟩
def E112 : Env := en 78 [] [] []
theorem raw112_eq (x : T66D × Unit) : afun E112 Tryz.f112 P112 R112 x = F112 x := by kernel_rfl
-- decamp/decampref17.Reply
def F40 (x : T51D × Unit) : Option (Bool × Unit) :=
 iterE (Int × Unit) (Bool × Unit)
 (fun (x_1 : Int × Unit) =>
 bif decide (x_1.1 < Int.ofNat (List.length x.1.2.2.2.2.1)) then
 Option.bind (idx x.1.2.2.2.2.1 x_1.1)
 fun b =>
 Option.bind (F39 (b.1, ())) fun b =>
 bif !b.1 then some (Sum.inr (false, ()))
 else
 Option.bind (idx x.1.2.2.2.2.1 x_1.1)
 fun b =>
 Option.bind (F112 b.2) fun b =>
 bif !b.1 then some (Sum.inr (false, ()))
 else some (Sum.inl (wrap64 (x_1.1 + 1), ()))
 else
 Option.map Sum.inr
 (Option.bind (F109 (x.1.1, 0, 15, ())) fun b =>
 bif b.1 then
 Option.bind (F113 (x.1.2.1, ())) fun b =>
 bif b.1 then
 Option.bind (F113 (x.1.2.2.2.1, ())) fun b =>
 bif b.1 then
 Option.bind (F113 x.1.2.2.2.2.2.2) fun b =>
 bif b.1 then
 Option.bind (F109 (x.1.2.2.2.2.2.1, 0, 1, ())) fun b =>
 bif b.1 then
 some (decide (Int.ofNat (List.length x.1.2.2.2.2.1) ≤ 8), ())
 else some (false, ())
 else some (false, ())
 else some (false, ())
 else some (false, ())
 else some (false, ())))
 big (0, ())
def S40 : Sig := ⟨P40, R40, F40⟩
def E40 : Env := en 58 [(39, [S39]), (109, [S109]), (112, [S112]), (113, [S113])] [] [(2, mkLoop ⟨[⟨.slot 7, (.int .i64), .pv⟩], [1, 6], [.site 1000, .fld 1000 0, .fld 1000 1, .fld 1000 2, .fld 1000 3, .fld 1000 4, .fld 1000 5, .fld 1000 6]⟩)]
theorem raw40_eq (x : T51D × Unit) : afun E40 Tryz.f40 P40 R40 x = F40 x := by kernel_rfl
-- decamp/decampref17.Sess
def F114 (x : List T94D × Int × Unit) : Option (Bool × Unit) :=
 iterE (Int × Unit) (Bool × Unit)
 (fun (x_1 : Int × Unit) =>
 bif decide (x_1.1 < Int.ofNat (List.length x.1)) then
 Option.bind (idx x.1 x_1.1)
 fun b =>
 Option.bind (F109 (b.1, 1, x.2)) fun b =>
 bif !b.1 then some (Sum.inr (false, ()))
 else
 Option.bind (idx x.1 x_1.1)
 fun b =>
 Option.bind (F110 (b.2.1, ())) fun b =>
 bif !b.1 then some (Sum.inr (false, ()))
 else
 Option.bind (idx x.1 x_1.1)
 fun b =>
 Option.bind (F40 b.2.2) fun b =>
 bif !b.1 then some (Sum.inr (false, ()))
 else
 bif decide (0 < x_1.1) then
 Option.bind (idx x.1 (wrap64 (x_1.1 - 1)))
 fun b =>
 Option.bind (idx x.1 x_1.1)
 fun b_1 =>
 bif decide (b_1.1 ≤ b.1) then some (Sum.inr (false, ()))
 else some (Sum.inl (wrap64 (x_1.1 + 1), ()))
 else some (Sum.inl (wrap64 (x_1.1 + 1), ()))
 else some (Sum.inr (true, ())))
 big (0, ())
def S114 : Sig := ⟨P114, R114, F114⟩
def E114 : Env := en 56 [(40, [S40]), (109, [S109]), (110, [S110])] [] [(2, mkLoop ⟨[⟨.slot 8, (.int .i64), .pv⟩], [0, 1, 7], []⟩)]
theorem raw114_eq (x : List T94D × Int × Unit) : afun E114 Tryz.f114 P114 R114 x = F114 x := by kernel_rfl
-- decamp/decampref17.leases
def F115 (x : List T113D × Unit) : Option (Bool × Unit) :=
 iterE (Int × Unit) (Bool × Unit)
 (fun (x_1 : Int × Unit) =>
 bif decide (x_1.1 < Int.ofNat (List.length x.1)) then
 Option.bind (idx x.1 x_1.1) fun b =>
 Option.bind (F110 (b.1, ())) fun b =>
 bif !b.1 then some (Sum.inr (false, ()))
 else
 Option.bind (idx x.1 x_1.1) fun b =>
 Option.bind (F109 (b.2.1, 1, 1000, ())) fun b =>
 bif !b.1 then some (Sum.inr (false, ()))
 else
 Option.bind (idx x.1 x_1.1) fun b =>
 Option.bind (F109 (b.2.2.1, 0, 1000, ())) fun b =>
 bif !b.1 then some (Sum.inr (false, ()))
 else
 bif decide (0 < x_1.1) then
 Option.bind (idx x.1 (wrap64 (x_1.1 - 1)))
 fun b =>
 Option.bind (idx x.1 x_1.1) fun b_1 =>
 bif decide (b_1.1 ≤ b.1) then some (Sum.inr (false, ()))
 else some (Sum.inl (wrap64 (x_1.1 + 1), ()))
 else some (Sum.inl (wrap64 (x_1.1 + 1), ()))
 else some (Sum.inr (decide (Int.ofNat (List.length x.1) ≤ 64), ())))
 big (0, ())
def S115 : Sig := ⟨P115, R115, F115⟩
def E115 : Env := en 56 [(109, [S109]), (110, [S110])] [] [(2, mkLoop ⟨[⟨.slot 6, (.int .i64), .pv⟩], [0, 5], []⟩)]
theorem raw115_eq (x : List T113D × Unit) : afun E115 Tryz.f115 P115 R115 x = F115 x := by kernel_rfl
-- decamp/decampref17.bare
def F185 (x : T28D × Unit) : Option (Bool × Unit) := let o : Bool → Bool → Option (Bool × Unit) → Option (Bool × Unit) := (fun (p q : Bool) (r : Option (Bool × Unit)) => bif p then r else bif q then r else some (false, ()))
  
  ((o (decide (x.1.1 = 1) || decide (x.1.1 = 2) || decide (x.1.1 = 10) || decide (x.1.1 = 12) || decide (x.1.1 = 13)) (decide (x.1.2.1 = []))) 
  ((o (decide (x.1.1 = 2) || decide (x.1.1 = 12) || decide (x.1.1 = 13)) (decide (x.1.2.2.1 = []))) 
  ((o (decide (x.1.1 = 1)) (decide (x.1.2.2.2.1 = []))) 
  ((o (decide (x.1.1 = 1) || decide (x.1.1 = 5) || decide (x.1.1 = 6) || decide (x.1.1 = 7) || decide (x.1.1 = 9)) (decide (x.1.2.2.2.2.1 = 0))) 
  ((o (decide (x.1.1 = 5)) (decide (x.1.2.2.2.2.2.1 = 0))) 
  ((o (decide (x.1.1 = 4) || decide (x.1.1 = 12) || decide (x.1.1 = 14) || decide (x.1.1 = 15)) (decide (x.1.2.2.2.2.2.2.1 = 0))) 
  ((o (decide (x.1.1 = 3)) (decide (wrap64 (wrap64 (Int.ofNat (List.length x.1.2.2.2.2.2.2.2.1) + Int.ofNat (List.length x.1.2.2.2.2.2.2.2.2.1)) + Int.ofNat (List.length x.1.2.2.2.2.2.2.2.2.2.1)) = 0))) 
  ((o (decide (10 ≤ x.1.1)) (decide (x.1.2.2.2.2.2.2.2.2.2.2.1 = 0))) 
  ((fun r => bif decide (12 ≤ x.1.1) then (o (decide (x.1.1 ≤ 15)) (decide (x.1.2.2.2.2.2.2.2.2.2.2.2.1 = 0)) r) else (o false (decide (x.1.2.2.2.2.2.2.2.2.2.2.2.1 = 0)) r)) 
  ((o (decide (x.1.1 = 14)) (decide (x.1.2.2.2.2.2.2.2.2.2.2.2.2.1 = 0))) 
  ((o (decide (x.1.1 = 13)) (!x.1.2.2.2.2.2.2.2.2.2.2.2.2.2.1)) 
  ((o (decide (x.1.1 = 13) || decide (x.1.1 = 14)) (decide (Int.ofNat (List.length x.1.2.2.2.2.2.2.2.2.2.2.2.2.2.2.1) = 0))) (bif decide (x.1.1 = 15) then some (true, ()) else some (decide (wrap64 (Int.ofNat (List.length x.1.2.2.2.2.2.2.2.2.2.2.2.2.2.2.2.1) + Int.ofNat (List.length x.1.2.2.2.2.2.2.2.2.2.2.2.2.2.2.2.2.1)) = 0), ()))))))))))))))
def S185 : Sig := ⟨P185, R185, F185⟩
def E185 : Env := en 204 [] [(3, ⟨[⟨.slot 4, .bool, .pv⟩], [1, 3], [.site 1000, .fld 1000 0, .fld 1000 1, .fld 1000 2, .fld 1000 3, .fld 1000 4, .fld 1000 5, .fld 1000 6, .fld 1000 7, .fld 1000 8, .fld 1000 9, .fld 1000 10, .fld 1000 11, .fld 1000 12, .fld 1000 13, .fld 1000 14, .fld 1000 15, .fld 1000 16]⟩), (4, ⟨[⟨.slot 5, .bool, .pv⟩], [1, 3, 4], [.site 1000, .fld 1000 0, .fld 1000 1, .fld 1000 2, .fld 1000 3, .fld 1000 4, .fld 1000 5, .fld 1000 6, .fld 1000 7, .fld 1000 8, .fld 1000 9, .fld 1000 10, .fld 1000 11, .fld 1000 12, .fld 1000 13, .fld 1000 14, .fld 1000 15, .fld 1000 16]⟩), (5, ⟨[⟨.slot 6, .bool, .pv⟩], [1, 3, 4, 5], [.site 1000, .fld 1000 0, .fld 1000 1, .fld 1000 2, .fld 1000 3, .fld 1000 4, .fld 1000 5, .fld 1000 6, .fld 1000 7, .fld 1000 8, .fld 1000 9, .fld 1000 10, .fld 1000 11, .fld 1000 12, .fld 1000 13, .fld 1000 14, .fld 1000 15, .fld 1000 16]⟩), (6, ⟨[⟨.slot 7, .bool, .pv⟩], [1, 3, 4, 5, 6], [.site 1000, .fld 1000 0, .fld 1000 1, .fld 1000 2, .fld 1000 3, .fld 1000 4, .fld 1000 5, .fld 1000 6, .fld 1000 7, .fld 1000 8, .fld 1000 9, .fld 1000 10, .fld 1000 11, .fld 1000 12, .fld 1000 13, .fld 1000 14, .fld 1000 15, .fld 1000 16]⟩)] []
-- decamp/decampref17.cmps
def F186 (x : List T96D × Unit) : Option (Bool × Unit) :=
 iterE (Int × Unit) (Bool × Unit)
 (fun (x_1 : Int × Unit) =>
 bif decide (x_1.1 < Int.ofNat (List.length x.1)) then
 Option.bind (idx x.1 x_1.1) fun b =>
 Option.bind
 (bif decide (1 ≤ b.2.1) then
 bif decide (b.2.1 ≤ 4) then
 bif decide (Int.ofNat (List.length b.2.2.2.2.1) = 0) then
 Option.bind (F109 (b.2.2.2.1, -1099511627776, 1099511627776, ()))
 fun b => some (Sum.inl b)
 else some (Sum.inl (false, ()))
 else some (Sum.inl (false, ()))
 else some (Sum.inl (false, ())))
 fun o =>
 Sum.elim
 (fun (x : Bool × Unit) =>
 Option.bind
 (bif decide (b.2.1 = 5) then
 bif decide (b.2.2.2.1 = 0) then
 some (Sum.inl (decide (Int.ofNat (List.length b.2.2.2.2.1) ≤ 40), ()))
 else some (Sum.inl (false, ()))
 else some (Sum.inl (false, ())))
 fun o =>
 Sum.elim
 (fun (x_2 : Bool × Unit) =>
 Option.bind (F39 (b.1, ())) fun b_1 =>
 bif !b_1.1 then some (Sum.inr (false, ()))
 else
 Option.bind (F109 (b.2.2.1, 0, 2, ())) fun b =>
 bif !b.1 then some (Sum.inr (false, ()))
 else
 bif !x.1 then
 bif !x_2.1 then some (Sum.inr (false, ()))
 else some (Sum.inl (wrap64 (x_1.1 + 1), ()))
 else some (Sum.inl (wrap64 (x_1.1 + 1), ())))
 (fun (val : Int × Unit ⊕ Bool × Unit) => some val) o)
 (fun (val : Int × Unit ⊕ Bool × Unit) => some val) o
 else some (Sum.inr (decide (Int.ofNat (List.length x.1) ≤ 4), ())))
 big (0, ())
def S186 : Sig := ⟨P186, R186, F186⟩
def E186 : Env := en 71 [(39, [S39]), (109, [S109])] [(6, ⟨[⟨.slot 5, .bool, .pv⟩], [0, 4, 8, 9], [.site 4005000, .fld 4005000 0, .fld 4005000 1, .fld 4005000 2, .fld 4005000 3, .fld 4005000 4]⟩), (7, ⟨[⟨.slot 6, .bool, .pv⟩], [0, 4, 5, 8, 9], [.site 4005000, .fld 4005000 0, .fld 4005000 1, .fld 4005000 2, .fld 4005000 3, .fld 4005000 4]⟩)] [(2, mkLoop ⟨[⟨.slot 9, (.int .i64), .pv⟩], [0, 8], []⟩)]
theorem raw186_eq (x : List T96D × Unit) : afun E186 Tryz.f186 P186 R186 x = F186 x := by kernel_rfl
-- decamp/decampref17.op
def F221 (x : T48D × Unit) : Option (Bool × Unit) :=
 bif decide (x.1.1 = 1) then
 bif decide (Int.ofNat (List.length x.1.2.2.1) = 0) then
 Option.bind (F39 (x.1.2.1, ())) fun b =>
 bif b.1 then
 bif decide (Int.ofNat (List.length x.1.2.2.2.1) ≤ 40) then
 Option.bind (F113 x.1.2.2.2.2) fun b => some b
 else some (false, ())
 else some (false, ())
 else some (false, ())
 else
 bif decide (x.1.1 = 2) then
 bif decide (Int.ofNat (List.length x.1.2.2.2.1) = 0) then
 bif decide (x.1.2.2.2.2.1 = 0) then
 Option.bind (F37 (x.1.2.1, x.1.2.2.1, ())) fun b => some b
 else some (false, ())
 else some (false, ())
 else
 bif decide (x.1.1 = 3) then
 bif decide (Int.ofNat (List.length x.1.2.2.2.1) = 0) then
 bif decide (x.1.2.2.2.2.1 = 0) then
 Option.bind (F37 (x.1.2.1, x.1.2.2.1, ())) fun b => some b
 else some (false, ())
 else some (false, ())
 else some (false, ())
def S221 : Sig := ⟨P221, R221, F221⟩
def E221 : Env := en 52 [(37, [S37]), (39, [S39]), (113, [S113])] [] []
theorem raw221_eq (x : T48D × Unit) : afun E221 Tryz.f221 P221 R221 x = F221 x := by kernel_rfl
-- decamp/decampref15.In
def F236 (x : List UInt8 × List UInt8 × T83D) : Option (Bool × Unit) :=
 Option.bind (F37 (x.1, x.2.1, ())) fun b =>
 bif !b.1 then some (false, ())
 else
 Option.bind (F39 x.2.2) fun b =>
 bif !b.1 then some (false, ())
 else
 bif decide (Int.ofNat (List.length x.2.1) = 0) then some (decide (x.2.2.1 = x.1), ())
 else
 bif !strlt x.2.2.1 x.1 then some (strlt x.2.2.1 x.2.1, ())
 else some (false, ())
def S236 : Sig := ⟨P236, R236, F236⟩
def E236 : Env := en 30 [(37, [S37]), (39, [S39])] [] []
theorem raw236_eq (x : List UInt8 × List UInt8 × T83D) : afun E236 Tryz.f236 P236 R236 x = F236 x := by kernel_rfl
-- decamp/decampref17.meet
def F222 (x : T48D × T48D × Unit) : Option (Bool × Unit) :=
 bif decide (x.1.1 = 3) then some (false, ())
 else
 bif decide (x.2.1.1 = 3) then some (false, ())
 else
 Option.bind (F236 (x.1.2.1, x.1.2.2.1, x.2.1.2.1, ())) fun b =>
 bif b.1 then some (true, ())
 else
 Option.bind (F236 (x.2.1.2.1, x.2.1.2.2.1, x.1.2.1, ()))
 fun b => some b
def S222 : Sig := ⟨P222, R222, F222⟩
def E222 : Env := en 29 [(236, [S236])] [] []
theorem raw222_eq (x : T48D × T48D × Unit) : afun E222 Tryz.f222 P222 R222 x = F222 x := by kernel_rfl
-- decamp/decampref17.ops
def F187 (x : List T48D × Unit) : Option (Bool × Unit) :=
 iterE (Int × Unit) (Bool × Unit)
 (fun (x_1 : Int × Unit) =>
 bif decide (x_1.1 < Int.ofNat (List.length x.1)) then
 Option.bind (idx x.1 x_1.1) fun b =>
 Option.bind (F221 (b, ())) fun b =>
 bif !b.1 then some (Sum.inr (false, ()))
 else
 iterE (Int × Unit) (Int × Unit ⊕ Bool × Unit)
 (fun (x_2 : Int × Unit) =>
 bif decide (x_2.1 < x_1.1) then
 Option.bind (idx x.1 x_2.1)
 fun b =>
 Option.bind (idx x.1 x_1.1)
 fun b_1 =>
 Option.bind (F222 (b, b_1, ())) fun b =>
 bif b.1 then some (Sum.inr (Sum.inr (false, ())))
 else some (Sum.inl (wrap64 (x_2.1 + 1), ()))
 else some (Sum.inr (Sum.inl (wrap64 (x_1.1 + 1), ()))))
 big (0, ())
 else some (Sum.inr (decide (Int.ofNat (List.length x.1) ≤ 4), ())))
 big (0, ())
def S187 : Sig := ⟨P187, R187, F187⟩
def E187 : Env := en 34 [(221, [S221]), (222, [S222])] [] [(2, mkLoop ⟨[⟨.slot 7, (.int .i64), .pv⟩], [0, 6], []⟩), (7, mkLoop ⟨[⟨.slot 17, (.int .i64), .pv⟩], [0, 3, 6, 7, 16], []⟩)]
theorem raw187_eq (x : List T48D × Unit) : afun E187 Tryz.f187 P187 R187 x = F187 x := by kernel_rfl
-- decamp/decampref17.page
def F188 (x : T28D × Unit) : Option (Bool × Unit) :=
 iterE (Int × Unit) (Bool × Unit)
 (fun (x_1 : Int × Unit) =>
 bif
 decide
 (x_1.1 < Int.ofNat (List.length x.1.2.2.2.2.2.2.2.2.2.2.2.2.2.2.1)) then
 Option.bind (idx x.1.2.2.2.2.2.2.2.2.2.2.2.2.2.2.1 x_1.1)
 fun b =>
 Option.bind (F39 (b.1, ())) fun b_1 =>
 bif !b_1.1 then some (Sum.inr (false, ()))
 else
 Option.bind (F112 b.2) fun b_2 =>
 bif !b_2.1 then some (Sum.inr (false, ()))
 else
 bif b.2.1.2.2.2.2.2.2.1 then some (Sum.inr (false, ()))
 else
 bif decide (0 < x_1.1) then
 Option.bind
 (idx x.1.2.2.2.2.2.2.2.2.2.2.2.2.2.2.1
 (wrap64 (x_1.1 - 1)))
 fun b_3 =>
 bif !strlt b_3.1 b.1 then some (Sum.inr (false, ()))
 else some (Sum.inl (wrap64 (x_1.1 + 1), ()))
 else some (Sum.inl (wrap64 (x_1.1 + 1), ()))
 else
 Option.map Sum.inr
 (bif decide (x.1.2.1 = []) then
 bif decide (x.1.2.2.1 = []) then
 some
 (decide (Int.ofNat (List.length x.1.2.2.2.2.2.2.2.2.2.2.2.2.2.2.1) ≤ 8),
 ())
 else
 Option.bind (F39 (x.1.2.2.1, ())) fun b =>
 bif b.1 then
 some
 (decide
 (Int.ofNat (List.length x.1.2.2.2.2.2.2.2.2.2.2.2.2.2.2.1) ≤ 8),
 ())
 else some (false, ())
 else
 Option.bind (F39 (x.1.2.1, ())) fun b =>
 bif b.1 then
 bif decide (x.1.2.2.1 = []) then
 some
 (decide
 (Int.ofNat (List.length x.1.2.2.2.2.2.2.2.2.2.2.2.2.2.2.1) ≤ 8),
 ())
 else
 Option.bind (F39 (x.1.2.2.1, ())) fun b =>
 bif b.1 then
 some
 (decide
 (Int.ofNat (List.length x.1.2.2.2.2.2.2.2.2.2.2.2.2.2.2.1) ≤
 8),
 ())
 else some (false, ())
 else some (false, ())))
 big (0, ())
def S188 : Sig := ⟨P188, R188, F188⟩
def E188 : Env := en 72 [(39, [S39]), (112, [S112])] [] [(2, mkLoop ⟨[⟨.slot 8, (.int .i64), .pv⟩], [1, 7], [.site 1000, .fld 1000 0, .fld 1000 1, .fld 1000 2, .fld 1000 3, .fld 1000 4, .fld 1000 5, .fld 1000 6, .fld 1000 7, .fld 1000 8, .fld 1000 9, .fld 1000 10, .fld 1000 11, .fld 1000 12, .fld 1000 13, .fld 1000 14, .fld 1000 15, .fld 1000 16]⟩)]
theorem raw188_eq (x : T28D × Unit) : afun E188 Tryz.f188 P188 R188 x = F188 x := by kernel_rfl
-- decamp/decampref17.tail
def F189 (x : T28D × Unit) : Option (Bool × Unit) :=
 iterE (Int × Unit) (Bool × Unit)
 (fun (x_1 : Int × Unit) =>
 bif
 decide
 (x_1.1 < Int.ofNat (List.length x.1.2.2.2.2.2.2.2.2.2.2.2.2.2.2.1)) then
 Option.bind (idx x.1.2.2.2.2.2.2.2.2.2.2.2.2.2.2.1 x_1.1)
 fun b =>
 Option.bind (F39 (b.1, ())) fun b_1 =>
 bif !b_1.1 then some (Sum.inr (false, ()))
 else
 Option.bind (F112 b.2) fun b_2 =>
 bif !b_2.1 then some (Sum.inr (false, ()))
 else
 bif decide (b.2.1.1 ≤ x.1.2.2.2.2.2.2.1) then some (Sum.inr (false, ()))
 else
 bif decide (x.1.2.2.2.2.2.2.2.2.2.2.2.2.1 < b.2.1.1) then
 some (Sum.inr (false, ()))
 else
 bif decide (0 < x_1.1) then
 Option.bind
 (idx x.1.2.2.2.2.2.2.2.2.2.2.2.2.2.2.1
 (wrap64 (x_1.1 - 1)))
 fun b_3 =>
 bif decide (b.2.1.1 < b_3.2.1.1) then some (Sum.inr (false, ()))
 else
 Option.bind
 (idx x.1.2.2.2.2.2.2.2.2.2.2.2.2.2.2.1
 (wrap64 (x_1.1 - 1)))
 fun b_4 =>
 bif decide (b_4.2.1.1 = b.2.1.1) then
 Option.bind
 (idx x.1.2.2.2.2.2.2.2.2.2.2.2.2.2.2.1
 (wrap64 (x_1.1 - 1)))
 fun b_5 =>
 bif !strlt b_5.1 b.1 then some (Sum.inr (false, ()))
 else some (Sum.inl (wrap64 (x_1.1 + 1), ()))
 else some (Sum.inl (wrap64 (x_1.1 + 1), ()))
 else some (Sum.inl (wrap64 (x_1.1 + 1), ()))
 else
 Option.map Sum.inr
 (Option.bind (F110 (x.1.2.2.2.2.2.2.1, ())) fun b =>
 bif b.1 then
 Option.bind (F110 (x.1.2.2.2.2.2.2.2.2.2.2.2.2.1, ()))
 fun b =>
 bif b.1 then
 bif
 decide
 (x.1.2.2.2.2.2.2.1 <
 x.1.2.2.2.2.2.2.2.2.2.2.2.2.1) then
 some
 (decide
 (Int.ofNat (List.length x.1.2.2.2.2.2.2.2.2.2.2.2.2.2.2.1) ≤
 64),
 ())
 else some (false, ())
 else some (false, ())
 else some (false, ())))
 big (0, ())
def S189 : Sig := ⟨P189, R189, F189⟩
def E189 : Env := en 106 [(39, [S39]), (110, [S110]), (112, [S112])] [] [(2, mkLoop ⟨[⟨.slot 8, (.int .i64), .pv⟩], [1, 7], [.site 1000, .fld 1000 0, .fld 1000 1, .fld 1000 2, .fld 1000 3, .fld 1000 4, .fld 1000 5, .fld 1000 6, .fld 1000 7, .fld 1000 8, .fld 1000 9, .fld 1000 10, .fld 1000 11, .fld 1000 12, .fld 1000 13, .fld 1000 14, .fld 1000 15, .fld 1000 16]⟩)]
theorem raw189_eq (x : T28D × Unit) : afun E189 Tryz.f189 P189 R189 x = F189 x := by kernel_rfl
-- decamp/decampref17.Right
def F108 (x : T28D × Unit) : Option (Bool × Unit) :=
 Option.bind
 (Option.bind (F185 x) fun b =>
 bif !b.1 then some (Sum.inr (false, ()))
 else
 bif decide (10 ≤ x.1.1) then
 Option.bind (F110 (x.1.2.2.2.2.2.2.2.2.2.2.1, ())) fun b =>
 bif !b.1 then some (Sum.inr (false, ()))
 else
 bif decide (12 ≤ x.1.1) then
 bif decide (x.1.1 ≤ 15) then
 Option.bind (F110 (x.1.2.2.2.2.2.2.2.2.2.2.2.1, ()))
 fun b =>
 bif !b.1 then some (Sum.inr (false, ())) else some (Sum.inl ())
 else some (Sum.inl ())
 else some (Sum.inl ())
 else
 bif decide (12 ≤ x.1.1) then
 bif decide (x.1.1 ≤ 15) then
 Option.bind (F110 (x.1.2.2.2.2.2.2.2.2.2.2.2.1, ()))
 fun b =>
 bif !b.1 then some (Sum.inr (false, ())) else some (Sum.inl ())
 else some (Sum.inl ())
 else some (Sum.inl ()))
 fun o =>
 Sum.elim
 (fun (_z : Unit) =>
 Option.bind
 (bif decide (x.1.1 = 1) then
 Option.bind (F39 (x.1.2.1, ())) fun b =>
 bif b.1 then
 bif decide (Int.ofNat (List.length x.1.2.2.2.1) ≤ 40) then
 Option.bind (F113 (x.1.2.2.2.2.1, ())) fun b => some (Sum.inr b)
 else some (Sum.inr (false, ()))
 else some (Sum.inr (false, ()))
 else
 bif decide (x.1.1 = 2) then
 Option.bind (F37 (x.1.2.1, x.1.2.2.1, ())) fun b =>
 some (Sum.inr b)
 else
 bif decide (x.1.1 = 3) then
 Option.bind (F186 (x.1.2.2.2.2.2.2.2.1, ())) fun b =>
 bif b.1 then
 Option.bind (F187 (x.1.2.2.2.2.2.2.2.2.1, ())) fun b =>
 bif b.1 then
 Option.bind (F187 (x.1.2.2.2.2.2.2.2.2.2.1, ()))
 fun b => some (Sum.inr b)
 else some (Sum.inr (false, ()))
 else some (Sum.inr (false, ()))
 else
 bif decide (x.1.1 = 4) then
 Option.bind (F110 (x.1.2.2.2.2.2.2.1, ())) fun b =>
 some (Sum.inr b)
 else
 bif decide (x.1.1 = 5) then
 Option.bind (F110 (x.1.2.2.2.2.1, ())) fun b =>
 bif b.1 then
 Option.bind (F109 (x.1.2.2.2.2.2.1, 1, 1000, ()))
 fun b => some (Sum.inr b)
 else some (Sum.inr (false, ()))
 else
 bif decide (x.1.1 = 6) then
 bif decide (x.1.1 = 6) then
 Option.bind (F110 (x.1.2.2.2.2.1, ())) fun b =>
 some (Sum.inr b)
 else
 bif decide (x.1.1 = 9) then
 bif !decide (x.1.2.2.2.2.1 = 0) then
 Option.bind (F109 (x.1.2.2.2.2.1, -1099511627776, 1099511627776, ()))
 fun b => some (Sum.inr b)
 else some (Sum.inr (false, ()))
 else
 bif decide (x.1.1 = 10) then
 Option.bind (F38 (x.1.2.1, ())) fun b => some (Sum.inr b)
 else
 bif decide (x.1.1 = 12) then
 Option.bind (F38 (x.1.2.1, ())) fun b =>
 bif b.1 then
 Option.bind (F38 (x.1.2.2.1, ())) fun b =>
 bif b.1 then
 Option.bind (F110 (x.1.2.2.2.2.2.2.1, ()))
 fun b => some (Sum.inr b)
 else some (Sum.inr (false, ()))
 else some (Sum.inr (false, ()))
 else
 bif decide (x.1.1 = 13) then
 Option.bind (F188 x) fun b => some (Sum.inr b)
 else
 bif decide (x.1.1 = 14) then
 Option.bind (F189 x) fun b => some (Sum.inr b)
 else
 bif decide (x.1.1 = 15) then
 Option.bind (F110 (x.1.2.2.2.2.2.2.1, ()))
 fun b =>
 bif b.1 then
 Option.bind
 (F114
 (x.1.2.2.2.2.2.2.2.2.2.2.2.2.2.2.2.1, 15,
 ()))
 fun b =>
 bif b.1 then
 Option.bind
 (F115
 x.1.2.2.2.2.2.2.2.2.2.2.2.2.2.2.2.2)
 fun b => some (Sum.inr b)
 else some (Sum.inr (false, ()))
 else some (Sum.inr (false, ()))
 else some (Sum.inl ())
 else
 bif decide (x.1.1 = 7) then
 Option.bind (F110 (x.1.2.2.2.2.1, ())) fun b =>
 some (Sum.inr b)
 else
 bif decide (x.1.1 = 9) then
 bif !decide (x.1.2.2.2.2.1 = 0) then
 Option.bind (F109 (x.1.2.2.2.2.1, -1099511627776, 1099511627776, ()))
 fun b => some (Sum.inr b)
 else some (Sum.inr (false, ()))
 else
 bif decide (x.1.1 = 10) then
 Option.bind (F38 (x.1.2.1, ())) fun b => some (Sum.inr b)
 else
 bif decide (x.1.1 = 12) then
 Option.bind (F38 (x.1.2.1, ())) fun b =>
 bif b.1 then
 Option.bind (F38 (x.1.2.2.1, ())) fun b =>
 bif b.1 then
 Option.bind (F110 (x.1.2.2.2.2.2.2.1, ()))
 fun b => some (Sum.inr b)
 else some (Sum.inr (false, ()))
 else some (Sum.inr (false, ()))
 else
 bif decide (x.1.1 = 13) then
 Option.bind (F188 x) fun b => some (Sum.inr b)
 else
 bif decide (x.1.1 = 14) then
 Option.bind (F189 x) fun b => some (Sum.inr b)
 else
 bif decide (x.1.1 = 15) then
 Option.bind (F110 (x.1.2.2.2.2.2.2.1, ()))
 fun b =>
 bif b.1 then
 Option.bind
 (F114
 (x.1.2.2.2.2.2.2.2.2.2.2.2.2.2.2.2.1, 15,
 ()))
 fun b =>
 bif b.1 then
 Option.bind
 (F115
 x.1.2.2.2.2.2.2.2.2.2.2.2.2.2.2.2.2)
 fun b => some (Sum.inr b)
 else some (Sum.inr (false, ()))
 else some (Sum.inr (false, ()))
 else some (Sum.inl ()))
 fun o =>
 Sum.elim
 (fun (_z : Unit) =>
 bif decide (x.1.1 = 8) then some (true, ())
 else
 bif decide (x.1.1 = 11) then some (true, ())
 else some (decide (x.1.1 = 16), ()))
 (fun (val : Bool × Unit) => some val) o)
 (fun (val : Bool × Unit) => some val) o
def S108 : Sig := ⟨P108, R108, F108⟩
def E108 : Env := en 160 [(37, [S37]), (38, [S38]), (39, [S39]), (109, [S109]), (110, [S110]), (113, [S113]), (114, [S114]), (115, [S115]), (185, [S185]), (186, [S186]), (187, [S187]), (188, [S188]), (189, [S189])] [(3, ⟨[], [1], [.site 1000, .fld 1000 0, .fld 1000 1, .fld 1000 2, .fld 1000 3, .fld 1000 4, .fld 1000 5, .fld 1000 6, .fld 1000 7, .fld 1000 8, .fld 1000 9, .fld 1000 10, .fld 1000 11, .fld 1000 12, .fld 1000 13, .fld 1000 14, .fld 1000 15, .fld 1000 16]⟩), (29, ⟨[], [1], [.site 1000, .fld 1000 0, .fld 1000 1, .fld 1000 2, .fld 1000 3, .fld 1000 4, .fld 1000 5, .fld 1000 6, .fld 1000 7, .fld 1000 8, .fld 1000 9, .fld 1000 10, .fld 1000 11, .fld 1000 12, .fld 1000 13, .fld 1000 14, .fld 1000 15, .fld 1000 16]⟩)] []
theorem raw108_eq (x : T28D × Unit) : afun E108 Tryz.f108 P108 R108 x = F108 x := by kernel_rfl
-- decamp/decampref17.RightJob
def F36 (x : T33D × Unit) : Option (Bool × Unit) :=
 Option.bind (F108 x.1.2.2) fun b =>
 bif !b.1 then some (false, ())
 else
 bif decide (x.1.1 = 0) then
 bif decide (x.1.2.1 = 0) then some (decide (8 ≤ x.1.2.2.1.1), ())
 else some (false, ())
 else
 Option.bind (F109 (x.1.1, 1, 31, ())) fun b =>
 bif b.1 then
 Option.bind (F110 (x.1.2.1, ())) fun b =>
 bif b.1 then some (decide (x.1.2.2.1.1 < 8), ()) else some (false, ())
 else some (false, ())
def S36 : Sig := ⟨P36, R36, F36⟩
def E36 : Env := en 33 [(108, [S108]), (109, [S109]), (110, [S110])] [] []
theorem raw36_eq (x : T33D × Unit) : afun E36 Tryz.f36 P36 R36 x = F36 x := by kernel_rfl
-- decamp/decampref22.items
def F42 (x : List T70D × Int × Unit) : Option (Bool × Unit) :=
 iterE (Int × Unit) (Bool × Unit)
 (fun (x_1 : Int × Unit) =>
 bif decide (x_1.1 < Int.ofNat (List.length x.1)) then
 Option.bind (idx x.1 x_1.1)
 fun b =>
 Option.bind (F39 (b.1, ())) fun b =>
 bif !b.1 then some (Sum.inr (false, ()))
 else
 Option.bind (idx x.1 x_1.1)
 fun b =>
 Option.bind (F112 b.2) fun b =>
 bif !b.1 then some (Sum.inr (false, ()))
 else some (Sum.inl (wrap64 (x_1.1 + 1), ()))
 else some (Sum.inr (decide (Int.ofNat (List.length x.1) ≤ x.2.1), ())))
 big (0, ())
def S42 : Sig := ⟨P42, R42, F42⟩
def E42 : Env := en 32 [(39, [S39]), (112, [S112])] [] [(2, mkLoop ⟨[⟨.slot 8, (.int .i64), .pv⟩], [0, 1, 7], []⟩)]
theorem raw42_eq (x : List T70D × Int × Unit) : afun E42 Tryz.f42 P42 R42 x = F42 x := by kernel_rfl
-- decamp/decampref22.batches
def F41 (x : List TBD × Unit) : Option (Bool × Unit) :=
 iterE (Int × Unit) (Bool × Unit)
 (fun (x_1 : Int × Unit) =>
 bif decide (x_1.1 < Int.ofNat (List.length x.1)) then
 Option.bind (idx x.1 x_1.1)
 fun b =>
 Option.bind (F35 (b.1, 1, 1099511627776, ())) fun b =>
 bif !b.1 then some (Sum.inr (false, ()))
 else
 bif decide (0 < x_1.1) then
 Option.bind (idx x.1 x_1.1)
 fun b =>
 Option.bind (idx x.1 (wrap64 (x_1.1 - 1)))
 fun b_1 =>
 bif decide (b.1 ≤ b_1.1) then some (Sum.inr (false, ()))
 else
 Option.bind (idx x.1 x_1.1)
 fun b =>
 Option.bind (F42 (b.2.1, 48, ())) fun b =>
 bif !b.1 then some (Sum.inr (false, ()))
 else some (Sum.inl (wrap64 (x_1.1 + 1), ()))
 else
 Option.bind (idx x.1 x_1.1)
 fun b =>
 Option.bind (F42 (b.2.1, 48, ())) fun b =>
 bif !b.1 then some (Sum.inr (false, ()))
 else some (Sum.inl (wrap64 (x_1.1 + 1), ()))
 else some (Sum.inr (decide (Int.ofNat (List.length x.1) ≤ 64), ())))
 big (0, ())
def S41 : Sig := ⟨P41, R41, F41⟩
def E41 : Env := en 47 [(35, [S35]), (42, [S42])] [] [(2, mkLoop ⟨[⟨.slot 6, (.int .i64), .pv⟩], [0, 5], []⟩)]
theorem raw41_eq (x : List TBD × Unit) : afun E41 Tryz.f41 P41 R41 x = F41 x := by kernel_rfl
-- decamp/decampref22.None
def F43 (x : T55D × Unit) : Option (Bool × Unit) :=
 Option.bind (F68 (x.1, (0, 0, [], [], ()), ())) fun b => some b
def S43 : Sig := ⟨P43, R43, F43⟩
def E43 : Env := en 6 [(68, [S68])] [] []
theorem raw43_eq (x : T55D × Unit) : afun E43 Tryz.f43 P43 R43 x = F43 x := by kernel_rfl
-- decamp/decampref17.Hand
def F44 (x : T55D × Unit) : Option (Bool × Unit) :=
 Option.bind (F110 (x.1.1, ())) fun b =>
 bif b.1 then
 Option.bind (F113 (x.1.2.1, ())) fun b =>
 bif b.1 then
 Option.bind (F114 (x.1.2.2.1, 15, ())) fun b =>
 bif b.1 then Option.bind (F115 x.1.2.2.2) fun b => some b
 else some (false, ())
 else some (false, ())
 else some (false, ())
def S44 : Sig := ⟨P44, R44, F44⟩
def E44 : Env := en 21 [(110, [S110]), (113, [S113]), (114, [S114]), (115, [S115])] [] []
theorem raw44_eq (x : T55D × Unit) : afun E44 Tryz.f44 P44 R44 x = F44 x := by kernel_rfl
-- decamp/decampref17.Move
def F45 (x : T53D × Unit) : Option (Bool × Unit) :=
 Option.bind (F109 (x.1.1, 0, 4, ())) fun b =>
 bif b.1 then
 Option.bind (F113 (x.1.2.1, ())) fun b =>
 bif b.1 then
 Option.bind (F113 (x.1.2.2.1, ())) fun b =>
 bif b.1 then
 Option.bind (F113 (x.1.2.2.2.2.2.1, ())) fun b =>
 bif b.1 then
 Option.bind (F113 (x.1.2.2.2.2.2.2.2.1, ())) fun b =>
 bif b.1 then
 Option.bind (F113 (x.1.2.2.2.2.2.2.2.2.1, ()))
 fun b =>
 bif b.1 then
 Option.bind (F113 x.1.2.2.2.2.2.2.2.2.2) fun b =>
 bif b.1 then
 bif decide (x.1.2.2.2.1 = []) then
 bif decide (x.1.2.2.2.2.1 = []) then
 bif decide (x.1.2.2.2.2.2.2.1 = []) then some (true, ())
 else
 Option.bind (F39 (x.1.2.2.2.2.2.2.1, ()))
 fun b => some b
 else
 Option.bind (F38 (x.1.2.2.2.2.1, ())) fun b =>
 bif b.1 then
 bif decide (x.1.2.2.2.2.2.2.1 = []) then some (true, ())
 else
 Option.bind (F39 (x.1.2.2.2.2.2.2.1, ()))
 fun b => some b
 else some (false, ())
 else
 Option.bind (F38 (x.1.2.2.2.1, ())) fun b =>
 bif b.1 then
 bif decide (x.1.2.2.2.2.1 = []) then
 bif decide (x.1.2.2.2.2.2.2.1 = []) then some (true, ())
 else
 Option.bind (F39 (x.1.2.2.2.2.2.2.1, ()))
 fun b => some b
 else
 Option.bind (F38 (x.1.2.2.2.2.1, ()))
 fun b =>
 bif b.1 then
 bif decide (x.1.2.2.2.2.2.2.1 = []) then
 some (true, ())
 else
 Option.bind (F39 (x.1.2.2.2.2.2.2.1, ()))
 fun b => some b
 else some (false, ())
 else some (false, ())
 else some (false, ())
 else some (false, ())
 else some (false, ())
 else some (false, ())
 else some (false, ())
 else some (false, ())
 else some (false, ())
def S45 : Sig := ⟨P45, R45, F45⟩
def E45 : Env := en 66 [(38, [S38]), (39, [S39]), (109, [S109]), (113, [S113])] [] []
theorem raw45_eq (x : T53D × Unit) : afun E45 Tryz.f45 P45 R45 x = F45 x := by kernel_rfl
-- decamp/decampref22.Right
def F11 (x : TMD × Unit) : Option (Bool × Unit) :=
 bif decide (x.1.1 < 1) then some (false, ())
 else
 bif decide (12 < x.1.1) then some (false, ())
 else
 Option.bind (F33 x)
 fun b =>
 Option.bind (F15 (b.1, x)) fun b =>
 bif !b.1 then some (false, ())
 else
 bif decide (x.1.1 = 1) then
 Option.bind (F34 (x.1.2.2.1, ())) fun b => some b
 else
 Option.bind (F35 (x.1.2.1, 1, 1099511627776, ())) fun b =>
 bif !b.1 then some (false, ())
 else
 Option.bind (F35 (x.1.2.2.2.2.1, 0, 31, ())) fun b =>
 bif !b.1 then some (false, ())
 else
 Option.bind (F35 (x.1.2.2.2.2.2.2.2.2.2.1, 0, 15, ()))
 fun b =>
 bif !b.1 then some (false, ())
 else
 bif decide (x.1.1 = 2) then
 Option.bind (F36 (x.1.2.2.2.1, ())) fun b => some b
 else
 bif decide (x.1.1 = 3) then
 Option.bind
 (F37 (x.1.2.2.2.2.2.1, x.1.2.2.2.2.2.2.1, ()))
 fun b =>
 bif b.1 then
 Option.bind
 (F35 (x.1.2.2.2.2.2.2.2.1, 0, 1099511627776, ()))
 fun b =>
 bif b.1 then
 Option.bind (F35 (x.1.2.2.2.2.2.2.2.2.1, 0, 8, ()))
 fun b => some b
 else some (false, ())
 else some (false, ())
 else
 bif decide (x.1.1 = 4) then
 Option.bind
 (F37 (x.1.2.2.2.2.2.1, x.1.2.2.2.2.2.2.1, ()))
 fun b =>
 bif b.1 then
 Option.bind
 (F35 (x.1.2.2.2.2.2.2.2.1, 1, 1099511627776, ()))
 fun b => some b
 else some (false, ())
 else
 bif decide (x.1.1 = 5) then
 Option.bind (F38 (x.1.2.2.2.2.2.1, ()))
 fun b =>
 bif b.1 then
 bif decide (x.1.2.2.2.2.2.2.1 = []) then
 Option.bind
 (F35 (x.1.2.2.2.2.2.2.2.1, 1, 1099511627776, ()))
 fun b => some b
 else
 Option.bind (F39 (x.1.2.2.2.2.2.2.1, ()))
 fun b =>
 bif b.1 then
 Option.bind
 (F35
 (x.1.2.2.2.2.2.2.2.1, 1, 1099511627776, ()))
 fun b => some b
 else some (false, ())
 else some (false, ())
 else
 bif decide (x.1.1 = 6) then
 Option.bind
 (F35 (x.1.2.2.2.2.2.2.2.1, 1, 1099511627776, ()))
 fun b => some b
 else
 bif decide (x.1.1 = 8) then
 Option.bind
 (F35 (x.1.2.2.2.2.2.2.2.2.2.2.1, -1, 2, ()))
 fun b =>
 bif b.1 then
 Option.bind
 (F40 (x.1.2.2.2.2.2.2.2.2.2.2.2.1, ()))
 fun b => some b
 else some (false, ())
 else
 bif decide (x.1.1 = 9) then
 Option.bind
 (F35 (x.1.2.2.2.2.2.2.2.1, 0, 1099511627777, ()))
 fun b =>
 bif b.1 then
 Option.bind
 (F41
 (x.1.2.2.2.2.2.2.2.2.2.2.2.2.1, ()))
 fun b => some b
 else some (false, ())
 else
 bif decide (x.1.1 = 10) then
 Option.bind
 (F42
 (x.1.2.2.2.2.2.2.2.2.2.2.2.2.2.1, 8,
 ()))
 fun b => some b
 else
 bif decide (x.1.1 = 11) then
 Option.bind
 (F43
 (x.1.2.2.2.2.2.2.2.2.2.2.2.2.2.2.2.1,
 ()))
 fun b =>
 bif b.1 then some (true, ())
 else
 Option.bind
 (F44
 (x.1.2.2.2.2.2.2.2.2.2.2.2.2.2.2.2.1,
 ()))
 fun b => some b
 else
 bif decide (x.1.1 = 12) then
 Option.bind
 (F35
 (x.1.2.2.2.2.2.2.2.1, 0, 1099511627776, ()))
 fun b =>
 bif b.1 then
 Option.bind
 (F45
 x.1.2.2.2.2.2.2.2.2.2.2.2.2.2.2.2.2)
 fun b => some b
 else some (false, ())
 else some (true, ())
def S11 : Sig := ⟨P11, R11, F11⟩
def E11 : Env := en 146 [(15, [S15]), (33, [S33]), (34, [S34]), (35, [S35]), (36, [S36]), (37, [S37]), (38, [S38]), (39, [S39]), (40, [S40]), (41, [S41]), (42, [S42]), (43, [S43]), (44, [S44]), (45, [S45])] [] []
theorem raw11_eq (x : TMD × Unit) : afun E11 Tryz.f11 P11 R11 x = F11 x := by kernel_rfl
-- decamp/decampref03.Wide
def F138 (x : Int × Int × Unit) : Option T83D :=
 Option.bind (mkO 0 x.2.1 x.2.1) fun b =>
 iterE (Int × List UInt8 × Int × Unit) T83D
 (fun (x_1 : Int × List UInt8 × Int × Unit) =>
 bif decide (x_1.2.2.1 < x.2.1) then
 Option.bind
 (idxN x_1.2.1 (wrap64 (wrap64 (x.2.1 - 1) - x_1.2.2.1)))
 fun b =>
 Option.bind x_1.2.1[b]? fun (_z : UInt8) =>
 Option.bind (quoO IntKind.u64 x_1.1 256) fun b_1 =>
 some
 (Sum.inl
 (b_1, List.set x_1.2.1 b (Sx.byteOf (IntKind.wrap IntKind.u8 x_1.1)),
 wrap64 (x_1.2.2.1 + 1), ()))
 else some (Sum.inr (x_1.2.1, ())))
 big (x.1, b, 0, ())
def S138 : Sig := ⟨P138, R138, F138⟩
def E138 : Env := en 25 [] [] [(3, mkLoop ⟨[⟨.slot 0, (.int .u64), .pv⟩, ⟨.slot 5, (.slice .u8), .own false⟩, ⟨.slot 10, (.int .i64), .pv⟩], [1, 9], []⟩)]
theorem raw138_eq (x : Int × Int × Unit) : afun E138 Tryz.f138 P138 R138 x = F138 x := by kernel_rfl
-- decamp/decampref03.Num
def F135 (x : Int × Unit) : Option T83D :=
 Option.bind (F138 (IntKind.wrap IntKind.u64 x.1, 8, ())) fun b => some b
def S135 : Sig := ⟨P135, R135, F135⟩
def E135 : Env := en 6 [(138, [S138])] [] []
theorem raw135_eq (x : Int × Unit) : afun E135 Tryz.f135 P135 R135 x = F135 x := by kernel_rfl
-- decamp/decampref17.Nums
def F55 (x : List Int × Unit) : Option T83D :=
 iterE (List UInt8 × Int × Unit) T83D
 (fun (x_1 : List UInt8 × Int × Unit) =>
 bif decide (x_1.2.1 < Int.ofNat (List.length x.1)) then
 Option.bind (idx x.1 x_1.2.1) fun b =>
 Option.bind (F135 (b, ())) fun b =>
 Option.bind (appU x_1.1 b.1) fun b =>
 some (Sum.inl (b, wrap64 (x_1.2.1 + 1), ()))
 else some (Sum.inr (x_1.1, ())))
 big ([], 0, ())
def S55 : Sig := ⟨P55, R55, F55⟩
def E55 : Env := en 19 [(135, [S135])] [] [(3, mkLoop ⟨[⟨.slot 3, (.slice .u8), .own false⟩, ⟨.slot 7, (.int .i64), .pv⟩], [0, 6], []⟩)]
theorem raw55_eq (x : List Int × Unit) : afun E55 Tryz.f55 P55 R55 x = F55 x := by kernel_rfl
-- decamp/decampref03.Count
def F58 (x : Int × Unit) : Option T83D :=
 Option.bind (F138 (IntKind.wrap IntKind.u64 x.1, 4, ())) fun b => some b
def S58 : Sig := ⟨P58, R58, F58⟩
def E58 : Env := en 6 [(138, [S138])] [] []
theorem raw58_eq (x : Int × Unit) : afun E58 Tryz.f58 P58 R58 x = F58 x := by kernel_rfl
-- decamp/decampref03.Text
def F56 (x : T83D) : Option T83D :=
 Option.bind (F58 (Int.ofNat (List.length x.1), ())) fun b =>
 Option.bind (appU b.1 x.1) fun b => some (b, ())
def S56 : Sig := ⟨P56, R56, F56⟩
def E56 : Env := en 8 [(58, [S58])] [] []
theorem raw56_eq (x : T83D) : afun E56 Tryz.f56 P56 R56 x = F56 x := by kernel_rfl
-- decamp/decampref03.Flag
def F60 (x : Bool × Unit) : Option T83D := bif x.1 then some ([UInt8.ofNat 1], ()) else some ([UInt8.ofNat 0], ())
def S60 : Sig := ⟨P60, R60, F60⟩
def E60 : Env := en 6 [] [] []
theorem raw60_eq (x : Bool × Unit) : afun E60 Tryz.f60 P60 R60 x = F60 x := by kernel_rfl
-- decamp/decampref17.join
def F116 (x : List (List UInt8) × Unit) : Option T83D :=
 iterE (List UInt8 × Int × Unit) T83D
 (fun (x_1 : List UInt8 × Int × Unit) =>
 bif decide (x_1.2.1 < Int.ofNat (List.length x.1)) then
 Option.bind (idx x.1 x_1.2.1) fun b =>
 Option.bind (appU x_1.1 b) fun b =>
 some (Sum.inl (b, wrap64 (x_1.2.1 + 1), ()))
 else some (Sum.inr (x_1.1, ())))
 big ([], 0, ())
def S116 : Sig := ⟨P116, R116, F116⟩
def E116 : Env := en 18 [] [] [(3, mkLoop ⟨[⟨.slot 3, (.slice .u8), .own false⟩, ⟨.slot 7, (.int .i64), .pv⟩], [0, 6], []⟩)]
theorem raw116_eq (x : List (List UInt8) × Unit) : afun E116 Tryz.f116 P116 R116 x = F116 x := by kernel_rfl
-- decamp/decampref17.opsBytes
def F117 (x : List T48D × Unit) : Option T83D :=
 Option.bind (F58 (Int.ofNat (List.length x.1), ())) fun b =>
 iterE (List UInt8 × Int × Unit) T83D
 (fun (x_1 : List UInt8 × Int × Unit) =>
 bif decide (x_1.2.1 < Int.ofNat (List.length x.1)) then
 Option.bind (idx x.1 x_1.2.1) fun b =>
 Option.bind (idx x.1 x_1.2.1) fun b_1 =>
 Option.bind (F56 (b_1.2.1, ())) fun b_2 =>
 Option.bind (idx x.1 x_1.2.1)
 fun b_3 =>
 Option.bind (F56 (b_3.2.2.1, ())) fun b_4 =>
 Option.bind (idx x.1 x_1.2.1)
 fun b_5 =>
 Option.bind (F56 (b_5.2.2.2.1, ())) fun b_6 =>
 Option.bind (idx x.1 x_1.2.1)
 fun b_7 =>
 Option.bind (F55 ([b_7.2.2.2.2.1], ())) fun b_8 =>
 Option.bind
 (F116
 ([x_1.1, [Sx.byteOf (IntKind.wrap IntKind.u8 b.1)], b_2.1, b_4.1, b_6.1,
 b_8.1],
 ()))
 fun b =>
 some (Sum.inl (b.1, wrap64 (x_1.2.1 + 1), ()))
 else some (Sum.inr (x_1.1, ())))
 big (b.1, 0, ())
def S117 : Sig := ⟨P117, R117, F117⟩
def E117 : Env := en 50 [(55, [S55]), (56, [S56]), (58, [S58]), (116, [S116])] [] [(3, mkLoop ⟨[⟨.slot 3, (.slice .u8), .own false⟩, ⟨.slot 10, (.int .i64), .pv⟩], [0, 9], []⟩)]
theorem raw117_eq (x : List T48D × Unit) : afun E117 Tryz.f117 P117 R117 x = F117 x := by kernel_rfl
-- decamp/decampref17.VerBytes
def F197 (x : T66D × Unit) : Option T83D :=
 Option.bind
 (Option.bind (F112 x) fun b =>
 bif !b.1 then some (Sum.inl (0, 0, 0, 0, [], 0, false, ())) else some (Sum.inl x.1))
 fun o =>
 Sum.elim
 (fun (x : T66D) =>
 Option.bind (F55 ([x.1, x.2.1, x.2.2.1, x.2.2.2.1], ()))
 fun b =>
 Option.bind (F56 (x.2.2.2.2.1, ())) fun b_1 =>
 Option.bind (F55 ([x.2.2.2.2.2.1], ())) fun b_2 =>
 Option.bind (F60 x.2.2.2.2.2.2) fun b_3 =>
 Option.bind (F116 ([b.1, b_1.1, b_2.1, b_3.1], ())) fun b =>
 some b)
 (fun (val : T83D) => some val) o
def S197 : Sig := ⟨P197, R197, F197⟩
def E197 : Env := en 29 [(55, [S55]), (56, [S56]), (60, [S60]), (112, [S112]), (116, [S116])] [(3, ⟨[⟨.fld 1000 0, (.int .i64), .pv⟩, ⟨.fld 1000 1, (.int .i64), .pv⟩, ⟨.fld 1000 2, (.int .i64), .pv⟩, ⟨.fld 1000 3, (.int .i64), .pv⟩, ⟨.fld 1000 4, .str, .pv⟩, ⟨.fld 1000 5, (.int .i64), .pv⟩, ⟨.fld 1000 6, .bool, .pv⟩], [1], [.site 1000]⟩)] []
theorem raw197_eq (x : T66D × Unit) : afun E197 Tryz.f197 P197 R197 x = F197 x := by kernel_rfl
-- decamp/decampref17.ItemBytes
def F139 (x : T70D × Unit) : Option T83D :=
 Option.bind
 (bif !decide (x.1.1 = []) then
 Option.bind (F39 (x.1.1, ())) fun b =>
 bif !b.1 then some (Sum.inl ([], (0, 0, 0, 0, [], 0, false, ()), ()))
 else
 bif
 !(decide (x.1.2.1.1 = 0) &&
 (decide (x.1.2.1.2.1 = 0) &&
 (decide (x.1.2.1.2.2.1 = 0) &&
 (decide (x.1.2.1.2.2.2.1 = 0) &&
 (decide (x.1.2.1.2.2.2.2.1 = []) &&
 (decide (x.1.2.1.2.2.2.2.2.1 = 0) &&
 (x.1.2.1.2.2.2.2.2.2.1 == false && true))))))) then
 Option.bind (F112 x.1.2) fun b =>
 bif !b.1 then some (Sum.inl ([], (0, 0, 0, 0, [], 0, false, ()), ()))
 else some (Sum.inl x.1)
 else some (Sum.inl x.1)
 else
 bif
 !(decide (x.1.2.1.1 = 0) &&
 (decide (x.1.2.1.2.1 = 0) &&
 (decide (x.1.2.1.2.2.1 = 0) &&
 (decide (x.1.2.1.2.2.2.1 = 0) &&
 (decide (x.1.2.1.2.2.2.2.1 = []) &&
 (decide (x.1.2.1.2.2.2.2.2.1 = 0) &&
 (x.1.2.1.2.2.2.2.2.2.1 == false && true))))))) then
 Option.bind (F112 x.1.2) fun b =>
 bif !b.1 then some (Sum.inl ([], (0, 0, 0, 0, [], 0, false, ()), ()))
 else some (Sum.inl x.1)
 else some (Sum.inl x.1))
 fun o =>
 Sum.elim
 (fun (x : T70D) =>
 Option.bind (F56 (x.1, ())) fun b =>
 Option.bind (F197 x.2) fun b_1 =>
 Option.bind (F116 ([b.1, b_1.1], ())) fun b => some b)
 (fun (val : T83D) => some val) o
def S139 : Sig := ⟨P139, R139, F139⟩
def E139 : Env := en 33 [(39, [S39]), (56, [S56]), (112, [S112]), (116, [S116]), (197, [S197])] [(3, ⟨[⟨.fld 1000 0, .str, .pv⟩, ⟨.fld 1000 1, T66, .pv⟩], [1], [.site 1000]⟩)] []
theorem raw139_eq (x : T70D × Unit) : afun E139 Tryz.f139 P139 R139 x = F139 x := by kernel_rfl
-- decamp/decampref17.itemsBytes
def F118 (x : List T70D × Unit) : Option T83D :=
 Option.bind (F58 (Int.ofNat (List.length x.1), ())) fun b =>
 iterE (List UInt8 × Int × Unit) T83D
 (fun (x_1 : List UInt8 × Int × Unit) =>
 bif decide (x_1.2.1 < Int.ofNat (List.length x.1)) then
 Option.bind (idx x.1 x_1.2.1)
 fun b =>
 Option.bind (F139 (b, ())) fun b =>
 Option.bind (appU x_1.1 b.1) fun b =>
 some (Sum.inl (b, wrap64 (x_1.2.1 + 1), ()))
 else some (Sum.inr (x_1.1, ())))
 big (b.1, 0, ())
def S118 : Sig := ⟨P118, R118, F118⟩
def E118 : Env := en 22 [(58, [S58]), (139, [S139])] [] [(3, mkLoop ⟨[⟨.slot 3, (.slice .u8), .own false⟩, ⟨.slot 10, (.int .i64), .pv⟩], [0, 9], []⟩)]
theorem raw118_eq (x : List T70D × Unit) : afun E118 Tryz.f118 P118 R118 x = F118 x := by kernel_rfl
-- decamp/decampref17.ReplyBytes
def F57 (x : T51D × Unit) : Option T83D :=
 Option.bind
 (Option.bind (F40 x) fun b =>
 bif !b.1 then some (Sum.inl (0, 0, false, 0, [], 0, 0, ())) else some (Sum.inl x.1))
 fun o =>
 Sum.elim
 (fun (x :
 Int × Int × Bool × Int × List T70D × Int × Int × Unit) =>
 Option.bind (F55 ([x.2.1], ())) fun b =>
 Option.bind (F60 (x.2.2.1, ())) fun b_1 =>
 Option.bind (F55 ([x.2.2.2.1], ())) fun b_2 =>
 Option.bind (F118 (x.2.2.2.2.1, ())) fun b_3 =>
 Option.bind (F55 ([x.2.2.2.2.2.2.1], ())) fun b_4 =>
 Option.bind
 (F116
 ([[Sx.byteOf (IntKind.wrap IntKind.u8 x.1)], b.1, b_1.1, b_2.1, b_3.1,
 [Sx.byteOf (IntKind.wrap IntKind.u8 x.2.2.2.2.2.1)], b_4.1],
 ()))
 fun b => some b)
 (fun (val : T83D) => some val) o
def S57 : Sig := ⟨P57, R57, F57⟩
def E57 : Env := en 35 [(40, [S40]), (55, [S55]), (60, [S60]), (116, [S116]), (118, [S118])] [(3, ⟨[⟨.fld 1000 0, (.int .i64), .pv⟩, ⟨.fld 1000 1, (.int .i64), .pv⟩, ⟨.fld 1000 2, .bool, .pv⟩, ⟨.fld 1000 3, (.int .i64), .pv⟩, ⟨.fld 1000 4, (.slice T70), .pv⟩, ⟨.fld 1000 5, (.int .i64), .pv⟩, ⟨.fld 1000 6, (.int .i64), .pv⟩], [1], [.site 1000]⟩)] []
theorem raw57_eq (x : T51D × Unit) : afun E57 Tryz.f57 P57 R57 x = F57 x := by kernel_rfl
-- decamp/decampref17.handedBytes
def F119 (x : List T94D × List T113D × Unit) : Option T83D :=
 Option.bind (F58 (Int.ofNat (List.length x.1), ())) fun b =>
 iterE (List UInt8 × Int × Unit) T83D
 (fun (x_1 : List UInt8 × Int × Unit) =>
 bif decide (x_1.2.1 < Int.ofNat (List.length x.1)) then
 Option.bind (idx x.1 x_1.2.1)
 fun b =>
 Option.bind (idx x.1 x_1.2.1)
 fun b_1 =>
 Option.bind (F55 ([b.1, b_1.2.1], ())) fun b =>
 Option.bind (idx x.1 x_1.2.1)
 fun b_2 =>
 Option.bind (F57 b_2.2.2) fun b_3 =>
 Option.bind (F116 ([x_1.1, b.1, b_3.1], ())) fun b =>
 some (Sum.inl (b.1, wrap64 (x_1.2.1 + 1), ()))
 else
 Option.map Sum.inr
 (Option.bind (F58 (Int.ofNat (List.length x.2.1), ())) fun b =>
 Option.bind (F116 ([x_1.1, b.1], ())) fun b =>
 iterE (List UInt8 × Int × Unit) T83D
 (fun (x_2 : List UInt8 × Int × Unit) =>
 bif decide (x_2.2.1 < Int.ofNat (List.length x.2.1)) then
 Option.bind (idx x.2.1 x_2.2.1) fun b =>
 Option.bind (idx x.2.1 x_2.2.1) fun b_1 =>
 Option.bind (idx x.2.1 x_2.2.1) fun b_2 =>
 Option.bind (F55 ([b.1, b_1.2.1, b_2.2.2.1], ()))
 fun b =>
 Option.bind (F116 ([x_2.1, b.1], ())) fun b =>
 some (Sum.inl (b.1, wrap64 (x_2.2.1 + 1), ()))
 else some (Sum.inr (x_2.1, ())))
 big (b.1, 0, ())))
 big (b.1, 0, ())
def S119 : Sig := ⟨P119, R119, F119⟩
def E119 : Env := en 71 [(55, [S55]), (57, [S57]), (58, [S58]), (116, [S116])] [] [(3, mkLoop ⟨[⟨.slot 5, (.slice .u8), .own false⟩, ⟨.slot 13, (.int .i64), .pv⟩], [0, 1, 12], []⟩), (9, mkLoop ⟨[⟨.slot 5, (.slice .u8), .own false⟩, ⟨.slot 46, (.int .i64), .pv⟩], [1, 45], []⟩)]
theorem raw119_eq (x : List T94D × List T113D × Unit) : afun E119 Tryz.f119 P119 R119 x = F119 x := by kernel_rfl
-- decamp/decampref17.Bytes
def F46 (x : T33D × Unit) : Option T83D :=
 Option.bind (F55 ([x.1.1, x.1.2.1], ())) fun b =>
 Option.bind (F56 (x.1.2.2.1.2.1, ())) fun b_1 =>
 Option.bind (F56 (x.1.2.2.1.2.2.1, ())) fun b_2 =>
 Option.bind (F56 (x.1.2.2.1.2.2.2.1, ())) fun b_3 =>
 Option.bind
 (F55
 ([x.1.2.2.1.2.2.2.2.1, x.1.2.2.1.2.2.2.2.2.1,
 x.1.2.2.1.2.2.2.2.2.2.1],
 ()))
 fun b_4 =>
 Option.bind (F58 (Int.ofNat (List.length x.1.2.2.1.2.2.2.2.2.2.2.1), ()))
 fun b_5 =>
 Option.bind
 (F116
 ([b.1, [Sx.byteOf (IntKind.wrap IntKind.u8 x.1.2.2.1.1)], b_1.1, b_2.1, b_3.1,
 b_4.1, b_5.1],
 ()))
 fun b =>
 iterE (List UInt8 × Int × Unit) T83D
 (fun (x_1 : List UInt8 × Int × Unit) =>
 bif
 decide
 (x_1.2.1 < Int.ofNat (List.length x.1.2.2.1.2.2.2.2.2.2.2.1)) then
 Option.bind (idx x.1.2.2.1.2.2.2.2.2.2.2.1 x_1.2.1)
 fun b =>
 Option.bind (F56 (b.1, ())) fun b_6 =>
 Option.bind (F55 ([b.2.2.2.1], ())) fun b_7 =>
 Option.bind (F56 b.2.2.2.2) fun b_8 =>
 Option.bind
 (F116
 ([x_1.1, b_6.1,
 [Sx.byteOf (IntKind.wrap IntKind.u8 b.2.1),
 Sx.byteOf (IntKind.wrap IntKind.u8 b.2.2.1)],
 b_7.1, b_8.1],
 ()))
 fun b =>
 some (Sum.inl (b.1, wrap64 (x_1.2.1 + 1), ()))
 else
 Option.map Sum.inr
 (Option.bind (F117 (x.1.2.2.1.2.2.2.2.2.2.2.2.1, ()))
 fun b =>
 Option.bind (F117 (x.1.2.2.1.2.2.2.2.2.2.2.2.2.1, ()))
 fun b_6 =>
 Option.bind
 (F55
 ([x.1.2.2.1.2.2.2.2.2.2.2.2.2.2.1,
 x.1.2.2.1.2.2.2.2.2.2.2.2.2.2.2.1,
 x.1.2.2.1.2.2.2.2.2.2.2.2.2.2.2.2.1],
 ()))
 fun b_7 =>
 Option.bind
 (F60
 (x.1.2.2.1.2.2.2.2.2.2.2.2.2.2.2.2.2.1,
 ()))
 fun b_8 =>
 Option.bind
 (F118
 (x.1.2.2.1.2.2.2.2.2.2.2.2.2.2.2.2.2.2.1,
 ()))
 fun b_9 =>
 Option.bind
 (F119 x.1.2.2.1.2.2.2.2.2.2.2.2.2.2.2.2.2.2.2)
 fun b_10 =>
 Option.bind
 (F116
 ([x_1.1, b.1, b_6.1, b_7.1, b_8.1, b_9.1, b_10.1], ()))
 fun b => some b))
 big (b.1, 0, ())
def S46 : Sig := ⟨P46, R46, F46⟩
def E46 : Env := en 102 [(55, [S55]), (56, [S56]), (58, [S58]), (60, [S60]), (116, [S116]), (117, [S117]), (118, [S118]), (119, [S119])] [] [(4, mkLoop ⟨[⟨.slot 4, (.slice .u8), .own false⟩, ⟨.slot 45, (.int .i64), .pv⟩], [3, 44], [.site 1003000, .fld 1003000 0, .fld 1003000 1, .fld 1003000 2, .fld 1003000 3, .fld 1003000 4, .fld 1003000 5, .fld 1003000 6, .fld 1003000 7, .fld 1003000 8, .fld 1003000 9, .fld 1003000 10, .fld 1003000 11, .fld 1003000 12, .fld 1003000 13, .fld 1003000 14, .fld 1003000 15, .fld 1003000 16]⟩)]
theorem raw46_eq (x : T33D × Unit) : afun E46 Tryz.f46 P46 R46 x = F46 x := by kernel_rfl
-- decamp/decampref22.join
def F53 (x : List (List UInt8) × Unit) : Option T83D :=
 iterE (List UInt8 × Int × Unit) T83D
 (fun (x_1 : List UInt8 × Int × Unit) =>
 bif decide (x_1.2.1 < Int.ofNat (List.length x.1)) then
 Option.bind (idx x.1 x_1.2.1) fun b =>
 Option.bind (appU x_1.1 b) fun b =>
 some (Sum.inl (b, wrap64 (x_1.2.1 + 1), ()))
 else some (Sum.inr (x_1.1, ())))
 big ([], 0, ())
def S53 : Sig := ⟨P53, R53, F53⟩
def E53 : Env := en 18 [] [] [(3, mkLoop ⟨[⟨.slot 3, (.slice .u8), .own false⟩, ⟨.slot 7, (.int .i64), .pv⟩], [0, 6], []⟩)]
theorem raw53_eq (x : List (List UInt8) × Unit) : afun E53 Tryz.f53 P53 R53 x = F53 x := by kernel_rfl
-- decamp/decampref07.three
def F196 (x : Int × Int × T83D) : Option T83D :=
 Option.bind (F135 (x.1, ())) fun b =>
 Option.bind (F135 (x.2.1, ())) fun b_1 =>
 Option.bind (appU b.1 b_1.1) fun b =>
 Option.bind (F56 x.2.2) fun b_2 =>
 Option.bind (appU b b_2.1) fun b => some (b, ())
def S196 : Sig := ⟨P196, R196, F196⟩
def E196 : Env := en 16 [(56, [S56]), (135, [S135])] [] []
theorem raw196_eq (x : Int × Int × T83D) : afun E196 Tryz.f196 P196 R196 x = F196 x := by kernel_rfl
-- decamp/decampref07.Bytes
def F136 (x : T25D × Unit) : Option T83D :=
 Option.bind (F183 x) fun b =>
 bif !b.1 then Option.bind (mkO 0 20 20) fun b => some (b, ())
 else Option.bind (F196 x.1) fun b => some b
def S136 : Sig := ⟨P136, R136, F136⟩
def E136 : Env := en 14 [(183, [S183]), (196, [S196])] [] []
theorem raw136_eq (x : T25D × Unit) : afun E136 Tryz.f136 P136 R136 x = F136 x := by kernel_rfl
-- decamp/decampref07.SnapBytes
def F137 (x : T25D × Unit) : Option T83D :=
 Option.bind (F107 x) fun b =>
 bif !b.1 then Option.bind (mkO 0 20 20) fun b => some (b, ())
 else Option.bind (F196 x.1) fun b => some b
def S137 : Sig := ⟨P137, R137, F137⟩
def E137 : Env := en 14 [(107, [S107]), (196, [S196])] [] []
theorem raw137_eq (x : T25D × Unit) : afun E137 Tryz.f137 P137 R137 x = F137 x := by kernel_rfl
-- decamp/decampref11.Bytes
def F54 (x : T27D × Unit) : Option T83D :=
 Option.bind (F34 x) fun b =>
 bif !b.1 then some ([UInt8.ofNat 0], ())
 else
 iterE (List UInt8 × Int × Unit) T83D
 (fun (x_1 : List UInt8 × Int × Unit) =>
 bif decide (x_1.2.1 < 5) then
 bif decide (x_1.2.1 = Int.ofNat 0) then
 Option.bind (F135 (x.1.2.2.2.1, ())) fun b =>
 Option.bind (appU x_1.1 b.1) fun b =>
 some (Sum.inl (b, wrap64 (x_1.2.1 + 1), ()))
 else
 bif decide (x_1.2.1 = Int.ofNat (0 + 1)) then
 Option.bind (F135 (x.1.2.2.2.2.1, ())) fun b =>
 Option.bind (appU x_1.1 b.1) fun b =>
 some (Sum.inl (b, wrap64 (x_1.2.1 + 1), ()))
 else
 bif decide (x_1.2.1 = Int.ofNat (0 + 1 + 1)) then
 Option.bind (F135 (x.1.2.2.2.2.2.1, ())) fun b =>
 Option.bind (appU x_1.1 b.1) fun b =>
 some (Sum.inl (b, wrap64 (x_1.2.1 + 1), ()))
 else
 bif decide (x_1.2.1 = Int.ofNat (0 + 1 + 1 + 1)) then
 Option.bind (F135 (x.1.2.2.2.2.2.2.1, ())) fun b =>
 Option.bind (appU x_1.1 b.1) fun b =>
 some (Sum.inl (b, wrap64 (x_1.2.1 + 1), ()))
 else
 bif decide (x_1.2.1 = Int.ofNat (0 + 1 + 1 + 1 + 1)) then
 Option.bind (F135 (x.1.2.2.2.2.2.2.2.1, ()))
 fun b =>
 Option.bind (appU x_1.1 b.1) fun b =>
 some (Sum.inl (b, wrap64 (x_1.2.1 + 1), ()))
 else none
 else
 Option.map Sum.inr
 (Option.bind (F60 (x.1.2.2.2.2.2.2.2.2.1, ())) fun b =>
 Option.bind (appU x_1.1 b.1) fun b =>
 Option.bind (F58 (Int.ofNat (List.length x.1.2.2.2.2.2.2.2.2.2.1), ()))
 fun b_1 =>
 Option.bind (appU b b_1.1) fun b =>
 iterE (List UInt8 × Int × Unit) T83D
 (fun (x_2 : List UInt8 × Int × Unit) =>
 bif
 decide
 (x_2.2.1 <
 Int.ofNat (List.length x.1.2.2.2.2.2.2.2.2.2.1)) then
 Option.bind (idx x.1.2.2.2.2.2.2.2.2.2.1 x_2.2.1)
 fun b =>
 Option.bind (F136 (b, ())) fun b =>
 Option.bind (appU x_2.1 b.1) fun b =>
 some (Sum.inl (b, wrap64 (x_2.2.1 + 1), ()))
 else
 Option.map Sum.inr
 (bif decide (x.1.1 = 7) then
 Option.bind (F137 x.1.2.2.2.2.2.2.2.2.2.2)
 fun b =>
 Option.bind (appU x_2.1 b.1) fun b => some (b, ())
 else some (x_2.1, ())))
 big (b, 0, ())))
 big
 ([Sx.byteOf (IntKind.wrap IntKind.u8 x.1.1), Sx.byteOf (IntKind.wrap IntKind.u8 x.1.2.1),
 Sx.byteOf (IntKind.wrap IntKind.u8 x.1.2.2.1)],
 0, ())
def S54 : Sig := ⟨P54, R54, F54⟩
def E54 : Env := en 76 [(34, [S34]), (58, [S58]), (60, [S60]), (135, [S135]), (136, [S136]), (137, [S137])] [] [(6, mkLoop ⟨[⟨.slot 3, (.slice .u8), .own false⟩, ⟨.slot 32, (.int .i64), .pv⟩], [1, 4], [.site 4012000, .fld 4012000 0, .fld 4012000 1, .fld 4012000 2, .fld 4012000 3, .fld 4012000 4, .site 1000, .fld 1000 0, .fld 1000 1, .fld 1000 2, .fld 1000 3, .fld 1000 4, .fld 1000 5, .fld 1000 6, .fld 1000 7, .fld 1000 8, .fld 1000 9, .fld 1000 10]⟩), (12, mkLoop ⟨[⟨.slot 3, (.slice .u8), .own false⟩, ⟨.slot 55, (.int .i64), .pv⟩], [1, 54], [.site 1000, .fld 1000 0, .fld 1000 1, .fld 1000 2, .fld 1000 3, .fld 1000 4, .fld 1000 5, .fld 1000 6, .fld 1000 7, .fld 1000 8, .fld 1000 9, .fld 1000 10]⟩)]
theorem raw54_eq (x : T27D × Unit) : afun E54 Tryz.f54 P54 R54 x = F54 x := by kernel_rfl
-- decamp/decampref22.itemsBytes
def F59 (x : List T70D × Unit) : Option T83D :=
 Option.bind (F58 (Int.ofNat (List.length x.1), ())) fun b =>
 iterE (List UInt8 × Int × Unit) T83D
 (fun (x_1 : List UInt8 × Int × Unit) =>
 bif decide (x_1.2.1 < Int.ofNat (List.length x.1)) then
 Option.bind (idx x.1 x_1.2.1)
 fun b =>
 Option.bind (F139 (b, ())) fun b =>
 Option.bind (appU x_1.1 b.1) fun b =>
 some (Sum.inl (b, wrap64 (x_1.2.1 + 1), ()))
 else some (Sum.inr (x_1.1, ())))
 big (b.1, 0, ())
def S59 : Sig := ⟨P59, R59, F59⟩
def E59 : Env := en 22 [(58, [S58]), (139, [S139])] [] [(3, mkLoop ⟨[⟨.slot 3, (.slice .u8), .own false⟩, ⟨.slot 10, (.int .i64), .pv⟩], [0, 9], []⟩)]
theorem raw59_eq (x : List T70D × Unit) : afun E59 Tryz.f59 P59 R59 x = F59 x := by kernel_rfl
-- decamp/decampref17.HandBytes
def F61 (x : T55D × Unit) : Option T83D :=
 Option.bind
 (Option.bind (F44 x) fun b =>
 bif !b.1 then some (Sum.inl (0, 0, [], [], ())) else some (Sum.inl x.1))
 fun o =>
 Sum.elim
 (fun (x :
 Int × Int × List (Int × Int × (Int × Int × Bool × Int × List T70D × Int × Int × Unit) × Unit) × List T113D × Unit) =>
 Option.bind (F55 ([x.1, x.2.1], ())) fun b =>
 Option.bind (F119 x.2.2) fun b_1 =>
 Option.bind (F116 ([b.1, b_1.1], ())) fun b => some b)
 (fun (val : T83D) => some val) o
def S61 : Sig := ⟨P61, R61, F61⟩
def E61 : Env := en 20 [(44, [S44]), (55, [S55]), (116, [S116]), (119, [S119])] [(3, ⟨[⟨.fld 1000 0, (.int .i64), .pv⟩, ⟨.fld 1000 1, (.int .i64), .pv⟩, ⟨.fld 1000 2, (.slice T94), .pv⟩, ⟨.fld 1000 3, (.slice T113), .pv⟩], [1], [.site 1000]⟩)] []
theorem raw61_eq (x : T55D × Unit) : afun E61 Tryz.f61 P61 R61 x = F61 x := by kernel_rfl
-- decamp/decampref17.MoveBytes
def F62 (x : T53D × Unit) : Option T83D :=
 Option.bind
 (Option.bind (F45 x) fun b =>
 bif !b.1 then some (Sum.inl (0, 0, 0, [], [], 0, [], 0, 0, 0, ())) else some (Sum.inl x.1))
 fun o =>
 Sum.elim
 (fun (x : T53D) =>
 Option.bind (F55 ([x.2.1, x.2.2.1], ())) fun b =>
 Option.bind (F56 (x.2.2.2.1, ())) fun b_1 =>
 Option.bind (F56 (x.2.2.2.2.1, ())) fun b_2 =>
 Option.bind (F55 ([x.2.2.2.2.2.1], ())) fun b_3 =>
 Option.bind (F56 (x.2.2.2.2.2.2.1, ())) fun b_4 =>
 Option.bind
 (F55
 ([x.2.2.2.2.2.2.2.1, x.2.2.2.2.2.2.2.2.1,
 x.2.2.2.2.2.2.2.2.2.1],
 ()))
 fun b_5 =>
 Option.bind
 (F116
 ([[Sx.byteOf (IntKind.wrap IntKind.u8 x.1)], b.1, b_1.1, b_2.1, b_3.1, b_4.1,
 b_5.1],
 ()))
 fun b => some b)
 (fun (val : T83D) => some val) o
def S62 : Sig := ⟨P62, R62, F62⟩
def E62 : Env := en 40 [(45, [S45]), (55, [S55]), (56, [S56]), (116, [S116])] [(3, ⟨[⟨.fld 1000 0, (.int .i64), .pv⟩, ⟨.fld 1000 1, (.int .i64), .pv⟩, ⟨.fld 1000 2, (.int .i64), .pv⟩, ⟨.fld 1000 3, .str, .pv⟩, ⟨.fld 1000 4, .str, .pv⟩, ⟨.fld 1000 5, (.int .i64), .pv⟩, ⟨.fld 1000 6, .str, .pv⟩, ⟨.fld 1000 7, (.int .i64), .pv⟩, ⟨.fld 1000 8, (.int .i64), .pv⟩, ⟨.fld 1000 9, (.int .i64), .pv⟩], [1], [.site 1000]⟩)] []
theorem raw62_eq (x : T53D × Unit) : afun E62 Tryz.f62 P62 R62 x = F62 x := by kernel_rfl
-- decamp/decampref22.Bytes
def F14 (x : TMD × Unit) : Option T83D :=
 bif decide (x.1.1 = 1) then
 Option.bind (F54 (x.1.2.2.1, ())) fun b =>
 Option.bind (F53 ([[UInt8.ofNat 1], b.1], ())) fun b => some b
 else
 Option.bind (F55 ([x.1.2.1], ())) fun b =>
 Option.bind (F53 ([[Sx.byteOf (IntKind.wrap IntKind.u8 x.1.1)], b.1], ()))
 fun b =>
 Option.bind (F56 (x.1.2.2.2.2.2.1, ())) fun b_1 =>
 Option.bind (F56 (x.1.2.2.2.2.2.2.1, ())) fun b_2 =>
 bif decide (x.1.1 = 2) then
 Option.bind (F46 (x.1.2.2.2.1, ())) fun b_3 =>
 Option.bind (F56 b_3) fun b_4 =>
 Option.bind (F53 ([b.1, b_4.1], ())) fun b => some b
 else
 bif decide (x.1.1 = 3) then
 Option.bind (F55 ([x.1.2.2.2.2.1], ())) fun b_3 =>
 Option.bind
 (F55
 ([x.1.2.2.2.2.2.2.2.1, x.1.2.2.2.2.2.2.2.2.1], ()))
 fun b_4 =>
 Option.bind (F53 ([b.1, b_3.1, b_1.1, b_2.1, b_4.1], ()))
 fun b => some b
 else
 bif decide (x.1.1 = 4) then
 Option.bind (F55 ([x.1.2.2.2.2.1], ())) fun b_3 =>
 Option.bind (F55 ([x.1.2.2.2.2.2.2.2.1], ()))
 fun b_4 =>
 Option.bind (F53 ([b.1, b_3.1, b_1.1, b_2.1, b_4.1], ()))
 fun b => some b
 else
 bif decide (x.1.1 = 5) then
 Option.bind (F55 ([x.1.2.2.2.2.2.2.2.1], ()))
 fun b_3 =>
 Option.bind (F53 ([b.1, b_1.1, b_2.1, b_3.1], ())) fun b =>
 some b
 else
 bif decide (x.1.1 = 6) then
 Option.bind (F55 ([x.1.2.2.2.2.2.2.2.1], ()))
 fun b_3 =>
 Option.bind (F53 ([b.1, b_3.1], ())) fun b => some b
 else
 bif decide (x.1.1 = 8) then
 Option.bind
 (F55
 ([x.1.2.2.2.2.2.2.2.2.2.1,
 x.1.2.2.2.2.2.2.2.2.2.2.1],
 ()))
 fun b_3 =>
 Option.bind (F57 (x.1.2.2.2.2.2.2.2.2.2.2.2.1, ()))
 fun b_4 =>
 Option.bind (F53 ([b.1, b_3.1, b_4.1], ())) fun b =>
 some b
 else
 bif decide (x.1.1 = 9) then
 Option.bind
 (F55
 ([x.1.2.2.2.2.2.2.2.2.2.1, x.1.2.2.2.2.2.2.2.1],
 ()))
 fun b_3 =>
 Option.bind
 (F58
 (Int.ofNat (List.length x.1.2.2.2.2.2.2.2.2.2.2.2.2.1),
 ()))
 fun b_4 =>
 Option.bind (F53 ([b.1, b_3.1, b_4.1], ())) fun b =>
 iterE (List UInt8 × Int × Unit) T83D
 (fun (x_1 : List UInt8 × Int × Unit) =>
 bif
 decide
 (x_1.2.1 <
 Int.ofNat
 (List.length
 x.1.2.2.2.2.2.2.2.2.2.2.2.2.1)) then
 Option.bind
 (idx x.1.2.2.2.2.2.2.2.2.2.2.2.2.1 x_1.2.1)
 fun b =>
 Option.bind (F55 ([b.1], ())) fun b =>
 Option.bind
 (idx x.1.2.2.2.2.2.2.2.2.2.2.2.2.1 x_1.2.1)
 fun b_5 =>
 Option.bind (F59 b_5.2) fun b_6 =>
 Option.bind (F53 ([x_1.1, b.1, b_6.1], ()))
 fun b =>
 some
 (Sum.inl
 (b.1, wrap64 (x_1.2.1 + 1), ()))
 else some (Sum.inr (x_1.1, ())))
 big (b.1, 0, ())
 else
 bif decide (x.1.1 = 10) then
 Option.bind (F55 ([x.1.2.2.2.2.2.2.2.2.2.1], ()))
 fun b_3 =>
 Option.bind
 (F60 (x.1.2.2.2.2.2.2.2.2.2.2.2.2.2.2.1, ()))
 fun b_4 =>
 Option.bind
 (F59 (x.1.2.2.2.2.2.2.2.2.2.2.2.2.2.1, ()))
 fun b_5 =>
 Option.bind (F53 ([b.1, b_3.1, b_4.1, b_5.1], ()))
 fun b => some b
 else
 bif decide (x.1.1 = 11) then
 Option.bind
 (F43
 (x.1.2.2.2.2.2.2.2.2.2.2.2.2.2.2.2.1, ()))
 fun b_3 =>
 bif b_3.1 then
 Option.bind (F55 ([x.1.2.2.2.2.2.2.2.2.2.1], ()))
 fun b_4 =>
 Option.bind (F53 ([b.1, b_4.1, [UInt8.ofNat 0]], ()))
 fun b => some b
 else
 Option.bind (F55 ([x.1.2.2.2.2.2.2.2.2.2.1], ()))
 fun b_4 =>
 Option.bind
 (F61
 (x.1.2.2.2.2.2.2.2.2.2.2.2.2.2.2.2.1,
 ()))
 fun b_5 =>
 Option.bind (F53 ([b.1, b_4.1, [UInt8.ofNat 1], b_5.1], ()))
 fun b => some b
 else
 bif decide (x.1.1 = 12) then
 Option.bind (F55 ([x.1.2.2.2.2.2.2.2.1], ()))
 fun b_3 =>
 Option.bind
 (F62 x.1.2.2.2.2.2.2.2.2.2.2.2.2.2.2.2.2)
 fun b_4 =>
 Option.bind (F53 ([b.1, b_3.1, b_4.1], ()))
 fun b => some b
 else some b
def S14 : Sig := ⟨P14, R14, F14⟩
def E14 : Env := en 203 [(43, [S43]), (46, [S46]), (53, [S53]), (54, [S54]), (55, [S55]), (56, [S56]), (57, [S57]), (58, [S58]), (59, [S59]), (60, [S60]), (61, [S61]), (62, [S62])] [] [(21, mkLoop ⟨[⟨.slot 3, (.slice .u8), .own false⟩, ⟨.slot 128, (.int .i64), .pv⟩], [1, 127], [.site 1000, .fld 1000 0, .fld 1000 1, .fld 1000 2, .fld 1000 3, .fld 1000 4, .fld 1000 5, .fld 1000 6, .fld 1000 7, .fld 1000 8, .fld 1000 9, .fld 1000 10, .fld 1000 11, .fld 1000 12, .fld 1000 13, .fld 1000 14, .fld 1000 15, .fld 1000 16]⟩)]
theorem raw14_eq (x : TMD × Unit) : afun E14 Tryz.f14 P14 R14 x = F14 x := by kernel_rfl
-- decamp/decampref22.Long
def F12 (x : TMD × Unit) : Option (Bool × Unit) :=
 bif decide (x.1.1 = 2) then
 Option.bind (F46 (x.1.2.2.2.1, ())) fun b =>
 bif decide (12000 < Int.ofNat (List.length b.1)) then some (true, ())
 else
 Option.bind (F14 x) fun b =>
 some (decide (60000 < Int.ofNat (List.length b.1)), ())
 else
 Option.bind (F14 x) fun b =>
 some (decide (60000 < Int.ofNat (List.length b.1)), ())
def S12 : Sig := ⟨P12, R12, F12⟩
def E12 : Env := en 19 [(14, [S14]), (46, [S46])] [] []
theorem raw12_eq (x : TMD × Unit) : afun E12 Tryz.f12 P12 R12 x = F12 x := by kernel_rfl
-- decamp/decamplaw11.Of
def F69 (x : T27D × Unit) : Option (T27D × Unit) :=
 some x
def S69 : Sig := ⟨P69, R69, F69⟩
def E69 : Env := en 4 [] [] []
theorem raw69_eq (x : T27D × Unit) : afun E69 Tryz.f69 P69 R69 x = F69 x := by kernel_rfl
-- decamp/decamplaw22.Of
def F16 (x : TMD × Unit) : Option (TMD × Unit) :=
 Option.bind (F69 (x.1.2.2.1, ()))
 fun b =>
 some ((x.1.1, x.1.2.1, b.1, x.1.2.2.2), ())
def S16 : Sig := ⟨P16, R16, F16⟩
def E16 : Env := en 47 [(69, [S69])] [] []
theorem raw16_eq (x : TMD × Unit) : afun E16 Tryz.f16 P16 R16 x = F16 x := by kernel_rfl
-- decamp/decamplaw22.TalkEncodes
def F3 (x : TMD × Unit) : Option (Bool × Unit) :=
 Option.bind (F7 ()) fun b =>
 bif !b.1 then Option.bind (F7 ()) fun b => some b
 else
 Option.bind (F8 x) fun b =>
 bif !b.1 then Option.bind (F7 ()) fun b => some b
 else
 Option.bind (F10 x)
 fun b =>
 Option.bind (F9 b) fun b =>
 Option.bind (F11 x) fun b_1 =>
 bif !b_1.1 then
 bif decide (b.2.1 = 1) then some (decide (Int.ofNat (List.length b.1) = 0), ())
 else some (false, ())
 else
 Option.bind (F12 x) fun b_2 =>
 bif b_2.1 then
 bif decide (b.2.1 = 3) then some (decide (Int.ofNat (List.length b.1) = 0), ())
 else some (false, ())
 else
 Option.bind (F13 (b.1, ()))
 fun b_3 =>
 bif decide (b.2.1 = 0) then
 Option.bind (F14 x) fun b_4 =>
 bif decide (b.1 = b_4.1) then
 bif decide (b_3.2.1 = 0) then
 Option.bind (F16 (b_3.1, ()))
 fun b =>
 Option.bind (F15 (b.1, x)) fun b => some b
 else some (false, ())
 else some (false, ())
 else some (false, ())
def S3 : Sig := ⟨P3, R3, F3⟩
def E3 : Env := en 65 [(7, [S7]), (8, [S8]), (9, [S9]), (10, [S10]), (11, [S11]), (12, [S12]), (13, [S13]), (14, [S14]), (15, [S15]), (16, [S16])] [] []
theorem raw3_eq (x : TMD × Unit) : afun E3 Tryz.f3 P3 R3 x = F3 x := by kernel_rfl
-- decamp/decamplaw22.TalkDecodes
-- decamp/talk.Answer
-- decamp/decampref22.Answer
-- decamp/decamplaw22.TalkRight
-- slices.Clone[[]decamp/api.Entry,decamp/api.Entry]
-- slices.Clone[[]byte,byte]
-- decamp/talk.cloneRaft
-- slices.Clone[[]decamp/api.Item,decamp/api.Item]
-- decamp/talk.cloneReply
-- slices.Clone[[]decamp/api.Sess,decamp/api.Sess]
-- decamp/talk.cloneSess
-- slices.Clone[[]decamp/api.Lease,decamp/api.Lease]
-- slices.Clone[[]decamp/api.Cmp,decamp/api.Cmp]
-- slices.Clone[[]decamp/api.Op,decamp/api.Op]
-- decamp/talk.cloneCmd
-- slices.Clone[[]decamp/api.Batch,decamp/api.Batch]
-- decamp/talk.Clone
-- decamp/decamplaw22.spoil
-- decamp/decamplaw22.TalkClones
end
end Go.Proofs.YteebpcpkhojfkaaGreat
