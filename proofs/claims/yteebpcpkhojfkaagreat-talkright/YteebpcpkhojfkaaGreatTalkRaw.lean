/-
  Talk: by a program of the bench (seat.py).
-/
import Derived.Test.YteebpcpkhojfkaaGreatTalkRawA
namespace Go.Proofs.YteebpcpkhojfkaaGreat
open Go.Sx Go
set_option maxRecDepth 100000
noncomputable section
-- bytes.Equal
def F194 (x : T131D × Unit) : Option (T70D × T131D × Unit) :=
 Option.bind (F130 (x.fst, 60000, ())) fun b =>
 Option.bind (F225 b.snd)
 fun b_1 =>
 Option.bind (F125 b_1.snd) fun b_2 =>
 bif b_2.fst then
 Option.bind (F126 b_2.snd) fun b =>
 some (([], (0, 0, 0, 0, [], 0, false, ()), ()), b)
 else
 Option.bind (F219 ((b.fst, b_1.fst, ()), ())) fun b_3 =>
 bif !b_3.fst then
 Option.bind (F126 b_2.snd) fun b =>
 some (([], (0, 0, 0, 0, [], 0, false, ()), ()), b)
 else some ((b.fst, b_1.fst, ()), b_2.snd)
def S194 : Sig := ⟨P194, R194, F194⟩
noncomputable def E194 : Env := { tab := tab, nt := 20, Γ := lookG [(125, [S125]), (126, [S126]), (130, [S130]), (219, [S219]), (225, [S225])], joins := lookN [], loops := lookN [] }
theorem raw194_eq (x : T131D × Unit) : afun E194 Tryz.f194 P194 R194 x = F194 x := by kernel_rfl
-- decamp/cmd.getItems
def F193 (x : T131D × Unit) : Option (List T70D × T131D × Unit) :=
 Option.bind (F122 (x.fst, 60000, ())) fun b =>
 iterE
 (List T70D × Int × T131D)
 (List T70D × T131D × Unit)
 (fun (x :
 List T70D × Int × T131D) =>
 bif decide (x.snd.fst < b.fst) then
 Option.bind (F194 (x.snd.snd, ()))
 fun b =>
 Option.bind (appO x.fst [b.fst])
 fun b_1 =>
 some (Sum.inl (b_1, wrap64 (x.snd.fst + 1), b.snd.fst))
 else some (Sum.inr (x.fst, x.snd.snd, ())))
 big ([], 0, b.snd.fst)
def S193 : Sig := ⟨P193, R193, F193⟩
noncomputable def E193 : Env := { tab := tab, nt := 15, Γ := lookG [(122, [S122]), (194, [S194])], joins := lookN [], loops := lookN [(3, mkLoop ⟨[⟨.slot 3, (.slice T70), .own false⟩, ⟨.slot 6, (.int .i64), .pv⟩, ⟨.fld 0 0, (.slice .u8), .pv⟩, ⟨.fld 0 1, .bool, .pv⟩], [0, 5], [.site 0]⟩)] }
theorem raw193_eq (x : T131D × Unit) : afun E193 Tryz.f193 P193 R193 x = F193 x := by kernel_rfl
-- decamp/cmd.GetReply
def F131 (x : T131D × Unit) : Option (T51D × T131D × Unit) :=
 Option.bind (F48 x) fun b =>
 Option.bind (F50 b.snd) fun b_1 =>
 Option.bind (F121 b_1.snd) fun b_2 =>
 Option.bind (F50 b_2.snd) fun b_3 =>
 Option.bind (F193 b_3.snd)
 fun b_4 =>
 Option.bind (F48 b_4.snd) fun b_5 =>
 Option.bind (F50 b_5.snd) fun b_6 =>
 Option.bind (F125 b_6.snd) fun b_7 =>
 bif b_7.fst then
 Option.bind (F126 b_7.snd) fun b =>
 some ((0, 0, false, 0, [], 0, 0, ()), b)
 else
 Option.bind
 (F154
 ((wrap64 (intOf8 b.fst), b_1.fst, b_2.fst, b_3.fst, b_4.fst,
 wrap64 (intOf8 b_5.fst), b_6.fst, ()),
 ()))
 fun b_8 =>
 bif !b_8.fst then
 Option.bind (F126 b_7.snd) fun b =>
 some ((0, 0, false, 0, [], 0, 0, ()), b)
 else
 some
 ((wrap64 (intOf8 b.fst), b_1.fst, b_2.fst, b_3.fst, b_4.fst,
 wrap64 (intOf8 b_5.fst), b_6.fst, ()),
 b_7.snd)
def S131 : Sig := ⟨P131, R131, F131⟩
noncomputable def E131 : Env := { tab := tab, nt := 32, Γ := lookG [(48, [S48]), (50, [S50, S50a]), (121, [S121]), (125, [S125]), (126, [S126]), (154, [S154]), (193, [S193])], joins := lookN [], loops := lookN [] }
theorem raw131_eq (x : T131D × Unit) : afun E131 Tryz.f131 P131 R131 x = F131 x := by kernel_rfl
-- decamp/cmd.getHanded
def F195 (x : T131D × Unit) : Option (List T94D × List T113D × T131D × Unit) :=
 Option.bind (F122 (x.fst, 60000, ())) fun b =>
 iterE
 (List
 (Int × Int × (Int × Int × Bool × Int × List T70D × Int × Int × Unit) × Unit) × Int × T131D)
 (List
 (Int × Int × (Int × Int × Bool × Int × List T70D × Int × Int × Unit) × Unit) × List T113D × T131D × Unit)
 (fun (x :
 List
 (Int × Int × (Int × Int × Bool × Int × List T70D × Int × Int × Unit) × Unit) × Int × T131D) =>
 bif decide (x.snd.fst < b.fst) then
 Option.bind (F50 (x.snd.snd, ())) fun b =>
 Option.bind (F50 b.snd) fun b_1 =>
 Option.bind (F131 b_1.snd)
 fun b_2 =>
 Option.bind (appM x.fst [(b.fst, b_1.fst, b_2.fst, ())])
 fun b =>
 some (Sum.inl (b, wrap64 (x.snd.fst + 1), b_2.snd.fst))
 else
 Option.map Sum.inr
 (Option.bind (F122 (x.snd.snd, 60000, ())) fun b =>
 iterE (List T113D × Int × T131D)
 (List
 (Int × Int × (Int × Int × Bool × Int × List
 T70D × Int × Int × Unit) × Unit) × List T113D × T131D × Unit)
 (fun (x_1 : List T113D × Int × T131D) =>
 bif decide (x_1.snd.fst < b.fst) then
 Option.bind (F50 (x_1.snd.snd, ())) fun b =>
 Option.bind (F50 b.snd) fun b_1 =>
 Option.bind (F50 b_1.snd) fun b_2 =>
 Option.bind (appO x_1.fst [(b.fst, b_1.fst, b_2.fst, ())])
 fun b =>
 some (Sum.inl (b, wrap64 (x_1.snd.fst + 1), b_2.snd.fst))
 else some (Sum.inr (x.fst, x_1.fst, x_1.snd.snd, ())))
 big ([], 0, b.snd.fst)))
 big ([], 0, b.snd.fst)
def S195 : Sig := ⟨P195, R195, F195⟩
noncomputable def E195 : Env := { tab := tab, nt := 38, Γ := lookG [(50, [S50, S50a]), (122, [S122]), (131, [S131])], joins := lookN [], loops := lookN [(3, mkLoop ⟨[⟨.slot 4, (.slice T94), .own false⟩, ⟨.slot 8, (.int .i64), .pv⟩, ⟨.fld 0 0, (.slice .u8), .pv⟩, ⟨.fld 0 1, .bool, .pv⟩], [0, 7], [.site 0]⟩), (8, mkLoop ⟨[⟨.slot 5, (.slice T113), .own false⟩, ⟨.slot 23, (.int .i64), .pv⟩, ⟨.fld 0 0, (.slice .u8), .pv⟩, ⟨.fld 0 1, .bool, .pv⟩], [0, 4, 22], [.row 50003000, .site 0]⟩)] }
theorem raw195_eq (x : T131D × Unit) : afun E195 Tryz.f195 P195 R195 x = F195 x := by kernel_rfl
-- decamp/cmd.getCmps
def F223 (x : T131D × Unit) : Option (List T96D × T131D × Unit) :=
 Option.bind (F122 (x.fst, 60000, ())) fun b =>
 iterE (List T96D × Int × T131D)
 (List T96D × T131D × Unit)
 (fun (x : List T96D × Int × T131D) =>
 bif decide (x.snd.fst < b.fst) then
 Option.bind (F130 (x.snd.snd, 60000, ()))
 fun b =>
 Option.bind (F48 b.snd) fun b_1 =>
 Option.bind (F48 b_1.snd) fun b_2 =>
 Option.bind (F50 b_2.snd) fun b_3 =>
 Option.bind (F130 (b_3.snd.fst, 60000, ()))
 fun b_4 =>
 Option.bind
 (appO x.fst
 [(b.fst, wrap64 (intOf8 b_1.fst), wrap64 (intOf8 b_2.fst),
 b_3.fst, b_4.fst, ())])
 fun b =>
 some (Sum.inl (b, wrap64 (x.snd.fst + 1), b_4.snd.fst))
 else some (Sum.inr (x.fst, x.snd.snd, ())))
 big ([], 0, b.snd.fst)
def S223 : Sig := ⟨P223, R223, F223⟩
noncomputable def E223 : Env := { tab := tab, nt := 26, Γ := lookG [(48, [S48]), (50, [S50, S50a]), (122, [S122]), (130, [S130])], joins := lookN [], loops := lookN [(3, mkLoop ⟨[⟨.slot 3, (.slice T96), .own false⟩, ⟨.slot 6, (.int .i64), .pv⟩, ⟨.fld 0 0, (.slice .u8), .pv⟩, ⟨.fld 0 1, .bool, .pv⟩], [0, 5], [.site 0]⟩)] }
theorem raw223_eq (x : T131D × Unit) : afun E223 Tryz.f223 P223 R223 x = F223 x := by kernel_rfl
-- decamp/cmd.getOps
def F224 (x : T131D × Unit) : Option (List T48D × T131D × Unit) :=
 Option.bind (F122 (x.fst, 60000, ())) fun b =>
 iterE (List T48D × Int × T131D)
 (List T48D × T131D × Unit)
 (fun (x : List T48D × Int × T131D) =>
 bif decide (x.snd.fst < b.fst) then
 Option.bind (F48 (x.snd.snd, ())) fun b =>
 Option.bind (F130 (b.snd.fst, 60000, ()))
 fun b_1 =>
 Option.bind (F130 (b_1.snd.fst, 60000, ()))
 fun b_2 =>
 Option.bind (F130 (b_2.snd.fst, 60000, ()))
 fun b_3 =>
 Option.bind (F50 b_3.snd) fun b_4 =>
 Option.bind
 (appO x.fst
 [(wrap64 (intOf8 b.fst), b_1.fst, b_2.fst, b_3.fst, b_4.fst, ())])
 fun b =>
 some (Sum.inl (b, wrap64 (x.snd.fst + 1), b_4.snd.fst))
 else some (Sum.inr (x.fst, x.snd.snd, ())))
 big ([], 0, b.snd.fst)
def S224 : Sig := ⟨P224, R224, F224⟩
noncomputable def E224 : Env := { tab := tab, nt := 25, Γ := lookG [(48, [S48]), (50, [S50, S50a]), (122, [S122]), (130, [S130])], joins := lookN [], loops := lookN [(3, mkLoop ⟨[⟨.slot 3, (.slice T48), .own false⟩, ⟨.slot 6, (.int .i64), .pv⟩, ⟨.fld 0 0, (.slice .u8), .pv⟩, ⟨.fld 0 1, .bool, .pv⟩], [0, 5], [.site 0]⟩)] }
theorem raw224_eq (x : T131D × Unit) : afun E224 Tryz.f224 P224 R224 x = F224 x := by kernel_rfl
-- decamp/cmd.getCmd
def F192 (x : T131D × Unit) : Option (T28D × T131D × Unit) :=
 Option.bind (F48 x) fun b =>
 Option.bind (F130 (b.snd.fst, 60000, ())) fun b_1 =>
 Option.bind (F130 (b_1.snd.fst, 60000, ()))
 fun b_2 =>
 Option.bind (F130 (b_2.snd.fst, 60000, ()))
 fun b_3 =>
 Option.bind (F50 b_3.snd) fun b_4 =>
 Option.bind (F50 b_4.snd) fun b_5 =>
 Option.bind (F50 b_5.snd) fun b_6 =>
 Option.bind (F223 b_6.snd)
 fun b_7 =>
 Option.bind (F224 b_7.snd)
 fun b_8 =>
 Option.bind (F224 b_8.snd)
 fun b_9 =>
 Option.bind (F50 b_9.snd) fun b_10 =>
 Option.bind (F50 b_10.snd) fun b_11 =>
 Option.bind (F50 b_11.snd) fun b_12 =>
 Option.bind (F121 b_12.snd) fun b_13 =>
 Option.bind (F193 b_13.snd)
 fun b_14 =>
 Option.bind (F195 b_14.snd)
 fun b_15 =>
 some
 ((wrap64 (intOf8 b.fst), b_1.fst, b_2.fst, b_3.fst, b_4.fst,
 b_5.fst, b_6.fst, b_7.fst, b_8.fst, b_9.fst, b_10.fst, b_11.fst, b_12.fst,
 b_13.fst, b_14.fst, b_15.fst, b_15.snd.fst, ()),
 b_15.snd.snd)
def S192 : Sig := ⟨P192, R192, F192⟩
noncomputable def E192 : Env := { tab := tab, nt := 52, Γ := lookG [(48, [S48]), (50, [S50, S50a]), (121, [S121]), (130, [S130]), (193, [S193]), (195, [S195]), (223, [S223]), (224, [S224])], joins := lookN [], loops := lookN [] }
theorem raw192_eq (x : T131D × Unit) : afun E192 Tryz.f192 P192 R192 x = F192 x := by kernel_rfl
-- decamp/cmd.Decode
def F128 (x : List UInt8 × Unit) : Option (T33D × Int × Unit) :=
 Option.bind (F47 x) fun b =>
 Option.bind (F50 b) fun b =>
 Option.bind (F50 b.snd) fun b_1 =>
 Option.bind (F192 b_1.snd)
 fun b_2 =>
 bif decide (12000 < Int.ofNat (List.length x.fst)) then
 some
 ((0, 0, (0, [], [], [], 0, 0, 0, [], [], [], 0, 0, 0, false, [], [], [], ()), ()), 2,
 ())
 else
 Option.bind (F52 b_2.snd) fun b_3 =>
 bif !b_3.fst then
 some
 ((0, 0, (0, [], [], [], 0, 0, 0, [], [], [], 0, 0, 0, false, [], [], [], ()), ()), 2,
 ())
 else
 Option.bind (F94 ((b.fst, b_1.fst, b_2.fst, ()), ())) fun b_4 =>
 bif !b_4.fst then
 some
 ((0, 0, (0, [], [], [], 0, 0, 0, [], [], [], 0, 0, 0, false, [], [], [], ()), ()),
 2, ())
 else some ((b.fst, b_1.fst, b_2.fst, ()), 0, ())
def S128 : Sig := ⟨P128, R128, F128⟩
noncomputable def E128 : Env := { tab := tab, nt := 30, Γ := lookG [(47, [S47]), (50, [S50, S50a]), (52, [S52]), (94, [S94]), (192, [S192])], joins := lookN [], loops := lookN [] }
theorem raw128_eq (x : List UInt8 × Unit) : afun E128 Tryz.f128 P128 R128 x = F128 x := by kernel_rfl
-- decamp/talk.getItems
def F132 (x : T131D × Unit) : Option (List T70D × T131D × Unit) :=
 Option.bind (F122 (x.fst, 60000, ())) fun b =>
 iterE
 (List T70D × Int × T131D)
 (List T70D × T131D × Unit)
 (fun (x :
 List T70D × Int × T131D) =>
 bif decide (x.snd.fst < b.fst) then
 Option.bind (F194 (x.snd.snd, ()))
 fun b =>
 Option.bind (appO x.fst [b.fst])
 fun b_1 =>
 some (Sum.inl (b_1, wrap64 (x.snd.fst + 1), b.snd.fst))
 else some (Sum.inr (x.fst, x.snd.snd, ())))
 big ([], 0, b.snd.fst)
def S132 : Sig := ⟨P132, R132, F132⟩
noncomputable def E132 : Env := { tab := tab, nt := 15, Γ := lookG [(122, [S122]), (194, [S194])], joins := lookN [], loops := lookN [(3, mkLoop ⟨[⟨.slot 3, (.slice T70), .own false⟩, ⟨.slot 6, (.int .i64), .pv⟩, ⟨.fld 0 0, (.slice .u8), .pv⟩, ⟨.fld 0 1, .bool, .pv⟩], [0, 5], [.site 0]⟩)] }
theorem raw132_eq (x : T131D × Unit) : afun E132 Tryz.f132 P132 R132 x = F132 x := by kernel_rfl
-- decamp/cmd.GetHand
def F133 (x : T131D × Unit) : Option (T55D × T131D × Unit) :=
 Option.bind (F50 x) fun b =>
 Option.bind (F50 b.snd) fun b_1 =>
 Option.bind (F195 b_1.snd)
 fun b_2 =>
 Option.bind (F125 b_2.snd.snd) fun b_3 =>
 bif b_3.fst then
 Option.bind (F126 b_3.snd) fun b =>
 some ((0, 0, [], [], ()), b)
 else
 Option.bind (F157 ((b.fst, b_1.fst, b_2.fst, b_2.snd.fst, ()), ()))
 fun b_4 =>
 bif !b_4.fst then
 Option.bind (F126 b_3.snd) fun b =>
 some ((0, 0, [], [], ()), b)
 else some ((b.fst, b_1.fst, b_2.fst, b_2.snd.fst, ()), b_3.snd)
def S133 : Sig := ⟨P133, R133, F133⟩
noncomputable def E133 : Env := { tab := tab, nt := 27, Γ := lookG [(50, [S50, S50a]), (125, [S125]), (126, [S126]), (157, [S157]), (195, [S195])], joins := lookN [], loops := lookN [] }
theorem raw133_eq (x : T131D × Unit) : afun E133 Tryz.f133 P133 R133 x = F133 x := by kernel_rfl
-- decamp/cmd.GetMove
def F134 (x : T131D × Unit) : Option (T53D × T131D × Unit) :=
 Option.bind (F48 x) fun b =>
 Option.bind (F50 b.snd) fun b_1 =>
 Option.bind (F50 b_1.snd) fun b_2 =>
 Option.bind (F130 (b_2.snd.fst, 60000, ()))
 fun b_3 =>
 Option.bind (F130 (b_3.snd.fst, 60000, ()))
 fun b_4 =>
 Option.bind (F50 b_4.snd) fun b_5 =>
 Option.bind (F130 (b_5.snd.fst, 60000, ()))
 fun b_6 =>
 Option.bind (F50 b_6.snd) fun b_7 =>
 Option.bind (F50 b_7.snd) fun b_8 =>
 Option.bind (F50 b_8.snd) fun b_9 =>
 Option.bind (F125 b_9.snd) fun b_10 =>
 bif b_10.fst then
 Option.bind (F126 b_10.snd) fun b =>
 some ((0, 0, 0, [], [], 0, [], 0, 0, 0, ()), b)
 else
 Option.bind
 (F158
 ((wrap64 (intOf8 b.fst), b_1.fst, b_2.fst, b_3.fst, b_4.fst, b_5.fst,
 b_6.fst, b_7.fst, b_8.fst, b_9.fst, ()),
 ()))
 fun b_11 =>
 bif !b_11.fst then
 Option.bind (F126 b_10.snd) fun b =>
 some ((0, 0, 0, [], [], 0, [], 0, 0, 0, ()), b)
 else
 some
 ((wrap64 (intOf8 b.fst), b_1.fst, b_2.fst, b_3.fst, b_4.fst, b_5.fst,
 b_6.fst, b_7.fst, b_8.fst, b_9.fst, ()),
 b_10.snd)
def S134 : Sig := ⟨P134, R134, F134⟩
noncomputable def E134 : Env := { tab := tab, nt := 37, Γ := lookG [(48, [S48]), (50, [S50, S50a]), (125, [S125]), (126, [S126]), (130, [S130]), (158, [S158])], joins := lookN [], loops := lookN [] }
theorem raw134_eq (x : T131D × Unit) : afun E134 Tryz.f134 P134 R134 x = F134 x := by kernel_rfl
-- decamp/talk.get
def F51 (x : T131D × TMD × Unit) : Option (T131D × TMD × Unit) :=
 bif decide (x.snd.fst.fst = 2) then
 Option.bind (F129 (x.fst, 60000, ())) fun b =>
 Option.bind (F128 (b.fst, ()))
 fun b_1 =>
 bif !decide (b_1.snd.fst = 0) then
 Option.bind (F126 b.snd) fun b =>
 some
 (b.fst, (x.snd.fst.fst, x.snd.fst.snd.fst, x.snd.fst.snd.snd.fst, b_1.fst, x.snd.fst.snd.snd.snd.snd),
 ())
 else
 some
 (b.snd.fst, (x.snd.fst.fst, x.snd.fst.snd.fst, x.snd.fst.snd.snd.fst, b_1.fst, x.snd.fst.snd.snd.snd.snd),
 ())
 else
 bif decide (x.snd.fst.fst = 3) then
 Option.bind (F50 (x.fst, ())) fun b =>
 Option.bind (F130 (b.snd.fst, 60000, ()))
 fun b_1 =>
 Option.bind (F130 (b_1.snd.fst, 60000, ()))
 fun b_2 =>
 Option.bind (F50 b_2.snd) fun b_3 =>
 Option.bind (F50 b_3.snd) fun b_4 =>
 some
 (b_4.snd.fst,
 (x.snd.fst.fst, x.snd.fst.snd.fst, x.snd.fst.snd.snd.fst, x.snd.fst.snd.snd.snd.fst, b.fst, b_1.fst,
 b_2.fst, b_3.fst, b_4.fst, x.snd.fst.snd.snd.snd.snd.snd.snd.snd.snd.snd),
 ())
 else
 bif decide (x.snd.fst.fst = 4) then
 Option.bind (F50 (x.fst, ())) fun b =>
 Option.bind (F130 (b.snd.fst, 60000, ()))
 fun b_1 =>
 Option.bind (F130 (b_1.snd.fst, 60000, ()))
 fun b_2 =>
 Option.bind (F50 b_2.snd) fun b_3 =>
 some
 (b_3.snd.fst,
 (x.snd.fst.fst, x.snd.fst.snd.fst, x.snd.fst.snd.snd.fst, x.snd.fst.snd.snd.snd.fst, b.fst, b_1.fst,
 b_2.fst, b_3.fst, x.snd.fst.snd.snd.snd.snd.snd.snd.snd.snd),
 ())
 else
 bif decide (x.snd.fst.fst = 5) then
 Option.bind (F130 (x.fst, 60000, ())) fun b =>
 Option.bind (F130 (b.snd.fst, 60000, ()))
 fun b_1 =>
 Option.bind (F50 b_1.snd) fun b_2 =>
 some
 (b_2.snd.fst,
 (x.snd.fst.fst, x.snd.fst.snd.fst, x.snd.fst.snd.snd.fst, x.snd.fst.snd.snd.snd.fst,
 x.snd.fst.snd.snd.snd.snd.fst, b.fst, b_1.fst, b_2.fst,
 x.snd.fst.snd.snd.snd.snd.snd.snd.snd.snd),
 ())
 else
 bif decide (x.snd.fst.fst = 6) then
 Option.bind (F50 (x.fst, ())) fun b =>
 some
 (b.snd.fst,
 (x.snd.fst.fst, x.snd.fst.snd.fst, x.snd.fst.snd.snd.fst, x.snd.fst.snd.snd.snd.fst,
 x.snd.fst.snd.snd.snd.snd.fst, x.snd.fst.snd.snd.snd.snd.snd.fst,
 x.snd.fst.snd.snd.snd.snd.snd.snd.fst, b.fst, x.snd.fst.snd.snd.snd.snd.snd.snd.snd.snd),
 ())
 else
 bif decide (x.snd.fst.fst = 8) then none
 else
 bif decide (x.snd.fst.fst = 9) then none
 else
 bif decide (x.snd.fst.fst = 10) then none
 else
 bif decide (x.snd.fst.fst = 11) then none
 else
 bif decide (x.snd.fst.fst = 12) then
 Option.bind (F50 (x.fst, ())) fun b =>
 Option.bind (F134 b.snd)
 fun b_1 =>
 some
 (b_1.snd.fst,
 (x.snd.fst.fst, x.snd.fst.snd.fst, x.snd.fst.snd.snd.fst, x.snd.fst.snd.snd.snd.fst,
 x.snd.fst.snd.snd.snd.snd.fst, x.snd.fst.snd.snd.snd.snd.snd.fst,
 x.snd.fst.snd.snd.snd.snd.snd.snd.fst, b.fst,
 x.snd.fst.snd.snd.snd.snd.snd.snd.snd.snd.fst,
 x.snd.fst.snd.snd.snd.snd.snd.snd.snd.snd.snd.fst,
 x.snd.fst.snd.snd.snd.snd.snd.snd.snd.snd.snd.snd.fst,
 x.snd.fst.snd.snd.snd.snd.snd.snd.snd.snd.snd.snd.snd.fst,
 x.snd.fst.snd.snd.snd.snd.snd.snd.snd.snd.snd.snd.snd.snd.fst,
 x.snd.fst.snd.snd.snd.snd.snd.snd.snd.snd.snd.snd.snd.snd.snd.fst,
 x.snd.fst.snd.snd.snd.snd.snd.snd.snd.snd.snd.snd.snd.snd.snd.snd.fst,
 x.snd.fst.snd.snd.snd.snd.snd.snd.snd.snd.snd.snd.snd.snd.snd.snd.snd.fst, b_1.fst,
 ()),
 ())
 else some x
def S51 : Sig := ⟨P51, R51, F51⟩
noncomputable def E51 : Env := { tab := tab, nt := 192, Γ := lookG [(50, [S50, S50a]), (121, [S121]), (122, [S122]), (126, [S126]), (127, [S127, S127a]), (128, [S128]), (129, [S129]), (130, [S130]), (131, [S131]), (132, [S132]), (133, [S133]), (134, [S134])], joins := lookN [], loops := lookN [] }
theorem raw51_eq (x : T131D × TMD × Unit) : afun E51 Tryz.f51 P51 R51 x = F51 x := by kernel_rfl
-- decamp/talk.Decode
def F13 (x : List UInt8 × Unit) : Option (TMD × Int × Unit) :=
 Option.bind (F47 x) fun b =>
 Option.bind (F48 b) fun b =>
 Option.bind
 (bif decide (wrap64 (intOf8 b.fst) = 1) then
 Option.bind (F49 b.snd)
 fun b_1 =>
 some
 (Sum.inl
 (wrap64 (intOf8 b.fst), 0, b_1.fst,
 (0, 0, (0, [], [], [], 0, 0, 0, [], [], [], 0, 0, 0, false, [], [], [], ()), ()), 0,
 [], [], 0, 0, 0, 0, (0, 0, false, 0, [], 0, 0, ()), [], [], false, (0, 0, [], [], ()),
 (0, 0, 0, [], [], 0, [], 0, 0, 0, ()), b_1.snd.fst))
 else
 Option.bind (F50 b.snd) fun b_1 =>
 Option.bind
 (F51
 (b_1.snd.fst,
 (wrap64 (intOf8 b.fst), b_1.fst,
 (0, 0, 0, 0, 0, 0, 0, 0, false, [], (0, 0, [], ()), ()),
 (0, 0, (0, [], [], [], 0, 0, 0, [], [], [], 0, 0, 0, false, [], [], [], ()), ()), 0,
 [], [], 0, 0, 0, 0, (0, 0, false, 0, [], 0, 0, ()), [], [], false,
 (0, 0, [], [], ()), (0, 0, 0, [], [], 0, [], 0, 0, 0, ()), ()),
 ()))
 fun b =>
 some
 (Sum.inl
 (b.snd.fst.fst, b.snd.fst.snd.fst, b.snd.fst.snd.snd.fst, b.snd.fst.snd.snd.snd.fst,
 b.snd.fst.snd.snd.snd.snd.fst, b.snd.fst.snd.snd.snd.snd.snd.fst,
 b.snd.fst.snd.snd.snd.snd.snd.snd.fst, b.snd.fst.snd.snd.snd.snd.snd.snd.snd.fst,
 b.snd.fst.snd.snd.snd.snd.snd.snd.snd.snd.fst, b.snd.fst.snd.snd.snd.snd.snd.snd.snd.snd.snd.fst,
 b.snd.fst.snd.snd.snd.snd.snd.snd.snd.snd.snd.snd.fst,
 b.snd.fst.snd.snd.snd.snd.snd.snd.snd.snd.snd.snd.snd.fst,
 b.snd.fst.snd.snd.snd.snd.snd.snd.snd.snd.snd.snd.snd.snd.fst,
 b.snd.fst.snd.snd.snd.snd.snd.snd.snd.snd.snd.snd.snd.snd.snd.fst,
 b.snd.fst.snd.snd.snd.snd.snd.snd.snd.snd.snd.snd.snd.snd.snd.snd.fst,
 b.snd.fst.snd.snd.snd.snd.snd.snd.snd.snd.snd.snd.snd.snd.snd.snd.snd.fst,
 b.snd.fst.snd.snd.snd.snd.snd.snd.snd.snd.snd.snd.snd.snd.snd.snd.snd.snd.fst, b.fst)))
 fun o =>
 Sum.elim
 (fun (x_1 :
 Int × Int × (Int × Int × Int × Int × Int × Int × Int × Int × Bool × List T25D × T25D × Unit) × (Int × Int × (Int × List UInt8 × List UInt8 × List UInt8 × Int × Int × Int × List T96D × List T48D × List T48D × Int × Int × Int × Bool × List
 T70D × List
 (Int × Int × (Int × Int × Bool × Int × List
 T70D × Int × Int × Unit) × Unit) × List T113D × Unit) × Unit) × Int × List UInt8 × List UInt8 × Int × Int × Int × Int × (Int × Int × Bool × Int × List
 T70D × Int × Int × Unit) × List
 (Int × List
 T70D × Unit) × List
 T70D × Bool × (Int × Int × List
 (Int × Int × (Int × Int × Bool × Int × List
 T70D × Int × Int × Unit) × Unit) × List T113D × Unit) × T53D × T131D) =>
 bif decide (60000 < Int.ofNat (List.length x.fst)) then
 some
 ((0, 0, (0, 0, 0, 0, 0, 0, 0, 0, false, [], (0, 0, [], ()), ()),
 (0, 0, (0, [], [], [], 0, 0, 0, [], [], [], 0, 0, 0, false, [], [], [], ()), ()), 0,
 [], [], 0, 0, 0, 0, (0, 0, false, 0, [], 0, 0, ()), [], [], false,
 (0, 0, [], [], ()), (0, 0, 0, [], [], 0, [], 0, 0, 0, ()), ()),
 2, ())
 else
 Option.bind (F52 (x_1.snd.snd.snd.snd.snd.snd.snd.snd.snd.snd.snd.snd.snd.snd.snd.snd.snd, ()))
 fun b =>
 bif !b.fst then
 some
 ((0, 0, (0, 0, 0, 0, 0, 0, 0, 0, false, [], (0, 0, [], ()), ()),
 (0, 0, (0, [], [], [], 0, 0, 0, [], [], [], 0, 0, 0, false, [], [], [], ()),
 ()),
 0, [], [], 0, 0, 0, 0, (0, 0, false, 0, [], 0, 0, ()), [], [], false,
 (0, 0, [], [], ()), (0, 0, 0, [], [], 0, [], 0, 0, 0, ()), ()),
 2, ())
 else
 Option.bind
 (F17
 ((x_1.fst, x_1.snd.fst, x_1.snd.snd.fst, x_1.snd.snd.snd.fst, x_1.snd.snd.snd.snd.fst,
 x_1.snd.snd.snd.snd.snd.fst, x_1.snd.snd.snd.snd.snd.snd.fst,
 x_1.snd.snd.snd.snd.snd.snd.snd.fst, x_1.snd.snd.snd.snd.snd.snd.snd.snd.fst,
 x_1.snd.snd.snd.snd.snd.snd.snd.snd.snd.fst, x_1.snd.snd.snd.snd.snd.snd.snd.snd.snd.snd.fst,
 x_1.snd.snd.snd.snd.snd.snd.snd.snd.snd.snd.snd.fst,
 x_1.snd.snd.snd.snd.snd.snd.snd.snd.snd.snd.snd.snd.fst,
 x_1.snd.snd.snd.snd.snd.snd.snd.snd.snd.snd.snd.snd.snd.fst,
 x_1.snd.snd.snd.snd.snd.snd.snd.snd.snd.snd.snd.snd.snd.snd.fst,
 x_1.snd.snd.snd.snd.snd.snd.snd.snd.snd.snd.snd.snd.snd.snd.snd.fst,
 x_1.snd.snd.snd.snd.snd.snd.snd.snd.snd.snd.snd.snd.snd.snd.snd.snd.fst, ()),
 ()))
 fun b =>
 bif !b.fst then
 some
 ((0, 0, (0, 0, 0, 0, 0, 0, 0, 0, false, [], (0, 0, [], ()), ()),
 (0, 0, (0, [], [], [], 0, 0, 0, [], [], [], 0, 0, 0, false, [], [], [], ()),
 ()),
 0, [], [], 0, 0, 0, 0, (0, 0, false, 0, [], 0, 0, ()), [], [], false,
 (0, 0, [], [], ()), (0, 0, 0, [], [], 0, [], 0, 0, 0, ()), ()),
 2, ())
 else
 some
 ((x_1.fst, x_1.snd.fst, x_1.snd.snd.fst, x_1.snd.snd.snd.fst, x_1.snd.snd.snd.snd.fst,
 x_1.snd.snd.snd.snd.snd.fst, x_1.snd.snd.snd.snd.snd.snd.fst,
 x_1.snd.snd.snd.snd.snd.snd.snd.fst, x_1.snd.snd.snd.snd.snd.snd.snd.snd.fst,
 x_1.snd.snd.snd.snd.snd.snd.snd.snd.snd.fst,
 x_1.snd.snd.snd.snd.snd.snd.snd.snd.snd.snd.fst,
 x_1.snd.snd.snd.snd.snd.snd.snd.snd.snd.snd.snd.fst,
 x_1.snd.snd.snd.snd.snd.snd.snd.snd.snd.snd.snd.snd.fst,
 x_1.snd.snd.snd.snd.snd.snd.snd.snd.snd.snd.snd.snd.snd.fst,
 x_1.snd.snd.snd.snd.snd.snd.snd.snd.snd.snd.snd.snd.snd.snd.fst,
 x_1.snd.snd.snd.snd.snd.snd.snd.snd.snd.snd.snd.snd.snd.snd.snd.fst,
 x_1.snd.snd.snd.snd.snd.snd.snd.snd.snd.snd.snd.snd.snd.snd.snd.snd.fst, ()),
 0, ()))
 (fun (val :
 (Int × Int × (Int × Int × Int × Int × Int × Int × Int × Int × Bool × List T25D × T25D × Unit) × (Int × Int × (Int × List UInt8 × List UInt8 × List UInt8 × Int × Int × Int × List T96D × List T48D × List T48D × Int × Int × Int × Bool × List
 T70D × List
 (Int × Int × (Int × Int × Bool × Int × List
 T70D × Int × Int × Unit) × Unit) × List T113D × Unit) × Unit) × Int × List UInt8 × List UInt8 × Int × Int × Int × Int × (Int × Int × Bool × Int × List
 T70D × Int × Int × Unit) × List
 (Int × List
 T70D × Unit) × List
 T70D × Bool × (Int × Int × List
 (Int × Int × (Int × Int × Bool × Int × List
 T70D × Int × Int × Unit) × Unit) × List T113D × Unit) × T53D × Unit) × Int × Unit) =>
 some val)
 o
def S13 : Sig := ⟨P13, R13, F13⟩
noncomputable def E13 : Env := { tab := tab, nt := 38, Γ := lookG [(17, [S17]), (47, [S47]), (48, [S48]), (49, [S49]), (50, [S50, S50a]), (51, [S51]), (52, [S52])], joins := lookN [(7, ⟨[⟨.fld 2005000 0, (.int .i64), .pv⟩, ⟨.fld 2005000 1, (.int .i64), .pv⟩, ⟨.fld 2005000 2, T27, .pv⟩, ⟨.fld 2005000 3, T33, .pv⟩, ⟨.fld 2005000 4, (.int .i64), .pv⟩, ⟨.fld 2005000 5, .str, .pv⟩, ⟨.fld 2005000 6, .str, .pv⟩, ⟨.fld 2005000 7, (.int .i64), .pv⟩, ⟨.fld 2005000 8, (.int .i64), .pv⟩, ⟨.fld 2005000 9, (.int .i64), .pv⟩, ⟨.fld 2005000 10, (.int .i64), .pv⟩, ⟨.fld 2005000 11, T51, .pv⟩, ⟨.fld 2005000 12, (.slice TB), .pv⟩, ⟨.fld 2005000 13, (.slice T70), .pv⟩, ⟨.fld 2005000 14, .bool, .pv⟩, ⟨.fld 2005000 15, T55, .pv⟩, ⟨.fld 2005000 16, T53, .pv⟩, ⟨.fld 1002001 0, (.slice .u8), .pv⟩, ⟨.fld 1002001 1, .bool, .pv⟩], [0, 2, 4, 5], [.site 2005000, .site 1002001, .site 1000, .fld 1000 0, .fld 1000 1, .fld 1000 2, .fld 1000 3, .fld 1000 4, .fld 1000 5, .fld 1000 6, .fld 1000 7, .fld 1000 8, .fld 1000 9, .fld 1000 10, .fld 1000 11, .fld 1000 12, .fld 1000 13, .fld 1000 14, .fld 1000 15, .fld 1000 16]⟩)], loops := lookN [] }
theorem raw13_eq (x : List UInt8 × Unit) : afun E13 Tryz.f13 P13 R13 x = F13 x := by kernel_rfl
-- decamp/decamplaw22.awake
def F7 (x : Unit) : Option (Bool × Unit) :=
 Option.bind
 (F9
 ((7, 5, (0, 0, 0, 0, 0, 0, 0, 0, false, [], (0, 0, [], ()), ()),
 (0, 0, (0, [], [], [], 0, 0, 0, [], [], [], 0, 0, 0, false, [], [], [], ()), ()), 0, [], [],
 0, 0, 0, 0, (0, 0, false, 0, [], 0, 0, ()), [], [], false, (0, 0, [], [], ()),
 (0, 0, 0, [], [], 0, [], 0, 0, 0, ()), ()),
 ()))
 fun b =>
 Option.bind (F13 (b.fst, ()))
 fun b_1 =>
 bif decide (b.snd.fst = 0) then
 bif decide (Int.ofNat (List.length b.fst) = 9) then
 bif decide (b_1.snd.fst = 0) then
 Option.bind
 (F18
 (b_1.fst,
 (7, 5, (0, 0, 0, 0, 0, 0, 0, 0, false, [], (0, 0, [], ()), ()),
 (0, 0, (0, [], [], [], 0, 0, 0, [], [], [], 0, 0, 0, false, [], [], [], ()), ()), 0,
 [], [], 0, 0, 0, 0, (0, 0, false, 0, [], 0, 0, ()), [], [], false,
 (0, 0, [], [], ()), (0, 0, 0, [], [], 0, [], 0, 0, 0, ()), ()),
 ()))
 fun b =>
 bif b.fst then
 Option.bind
 (F17
 ((0, 0, (0, 0, 0, 0, 0, 0, 0, 0, false, [], (0, 0, [], ()), ()),
 (0, 0, (0, [], [], [], 0, 0, 0, [], [], [], 0, 0, 0, false, [], [], [], ()),
 ()),
 0, [], [], 0, 0, 0, 0, (0, 0, false, 0, [], 0, 0, ()), [], [], false,
 (0, 0, [], [], ()), (0, 0, 0, [], [], 0, [], 0, 0, 0, ()), ()),
 ()))
 fun b => some (!b.fst, ())
 else some (false, ())
 else some (false, ())
 else some (false, ())
 else some (false, ())
def S7 : Sig := ⟨P7, R7, F7⟩
noncomputable def E7 : Env := { tab := tab, nt := 40, Γ := lookG [(9, [S9]), (13, [S13]), (17, [S17]), (18, [S18])], joins := lookN [], loops := lookN [] }
theorem raw7_eq (x : Unit) : afun E7 Tryz.f7 P7 R7 x = F7 x := by kernel_rfl
-- decamp/decampref17.Few
def F23 (x : T28D × Unit) : Option (Bool × Unit) :=
 bif decide (10 < Int.ofNat (List.length x.fst.snd.snd.snd.snd.snd.snd.snd.fst)) then some (false, ())
 else
 bif decide (10 < Int.ofNat (List.length x.fst.snd.snd.snd.snd.snd.snd.snd.snd.fst)) then some (false, ())
 else
 bif decide (10 < Int.ofNat (List.length x.fst.snd.snd.snd.snd.snd.snd.snd.snd.snd.fst)) then
 some (false, ())
 else
 bif decide (80 < Int.ofNat (List.length x.fst.snd.snd.snd.snd.snd.snd.snd.snd.snd.snd.snd.snd.snd.snd.fst)) then
 some (false, ())
 else
 bif
 decide
 (20 <
 Int.ofNat (List.length x.fst.snd.snd.snd.snd.snd.snd.snd.snd.snd.snd.snd.snd.snd.snd.snd.fst)) then
 some (false, ())
 else
 bif
 decide
 (80 <
 Int.ofNat
 (List.length x.fst.snd.snd.snd.snd.snd.snd.snd.snd.snd.snd.snd.snd.snd.snd.snd.snd.fst)) then
 some (false, ())
 else
 iterE (Int × Int × Unit) (Bool × Unit)
 (fun (x_1 : Int × Int × Unit) =>
 bif
 decide
 (x_1.snd.fst <
 Int.ofNat
 (List.length x.fst.snd.snd.snd.snd.snd.snd.snd.snd.snd.snd.snd.snd.snd.snd.fst)) then
 Option.bind (idx x.fst.snd.snd.snd.snd.snd.snd.snd.snd.snd.snd.snd.snd.snd.snd.fst x_1.snd.fst)
 fun b =>
 Option.bind (idx x.fst.snd.snd.snd.snd.snd.snd.snd.snd.snd.snd.snd.snd.snd.snd.fst x_1.snd.fst)
 fun b_1 =>
 some
 (Sum.inl
 (wrap64
 (wrap64 (x_1.fst + Int.ofNat (List.length b.fst)) +
 Int.ofNat (List.length b_1.snd.fst.snd.snd.snd.snd.fst)),
 wrap64 (x_1.snd.fst + 1), ()))
 else
 Option.map Sum.inr
 (iterE (Int × Int × Unit) (Bool × Unit)
 (fun (x_2 : Int × Int × Unit) =>
 bif
 decide
 (x_2.snd.fst <
 Int.ofNat
 (List.length
 x.fst.snd.snd.snd.snd.snd.snd.snd.snd.snd.snd.snd.snd.snd.snd.snd.fst)) then
 Option.bind
 (idx x.fst.snd.snd.snd.snd.snd.snd.snd.snd.snd.snd.snd.snd.snd.snd.snd.fst x_2.snd.fst)
 fun b =>
 bif decide (12 < Int.ofNat (List.length b.snd.snd.fst.snd.snd.snd.snd.fst)) then
 some (Sum.inr (false, ()))
 else
 Option.bind
 (idx x.fst.snd.snd.snd.snd.snd.snd.snd.snd.snd.snd.snd.snd.snd.snd.snd.fst
 x_2.snd.fst)
 fun b =>
 iterE (Int × Int × Unit) (Int × Int × Unit ⊕ Bool × Unit)
 (fun (x_3 : Int × Int × Unit) =>
 bif
 decide
 (x_3.snd.fst <
 Int.ofNat (List.length b.snd.snd.fst.snd.snd.snd.snd.fst)) then
 Option.bind
 (idx x.fst.snd.snd.snd.snd.snd.snd.snd.snd.snd.snd.snd.snd.snd.snd.snd.fst
 x_2.snd.fst)
 fun b =>
 Option.bind (idx b.snd.snd.fst.snd.snd.snd.snd.fst x_3.snd.fst)
 fun b =>
 Option.bind
 (idx x.fst.snd.snd.snd.snd.snd.snd.snd.snd.snd.snd.snd.snd.snd.snd.snd.fst
 x_2.snd.fst)
 fun b_1 =>
 Option.bind (idx b_1.snd.snd.fst.snd.snd.snd.snd.fst x_3.snd.fst)
 fun b_2 =>
 some
 (Sum.inl
 (wrap64
 (wrap64
 (x_3.fst + Int.ofNat (List.length b.fst)) +
 Int.ofNat (List.length b_2.snd.fst.snd.snd.snd.snd.fst)),
 wrap64 (x_3.snd.fst + 1), ()))
 else
 some
 (Sum.inr
 (Sum.inl
 (x_3.fst, wrap64 (x_2.snd.fst + 1), ()))))
 big (x_2.fst, 0, ())
 else
 Option.map Sum.inr
 (iterE (Int × Int × Unit) (Bool × Unit)
 (fun (x_3 : Int × Int × Unit) =>
 bif
 decide
 (x_3.snd.fst <
 Int.ofNat (List.length x.fst.snd.snd.snd.snd.snd.snd.snd.snd.fst)) then
 Option.bind (idx x.fst.snd.snd.snd.snd.snd.snd.snd.snd.fst x_3.snd.fst)
 fun b =>
 Option.bind (idx x.fst.snd.snd.snd.snd.snd.snd.snd.snd.fst x_3.snd.fst)
 fun b_1 =>
 Option.bind (idx x.fst.snd.snd.snd.snd.snd.snd.snd.snd.fst x_3.snd.fst)
 fun b_2 =>
 some
 (Sum.inl
 (wrap64
 (wrap64
 (wrap64
 (x_3.fst + Int.ofNat (List.length b.snd.fst)) +
 Int.ofNat (List.length b_1.snd.snd.fst)) +
 Int.ofNat (List.length b_2.snd.snd.snd.fst)),
 wrap64 (x_3.snd.fst + 1), ()))
 else
 Option.map Sum.inr
 (iterE (Int × Int × Unit) (Bool × Unit)
 (fun (x_4 : Int × Int × Unit) =>
 bif
 decide
 (x_4.snd.fst <
 Int.ofNat
 (List.length x.fst.snd.snd.snd.snd.snd.snd.snd.snd.snd.fst)) then
 Option.bind (idx x.fst.snd.snd.snd.snd.snd.snd.snd.snd.snd.fst x_4.snd.fst)
 fun b =>
 Option.bind
 (idx x.fst.snd.snd.snd.snd.snd.snd.snd.snd.snd.fst x_4.snd.fst)
 fun b_1 =>
 Option.bind
 (idx x.fst.snd.snd.snd.snd.snd.snd.snd.snd.snd.fst x_4.snd.fst)
 fun b_2 =>
 some
 (Sum.inl
 (wrap64
 (wrap64
 (wrap64
 (x_4.fst + Int.ofNat (List.length b.snd.fst)) +
 Int.ofNat (List.length b_1.snd.snd.fst)) +
 Int.ofNat (List.length b_2.snd.snd.snd.fst)),
 wrap64 (x_4.snd.fst + 1), ()))
 else
 Option.map Sum.inr
 (iterE (Int × Int × Unit) (Bool × Unit)
 (fun (x_5 : Int × Int × Unit) =>
 bif
 decide
 (x_5.snd.fst <
 Int.ofNat
 (List.length x.fst.snd.snd.snd.snd.snd.snd.snd.fst)) then
 Option.bind (idx x.fst.snd.snd.snd.snd.snd.snd.snd.fst x_5.snd.fst)
 fun b =>
 Option.bind
 (idx x.fst.snd.snd.snd.snd.snd.snd.snd.fst x_5.snd.fst)
 fun b_1 =>
 some
 (Sum.inl
 (wrap64
 (wrap64
 (x_5.fst + Int.ofNat (List.length b.fst)) +
 Int.ofNat (List.length b_1.snd.snd.snd.snd.fst)),
 wrap64 (x_5.snd.fst + 1), ()))
 else some (Sum.inr (decide (x_5.fst ≤ 30000), ())))
 big (x_4.fst, 0, ())))
 big (x_3.fst, 0, ())))
 big (x_2.fst, 0, ())))
 big (x_1.fst, 0, ())))
 big
 (wrap64
 (wrap64
 (Int.ofNat (List.length x.fst.snd.fst) + Int.ofNat (List.length x.fst.snd.snd.fst)) +
 Int.ofNat (List.length x.fst.snd.snd.snd.fst)),
 0, ())
def S23 : Sig := ⟨P23, R23, F23⟩
noncomputable def E23 : Env := { tab := tab, nt := 226, Γ := lookG [], joins := lookN [], loops := lookN [(5, mkLoop ⟨[⟨.slot 3, (.int .i64), .pv⟩, ⟨.slot 58, (.int .i64), .pv⟩], [1, 57], [.site 1000, .fld 1000 0, .fld 1000 1, .fld 1000 2, .fld 1000 3, .fld 1000 4, .fld 1000 5, .fld 1000 6, .fld 1000 7, .fld 1000 8, .fld 1000 9, .fld 1000 10, .fld 1000 11, .fld 1000 12, .fld 1000 13, .fld 1000 14, .fld 1000 15, .fld 1000 16]⟩), (10, mkLoop ⟨[⟨.slot 3, (.int .i64), .pv⟩, ⟨.slot 83, (.int .i64), .pv⟩], [1, 82], [.site 1000, .fld 1000 0, .fld 1000 1, .fld 1000 2, .fld 1000 3, .fld 1000 4, .fld 1000 5, .fld 1000 6, .fld 1000 7, .fld 1000 8, .fld 1000 9, .fld 1000 10, .fld 1000 11, .fld 1000 12, .fld 1000 13, .fld 1000 14, .fld 1000 15, .fld 1000 16]⟩), (15, mkLoop ⟨[⟨.slot 3, (.int .i64), .pv⟩, ⟨.slot 103, (.int .i64), .pv⟩], [1, 5, 82, 83, 102], [.site 1000, .fld 1000 0, .fld 1000 1, .fld 1000 2, .fld 1000 3, .fld 1000 4, .fld 1000 5, .fld 1000 6, .fld 1000 7, .fld 1000 8, .fld 1000 9, .fld 1000 10, .fld 1000 11, .fld 1000 12, .fld 1000 13, .fld 1000 14, .fld 1000 15, .fld 1000 16]⟩), (21, mkLoop ⟨[⟨.slot 3, (.int .i64), .pv⟩, ⟨.slot 139, (.int .i64), .pv⟩], [1, 138], [.site 1000, .fld 1000 0, .fld 1000 1, .fld 1000 2, .fld 1000 3, .fld 1000 4, .fld 1000 5, .fld 1000 6, .fld 1000 7, .fld 1000 8, .fld 1000 9, .fld 1000 10, .fld 1000 11, .fld 1000 12, .fld 1000 13, .fld 1000 14, .fld 1000 15, .fld 1000 16]⟩), (26, mkLoop ⟨[⟨.slot 3, (.int .i64), .pv⟩, ⟨.slot 171, (.int .i64), .pv⟩], [1, 170], [.site 1000, .fld 1000 0, .fld 1000 1, .fld 1000 2, .fld 1000 3, .fld 1000 4, .fld 1000 5, .fld 1000 6, .fld 1000 7, .fld 1000 8, .fld 1000 9, .fld 1000 10, .fld 1000 11, .fld 1000 12, .fld 1000 13, .fld 1000 14, .fld 1000 15, .fld 1000 16]⟩), (31, mkLoop ⟨[⟨.slot 3, (.int .i64), .pv⟩, ⟨.slot 203, (.int .i64), .pv⟩], [1, 202], [.site 1000, .fld 1000 0, .fld 1000 1, .fld 1000 2, .fld 1000 3, .fld 1000 4, .fld 1000 5, .fld 1000 6, .fld 1000 7, .fld 1000 8, .fld 1000 9, .fld 1000 10, .fld 1000 11, .fld 1000 12, .fld 1000 13, .fld 1000 14, .fld 1000 15, .fld 1000 16]⟩)] }
theorem raw23_eq (x : T28D × Unit) : afun E23 Tryz.f23 P23 R23 x = F23 x := by kernel_rfl
-- decamp/decampref07.Few
def F88 (x : List T25D × Int × Unit) : Option (Bool × Unit) :=
 iterE (Int × Int × Unit) (Bool × Unit)
 (fun (x_1 : Int × Int × Unit) =>
 bif decide (x_1.snd.fst < Int.ofNat (List.length x.fst)) then
 Option.bind (idx x.fst x_1.snd.fst) fun b =>
 bif decide (x.snd.fst ≤ x_1.snd.fst) then some (Sum.inr (false, ()))
 else
 bif decide (40000 < wrap64 (x_1.fst + Int.ofNat (List.length b.snd.snd.fst))) then
 some (Sum.inr (false, ()))
 else
 some
 (Sum.inl
 (wrap64 (x_1.fst + Int.ofNat (List.length b.snd.snd.fst)),
 wrap64 (x_1.snd.fst + 1), ()))
 else some (Sum.inr (true, ())))
 big (0, 0, ())
def S88 : Sig := ⟨P88, R88, F88⟩
noncomputable def E88 : Env := { tab := tab, nt := 28, Γ := lookG [], joins := lookN [], loops := lookN [(3, mkLoop ⟨[⟨.slot 5, (.int .i64), .pv⟩, ⟨.slot 9, (.int .i64), .pv⟩], [0, 1, 8], []⟩)] }
theorem raw88_eq (x : List T25D × Int × Unit) : afun E88 Tryz.f88 P88 R88 x = F88 x := by kernel_rfl
-- decamp/decampref11.Few
def F24 (x : T27D × Unit) : Option (Bool × Unit) :=
 Option.bind (F88 (x.fst.snd.snd.snd.snd.snd.snd.snd.snd.snd.fst, 6, ())) fun b =>
 bif b.fst then
 some
 (decide (Int.ofNat (List.length x.fst.snd.snd.snd.snd.snd.snd.snd.snd.snd.snd.fst.snd.snd.fst) ≤ 2000),
 ())
 else some (false, ())
def S24 : Sig := ⟨P24, R24, F24⟩
noncomputable def E24 : Env := { tab := tab, nt := 13, Γ := lookG [(88, [S88])], joins := lookN [], loops := lookN [] }
theorem raw24_eq (x : T27D × Unit) : afun E24 Tryz.f24 P24 R24 x = F24 x := by kernel_rfl
-- decamp/decampref22.Few
def F8 (x : TMD × Unit) : Option (Bool × Unit) :=
 iterE (Int × Int × Unit) (Bool × Unit)
 (fun (x_1 : Int × Int × Unit) =>
 bif decide (x_1.snd.fst < Int.ofNat (List.length x.fst.snd.snd.snd.snd.snd.snd.snd.snd.snd.snd.snd.snd.fst)) then
 Option.bind (idx x.fst.snd.snd.snd.snd.snd.snd.snd.snd.snd.snd.snd.snd.fst x_1.snd.fst)
 fun b =>
 bif
 decide
 (400 <
 wrap64
 (wrap64 (x_1.fst + 1) + Int.ofNat (List.length b.snd.fst))) then
 some (Sum.inr (false, ()))
 else
 Option.bind (idx x.fst.snd.snd.snd.snd.snd.snd.snd.snd.snd.snd.snd.snd.fst x_1.snd.fst)
 fun b_1 =>
 Option.bind
 (F23
 ((0, [], [], [], 0, 0, 0, [], [], [], 0, 0, 0, false, b_1.snd.fst, [], [], ()), ()))
 fun b_2 =>
 bif !b_2.fst then some (Sum.inr (false, ()))
 else
 some
 (Sum.inl
 (wrap64
 (wrap64 (x_1.fst + 1) + Int.ofNat (List.length b.snd.fst)),
 wrap64 (x_1.snd.fst + 1), ()))
 else
 Option.map Sum.inr
 (Option.bind (F24 (x.fst.snd.snd.fst, ())) fun b =>
 bif b.fst then
 Option.bind (F23 x.fst.snd.snd.snd.fst.snd.snd) fun b =>
 bif b.fst then
 Option.bind
 (F23
 ((0, [], [], [], 0, 0, 0, [], [], [], 0, 0, 0, false,
 x.fst.snd.snd.snd.snd.snd.snd.snd.snd.snd.snd.snd.snd.snd.fst, [], [], ()),
 ()))
 fun b =>
 bif b.fst then
 Option.bind
 (appM [(0, 0, x.fst.snd.snd.snd.snd.snd.snd.snd.snd.snd.snd.snd.fst, ())]
 x.fst.snd.snd.snd.snd.snd.snd.snd.snd.snd.snd.snd.snd.snd.snd.snd.fst.snd.snd.fst)
 fun b =>
 Option.bind
 (F23
 ((0, [], [], [], 0, 0, 0, [], [], [], 0, 0, 0, false, [], b,
 x.fst.snd.snd.snd.snd.snd.snd.snd.snd.snd.snd.snd.snd.snd.snd.snd.fst.snd.snd.snd),
 ()))
 fun b =>
 bif b.fst then
 some
 (decide
 (wrap64
 (wrap64
 (wrap64
 (wrap64
 (Int.ofNat (List.length x.fst.snd.snd.snd.snd.snd.fst) +
 Int.ofNat (List.length x.fst.snd.snd.snd.snd.snd.snd.fst)) +
 Int.ofNat
 (List.length
 x.fst.snd.snd.snd.snd.snd.snd.snd.snd.snd.snd.snd.snd.snd.snd.snd.snd.fst.snd.snd.snd.fst)) +
 Int.ofNat
 (List.length
 x.fst.snd.snd.snd.snd.snd.snd.snd.snd.snd.snd.snd.snd.snd.snd.snd.snd.fst.snd.snd.snd.snd.fst)) +
 Int.ofNat
 (List.length
 x.fst.snd.snd.snd.snd.snd.snd.snd.snd.snd.snd.snd.snd.snd.snd.snd.snd.fst.snd.snd.snd.snd.snd.snd.fst)) ≤
 500),
 ())
 else some (false, ())
 else some (false, ())
 else some (false, ())
 else some (false, ())))
 big (0, 0, ())
def S8 : Sig := ⟨P8, R8, F8⟩
noncomputable def E8 : Env := { tab := tab, nt := 90, Γ := lookG [(23, [S23]), (24, [S24])], joins := lookN [], loops := lookN [(3, mkLoop ⟨[⟨.slot 3, (.int .i64), .pv⟩, ⟨.slot 8, (.int .i64), .pv⟩], [1, 7], [.site 1000, .fld 1000 0, .fld 1000 1, .fld 1000 2, .fld 1000 3, .fld 1000 4, .fld 1000 5, .fld 1000 6, .fld 1000 7, .fld 1000 8, .fld 1000 9, .fld 1000 10, .fld 1000 11, .fld 1000 12, .fld 1000 13, .fld 1000 14, .fld 1000 15, .fld 1000 16]⟩)] }
theorem raw8_eq (x : TMD × Unit) : afun E8 Tryz.f8 P8 R8 x = F8 x := by kernel_rfl
-- decamp/decamplaw11.To
def F32 (x : T27D × Unit) : Option (T27D × Unit) :=
 some x
def S32 : Sig := ⟨P32, R32, F32⟩
noncomputable def E32 : Env := { tab := tab, nt := 4, Γ := lookG [], joins := lookN [], loops := lookN [] }
theorem raw32_eq (x : T27D × Unit) : afun E32 Tryz.f32 P32 R32 x = F32 x := by kernel_rfl
-- decamp/decamplaw22.To
def F10 (x : TMD × Unit) : Option (TMD × Unit) :=
 Option.bind (F32 (x.fst.snd.snd.fst, ()))
 fun b =>
 some ((x.fst.fst, x.fst.snd.fst, b.fst, x.fst.snd.snd.snd), ())
def S10 : Sig := ⟨P10, R10, F10⟩
noncomputable def E10 : Env := { tab := tab, nt := 47, Γ := lookG [(32, [S32])], joins := lookN [], loops := lookN [] }
theorem raw10_eq (x : TMD × Unit) : afun E10 Tryz.f10 P10 R10 x = F10 x := by kernel_rfl
-- decamp/decampref07.One
def F198 (x : T25D × T25D × Unit) : Option (Bool × Unit) :=
 bif decide (x.fst.fst = x.snd.fst.fst) then
 bif decide (x.fst.snd.fst = x.snd.fst.snd.fst) then
 some (decide (x.fst.snd.snd.fst = x.snd.fst.snd.snd.fst), ())
 else some (false, ())
 else some (false, ())
def S198 : Sig := ⟨P198, R198, F198⟩
noncomputable def E198 : Env := { tab := tab, nt := 26, Γ := lookG [], joins := lookN [], loops := lookN [] }
theorem raw198_eq (x : T25D × T25D × Unit) : afun E198 Tryz.f198 P198 R198 x = F198 x := by kernel_rfl
-- decamp/decampref07.Same
def F140 (x : List T25D × List T25D × Unit) : Option (Bool × Unit) :=
 bif !decide (Int.ofNat (List.length x.fst) = Int.ofNat (List.length x.snd.fst)) then some (false, ())
 else
 iterE (Int × Unit) (Bool × Unit)
 (fun (x_1 : Int × Unit) =>
 bif decide (x_1.fst < Int.ofNat (List.length x.fst)) then
 Option.bind (idx x.fst x_1.fst) fun b =>
 Option.bind (idx x.snd.fst x_1.fst) fun b_1 =>
 Option.bind (F198 (b, b_1, ())) fun b =>
 bif !b.fst then some (Sum.inr (false, ()))
 else some (Sum.inl (wrap64 (x_1.fst + 1), ()))
 else some (Sum.inr (true, ())))
 big (0, ())
def S140 : Sig := ⟨P140, R140, F140⟩
noncomputable def E140 : Env := { tab := tab, nt := 27, Γ := lookG [(198, [S198])], joins := lookN [], loops := lookN [(4, mkLoop ⟨[⟨.slot 13, (.int .i64), .pv⟩], [0, 1, 12], []⟩)] }
theorem raw140_eq (x : List T25D × List T25D × Unit) : afun E140 Tryz.f140 P140 R140 x = F140 x := by kernel_rfl
-- decamp/decampref07.SameSnap
def F141 (x : T25D × T25D × Unit) : Option (Bool × Unit) :=
 bif decide (x.fst.fst = x.snd.fst.fst) then
 bif decide (x.fst.snd.fst = x.snd.fst.snd.fst) then
 some (decide (x.fst.snd.snd.fst = x.snd.fst.snd.snd.fst), ())
 else some (false, ())
 else some (false, ())
def S141 : Sig := ⟨P141, R141, F141⟩
noncomputable def E141 : Env := { tab := tab, nt := 26, Γ := lookG [], joins := lookN [], loops := lookN [] }
theorem raw141_eq (x : T25D × T25D × Unit) : afun E141 Tryz.f141 P141 R141 x = F141 x := by kernel_rfl
-- decamp/decampref11.Same
def F63 (x : T27D × T27D × Unit) : Option (Bool × Unit) :=
 bif decide (x.fst.fst = x.snd.fst.fst) then
 bif decide (x.fst.snd.fst = x.snd.fst.snd.fst) then
 bif decide (x.fst.snd.snd.fst = x.snd.fst.snd.snd.fst) then
 bif decide (x.fst.snd.snd.snd.fst = x.snd.fst.snd.snd.snd.fst) then
 bif decide (x.fst.snd.snd.snd.snd.fst = x.snd.fst.snd.snd.snd.snd.fst) then
 bif decide (x.fst.snd.snd.snd.snd.snd.fst = x.snd.fst.snd.snd.snd.snd.snd.fst) then
 bif decide (x.fst.snd.snd.snd.snd.snd.snd.fst = x.snd.fst.snd.snd.snd.snd.snd.snd.fst) then
 bif decide (x.fst.snd.snd.snd.snd.snd.snd.snd.fst = x.snd.fst.snd.snd.snd.snd.snd.snd.snd.fst) then
 bif x.fst.snd.snd.snd.snd.snd.snd.snd.snd.fst == x.snd.fst.snd.snd.snd.snd.snd.snd.snd.snd.fst then
 Option.bind
 (F140
 (x.fst.snd.snd.snd.snd.snd.snd.snd.snd.snd.fst,
 x.snd.fst.snd.snd.snd.snd.snd.snd.snd.snd.snd.fst, ()))
 fun b =>
 bif b.fst then
 Option.bind
 (F141
 (x.fst.snd.snd.snd.snd.snd.snd.snd.snd.snd.snd.fst,
 x.snd.fst.snd.snd.snd.snd.snd.snd.snd.snd.snd.snd))
 fun b => some b
 else some (false, ())
 else some (false, ())
 else some (false, ())
 else some (false, ())
 else some (false, ())
 else some (false, ())
 else some (false, ())
 else some (false, ())
 else some (false, ())
 else some (false, ())
def S63 : Sig := ⟨P63, R63, F63⟩
noncomputable def E63 : Env := { tab := tab, nt := 80, Γ := lookG [(140, [S140]), (141, [S141])], joins := lookN [], loops := lookN [] }
theorem raw63_eq (x : T27D × T27D × Unit) : afun E63 Tryz.f63 P63 R63 x = F63 x := by kernel_rfl
-- decamp/decampref15.SameItems
def F67 (x : List T70D × List T70D × Unit) : Option (Bool × Unit) :=
 bif !decide (Int.ofNat (List.length x.fst) = Int.ofNat (List.length x.snd.fst)) then some (false, ())
 else
 iterE (Int × Unit) (Bool × Unit)
 (fun (x_1 : Int × Unit) =>
 bif decide (x_1.fst < Int.ofNat (List.length x.fst)) then
 Option.bind (idx x.fst x_1.fst)
 fun b =>
 Option.bind (idx x.snd.fst x_1.fst)
 fun b_1 =>
 bif
 !(decide (b.fst = b_1.fst) &&
 (decide (b.snd.fst.fst = b_1.snd.fst.fst) &&
 (decide (b.snd.fst.snd.fst = b_1.snd.fst.snd.fst) &&
 (decide (b.snd.fst.snd.snd.fst = b_1.snd.fst.snd.snd.fst) &&
 (decide (b.snd.fst.snd.snd.snd.fst = b_1.snd.fst.snd.snd.snd.fst) &&
 (decide (b.snd.fst.snd.snd.snd.snd.fst = b_1.snd.fst.snd.snd.snd.snd.fst) &&
 (decide (b.snd.fst.snd.snd.snd.snd.snd.fst = b_1.snd.fst.snd.snd.snd.snd.snd.fst) &&
 (b.snd.fst.snd.snd.snd.snd.snd.snd.fst == b_1.snd.fst.snd.snd.snd.snd.snd.snd.fst &&
 true)))))) &&
 true)) then
 some (Sum.inr (false, ()))
 else some (Sum.inl (wrap64 (x_1.fst + 1), ()))
 else some (Sum.inr (true, ())))
 big (0, ())
def S67 : Sig := ⟨P67, R67, F67⟩
noncomputable def E67 : Env := { tab := tab, nt := 26, Γ := lookG [], joins := lookN [], loops := lookN [(4, mkLoop ⟨[⟨.slot 13, (.int .i64), .pv⟩], [0, 1, 12], []⟩)] }
theorem raw67_eq (x : List T70D × List T70D × Unit) : afun E67 Tryz.f67 P67 R67 x = F67 x := by kernel_rfl
-- decamp/decampref17.sameCmps
def F142 (x : List T96D × List T96D × Unit) : Option (Bool × Unit) :=
 bif !decide (Int.ofNat (List.length x.fst) = Int.ofNat (List.length x.snd.fst)) then some (false, ())
 else
 iterE (Int × Unit) (Bool × Unit)
 (fun (x_1 : Int × Unit) =>
 bif decide (x_1.fst < Int.ofNat (List.length x.fst)) then
 Option.bind (idx x.fst x_1.fst) fun b =>
 Option.bind (idx x.snd.fst x_1.fst) fun b_1 =>
 bif
 !(decide (b.fst = b_1.fst) &&
 (decide (b.snd.fst = b_1.snd.fst) &&
 (decide (b.snd.snd.fst = b_1.snd.snd.fst) &&
 (decide (b.snd.snd.snd.fst = b_1.snd.snd.snd.fst) &&
 (decide (b.snd.snd.snd.snd.fst = b_1.snd.snd.snd.snd.fst) && true))))) then
 some (Sum.inr (false, ()))
 else some (Sum.inl (wrap64 (x_1.fst + 1), ()))
 else some (Sum.inr (true, ())))
 big (0, ())
def S142 : Sig := ⟨P142, R142, F142⟩
noncomputable def E142 : Env := { tab := tab, nt := 26, Γ := lookG [], joins := lookN [], loops := lookN [(4, mkLoop ⟨[⟨.slot 13, (.int .i64), .pv⟩], [0, 1, 12], []⟩)] }
theorem raw142_eq (x : List T96D × List T96D × Unit) : afun E142 Tryz.f142 P142 R142 x = F142 x := by kernel_rfl
-- decamp/decampref17.sameOps
def F143 (x : List T48D × List T48D × Unit) : Option (Bool × Unit) :=
 bif !decide (Int.ofNat (List.length x.fst) = Int.ofNat (List.length x.snd.fst)) then some (false, ())
 else
 iterE (Int × Unit) (Bool × Unit)
 (fun (x_1 : Int × Unit) =>
 bif decide (x_1.fst < Int.ofNat (List.length x.fst)) then
 Option.bind (idx x.fst x_1.fst) fun b =>
 Option.bind (idx x.snd.fst x_1.fst) fun b_1 =>
 bif
 !(decide (b.fst = b_1.fst) &&
 (decide (b.snd.fst = b_1.snd.fst) &&
 (decide (b.snd.snd.fst = b_1.snd.snd.fst) &&
 (decide (b.snd.snd.snd.fst = b_1.snd.snd.snd.fst) &&
 (decide (b.snd.snd.snd.snd.fst = b_1.snd.snd.snd.snd.fst) && true))))) then
 some (Sum.inr (false, ()))
 else some (Sum.inl (wrap64 (x_1.fst + 1), ()))
 else some (Sum.inr (true, ())))
 big (0, ())
def S143 : Sig := ⟨P143, R143, F143⟩
noncomputable def E143 : Env := { tab := tab, nt := 26, Γ := lookG [], joins := lookN [], loops := lookN [(4, mkLoop ⟨[⟨.slot 13, (.int .i64), .pv⟩], [0, 1, 12], []⟩)] }
theorem raw143_eq (x : List T48D × List T48D × Unit) : afun E143 Tryz.f143 P143 R143 x = F143 x := by kernel_rfl
-- decamp/decampref17.SameReply
def F65 (x : T51D × T51D × Unit) : Option (Bool × Unit) :=
 bif decide (x.fst.fst = x.snd.fst.fst) then
 bif decide (x.fst.snd.fst = x.snd.fst.snd.fst) then
 bif x.fst.snd.snd.fst == x.snd.fst.snd.snd.fst then
 bif decide (x.fst.snd.snd.snd.fst = x.snd.fst.snd.snd.snd.fst) then
 bif decide (x.fst.snd.snd.snd.snd.snd.fst = x.snd.fst.snd.snd.snd.snd.snd.fst) then
 bif decide (x.fst.snd.snd.snd.snd.snd.snd.fst = x.snd.fst.snd.snd.snd.snd.snd.snd.fst) then
 Option.bind (F67 (x.fst.snd.snd.snd.snd.fst, x.snd.fst.snd.snd.snd.snd.fst, ()))
 fun b => some b
 else some (false, ())
 else some (false, ())
 else some (false, ())
 else some (false, ())
 else some (false, ())
 else some (false, ())
def S65 : Sig := ⟨P65, R65, F65⟩
noncomputable def E65 : Env := { tab := tab, nt := 52, Γ := lookG [(67, [S67])], joins := lookN [], loops := lookN [] }
theorem raw65_eq (x : T51D × T51D × Unit) : afun E65 Tryz.f65 P65 R65 x = F65 x := by kernel_rfl
-- decamp/decampref17.SameSess
def F144 (x : List T94D × List T94D × Unit) : Option (Bool × Unit) :=
 bif !decide (Int.ofNat (List.length x.fst) = Int.ofNat (List.length x.snd.fst)) then some (false, ())
 else
 iterE (Int × Unit) (Bool × Unit)
 (fun (x_1 : Int × Unit) =>
 bif decide (x_1.fst < Int.ofNat (List.length x.fst)) then
 Option.bind (idx x.fst x_1.fst)
 fun b =>
 Option.bind (idx x.snd.fst x_1.fst)
 fun b_1 =>
 bif !decide (b.fst = b_1.fst) then some (Sum.inr (false, ()))
 else
 Option.bind (idx x.fst x_1.fst)
 fun b =>
 Option.bind (idx x.snd.fst x_1.fst)
 fun b_2 =>
 bif !decide (b.snd.fst = b_2.snd.fst) then some (Sum.inr (false, ()))
 else
 Option.bind (idx x.fst x_1.fst)
 fun b =>
 Option.bind (idx x.snd.fst x_1.fst)
 fun b_3 =>
 Option.bind (F65 (b.snd.snd.fst, b_3.snd.snd)) fun b =>
 bif !b.fst then some (Sum.inr (false, ()))
 else some (Sum.inl (wrap64 (x_1.fst + 1), ()))
 else some (Sum.inr (true, ())))
 big (0, ())
def S144 : Sig := ⟨P144, R144, F144⟩
noncomputable def E144 : Env := { tab := tab, nt := 55, Γ := lookG [(65, [S65])], joins := lookN [], loops := lookN [(4, mkLoop ⟨[⟨.slot 13, (.int .i64), .pv⟩], [0, 1, 12], []⟩)] }
theorem raw144_eq (x : List T94D × List T94D × Unit) : afun E144 Tryz.f144 P144 R144 x = F144 x := by kernel_rfl
-- decamp/decampref17.SameLeases
def F145 (x : List T113D × List T113D × Unit) : Option (Bool × Unit) :=
 bif !decide (Int.ofNat (List.length x.fst) = Int.ofNat (List.length x.snd.fst)) then some (false, ())
 else
 iterE (Int × Unit) (Bool × Unit)
 (fun (x_1 : Int × Unit) =>
 bif decide (x_1.fst < Int.ofNat (List.length x.fst)) then
 Option.bind (idx x.fst x_1.fst) fun b =>
 Option.bind (idx x.snd.fst x_1.fst) fun b_1 =>
 bif
 !(decide (b.fst = b_1.fst) &&
 (decide (b.snd.fst = b_1.snd.fst) && (decide (b.snd.snd.fst = b_1.snd.snd.fst) && true))) then
 some (Sum.inr (false, ()))
 else some (Sum.inl (wrap64 (x_1.fst + 1), ()))
 else some (Sum.inr (true, ())))
 big (0, ())
def S145 : Sig := ⟨P145, R145, F145⟩
noncomputable def E145 : Env := { tab := tab, nt := 26, Γ := lookG [], joins := lookN [], loops := lookN [(4, mkLoop ⟨[⟨.slot 13, (.int .i64), .pv⟩], [0, 1, 12], []⟩)] }
theorem raw145_eq (x : List T113D × List T113D × Unit) : afun E145 Tryz.f145 P145 R145 x = F145 x := by kernel_rfl
-- decamp/decampref17.Same
def F64 (x : T28D × T28D × Unit) : Option (Bool × Unit) :=
 bif decide (x.fst.fst = x.snd.fst.fst) then
 bif decide (x.fst.snd.fst = x.snd.fst.snd.fst) then
 bif decide (x.fst.snd.snd.fst = x.snd.fst.snd.snd.fst) then
 bif decide (x.fst.snd.snd.snd.fst = x.snd.fst.snd.snd.snd.fst) then
 bif decide (x.fst.snd.snd.snd.snd.fst = x.snd.fst.snd.snd.snd.snd.fst) then
 bif decide (x.fst.snd.snd.snd.snd.snd.fst = x.snd.fst.snd.snd.snd.snd.snd.fst) then
 bif decide (x.fst.snd.snd.snd.snd.snd.snd.fst = x.snd.fst.snd.snd.snd.snd.snd.snd.fst) then
 bif
 decide
 (x.fst.snd.snd.snd.snd.snd.snd.snd.snd.snd.snd.fst =
 x.snd.fst.snd.snd.snd.snd.snd.snd.snd.snd.snd.snd.fst) then
 bif
 decide
 (x.fst.snd.snd.snd.snd.snd.snd.snd.snd.snd.snd.snd.fst =
 x.snd.fst.snd.snd.snd.snd.snd.snd.snd.snd.snd.snd.snd.fst) then
 bif
 decide
 (x.fst.snd.snd.snd.snd.snd.snd.snd.snd.snd.snd.snd.snd.fst =
 x.snd.fst.snd.snd.snd.snd.snd.snd.snd.snd.snd.snd.snd.snd.fst) then
 bif
 x.fst.snd.snd.snd.snd.snd.snd.snd.snd.snd.snd.snd.snd.snd.fst ==
 x.snd.fst.snd.snd.snd.snd.snd.snd.snd.snd.snd.snd.snd.snd.snd.fst then
 Option.bind
 (F142
 (x.fst.snd.snd.snd.snd.snd.snd.snd.fst, x.snd.fst.snd.snd.snd.snd.snd.snd.snd.fst,
 ()))
 fun b =>
 bif b.fst then
 Option.bind
 (F143
 (x.fst.snd.snd.snd.snd.snd.snd.snd.snd.fst,
 x.snd.fst.snd.snd.snd.snd.snd.snd.snd.snd.fst, ()))
 fun b =>
 bif b.fst then
 Option.bind
 (F143
 (x.fst.snd.snd.snd.snd.snd.snd.snd.snd.snd.fst,
 x.snd.fst.snd.snd.snd.snd.snd.snd.snd.snd.snd.fst, ()))
 fun b =>
 bif b.fst then
 Option.bind
 (F67
 (x.fst.snd.snd.snd.snd.snd.snd.snd.snd.snd.snd.snd.snd.snd.snd.fst,
 x.snd.fst.snd.snd.snd.snd.snd.snd.snd.snd.snd.snd.snd.snd.snd.snd.fst,
 ()))
 fun b =>
 bif b.fst then
 Option.bind
 (F144
 (x.fst.snd.snd.snd.snd.snd.snd.snd.snd.snd.snd.snd.snd.snd.snd.snd.fst,
 x.snd.fst.snd.snd.snd.snd.snd.snd.snd.snd.snd.snd.snd.snd.snd.snd.snd.fst,
 ()))
 fun b =>
 bif b.fst then
 Option.bind
 (F145
 (x.fst.snd.snd.snd.snd.snd.snd.snd.snd.snd.snd.snd.snd.snd.snd.snd.snd.fst,
 x.snd.fst.snd.snd.snd.snd.snd.snd.snd.snd.snd.snd.snd.snd.snd.snd.snd.snd))
 fun b => some b
 else some (false, ())
 else some (false, ())
 else some (false, ())
 else some (false, ())
 else some (false, ())
 else some (false, ())
 else some (false, ())
 else some (false, ())
 else some (false, ())
 else some (false, ())
 else some (false, ())
 else some (false, ())
 else some (false, ())
 else some (false, ())
 else some (false, ())
 else some (false, ())
def S64 : Sig := ⟨P64, R64, F64⟩
noncomputable def E64 : Env := { tab := tab, nt := 122, Γ := lookG [(67, [S67]), (142, [S142]), (143, [S143]), (144, [S144]), (145, [S145])], joins := lookN [], loops := lookN [] }
theorem raw64_eq (x : T28D × T28D × Unit) : afun E64 Tryz.f64 P64 R64 x = F64 x := by kernel_rfl
-- decamp/decampref15.SameBatches
def F66 (x : List TBD × List TBD × Unit) : Option (Bool × Unit) :=
 bif !decide (Int.ofNat (List.length x.fst) = Int.ofNat (List.length x.snd.fst)) then some (false, ())
 else
 iterE (Int × Unit) (Bool × Unit)
 (fun (x_1 : Int × Unit) =>
 bif decide (x_1.fst < Int.ofNat (List.length x.fst)) then
 Option.bind (idx x.fst x_1.fst)
 fun b =>
 Option.bind (idx x.snd.fst x_1.fst)
 fun b_1 =>
 bif !decide (b.fst = b_1.fst) then some (Sum.inr (false, ()))
 else
 Option.bind (idx x.fst x_1.fst)
 fun b =>
 Option.bind (idx x.snd.fst x_1.fst)
 fun b_2 =>
 Option.bind (F67 (b.snd.fst, b_2.snd)) fun b =>
 bif !b.fst then some (Sum.inr (false, ()))
 else some (Sum.inl (wrap64 (x_1.fst + 1), ()))
 else some (Sum.inr (true, ())))
 big (0, ())
def S66 : Sig := ⟨P66, R66, F66⟩
noncomputable def E66 : Env := { tab := tab, nt := 42, Γ := lookG [(67, [S67])], joins := lookN [], loops := lookN [(4, mkLoop ⟨[⟨.slot 13, (.int .i64), .pv⟩], [0, 1, 12], []⟩)] }
theorem raw66_eq (x : List TBD × List TBD × Unit) : afun E66 Tryz.f66 P66 R66 x = F66 x := by kernel_rfl
-- decamp/decampref17.SameHand
def F68 (x : T55D × T55D × Unit) : Option (Bool × Unit) :=
 bif decide (x.fst.fst = x.snd.fst.fst) then
 bif decide (x.fst.snd.fst = x.snd.fst.snd.fst) then
 Option.bind (F144 (x.fst.snd.snd.fst, x.snd.fst.snd.snd.fst, ())) fun b =>
 bif b.fst then
 Option.bind (F145 (x.fst.snd.snd.snd.fst, x.snd.fst.snd.snd.snd)) fun b => some b
 else some (false, ())
 else some (false, ())
 else some (false, ())
def S68 : Sig := ⟨P68, R68, F68⟩
noncomputable def E68 : Env := { tab := tab, nt := 31, Γ := lookG [(144, [S144]), (145, [S145])], joins := lookN [], loops := lookN [] }
theorem raw68_eq (x : T55D × T55D × Unit) : afun E68 Tryz.f68 P68 R68 x = F68 x := by kernel_rfl
-- decamp/decampref22.Same
def F15 (x : TMD × TMD × Unit) : Option (Bool × Unit) :=
 bif decide (x.fst.fst = x.snd.fst.fst) then
 bif decide (x.fst.snd.fst = x.snd.fst.snd.fst) then
 Option.bind (F63 (x.fst.snd.snd.fst, x.snd.fst.snd.snd.fst, ())) fun b =>
 bif b.fst then
 bif decide (x.fst.snd.snd.snd.fst.fst = x.snd.fst.snd.snd.snd.fst.fst) then
 bif decide (x.fst.snd.snd.snd.fst.snd.fst = x.snd.fst.snd.snd.snd.fst.snd.fst) then
 Option.bind (F64 (x.fst.snd.snd.snd.fst.snd.snd.fst, x.snd.fst.snd.snd.snd.fst.snd.snd))
 fun b =>
 bif b.fst then
 bif decide (x.fst.snd.snd.snd.snd.fst = x.snd.fst.snd.snd.snd.snd.fst) then
 bif decide (x.fst.snd.snd.snd.snd.snd.fst = x.snd.fst.snd.snd.snd.snd.snd.fst) then
 bif decide (x.fst.snd.snd.snd.snd.snd.snd.fst = x.snd.fst.snd.snd.snd.snd.snd.snd.fst) then
 bif
 decide
 (x.fst.snd.snd.snd.snd.snd.snd.snd.fst = x.snd.fst.snd.snd.snd.snd.snd.snd.snd.fst) then
 bif
 decide
 (x.fst.snd.snd.snd.snd.snd.snd.snd.snd.fst =
 x.snd.fst.snd.snd.snd.snd.snd.snd.snd.snd.fst) then
 bif
 decide
 (x.fst.snd.snd.snd.snd.snd.snd.snd.snd.snd.fst =
 x.snd.fst.snd.snd.snd.snd.snd.snd.snd.snd.snd.fst) then
 bif
 decide
 (x.fst.snd.snd.snd.snd.snd.snd.snd.snd.snd.snd.fst =
 x.snd.fst.snd.snd.snd.snd.snd.snd.snd.snd.snd.snd.fst) then
 Option.bind
 (F65
 (x.fst.snd.snd.snd.snd.snd.snd.snd.snd.snd.snd.snd.fst,
 x.snd.fst.snd.snd.snd.snd.snd.snd.snd.snd.snd.snd.snd.fst, ()))
 fun b =>
 bif b.fst then
 Option.bind
 (F66
 (x.fst.snd.snd.snd.snd.snd.snd.snd.snd.snd.snd.snd.snd.fst,
 x.snd.fst.snd.snd.snd.snd.snd.snd.snd.snd.snd.snd.snd.snd.fst, ()))
 fun b =>
 bif b.fst then
 Option.bind
 (F67
 (x.fst.snd.snd.snd.snd.snd.snd.snd.snd.snd.snd.snd.snd.snd.fst,
 x.snd.fst.snd.snd.snd.snd.snd.snd.snd.snd.snd.snd.snd.snd.snd.fst,
 ()))
 fun b =>
 bif b.fst then
 bif
 x.fst.snd.snd.snd.snd.snd.snd.snd.snd.snd.snd.snd.snd.snd.snd.fst ==
 x.snd.fst.snd.snd.snd.snd.snd.snd.snd.snd.snd.snd.snd.snd.snd.snd.fst then
 Option.bind
 (F68
 (x.fst.snd.snd.snd.snd.snd.snd.snd.snd.snd.snd.snd.snd.snd.snd.snd.fst,
 x.snd.fst.snd.snd.snd.snd.snd.snd.snd.snd.snd.snd.snd.snd.snd.snd.snd.fst,
 ()))
 fun b =>
 bif b.fst then
 some
 (decide
 (x.fst.snd.snd.snd.snd.snd.snd.snd.snd.snd.snd.snd.snd.snd.snd.snd.snd.fst.fst =
 x.snd.fst.snd.snd.snd.snd.snd.snd.snd.snd.snd.snd.snd.snd.snd.snd.snd.snd.fst.fst) &&
 (decide
 (x.fst.snd.snd.snd.snd.snd.snd.snd.snd.snd.snd.snd.snd.snd.snd.snd.snd.fst.snd.fst =
 x.snd.fst.snd.snd.snd.snd.snd.snd.snd.snd.snd.snd.snd.snd.snd.snd.snd.snd.fst.snd.fst) &&
 (decide
 (x.fst.snd.snd.snd.snd.snd.snd.snd.snd.snd.snd.snd.snd.snd.snd.snd.snd.fst.snd.snd.fst =
 x.snd.fst.snd.snd.snd.snd.snd.snd.snd.snd.snd.snd.snd.snd.snd.snd.snd.snd.fst.snd.snd.fst) &&
 (decide
 (x.fst.snd.snd.snd.snd.snd.snd.snd.snd.snd.snd.snd.snd.snd.snd.snd.snd.fst.snd.snd.snd.fst =
 x.snd.fst.snd.snd.snd.snd.snd.snd.snd.snd.snd.snd.snd.snd.snd.snd.snd.snd.fst.snd.snd.snd.fst) &&
 (decide
 (x.fst.snd.snd.snd.snd.snd.snd.snd.snd.snd.snd.snd.snd.snd.snd.snd.snd.fst.snd.snd.snd.snd.fst =
 x.snd.fst.snd.snd.snd.snd.snd.snd.snd.snd.snd.snd.snd.snd.snd.snd.snd.snd.fst.snd.snd.snd.snd.fst) &&
 (decide
 (x.fst.snd.snd.snd.snd.snd.snd.snd.snd.snd.snd.snd.snd.snd.snd.snd.snd.fst.snd.snd.snd.snd.snd.fst =
 x.snd.fst.snd.snd.snd.snd.snd.snd.snd.snd.snd.snd.snd.snd.snd.snd.snd.snd.fst.snd.snd.snd.snd.snd.fst) &&
 (decide
 (x.fst.snd.snd.snd.snd.snd.snd.snd.snd.snd.snd.snd.snd.snd.snd.snd.snd.fst.snd.snd.snd.snd.snd.snd.fst =
 x.snd.fst.snd.snd.snd.snd.snd.snd.snd.snd.snd.snd.snd.snd.snd.snd.snd.snd.fst.snd.snd.snd.snd.snd.snd.fst) &&
 (decide
 (x.fst.snd.snd.snd.snd.snd.snd.snd.snd.snd.snd.snd.snd.snd.snd.snd.snd.fst.snd.snd.snd.snd.snd.snd.snd.fst =
 x.snd.fst.snd.snd.snd.snd.snd.snd.snd.snd.snd.snd.snd.snd.snd.snd.snd.snd.fst.snd.snd.snd.snd.snd.snd.snd.fst) &&
 (decide
 (x.fst.snd.snd.snd.snd.snd.snd.snd.snd.snd.snd.snd.snd.snd.snd.snd.snd.fst.snd.snd.snd.snd.snd.snd.snd.snd.fst =
 x.snd.fst.snd.snd.snd.snd.snd.snd.snd.snd.snd.snd.snd.snd.snd.snd.snd.snd.fst.snd.snd.snd.snd.snd.snd.snd.snd.fst) &&
 (decide
 (x.fst.snd.snd.snd.snd.snd.snd.snd.snd.snd.snd.snd.snd.snd.snd.snd.snd.fst.snd.snd.snd.snd.snd.snd.snd.snd.snd.fst =
 x.snd.fst.snd.snd.snd.snd.snd.snd.snd.snd.snd.snd.snd.snd.snd.snd.snd.snd.fst.snd.snd.snd.snd.snd.snd.snd.snd.snd.fst) &&
 true))))))))),
 ())
 else some (false, ())
 else some (false, ())
 else some (false, ())
 else some (false, ())
 else some (false, ())
 else some (false, ())
 else some (false, ())
 else some (false, ())
 else some (false, ())
 else some (false, ())
 else some (false, ())
 else some (false, ())
 else some (false, ())
 else some (false, ())
 else some (false, ())
 else some (false, ())
 else some (false, ())
 else some (false, ())
def S15 : Sig := ⟨P15, R15, F15⟩
noncomputable def E15 : Env := { tab := tab, nt := 142, Γ := lookG [(63, [S63]), (64, [S64]), (65, [S65]), (66, [S66]), (67, [S67]), (68, [S68])], joins := lookN [], loops := lookN [] }
theorem raw15_eq (x : TMD × TMD × Unit) : afun E15 Tryz.f15 P15 R15 x = F15 x := by kernel_rfl
-- decamp/decampref22.bare
def F33 (x : TMD × Unit) : Option (TMD × Unit) :=
 bif decide (x.fst.fst = 1) then
 some
 ((1, 0, x.fst.snd.snd.fst,
 (0, 0, (0, [], [], [], 0, 0, 0, [], [], [], 0, 0, 0, false, [], [], [], ()), ()), 0, [], [],
 0, 0, 0, 0, (0, 0, false, 0, [], 0, 0, ()), [], [], false, (0, 0, [], [], ()),
 (0, 0, 0, [], [], 0, [], 0, 0, 0, ()), ()),
 ())
 else
 Option.bind
 (bif decide (x.fst.fst = 2) then some (Sum.inl (x.fst.snd.snd.snd.fst, ()))
 else
 some
 (Sum.inl
 ((0, 0, (0, [], [], [], 0, 0, 0, [], [], [], 0, 0, 0, false, [], [], [], ()), ()),
 ())))
 fun o =>
 Sum.elim
 (fun (x_1 :
 (Int × Int × (Int × List UInt8 × List UInt8 × List UInt8 × Int × Int × Int × List T96D × List T48D × List T48D × Int × Int × Int × Bool × List
 T70D × List
 (Int × Int × (Int × Int × Bool × Int × List
 T70D × Int × Int × Unit) × Unit) × List T113D × Unit) × Unit) × Unit) =>
 Option.bind
 (bif decide (x.fst.fst = 3) then some (Sum.inl (x.fst.snd.snd.snd.snd.fst, ()))
 else
 bif decide (x.fst.fst = 4) then some (Sum.inl (x.fst.snd.snd.snd.snd.fst, ()))
 else some (Sum.inl (0, ())))
 fun o =>
 Sum.elim
 (fun (x_2 : Int × Unit) =>
 Option.bind
 (bif decide (3 ≤ x.fst.fst) then
 bif decide (x.fst.fst ≤ 5) then
 some (Sum.inl (x.fst.snd.snd.snd.snd.snd.fst, x.fst.snd.snd.snd.snd.snd.snd.fst, ()))
 else some (Sum.inl ([], [], ()))
 else some (Sum.inl ([], [], ())))
 fun o =>
 Sum.elim
 (fun (x_3 : List UInt8 × T83D) =>
 Option.bind
 (bif decide (3 ≤ x.fst.fst) then
 bif decide (x.fst.fst ≤ 6) then
 some (Sum.inl (x.fst.snd.snd.snd.snd.snd.snd.snd.fst, ()))
 else
 bif decide (x.fst.fst = 9) then
 some (Sum.inl (x.fst.snd.snd.snd.snd.snd.snd.snd.fst, ()))
 else
 bif decide (x.fst.fst = 12) then
 some (Sum.inl (x.fst.snd.snd.snd.snd.snd.snd.snd.fst, ()))
 else some (Sum.inl (0, ()))
 else
 bif decide (x.fst.fst = 9) then
 some (Sum.inl (x.fst.snd.snd.snd.snd.snd.snd.snd.fst, ()))
 else
 bif decide (x.fst.fst = 12) then
 some (Sum.inl (x.fst.snd.snd.snd.snd.snd.snd.snd.fst, ()))
 else some (Sum.inl (0, ())))
 fun o =>
 Sum.elim
 (fun (x_4 : Int × Unit) =>
 Option.bind
 (bif decide (x.fst.fst = 3) then
 some (Sum.inl (x.fst.snd.snd.snd.snd.snd.snd.snd.snd.fst, ()))
 else some (Sum.inl (0, ())))
 fun o =>
 Sum.elim
 (fun (x_5 : Int × Unit) =>
 Option.bind
 (bif decide (8 ≤ x.fst.fst) then
 bif decide (x.fst.fst ≤ 11) then
 some (Sum.inl (x.fst.snd.snd.snd.snd.snd.snd.snd.snd.snd.fst, ()))
 else some (Sum.inl (0, ()))
 else some (Sum.inl (0, ())))
 fun o =>
 Sum.elim
 (fun (x_6 : Int × Unit) =>
 Option.bind
 (bif decide (x.fst.fst = 8) then
 some
 (Sum.inl
 (x.fst.snd.snd.snd.snd.snd.snd.snd.snd.snd.snd.fst,
 x.fst.snd.snd.snd.snd.snd.snd.snd.snd.snd.snd.snd.fst, [], [], false,
 (0, 0, [], [], ()),
 (0, 0, 0, [], [], 0, [], 0, 0, 0, ()), ()))
 else
 bif decide (x.fst.fst = 9) then
 some
 (Sum.inl
 (0, (0, 0, false, 0, [], 0, 0, ()),
 x.fst.snd.snd.snd.snd.snd.snd.snd.snd.snd.snd.snd.snd.fst, [],
 false, (0, 0, [], [], ()),
 (0, 0, 0, [], [], 0, [], 0, 0, 0, ()), ()))
 else
 bif decide (x.fst.fst = 10) then
 some
 (Sum.inl
 (0, (0, 0, false, 0, [], 0, 0, ()), [],
 x.fst.snd.snd.snd.snd.snd.snd.snd.snd.snd.snd.snd.snd.snd.fst,
 x.fst.snd.snd.snd.snd.snd.snd.snd.snd.snd.snd.snd.snd.snd.snd.fst,
 (0, 0, [], [], ()),
 (0, 0, 0, [], [], 0, [], 0, 0, 0, ()), ()))
 else
 bif decide (x.fst.fst = 11) then
 some
 (Sum.inl
 (0, (0, 0, false, 0, [], 0, 0, ()), [], [], false,
 x.fst.snd.snd.snd.snd.snd.snd.snd.snd.snd.snd.snd.snd.snd.snd.snd.fst,
 (0, 0, 0, [], [], 0, [], 0, 0, 0, ()), ()))
 else
 bif decide (x.fst.fst = 12) then
 some
 (Sum.inl
 (0, (0, 0, false, 0, [], 0, 0, ()), [], [], false,
 (0, 0, [], [], ()),
 x.fst.snd.snd.snd.snd.snd.snd.snd.snd.snd.snd.snd.snd.snd.snd.snd.snd))
 else
 some
 (Sum.inl
 (0, (0, 0, false, 0, [], 0, 0, ()), [], [], false,
 (0, 0, [], [], ()),
 (0, 0, 0, [], [], 0, [], 0, 0, 0, ()), ())))
 fun o =>
 Sum.elim
 (fun (x_7 :
 Int × (Int × Int × Bool × Int × List
 T70D × Int × Int × Unit) × List
 (Int × List
 T70D × Unit) × List
 T70D × Bool × (Int × Int × List
 (Int × Int × (Int × Int × Bool × Int × List
 T70D × Int × Int × Unit) × Unit) × List T113D × Unit) × T53D × Unit) =>
 some
 ((x.fst.fst, x.fst.snd.fst,
 (0, 0, 0, 0, 0, 0, 0, 0, false, [], (0, 0, [], ()),
 ()),
 x_1.fst, x_2.fst, x_3.fst, x_3.snd.fst, x_4.fst, x_5.fst, x_6.fst,
 x_7),
 ()))
 (fun (val :
 (Int × Int × (Int × Int × Int × Int × Int × Int × Int × Int × Bool × List T25D × T25D × Unit) × (Int × Int × (Int × List UInt8 × List UInt8 × List UInt8 × Int × Int × Int × List
 T96D × List
 T48D × List
 T48D × Int × Int × Int × Bool × List
 (List UInt8 × (Int × Int × Int × Int × List
 UInt8 × Int × Bool × Unit) × Unit) × List
 (Int × Int × (Int × Int × Bool × Int × List
 (List
 UInt8 × (Int × Int × Int × Int × List
 UInt8 × Int × Bool × Unit) × Unit) × Int × Int × Unit) × Unit) × List
 T113D × Unit) × Unit) × Int × List UInt8 × List UInt8 × Int × Int × Int × Int × (Int × Int × Bool × Int × List
 T70D × Int × Int × Unit) × List
 (Int × List
 T70D × Unit) × List
 T70D × Bool × (Int × Int × List
 (Int × Int × (Int × Int × Bool × Int × List
 (List
 UInt8 × (Int × Int × Int × Int × List
 UInt8 × Int × Bool × Unit) × Unit) × Int × Int × Unit) × Unit) × List
 T113D × Unit) × T53D × Unit) × Unit) =>
 some val)
 o)
 (fun (val :
 (Int × Int × (Int × Int × Int × Int × Int × Int × Int × Int × Bool × List T25D × T25D × Unit) × (Int × Int × (Int × List UInt8 × List UInt8 × List UInt8 × Int × Int × Int × List
 T96D × List
 T48D × List
 T48D × Int × Int × Int × Bool × List
 T70D × List
 (Int × Int × (Int × Int × Bool × Int × List
 (List
 UInt8 × (Int × Int × Int × Int × List
 UInt8 × Int × Bool × Unit) × Unit) × Int × Int × Unit) × Unit) × List
 T113D × Unit) × Unit) × Int × List UInt8 × List UInt8 × Int × Int × Int × Int × (Int × Int × Bool × Int × List
 T70D × Int × Int × Unit) × List
 (Int × List
 T70D × Unit) × List
 T70D × Bool × (Int × Int × List
 (Int × Int × (Int × Int × Bool × Int × List
 (List UInt8 × (Int × Int × Int × Int × List
 UInt8 × Int × Bool × Unit) × Unit) × Int × Int × Unit) × Unit) × List T113D × Unit) × T53D × Unit) × Unit) =>
 some val)
 o)
 (fun (val :
 (Int × Int × (Int × Int × Int × Int × Int × Int × Int × Int × Bool × List T25D × T25D × Unit) × (Int × Int × (Int × List UInt8 × List UInt8 × List UInt8 × Int × Int × Int × List
 T96D × List
 T48D × List
 T48D × Int × Int × Int × Bool × List
 T70D × List
 (Int × Int × (Int × Int × Bool × Int × List
 (List UInt8 × (Int × Int × Int × Int × List
 UInt8 × Int × Bool × Unit) × Unit) × Int × Int × Unit) × Unit) × List T113D × Unit) × Unit) × Int × List UInt8 × List UInt8 × Int × Int × Int × Int × (Int × Int × Bool × Int × List
 T70D × Int × Int × Unit) × List
 (Int × List
 T70D × Unit) × List
 T70D × Bool × (Int × Int × List
 (Int × Int × (Int × Int × Bool × Int × List
 (List UInt8 × (Int × Int × Int × Int × List
 UInt8 × Int × Bool × Unit) × Unit) × Int × Int × Unit) × Unit) × List T113D × Unit) × T53D × Unit) × Unit) =>
 some val)
 o)
 (fun (val :
 (Int × Int × (Int × Int × Int × Int × Int × Int × Int × Int × Bool × List T25D × T25D × Unit) × (Int × Int × (Int × List UInt8 × List UInt8 × List UInt8 × Int × Int × Int × List T96D × List
 T48D × List
 T48D × Int × Int × Int × Bool × List
 T70D × List
 (Int × Int × (Int × Int × Bool × Int × List
 (List UInt8 × (Int × Int × Int × Int × List
 UInt8 × Int × Bool × Unit) × Unit) × Int × Int × Unit) × Unit) × List T113D × Unit) × Unit) × Int × List UInt8 × List UInt8 × Int × Int × Int × Int × (Int × Int × Bool × Int × List
 T70D × Int × Int × Unit) × List
 (Int × List
 T70D × Unit) × List
 T70D × Bool × (Int × Int × List
 (Int × Int × (Int × Int × Bool × Int × List
 T70D × Int × Int × Unit) × Unit) × List T113D × Unit) × T53D × Unit) × Unit) =>
 some val)
 o)
 (fun (val :
 (Int × Int × (Int × Int × Int × Int × Int × Int × Int × Int × Bool × List T25D × T25D × Unit) × (Int × Int × (Int × List UInt8 × List UInt8 × List UInt8 × Int × Int × Int × List T96D × List
 T48D × List
 T48D × Int × Int × Int × Bool × List
 T70D × List
 (Int × Int × (Int × Int × Bool × Int × List
 T70D × Int × Int × Unit) × Unit) × List T113D × Unit) × Unit) × Int × List UInt8 × List UInt8 × Int × Int × Int × Int × (Int × Int × Bool × Int × List
 T70D × Int × Int × Unit) × List
 (Int × List
 T70D × Unit) × List
 T70D × Bool × (Int × Int × List
 (Int × Int × (Int × Int × Bool × Int × List
 T70D × Int × Int × Unit) × Unit) × List T113D × Unit) × T53D × Unit) × Unit) =>
 some val)
 o)
 (fun (val :
 (Int × Int × (Int × Int × Int × Int × Int × Int × Int × Int × Bool × List T25D × T25D × Unit) × (Int × Int × (Int × List UInt8 × List UInt8 × List UInt8 × Int × Int × Int × List T96D × List T48D × List T48D × Int × Int × Int × Bool × List
 T70D × List
 (Int × Int × (Int × Int × Bool × Int × List
 T70D × Int × Int × Unit) × Unit) × List T113D × Unit) × Unit) × Int × List UInt8 × List UInt8 × Int × Int × Int × Int × (Int × Int × Bool × Int × List
 T70D × Int × Int × Unit) × List
 (Int × List
 T70D × Unit) × List
 T70D × Bool × (Int × Int × List
 (Int × Int × (Int × Int × Bool × Int × List
 T70D × Int × Int × Unit) × Unit) × List T113D × Unit) × T53D × Unit) × Unit) =>
 some val)
 o)
 (fun (val :
 (Int × Int × (Int × Int × Int × Int × Int × Int × Int × Int × Bool × List T25D × T25D × Unit) × (Int × Int × (Int × List UInt8 × List UInt8 × List UInt8 × Int × Int × Int × List T96D × List T48D × List T48D × Int × Int × Int × Bool × List
 T70D × List
 (Int × Int × (Int × Int × Bool × Int × List
 T70D × Int × Int × Unit) × Unit) × List T113D × Unit) × Unit) × Int × List UInt8 × List UInt8 × Int × Int × Int × Int × (Int × Int × Bool × Int × List
 T70D × Int × Int × Unit) × List
 (Int × List
 T70D × Unit) × List
 T70D × Bool × (Int × Int × List
 (Int × Int × (Int × Int × Bool × Int × List
 T70D × Int × Int × Unit) × Unit) × List T113D × Unit) × T53D × Unit) × Unit) =>
 some val)
 o
def S33 : Sig := ⟨P33, R33, F33⟩
noncomputable def E33 : Env := { tab := tab, nt := 106, Γ := lookG [], joins := lookN [(7, ⟨[⟨.fld 2005000 3, T33, .pv⟩], [1, 2, 3, 4], [.site 2005000, .fld 2005000 0, .fld 2005000 1, .fld 2005000 2, .fld 2005000 4, .fld 2005000 5, .fld 2005000 6, .fld 2005000 7, .fld 2005000 8, .fld 2005000 9, .fld 2005000 10, .fld 2005000 11, .fld 2005000 12, .fld 2005000 13, .fld 2005000 14, .fld 2005000 15, .fld 2005000 16, .site 2000, .fld 2000 0, .fld 2000 1, .fld 2000 2, .fld 2000 3, .fld 2000 4, .fld 2000 5, .fld 2000 6, .fld 2000 7, .fld 2000 8, .fld 2000 9, .fld 2000 10, .fld 2000 11, .fld 2000 12, .fld 2000 13, .fld 2000 14, .fld 2000 15, .fld 2000 16, .site 1000, .fld 1000 0, .fld 1000 1, .fld 1000 2, .fld 1000 3, .fld 1000 4, .fld 1000 5, .fld 1000 6, .fld 1000 7, .fld 1000 8, .fld 1000 9, .fld 1000 10, .fld 1000 11, .fld 1000 12, .fld 1000 13, .fld 1000 14, .fld 1000 15, .fld 1000 16]⟩), (9, ⟨[⟨.fld 2005000 4, (.int .i64), .pv⟩], [1, 2, 3, 4], [.site 2005000, .fld 2005000 0, .fld 2005000 1, .fld 2005000 2, .fld 2005000 3, .fld 2005000 5, .fld 2005000 6, .fld 2005000 7, .fld 2005000 8, .fld 2005000 9, .fld 2005000 10, .fld 2005000 11, .fld 2005000 12, .fld 2005000 13, .fld 2005000 14, .fld 2005000 15, .fld 2005000 16, .site 2000, .fld 2000 0, .fld 2000 1, .fld 2000 2, .fld 2000 3, .fld 2000 4, .fld 2000 5, .fld 2000 6, .fld 2000 7, .fld 2000 8, .fld 2000 9, .fld 2000 10, .fld 2000 11, .fld 2000 12, .fld 2000 13, .fld 2000 14, .fld 2000 15, .fld 2000 16, .site 1000, .fld 1000 0, .fld 1000 1, .fld 1000 2, .fld 1000 3, .fld 1000 4, .fld 1000 5, .fld 1000 6, .fld 1000 7, .fld 1000 8, .fld 1000 9, .fld 1000 10, .fld 1000 11, .fld 1000 12, .fld 1000 13, .fld 1000 14, .fld 1000 15, .fld 1000 16]⟩), (11, ⟨[⟨.fld 2005000 5, .str, .pv⟩, ⟨.fld 2005000 6, .str, .pv⟩], [1, 2, 3, 4], [.site 2005000, .fld 2005000 0, .fld 2005000 1, .fld 2005000 2, .fld 2005000 3, .fld 2005000 4, .fld 2005000 7, .fld 2005000 8, .fld 2005000 9, .fld 2005000 10, .fld 2005000 11, .fld 2005000 12, .fld 2005000 13, .fld 2005000 14, .fld 2005000 15, .fld 2005000 16, .site 2000, .fld 2000 0, .fld 2000 1, .fld 2000 2, .fld 2000 3, .fld 2000 4, .fld 2000 5, .fld 2000 6, .fld 2000 7, .fld 2000 8, .fld 2000 9, .fld 2000 10, .fld 2000 11, .fld 2000 12, .fld 2000 13, .fld 2000 14, .fld 2000 15, .fld 2000 16, .site 1000, .fld 1000 0, .fld 1000 1, .fld 1000 2, .fld 1000 3, .fld 1000 4, .fld 1000 5, .fld 1000 6, .fld 1000 7, .fld 1000 8, .fld 1000 9, .fld 1000 10, .fld 1000 11, .fld 1000 12, .fld 1000 13, .fld 1000 14, .fld 1000 15, .fld 1000 16]⟩), (13, ⟨[⟨.fld 2005000 7, (.int .i64), .pv⟩], [1, 2, 3, 4], [.site 2005000, .fld 2005000 0, .fld 2005000 1, .fld 2005000 2, .fld 2005000 3, .fld 2005000 4, .fld 2005000 5, .fld 2005000 6, .fld 2005000 8, .fld 2005000 9, .fld 2005000 10, .fld 2005000 11, .fld 2005000 12, .fld 2005000 13, .fld 2005000 14, .fld 2005000 15, .fld 2005000 16, .site 2000, .fld 2000 0, .fld 2000 1, .fld 2000 2, .fld 2000 3, .fld 2000 4, .fld 2000 5, .fld 2000 6, .fld 2000 7, .fld 2000 8, .fld 2000 9, .fld 2000 10, .fld 2000 11, .fld 2000 12, .fld 2000 13, .fld 2000 14, .fld 2000 15, .fld 2000 16, .site 1000, .fld 1000 0, .fld 1000 1, .fld 1000 2, .fld 1000 3, .fld 1000 4, .fld 1000 5, .fld 1000 6, .fld 1000 7, .fld 1000 8, .fld 1000 9, .fld 1000 10, .fld 1000 11, .fld 1000 12, .fld 1000 13, .fld 1000 14, .fld 1000 15, .fld 1000 16]⟩), (15, ⟨[⟨.fld 2005000 8, (.int .i64), .pv⟩], [1, 2, 3, 4], [.site 2005000, .fld 2005000 0, .fld 2005000 1, .fld 2005000 2, .fld 2005000 3, .fld 2005000 4, .fld 2005000 5, .fld 2005000 6, .fld 2005000 7, .fld 2005000 9, .fld 2005000 10, .fld 2005000 11, .fld 2005000 12, .fld 2005000 13, .fld 2005000 14, .fld 2005000 15, .fld 2005000 16, .site 2000, .fld 2000 0, .fld 2000 1, .fld 2000 2, .fld 2000 3, .fld 2000 4, .fld 2000 5, .fld 2000 6, .fld 2000 7, .fld 2000 8, .fld 2000 9, .fld 2000 10, .fld 2000 11, .fld 2000 12, .fld 2000 13, .fld 2000 14, .fld 2000 15, .fld 2000 16, .site 1000, .fld 1000 0, .fld 1000 1, .fld 1000 2, .fld 1000 3, .fld 1000 4, .fld 1000 5, .fld 1000 6, .fld 1000 7, .fld 1000 8, .fld 1000 9, .fld 1000 10, .fld 1000 11, .fld 1000 12, .fld 1000 13, .fld 1000 14, .fld 1000 15, .fld 1000 16]⟩), (17, ⟨[⟨.fld 2005000 9, (.int .i64), .pv⟩], [1, 2, 3, 4], [.site 2005000, .fld 2005000 0, .fld 2005000 1, .fld 2005000 2, .fld 2005000 3, .fld 2005000 4, .fld 2005000 5, .fld 2005000 6, .fld 2005000 7, .fld 2005000 8, .fld 2005000 10, .fld 2005000 11, .fld 2005000 12, .fld 2005000 13, .fld 2005000 14, .fld 2005000 15, .fld 2005000 16, .site 2000, .fld 2000 0, .fld 2000 1, .fld 2000 2, .fld 2000 3, .fld 2000 4, .fld 2000 5, .fld 2000 6, .fld 2000 7, .fld 2000 8, .fld 2000 9, .fld 2000 10, .fld 2000 11, .fld 2000 12, .fld 2000 13, .fld 2000 14, .fld 2000 15, .fld 2000 16, .site 1000, .fld 1000 0, .fld 1000 1, .fld 1000 2, .fld 1000 3, .fld 1000 4, .fld 1000 5, .fld 1000 6, .fld 1000 7, .fld 1000 8, .fld 1000 9, .fld 1000 10, .fld 1000 11, .fld 1000 12, .fld 1000 13, .fld 1000 14, .fld 1000 15, .fld 1000 16]⟩), (28, ⟨[⟨.fld 2005000 10, (.int .i64), .pv⟩, ⟨.fld 2005000 11, T51, .pv⟩, ⟨.fld 2005000 12, (.slice TB), .pv⟩, ⟨.fld 2005000 13, (.slice T70), .pv⟩, ⟨.fld 2005000 14, .bool, .pv⟩, ⟨.fld 2005000 15, T55, .pv⟩, ⟨.fld 2005000 16, T53, .pv⟩], [2, 4], [.site 2005000, .fld 2005000 0, .fld 2005000 1, .fld 2005000 2, .fld 2005000 3, .fld 2005000 4, .fld 2005000 5, .fld 2005000 6, .fld 2005000 7, .fld 2005000 8, .fld 2005000 9, .site 2000, .fld 2000 0, .fld 2000 1, .fld 2000 2, .fld 2000 3, .fld 2000 4, .fld 2000 5, .fld 2000 6, .fld 2000 7, .fld 2000 8, .fld 2000 9, .fld 2000 10, .fld 2000 11, .fld 2000 12, .fld 2000 13, .fld 2000 14, .fld 2000 15, .fld 2000 16]⟩)], loops := lookN [] }
theorem raw33_eq (x : TMD × Unit) : afun E33 Tryz.f33 P33 R33 x = F33 x := by kernel_rfl
-- decamp/decampref11.number
def F104 (x : Int × Unit) : Option (Bool × Unit) :=
 bif decide (0 ≤ x.fst) then some (decide (x.fst ≤ 1099511627776), ()) else some (false, ())
def S104 : Sig := ⟨P104, R104, F104⟩
noncomputable def E104 : Env := { tab := tab, nt := 9, Γ := lookG [], joins := lookN [], loops := lookN [] }
theorem raw104_eq (x : Int × Unit) : afun E104 Tryz.f104 P104 R104 x = F104 x := by kernel_rfl
-- decamp/decampref11.bare
def F105 (x : T27D × Unit) : Option (Bool × Unit) := let o : Bool → Bool → Option (Bool × Unit) → Option (Bool × Unit) := (fun (p q : Bool) (r : Option (Bool × Unit)) => bif p then r else bif q then r else some (false, ()))

  (o (decide (x.1.1 = 1) || decide (x.1.1 = 3) || decide (x.1.1 = 5) || decide (x.1.1 = 6)) (decide (x.1.2.2.2.2.1 = 0))
  (o (decide (x.1.1 = 1) || decide (x.1.1 = 3) || decide (x.1.1 = 5)) (decide (x.1.2.2.2.2.2.1 = 0))
  (o (decide (x.1.1 = 5)) (decide (x.1.2.2.2.2.2.2.1 = 0)) 
  (o (decide (x.1.1 = 5)) (decide (Int.ofNat (List.length x.1.2.2.2.2.2.2.2.2.2.1) = 0))
  (o (decide (x.1.1 = 5) || decide (x.1.1 = 6)) (decide (x.1.2.2.2.2.2.2.2.1 = 0))
  (o (decide (x.1.1 = 2) || decide (x.1.1 = 4) || decide (x.1.1 = 6)) (!x.1.2.2.2.2.2.2.2.2.1)
  (bif decide (x.1.1 = 7) then some (true, ()) else bif decide (x.1.2.2.2.2.2.2.2.2.2.2.1.1 = 0) then bif decide (x.1.2.2.2.2.2.2.2.2.2.2.1.2.1 = 0) then some (decide (Int.ofNat (List.length x.1.2.2.2.2.2.2.2.2.2.2.1.2.2.1) = 0), ()) else some (false, ()) else some (false, ()))))))))
def S105 : Sig := ⟨P105, R105, F105⟩
noncomputable def E105 : Env := { tab := tab, nt := 114, Γ := lookG [], joins := lookN [(2, ⟨[⟨.slot 3, .bool, .pv⟩], [1], [.site 1000, .fld 1000 0, .fld 1000 1, .fld 1000 2, .fld 1000 3, .fld 1000 4, .fld 1000 5, .fld 1000 6, .fld 1000 7, .fld 1000 8, .fld 1000 9, .fld 1000 10]⟩), (3, ⟨[⟨.slot 4, .bool, .pv⟩], [1, 3], [.site 1000, .fld 1000 0, .fld 1000 1, .fld 1000 2, .fld 1000 3, .fld 1000 4, .fld 1000 5, .fld 1000 6, .fld 1000 7, .fld 1000 8, .fld 1000 9, .fld 1000 10]⟩)], loops := lookN [] }
-- decamp/decampref07.number
def F184 (x : Int × Unit) : Option (Bool × Unit) :=
 bif decide (1 ≤ x.fst) then some (decide (x.fst ≤ 1099511627776), ()) else some (false, ())
def S184 : Sig := ⟨P184, R184, F184⟩
noncomputable def E184 : Env := { tab := tab, nt := 9, Γ := lookG [], joins := lookN [], loops := lookN [] }
theorem raw184_eq (x : Int × Unit) : afun E184 Tryz.f184 P184 R184 x = F184 x := by kernel_rfl
-- decamp/decampref07.Right
def F183 (x : T25D × Unit) : Option (Bool × Unit) :=
 Option.bind (F184 (x.fst.fst, ())) fun b =>
 bif b.fst then
 Option.bind (F184 (x.fst.snd.fst, ())) fun b =>
 bif b.fst then some (decide (Int.ofNat (List.length x.fst.snd.snd.fst) ≤ 12000), ())
 else some (false, ())
 else some (false, ())
def S183 : Sig := ⟨P183, R183, F183⟩
noncomputable def E183 : Env := { tab := tab, nt := 17, Γ := lookG [(184, [S184])], joins := lookN [], loops := lookN [] }
theorem raw183_eq (x : T25D × Unit) : afun E183 Tryz.f183 P183 R183 x = F183 x := by kernel_rfl
-- decamp/decampref07.Run
def F106 (x : Int × Int × List T25D × Unit) : Option (Bool × Unit) :=
 iterE (Int × Int × Unit) (Bool × Unit)
 (fun (x_1 : Int × Int × Unit) =>
 bif decide (x_1.snd.fst < Int.ofNat (List.length x.snd.snd.fst)) then
 Option.bind (idx x.snd.snd.fst x_1.snd.fst) fun b =>
 Option.bind (F183 (b, ())) fun b =>
 bif !b.fst then some (Sum.inr (false, ()))
 else
 Option.bind (idx x.snd.snd.fst x_1.snd.fst) fun b =>
 bif decide (b.snd.fst < x_1.fst) then some (Sum.inr (false, ()))
 else
 Option.bind
 (bif decide (x_1.snd.fst = 0) then
 bif decide (x.fst < 0) then some (Sum.inr (Sum.inr (false, ())))
 else
 bif decide (1099511627776 ≤ x.fst) then some (Sum.inr (Sum.inr (false, ())))
 else
 Option.bind (idx x.snd.snd.fst x_1.snd.fst) fun b =>
 bif !decide (b.fst = wrap64 (x.fst + 1)) then
 some (Sum.inr (Sum.inr (false, ())))
 else
 bif decide (0 < x_1.snd.fst) then
 Option.bind (idx x.snd.snd.fst x_1.snd.fst) fun b =>
 Option.bind (idx x.snd.snd.fst (wrap64 (x_1.snd.fst - 1)))
 fun b_1 =>
 bif !decide (b.fst = wrap64 (b_1.fst + 1)) then
 some (Sum.inr (Sum.inr (false, ())))
 else some (Sum.inl ())
 else some (Sum.inl ())
 else
 bif decide (0 < x_1.snd.fst) then
 Option.bind (idx x.snd.snd.fst x_1.snd.fst) fun b =>
 Option.bind (idx x.snd.snd.fst (wrap64 (x_1.snd.fst - 1)))
 fun b_1 =>
 bif !decide (b.fst = wrap64 (b_1.fst + 1)) then
 some (Sum.inr (Sum.inr (false, ())))
 else some (Sum.inl ())
 else some (Sum.inl ()))
 fun o =>
 Sum.elim
 (fun (_z : Unit) =>
 Option.bind (idx x.snd.snd.fst x_1.snd.fst) fun b =>
 some (Sum.inl (b.snd.fst, wrap64 (x_1.snd.fst + 1), ())))
 (fun (val : Int × Int × Unit ⊕ Bool × Unit) => some val) o
 else some (Sum.inr (true, ())))
 big (x.snd.fst, 0, ())
def S106 : Sig := ⟨P106, R106, F106⟩
noncomputable def E106 : Env := { tab := tab, nt := 73, Γ := lookG [(183, [S183])], joins := lookN [(8, ⟨[], [0, 2, 7, 9, 10], []⟩)], loops := lookN [(2, mkLoop ⟨[⟨.slot 1, (.int .i64), .pv⟩, ⟨.slot 10, (.int .i64), .pv⟩], [0, 2, 9], []⟩)] }
theorem raw106_eq (x : Int × Int × List T25D × Unit) : afun E106 Tryz.f106 P106 R106 x = F106 x := by kernel_rfl
-- decamp/decampref07.Snap
def F107 (x : T25D × Unit) : Option (Bool × Unit) :=
 Option.bind
 (bif decide (x.fst.fst = 0) then
 bif decide (x.fst.snd.fst = 0) then
 some (Sum.inr (decide (Int.ofNat (List.length x.fst.snd.snd.fst) = 0), ()))
 else some (Sum.inl ())
 else some (Sum.inl ()))
 fun o =>
 Sum.elim
 (fun (_z : Unit) =>
 Option.bind (F184 (x.fst.fst, ())) fun b =>
 bif b.fst then
 Option.bind (F184 (x.fst.snd.fst, ())) fun b =>
 bif b.fst then some (decide (Int.ofNat (List.length x.fst.snd.snd.fst) ≤ 50000), ())
 else some (false, ())
 else some (false, ()))
 (fun (val : Bool × Unit) => some val) o
def S107 : Sig := ⟨P107, R107, F107⟩
noncomputable def E107 : Env := { tab := tab, nt := 29, Γ := lookG [(184, [S184])], joins := lookN [(3, ⟨[], [1], [.site 1000, .fld 1000 0, .fld 1000 1, .fld 1000 2]⟩)], loops := lookN [] }
theorem raw107_eq (x : T25D × Unit) : afun E107 Tryz.f107 P107 R107 x = F107 x := by kernel_rfl
-- decamp/decampref11.Right
def F34 (x : T27D × Unit) : Option (Bool × Unit) :=
 bif decide (x.fst.fst < 1) then some (false, ())
 else
 bif decide (7 < x.fst.fst) then some (false, ())
 else
 bif decide (x.fst.snd.fst < 0) then some (false, ())
 else
 bif decide (2 < x.fst.snd.fst) then some (false, ())
 else
 bif decide (x.fst.snd.snd.fst < 0) then some (false, ())
 else
 bif decide (2 < x.fst.snd.snd.fst) then some (false, ())
 else
 bif decide (x.fst.snd.fst = x.fst.snd.snd.fst) then some (false, ())
 else
 bif decide (x.fst.snd.snd.snd.fst < 1) then some (false, ())
 else
 Option.bind (F104 (x.fst.snd.snd.snd.fst, ())) fun b =>
 bif !b.fst then some (false, ())
 else
 Option.bind (F104 (x.fst.snd.snd.snd.snd.fst, ())) fun b =>
 bif !b.fst then some (false, ())
 else
 Option.bind (F104 (x.fst.snd.snd.snd.snd.snd.fst, ())) fun b =>
 bif !b.fst then some (false, ())
 else
 Option.bind (F104 (x.fst.snd.snd.snd.snd.snd.snd.fst, ()))
 fun b =>
 bif !b.fst then some (false, ())
 else
 Option.bind (F104 (x.fst.snd.snd.snd.snd.snd.snd.snd.fst, ()))
 fun b =>
 bif !b.fst then some (false, ())
 else
 Option.bind (F105 x) fun b =>
 bif !b.fst then some (false, ())
 else
 bif
 decide
 (4 <
 Int.ofNat
 (List.length x.fst.snd.snd.snd.snd.snd.snd.snd.snd.snd.fst)) then
 some (false, ())
 else
 Option.bind
 (F106
 (x.fst.snd.snd.snd.snd.fst, x.fst.snd.snd.snd.snd.snd.fst,
 x.fst.snd.snd.snd.snd.snd.snd.snd.snd.snd.fst, ()))
 fun b =>
 bif !b.fst then some (false, ())
 else
 iterE (Int × Unit) (Bool × Unit)
 (fun (x_1 : Int × Unit) =>
 bif
 decide
 (x_1.fst <
 Int.ofNat
 (List.length
 x.fst.snd.snd.snd.snd.snd.snd.snd.snd.snd.fst)) then
 Option.bind
 (idx x.fst.snd.snd.snd.snd.snd.snd.snd.snd.snd.fst x_1.fst)
 fun b =>
 bif decide (x.fst.snd.snd.snd.fst < b.snd.fst) then
 some (Sum.inr (false, ()))
 else
 some
 (Sum.inl
 (wrap64 (x_1.fst + 1), ()))
 else
 Option.map Sum.inr
 (bif !decide (x.fst.fst = 7) then some (true, ())
 else
 Option.bind
 (F107 x.fst.snd.snd.snd.snd.snd.snd.snd.snd.snd.snd)
 fun b =>
 bif b.fst then
 some
 (decide
 (0 <
 x.fst.snd.snd.snd.snd.snd.snd.snd.snd.snd.snd.fst.fst),
 ())
 else some (false, ())))
 big (0, ())
def S34 : Sig := ⟨P34, R34, F34⟩
noncomputable def E34 : Env := { tab := tab, nt := 121, Γ := lookG [(104, [S104]), (105, [S105]), (106, [S106]), (107, [S107])], joins := lookN [], loops := lookN [(8, mkLoop ⟨[⟨.slot 94, (.int .i64), .pv⟩], [1, 93], [.site 1000, .fld 1000 0, .fld 1000 1, .fld 1000 2, .fld 1000 3, .fld 1000 4, .fld 1000 5, .fld 1000 6, .fld 1000 7, .fld 1000 8, .fld 1000 9, .fld 1000 10]⟩)] }
theorem raw34_eq (x : T27D × Unit) : afun E34 Tryz.f34 P34 R34 x = F34 x := by kernel_rfl
-- decamp/decampref22.within
def F35 (x : Int × Int × Int × Unit) : Option (Bool × Unit) :=
 bif decide (x.snd.fst ≤ x.fst) then some (decide (x.fst ≤ x.snd.snd.fst), ()) else some (false, ())
def S35 : Sig := ⟨P35, R35, F35⟩
noncomputable def E35 : Env := { tab := tab, nt := 15, Γ := lookG [], joins := lookN [], loops := lookN [] }
theorem raw35_eq (x : Int × Int × Int × Unit) : afun E35 Tryz.f35 P35 R35 x = F35 x := by kernel_rfl
-- decamp/decampref15.text
def F111 (x : List UInt8 × UInt8 × Unit) : Option (Bool × Unit) :=
 iterE (Int × Unit) (Bool × Unit)
 (fun (x_1 : Int × Unit) =>
 bif decide (x_1.fst < Int.ofNat (List.length x.fst)) then
 Option.bind (idx x.fst x_1.fst) fun b =>
 bif decide (intOf8 b < intOf8 (UInt8.ofNat 33)) then some (Sum.inr (false, ()))
 else
 Option.bind (idx x.fst x_1.fst) fun b =>
 bif decide (intOf8 x.snd.fst < intOf8 b) then some (Sum.inr (false, ()))
 else some (Sum.inl (wrap64 (x_1.fst + 1), ()))
 else
 Option.map Sum.inr
 (bif decide (1 ≤ Int.ofNat (List.length x.fst)) then
 some (decide (Int.ofNat (List.length x.fst) ≤ 32), ())
 else some (false, ())))
 big (0, ())
def S111 : Sig := ⟨P111, R111, F111⟩
noncomputable def E111 : Env := { tab := tab, nt := 31, Γ := lookG [], joins := lookN [], loops := lookN [(2, mkLoop ⟨[⟨.slot 8, (.int .i64), .pv⟩], [0, 1, 7], []⟩)] }
theorem raw111_eq (x : List UInt8 × UInt8 × Unit) : afun E111 Tryz.f111 P111 R111 x = F111 x := by kernel_rfl
-- decamp/decampref15.Key
def F39 (x : List UInt8 × Unit) : Option (Bool × Unit) := Option.bind (F111 (x.fst, UInt8.ofNat 126, ())) fun b => some b
def S39 : Sig := ⟨P39, R39, F39⟩
noncomputable def E39 : Env := { tab := tab, nt := 5, Γ := lookG [(111, [S111])], joins := lookN [], loops := lookN [] }
theorem raw39_eq (x : List UInt8 × Unit) : afun E39 Tryz.f39 P39 R39 x = F39 x := by kernel_rfl
-- decamp/decampref15.Range
def F37 (x : List UInt8 × List UInt8 × Unit) : Option (Bool × Unit) :=
 Option.bind (F39 (x.fst, ())) fun b =>
 bif b.fst then
 bif decide (Int.ofNat (List.length x.snd.fst) = 0) then some (true, ())
 else
 Option.bind (F111 (x.snd.fst, UInt8.ofNat 127, ())) fun b =>
 bif b.fst then some (strlt x.fst x.snd.fst, ()) else some (false, ())
 else some (false, ())
def S37 : Sig := ⟨P37, R37, F37⟩
noncomputable def E37 : Env := { tab := tab, nt := 21, Γ := lookG [(39, [S39]), (111, [S111])], joins := lookN [], loops := lookN [] }
theorem raw37_eq (x : List UInt8 × List UInt8 × Unit) : afun E37 Tryz.f37 P37 R37 x = F37 x := by kernel_rfl
-- decamp/decampref17.Prefix
def F38 (x : List UInt8 × Unit) : Option (Bool × Unit) :=
 bif decide (Int.ofNat (List.length x.fst) ≤ 8) then Option.bind (F39 x) fun b => some b
 else some (false, ())
def S38 : Sig := ⟨P38, R38, F38⟩
noncomputable def E38 : Env := { tab := tab, nt := 10, Γ := lookG [(39, [S39])], joins := lookN [], loops := lookN [] }
theorem raw38_eq (x : List UInt8 × Unit) : afun E38 Tryz.f38 P38 R38 x = F38 x := by kernel_rfl
-- decamp/decampref17.within
def F109 (x : Int × Int × Int × Unit) : Option (Bool × Unit) :=
 bif decide (x.snd.fst ≤ x.fst) then some (decide (x.fst ≤ x.snd.snd.fst), ()) else some (false, ())
def S109 : Sig := ⟨P109, R109, F109⟩
noncomputable def E109 : Env := { tab := tab, nt := 15, Γ := lookG [], joins := lookN [], loops := lookN [] }
theorem raw109_eq (x : Int × Int × Int × Unit) : afun E109 Tryz.f109 P109 R109 x = F109 x := by kernel_rfl
-- decamp/decampref17.one
def F110 (x : Int × Unit) : Option (Bool × Unit) := Option.bind (F109 (x.fst, 1, 1099511627776, ())) fun b => some b
def S110 : Sig := ⟨P110, R110, F110⟩
noncomputable def E110 : Env := { tab := tab, nt := 5, Γ := lookG [(109, [S109])], joins := lookN [], loops := lookN [] }
theorem raw110_eq (x : Int × Unit) : afun E110 Tryz.f110 P110 R110 x = F110 x := by kernel_rfl
-- decamp/decampref17.natural
def F113 (x : Int × Unit) : Option (Bool × Unit) := Option.bind (F109 (x.fst, 0, 1099511627776, ())) fun b => some b
def S113 : Sig := ⟨P113, R113, F113⟩
noncomputable def E113 : Env := { tab := tab, nt := 5, Γ := lookG [(109, [S109])], joins := lookN [], loops := lookN [] }
theorem raw113_eq (x : Int × Unit) : afun E113 Tryz.f113 P113 R113 x = F113 x := by kernel_rfl
-- decamp/decampref14.Ver
def F112 (x : T66D × Unit) : Option (Bool × Unit) :=
 bif decide (x.fst.fst < 1) then some (false, ())
 else
 bif decide (1099511627776 < x.fst.fst) then some (false, ())
 else
 bif decide (x.fst.snd.snd.fst < 1) then some (false, ())
 else
 bif decide (1099511627776 < x.fst.snd.snd.fst) then some (false, ())
 else
 bif x.fst.snd.snd.snd.snd.snd.snd.fst then
 bif decide (x.fst.snd.fst = 0) then
 bif decide (x.fst.snd.snd.snd.fst = 0) then
 bif decide (x.fst.snd.snd.snd.snd.snd.fst = 0) then
 some (decide (Int.ofNat (List.length x.fst.snd.snd.snd.snd.fst) = 0), ())
 else some (false, ())
 else some (false, ())
 else some (false, ())
 else
 bif decide (1 ≤ x.fst.snd.fst) then
 bif decide (x.fst.snd.fst ≤ x.fst.snd.snd.fst) then
 bif decide (1 ≤ x.fst.snd.snd.snd.fst) then
 bif decide (x.fst.snd.snd.snd.fst ≤ 1099511627776) then
 bif decide (Int.ofNat (List.length x.fst.snd.snd.snd.snd.fst) ≤ 40) then
 bif decide (-1099511627776 ≤ x.fst.snd.snd.snd.snd.snd.fst) then
 some (decide (x.fst.snd.snd.snd.snd.snd.fst ≤ 1099511627776), ())
 else some (false, ())
 else some (false, ())
 else some (false, ())
 else some (false, ())
 else some (false, ())
 else some (false, ())
def S112 : Sig := ⟨P112, R112, F112⟩
noncomputable def E112 : Env := { tab := tab, nt := 78, Γ := lookG [], joins := lookN [], loops := lookN [] }
theorem raw112_eq (x : T66D × Unit) : afun E112 Tryz.f112 P112 R112 x = F112 x := by kernel_rfl
-- decamp/decampref17.Reply
def F40 (x : T51D × Unit) : Option (Bool × Unit) :=
 iterE (Int × Unit) (Bool × Unit)
 (fun (x_1 : Int × Unit) =>
 bif decide (x_1.fst < Int.ofNat (List.length x.fst.snd.snd.snd.snd.fst)) then
 Option.bind (idx x.fst.snd.snd.snd.snd.fst x_1.fst)
 fun b =>
 Option.bind (F39 (b.fst, ())) fun b =>
 bif !b.fst then some (Sum.inr (false, ()))
 else
 Option.bind (idx x.fst.snd.snd.snd.snd.fst x_1.fst)
 fun b =>
 Option.bind (F112 b.snd) fun b =>
 bif !b.fst then some (Sum.inr (false, ()))
 else some (Sum.inl (wrap64 (x_1.fst + 1), ()))
 else
 Option.map Sum.inr
 (Option.bind (F109 (x.fst.fst, 0, 15, ())) fun b =>
 bif b.fst then
 Option.bind (F113 (x.fst.snd.fst, ())) fun b =>
 bif b.fst then
 Option.bind (F113 (x.fst.snd.snd.snd.fst, ())) fun b =>
 bif b.fst then
 Option.bind (F113 x.fst.snd.snd.snd.snd.snd.snd) fun b =>
 bif b.fst then
 Option.bind (F109 (x.fst.snd.snd.snd.snd.snd.fst, 0, 1, ())) fun b =>
 bif b.fst then
 some (decide (Int.ofNat (List.length x.fst.snd.snd.snd.snd.fst) ≤ 8), ())
 else some (false, ())
 else some (false, ())
 else some (false, ())
 else some (false, ())
 else some (false, ())))
 big (0, ())
def S40 : Sig := ⟨P40, R40, F40⟩
noncomputable def E40 : Env := { tab := tab, nt := 58, Γ := lookG [(39, [S39]), (109, [S109]), (112, [S112]), (113, [S113])], joins := lookN [], loops := lookN [(2, mkLoop ⟨[⟨.slot 7, (.int .i64), .pv⟩], [1, 6], [.site 1000, .fld 1000 0, .fld 1000 1, .fld 1000 2, .fld 1000 3, .fld 1000 4, .fld 1000 5, .fld 1000 6]⟩)] }
theorem raw40_eq (x : T51D × Unit) : afun E40 Tryz.f40 P40 R40 x = F40 x := by kernel_rfl
-- decamp/decampref17.Sess
def F114 (x : List T94D × Int × Unit) : Option (Bool × Unit) :=
 iterE (Int × Unit) (Bool × Unit)
 (fun (x_1 : Int × Unit) =>
 bif decide (x_1.fst < Int.ofNat (List.length x.fst)) then
 Option.bind (idx x.fst x_1.fst)
 fun b =>
 Option.bind (F109 (b.fst, 1, x.snd)) fun b =>
 bif !b.fst then some (Sum.inr (false, ()))
 else
 Option.bind (idx x.fst x_1.fst)
 fun b =>
 Option.bind (F110 (b.snd.fst, ())) fun b =>
 bif !b.fst then some (Sum.inr (false, ()))
 else
 Option.bind (idx x.fst x_1.fst)
 fun b =>
 Option.bind (F40 b.snd.snd) fun b =>
 bif !b.fst then some (Sum.inr (false, ()))
 else
 bif decide (0 < x_1.fst) then
 Option.bind (idx x.fst (wrap64 (x_1.fst - 1)))
 fun b =>
 Option.bind (idx x.fst x_1.fst)
 fun b_1 =>
 bif decide (b_1.fst ≤ b.fst) then some (Sum.inr (false, ()))
 else some (Sum.inl (wrap64 (x_1.fst + 1), ()))
 else some (Sum.inl (wrap64 (x_1.fst + 1), ()))
 else some (Sum.inr (true, ())))
 big (0, ())
def S114 : Sig := ⟨P114, R114, F114⟩
noncomputable def E114 : Env := { tab := tab, nt := 56, Γ := lookG [(40, [S40]), (109, [S109]), (110, [S110])], joins := lookN [], loops := lookN [(2, mkLoop ⟨[⟨.slot 8, (.int .i64), .pv⟩], [0, 1, 7], []⟩)] }
theorem raw114_eq (x : List T94D × Int × Unit) : afun E114 Tryz.f114 P114 R114 x = F114 x := by kernel_rfl
-- decamp/decampref17.leases
def F115 (x : List T113D × Unit) : Option (Bool × Unit) :=
 iterE (Int × Unit) (Bool × Unit)
 (fun (x_1 : Int × Unit) =>
 bif decide (x_1.fst < Int.ofNat (List.length x.fst)) then
 Option.bind (idx x.fst x_1.fst) fun b =>
 Option.bind (F110 (b.fst, ())) fun b =>
 bif !b.fst then some (Sum.inr (false, ()))
 else
 Option.bind (idx x.fst x_1.fst) fun b =>
 Option.bind (F109 (b.snd.fst, 1, 1000, ())) fun b =>
 bif !b.fst then some (Sum.inr (false, ()))
 else
 Option.bind (idx x.fst x_1.fst) fun b =>
 Option.bind (F109 (b.snd.snd.fst, 0, 1000, ())) fun b =>
 bif !b.fst then some (Sum.inr (false, ()))
 else
 bif decide (0 < x_1.fst) then
 Option.bind (idx x.fst (wrap64 (x_1.fst - 1)))
 fun b =>
 Option.bind (idx x.fst x_1.fst) fun b_1 =>
 bif decide (b_1.fst ≤ b.fst) then some (Sum.inr (false, ()))
 else some (Sum.inl (wrap64 (x_1.fst + 1), ()))
 else some (Sum.inl (wrap64 (x_1.fst + 1), ()))
 else some (Sum.inr (decide (Int.ofNat (List.length x.fst) ≤ 64), ())))
 big (0, ())
def S115 : Sig := ⟨P115, R115, F115⟩
noncomputable def E115 : Env := { tab := tab, nt := 56, Γ := lookG [(109, [S109]), (110, [S110])], joins := lookN [], loops := lookN [(2, mkLoop ⟨[⟨.slot 6, (.int .i64), .pv⟩], [0, 5], []⟩)] }
theorem raw115_eq (x : List T113D × Unit) : afun E115 Tryz.f115 P115 R115 x = F115 x := by kernel_rfl
-- decamp/decampref17.bare
def F185 (x : T28D × Unit) : Option (Bool × Unit) := let o : Bool → Bool → Option (Bool × Unit) → Option (Bool × Unit) := (fun (p q : Bool) (r : Option (Bool × Unit)) => bif p then r else bif q then r else some (false, ()))
  
  ((o (decide (x.1.1 = 1) || decide (x.1.1 = 2) || decide (x.1.1 = 10) || decide (x.1.1 = 12) || decide (x.1.1 = 13)) (decide (x.1.2.1 = []))) 
  ((o (decide (x.1.1 = 2) || decide (x.1.1 = 12) || decide (x.1.1 = 13)) (decide (x.1.2.2.1 = []))) 
  ((o (decide (x.1.1 = 1)) (decide (x.1.2.2.2.1 = []))) 
  ((o (decide (x.1.1 = 1) || decide (x.1.1 = 5) || decide (x.1.1 = 6) || decide (x.1.1 = 7) || decide (x.1.1 = 9)) (decide (x.1.2.2.2.2.1 = 0))) 
  ((o (decide (x.1.1 = 5)) (decide (x.1.2.2.2.2.2.1 = 0))) 
  ((o (decide (x.1.1 = 4) || decide (x.1.1 = 12) || decide (x.1.1 = 14) || decide (x.1.1 = 15)) (decide (x.1.2.2.2.2.2.2.1 = 0))) 
  ((o (decide (x.1.1 = 3)) (decide (wrap64 (wrap64 (Int.ofNat (List.length x.1.2.2.2.2.2.2.2.1) + Int.ofNat (List.length x.1.2.2.2.2.2.2.2.2.1)) + Int.ofNat (List.length x.1.2.2.2.2.2.2.2.2.2.1)) = 0))) 
  ((o (decide (10 ≤ x.1.1)) (decide (x.1.2.2.2.2.2.2.2.2.2.2.1 = 0))) 
  ((fun r => bif decide (12 ≤ x.1.1) then (o (decide (x.1.1 ≤ 15)) (decide (x.1.2.2.2.2.2.2.2.2.2.2.2.1 = 0)) r) else (o false (decide (x.1.2.2.2.2.2.2.2.2.2.2.2.1 = 0)) r)) 
  ((o (decide (x.1.1 = 14)) (decide (x.1.2.2.2.2.2.2.2.2.2.2.2.2.1 = 0))) 
  ((o (decide (x.1.1 = 13)) (!x.1.2.2.2.2.2.2.2.2.2.2.2.2.2.1)) 
  ((o (decide (x.1.1 = 13) || decide (x.1.1 = 14)) (decide (Int.ofNat (List.length x.1.2.2.2.2.2.2.2.2.2.2.2.2.2.2.1) = 0))) (bif decide (x.1.1 = 15) then some (true, ()) else some (decide (wrap64 (Int.ofNat (List.length x.1.2.2.2.2.2.2.2.2.2.2.2.2.2.2.2.1) + Int.ofNat (List.length x.1.2.2.2.2.2.2.2.2.2.2.2.2.2.2.2.2.1)) = 0), ()))))))))))))))
def S185 : Sig := ⟨P185, R185, F185⟩
noncomputable def E185 : Env := { tab := tab, nt := 204, Γ := lookG [], joins := lookN [(3, ⟨[⟨.slot 4, .bool, .pv⟩], [1, 3], [.site 1000, .fld 1000 0, .fld 1000 1, .fld 1000 2, .fld 1000 3, .fld 1000 4, .fld 1000 5, .fld 1000 6, .fld 1000 7, .fld 1000 8, .fld 1000 9, .fld 1000 10, .fld 1000 11, .fld 1000 12, .fld 1000 13, .fld 1000 14, .fld 1000 15, .fld 1000 16]⟩), (4, ⟨[⟨.slot 5, .bool, .pv⟩], [1, 3, 4], [.site 1000, .fld 1000 0, .fld 1000 1, .fld 1000 2, .fld 1000 3, .fld 1000 4, .fld 1000 5, .fld 1000 6, .fld 1000 7, .fld 1000 8, .fld 1000 9, .fld 1000 10, .fld 1000 11, .fld 1000 12, .fld 1000 13, .fld 1000 14, .fld 1000 15, .fld 1000 16]⟩), (5, ⟨[⟨.slot 6, .bool, .pv⟩], [1, 3, 4, 5], [.site 1000, .fld 1000 0, .fld 1000 1, .fld 1000 2, .fld 1000 3, .fld 1000 4, .fld 1000 5, .fld 1000 6, .fld 1000 7, .fld 1000 8, .fld 1000 9, .fld 1000 10, .fld 1000 11, .fld 1000 12, .fld 1000 13, .fld 1000 14, .fld 1000 15, .fld 1000 16]⟩), (6, ⟨[⟨.slot 7, .bool, .pv⟩], [1, 3, 4, 5, 6], [.site 1000, .fld 1000 0, .fld 1000 1, .fld 1000 2, .fld 1000 3, .fld 1000 4, .fld 1000 5, .fld 1000 6, .fld 1000 7, .fld 1000 8, .fld 1000 9, .fld 1000 10, .fld 1000 11, .fld 1000 12, .fld 1000 13, .fld 1000 14, .fld 1000 15, .fld 1000 16]⟩)], loops := lookN [] }
-- decamp/decampref17.cmps
def F186 (x : List T96D × Unit) : Option (Bool × Unit) :=
 iterE (Int × Unit) (Bool × Unit)
 (fun (x_1 : Int × Unit) =>
 bif decide (x_1.fst < Int.ofNat (List.length x.fst)) then
 Option.bind (idx x.fst x_1.fst) fun b =>
 Option.bind
 (bif decide (1 ≤ b.snd.fst) then
 bif decide (b.snd.fst ≤ 4) then
 bif decide (Int.ofNat (List.length b.snd.snd.snd.snd.fst) = 0) then
 Option.bind (F109 (b.snd.snd.snd.fst, -1099511627776, 1099511627776, ()))
 fun b => some (Sum.inl b)
 else some (Sum.inl (false, ()))
 else some (Sum.inl (false, ()))
 else some (Sum.inl (false, ())))
 fun o =>
 Sum.elim
 (fun (x : Bool × Unit) =>
 Option.bind
 (bif decide (b.snd.fst = 5) then
 bif decide (b.snd.snd.snd.fst = 0) then
 some (Sum.inl (decide (Int.ofNat (List.length b.snd.snd.snd.snd.fst) ≤ 40), ()))
 else some (Sum.inl (false, ()))
 else some (Sum.inl (false, ())))
 fun o =>
 Sum.elim
 (fun (x_2 : Bool × Unit) =>
 Option.bind (F39 (b.fst, ())) fun b_1 =>
 bif !b_1.fst then some (Sum.inr (false, ()))
 else
 Option.bind (F109 (b.snd.snd.fst, 0, 2, ())) fun b =>
 bif !b.fst then some (Sum.inr (false, ()))
 else
 bif !x.fst then
 bif !x_2.fst then some (Sum.inr (false, ()))
 else some (Sum.inl (wrap64 (x_1.fst + 1), ()))
 else some (Sum.inl (wrap64 (x_1.fst + 1), ())))
 (fun (val : Int × Unit ⊕ Bool × Unit) => some val) o)
 (fun (val : Int × Unit ⊕ Bool × Unit) => some val) o
 else some (Sum.inr (decide (Int.ofNat (List.length x.fst) ≤ 4), ())))
 big (0, ())
def S186 : Sig := ⟨P186, R186, F186⟩
noncomputable def E186 : Env := { tab := tab, nt := 71, Γ := lookG [(39, [S39]), (109, [S109])], joins := lookN [(6, ⟨[⟨.slot 5, .bool, .pv⟩], [0, 4, 8, 9], [.site 4005000, .fld 4005000 0, .fld 4005000 1, .fld 4005000 2, .fld 4005000 3, .fld 4005000 4]⟩), (7, ⟨[⟨.slot 6, .bool, .pv⟩], [0, 4, 5, 8, 9], [.site 4005000, .fld 4005000 0, .fld 4005000 1, .fld 4005000 2, .fld 4005000 3, .fld 4005000 4]⟩)], loops := lookN [(2, mkLoop ⟨[⟨.slot 9, (.int .i64), .pv⟩], [0, 8], []⟩)] }
theorem raw186_eq (x : List T96D × Unit) : afun E186 Tryz.f186 P186 R186 x = F186 x := by kernel_rfl
-- decamp/decampref17.op
def F221 (x : T48D × Unit) : Option (Bool × Unit) :=
 bif decide (x.fst.fst = 1) then
 bif decide (Int.ofNat (List.length x.fst.snd.snd.fst) = 0) then
 Option.bind (F39 (x.fst.snd.fst, ())) fun b =>
 bif b.fst then
 bif decide (Int.ofNat (List.length x.fst.snd.snd.snd.fst) ≤ 40) then
 Option.bind (F113 x.fst.snd.snd.snd.snd) fun b => some b
 else some (false, ())
 else some (false, ())
 else some (false, ())
 else
 bif decide (x.fst.fst = 2) then
 bif decide (Int.ofNat (List.length x.fst.snd.snd.snd.fst) = 0) then
 bif decide (x.fst.snd.snd.snd.snd.fst = 0) then
 Option.bind (F37 (x.fst.snd.fst, x.fst.snd.snd.fst, ())) fun b => some b
 else some (false, ())
 else some (false, ())
 else
 bif decide (x.fst.fst = 3) then
 bif decide (Int.ofNat (List.length x.fst.snd.snd.snd.fst) = 0) then
 bif decide (x.fst.snd.snd.snd.snd.fst = 0) then
 Option.bind (F37 (x.fst.snd.fst, x.fst.snd.snd.fst, ())) fun b => some b
 else some (false, ())
 else some (false, ())
 else some (false, ())
def S221 : Sig := ⟨P221, R221, F221⟩
noncomputable def E221 : Env := { tab := tab, nt := 52, Γ := lookG [(37, [S37]), (39, [S39]), (113, [S113])], joins := lookN [], loops := lookN [] }
theorem raw221_eq (x : T48D × Unit) : afun E221 Tryz.f221 P221 R221 x = F221 x := by kernel_rfl
-- decamp/decampref15.In
def F236 (x : List UInt8 × List UInt8 × List UInt8 × Unit) : Option (Bool × Unit) :=
 Option.bind (F37 (x.fst, x.snd.fst, ())) fun b =>
 bif !b.fst then some (false, ())
 else
 Option.bind (F39 x.snd.snd) fun b =>
 bif !b.fst then some (false, ())
 else
 bif decide (Int.ofNat (List.length x.snd.fst) = 0) then some (decide (x.snd.snd.fst = x.fst), ())
 else
 bif !strlt x.snd.snd.fst x.fst then some (strlt x.snd.snd.fst x.snd.fst, ())
 else some (false, ())
def S236 : Sig := ⟨P236, R236, F236⟩
noncomputable def E236 : Env := { tab := tab, nt := 30, Γ := lookG [(37, [S37]), (39, [S39])], joins := lookN [], loops := lookN [] }
theorem raw236_eq (x : List UInt8 × List UInt8 × List UInt8 × Unit) : afun E236 Tryz.f236 P236 R236 x = F236 x := by kernel_rfl
-- decamp/decampref17.meet
def F222 (x : T48D × T48D × Unit) : Option (Bool × Unit) :=
 bif decide (x.fst.fst = 3) then some (false, ())
 else
 bif decide (x.snd.fst.fst = 3) then some (false, ())
 else
 Option.bind (F236 (x.fst.snd.fst, x.fst.snd.snd.fst, x.snd.fst.snd.fst, ())) fun b =>
 bif b.fst then some (true, ())
 else
 Option.bind (F236 (x.snd.fst.snd.fst, x.snd.fst.snd.snd.fst, x.fst.snd.fst, ()))
 fun b => some b
def S222 : Sig := ⟨P222, R222, F222⟩
noncomputable def E222 : Env := { tab := tab, nt := 29, Γ := lookG [(236, [S236])], joins := lookN [], loops := lookN [] }
theorem raw222_eq (x : T48D × T48D × Unit) : afun E222 Tryz.f222 P222 R222 x = F222 x := by kernel_rfl
-- decamp/decampref17.ops
def F187 (x : List T48D × Unit) : Option (Bool × Unit) :=
 iterE (Int × Unit) (Bool × Unit)
 (fun (x_1 : Int × Unit) =>
 bif decide (x_1.fst < Int.ofNat (List.length x.fst)) then
 Option.bind (idx x.fst x_1.fst) fun b =>
 Option.bind (F221 (b, ())) fun b =>
 bif !b.fst then some (Sum.inr (false, ()))
 else
 iterE (Int × Unit) (Int × Unit ⊕ Bool × Unit)
 (fun (x_2 : Int × Unit) =>
 bif decide (x_2.fst < x_1.fst) then
 Option.bind (idx x.fst x_2.fst)
 fun b =>
 Option.bind (idx x.fst x_1.fst)
 fun b_1 =>
 Option.bind (F222 (b, b_1, ())) fun b =>
 bif b.fst then some (Sum.inr (Sum.inr (false, ())))
 else some (Sum.inl (wrap64 (x_2.fst + 1), ()))
 else some (Sum.inr (Sum.inl (wrap64 (x_1.fst + 1), ()))))
 big (0, ())
 else some (Sum.inr (decide (Int.ofNat (List.length x.fst) ≤ 4), ())))
 big (0, ())
def S187 : Sig := ⟨P187, R187, F187⟩
noncomputable def E187 : Env := { tab := tab, nt := 34, Γ := lookG [(221, [S221]), (222, [S222])], joins := lookN [], loops := lookN [(2, mkLoop ⟨[⟨.slot 7, (.int .i64), .pv⟩], [0, 6], []⟩), (7, mkLoop ⟨[⟨.slot 17, (.int .i64), .pv⟩], [0, 3, 6, 7, 16], []⟩)] }
theorem raw187_eq (x : List T48D × Unit) : afun E187 Tryz.f187 P187 R187 x = F187 x := by kernel_rfl
-- decamp/decampref17.page
def F188 (x : T28D × Unit) : Option (Bool × Unit) :=
 iterE (Int × Unit) (Bool × Unit)
 (fun (x_1 : Int × Unit) =>
 bif
 decide
 (x_1.fst < Int.ofNat (List.length x.fst.snd.snd.snd.snd.snd.snd.snd.snd.snd.snd.snd.snd.snd.snd.fst)) then
 Option.bind (idx x.fst.snd.snd.snd.snd.snd.snd.snd.snd.snd.snd.snd.snd.snd.snd.fst x_1.fst)
 fun b =>
 Option.bind (F39 (b.fst, ())) fun b_1 =>
 bif !b_1.fst then some (Sum.inr (false, ()))
 else
 Option.bind (F112 b.snd) fun b_2 =>
 bif !b_2.fst then some (Sum.inr (false, ()))
 else
 bif b.snd.fst.snd.snd.snd.snd.snd.snd.fst then some (Sum.inr (false, ()))
 else
 bif decide (0 < x_1.fst) then
 Option.bind
 (idx x.fst.snd.snd.snd.snd.snd.snd.snd.snd.snd.snd.snd.snd.snd.snd.fst
 (wrap64 (x_1.fst - 1)))
 fun b_3 =>
 bif !strlt b_3.fst b.fst then some (Sum.inr (false, ()))
 else some (Sum.inl (wrap64 (x_1.fst + 1), ()))
 else some (Sum.inl (wrap64 (x_1.fst + 1), ()))
 else
 Option.map Sum.inr
 (bif decide (x.fst.snd.fst = []) then
 bif decide (x.fst.snd.snd.fst = []) then
 some
 (decide (Int.ofNat (List.length x.fst.snd.snd.snd.snd.snd.snd.snd.snd.snd.snd.snd.snd.snd.snd.fst) ≤ 8),
 ())
 else
 Option.bind (F39 (x.fst.snd.snd.fst, ())) fun b =>
 bif b.fst then
 some
 (decide
 (Int.ofNat (List.length x.fst.snd.snd.snd.snd.snd.snd.snd.snd.snd.snd.snd.snd.snd.snd.fst) ≤ 8),
 ())
 else some (false, ())
 else
 Option.bind (F39 (x.fst.snd.fst, ())) fun b =>
 bif b.fst then
 bif decide (x.fst.snd.snd.fst = []) then
 some
 (decide
 (Int.ofNat (List.length x.fst.snd.snd.snd.snd.snd.snd.snd.snd.snd.snd.snd.snd.snd.snd.fst) ≤ 8),
 ())
 else
 Option.bind (F39 (x.fst.snd.snd.fst, ())) fun b =>
 bif b.fst then
 some
 (decide
 (Int.ofNat (List.length x.fst.snd.snd.snd.snd.snd.snd.snd.snd.snd.snd.snd.snd.snd.snd.fst) ≤
 8),
 ())
 else some (false, ())
 else some (false, ())))
 big (0, ())
def S188 : Sig := ⟨P188, R188, F188⟩
noncomputable def E188 : Env := { tab := tab, nt := 72, Γ := lookG [(39, [S39]), (112, [S112])], joins := lookN [], loops := lookN [(2, mkLoop ⟨[⟨.slot 8, (.int .i64), .pv⟩], [1, 7], [.site 1000, .fld 1000 0, .fld 1000 1, .fld 1000 2, .fld 1000 3, .fld 1000 4, .fld 1000 5, .fld 1000 6, .fld 1000 7, .fld 1000 8, .fld 1000 9, .fld 1000 10, .fld 1000 11, .fld 1000 12, .fld 1000 13, .fld 1000 14, .fld 1000 15, .fld 1000 16]⟩)] }
theorem raw188_eq (x : T28D × Unit) : afun E188 Tryz.f188 P188 R188 x = F188 x := by kernel_rfl
-- decamp/decampref17.tail
def F189 (x : T28D × Unit) : Option (Bool × Unit) :=
 iterE (Int × Unit) (Bool × Unit)
 (fun (x_1 : Int × Unit) =>
 bif
 decide
 (x_1.fst < Int.ofNat (List.length x.fst.snd.snd.snd.snd.snd.snd.snd.snd.snd.snd.snd.snd.snd.snd.fst)) then
 Option.bind (idx x.fst.snd.snd.snd.snd.snd.snd.snd.snd.snd.snd.snd.snd.snd.snd.fst x_1.fst)
 fun b =>
 Option.bind (F39 (b.fst, ())) fun b_1 =>
 bif !b_1.fst then some (Sum.inr (false, ()))
 else
 Option.bind (F112 b.snd) fun b_2 =>
 bif !b_2.fst then some (Sum.inr (false, ()))
 else
 bif decide (b.snd.fst.fst ≤ x.fst.snd.snd.snd.snd.snd.snd.fst) then some (Sum.inr (false, ()))
 else
 bif decide (x.fst.snd.snd.snd.snd.snd.snd.snd.snd.snd.snd.snd.snd.fst < b.snd.fst.fst) then
 some (Sum.inr (false, ()))
 else
 bif decide (0 < x_1.fst) then
 Option.bind
 (idx x.fst.snd.snd.snd.snd.snd.snd.snd.snd.snd.snd.snd.snd.snd.snd.fst
 (wrap64 (x_1.fst - 1)))
 fun b_3 =>
 bif decide (b.snd.fst.fst < b_3.snd.fst.fst) then some (Sum.inr (false, ()))
 else
 Option.bind
 (idx x.fst.snd.snd.snd.snd.snd.snd.snd.snd.snd.snd.snd.snd.snd.snd.fst
 (wrap64 (x_1.fst - 1)))
 fun b_4 =>
 bif decide (b_4.snd.fst.fst = b.snd.fst.fst) then
 Option.bind
 (idx x.fst.snd.snd.snd.snd.snd.snd.snd.snd.snd.snd.snd.snd.snd.snd.fst
 (wrap64 (x_1.fst - 1)))
 fun b_5 =>
 bif !strlt b_5.fst b.fst then some (Sum.inr (false, ()))
 else some (Sum.inl (wrap64 (x_1.fst + 1), ()))
 else some (Sum.inl (wrap64 (x_1.fst + 1), ()))
 else some (Sum.inl (wrap64 (x_1.fst + 1), ()))
 else
 Option.map Sum.inr
 (Option.bind (F110 (x.fst.snd.snd.snd.snd.snd.snd.fst, ())) fun b =>
 bif b.fst then
 Option.bind (F110 (x.fst.snd.snd.snd.snd.snd.snd.snd.snd.snd.snd.snd.snd.fst, ()))
 fun b =>
 bif b.fst then
 bif
 decide
 (x.fst.snd.snd.snd.snd.snd.snd.fst <
 x.fst.snd.snd.snd.snd.snd.snd.snd.snd.snd.snd.snd.snd.fst) then
 some
 (decide
 (Int.ofNat (List.length x.fst.snd.snd.snd.snd.snd.snd.snd.snd.snd.snd.snd.snd.snd.snd.fst) ≤
 64),
 ())
 else some (false, ())
 else some (false, ())
 else some (false, ())))
 big (0, ())
def S189 : Sig := ⟨P189, R189, F189⟩
noncomputable def E189 : Env := { tab := tab, nt := 106, Γ := lookG [(39, [S39]), (110, [S110]), (112, [S112])], joins := lookN [], loops := lookN [(2, mkLoop ⟨[⟨.slot 8, (.int .i64), .pv⟩], [1, 7], [.site 1000, .fld 1000 0, .fld 1000 1, .fld 1000 2, .fld 1000 3, .fld 1000 4, .fld 1000 5, .fld 1000 6, .fld 1000 7, .fld 1000 8, .fld 1000 9, .fld 1000 10, .fld 1000 11, .fld 1000 12, .fld 1000 13, .fld 1000 14, .fld 1000 15, .fld 1000 16]⟩)] }
theorem raw189_eq (x : T28D × Unit) : afun E189 Tryz.f189 P189 R189 x = F189 x := by kernel_rfl
-- decamp/decampref17.Right
def F108 (x : T28D × Unit) : Option (Bool × Unit) :=
 Option.bind
 (Option.bind (F185 x) fun b =>
 bif !b.fst then some (Sum.inr (false, ()))
 else
 bif decide (10 ≤ x.fst.fst) then
 Option.bind (F110 (x.fst.snd.snd.snd.snd.snd.snd.snd.snd.snd.snd.fst, ())) fun b =>
 bif !b.fst then some (Sum.inr (false, ()))
 else
 bif decide (12 ≤ x.fst.fst) then
 bif decide (x.fst.fst ≤ 15) then
 Option.bind (F110 (x.fst.snd.snd.snd.snd.snd.snd.snd.snd.snd.snd.snd.fst, ()))
 fun b =>
 bif !b.fst then some (Sum.inr (false, ())) else some (Sum.inl ())
 else some (Sum.inl ())
 else some (Sum.inl ())
 else
 bif decide (12 ≤ x.fst.fst) then
 bif decide (x.fst.fst ≤ 15) then
 Option.bind (F110 (x.fst.snd.snd.snd.snd.snd.snd.snd.snd.snd.snd.snd.fst, ()))
 fun b =>
 bif !b.fst then some (Sum.inr (false, ())) else some (Sum.inl ())
 else some (Sum.inl ())
 else some (Sum.inl ()))
 fun o =>
 Sum.elim
 (fun (_z : Unit) =>
 Option.bind
 (bif decide (x.fst.fst = 1) then
 Option.bind (F39 (x.fst.snd.fst, ())) fun b =>
 bif b.fst then
 bif decide (Int.ofNat (List.length x.fst.snd.snd.snd.fst) ≤ 40) then
 Option.bind (F113 (x.fst.snd.snd.snd.snd.fst, ())) fun b => some (Sum.inr b)
 else some (Sum.inr (false, ()))
 else some (Sum.inr (false, ()))
 else
 bif decide (x.fst.fst = 2) then
 Option.bind (F37 (x.fst.snd.fst, x.fst.snd.snd.fst, ())) fun b =>
 some (Sum.inr b)
 else
 bif decide (x.fst.fst = 3) then
 Option.bind (F186 (x.fst.snd.snd.snd.snd.snd.snd.snd.fst, ())) fun b =>
 bif b.fst then
 Option.bind (F187 (x.fst.snd.snd.snd.snd.snd.snd.snd.snd.fst, ())) fun b =>
 bif b.fst then
 Option.bind (F187 (x.fst.snd.snd.snd.snd.snd.snd.snd.snd.snd.fst, ()))
 fun b => some (Sum.inr b)
 else some (Sum.inr (false, ()))
 else some (Sum.inr (false, ()))
 else
 bif decide (x.fst.fst = 4) then
 Option.bind (F110 (x.fst.snd.snd.snd.snd.snd.snd.fst, ())) fun b =>
 some (Sum.inr b)
 else
 bif decide (x.fst.fst = 5) then
 Option.bind (F110 (x.fst.snd.snd.snd.snd.fst, ())) fun b =>
 bif b.fst then
 Option.bind (F109 (x.fst.snd.snd.snd.snd.snd.fst, 1, 1000, ()))
 fun b => some (Sum.inr b)
 else some (Sum.inr (false, ()))
 else
 bif decide (x.fst.fst = 6) then
 bif decide (x.fst.fst = 6) then
 Option.bind (F110 (x.fst.snd.snd.snd.snd.fst, ())) fun b =>
 some (Sum.inr b)
 else
 bif decide (x.fst.fst = 9) then
 bif !decide (x.fst.snd.snd.snd.snd.fst = 0) then
 Option.bind (F109 (x.fst.snd.snd.snd.snd.fst, -1099511627776, 1099511627776, ()))
 fun b => some (Sum.inr b)
 else some (Sum.inr (false, ()))
 else
 bif decide (x.fst.fst = 10) then
 Option.bind (F38 (x.fst.snd.fst, ())) fun b => some (Sum.inr b)
 else
 bif decide (x.fst.fst = 12) then
 Option.bind (F38 (x.fst.snd.fst, ())) fun b =>
 bif b.fst then
 Option.bind (F38 (x.fst.snd.snd.fst, ())) fun b =>
 bif b.fst then
 Option.bind (F110 (x.fst.snd.snd.snd.snd.snd.snd.fst, ()))
 fun b => some (Sum.inr b)
 else some (Sum.inr (false, ()))
 else some (Sum.inr (false, ()))
 else
 bif decide (x.fst.fst = 13) then
 Option.bind (F188 x) fun b => some (Sum.inr b)
 else
 bif decide (x.fst.fst = 14) then
 Option.bind (F189 x) fun b => some (Sum.inr b)
 else
 bif decide (x.fst.fst = 15) then
 Option.bind (F110 (x.fst.snd.snd.snd.snd.snd.snd.fst, ()))
 fun b =>
 bif b.fst then
 Option.bind
 (F114
 (x.fst.snd.snd.snd.snd.snd.snd.snd.snd.snd.snd.snd.snd.snd.snd.snd.fst, 15,
 ()))
 fun b =>
 bif b.fst then
 Option.bind
 (F115
 x.fst.snd.snd.snd.snd.snd.snd.snd.snd.snd.snd.snd.snd.snd.snd.snd.snd)
 fun b => some (Sum.inr b)
 else some (Sum.inr (false, ()))
 else some (Sum.inr (false, ()))
 else some (Sum.inl ())
 else
 bif decide (x.fst.fst = 7) then
 Option.bind (F110 (x.fst.snd.snd.snd.snd.fst, ())) fun b =>
 some (Sum.inr b)
 else
 bif decide (x.fst.fst = 9) then
 bif !decide (x.fst.snd.snd.snd.snd.fst = 0) then
 Option.bind (F109 (x.fst.snd.snd.snd.snd.fst, -1099511627776, 1099511627776, ()))
 fun b => some (Sum.inr b)
 else some (Sum.inr (false, ()))
 else
 bif decide (x.fst.fst = 10) then
 Option.bind (F38 (x.fst.snd.fst, ())) fun b => some (Sum.inr b)
 else
 bif decide (x.fst.fst = 12) then
 Option.bind (F38 (x.fst.snd.fst, ())) fun b =>
 bif b.fst then
 Option.bind (F38 (x.fst.snd.snd.fst, ())) fun b =>
 bif b.fst then
 Option.bind (F110 (x.fst.snd.snd.snd.snd.snd.snd.fst, ()))
 fun b => some (Sum.inr b)
 else some (Sum.inr (false, ()))
 else some (Sum.inr (false, ()))
 else
 bif decide (x.fst.fst = 13) then
 Option.bind (F188 x) fun b => some (Sum.inr b)
 else
 bif decide (x.fst.fst = 14) then
 Option.bind (F189 x) fun b => some (Sum.inr b)
 else
 bif decide (x.fst.fst = 15) then
 Option.bind (F110 (x.fst.snd.snd.snd.snd.snd.snd.fst, ()))
 fun b =>
 bif b.fst then
 Option.bind
 (F114
 (x.fst.snd.snd.snd.snd.snd.snd.snd.snd.snd.snd.snd.snd.snd.snd.snd.fst, 15,
 ()))
 fun b =>
 bif b.fst then
 Option.bind
 (F115
 x.fst.snd.snd.snd.snd.snd.snd.snd.snd.snd.snd.snd.snd.snd.snd.snd.snd)
 fun b => some (Sum.inr b)
 else some (Sum.inr (false, ()))
 else some (Sum.inr (false, ()))
 else some (Sum.inl ()))
 fun o =>
 Sum.elim
 (fun (_z : Unit) =>
 bif decide (x.fst.fst = 8) then some (true, ())
 else
 bif decide (x.fst.fst = 11) then some (true, ())
 else some (decide (x.fst.fst = 16), ()))
 (fun (val : Bool × Unit) => some val) o)
 (fun (val : Bool × Unit) => some val) o
def S108 : Sig := ⟨P108, R108, F108⟩
noncomputable def E108 : Env := { tab := tab, nt := 160, Γ := lookG [(37, [S37]), (38, [S38]), (39, [S39]), (109, [S109]), (110, [S110]), (113, [S113]), (114, [S114]), (115, [S115]), (185, [S185]), (186, [S186]), (187, [S187]), (188, [S188]), (189, [S189])], joins := lookN [(3, ⟨[], [1], [.site 1000, .fld 1000 0, .fld 1000 1, .fld 1000 2, .fld 1000 3, .fld 1000 4, .fld 1000 5, .fld 1000 6, .fld 1000 7, .fld 1000 8, .fld 1000 9, .fld 1000 10, .fld 1000 11, .fld 1000 12, .fld 1000 13, .fld 1000 14, .fld 1000 15, .fld 1000 16]⟩), (29, ⟨[], [1], [.site 1000, .fld 1000 0, .fld 1000 1, .fld 1000 2, .fld 1000 3, .fld 1000 4, .fld 1000 5, .fld 1000 6, .fld 1000 7, .fld 1000 8, .fld 1000 9, .fld 1000 10, .fld 1000 11, .fld 1000 12, .fld 1000 13, .fld 1000 14, .fld 1000 15, .fld 1000 16]⟩)], loops := lookN [] }
theorem raw108_eq (x : T28D × Unit) : afun E108 Tryz.f108 P108 R108 x = F108 x := by kernel_rfl
-- decamp/decampref17.RightJob
def F36 (x : T33D × Unit) : Option (Bool × Unit) :=
 Option.bind (F108 x.fst.snd.snd) fun b =>
 bif !b.fst then some (false, ())
 else
 bif decide (x.fst.fst = 0) then
 bif decide (x.fst.snd.fst = 0) then some (decide (8 ≤ x.fst.snd.snd.fst.fst), ())
 else some (false, ())
 else
 Option.bind (F109 (x.fst.fst, 1, 31, ())) fun b =>
 bif b.fst then
 Option.bind (F110 (x.fst.snd.fst, ())) fun b =>
 bif b.fst then some (decide (x.fst.snd.snd.fst.fst < 8), ()) else some (false, ())
 else some (false, ())
def S36 : Sig := ⟨P36, R36, F36⟩
noncomputable def E36 : Env := { tab := tab, nt := 33, Γ := lookG [(108, [S108]), (109, [S109]), (110, [S110])], joins := lookN [], loops := lookN [] }
theorem raw36_eq (x : T33D × Unit) : afun E36 Tryz.f36 P36 R36 x = F36 x := by kernel_rfl
-- decamp/decampref22.items
def F42 (x : List T70D × Int × Unit) : Option (Bool × Unit) :=
 iterE (Int × Unit) (Bool × Unit)
 (fun (x_1 : Int × Unit) =>
 bif decide (x_1.fst < Int.ofNat (List.length x.fst)) then
 Option.bind (idx x.fst x_1.fst)
 fun b =>
 Option.bind (F39 (b.fst, ())) fun b =>
 bif !b.fst then some (Sum.inr (false, ()))
 else
 Option.bind (idx x.fst x_1.fst)
 fun b =>
 Option.bind (F112 b.snd) fun b =>
 bif !b.fst then some (Sum.inr (false, ()))
 else some (Sum.inl (wrap64 (x_1.fst + 1), ()))
 else some (Sum.inr (decide (Int.ofNat (List.length x.fst) ≤ x.snd.fst), ())))
 big (0, ())
def S42 : Sig := ⟨P42, R42, F42⟩
noncomputable def E42 : Env := { tab := tab, nt := 32, Γ := lookG [(39, [S39]), (112, [S112])], joins := lookN [], loops := lookN [(2, mkLoop ⟨[⟨.slot 8, (.int .i64), .pv⟩], [0, 1, 7], []⟩)] }
theorem raw42_eq (x : List T70D × Int × Unit) : afun E42 Tryz.f42 P42 R42 x = F42 x := by kernel_rfl
-- decamp/decampref22.batches
def F41 (x : List TBD × Unit) : Option (Bool × Unit) :=
 iterE (Int × Unit) (Bool × Unit)
 (fun (x_1 : Int × Unit) =>
 bif decide (x_1.fst < Int.ofNat (List.length x.fst)) then
 Option.bind (idx x.fst x_1.fst)
 fun b =>
 Option.bind (F35 (b.fst, 1, 1099511627776, ())) fun b =>
 bif !b.fst then some (Sum.inr (false, ()))
 else
 bif decide (0 < x_1.fst) then
 Option.bind (idx x.fst x_1.fst)
 fun b =>
 Option.bind (idx x.fst (wrap64 (x_1.fst - 1)))
 fun b_1 =>
 bif decide (b.fst ≤ b_1.fst) then some (Sum.inr (false, ()))
 else
 Option.bind (idx x.fst x_1.fst)
 fun b =>
 Option.bind (F42 (b.snd.fst, 48, ())) fun b =>
 bif !b.fst then some (Sum.inr (false, ()))
 else some (Sum.inl (wrap64 (x_1.fst + 1), ()))
 else
 Option.bind (idx x.fst x_1.fst)
 fun b =>
 Option.bind (F42 (b.snd.fst, 48, ())) fun b =>
 bif !b.fst then some (Sum.inr (false, ()))
 else some (Sum.inl (wrap64 (x_1.fst + 1), ()))
 else some (Sum.inr (decide (Int.ofNat (List.length x.fst) ≤ 64), ())))
 big (0, ())
def S41 : Sig := ⟨P41, R41, F41⟩
noncomputable def E41 : Env := { tab := tab, nt := 47, Γ := lookG [(35, [S35]), (42, [S42])], joins := lookN [], loops := lookN [(2, mkLoop ⟨[⟨.slot 6, (.int .i64), .pv⟩], [0, 5], []⟩)] }
theorem raw41_eq (x : List TBD × Unit) : afun E41 Tryz.f41 P41 R41 x = F41 x := by kernel_rfl
-- decamp/decampref22.None
def F43 (x : T55D × Unit) : Option (Bool × Unit) :=
 Option.bind (F68 (x.fst, (0, 0, [], [], ()), ())) fun b => some b
def S43 : Sig := ⟨P43, R43, F43⟩
noncomputable def E43 : Env := { tab := tab, nt := 6, Γ := lookG [(68, [S68])], joins := lookN [], loops := lookN [] }
theorem raw43_eq (x : T55D × Unit) : afun E43 Tryz.f43 P43 R43 x = F43 x := by kernel_rfl
-- decamp/decampref17.Hand
def F44 (x : T55D × Unit) : Option (Bool × Unit) :=
 Option.bind (F110 (x.fst.fst, ())) fun b =>
 bif b.fst then
 Option.bind (F113 (x.fst.snd.fst, ())) fun b =>
 bif b.fst then
 Option.bind (F114 (x.fst.snd.snd.fst, 15, ())) fun b =>
 bif b.fst then Option.bind (F115 x.fst.snd.snd.snd) fun b => some b
 else some (false, ())
 else some (false, ())
 else some (false, ())
def S44 : Sig := ⟨P44, R44, F44⟩
noncomputable def E44 : Env := { tab := tab, nt := 21, Γ := lookG [(110, [S110]), (113, [S113]), (114, [S114]), (115, [S115])], joins := lookN [], loops := lookN [] }
theorem raw44_eq (x : T55D × Unit) : afun E44 Tryz.f44 P44 R44 x = F44 x := by kernel_rfl
-- decamp/decampref17.Move
def F45 (x : T53D × Unit) : Option (Bool × Unit) :=
 Option.bind (F109 (x.fst.fst, 0, 4, ())) fun b =>
 bif b.fst then
 Option.bind (F113 (x.fst.snd.fst, ())) fun b =>
 bif b.fst then
 Option.bind (F113 (x.fst.snd.snd.fst, ())) fun b =>
 bif b.fst then
 Option.bind (F113 (x.fst.snd.snd.snd.snd.snd.fst, ())) fun b =>
 bif b.fst then
 Option.bind (F113 (x.fst.snd.snd.snd.snd.snd.snd.snd.fst, ())) fun b =>
 bif b.fst then
 Option.bind (F113 (x.fst.snd.snd.snd.snd.snd.snd.snd.snd.fst, ()))
 fun b =>
 bif b.fst then
 Option.bind (F113 x.fst.snd.snd.snd.snd.snd.snd.snd.snd.snd) fun b =>
 bif b.fst then
 bif decide (x.fst.snd.snd.snd.fst = []) then
 bif decide (x.fst.snd.snd.snd.snd.fst = []) then
 bif decide (x.fst.snd.snd.snd.snd.snd.snd.fst = []) then some (true, ())
 else
 Option.bind (F39 (x.fst.snd.snd.snd.snd.snd.snd.fst, ()))
 fun b => some b
 else
 Option.bind (F38 (x.fst.snd.snd.snd.snd.fst, ())) fun b =>
 bif b.fst then
 bif decide (x.fst.snd.snd.snd.snd.snd.snd.fst = []) then some (true, ())
 else
 Option.bind (F39 (x.fst.snd.snd.snd.snd.snd.snd.fst, ()))
 fun b => some b
 else some (false, ())
 else
 Option.bind (F38 (x.fst.snd.snd.snd.fst, ())) fun b =>
 bif b.fst then
 bif decide (x.fst.snd.snd.snd.snd.fst = []) then
 bif decide (x.fst.snd.snd.snd.snd.snd.snd.fst = []) then some (true, ())
 else
 Option.bind (F39 (x.fst.snd.snd.snd.snd.snd.snd.fst, ()))
 fun b => some b
 else
 Option.bind (F38 (x.fst.snd.snd.snd.snd.fst, ()))
 fun b =>
 bif b.fst then
 bif decide (x.fst.snd.snd.snd.snd.snd.snd.fst = []) then
 some (true, ())
 else
 Option.bind (F39 (x.fst.snd.snd.snd.snd.snd.snd.fst, ()))
 fun b => some b
 else some (false, ())
 else some (false, ())
 else some (false, ())
 else some (false, ())
 else some (false, ())
 else some (false, ())
 else some (false, ())
 else some (false, ())
 else some (false, ())
def S45 : Sig := ⟨P45, R45, F45⟩
noncomputable def E45 : Env := { tab := tab, nt := 66, Γ := lookG [(38, [S38]), (39, [S39]), (109, [S109]), (113, [S113])], joins := lookN [], loops := lookN [] }
theorem raw45_eq (x : T53D × Unit) : afun E45 Tryz.f45 P45 R45 x = F45 x := by kernel_rfl
-- decamp/decampref22.Right
def F11 (x : TMD × Unit) : Option (Bool × Unit) :=
 bif decide (x.fst.fst < 1) then some (false, ())
 else
 bif decide (12 < x.fst.fst) then some (false, ())
 else
 Option.bind (F33 x)
 fun b =>
 Option.bind (F15 (b.fst, x)) fun b =>
 bif !b.fst then some (false, ())
 else
 bif decide (x.fst.fst = 1) then
 Option.bind (F34 (x.fst.snd.snd.fst, ())) fun b => some b
 else
 Option.bind (F35 (x.fst.snd.fst, 1, 1099511627776, ())) fun b =>
 bif !b.fst then some (false, ())
 else
 Option.bind (F35 (x.fst.snd.snd.snd.snd.fst, 0, 31, ())) fun b =>
 bif !b.fst then some (false, ())
 else
 Option.bind (F35 (x.fst.snd.snd.snd.snd.snd.snd.snd.snd.snd.fst, 0, 15, ()))
 fun b =>
 bif !b.fst then some (false, ())
 else
 bif decide (x.fst.fst = 2) then
 Option.bind (F36 (x.fst.snd.snd.snd.fst, ())) fun b => some b
 else
 bif decide (x.fst.fst = 3) then
 Option.bind
 (F37 (x.fst.snd.snd.snd.snd.snd.fst, x.fst.snd.snd.snd.snd.snd.snd.fst, ()))
 fun b =>
 bif b.fst then
 Option.bind
 (F35 (x.fst.snd.snd.snd.snd.snd.snd.snd.fst, 0, 1099511627776, ()))
 fun b =>
 bif b.fst then
 Option.bind (F35 (x.fst.snd.snd.snd.snd.snd.snd.snd.snd.fst, 0, 8, ()))
 fun b => some b
 else some (false, ())
 else some (false, ())
 else
 bif decide (x.fst.fst = 4) then
 Option.bind
 (F37 (x.fst.snd.snd.snd.snd.snd.fst, x.fst.snd.snd.snd.snd.snd.snd.fst, ()))
 fun b =>
 bif b.fst then
 Option.bind
 (F35 (x.fst.snd.snd.snd.snd.snd.snd.snd.fst, 1, 1099511627776, ()))
 fun b => some b
 else some (false, ())
 else
 bif decide (x.fst.fst = 5) then
 Option.bind (F38 (x.fst.snd.snd.snd.snd.snd.fst, ()))
 fun b =>
 bif b.fst then
 bif decide (x.fst.snd.snd.snd.snd.snd.snd.fst = []) then
 Option.bind
 (F35 (x.fst.snd.snd.snd.snd.snd.snd.snd.fst, 1, 1099511627776, ()))
 fun b => some b
 else
 Option.bind (F39 (x.fst.snd.snd.snd.snd.snd.snd.fst, ()))
 fun b =>
 bif b.fst then
 Option.bind
 (F35
 (x.fst.snd.snd.snd.snd.snd.snd.snd.fst, 1, 1099511627776, ()))
 fun b => some b
 else some (false, ())
 else some (false, ())
 else
 bif decide (x.fst.fst = 6) then
 Option.bind
 (F35 (x.fst.snd.snd.snd.snd.snd.snd.snd.fst, 1, 1099511627776, ()))
 fun b => some b
 else
 bif decide (x.fst.fst = 8) then
 Option.bind
 (F35 (x.fst.snd.snd.snd.snd.snd.snd.snd.snd.snd.snd.fst, -1, 2, ()))
 fun b =>
 bif b.fst then
 Option.bind
 (F40 (x.fst.snd.snd.snd.snd.snd.snd.snd.snd.snd.snd.snd.fst, ()))
 fun b => some b
 else some (false, ())
 else
 bif decide (x.fst.fst = 9) then
 Option.bind
 (F35 (x.fst.snd.snd.snd.snd.snd.snd.snd.fst, 0, 1099511627777, ()))
 fun b =>
 bif b.fst then
 Option.bind
 (F41
 (x.fst.snd.snd.snd.snd.snd.snd.snd.snd.snd.snd.snd.snd.fst, ()))
 fun b => some b
 else some (false, ())
 else
 bif decide (x.fst.fst = 10) then
 Option.bind
 (F42
 (x.fst.snd.snd.snd.snd.snd.snd.snd.snd.snd.snd.snd.snd.snd.fst, 8,
 ()))
 fun b => some b
 else
 bif decide (x.fst.fst = 11) then
 Option.bind
 (F43
 (x.fst.snd.snd.snd.snd.snd.snd.snd.snd.snd.snd.snd.snd.snd.snd.snd.fst,
 ()))
 fun b =>
 bif b.fst then some (true, ())
 else
 Option.bind
 (F44
 (x.fst.snd.snd.snd.snd.snd.snd.snd.snd.snd.snd.snd.snd.snd.snd.snd.fst,
 ()))
 fun b => some b
 else
 bif decide (x.fst.fst = 12) then
 Option.bind
 (F35
 (x.fst.snd.snd.snd.snd.snd.snd.snd.fst, 0, 1099511627776, ()))
 fun b =>
 bif b.fst then
 Option.bind
 (F45
 x.fst.snd.snd.snd.snd.snd.snd.snd.snd.snd.snd.snd.snd.snd.snd.snd.snd)
 fun b => some b
 else some (false, ())
 else some (true, ())
def S11 : Sig := ⟨P11, R11, F11⟩
noncomputable def E11 : Env := { tab := tab, nt := 146, Γ := lookG [(15, [S15]), (33, [S33]), (34, [S34]), (35, [S35]), (36, [S36]), (37, [S37]), (38, [S38]), (39, [S39]), (40, [S40]), (41, [S41]), (42, [S42]), (43, [S43]), (44, [S44]), (45, [S45])], joins := lookN [], loops := lookN [] }
theorem raw11_eq (x : TMD × Unit) : afun E11 Tryz.f11 P11 R11 x = F11 x := by kernel_rfl
-- decamp/decampref03.Wide
def F138 (x : Int × Int × Unit) : Option (List UInt8 × Unit) :=
 Option.bind (mkO 0 x.snd.fst x.snd.fst) fun b =>
 iterE (Int × List UInt8 × Int × Unit) T83D
 (fun (x_1 : Int × List UInt8 × Int × Unit) =>
 bif decide (x_1.snd.snd.fst < x.snd.fst) then
 Option.bind
 (idxN x_1.snd.fst (wrap64 (wrap64 (x.snd.fst - 1) - x_1.snd.snd.fst)))
 fun b =>
 Option.bind x_1.snd.fst[b]? fun (_z : UInt8) =>
 Option.bind (quoO IntKind.u64 x_1.fst 256) fun b_1 =>
 some
 (Sum.inl
 (b_1, List.set x_1.snd.fst b (Sx.byteOf (IntKind.wrap IntKind.u8 x_1.fst)),
 wrap64 (x_1.snd.snd.fst + 1), ()))
 else some (Sum.inr (x_1.snd.fst, ())))
 big (x.fst, b, 0, ())
-- decamp/decampref03.Num
def F135 (x : Int × Unit) : Option (List UInt8 × Unit) :=
 Option.bind (F138 (IntKind.wrap IntKind.u64 x.fst, 8, ())) fun b => some b
-- decamp/decampref17.Nums
def F55 (x : List Int × Unit) : Option (List UInt8 × Unit) :=
 iterE (List UInt8 × Int × Unit) T83D
 (fun (x_1 : List UInt8 × Int × Unit) =>
 bif decide (x_1.snd.fst < Int.ofNat (List.length x.fst)) then
 Option.bind (idx x.fst x_1.snd.fst) fun b =>
 Option.bind (F135 (b, ())) fun b =>
 Option.bind (appU x_1.fst b.fst) fun b =>
 some (Sum.inl (b, wrap64 (x_1.snd.fst + 1), ()))
 else some (Sum.inr (x_1.fst, ())))
 big ([], 0, ())
-- decamp/decampref03.Count
def F58 (x : Int × Unit) : Option (List UInt8 × Unit) :=
 Option.bind (F138 (IntKind.wrap IntKind.u64 x.fst, 4, ())) fun b => some b
-- decamp/decampref03.Text
def F56 (x : List UInt8 × Unit) : Option (List UInt8 × Unit) :=
 Option.bind (F58 (Int.ofNat (List.length x.fst), ())) fun b =>
 Option.bind (appU b.fst x.fst) fun b => some (b, ())
-- decamp/decampref03.Flag
def F60 (x : Bool × Unit) : Option (List UInt8 × Unit) := bif x.fst then some ([UInt8.ofNat 1], ()) else some ([UInt8.ofNat 0], ())
-- decamp/decampref17.join
def F116 (x : List (List UInt8) × Unit) : Option (List UInt8 × Unit) :=
 iterE (List UInt8 × Int × Unit) T83D
 (fun (x_1 : List UInt8 × Int × Unit) =>
 bif decide (x_1.snd.fst < Int.ofNat (List.length x.fst)) then
 Option.bind (idx x.fst x_1.snd.fst) fun b =>
 Option.bind (appU x_1.fst b) fun b =>
 some (Sum.inl (b, wrap64 (x_1.snd.fst + 1), ()))
 else some (Sum.inr (x_1.fst, ())))
 big ([], 0, ())
-- decamp/decampref17.opsBytes
def F117 (x : List T48D × Unit) : Option (List UInt8 × Unit) :=
 Option.bind (F58 (Int.ofNat (List.length x.fst), ())) fun b =>
 iterE (List UInt8 × Int × Unit) T83D
 (fun (x_1 : List UInt8 × Int × Unit) =>
 bif decide (x_1.snd.fst < Int.ofNat (List.length x.fst)) then
 Option.bind (idx x.fst x_1.snd.fst) fun b =>
 Option.bind (idx x.fst x_1.snd.fst) fun b_1 =>
 Option.bind (F56 (b_1.snd.fst, ())) fun b_2 =>
 Option.bind (idx x.fst x_1.snd.fst)
 fun b_3 =>
 Option.bind (F56 (b_3.snd.snd.fst, ())) fun b_4 =>
 Option.bind (idx x.fst x_1.snd.fst)
 fun b_5 =>
 Option.bind (F56 (b_5.snd.snd.snd.fst, ())) fun b_6 =>
 Option.bind (idx x.fst x_1.snd.fst)
 fun b_7 =>
 Option.bind (F55 ([b_7.snd.snd.snd.snd.fst], ())) fun b_8 =>
 Option.bind
 (F116
 ([x_1.fst, [Sx.byteOf (IntKind.wrap IntKind.u8 b.fst)], b_2.fst, b_4.fst, b_6.fst,
 b_8.fst],
 ()))
 fun b =>
 some (Sum.inl (b.fst, wrap64 (x_1.snd.fst + 1), ()))
 else some (Sum.inr (x_1.fst, ())))
 big (b.fst, 0, ())
-- decamp/decampref17.VerBytes
def F197 (x : T66D × Unit) : Option (List UInt8 × Unit) :=
 Option.bind
 (Option.bind (F112 x) fun b =>
 bif !b.fst then some (Sum.inl (0, 0, 0, 0, [], 0, false, ())) else some (Sum.inl x.fst))
 fun o =>
 Sum.elim
 (fun (x : T66D) =>
 Option.bind (F55 ([x.fst, x.snd.fst, x.snd.snd.fst, x.snd.snd.snd.fst], ()))
 fun b =>
 Option.bind (F56 (x.snd.snd.snd.snd.fst, ())) fun b_1 =>
 Option.bind (F55 ([x.snd.snd.snd.snd.snd.fst], ())) fun b_2 =>
 Option.bind (F60 x.snd.snd.snd.snd.snd.snd) fun b_3 =>
 Option.bind (F116 ([b.fst, b_1.fst, b_2.fst, b_3.fst], ())) fun b =>
 some b)
 (fun (val : T83D) => some val) o
-- decamp/decampref17.ItemBytes
def F139 (x : T70D × Unit) : Option (List UInt8 × Unit) :=
 Option.bind
 (bif !decide (x.fst.fst = []) then
 Option.bind (F39 (x.fst.fst, ())) fun b =>
 bif !b.fst then some (Sum.inl ([], (0, 0, 0, 0, [], 0, false, ()), ()))
 else
 bif
 !(decide (x.fst.snd.fst.fst = 0) &&
 (decide (x.fst.snd.fst.snd.fst = 0) &&
 (decide (x.fst.snd.fst.snd.snd.fst = 0) &&
 (decide (x.fst.snd.fst.snd.snd.snd.fst = 0) &&
 (decide (x.fst.snd.fst.snd.snd.snd.snd.fst = []) &&
 (decide (x.fst.snd.fst.snd.snd.snd.snd.snd.fst = 0) &&
 (x.fst.snd.fst.snd.snd.snd.snd.snd.snd.fst == false && true))))))) then
 Option.bind (F112 x.fst.snd) fun b =>
 bif !b.fst then some (Sum.inl ([], (0, 0, 0, 0, [], 0, false, ()), ()))
 else some (Sum.inl x.fst)
 else some (Sum.inl x.fst)
 else
 bif
 !(decide (x.fst.snd.fst.fst = 0) &&
 (decide (x.fst.snd.fst.snd.fst = 0) &&
 (decide (x.fst.snd.fst.snd.snd.fst = 0) &&
 (decide (x.fst.snd.fst.snd.snd.snd.fst = 0) &&
 (decide (x.fst.snd.fst.snd.snd.snd.snd.fst = []) &&
 (decide (x.fst.snd.fst.snd.snd.snd.snd.snd.fst = 0) &&
 (x.fst.snd.fst.snd.snd.snd.snd.snd.snd.fst == false && true))))))) then
 Option.bind (F112 x.fst.snd) fun b =>
 bif !b.fst then some (Sum.inl ([], (0, 0, 0, 0, [], 0, false, ()), ()))
 else some (Sum.inl x.fst)
 else some (Sum.inl x.fst))
 fun o =>
 Sum.elim
 (fun (x : T70D) =>
 Option.bind (F56 (x.fst, ())) fun b =>
 Option.bind (F197 x.snd) fun b_1 =>
 Option.bind (F116 ([b.fst, b_1.fst], ())) fun b => some b)
 (fun (val : T83D) => some val) o
-- decamp/decampref17.itemsBytes
def F118 (x : List T70D × Unit) : Option (List UInt8 × Unit) :=
 Option.bind (F58 (Int.ofNat (List.length x.fst), ())) fun b =>
 iterE (List UInt8 × Int × Unit) T83D
 (fun (x_1 : List UInt8 × Int × Unit) =>
 bif decide (x_1.snd.fst < Int.ofNat (List.length x.fst)) then
 Option.bind (idx x.fst x_1.snd.fst)
 fun b =>
 Option.bind (F139 (b, ())) fun b =>
 Option.bind (appU x_1.fst b.fst) fun b =>
 some (Sum.inl (b, wrap64 (x_1.snd.fst + 1), ()))
 else some (Sum.inr (x_1.fst, ())))
 big (b.fst, 0, ())
-- decamp/decampref17.ReplyBytes
def F57 (x : T51D × Unit) : Option (List UInt8 × Unit) :=
 Option.bind
 (Option.bind (F40 x) fun b =>
 bif !b.fst then some (Sum.inl (0, 0, false, 0, [], 0, 0, ())) else some (Sum.inl x.fst))
 fun o =>
 Sum.elim
 (fun (x :
 Int × Int × Bool × Int × List T70D × Int × Int × Unit) =>
 Option.bind (F55 ([x.snd.fst], ())) fun b =>
 Option.bind (F60 (x.snd.snd.fst, ())) fun b_1 =>
 Option.bind (F55 ([x.snd.snd.snd.fst], ())) fun b_2 =>
 Option.bind (F118 (x.snd.snd.snd.snd.fst, ())) fun b_3 =>
 Option.bind (F55 ([x.snd.snd.snd.snd.snd.snd.fst], ())) fun b_4 =>
 Option.bind
 (F116
 ([[Sx.byteOf (IntKind.wrap IntKind.u8 x.fst)], b.fst, b_1.fst, b_2.fst, b_3.fst,
 [Sx.byteOf (IntKind.wrap IntKind.u8 x.snd.snd.snd.snd.snd.fst)], b_4.fst],
 ()))
 fun b => some b)
 (fun (val : T83D) => some val) o
-- decamp/decampref17.handedBytes
def F119 (x : List T94D × List T113D × Unit) : Option (List UInt8 × Unit) :=
 Option.bind (F58 (Int.ofNat (List.length x.fst), ())) fun b =>
 iterE (List UInt8 × Int × Unit) T83D
 (fun (x_1 : List UInt8 × Int × Unit) =>
 bif decide (x_1.snd.fst < Int.ofNat (List.length x.fst)) then
 Option.bind (idx x.fst x_1.snd.fst)
 fun b =>
 Option.bind (idx x.fst x_1.snd.fst)
 fun b_1 =>
 Option.bind (F55 ([b.fst, b_1.snd.fst], ())) fun b =>
 Option.bind (idx x.fst x_1.snd.fst)
 fun b_2 =>
 Option.bind (F57 b_2.snd.snd) fun b_3 =>
 Option.bind (F116 ([x_1.fst, b.fst, b_3.fst], ())) fun b =>
 some (Sum.inl (b.fst, wrap64 (x_1.snd.fst + 1), ()))
 else
 Option.map Sum.inr
 (Option.bind (F58 (Int.ofNat (List.length x.snd.fst), ())) fun b =>
 Option.bind (F116 ([x_1.fst, b.fst], ())) fun b =>
 iterE (List UInt8 × Int × Unit) T83D
 (fun (x_2 : List UInt8 × Int × Unit) =>
 bif decide (x_2.snd.fst < Int.ofNat (List.length x.snd.fst)) then
 Option.bind (idx x.snd.fst x_2.snd.fst) fun b =>
 Option.bind (idx x.snd.fst x_2.snd.fst) fun b_1 =>
 Option.bind (idx x.snd.fst x_2.snd.fst) fun b_2 =>
 Option.bind (F55 ([b.fst, b_1.snd.fst, b_2.snd.snd.fst], ()))
 fun b =>
 Option.bind (F116 ([x_2.fst, b.fst], ())) fun b =>
 some (Sum.inl (b.fst, wrap64 (x_2.snd.fst + 1), ()))
 else some (Sum.inr (x_2.fst, ())))
 big (b.fst, 0, ())))
 big (b.fst, 0, ())
-- decamp/decampref17.Bytes
def F46 (x : T33D × Unit) : Option (List UInt8 × Unit) :=
 Option.bind (F55 ([x.fst.fst, x.fst.snd.fst], ())) fun b =>
 Option.bind (F56 (x.fst.snd.snd.fst.snd.fst, ())) fun b_1 =>
 Option.bind (F56 (x.fst.snd.snd.fst.snd.snd.fst, ())) fun b_2 =>
 Option.bind (F56 (x.fst.snd.snd.fst.snd.snd.snd.fst, ())) fun b_3 =>
 Option.bind
 (F55
 ([x.fst.snd.snd.fst.snd.snd.snd.snd.fst, x.fst.snd.snd.fst.snd.snd.snd.snd.snd.fst,
 x.fst.snd.snd.fst.snd.snd.snd.snd.snd.snd.fst],
 ()))
 fun b_4 =>
 Option.bind (F58 (Int.ofNat (List.length x.fst.snd.snd.fst.snd.snd.snd.snd.snd.snd.snd.fst), ()))
 fun b_5 =>
 Option.bind
 (F116
 ([b.fst, [Sx.byteOf (IntKind.wrap IntKind.u8 x.fst.snd.snd.fst.fst)], b_1.fst, b_2.fst, b_3.fst,
 b_4.fst, b_5.fst],
 ()))
 fun b =>
 iterE (List UInt8 × Int × Unit) T83D
 (fun (x_1 : List UInt8 × Int × Unit) =>
 bif
 decide
 (x_1.snd.fst < Int.ofNat (List.length x.fst.snd.snd.fst.snd.snd.snd.snd.snd.snd.snd.fst)) then
 Option.bind (idx x.fst.snd.snd.fst.snd.snd.snd.snd.snd.snd.snd.fst x_1.snd.fst)
 fun b =>
 Option.bind (F56 (b.fst, ())) fun b_6 =>
 Option.bind (F55 ([b.snd.snd.snd.fst], ())) fun b_7 =>
 Option.bind (F56 b.snd.snd.snd.snd) fun b_8 =>
 Option.bind
 (F116
 ([x_1.fst, b_6.fst,
 [Sx.byteOf (IntKind.wrap IntKind.u8 b.snd.fst),
 Sx.byteOf (IntKind.wrap IntKind.u8 b.snd.snd.fst)],
 b_7.fst, b_8.fst],
 ()))
 fun b =>
 some (Sum.inl (b.fst, wrap64 (x_1.snd.fst + 1), ()))
 else
 Option.map Sum.inr
 (Option.bind (F117 (x.fst.snd.snd.fst.snd.snd.snd.snd.snd.snd.snd.snd.fst, ()))
 fun b =>
 Option.bind (F117 (x.fst.snd.snd.fst.snd.snd.snd.snd.snd.snd.snd.snd.snd.fst, ()))
 fun b_6 =>
 Option.bind
 (F55
 ([x.fst.snd.snd.fst.snd.snd.snd.snd.snd.snd.snd.snd.snd.snd.fst,
 x.fst.snd.snd.fst.snd.snd.snd.snd.snd.snd.snd.snd.snd.snd.snd.fst,
 x.fst.snd.snd.fst.snd.snd.snd.snd.snd.snd.snd.snd.snd.snd.snd.snd.fst],
 ()))
 fun b_7 =>
 Option.bind
 (F60
 (x.fst.snd.snd.fst.snd.snd.snd.snd.snd.snd.snd.snd.snd.snd.snd.snd.snd.fst,
 ()))
 fun b_8 =>
 Option.bind
 (F118
 (x.fst.snd.snd.fst.snd.snd.snd.snd.snd.snd.snd.snd.snd.snd.snd.snd.snd.snd.fst,
 ()))
 fun b_9 =>
 Option.bind
 (F119 x.fst.snd.snd.fst.snd.snd.snd.snd.snd.snd.snd.snd.snd.snd.snd.snd.snd.snd.snd)
 fun b_10 =>
 Option.bind
 (F116
 ([x_1.fst, b.fst, b_6.fst, b_7.fst, b_8.fst, b_9.fst, b_10.fst], ()))
 fun b => some b))
 big (b.fst, 0, ())
-- decamp/decampref22.join
def F53 (x : List (List UInt8) × Unit) : Option (List UInt8 × Unit) :=
 iterE (List UInt8 × Int × Unit) T83D
 (fun (x_1 : List UInt8 × Int × Unit) =>
 bif decide (x_1.snd.fst < Int.ofNat (List.length x.fst)) then
 Option.bind (idx x.fst x_1.snd.fst) fun b =>
 Option.bind (appU x_1.fst b) fun b =>
 some (Sum.inl (b, wrap64 (x_1.snd.fst + 1), ()))
 else some (Sum.inr (x_1.fst, ())))
 big ([], 0, ())
-- decamp/decampref07.three
def F196 (x : Int × Int × List UInt8 × Unit) : Option (List UInt8 × Unit) :=
 Option.bind (F135 (x.fst, ())) fun b =>
 Option.bind (F135 (x.snd.fst, ())) fun b_1 =>
 Option.bind (appU b.fst b_1.fst) fun b =>
 Option.bind (F56 x.snd.snd) fun b_2 =>
 Option.bind (appU b b_2.fst) fun b => some (b, ())
-- decamp/decampref07.Bytes
def F136 (x : T25D × Unit) : Option (List UInt8 × Unit) :=
 Option.bind (F183 x) fun b =>
 bif !b.fst then Option.bind (mkO 0 20 20) fun b => some (b, ())
 else Option.bind (F196 x.fst) fun b => some b
-- decamp/decampref07.SnapBytes
def F137 (x : T25D × Unit) : Option (List UInt8 × Unit) :=
 Option.bind (F107 x) fun b =>
 bif !b.fst then Option.bind (mkO 0 20 20) fun b => some (b, ())
 else Option.bind (F196 x.fst) fun b => some b
-- decamp/decampref11.Bytes
def F54 (x : T27D × Unit) : Option (List UInt8 × Unit) :=
 Option.bind (F34 x) fun b =>
 bif !b.fst then some ([UInt8.ofNat 0], ())
 else
 iterE (List UInt8 × Int × Unit) T83D
 (fun (x_1 : List UInt8 × Int × Unit) =>
 bif decide (x_1.snd.fst < 5) then
 bif decide (x_1.snd.fst = Int.ofNat 0) then
 Option.bind (F135 (x.fst.snd.snd.snd.fst, ())) fun b =>
 Option.bind (appU x_1.fst b.fst) fun b =>
 some (Sum.inl (b, wrap64 (x_1.snd.fst + 1), ()))
 else
 bif decide (x_1.snd.fst = Int.ofNat (0 + 1)) then
 Option.bind (F135 (x.fst.snd.snd.snd.snd.fst, ())) fun b =>
 Option.bind (appU x_1.fst b.fst) fun b =>
 some (Sum.inl (b, wrap64 (x_1.snd.fst + 1), ()))
 else
 bif decide (x_1.snd.fst = Int.ofNat (0 + 1 + 1)) then
 Option.bind (F135 (x.fst.snd.snd.snd.snd.snd.fst, ())) fun b =>
 Option.bind (appU x_1.fst b.fst) fun b =>
 some (Sum.inl (b, wrap64 (x_1.snd.fst + 1), ()))
 else
 bif decide (x_1.snd.fst = Int.ofNat (0 + 1 + 1 + 1)) then
 Option.bind (F135 (x.fst.snd.snd.snd.snd.snd.snd.fst, ())) fun b =>
 Option.bind (appU x_1.fst b.fst) fun b =>
 some (Sum.inl (b, wrap64 (x_1.snd.fst + 1), ()))
 else
 bif decide (x_1.snd.fst = Int.ofNat (0 + 1 + 1 + 1 + 1)) then
 Option.bind (F135 (x.fst.snd.snd.snd.snd.snd.snd.snd.fst, ()))
 fun b =>
 Option.bind (appU x_1.fst b.fst) fun b =>
 some (Sum.inl (b, wrap64 (x_1.snd.fst + 1), ()))
 else none
 else
 Option.map Sum.inr
 (Option.bind (F60 (x.fst.snd.snd.snd.snd.snd.snd.snd.snd.fst, ())) fun b =>
 Option.bind (appU x_1.fst b.fst) fun b =>
 Option.bind (F58 (Int.ofNat (List.length x.fst.snd.snd.snd.snd.snd.snd.snd.snd.snd.fst), ()))
 fun b_1 =>
 Option.bind (appU b b_1.fst) fun b =>
 iterE (List UInt8 × Int × Unit) T83D
 (fun (x_2 : List UInt8 × Int × Unit) =>
 bif
 decide
 (x_2.snd.fst <
 Int.ofNat (List.length x.fst.snd.snd.snd.snd.snd.snd.snd.snd.snd.fst)) then
 Option.bind (idx x.fst.snd.snd.snd.snd.snd.snd.snd.snd.snd.fst x_2.snd.fst)
 fun b =>
 Option.bind (F136 (b, ())) fun b =>
 Option.bind (appU x_2.fst b.fst) fun b =>
 some (Sum.inl (b, wrap64 (x_2.snd.fst + 1), ()))
 else
 Option.map Sum.inr
 (bif decide (x.fst.fst = 7) then
 Option.bind (F137 x.fst.snd.snd.snd.snd.snd.snd.snd.snd.snd.snd)
 fun b =>
 Option.bind (appU x_2.fst b.fst) fun b => some (b, ())
 else some (x_2.fst, ())))
 big (b, 0, ())))
 big
 ([Sx.byteOf (IntKind.wrap IntKind.u8 x.fst.fst), Sx.byteOf (IntKind.wrap IntKind.u8 x.fst.snd.fst),
 Sx.byteOf (IntKind.wrap IntKind.u8 x.fst.snd.snd.fst)],
 0, ())
-- decamp/decampref22.itemsBytes
def F59 (x : List T70D × Unit) : Option (List UInt8 × Unit) :=
 Option.bind (F58 (Int.ofNat (List.length x.fst), ())) fun b =>
 iterE (List UInt8 × Int × Unit) T83D
 (fun (x_1 : List UInt8 × Int × Unit) =>
 bif decide (x_1.snd.fst < Int.ofNat (List.length x.fst)) then
 Option.bind (idx x.fst x_1.snd.fst)
 fun b =>
 Option.bind (F139 (b, ())) fun b =>
 Option.bind (appU x_1.fst b.fst) fun b =>
 some (Sum.inl (b, wrap64 (x_1.snd.fst + 1), ()))
 else some (Sum.inr (x_1.fst, ())))
 big (b.fst, 0, ())
-- decamp/decampref17.HandBytes
def F61 (x : T55D × Unit) : Option (List UInt8 × Unit) :=
 Option.bind
 (Option.bind (F44 x) fun b =>
 bif !b.fst then some (Sum.inl (0, 0, [], [], ())) else some (Sum.inl x.fst))
 fun o =>
 Sum.elim
 (fun (x :
 Int × Int × List
 (Int × Int × (Int × Int × Bool × Int × List
 T70D × Int × Int × Unit) × Unit) × List T113D × Unit) =>
 Option.bind (F55 ([x.fst, x.snd.fst], ())) fun b =>
 Option.bind (F119 x.snd.snd) fun b_1 =>
 Option.bind (F116 ([b.fst, b_1.fst], ())) fun b => some b)
 (fun (val : T83D) => some val) o
-- decamp/decampref17.MoveBytes
def F62 (x : T53D × Unit) : Option (List UInt8 × Unit) :=
 Option.bind
 (Option.bind (F45 x) fun b =>
 bif !b.fst then some (Sum.inl (0, 0, 0, [], [], 0, [], 0, 0, 0, ())) else some (Sum.inl x.fst))
 fun o =>
 Sum.elim
 (fun (x : T53D) =>
 Option.bind (F55 ([x.snd.fst, x.snd.snd.fst], ())) fun b =>
 Option.bind (F56 (x.snd.snd.snd.fst, ())) fun b_1 =>
 Option.bind (F56 (x.snd.snd.snd.snd.fst, ())) fun b_2 =>
 Option.bind (F55 ([x.snd.snd.snd.snd.snd.fst], ())) fun b_3 =>
 Option.bind (F56 (x.snd.snd.snd.snd.snd.snd.fst, ())) fun b_4 =>
 Option.bind
 (F55
 ([x.snd.snd.snd.snd.snd.snd.snd.fst, x.snd.snd.snd.snd.snd.snd.snd.snd.fst,
 x.snd.snd.snd.snd.snd.snd.snd.snd.snd.fst],
 ()))
 fun b_5 =>
 Option.bind
 (F116
 ([[Sx.byteOf (IntKind.wrap IntKind.u8 x.fst)], b.fst, b_1.fst, b_2.fst, b_3.fst, b_4.fst,
 b_5.fst],
 ()))
 fun b => some b)
 (fun (val : T83D) => some val) o
-- decamp/decampref22.Bytes
def F14 (x : TMD × Unit) : Option (List UInt8 × Unit) :=
 bif decide (x.fst.fst = 1) then
 Option.bind (F54 (x.fst.snd.snd.fst, ())) fun b =>
 Option.bind (F53 ([[UInt8.ofNat 1], b.fst], ())) fun b => some b
 else
 Option.bind (F55 ([x.fst.snd.fst], ())) fun b =>
 Option.bind (F53 ([[Sx.byteOf (IntKind.wrap IntKind.u8 x.fst.fst)], b.fst], ()))
 fun b =>
 Option.bind (F56 (x.fst.snd.snd.snd.snd.snd.fst, ())) fun b_1 =>
 Option.bind (F56 (x.fst.snd.snd.snd.snd.snd.snd.fst, ())) fun b_2 =>
 bif decide (x.fst.fst = 2) then
 Option.bind (F46 (x.fst.snd.snd.snd.fst, ())) fun b_3 =>
 Option.bind (F56 b_3) fun b_4 =>
 Option.bind (F53 ([b.fst, b_4.fst], ())) fun b => some b
 else
 bif decide (x.fst.fst = 3) then
 Option.bind (F55 ([x.fst.snd.snd.snd.snd.fst], ())) fun b_3 =>
 Option.bind
 (F55
 ([x.fst.snd.snd.snd.snd.snd.snd.snd.fst, x.fst.snd.snd.snd.snd.snd.snd.snd.snd.fst], ()))
 fun b_4 =>
 Option.bind (F53 ([b.fst, b_3.fst, b_1.fst, b_2.fst, b_4.fst], ()))
 fun b => some b
 else
 bif decide (x.fst.fst = 4) then
 Option.bind (F55 ([x.fst.snd.snd.snd.snd.fst], ())) fun b_3 =>
 Option.bind (F55 ([x.fst.snd.snd.snd.snd.snd.snd.snd.fst], ()))
 fun b_4 =>
 Option.bind (F53 ([b.fst, b_3.fst, b_1.fst, b_2.fst, b_4.fst], ()))
 fun b => some b
 else
 bif decide (x.fst.fst = 5) then
 Option.bind (F55 ([x.fst.snd.snd.snd.snd.snd.snd.snd.fst], ()))
 fun b_3 =>
 Option.bind (F53 ([b.fst, b_1.fst, b_2.fst, b_3.fst], ())) fun b =>
 some b
 else
 bif decide (x.fst.fst = 6) then
 Option.bind (F55 ([x.fst.snd.snd.snd.snd.snd.snd.snd.fst], ()))
 fun b_3 =>
 Option.bind (F53 ([b.fst, b_3.fst], ())) fun b => some b
 else
 bif decide (x.fst.fst = 8) then
 Option.bind
 (F55
 ([x.fst.snd.snd.snd.snd.snd.snd.snd.snd.snd.fst,
 x.fst.snd.snd.snd.snd.snd.snd.snd.snd.snd.snd.fst],
 ()))
 fun b_3 =>
 Option.bind (F57 (x.fst.snd.snd.snd.snd.snd.snd.snd.snd.snd.snd.snd.fst, ()))
 fun b_4 =>
 Option.bind (F53 ([b.fst, b_3.fst, b_4.fst], ())) fun b =>
 some b
 else
 bif decide (x.fst.fst = 9) then
 Option.bind
 (F55
 ([x.fst.snd.snd.snd.snd.snd.snd.snd.snd.snd.fst, x.fst.snd.snd.snd.snd.snd.snd.snd.fst],
 ()))
 fun b_3 =>
 Option.bind
 (F58
 (Int.ofNat (List.length x.fst.snd.snd.snd.snd.snd.snd.snd.snd.snd.snd.snd.snd.fst),
 ()))
 fun b_4 =>
 Option.bind (F53 ([b.fst, b_3.fst, b_4.fst], ())) fun b =>
 iterE (List UInt8 × Int × Unit) T83D
 (fun (x_1 : List UInt8 × Int × Unit) =>
 bif
 decide
 (x_1.snd.fst <
 Int.ofNat
 (List.length
 x.fst.snd.snd.snd.snd.snd.snd.snd.snd.snd.snd.snd.snd.fst)) then
 Option.bind
 (idx x.fst.snd.snd.snd.snd.snd.snd.snd.snd.snd.snd.snd.snd.fst x_1.snd.fst)
 fun b =>
 Option.bind (F55 ([b.fst], ())) fun b =>
 Option.bind
 (idx x.fst.snd.snd.snd.snd.snd.snd.snd.snd.snd.snd.snd.snd.fst x_1.snd.fst)
 fun b_5 =>
 Option.bind (F59 b_5.snd) fun b_6 =>
 Option.bind (F53 ([x_1.fst, b.fst, b_6.fst], ()))
 fun b =>
 some
 (Sum.inl
 (b.fst, wrap64 (x_1.snd.fst + 1), ()))
 else some (Sum.inr (x_1.fst, ())))
 big (b.fst, 0, ())
 else
 bif decide (x.fst.fst = 10) then
 Option.bind (F55 ([x.fst.snd.snd.snd.snd.snd.snd.snd.snd.snd.fst], ()))
 fun b_3 =>
 Option.bind
 (F60 (x.fst.snd.snd.snd.snd.snd.snd.snd.snd.snd.snd.snd.snd.snd.snd.fst, ()))
 fun b_4 =>
 Option.bind
 (F59 (x.fst.snd.snd.snd.snd.snd.snd.snd.snd.snd.snd.snd.snd.snd.fst, ()))
 fun b_5 =>
 Option.bind (F53 ([b.fst, b_3.fst, b_4.fst, b_5.fst], ()))
 fun b => some b
 else
 bif decide (x.fst.fst = 11) then
 Option.bind
 (F43
 (x.fst.snd.snd.snd.snd.snd.snd.snd.snd.snd.snd.snd.snd.snd.snd.snd.fst, ()))
 fun b_3 =>
 bif b_3.fst then
 Option.bind (F55 ([x.fst.snd.snd.snd.snd.snd.snd.snd.snd.snd.fst], ()))
 fun b_4 =>
 Option.bind (F53 ([b.fst, b_4.fst, [UInt8.ofNat 0]], ()))
 fun b => some b
 else
 Option.bind (F55 ([x.fst.snd.snd.snd.snd.snd.snd.snd.snd.snd.fst], ()))
 fun b_4 =>
 Option.bind
 (F61
 (x.fst.snd.snd.snd.snd.snd.snd.snd.snd.snd.snd.snd.snd.snd.snd.snd.fst,
 ()))
 fun b_5 =>
 Option.bind (F53 ([b.fst, b_4.fst, [UInt8.ofNat 1], b_5.fst], ()))
 fun b => some b
 else
 bif decide (x.fst.fst = 12) then
 Option.bind (F55 ([x.fst.snd.snd.snd.snd.snd.snd.snd.fst], ()))
 fun b_3 =>
 Option.bind
 (F62 x.fst.snd.snd.snd.snd.snd.snd.snd.snd.snd.snd.snd.snd.snd.snd.snd.snd)
 fun b_4 =>
 Option.bind (F53 ([b.fst, b_3.fst, b_4.fst], ()))
 fun b => some b
 else some b
-- decamp/decampref22.Long
def F12 (x : TMD × Unit) : Option (Bool × Unit) :=
 bif decide (x.fst.fst = 2) then
 Option.bind (F46 (x.fst.snd.snd.snd.fst, ())) fun b =>
 bif decide (12000 < Int.ofNat (List.length b.fst)) then some (true, ())
 else
 Option.bind (F14 x) fun b =>
 some (decide (60000 < Int.ofNat (List.length b.fst)), ())
 else
 Option.bind (F14 x) fun b =>
 some (decide (60000 < Int.ofNat (List.length b.fst)), ())
-- decamp/decamplaw11.Of
def F69 (x : T27D × Unit) : Option (T27D × Unit) :=
 some x
-- decamp/decamplaw22.Of
def F16 (x : TMD × Unit) : Option (TMD × Unit) :=
 Option.bind (F69 (x.fst.snd.snd.fst, ()))
 fun b =>
 some ((x.fst.fst, x.fst.snd.fst, b.fst, x.fst.snd.snd.snd), ())
-- decamp/decamplaw22.TalkEncodes
def F3 (x : TMD × Unit) : Option (Bool × Unit) :=
 Option.bind (F7 ()) fun b =>
 bif !b.fst then Option.bind (F7 ()) fun b => some b
 else
 Option.bind (F8 x) fun b =>
 bif !b.fst then Option.bind (F7 ()) fun b => some b
 else
 Option.bind (F10 x)
 fun b =>
 Option.bind (F9 b) fun b =>
 Option.bind (F11 x) fun b_1 =>
 bif !b_1.fst then
 bif decide (b.snd.fst = 1) then some (decide (Int.ofNat (List.length b.fst) = 0), ())
 else some (false, ())
 else
 Option.bind (F12 x) fun b_2 =>
 bif b_2.fst then
 bif decide (b.snd.fst = 3) then some (decide (Int.ofNat (List.length b.fst) = 0), ())
 else some (false, ())
 else
 Option.bind (F13 (b.fst, ()))
 fun b_3 =>
 bif decide (b.snd.fst = 0) then
 Option.bind (F14 x) fun b_4 =>
 bif decide (b.fst = b_4.fst) then
 bif decide (b_3.snd.fst = 0) then
 Option.bind (F16 (b_3.fst, ()))
 fun b =>
 Option.bind (F15 (b.fst, x)) fun b => some b
 else some (false, ())
 else some (false, ())
 else some (false, ())
def S3 : Sig := ⟨P3, R3, F3⟩
-- decamp/decamplaw22.TalkDecodes
-- decamp/talk.Answer
def F19 (x : Int × Unit) : Option (Int × Unit) :=
 bif decide (x.fst = 2) then
 bif decide (x.fst = 2) then some (8, ())
 else
 bif decide (x.fst = 4) then some (9, ())
 else
 bif decide (x.fst = 5) then some (10, ())
 else
 bif decide (x.fst = 6) then some (11, ())
 else bif decide (x.fst = 7) then some (12, ()) else some (0, ())
 else
 bif decide (x.fst = 3) then some (8, ())
 else
 bif decide (x.fst = 4) then some (9, ())
 else
 bif decide (x.fst = 5) then some (10, ())
 else
 bif decide (x.fst = 6) then some (11, ())
 else bif decide (x.fst = 7) then some (12, ()) else some (0, ())
def S19 : Sig := ⟨P19, R19, F19⟩
noncomputable def E19 : Env := { tab := tab, nt := 15, Γ := lookG [], joins := lookN [], loops := lookN [] }
theorem raw19_eq (x : Int × Unit) : afun E19 Tryz.f19 P19 R19 x = F19 x := by kernel_rfl
-- decamp/decampref22.Answer
def F20 (x : Int × Unit) : Option (Int × Unit) :=
 bif decide (maxI 0 (minI x.fst 12) = Int.ofNat 0) then some (0, ())
 else
 bif decide (maxI 0 (minI x.fst 12) = Int.ofNat (0 + 1)) then some (0, ())
 else
 bif decide (maxI 0 (minI x.fst 12) = Int.ofNat (0 + 1 + 1)) then some (8, ())
 else
 bif decide (maxI 0 (minI x.fst 12) = Int.ofNat (0 + 1 + 1 + 1)) then some (8, ())
 else
 bif decide (maxI 0 (minI x.fst 12) = Int.ofNat (0 + 1 + 1 + 1 + 1)) then some (9, ())
 else
 bif decide (maxI 0 (minI x.fst 12) = Int.ofNat (0 + 1 + 1 + 1 + 1 + 1)) then some (10, ())
 else
 bif decide (maxI 0 (minI x.fst 12) = Int.ofNat (0 + 1 + 1 + 1 + 1 + 1 + 1)) then some (11, ())
 else
 bif decide (maxI 0 (minI x.fst 12) = Int.ofNat (0 + 1 + 1 + 1 + 1 + 1 + 1 + 1)) then
 some (12, ())
 else
 bif decide (maxI 0 (minI x.fst 12) = Int.ofNat (0 + 1 + 1 + 1 + 1 + 1 + 1 + 1 + 1)) then
 some (0, ())
 else
 bif decide (maxI 0 (minI x.fst 12) = Int.ofNat (0 + 1 + 1 + 1 + 1 + 1 + 1 + 1 + 1 + 1)) then
 some (0, ())
 else
 bif decide (maxI 0 (minI x.fst 12) = Int.ofNat (0 + 1 + 1 + 1 + 1 + 1 + 1 + 1 + 1 + 1 + 1)) then
 some (0, ())
 else
 bif
 decide
 (maxI 0 (minI x.fst 12) = Int.ofNat (0 + 1 + 1 + 1 + 1 + 1 + 1 + 1 + 1 + 1 + 1 + 1)) then
 some (0, ())
 else
 bif
 decide
 (maxI 0 (minI x.fst 12) =
 Int.ofNat (0 + 1 + 1 + 1 + 1 + 1 + 1 + 1 + 1 + 1 + 1 + 1 + 1)) then
 some (0, ())
 else none
def S20 : Sig := ⟨P20, R20, F20⟩
noncomputable def E20 : Env := { tab := tab, nt := 8, Γ := lookG [], joins := lookN [], loops := lookN [] }
theorem raw20_eq (x : Int × Unit) : afun E20 Tryz.f20 P20 R20 x = F20 x := by kernel_rfl
-- decamp/decamplaw22.TalkRight
def F5 (x : TMD × TMD × Int × Unit) : Option (Bool × Unit) :=
 Option.bind (F7 ()) fun b =>
 bif !b.fst then Option.bind (F7 ()) fun b => some b
 else
 Option.bind (F8 (x.fst, ())) fun b =>
 bif !b.fst then Option.bind (F7 ()) fun b => some b
 else
 Option.bind (F8 (x.snd.fst, ())) fun b =>
 bif !b.fst then Option.bind (F7 ()) fun b => some b
 else
 Option.bind (F10 (x.fst, ()))
 fun b =>
 Option.bind (F10 (x.snd.fst, ()))
 fun b_1 =>
 Option.bind (F17 b) fun b_2 =>
 Option.bind (F11 (x.fst, ())) fun b_3 =>
 bif b_2.fst == b_3.fst then
 Option.bind (F18 (b.fst, b_1)) fun b_4 =>
 Option.bind (F15 (x.fst, x.snd.fst, ())) fun b_5 =>
 bif b_4.fst == b_5.fst then
 Option.bind (F18 (b.fst, b)) fun b =>
 bif b.fst then
 Option.bind (F19 x.snd.snd) fun b =>
 Option.bind (F20 x.snd.snd) fun b_6 =>
 bif decide (b.fst = b_6.fst) then
 Option.bind (F19 (x.fst.fst, ())) fun b =>
 Option.bind (F20 (x.fst.fst, ())) fun b_7 =>
 some (decide (b.fst = b_7.fst), ())
 else some (false, ())
 else some (false, ())
 else some (false, ())
 else some (false, ())
def S5 : Sig := ⟨P5, R5, F5⟩
noncomputable def E5 : Env := { tab := tab, nt := 61, Γ := lookG [(7, [S7]), (8, [S8]), (10, [S10]), (11, [S11]), (15, [S15]), (17, [S17]), (18, [S18]), (19, [S19]), (20, [S20])], joins := lookN [], loops := lookN [] }
theorem raw5_eq (x : TMD × TMD × Int × Unit) : afun E5 Tryz.f5 P5 R5 x = F5 x := by kernel_rfl
-- slices.Clone[[]decamp/api.Entry,decamp/api.Entry]
-- slices.Clone[[]byte,byte]
-- decamp/talk.cloneRaft
-- slices.Clone[[]decamp/api.Item,decamp/api.Item]
-- decamp/talk.cloneReply
-- slices.Clone[[]decamp/api.Sess,decamp/api.Sess]
-- decamp/talk.cloneSess
-- slices.Clone[[]decamp/api.Lease,decamp/api.Lease]
-- slices.Clone[[]decamp/api.Cmp,decamp/api.Cmp]
-- slices.Clone[[]decamp/api.Op,decamp/api.Op]
-- decamp/talk.cloneCmd
-- slices.Clone[[]decamp/api.Batch,decamp/api.Batch]
-- decamp/talk.Clone
-- decamp/decamplaw22.spoil
-- decamp/decamplaw22.TalkClones
end
end Go.Proofs.YteebpcpkhojfkaaGreat

