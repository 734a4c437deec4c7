/-
  Remc: by a program of the bench (seat.py).
-/
import Derived.Test.YtgfdlapadghggaaGreatRemcTab
namespace Go.Proofs.YtgfdlapadghggaaGreat
open Go.Sx Go
set_option maxRecDepth 100000
noncomputable section
-- decamp/index.text
def F63 (x : List UInt8 × UInt8 × Unit) : Option (Bool × Unit) :=
 bif decide (Int.ofNat (List.length x.fst) < 1) then some (false, ())
 else
 bif decide (32 < Int.ofNat (List.length x.fst)) then some (false, ())
 else
 iterE (Int × Unit) (Bool × Unit)
 (fun (x_1 : Int × Unit) =>
 bif decide (x_1.fst < Int.ofNat (List.length x.fst)) then
 Option.bind (idx x.fst x_1.fst) fun b =>
 bif decide (intOf8 b < intOf8 (UInt8.ofNat 33)) then some (Sum.inr (false, ()))
 else
 Option.bind (idx x.fst x_1.fst) fun b =>
 bif decide (intOf8 x.snd.fst < intOf8 b) then some (Sum.inr (false, ()))
 else some (Sum.inl (wrap64 (x_1.fst + 1), ()))
 else some (Sum.inr (true, ())))
 big (0, ())
def S63 : Sig := ⟨P63, R63, F63⟩
noncomputable def E63 : Env := { tab := tab, nt := 31, Γ := lookG [], joins := lookN [], loops := lookN [(4, mkLoop ⟨[⟨.slot 16, (.int .i64), .pv⟩], [0, 1, 15], []⟩)] }
theorem raw63_eq (x : List UInt8 × UInt8 × Unit) : afun E63 Tryz.f63 P63 R63 x = F63 x := by kernel_rfl
-- decamp/index.Key
def F42 (x : List UInt8 × Unit) : Option (Bool × Unit) := Option.bind (F63 (x.fst, UInt8.ofNat 126, ())) fun b => some b
def S42 : Sig := ⟨P42, R42, F42⟩
noncomputable def E42 : Env := { tab := tab, nt := 5, Γ := lookG [(63, [S63])], joins := lookN [], loops := lookN [] }
theorem raw42_eq (x : List UInt8 × Unit) : afun E42 Tryz.f42 P42 R42 x = F42 x := by kernel_rfl
-- decamp/cmd.Prefix
def F41 (x : List UInt8 × Unit) : Option (Bool × Unit) :=
 bif decide (Int.ofNat (List.length x.fst) ≤ 8) then Option.bind (F42 x) fun b => some b
 else some (false, ())
def S41 : Sig := ⟨P41, R41, F41⟩
noncomputable def E41 : Env := { tab := tab, nt := 10, Γ := lookG [(42, [S42])], joins := lookN [], loops := lookN [] }
theorem raw41_eq (x : List UInt8 × Unit) : afun E41 Tryz.f41 P41 R41 x = F41 x := by kernel_rfl
-- internal/stringslite.HasPrefix
def F78 (x : List UInt8 × List UInt8 × Unit) : Option (Bool × Unit) :=
 bif decide (Int.ofNat (List.length x.snd.fst) ≤ Int.ofNat (List.length x.fst)) then
 Option.bind (sliceO x.fst 0 (Int.ofNat (List.length x.snd.fst))) fun b =>
 some (decide (b = x.snd.fst), ())
 else some (false, ())
def S78 : Sig := ⟨P78, R78, F78⟩
noncomputable def E78 : Env := { tab := tab, nt := 18, Γ := lookG [], joins := lookN [], loops := lookN [] }
theorem raw78_eq (x : List UInt8 × List UInt8 × Unit) : afun E78 Tryz.f78 P78 R78 x = F78 x := by kernel_rfl
-- strings.HasPrefix
def F53 (x : List UInt8 × List UInt8 × Unit) : Option (Bool × Unit) := Option.bind (F78 x) fun b => some b
def S53 : Sig := ⟨P53, R53, F53⟩
noncomputable def E53 : Env := { tab := tab, nt := 8, Γ := lookG [(78, [S78])], joins := lookN [], loops := lookN [] }
theorem raw53_eq (x : List UInt8 × List UInt8 × Unit) : afun E53 Tryz.f53 P53 R53 x = F53 x := by kernel_rfl
-- decamp/remap.Under
def F40 (x : List UInt8 × List UInt8 × Unit) : Option (Bool × Unit) :=
 Option.bind (F41 (x.fst, ())) fun b =>
 bif b.fst then
 Option.bind (F42 x.snd) fun b =>
 bif b.fst then Option.bind (F53 (x.snd.fst, x.fst, ())) fun b => some b
 else some (false, ())
 else some (false, ())
def S40 : Sig := ⟨P40, R40, F40⟩
noncomputable def E40 : Env := { tab := tab, nt := 16, Γ := lookG [(41, [S41]), (42, [S42]), (53, [S53])], joins := lookN [], loops := lookN [] }
theorem raw40_eq (x : List UInt8 × List UInt8 × Unit) : afun E40 Tryz.f40 P40 R40 x = F40 x := by kernel_rfl
-- decamp/remap.Key
def F13 (x : List UInt8 × List UInt8 × List UInt8 × Unit) : Option (List UInt8 × Bool × Unit) :=
 Option.bind (F40 (x.fst, x.snd.snd)) fun b =>
 bif !b.fst then some ([], false, ())
 else
 Option.bind (F41 (x.snd.fst, ())) fun b =>
 bif !b.fst then some ([], false, ())
 else
 Option.bind (sliceO x.snd.snd.fst (Int.ofNat (List.length x.fst)) ↑(List.length x.snd.snd.fst))
 fun b =>
 Option.bind (appO x.snd.fst b) fun b =>
 Option.bind (F42 (b, ())) fun b_1 =>
 bif !b_1.fst then some ([], false, ()) else some (b, true, ())
def S13 : Sig := ⟨P13, R13, F13⟩
noncomputable def E13 : Env := { tab := tab, nt := 28, Γ := lookG [(40, [S40]), (41, [S41]), (42, [S42])], joins := lookN [], loops := lookN [] }
theorem raw13_eq (x : List UInt8 × List UInt8 × List UInt8 × Unit) : afun E13 Tryz.f13 P13 R13 x = F13 x := by kernel_rfl
-- decamp/remap.number
def F44 (x : Int × Unit) : Option (Bool × Unit) :=
 bif decide (1 ≤ x.fst) then some (decide (x.fst ≤ 1099511627776), ()) else some (false, ())
def S44 : Sig := ⟨P44, R44, F44⟩
noncomputable def E44 : Env := { tab := tab, nt := 9, Γ := lookG [], joins := lookN [], loops := lookN [] }
theorem raw44_eq (x : Int × Unit) : afun E44 Tryz.f44 P44 R44 x = F44 x := by kernel_rfl
-- (decamp/remap.Count).Right
def F43 (x : Y42D × Unit) : Option (Bool × Unit) :=
 Option.bind (F44 (x.fst.fst, ())) fun b =>
 bif b.fst then Option.bind (F44 x.fst.snd) fun b => some b else some (false, ())
def S43 : Sig := ⟨P43, R43, F43⟩
noncomputable def E43 : Env := { tab := tab, nt := 11, Γ := lookG [(44, [S44])], joins := lookN [], loops := lookN [] }
theorem raw43_eq (x : Y42D × Unit) : afun E43 Tryz.f43 P43 R43 x = F43 x := by kernel_rfl
-- (decamp/remap.Count).Client
def F14 (x : Y42D × Int × Unit) : Option (Int × Bool × Unit) :=
 Option.bind (F43 (x.fst, ())) fun b =>
 bif !b.fst then some (0, false, ())
 else
 bif decide (x.snd.fst < x.fst.snd.fst) then some (0, false, ())
 else
 bif decide (1099511627776 < x.snd.fst) then some (0, false, ())
 else
 Option.bind
 (F44
 (wrap64 (wrap64 (x.snd.fst - x.fst.snd.fst) + x.fst.fst), ()))
 fun b =>
 bif !b.fst then some (0, false, ())
 else
 some
 (wrap64 (wrap64 (x.snd.fst - x.fst.snd.fst) + x.fst.fst), true,
 ())
def S14 : Sig := ⟨P14, R14, F14⟩
noncomputable def E14 : Env := { tab := tab, nt := 37, Γ := lookG [(43, [S43]), (44, [S44])], joins := lookN [], loops := lookN [] }
theorem raw14_eq (x : Y42D × Int × Unit) : afun E14 Tryz.f14 P14 R14 x = F14 x := by kernel_rfl
-- decamp/remap.End
def F15 (x : List UInt8 × Unit) : Option (List UInt8 × Unit) :=
 Option.bind (F41 x) fun b =>
 bif !b.fst then some ([], ())
 else
 Option.bind (idxN x.fst (wrap64 (Int.ofNat (List.length x.fst) - 1))) fun b =>
 Option.bind x.fst[b]? fun (b : UInt8) =>
 Option.bind (idxN x.fst (wrap64 (Int.ofNat (List.length x.fst) - 1))) fun b_1 =>
 Option.bind x.fst[b_1]? fun (_z : UInt8) =>
 some
 (List.set x.fst b_1 (Sx.byteOf (IntKind.wrap IntKind.u8 (intOf8 b + intOf8 (UInt8.ofNat 1)))),
 ())
def S15 : Sig := ⟨P15, R15, F15⟩
noncomputable def E15 : Env := { tab := tab, nt := 19, Γ := lookG [(41, [S41])], joins := lookN [], loops := lookN [] }
theorem raw15_eq (x : List UInt8 × Unit) : afun E15 Tryz.f15 P15 R15 x = F15 x := by kernel_rfl
-- decamp/decamplaw18.awake
def F4 (x : Unit) : Option (Bool × Unit) :=
 Option.bind (F13 ([97, 47], [98, 98, 47], [97, 47, 120], ())) fun b =>
 Option.bind (F14 ((7, 20, ()), 21, ())) fun b_1 =>
 bif decide (b.fst = [98, 98, 47, 120]) then
 bif b.snd.fst then
 bif decide (b_1.fst = 8) then
 bif b_1.snd.fst then
 Option.bind (F15 ([97, 47], ())) fun b =>
 some (decide (b.fst = [97, 48]), ())
 else some (false, ())
 else some (false, ())
 else some (false, ())
 else some (false, ())
def S4 : Sig := ⟨P4, R4, F4⟩
noncomputable def E4 : Env := { tab := tab, nt := 30, Γ := lookG [(13, [S13]), (14, [S14]), (15, [S15])], joins := lookN [], loops := lookN [] }
theorem raw4_eq (x : Unit) : afun E4 Tryz.f4 P4 R4 x = F4 x := by kernel_rfl
-- decamp/decampref17.Few
def F5 (x : T28D × Unit) : Option (Bool × Unit) :=
 bif decide (10 < Int.ofNat (List.length x.fst.snd.snd.snd.snd.snd.snd.snd.fst)) then some (false, ())
 else
 bif decide (10 < Int.ofNat (List.length x.fst.snd.snd.snd.snd.snd.snd.snd.snd.fst)) then some (false, ())
 else
 bif decide (10 < Int.ofNat (List.length x.fst.snd.snd.snd.snd.snd.snd.snd.snd.snd.fst)) then
 some (false, ())
 else
 bif decide (80 < Int.ofNat (List.length x.fst.snd.snd.snd.snd.snd.snd.snd.snd.snd.snd.snd.snd.snd.snd.fst)) then
 some (false, ())
 else
 bif
 decide
 (20 <
 Int.ofNat (List.length x.fst.snd.snd.snd.snd.snd.snd.snd.snd.snd.snd.snd.snd.snd.snd.snd.fst)) then
 some (false, ())
 else
 bif
 decide
 (80 <
 Int.ofNat
 (List.length x.fst.snd.snd.snd.snd.snd.snd.snd.snd.snd.snd.snd.snd.snd.snd.snd.snd.fst)) then
 some (false, ())
 else
 iterE Y42D (Bool × Unit)
 (fun (x_1 : Y42D) =>
 bif
 decide
 (x_1.snd.fst <
 Int.ofNat
 (List.length x.fst.snd.snd.snd.snd.snd.snd.snd.snd.snd.snd.snd.snd.snd.snd.fst)) then
 Option.bind (idx x.fst.snd.snd.snd.snd.snd.snd.snd.snd.snd.snd.snd.snd.snd.snd.fst x_1.snd.fst)
 fun b =>
 Option.bind (idx x.fst.snd.snd.snd.snd.snd.snd.snd.snd.snd.snd.snd.snd.snd.snd.fst x_1.snd.fst)
 fun b_1 =>
 some
 (Sum.inl
 (wrap64
 (wrap64 (x_1.fst + Int.ofNat (List.length b.fst)) +
 Int.ofNat (List.length b_1.snd.fst.snd.snd.snd.snd.fst)),
 wrap64 (x_1.snd.fst + 1), ()))
 else
 Option.map Sum.inr
 (iterE Y42D (Bool × Unit)
 (fun (x_2 : Y42D) =>
 bif
 decide
 (x_2.snd.fst <
 Int.ofNat
 (List.length
 x.fst.snd.snd.snd.snd.snd.snd.snd.snd.snd.snd.snd.snd.snd.snd.snd.fst)) then
 Option.bind
 (idx x.fst.snd.snd.snd.snd.snd.snd.snd.snd.snd.snd.snd.snd.snd.snd.snd.fst x_2.snd.fst)
 fun b =>
 bif decide (12 < Int.ofNat (List.length b.snd.snd.fst.snd.snd.snd.snd.fst)) then
 some (Sum.inr (false, ()))
 else
 Option.bind
 (idx x.fst.snd.snd.snd.snd.snd.snd.snd.snd.snd.snd.snd.snd.snd.snd.snd.fst
 x_2.snd.fst)
 fun b =>
 iterE Y42D (Y42D ⊕ Bool × Unit)
 (fun (x_3 : Y42D) =>
 bif
 decide
 (x_3.snd.fst <
 Int.ofNat (List.length b.snd.snd.fst.snd.snd.snd.snd.fst)) then
 Option.bind
 (idx x.fst.snd.snd.snd.snd.snd.snd.snd.snd.snd.snd.snd.snd.snd.snd.snd.fst
 x_2.snd.fst)
 fun b =>
 Option.bind (idx b.snd.snd.fst.snd.snd.snd.snd.fst x_3.snd.fst)
 fun b =>
 Option.bind
 (idx x.fst.snd.snd.snd.snd.snd.snd.snd.snd.snd.snd.snd.snd.snd.snd.snd.fst
 x_2.snd.fst)
 fun b_1 =>
 Option.bind (idx b_1.snd.snd.fst.snd.snd.snd.snd.fst x_3.snd.fst)
 fun b_2 =>
 some
 (Sum.inl
 (wrap64
 (wrap64
 (x_3.fst + Int.ofNat (List.length b.fst)) +
 Int.ofNat (List.length b_2.snd.fst.snd.snd.snd.snd.fst)),
 wrap64 (x_3.snd.fst + 1), ()))
 else
 some
 (Sum.inr
 (Sum.inl
 (x_3.fst, wrap64 (x_2.snd.fst + 1), ()))))
 big (x_2.fst, 0, ())
 else
 Option.map Sum.inr
 (iterE Y42D (Bool × Unit)
 (fun (x_3 : Y42D) =>
 bif
 decide
 (x_3.snd.fst <
 Int.ofNat (List.length x.fst.snd.snd.snd.snd.snd.snd.snd.snd.fst)) then
 Option.bind (idx x.fst.snd.snd.snd.snd.snd.snd.snd.snd.fst x_3.snd.fst)
 fun b =>
 Option.bind (idx x.fst.snd.snd.snd.snd.snd.snd.snd.snd.fst x_3.snd.fst)
 fun b_1 =>
 Option.bind (idx x.fst.snd.snd.snd.snd.snd.snd.snd.snd.fst x_3.snd.fst)
 fun b_2 =>
 some
 (Sum.inl
 (wrap64
 (wrap64
 (wrap64
 (x_3.fst + Int.ofNat (List.length b.snd.fst)) +
 Int.ofNat (List.length b_1.snd.snd.fst)) +
 Int.ofNat (List.length b_2.snd.snd.snd.fst)),
 wrap64 (x_3.snd.fst + 1), ()))
 else
 Option.map Sum.inr
 (iterE Y42D (Bool × Unit)
 (fun (x_4 : Y42D) =>
 bif
 decide
 (x_4.snd.fst <
 Int.ofNat
 (List.length x.fst.snd.snd.snd.snd.snd.snd.snd.snd.snd.fst)) then
 Option.bind (idx x.fst.snd.snd.snd.snd.snd.snd.snd.snd.snd.fst x_4.snd.fst)
 fun b =>
 Option.bind
 (idx x.fst.snd.snd.snd.snd.snd.snd.snd.snd.snd.fst x_4.snd.fst)
 fun b_1 =>
 Option.bind
 (idx x.fst.snd.snd.snd.snd.snd.snd.snd.snd.snd.fst x_4.snd.fst)
 fun b_2 =>
 some
 (Sum.inl
 (wrap64
 (wrap64
 (wrap64
 (x_4.fst + Int.ofNat (List.length b.snd.fst)) +
 Int.ofNat (List.length b_1.snd.snd.fst)) +
 Int.ofNat (List.length b_2.snd.snd.snd.fst)),
 wrap64 (x_4.snd.fst + 1), ()))
 else
 Option.map Sum.inr
 (iterE Y42D (Bool × Unit)
 (fun (x_5 : Y42D) =>
 bif
 decide
 (x_5.snd.fst <
 Int.ofNat
 (List.length x.fst.snd.snd.snd.snd.snd.snd.snd.fst)) then
 Option.bind (idx x.fst.snd.snd.snd.snd.snd.snd.snd.fst x_5.snd.fst)
 fun b =>
 Option.bind
 (idx x.fst.snd.snd.snd.snd.snd.snd.snd.fst x_5.snd.fst)
 fun b_1 =>
 some
 (Sum.inl
 (wrap64
 (wrap64
 (x_5.fst + Int.ofNat (List.length b.fst)) +
 Int.ofNat (List.length b_1.snd.snd.snd.snd.fst)),
 wrap64 (x_5.snd.fst + 1), ()))
 else some (Sum.inr (decide (x_5.fst ≤ 30000), ())))
 big (x_4.fst, 0, ())))
 big (x_3.fst, 0, ())))
 big (x_2.fst, 0, ())))
 big (x_1.fst, 0, ())))
 big
 (wrap64
 (wrap64
 (Int.ofNat (List.length x.fst.snd.fst) + Int.ofNat (List.length x.fst.snd.snd.fst)) +
 Int.ofNat (List.length x.fst.snd.snd.snd.fst)),
 0, ())
def S5 : Sig := ⟨P5, R5, F5⟩
noncomputable def E5 : Env := { tab := tab, nt := 226, Γ := lookG [], joins := lookN [], loops := lookN [(5, mkLoop ⟨[⟨.slot 3, (.int .i64), .pv⟩, ⟨.slot 58, (.int .i64), .pv⟩], [1, 57], [.site 1000, .fld 1000 0, .fld 1000 1, .fld 1000 2, .fld 1000 3, .fld 1000 4, .fld 1000 5, .fld 1000 6, .fld 1000 7, .fld 1000 8, .fld 1000 9, .fld 1000 10, .fld 1000 11, .fld 1000 12, .fld 1000 13, .fld 1000 14, .fld 1000 15, .fld 1000 16]⟩), (10, mkLoop ⟨[⟨.slot 3, (.int .i64), .pv⟩, ⟨.slot 83, (.int .i64), .pv⟩], [1, 82], [.site 1000, .fld 1000 0, .fld 1000 1, .fld 1000 2, .fld 1000 3, .fld 1000 4, .fld 1000 5, .fld 1000 6, .fld 1000 7, .fld 1000 8, .fld 1000 9, .fld 1000 10, .fld 1000 11, .fld 1000 12, .fld 1000 13, .fld 1000 14, .fld 1000 15, .fld 1000 16]⟩), (15, mkLoop ⟨[⟨.slot 3, (.int .i64), .pv⟩, ⟨.slot 103, (.int .i64), .pv⟩], [1, 5, 82, 83, 102], [.site 1000, .fld 1000 0, .fld 1000 1, .fld 1000 2, .fld 1000 3, .fld 1000 4, .fld 1000 5, .fld 1000 6, .fld 1000 7, .fld 1000 8, .fld 1000 9, .fld 1000 10, .fld 1000 11, .fld 1000 12, .fld 1000 13, .fld 1000 14, .fld 1000 15, .fld 1000 16]⟩), (21, mkLoop ⟨[⟨.slot 3, (.int .i64), .pv⟩, ⟨.slot 139, (.int .i64), .pv⟩], [1, 138], [.site 1000, .fld 1000 0, .fld 1000 1, .fld 1000 2, .fld 1000 3, .fld 1000 4, .fld 1000 5, .fld 1000 6, .fld 1000 7, .fld 1000 8, .fld 1000 9, .fld 1000 10, .fld 1000 11, .fld 1000 12, .fld 1000 13, .fld 1000 14, .fld 1000 15, .fld 1000 16]⟩), (26, mkLoop ⟨[⟨.slot 3, (.int .i64), .pv⟩, ⟨.slot 171, (.int .i64), .pv⟩], [1, 170], [.site 1000, .fld 1000 0, .fld 1000 1, .fld 1000 2, .fld 1000 3, .fld 1000 4, .fld 1000 5, .fld 1000 6, .fld 1000 7, .fld 1000 8, .fld 1000 9, .fld 1000 10, .fld 1000 11, .fld 1000 12, .fld 1000 13, .fld 1000 14, .fld 1000 15, .fld 1000 16]⟩), (31, mkLoop ⟨[⟨.slot 3, (.int .i64), .pv⟩, ⟨.slot 203, (.int .i64), .pv⟩], [1, 202], [.site 1000, .fld 1000 0, .fld 1000 1, .fld 1000 2, .fld 1000 3, .fld 1000 4, .fld 1000 5, .fld 1000 6, .fld 1000 7, .fld 1000 8, .fld 1000 9, .fld 1000 10, .fld 1000 11, .fld 1000 12, .fld 1000 13, .fld 1000 14, .fld 1000 15, .fld 1000 16]⟩)] }
theorem raw5_eq (x : T28D × Unit) : afun E5 Tryz.f5 P5 R5 x = F5 x := by kernel_rfl
-- slices.Equal[[]decamp/api.Cmp,decamp/api.Cmp]
def F64 (x : List T96D × List T96D × Unit) : Option (Bool × Unit) :=
 bif !decide (Int.ofNat (List.length x.fst) = Int.ofNat (List.length x.snd.fst)) then some (false, ())
 else
 iterE (Int × Unit) (Bool × Unit)
 (fun (x_1 : Int × Unit) =>
 bif decide (x_1.fst < Int.ofNat (List.length x.fst)) then
 Option.bind (idx x.fst x_1.fst) fun b =>
 Option.bind (idx x.snd.fst x_1.fst) fun b_1 =>
 bif
 !(decide (b.fst = b_1.fst) &&
 (decide (b.snd.fst = b_1.snd.fst) &&
 (decide (b.snd.snd.fst = b_1.snd.snd.fst) &&
 (decide (b.snd.snd.snd.fst = b_1.snd.snd.snd.fst) &&
 (decide (b.snd.snd.snd.snd.fst = b_1.snd.snd.snd.snd.fst) && true))))) then
 some (Sum.inr (false, ()))
 else some (Sum.inl (wrap64 (x_1.fst + 1), ()))
 else some (Sum.inr (true, ())))
 big (0, ())
def S64 : Sig := ⟨P64, R64, F64⟩
noncomputable def E64 : Env := { tab := tab, nt := 26, Γ := lookG [], joins := lookN [], loops := lookN [(4, mkLoop ⟨[⟨.slot 13, (.int .i64), .pv⟩], [0, 1, 12], []⟩)] }
theorem raw64_eq (x : List T96D × List T96D × Unit) : afun E64 Tryz.f64 P64 R64 x = F64 x := by kernel_rfl
-- slices.Equal[[]decamp/api.Op,decamp/api.Op]
def F65 (x : List T48D × List T48D × Unit) : Option (Bool × Unit) :=
 bif !decide (Int.ofNat (List.length x.fst) = Int.ofNat (List.length x.snd.fst)) then some (false, ())
 else
 iterE (Int × Unit) (Bool × Unit)
 (fun (x_1 : Int × Unit) =>
 bif decide (x_1.fst < Int.ofNat (List.length x.fst)) then
 Option.bind (idx x.fst x_1.fst) fun b =>
 Option.bind (idx x.snd.fst x_1.fst) fun b_1 =>
 bif
 !(decide (b.fst = b_1.fst) &&
 (decide (b.snd.fst = b_1.snd.fst) &&
 (decide (b.snd.snd.fst = b_1.snd.snd.fst) &&
 (decide (b.snd.snd.snd.fst = b_1.snd.snd.snd.fst) &&
 (decide (b.snd.snd.snd.snd.fst = b_1.snd.snd.snd.snd.fst) && true))))) then
 some (Sum.inr (false, ()))
 else some (Sum.inl (wrap64 (x_1.fst + 1), ()))
 else some (Sum.inr (true, ())))
 big (0, ())
def S65 : Sig := ⟨P65, R65, F65⟩
noncomputable def E65 : Env := { tab := tab, nt := 26, Γ := lookG [], joins := lookN [], loops := lookN [(4, mkLoop ⟨[⟨.slot 13, (.int .i64), .pv⟩], [0, 1, 12], []⟩)] }
theorem raw65_eq (x : List T48D × List T48D × Unit) : afun E65 Tryz.f65 P65 R65 x = F65 x := by kernel_rfl
-- slices.Equal[[]decamp/api.Item,decamp/api.Item]
def F80 (x : List T70D × List T70D × Unit) : Option (Bool × Unit) :=
 bif !decide (Int.ofNat (List.length x.fst) = Int.ofNat (List.length x.snd.fst)) then some (false, ())
 else
 iterE (Int × Unit) (Bool × Unit)
 (fun (x_1 : Int × Unit) =>
 bif decide (x_1.fst < Int.ofNat (List.length x.fst)) then
 Option.bind (idx x.fst x_1.fst)
 fun b =>
 Option.bind (idx x.snd.fst x_1.fst)
 fun b_1 =>
 bif
 !(decide (b.fst = b_1.fst) &&
 (decide (b.snd.fst.fst = b_1.snd.fst.fst) &&
 (decide (b.snd.fst.snd.fst = b_1.snd.fst.snd.fst) &&
 (decide (b.snd.fst.snd.snd.fst = b_1.snd.fst.snd.snd.fst) &&
 (decide (b.snd.fst.snd.snd.snd.fst = b_1.snd.fst.snd.snd.snd.fst) &&
 (decide (b.snd.fst.snd.snd.snd.snd.fst = b_1.snd.fst.snd.snd.snd.snd.fst) &&
 (decide (b.snd.fst.snd.snd.snd.snd.snd.fst = b_1.snd.fst.snd.snd.snd.snd.snd.fst) &&
 (b.snd.fst.snd.snd.snd.snd.snd.snd.fst == b_1.snd.fst.snd.snd.snd.snd.snd.snd.fst &&
 true)))))) &&
 true)) then
 some (Sum.inr (false, ()))
 else some (Sum.inl (wrap64 (x_1.fst + 1), ()))
 else some (Sum.inr (true, ())))
 big (0, ())
def S80 : Sig := ⟨P80, R80, F80⟩
noncomputable def E80 : Env := { tab := tab, nt := 26, Γ := lookG [], joins := lookN [], loops := lookN [(4, mkLoop ⟨[⟨.slot 13, (.int .i64), .pv⟩], [0, 1, 12], []⟩)] }
theorem raw80_eq (x : List T70D × List T70D × Unit) : afun E80 Tryz.f80 P80 R80 x = F80 x := by kernel_rfl
-- decamp/cmd.sameItems
def F66 (x : List T70D × List T70D × Unit) : Option (Bool × Unit) :=
 Option.bind (F80 x) fun b => some b
def S66 : Sig := ⟨P66, R66, F66⟩
noncomputable def E66 : Env := { tab := tab, nt := 8, Γ := lookG [(80, [S80])], joins := lookN [], loops := lookN [] }
theorem raw66_eq (x : List T70D × List T70D × Unit) : afun E66 Tryz.f66 P66 R66 x = F66 x := by kernel_rfl
-- decamp/cmd.SameReply
def F83 (x : T51D × T51D × Unit) : Option (Bool × Unit) :=
 bif decide (x.fst.fst = x.snd.fst.fst) then
 bif decide (x.fst.snd.fst = x.snd.fst.snd.fst) then
 bif x.fst.snd.snd.fst == x.snd.fst.snd.snd.fst then
 bif decide (x.fst.snd.snd.snd.fst = x.snd.fst.snd.snd.snd.fst) then
 bif decide (x.fst.snd.snd.snd.snd.snd.fst = x.snd.fst.snd.snd.snd.snd.snd.fst) then
 bif decide (x.fst.snd.snd.snd.snd.snd.snd.fst = x.snd.fst.snd.snd.snd.snd.snd.snd.fst) then
 Option.bind (F66 (x.fst.snd.snd.snd.snd.fst, x.snd.fst.snd.snd.snd.snd.fst, ()))
 fun b => some b
 else some (false, ())
 else some (false, ())
 else some (false, ())
 else some (false, ())
 else some (false, ())
 else some (false, ())
def S83 : Sig := ⟨P83, R83, F83⟩
noncomputable def E83 : Env := { tab := tab, nt := 52, Γ := lookG [(66, [S66])], joins := lookN [], loops := lookN [] }
theorem raw83_eq (x : T51D × T51D × Unit) : afun E83 Tryz.f83 P83 R83 x = F83 x := by kernel_rfl
-- decamp/cmd.sameSess$1
def F82 (x : T94D × T94D × Unit) : Option (Bool × Unit) :=
 bif decide (x.fst.fst = x.snd.fst.fst) then
 bif decide (x.fst.snd.fst = x.snd.fst.snd.fst) then
 Option.bind (F83 (x.fst.snd.snd.fst, x.snd.fst.snd.snd)) fun b => some b
 else some (false, ())
 else some (false, ())
def S82 : Sig := ⟨P82, R82, F82⟩
noncomputable def E82 : Env := { tab := tab, nt := 24, Γ := lookG [(83, [S83])], joins := lookN [], loops := lookN [] }
theorem raw82_eq (x : T94D × T94D × Unit) : afun E82 Tryz.f82 P82 R82 x = F82 x := by kernel_rfl
-- slices.EqualFunc[[]decamp/api.Sess,[]decamp/api.Sess,decamp/api.Sess,decamp/api.Sess]
def F81a (x : List T94D × List T94D × Unit) : Option (Bool × Unit) :=
 bif !decide (Int.ofNat (List.length x.fst) = Int.ofNat (List.length x.snd.fst)) then some (false, ())
 else
 iterE (Int × Unit) (Bool × Unit)
 (fun (x_1 : Int × Unit) =>
 bif decide (x_1.fst < Int.ofNat (List.length x.fst)) then
 Option.bind (idx x.fst x_1.fst)
 fun b =>
 Option.bind (idx x.snd.fst x_1.fst)
 fun b_1 =>
 Option.bind (F82 (b, b_1, ())) fun b =>
 bif !b.fst then some (Sum.inr (false, ()))
 else some (Sum.inl (wrap64 (x_1.fst + 1), ()))
 else some (Sum.inr (true, ())))
 big (0, ())
def S81a : Sig := ⟨P81a, R81a, F81a⟩
noncomputable def E81a : Env := { tab := tab, nt := 32, Γ := lookG [(82, [S82])], joins := lookN [], loops := lookN [(4, mkLoop ⟨[⟨.slot 17, (.int .i64), .pv⟩], [1, 2, 15, 16], []⟩)] }
theorem raw81a_eq (x : List T94D × List T94D × Unit) : afun E81a Tryz.f81 P81a R81a x = F81a x := by kernel_rfl
-- decamp/cmd.sameSess
def F67 (x : List T94D × List T94D × Unit) : Option (Bool × Unit) :=
 Option.bind (F81a x) fun b => some b
def S67 : Sig := ⟨P67, R67, F67⟩
noncomputable def E67 : Env := { tab := tab, nt := 8, Γ := lookG [(81, [S81a]), (82, [S82])], joins := lookN [], loops := lookN [] }
theorem raw67_eq (x : List T94D × List T94D × Unit) : afun E67 Tryz.f67 P67 R67 x = F67 x := by kernel_rfl
-- slices.Equal[[]decamp/api.Lease,decamp/api.Lease]
def F68 (x : List T113D × List T113D × Unit) : Option (Bool × Unit) :=
 bif !decide (Int.ofNat (List.length x.fst) = Int.ofNat (List.length x.snd.fst)) then some (false, ())
 else
 iterE (Int × Unit) (Bool × Unit)
 (fun (x_1 : Int × Unit) =>
 bif decide (x_1.fst < Int.ofNat (List.length x.fst)) then
 Option.bind (idx x.fst x_1.fst) fun b =>
 Option.bind (idx x.snd.fst x_1.fst) fun b_1 =>
 bif
 !(decide (b.fst = b_1.fst) &&
 (decide (b.snd.fst = b_1.snd.fst) && (decide (b.snd.snd.fst = b_1.snd.snd.fst) && true))) then
 some (Sum.inr (false, ()))
 else some (Sum.inl (wrap64 (x_1.fst + 1), ()))
 else some (Sum.inr (true, ())))
 big (0, ())
def S68 : Sig := ⟨P68, R68, F68⟩
noncomputable def E68 : Env := { tab := tab, nt := 26, Γ := lookG [], joins := lookN [], loops := lookN [(4, mkLoop ⟨[⟨.slot 13, (.int .i64), .pv⟩], [0, 1, 12], []⟩)] }
theorem raw68_eq (x : List T113D × List T113D × Unit) : afun E68 Tryz.f68 P68 R68 x = F68 x := by kernel_rfl
-- decamp/cmd.Same
def F45 (x : T28D × T28D × Unit) : Option (Bool × Unit) :=
 bif decide (x.fst.fst = x.snd.fst.fst) then
 bif decide (x.fst.snd.fst = x.snd.fst.snd.fst) then
 bif decide (x.fst.snd.snd.fst = x.snd.fst.snd.snd.fst) then
 bif decide (x.fst.snd.snd.snd.fst = x.snd.fst.snd.snd.snd.fst) then
 bif decide (x.fst.snd.snd.snd.snd.fst = x.snd.fst.snd.snd.snd.snd.fst) then
 bif decide (x.fst.snd.snd.snd.snd.snd.fst = x.snd.fst.snd.snd.snd.snd.snd.fst) then
 bif decide (x.fst.snd.snd.snd.snd.snd.snd.fst = x.snd.fst.snd.snd.snd.snd.snd.snd.fst) then
 bif
 decide
 (x.fst.snd.snd.snd.snd.snd.snd.snd.snd.snd.snd.fst =
 x.snd.fst.snd.snd.snd.snd.snd.snd.snd.snd.snd.snd.fst) then
 bif
 decide
 (x.fst.snd.snd.snd.snd.snd.snd.snd.snd.snd.snd.snd.fst =
 x.snd.fst.snd.snd.snd.snd.snd.snd.snd.snd.snd.snd.snd.fst) then
 bif
 decide
 (x.fst.snd.snd.snd.snd.snd.snd.snd.snd.snd.snd.snd.snd.fst =
 x.snd.fst.snd.snd.snd.snd.snd.snd.snd.snd.snd.snd.snd.snd.fst) then
 bif
 x.fst.snd.snd.snd.snd.snd.snd.snd.snd.snd.snd.snd.snd.snd.fst ==
 x.snd.fst.snd.snd.snd.snd.snd.snd.snd.snd.snd.snd.snd.snd.snd.fst then
 Option.bind
 (F64
 (x.fst.snd.snd.snd.snd.snd.snd.snd.fst, x.snd.fst.snd.snd.snd.snd.snd.snd.snd.fst,
 ()))
 fun b =>
 bif b.fst then
 Option.bind
 (F65
 (x.fst.snd.snd.snd.snd.snd.snd.snd.snd.fst,
 x.snd.fst.snd.snd.snd.snd.snd.snd.snd.snd.fst, ()))
 fun b =>
 bif b.fst then
 Option.bind
 (F65
 (x.fst.snd.snd.snd.snd.snd.snd.snd.snd.snd.fst,
 x.snd.fst.snd.snd.snd.snd.snd.snd.snd.snd.snd.fst, ()))
 fun b =>
 bif b.fst then
 Option.bind
 (F66
 (x.fst.snd.snd.snd.snd.snd.snd.snd.snd.snd.snd.snd.snd.snd.snd.fst,
 x.snd.fst.snd.snd.snd.snd.snd.snd.snd.snd.snd.snd.snd.snd.snd.snd.fst,
 ()))
 fun b =>
 bif b.fst then
 Option.bind
 (F67
 (x.fst.snd.snd.snd.snd.snd.snd.snd.snd.snd.snd.snd.snd.snd.snd.snd.fst,
 x.snd.fst.snd.snd.snd.snd.snd.snd.snd.snd.snd.snd.snd.snd.snd.snd.snd.fst,
 ()))
 fun b =>
 bif b.fst then
 Option.bind
 (F68
 (x.fst.snd.snd.snd.snd.snd.snd.snd.snd.snd.snd.snd.snd.snd.snd.snd.snd.fst,
 x.snd.fst.snd.snd.snd.snd.snd.snd.snd.snd.snd.snd.snd.snd.snd.snd.snd.snd))
 fun b => some b
 else some (false, ())
 else some (false, ())
 else some (false, ())
 else some (false, ())
 else some (false, ())
 else some (false, ())
 else some (false, ())
 else some (false, ())
 else some (false, ())
 else some (false, ())
 else some (false, ())
 else some (false, ())
 else some (false, ())
 else some (false, ())
 else some (false, ())
 else some (false, ())
def S45 : Sig := ⟨P45, R45, F45⟩
noncomputable def E45 : Env := { tab := tab, nt := 122, Γ := lookG [(64, [S64]), (65, [S65]), (66, [S66]), (67, [S67]), (68, [S68])], joins := lookN [], loops := lookN [] }
theorem raw45_eq (x : T28D × T28D × Unit) : afun E45 Tryz.f45 P45 R45 x = F45 x := by kernel_rfl
-- decamp/cmd.keepClient
def F69 (x : T28D × Unit) : Option (T28D × Unit) :=
 Option.bind
 (bif decide (x.fst.fst = 1) then
 some (Sum.inl (x.fst.snd.fst, [], x.fst.snd.snd.snd.fst, x.fst.snd.snd.snd.snd.fst, 0, 0, [], [], [], ()))
 else
 bif decide (x.fst.fst = 2) then
 some (Sum.inl (x.fst.snd.fst, x.fst.snd.snd.fst, [], 0, 0, 0, [], [], [], ()))
 else
 bif decide (x.fst.fst = 3) then
 some
 (Sum.inl
 ([], [], [], 0, 0, 0, x.fst.snd.snd.snd.snd.snd.snd.snd.fst, x.fst.snd.snd.snd.snd.snd.snd.snd.snd.fst,
 x.fst.snd.snd.snd.snd.snd.snd.snd.snd.snd.fst, ()))
 else
 bif decide (x.fst.fst = 4) then
 some (Sum.inl ([], [], [], 0, 0, x.fst.snd.snd.snd.snd.snd.snd.fst, [], [], [], ()))
 else
 bif decide (x.fst.fst = 5) then
 some
 (Sum.inl
 ([], [], [], x.fst.snd.snd.snd.snd.fst, x.fst.snd.snd.snd.snd.snd.fst, 0, [], [], [], ()))
 else
 bif decide (x.fst.fst = 6) then
 bif decide (x.fst.fst = 6) then
 some (Sum.inl ([], [], [], x.fst.snd.snd.snd.snd.fst, 0, 0, [], [], [], ()))
 else some (Sum.inl ([], [], [], 0, 0, 0, [], [], [], ()))
 else
 bif decide (x.fst.fst = 7) then
 bif decide (x.fst.fst = 7) then
 some (Sum.inl ([], [], [], x.fst.snd.snd.snd.snd.fst, 0, 0, [], [], [], ()))
 else some (Sum.inl ([], [], [], 0, 0, 0, [], [], [], ()))
 else
 bif decide (x.fst.fst = 9) then
 some (Sum.inl ([], [], [], x.fst.snd.snd.snd.snd.fst, 0, 0, [], [], [], ()))
 else some (Sum.inl ([], [], [], 0, 0, 0, [], [], [], ())))
 fun o =>
 Sum.elim
 (fun (x_1 :
 List UInt8 × List UInt8 × List UInt8 × Int × Int × Int × List T96D × List T48D × List T48D × Unit) =>
 some
 ((x.fst.fst, x_1.fst, x_1.snd.fst, x_1.snd.snd.fst, x_1.snd.snd.snd.fst, x_1.snd.snd.snd.snd.fst,
 x_1.snd.snd.snd.snd.snd.fst, x_1.snd.snd.snd.snd.snd.snd.fst, x_1.snd.snd.snd.snd.snd.snd.snd.fst,
 x_1.snd.snd.snd.snd.snd.snd.snd.snd.fst, 0, 0, 0, false, [], [], [], ()),
 ()))
 (fun (val :
 (Int × List UInt8 × List UInt8 × List UInt8 × Int × Int × Int × List T96D × List T48D × List T48D × Int × Int × Int × Bool × List
 T70D × List
 (Int × Int × (Int × Int × Bool × Int × List
 T70D × Y42D) × Unit) × List T113D × Unit) × Unit) =>
 some val)
 o
def S69 : Sig := ⟨P69, R69, F69⟩
noncomputable def E69 : Env := { tab := tab, nt := 60, Γ := lookG [], joins := lookN [(17, ⟨[⟨.fld 1004000 1, .str, .pv⟩, ⟨.fld 1004000 2, .str, .pv⟩, ⟨.fld 1004000 3, .str, .pv⟩, ⟨.fld 1004000 4, (.int .i64), .pv⟩, ⟨.fld 1004000 5, (.int .i64), .pv⟩, ⟨.fld 1004000 6, (.int .i64), .pv⟩, ⟨.fld 1004000 7, (.slice T96), .pv⟩, ⟨.fld 1004000 8, (.slice T48), .pv⟩, ⟨.fld 1004000 9, (.slice T48), .pv⟩], [2, 3], [.site 1004000, .fld 1004000 0, .fld 1004000 10, .fld 1004000 11, .fld 1004000 12, .fld 1004000 13, .fld 1004000 14, .fld 1004000 15, .fld 1004000 16, .site 2000, .fld 2000 0, .fld 2000 1, .fld 2000 2, .fld 2000 3, .fld 2000 4, .fld 2000 5, .fld 2000 6, .fld 2000 7, .fld 2000 8, .fld 2000 9, .fld 2000 10, .fld 2000 11, .fld 2000 12, .fld 2000 13, .fld 2000 14, .fld 2000 15, .fld 2000 16]⟩)], loops := lookN [] }
theorem raw69_eq (x : T28D × Unit) : afun E69 Tryz.f69 P69 R69 x = F69 x := by kernel_rfl
-- decamp/cmd.keep
def F46 (x : T28D × Unit) : Option (T28D × Unit) :=
 Option.bind
 (bif decide (x.fst.fst = 11) then
 bif decide (x.fst.fst = 11) then
 some
 (Sum.inl
 ([], [], 0, 0, 0, false, [], [], [], 0, [], [], [], 0, 0, 0, [], [], [], 0, 0, 0, false, [], [], [],
 ()))
 else
 bif decide (x.fst.fst = 10) then
 some
 (Sum.inl
 (x.fst.snd.fst, [], 0, 0, 0, false, [], [], [], 0, [], [], [], 0, 0, 0, [], [], [], 0, 0, 0, false, [],
 [], [], ()))
 else
 bif decide (x.fst.fst = 12) then
 some
 (Sum.inl
 (x.fst.snd.fst, x.fst.snd.snd.fst, x.fst.snd.snd.snd.snd.snd.snd.fst,
 x.fst.snd.snd.snd.snd.snd.snd.snd.snd.snd.snd.snd.fst, 0, false, [], [], [], 0, [], [], [], 0, 0, 0,
 [], [], [], 0, 0, 0, false, [], [], [], ()))
 else
 bif decide (x.fst.fst = 13) then
 some
 (Sum.inl
 (x.fst.snd.fst, x.fst.snd.snd.fst, 0, x.fst.snd.snd.snd.snd.snd.snd.snd.snd.snd.snd.snd.fst, 0,
 x.fst.snd.snd.snd.snd.snd.snd.snd.snd.snd.snd.snd.snd.snd.fst,
 x.fst.snd.snd.snd.snd.snd.snd.snd.snd.snd.snd.snd.snd.snd.snd.fst, [], [], 0, [], [], [], 0, 0, 0,
 [], [], [], 0, 0, 0, false, [], [], [], ()))
 else
 bif decide (x.fst.fst = 14) then
 some
 (Sum.inl
 ([], [], x.fst.snd.snd.snd.snd.snd.snd.fst, x.fst.snd.snd.snd.snd.snd.snd.snd.snd.snd.snd.snd.fst,
 x.fst.snd.snd.snd.snd.snd.snd.snd.snd.snd.snd.snd.snd.fst, false,
 x.fst.snd.snd.snd.snd.snd.snd.snd.snd.snd.snd.snd.snd.snd.snd.fst, [], [], 0, [], [], [], 0, 0, 0,
 [], [], [], 0, 0, 0, false, [], [], [], ()))
 else
 bif decide (x.fst.fst = 15) then
 some
 (Sum.inl
 ([], [], x.fst.snd.snd.snd.snd.snd.snd.fst, x.fst.snd.snd.snd.snd.snd.snd.snd.snd.snd.snd.snd.fst,
 0, false, [], x.fst.snd.snd.snd.snd.snd.snd.snd.snd.snd.snd.snd.snd.snd.snd.snd.fst,
 x.fst.snd.snd.snd.snd.snd.snd.snd.snd.snd.snd.snd.snd.snd.snd.snd.snd.fst, 0, [], [], [], 0, 0,
 0, [], [], [], 0, 0, 0, false, [], [], [], ()))
 else
 Option.bind (F69 x)
 fun b =>
 some (Sum.inr b)
 else
 bif decide (x.fst.fst = 16) then
 some
 (Sum.inl
 ([], [], 0, 0, 0, false, [], [], [], 0, [], [], [], 0, 0, 0, [], [], [], 0, 0, 0, false, [], [], [],
 ()))
 else
 bif decide (x.fst.fst = 10) then
 some
 (Sum.inl
 (x.fst.snd.fst, [], 0, 0, 0, false, [], [], [], 0, [], [], [], 0, 0, 0, [], [], [], 0, 0, 0, false, [],
 [], [], ()))
 else
 bif decide (x.fst.fst = 12) then
 some
 (Sum.inl
 (x.fst.snd.fst, x.fst.snd.snd.fst, x.fst.snd.snd.snd.snd.snd.snd.fst,
 x.fst.snd.snd.snd.snd.snd.snd.snd.snd.snd.snd.snd.fst, 0, false, [], [], [], 0, [], [], [], 0, 0, 0,
 [], [], [], 0, 0, 0, false, [], [], [], ()))
 else
 bif decide (x.fst.fst = 13) then
 some
 (Sum.inl
 (x.fst.snd.fst, x.fst.snd.snd.fst, 0, x.fst.snd.snd.snd.snd.snd.snd.snd.snd.snd.snd.snd.fst, 0,
 x.fst.snd.snd.snd.snd.snd.snd.snd.snd.snd.snd.snd.snd.snd.fst,
 x.fst.snd.snd.snd.snd.snd.snd.snd.snd.snd.snd.snd.snd.snd.snd.fst, [], [], 0, [], [], [], 0, 0, 0,
 [], [], [], 0, 0, 0, false, [], [], [], ()))
 else
 bif decide (x.fst.fst = 14) then
 some
 (Sum.inl
 ([], [], x.fst.snd.snd.snd.snd.snd.snd.fst, x.fst.snd.snd.snd.snd.snd.snd.snd.snd.snd.snd.snd.fst,
 x.fst.snd.snd.snd.snd.snd.snd.snd.snd.snd.snd.snd.snd.fst, false,
 x.fst.snd.snd.snd.snd.snd.snd.snd.snd.snd.snd.snd.snd.snd.snd.fst, [], [], 0, [], [], [], 0, 0, 0,
 [], [], [], 0, 0, 0, false, [], [], [], ()))
 else
 bif decide (x.fst.fst = 15) then
 some
 (Sum.inl
 ([], [], x.fst.snd.snd.snd.snd.snd.snd.fst, x.fst.snd.snd.snd.snd.snd.snd.snd.snd.snd.snd.snd.fst,
 0, false, [], x.fst.snd.snd.snd.snd.snd.snd.snd.snd.snd.snd.snd.snd.snd.snd.snd.fst,
 x.fst.snd.snd.snd.snd.snd.snd.snd.snd.snd.snd.snd.snd.snd.snd.snd.snd.fst, 0, [], [], [], 0, 0,
 0, [], [], [], 0, 0, 0, false, [], [], [], ()))
 else
 Option.bind (F69 x)
 fun b =>
 some (Sum.inr b))
 fun o =>
 Sum.elim
 (fun (x_1 :
 List UInt8 × List UInt8 × Int × Int × Int × Bool × List T70D × List
 (Int × Int × (Int × Int × Bool × Int × List
 T70D × Y42D) × Unit) × List T113D × Int × List UInt8 × List UInt8 × List UInt8 × Int × Int × Int × List T96D × List T48D × List T48D × Int × Int × Int × Bool × List
 T70D × List
 (Int × Int × (Int × Int × Bool × Int × List
 T70D × Y42D) × Unit) × List T113D × Unit) =>
 some
 ((x.fst.fst, x_1.fst, x_1.snd.fst, [], 0, 0, x_1.snd.snd.fst, [], [], [],
 x.fst.snd.snd.snd.snd.snd.snd.snd.snd.snd.snd.fst, x_1.snd.snd.snd.fst, x_1.snd.snd.snd.snd.fst,
 x_1.snd.snd.snd.snd.snd.fst, x_1.snd.snd.snd.snd.snd.snd.fst, x_1.snd.snd.snd.snd.snd.snd.snd.fst,
 x_1.snd.snd.snd.snd.snd.snd.snd.snd.fst, ()),
 ()))
 (fun (val :
 (Int × List UInt8 × List UInt8 × List UInt8 × Int × Int × Int × List T96D × List T48D × List T48D × Int × Int × Int × Bool × List
 T70D × List
 (Int × Int × (Int × Int × Bool × Int × List
 T70D × Y42D) × Unit) × List T113D × Unit) × Unit) =>
 some val)
 o
def S46 : Sig := ⟨P46, R46, F46⟩
noncomputable def E46 : Env := { tab := tab, nt := 81, Γ := lookG [(69, [S69])], joins := lookN [(16, ⟨[⟨.fld 1006000 1, .str, .pv⟩, ⟨.fld 1006000 2, .str, .pv⟩, ⟨.fld 1006000 6, (.int .i64), .pv⟩, ⟨.fld 1006000 11, (.int .i64), .pv⟩, ⟨.fld 1006000 12, (.int .i64), .pv⟩, ⟨.fld 1006000 13, .bool, .pv⟩, ⟨.fld 1006000 14, (.slice T70), .pv⟩, ⟨.fld 1006000 15, (.slice T94), .pv⟩, ⟨.fld 1006000 16, (.slice T113), .pv⟩, ⟨.fld 2000 0, (.int .i64), .pv⟩, ⟨.fld 2000 1, .str, .pv⟩, ⟨.fld 2000 2, .str, .pv⟩, ⟨.fld 2000 3, .str, .pv⟩, ⟨.fld 2000 4, (.int .i64), .pv⟩, ⟨.fld 2000 5, (.int .i64), .pv⟩, ⟨.fld 2000 6, (.int .i64), .pv⟩, ⟨.fld 2000 7, (.slice T96), .own false⟩, ⟨.fld 2000 8, (.slice T48), .own false⟩, ⟨.fld 2000 9, (.slice T48), .own false⟩, ⟨.fld 2000 10, (.int .i64), .pv⟩, ⟨.fld 2000 11, (.int .i64), .pv⟩, ⟨.fld 2000 12, (.int .i64), .pv⟩, ⟨.fld 2000 13, .bool, .pv⟩, ⟨.fld 2000 14, (.slice T70), .own false⟩, ⟨.fld 2000 15, (.slice T94), .own false⟩, ⟨.fld 2000 16, (.slice T113), .own false⟩], [2, 3], [.site 1006000, .fld 1006000 0, .fld 1006000 3, .fld 1006000 4, .fld 1006000 5, .fld 1006000 7, .fld 1006000 8, .fld 1006000 9, .fld 1006000 10, .site 2000]⟩)], loops := lookN [] }
theorem raw46_eq (x : T28D × Unit) : afun E46 Tryz.f46 P46 R46 x = F46 x := by kernel_rfl
-- decamp/cmd.within
def F72 (x : Int × Int × Int × Unit) : Option (Bool × Unit) :=
 bif decide (x.snd.fst ≤ x.fst) then some (decide (x.fst ≤ x.snd.snd.fst), ()) else some (false, ())
def S72 : Sig := ⟨P72, R72, F72⟩
noncomputable def E72 : Env := { tab := tab, nt := 15, Γ := lookG [], joins := lookN [], loops := lookN [] }
theorem raw72_eq (x : Int × Int × Int × Unit) : afun E72 Tryz.f72 P72 R72 x = F72 x := by kernel_rfl
-- decamp/cmd.positive$1
def F74 (x : Int × Unit) : Option (Bool × Unit) :=
 Option.bind (F72 (x.fst, 1, 1099511627776, ())) fun b => some (!b.fst, ())
def S74 : Sig := ⟨P74, R74, F74⟩
noncomputable def E74 : Env := { tab := tab, nt := 6, Γ := lookG [(72, [S72])], joins := lookN [], loops := lookN [] }
theorem raw74_eq (x : Int × Unit) : afun E74 Tryz.f74 P74 R74 x = F74 x := by kernel_rfl
-- slices.IndexFunc[[]int64,int64]
def F89a (x : List Int × Unit) : Option (Int × Unit) :=
 iterE (Int × Unit) (Int × Unit)
 (fun (x_1 : Int × Unit) =>
 bif decide (x_1.fst < Int.ofNat (List.length x.fst)) then
 Option.bind (idx x.fst x_1.fst) fun b =>
 Option.bind (F74 (b, ())) fun b =>
 bif b.fst then some (Sum.inr x_1) else some (Sum.inl (wrap64 (x_1.fst + 1), ()))
 else some (Sum.inr (-1, ())))
 big (0, ())
def S89a : Sig := ⟨P89a, R89a, F89a⟩
noncomputable def E89a : Env := { tab := tab, nt := 19, Γ := lookG [(74, [S74])], joins := lookN [], loops := lookN [(2, mkLoop ⟨[⟨.slot 8, (.int .i64), .pv⟩], [0, 1, 7], []⟩)] }
theorem raw89a_eq (x : List Int × Unit) : afun E89a Tryz.f89 P89a R89a x = F89a x := by kernel_rfl
-- slices.ContainsFunc[[]int64,int64]
def F73a (x : List Int × Unit) : Option (Bool × Unit) := Option.bind (F89a x) fun b => some (decide (0 ≤ b.fst), ())
def S73a : Sig := ⟨P73a, R73a, F73a⟩
noncomputable def E73a : Env := { tab := tab, nt := 9, Γ := lookG [(74, [S74]), (89, [S89a])], joins := lookN [], loops := lookN [] }
theorem raw73a_eq (x : List Int × Unit) : afun E73a Tryz.f73 P73a R73a x = F73a x := by kernel_rfl
-- decamp/cmd.positive
def F48 (x : List Int × Unit) : Option (Bool × Unit) := Option.bind (F73a x) fun b => some (!b.fst, ())
def S48 : Sig := ⟨P48, R48, F48⟩
noncomputable def E48 : Env := { tab := tab, nt := 6, Γ := lookG [(73, [S73a]), (74, [S74])], joins := lookN [], loops := lookN [] }
theorem raw48_eq (x : List Int × Unit) : afun E48 Tryz.f48 P48 R48 x = F48 x := by kernel_rfl
-- decamp/index.Range
def F52 (x : List UInt8 × List UInt8 × Unit) : Option (Bool × Unit) :=
 Option.bind (F42 (x.fst, ())) fun b =>
 bif b.fst then
 bif decide (x.snd.fst = []) then some (true, ())
 else
 Option.bind (F63 (x.snd.fst, UInt8.ofNat 127, ())) fun b =>
 bif b.fst then some (!(strlt x.snd.fst x.fst || decide (x.snd.fst = x.fst)), ())
 else some (false, ())
 else some (false, ())
def S52 : Sig := ⟨P52, R52, F52⟩
noncomputable def E52 : Env := { tab := tab, nt := 20, Γ := lookG [(42, [S42]), (63, [S63])], joins := lookN [], loops := lookN [] }
theorem raw52_eq (x : List UInt8 × List UInt8 × Unit) : afun E52 Tryz.f52 P52 R52 x = F52 x := by kernel_rfl
-- decamp/cmd.natural$1
def F92 (x : Int × Unit) : Option (Bool × Unit) :=
 Option.bind (F72 (x.fst, 0, 1099511627776, ())) fun b => some (!b.fst, ())
def S92 : Sig := ⟨P92, R92, F92⟩
noncomputable def E92 : Env := { tab := tab, nt := 6, Γ := lookG [(72, [S72])], joins := lookN [], loops := lookN [] }
theorem raw92_eq (x : Int × Unit) : afun E92 Tryz.f92 P92 R92 x = F92 x := by kernel_rfl
-- slices.IndexFunc[[]int64,int64]
def F89b (x : List Int × Unit) : Option (Int × Unit) :=
 iterE (Int × Unit) (Int × Unit)
 (fun (x_1 : Int × Unit) =>
 bif decide (x_1.fst < Int.ofNat (List.length x.fst)) then
 Option.bind (idx x.fst x_1.fst) fun b =>
 Option.bind (F92 (b, ())) fun b =>
 bif b.fst then some (Sum.inr x_1) else some (Sum.inl (wrap64 (x_1.fst + 1), ()))
 else some (Sum.inr (-1, ())))
 big (0, ())
def S89b : Sig := ⟨P89b, R89b, F89b⟩
noncomputable def E89b : Env := { tab := tab, nt := 19, Γ := lookG [(92, [S92])], joins := lookN [], loops := lookN [(2, mkLoop ⟨[⟨.slot 8, (.int .i64), .pv⟩], [0, 1, 7], []⟩)] }
theorem raw89b_eq (x : List Int × Unit) : afun E89b Tryz.f89 P89b R89b x = F89b x := by kernel_rfl
-- slices.ContainsFunc[[]int64,int64]
def F73b (x : List Int × Unit) : Option (Bool × Unit) := Option.bind (F89b x) fun b => some (decide (0 ≤ b.fst), ())
def S73b : Sig := ⟨P73b, R73b, F73b⟩
noncomputable def E73b : Env := { tab := tab, nt := 9, Γ := lookG [(89, [S89a, S89b]), (92, [S92])], joins := lookN [], loops := lookN [] }
theorem raw73b_eq (x : List Int × Unit) : afun E73b Tryz.f73 P73b R73b x = F73b x := by kernel_rfl
-- decamp/cmd.natural
def F84 (x : List Int × Unit) : Option (Bool × Unit) := Option.bind (F73b x) fun b => some (!b.fst, ())
def S84 : Sig := ⟨P84, R84, F84⟩
noncomputable def E84 : Env := { tab := tab, nt := 6, Γ := lookG [(73, [S73a, S73b]), (92, [S92])], joins := lookN [], loops := lookN [] }
theorem raw84_eq (x : List Int × Unit) : afun E84 Tryz.f84 P84 R84 x = F84 x := by kernel_rfl
-- decamp/cmd.put
def F70 (x : List UInt8 × List UInt8 × Int × Unit) : Option (Bool × Unit) :=
 Option.bind (F42 (x.fst, ())) fun b =>
 bif b.fst then
 bif decide (Int.ofNat (List.length x.snd.fst) ≤ 40) then
 Option.bind (F84 ([x.snd.snd.fst], ())) fun b => some b
 else some (false, ())
 else some (false, ())
def S70 : Sig := ⟨P70, R70, F70⟩
noncomputable def E70 : Env := { tab := tab, nt := 19, Γ := lookG [(42, [S42]), (84, [S84])], joins := lookN [], loops := lookN [] }
theorem raw70_eq (x : List UInt8 × List UInt8 × Int × Unit) : afun E70 Tryz.f70 P70 R70 x = F70 x := by kernel_rfl
-- decamp/cmd.rightCmp
def F87 (x : T96D × Unit) : Option (Bool × Unit) :=
 Option.bind (F42 (x.fst.fst, ())) fun b =>
 bif !b.fst then some (false, ())
 else
 bif decide (x.fst.snd.snd.fst < 0) then some (false, ())
 else
 bif decide (2 < x.fst.snd.snd.fst) then some (false, ())
 else
 Option.bind (F72 (x.fst.snd.snd.snd.fst, -1099511627776, 1099511627776, ())) fun b =>
 bif !b.fst then some (false, ())
 else
 bif decide (x.fst.snd.fst = 5) then
 bif decide (x.fst.snd.snd.snd.fst = 0) then
 some (decide (Int.ofNat (List.length x.fst.snd.snd.snd.snd.fst) ≤ 40), ())
 else some (false, ())
 else
 bif decide (1 ≤ x.fst.snd.fst) then
 bif decide (x.fst.snd.fst ≤ 4) then some (decide (x.fst.snd.snd.snd.snd.fst = []), ())
 else some (false, ())
 else some (false, ())
def S87 : Sig := ⟨P87, R87, F87⟩
noncomputable def E87 : Env := { tab := tab, nt := 48, Γ := lookG [(42, [S42]), (72, [S72])], joins := lookN [], loops := lookN [] }
theorem raw87_eq (x : T96D × Unit) : afun E87 Tryz.f87 P87 R87 x = F87 x := by kernel_rfl
-- decamp/cmd.rightTxn$1
def F86 (x : T96D × Unit) : Option (Bool × Unit) :=
 Option.bind (F87 x) fun b => some (!b.fst, ())
def S86 : Sig := ⟨P86, R86, F86⟩
noncomputable def E86 : Env := { tab := tab, nt := 6, Γ := lookG [(87, [S87])], joins := lookN [], loops := lookN [] }
theorem raw86_eq (x : T96D × Unit) : afun E86 Tryz.f86 P86 R86 x = F86 x := by kernel_rfl
-- slices.IndexFunc[[]decamp/api.Cmp,decamp/api.Cmp]
def F93a (x : List T96D × Unit) : Option (Int × Unit) :=
 iterE (Int × Unit) (Int × Unit)
 (fun (x_1 : Int × Unit) =>
 bif decide (x_1.fst < Int.ofNat (List.length x.fst)) then
 Option.bind (idx x.fst x_1.fst) fun b =>
 Option.bind (F86 (b, ())) fun b =>
 bif b.fst then some (Sum.inr x_1) else some (Sum.inl (wrap64 (x_1.fst + 1), ()))
 else some (Sum.inr (-1, ())))
 big (0, ())
def S93a : Sig := ⟨P93a, R93a, F93a⟩
noncomputable def E93a : Env := { tab := tab, nt := 19, Γ := lookG [(86, [S86])], joins := lookN [], loops := lookN [(2, mkLoop ⟨[⟨.slot 8, (.int .i64), .pv⟩], [0, 1, 7], []⟩)] }
theorem raw93a_eq (x : List T96D × Unit) : afun E93a Tryz.f93 P93a R93a x = F93a x := by kernel_rfl
-- slices.ContainsFunc[[]decamp/api.Cmp,decamp/api.Cmp]
def F85a (x : List T96D × Unit) : Option (Bool × Unit) :=
 Option.bind (F93a x) fun b => some (decide (0 ≤ b.fst), ())
def S85a : Sig := ⟨P85a, R85a, F85a⟩
noncomputable def E85a : Env := { tab := tab, nt := 9, Γ := lookG [(86, [S86]), (93, [S93a])], joins := lookN [], loops := lookN [] }
theorem raw85a_eq (x : List T96D × Unit) : afun E85a Tryz.f85 P85a R85a x = F85a x := by kernel_rfl
-- decamp/cmd.rightOp
def F94 (x : T48D × Unit) : Option (Bool × Unit) :=
 bif decide (x.fst.fst = 1) then
 bif decide (x.fst.snd.snd.fst = []) then
 Option.bind (F70 (x.fst.snd.fst, x.fst.snd.snd.snd)) fun b => some b
 else some (false, ())
 else
 bif decide (x.fst.fst = 2) then
 bif decide (x.fst.fst = 2) then
 bif decide (x.fst.snd.snd.snd.fst = []) then
 bif decide (x.fst.snd.snd.snd.snd.fst = 0) then
 Option.bind (F52 (x.fst.snd.fst, x.fst.snd.snd.fst, ())) fun b => some b
 else some (false, ())
 else some (false, ())
 else some (false, ())
 else
 bif decide (x.fst.fst = 3) then
 bif decide (x.fst.snd.snd.snd.fst = []) then
 bif decide (x.fst.snd.snd.snd.snd.fst = 0) then
 Option.bind (F52 (x.fst.snd.fst, x.fst.snd.snd.fst, ())) fun b => some b
 else some (false, ())
 else some (false, ())
 else some (false, ())
def S94 : Sig := ⟨P94, R94, F94⟩
noncomputable def E94 : Env := { tab := tab, nt := 37, Γ := lookG [(52, [S52]), (70, [S70])], joins := lookN [], loops := lookN [] }
theorem raw94_eq (x : T48D × Unit) : afun E94 Tryz.f94 P94 R94 x = F94 x := by kernel_rfl
-- decamp/index.In
def F102 (x : List UInt8 × List UInt8 × List UInt8 × Unit) : Option (Bool × Unit) :=
 Option.bind (F52 (x.fst, x.snd.fst, ())) fun b =>
 bif !b.fst then some (false, ())
 else
 Option.bind (F42 x.snd.snd) fun b =>
 bif !b.fst then some (false, ())
 else
 bif decide (x.snd.snd.fst = x.fst) then some (true, ())
 else
 bif !(strlt x.snd.snd.fst x.fst || decide (x.snd.snd.fst = x.fst)) then
 some (strlt x.snd.snd.fst x.snd.fst, ())
 else some (false, ())
def S102 : Sig := ⟨P102, R102, F102⟩
noncomputable def E102 : Env := { tab := tab, nt := 29, Γ := lookG [(42, [S42]), (52, [S52])], joins := lookN [], loops := lookN [] }
theorem raw102_eq (x : List UInt8 × List UInt8 × List UInt8 × Unit) : afun E102 Tryz.f102 P102 R102 x = F102 x := by kernel_rfl
-- decamp/cmd.meet
def F97 (x : T48D × T48D × Unit) : Option (Bool × Unit) :=
 bif decide (x.fst.fst = 3) then some (false, ())
 else
 bif decide (x.snd.fst.fst = 3) then some (false, ())
 else
 bif decide (x.fst.snd.fst = x.snd.fst.snd.fst) then some (true, ())
 else
 Option.bind (F102 (x.fst.snd.fst, x.fst.snd.snd.fst, x.snd.fst.snd.fst, ())) fun b =>
 bif b.fst then some (true, ())
 else
 Option.bind (F102 (x.snd.fst.snd.fst, x.snd.fst.snd.snd.fst, x.fst.snd.fst, ()))
 fun b => some b
def S97 : Sig := ⟨P97, R97, F97⟩
noncomputable def E97 : Env := { tab := tab, nt := 36, Γ := lookG [(102, [S102])], joins := lookN [], loops := lookN [] }
theorem raw97_eq (x : T48D × T48D × Unit) : afun E97 Tryz.f97 P97 R97 x = F97 x := by kernel_rfl
-- decamp/cmd.rightOps$1
def F96 (x : T48D × Unit) : Option (Bool × Unit) := none
def S96 : Sig := ⟨P96, R96, F96⟩
noncomputable def E96 : Env := { tab := tab, nt := 7, Γ := lookG [(97, [S97])], joins := lookN [], loops := lookN [] }
theorem raw96_eq (x : T48D × Unit) : afun E96 Tryz.f96 P96 R96 x = F96 x := by kernel_rfl
-- decamp/cmd.rightOps$1
def F96a (x : T48D × T48D × Unit) : Option (Bool × T48D × Unit) :=
 Option.bind (F97 x) fun b => some (b.fst, x.snd)
def S96a : Sig := ⟨P96a, R96a, F96a⟩
noncomputable def E96a : Env := { tab := tab, nt := 7, Γ := lookG [(97, [S97])], joins := lookN [], loops := lookN [] }
theorem raw96a_eq (x : T48D × T48D × Unit) : afun E96a Tryz.f96 P96a R96a x = F96a x := by kernel_rfl
-- slices.IndexFunc[[]decamp/api.Op,decamp/api.Op]
def F101a (x : List T48D × T48D × Unit) : Option (Int × T48D × Unit) :=
 iterE (Int × T48D)
 (Int × T48D × Unit)
 (fun (x_1 : Int × T48D) =>
 bif decide (x_1.fst < Int.ofNat (List.length x.fst)) then
 Option.bind (idx x.fst x_1.fst) fun b =>
 Option.bind (F96a (b, x_1.snd, ()))
 fun b =>
 bif b.fst then some (Sum.inr (x_1.fst, b.snd))
 else some (Sum.inl (wrap64 (x_1.fst + 1), b.snd.fst))
 else some (Sum.inr (-1, x_1.snd, ())))
 big (0, x.snd.fst)
def S101a : Sig := ⟨P101a, R101a, F101a⟩
noncomputable def E101a : Env := { tab := tab, nt := 19, Γ := lookG [(96, [S96, S96a])], joins := lookN [], loops := lookN [(2, mkLoop ⟨[⟨.slot 8, (.int .i64), .pv⟩, ⟨.fld 2 0, (.int .i64), .pv⟩, ⟨.fld 2 1, .str, .pv⟩, ⟨.fld 2 2, .str, .pv⟩, ⟨.fld 2 3, .str, .pv⟩, ⟨.fld 2 4, (.int .i64), .pv⟩], [0, 1, 7], [.site 2, .comp 1 0]⟩)] }
theorem raw101a_eq (x : List T48D × T48D × Unit) : afun E101a Tryz.f101 P101a R101a x = F101a x := by kernel_rfl
-- slices.ContainsFunc[[]decamp/api.Op,decamp/api.Op]
def F95a (x : List T48D × T48D × Unit) : Option (Bool × T48D × Unit) :=
 Option.bind (F101a x) fun b =>
 some (decide (0 ≤ b.fst), b.snd)
def S95a : Sig := ⟨P95a, R95a, F95a⟩
noncomputable def E95a : Env := { tab := tab, nt := 9, Γ := lookG [(96, [S96, S96a]), (101, [S101a])], joins := lookN [], loops := lookN [] }
theorem raw95a_eq (x : List T48D × T48D × Unit) : afun E95a Tryz.f95 P95a R95a x = F95a x := by kernel_rfl
-- decamp/cmd.rightOps
def F88 (x : List T48D × Unit) : Option (Bool × Unit) :=
 iterE (Int × Unit) (Bool × Unit)
 (fun (x_1 : Int × Unit) =>
 bif decide (x_1.fst < Int.ofNat (List.length x.fst)) then
 Option.bind (idx x.fst x_1.fst) fun b =>
 Option.bind (F94 (b, ())) fun b_1 =>
 bif !b_1.fst then some (Sum.inr (false, ()))
 else
 Option.bind (sliceO x.fst 0 x_1.fst)
 fun b_2 =>
 Option.bind (F95a (b_2, b, ()))
 fun b =>
 bif b.fst then some (Sum.inr (false, ()))
 else some (Sum.inl (wrap64 (x_1.fst + 1), ()))
 else some (Sum.inr (decide (Int.ofNat (List.length x.fst) ≤ 4), ())))
 big (0, ())
def S88 : Sig := ⟨P88, R88, F88⟩
noncomputable def E88 : Env := { tab := tab, nt := 26, Γ := lookG [(94, [S94]), (95, [S95a]), (96, [S96, S96a])], joins := lookN [], loops := lookN [(2, mkLoop ⟨[⟨.slot 7, (.int .i64), .pv⟩], [0, 5, 6], []⟩)] }
theorem raw88_eq (x : List T48D × Unit) : afun E88 Tryz.f88 P88 R88 x = F88 x := by kernel_rfl
-- decamp/cmd.rightTxn
def F71 (x : T28D × Unit) : Option (Bool × Unit) :=
 bif decide (Int.ofNat (List.length x.fst.snd.snd.snd.snd.snd.snd.snd.fst) ≤ 4) then
 Option.bind (F85a (x.fst.snd.snd.snd.snd.snd.snd.snd.fst, ())) fun b =>
 bif !b.fst then
 Option.bind (F88 (x.fst.snd.snd.snd.snd.snd.snd.snd.snd.fst, ())) fun b =>
 bif b.fst then
 Option.bind (F88 (x.fst.snd.snd.snd.snd.snd.snd.snd.snd.snd.fst, ())) fun b =>
 some b
 else some (false, ())
 else some (false, ())
 else some (false, ())
def S71 : Sig := ⟨P71, R71, F71⟩
noncomputable def E71 : Env := { tab := tab, nt := 23, Γ := lookG [(85, [S85a]), (86, [S86]), (88, [S88])], joins := lookN [], loops := lookN [] }
theorem raw71_eq (x : T28D × Unit) : afun E71 Tryz.f71 P71 R71 x = F71 x := by kernel_rfl
-- decamp/cmd.rightClient
def F47 (x : T28D × Unit) : Option (Bool × Unit) :=
 bif decide (x.fst.fst = 1) then
 Option.bind (F70 (x.fst.snd.fst, x.fst.snd.snd.snd.fst, x.fst.snd.snd.snd.snd.fst, ()))
 fun b => some b
 else
 bif decide (x.fst.fst = 2) then
 Option.bind (F52 (x.fst.snd.fst, x.fst.snd.snd.fst, ())) fun b => some b
 else
 bif decide (x.fst.fst = 3) then Option.bind (F71 x) fun b => some b
 else
 bif decide (x.fst.fst = 4) then
 Option.bind (F48 ([x.fst.snd.snd.snd.snd.snd.snd.fst], ())) fun b => some b
 else
 bif decide (x.fst.fst = 5) then
 Option.bind (F48 ([x.fst.snd.snd.snd.snd.fst], ())) fun b =>
 bif b.fst then
 Option.bind (F72 (x.fst.snd.snd.snd.snd.snd.fst, 1, 1000, ())) fun b => some b
 else some (false, ())
 else
 bif decide (x.fst.fst = 6) then
 bif decide (x.fst.fst = 6) then
 Option.bind (F48 ([x.fst.snd.snd.snd.snd.fst], ())) fun b => some b
 else
 bif decide (x.fst.fst = 9) then
 bif !decide (x.fst.snd.snd.snd.snd.fst = 0) then
 Option.bind (F72 (x.fst.snd.snd.snd.snd.fst, -1099511627776, 1099511627776, ()))
 fun b => some b
 else some (false, ())
 else some (decide (x.fst.fst = 8), ())
 else
 bif decide (x.fst.fst = 7) then
 Option.bind (F48 ([x.fst.snd.snd.snd.snd.fst], ())) fun b => some b
 else
 bif decide (x.fst.fst = 9) then
 bif !decide (x.fst.snd.snd.snd.snd.fst = 0) then
 Option.bind (F72 (x.fst.snd.snd.snd.snd.fst, -1099511627776, 1099511627776, ()))
 fun b => some b
 else some (false, ())
 else some (decide (x.fst.fst = 8), ())
def S47 : Sig := ⟨P47, R47, F47⟩
noncomputable def E47 : Env := { tab := tab, nt := 62, Γ := lookG [(48, [S48]), (52, [S52]), (70, [S70]), (71, [S71]), (72, [S72])], joins := lookN [], loops := lookN [] }
theorem raw47_eq (x : T28D × Unit) : afun E47 Tryz.f47 P47 R47 x = F47 x := by kernel_rfl
-- decamp/hist.number
def F103 (x : Int × Unit) : Option (Bool × Unit) :=
 bif decide (1 ≤ x.fst) then some (decide (x.fst ≤ 1099511627776), ()) else some (false, ())
def S103 : Sig := ⟨P103, R103, F103⟩
noncomputable def E103 : Env := { tab := tab, nt := 9, Γ := lookG [], joins := lookN [], loops := lookN [] }
theorem raw103_eq (x : Int × Unit) : afun E103 Tryz.f103 P103 R103 x = F103 x := by kernel_rfl
-- decamp/hist.right
def F98 (x : T66D × Unit) : Option (Bool × Unit) :=
 Option.bind (F103 (x.fst.fst, ())) fun b =>
 bif !b.fst then some (false, ())
 else
 Option.bind (F103 (x.fst.snd.snd.fst, ())) fun b =>
 bif !b.fst then some (false, ())
 else
 bif x.fst.snd.snd.snd.snd.snd.snd.fst then
 bif decide (x.fst.snd.fst = 0) then
 bif decide (x.fst.snd.snd.snd.fst = 0) then
 bif decide (x.fst.snd.snd.snd.snd.snd.fst = 0) then
 some (decide (x.fst.snd.snd.snd.snd.fst = []), ())
 else some (false, ())
 else some (false, ())
 else some (false, ())
 else
 bif decide (1 ≤ x.fst.snd.fst) then
 bif decide (x.fst.snd.fst ≤ x.fst.snd.snd.fst) then
 Option.bind (F103 (x.fst.snd.snd.snd.fst, ())) fun b =>
 bif b.fst then
 bif decide (Int.ofNat (List.length x.fst.snd.snd.snd.snd.fst) ≤ 40) then
 bif decide (-1099511627776 ≤ x.fst.snd.snd.snd.snd.snd.fst) then
 some (decide (x.fst.snd.snd.snd.snd.snd.fst ≤ 1099511627776), ())
 else some (false, ())
 else some (false, ())
 else some (false, ())
 else some (false, ())
 else some (false, ())
def S98 : Sig := ⟨P98, R98, F98⟩
noncomputable def E98 : Env := { tab := tab, nt := 64, Γ := lookG [(103, [S103])], joins := lookN [], loops := lookN [] }
theorem raw98_eq (x : T66D × Unit) : afun E98 Tryz.f98 P98 R98 x = F98 x := by kernel_rfl
-- decamp/hist.Right
def F90 (x : List T66D × Unit) : Option (Bool × Unit) :=
 iterE (Int × Unit) (Bool × Unit)
 (fun (x_1 : Int × Unit) =>
 bif decide (x_1.fst < Int.ofNat (List.length x.fst)) then
 Option.bind (idx x.fst x_1.fst) fun b =>
 Option.bind (F98 (b, ())) fun b_1 =>
 bif !b_1.fst then some (Sum.inr (false, ()))
 else
 bif decide (0 < x_1.fst) then
 Option.bind (idx x.fst (wrap64 (x_1.fst - 1)))
 fun b_2 =>
 bif decide (b.fst ≤ b_2.fst) then some (Sum.inr (false, ()))
 else
 Option.bind (idx x.fst (wrap64 (x_1.fst - 1)))
 fun b_3 =>
 bif decide (b.snd.snd.fst ≤ b_3.snd.snd.fst) then some (Sum.inr (false, ()))
 else some (Sum.inl (wrap64 (x_1.fst + 1), ()))
 else some (Sum.inl (wrap64 (x_1.fst + 1), ()))
 else some (Sum.inr (true, ())))
 big (0, ())
def S90 : Sig := ⟨P90, R90, F90⟩
noncomputable def E90 : Env := { tab := tab, nt := 42, Γ := lookG [(98, [S98])], joins := lookN [], loops := lookN [(2, mkLoop ⟨[⟨.slot 7, (.int .i64), .pv⟩], [0, 5, 6], []⟩)] }
theorem raw90_eq (x : List T66D × Unit) : afun E90 Tryz.f90 P90 R90 x = F90 x := by kernel_rfl
-- decamp/cmd.version
def F75 (x : T66D × Unit) : Option (Bool × Unit) :=
 Option.bind (F90 ([x.fst], ())) fun b => some b
def S75 : Sig := ⟨P75, R75, F75⟩
noncomputable def E75 : Env := { tab := tab, nt := 6, Γ := lookG [(90, [S90])], joins := lookN [], loops := lookN [] }
theorem raw75_eq (x : T66D × Unit) : afun E75 Tryz.f75 P75 R75 x = F75 x := by kernel_rfl
-- decamp/cmd.rightPage
def F49 (x : T28D × Unit) : Option (Bool × Unit) :=
 Option.bind
 (bif !decide (x.fst.snd.fst = []) then
 Option.bind (F42 (x.fst.snd.fst, ())) fun b =>
 bif !b.fst then some (Sum.inr (false, ()))
 else
 bif !decide (x.fst.snd.snd.fst = []) then
 Option.bind (F42 (x.fst.snd.snd.fst, ())) fun b =>
 bif !b.fst then some (Sum.inr (false, ()))
 else
 bif
 decide
 (8 <
 Int.ofNat (List.length x.fst.snd.snd.snd.snd.snd.snd.snd.snd.snd.snd.snd.snd.snd.snd.fst)) then
 some (Sum.inr (false, ()))
 else some (Sum.inl ())
 else
 bif
 decide
 (8 < Int.ofNat (List.length x.fst.snd.snd.snd.snd.snd.snd.snd.snd.snd.snd.snd.snd.snd.snd.fst)) then
 some (Sum.inr (false, ()))
 else some (Sum.inl ())
 else
 bif !decide (x.fst.snd.snd.fst = []) then
 Option.bind (F42 (x.fst.snd.snd.fst, ())) fun b =>
 bif !b.fst then some (Sum.inr (false, ()))
 else
 bif
 decide
 (8 < Int.ofNat (List.length x.fst.snd.snd.snd.snd.snd.snd.snd.snd.snd.snd.snd.snd.snd.snd.fst)) then
 some (Sum.inr (false, ()))
 else some (Sum.inl ())
 else
 bif decide (8 < Int.ofNat (List.length x.fst.snd.snd.snd.snd.snd.snd.snd.snd.snd.snd.snd.snd.snd.snd.fst)) then
 some (Sum.inr (false, ()))
 else some (Sum.inl ()))
 fun o =>
 Sum.elim
 (fun (_z : Unit) =>
 iterE (Int × Unit) (Bool × Unit)
 (fun (x_1 : Int × Unit) =>
 bif
 decide
 (x_1.fst <
 Int.ofNat (List.length x.fst.snd.snd.snd.snd.snd.snd.snd.snd.snd.snd.snd.snd.snd.snd.fst)) then
 Option.bind (idx x.fst.snd.snd.snd.snd.snd.snd.snd.snd.snd.snd.snd.snd.snd.snd.fst x_1.fst)
 fun b =>
 Option.bind (F42 (b.fst, ())) fun b_1 =>
 bif !b_1.fst then some (Sum.inr (false, ()))
 else
 Option.bind (F75 b.snd) fun b_2 =>
 bif !b_2.fst then some (Sum.inr (false, ()))
 else
 bif b.snd.fst.snd.snd.snd.snd.snd.snd.fst then some (Sum.inr (false, ()))
 else
 bif decide (0 < x_1.fst) then
 Option.bind
 (idx x.fst.snd.snd.snd.snd.snd.snd.snd.snd.snd.snd.snd.snd.snd.snd.fst
 (wrap64 (x_1.fst - 1)))
 fun b_3 =>
 bif !strlt b_3.fst b.fst then some (Sum.inr (false, ()))
 else some (Sum.inl (wrap64 (x_1.fst + 1), ()))
 else some (Sum.inl (wrap64 (x_1.fst + 1), ()))
 else some (Sum.inr (true, ())))
 big (0, ()))
 (fun (val : Bool × Unit) => some val) o
def S49 : Sig := ⟨P49, R49, F49⟩
noncomputable def E49 : Env := { tab := tab, nt := 71, Γ := lookG [(42, [S42]), (75, [S75])], joins := lookN [(3, ⟨[], [1], [.site 1000, .fld 1000 0, .fld 1000 1, .fld 1000 2, .fld 1000 3, .fld 1000 4, .fld 1000 5, .fld 1000 6, .fld 1000 7, .fld 1000 8, .fld 1000 9, .fld 1000 10, .fld 1000 11, .fld 1000 12, .fld 1000 13, .fld 1000 14, .fld 1000 15, .fld 1000 16]⟩)], loops := lookN [(4, mkLoop ⟨[⟨.slot 34, (.int .i64), .pv⟩], [1, 32, 33], [.site 1000, .fld 1000 0, .fld 1000 1, .fld 1000 2, .fld 1000 3, .fld 1000 4, .fld 1000 5, .fld 1000 6, .fld 1000 7, .fld 1000 8, .fld 1000 9, .fld 1000 10, .fld 1000 11, .fld 1000 12, .fld 1000 13, .fld 1000 14, .fld 1000 15, .fld 1000 16]⟩)] }
theorem raw49_eq (x : T28D × Unit) : afun E49 Tryz.f49 P49 R49 x = F49 x := by kernel_rfl
-- decamp/cmd.rightTail
def F50 (x : T28D × Unit) : Option (Bool × Unit) :=
 Option.bind
 (F48 ([x.fst.snd.snd.snd.snd.snd.snd.fst, x.fst.snd.snd.snd.snd.snd.snd.snd.snd.snd.snd.snd.snd.fst], ()))
 fun b =>
 bif !b.fst then some (false, ())
 else
 bif decide (x.fst.snd.snd.snd.snd.snd.snd.snd.snd.snd.snd.snd.snd.fst ≤ x.fst.snd.snd.snd.snd.snd.snd.fst) then
 some (false, ())
 else
 bif decide (64 < Int.ofNat (List.length x.fst.snd.snd.snd.snd.snd.snd.snd.snd.snd.snd.snd.snd.snd.snd.fst)) then
 some (false, ())
 else
 iterE (Int × Unit) (Bool × Unit)
 (fun (x_1 : Int × Unit) =>
 bif
 decide
 (x_1.fst <
 Int.ofNat (List.length x.fst.snd.snd.snd.snd.snd.snd.snd.snd.snd.snd.snd.snd.snd.snd.fst)) then
 Option.bind (idx x.fst.snd.snd.snd.snd.snd.snd.snd.snd.snd.snd.snd.snd.snd.snd.fst x_1.fst)
 fun b =>
 Option.bind (F42 (b.fst, ())) fun b_1 =>
 bif !b_1.fst then some (Sum.inr (false, ()))
 else
 Option.bind (F75 b.snd) fun b_2 =>
 bif !b_2.fst then some (Sum.inr (false, ()))
 else
 bif decide (b.snd.fst.fst ≤ x.fst.snd.snd.snd.snd.snd.snd.fst) then
 some (Sum.inr (false, ()))
 else
 bif decide (x.fst.snd.snd.snd.snd.snd.snd.snd.snd.snd.snd.snd.snd.fst < b.snd.fst.fst) then
 some (Sum.inr (false, ()))
 else
 bif decide (x_1.fst = 0) then
 some (Sum.inl (wrap64 (x_1.fst + 1), ()))
 else
 Option.bind
 (idx x.fst.snd.snd.snd.snd.snd.snd.snd.snd.snd.snd.snd.snd.snd.snd.fst
 (wrap64 (x_1.fst - 1)))
 fun b_3 =>
 bif decide (b.snd.fst.fst < b_3.snd.fst.fst) then some (Sum.inr (false, ()))
 else
 bif decide (b_3.snd.fst.fst = b.snd.fst.fst) then
 bif !strlt b_3.fst b.fst then some (Sum.inr (false, ()))
 else some (Sum.inl (wrap64 (x_1.fst + 1), ()))
 else some (Sum.inl (wrap64 (x_1.fst + 1), ()))
 else some (Sum.inr (true, ())))
 big (0, ())
def S50 : Sig := ⟨P50, R50, F50⟩
noncomputable def E50 : Env := { tab := tab, nt := 92, Γ := lookG [(42, [S42]), (48, [S48]), (75, [S75])], joins := lookN [], loops := lookN [(4, mkLoop ⟨[⟨.slot 29, (.int .i64), .pv⟩], [1, 27, 28], [.site 1000, .fld 1000 0, .fld 1000 1, .fld 1000 2, .fld 1000 3, .fld 1000 4, .fld 1000 5, .fld 1000 6, .fld 1000 7, .fld 1000 8, .fld 1000 9, .fld 1000 10, .fld 1000 11, .fld 1000 12, .fld 1000 13, .fld 1000 14, .fld 1000 15, .fld 1000 16]⟩)] }
theorem raw50_eq (x : T28D × Unit) : afun E50 Tryz.f50 P50 R50 x = F50 x := by kernel_rfl
-- decamp/cmd.RightReply$1
def F100 (x : T70D × Unit) : Option (Bool × Unit) :=
 Option.bind (F42 (x.fst.fst, ())) fun b =>
 bif !b.fst then some (true, ())
 else Option.bind (F75 x.fst.snd) fun b => some (!b.fst, ())
def S100 : Sig := ⟨P100, R100, F100⟩
noncomputable def E100 : Env := { tab := tab, nt := 13, Γ := lookG [(42, [S42]), (75, [S75])], joins := lookN [], loops := lookN [] }
theorem raw100_eq (x : T70D × Unit) : afun E100 Tryz.f100 P100 R100 x = F100 x := by kernel_rfl
-- slices.IndexFunc[[]decamp/api.Item,decamp/api.Item]
def F104a (x : List T70D × Unit) : Option (Int × Unit) :=
 iterE (Int × Unit) (Int × Unit)
 (fun (x_1 : Int × Unit) =>
 bif decide (x_1.fst < Int.ofNat (List.length x.fst)) then
 Option.bind (idx x.fst x_1.fst)
 fun b =>
 Option.bind (F100 (b, ())) fun b =>
 bif b.fst then some (Sum.inr x_1) else some (Sum.inl (wrap64 (x_1.fst + 1), ()))
 else some (Sum.inr (-1, ())))
 big (0, ())
def S104a : Sig := ⟨P104a, R104a, F104a⟩
noncomputable def E104a : Env := { tab := tab, nt := 19, Γ := lookG [(100, [S100])], joins := lookN [], loops := lookN [(2, mkLoop ⟨[⟨.slot 8, (.int .i64), .pv⟩], [0, 1, 7], []⟩)] }
theorem raw104a_eq (x : List T70D × Unit) : afun E104a Tryz.f104 P104a R104a x = F104a x := by kernel_rfl
-- slices.ContainsFunc[[]decamp/api.Item,decamp/api.Item]
def F99a (x : List T70D × Unit) : Option (Bool × Unit) :=
 Option.bind (F104a x) fun b => some (decide (0 ≤ b.fst), ())
def S99a : Sig := ⟨P99a, R99a, F99a⟩
noncomputable def E99a : Env := { tab := tab, nt := 9, Γ := lookG [(100, [S100]), (104, [S104a])], joins := lookN [], loops := lookN [] }
theorem raw99a_eq (x : List T70D × Unit) : afun E99a Tryz.f99 P99a R99a x = F99a x := by kernel_rfl
-- decamp/cmd.RightReply
def F91 (x : T51D × Unit) : Option (Bool × Unit) :=
 bif decide (x.fst.fst < 0) then some (false, ())
 else
 bif decide (15 < x.fst.fst) then some (false, ())
 else
 Option.bind (F84 ([x.fst.snd.fst, x.fst.snd.snd.snd.fst, x.fst.snd.snd.snd.snd.snd.snd.fst], ()))
 fun b =>
 bif !b.fst then some (false, ())
 else
 bif decide (x.fst.snd.snd.snd.snd.snd.fst < 0) then some (false, ())
 else
 bif decide (1 < x.fst.snd.snd.snd.snd.snd.fst) then some (false, ())
 else
 bif decide (8 < Int.ofNat (List.length x.fst.snd.snd.snd.snd.fst)) then some (false, ())
 else
 Option.bind (F99a (x.fst.snd.snd.snd.snd.fst, ())) fun b =>
 some (!b.fst, ())
def S91 : Sig := ⟨P91, R91, F91⟩
noncomputable def E91 : Env := { tab := tab, nt := 42, Γ := lookG [(84, [S84]), (99, [S99a]), (100, [S100])], joins := lookN [], loops := lookN [] }
theorem raw91_eq (x : T51D × Unit) : afun E91 Tryz.f91 P91 R91 x = F91 x := by kernel_rfl
-- decamp/cmd.rightSess
def F76 (x : List T94D × Int × Unit) : Option (Bool × Unit) :=
 iterE (Int × Unit) (Bool × Unit)
 (fun (x_1 : Int × Unit) =>
 bif decide (x_1.fst < Int.ofNat (List.length x.fst)) then
 Option.bind (idx x.fst x_1.fst)
 fun b =>
 Option.bind (F72 (b.fst, 1, x.snd)) fun b_1 =>
 bif !b_1.fst then some (Sum.inr (false, ()))
 else
 Option.bind (F48 ([b.snd.fst], ())) fun b_2 =>
 bif !b_2.fst then some (Sum.inr (false, ()))
 else
 Option.bind (F91 b.snd.snd) fun b_3 =>
 bif !b_3.fst then some (Sum.inr (false, ()))
 else
 bif decide (0 < x_1.fst) then
 Option.bind (idx x.fst (wrap64 (x_1.fst - 1)))
 fun b_4 =>
 bif decide (b.fst ≤ b_4.fst) then some (Sum.inr (false, ()))
 else some (Sum.inl (wrap64 (x_1.fst + 1), ()))
 else some (Sum.inl (wrap64 (x_1.fst + 1), ()))
 else some (Sum.inr (true, ())))
 big (0, ())
def S76 : Sig := ⟨P76, R76, F76⟩
noncomputable def E76 : Env := { tab := tab, nt := 48, Γ := lookG [(48, [S48]), (72, [S72]), (91, [S91])], joins := lookN [], loops := lookN [(2, mkLoop ⟨[⟨.slot 9, (.int .i64), .pv⟩], [0, 1, 7, 8], []⟩)] }
theorem raw76_eq (x : List T94D × Int × Unit) : afun E76 Tryz.f76 P76 R76 x = F76 x := by kernel_rfl
-- decamp/cmd.rightLeases
def F77 (x : List T113D × Unit) : Option (Bool × Unit) :=
 iterE (Int × Unit) (Bool × Unit)
 (fun (x_1 : Int × Unit) =>
 bif decide (x_1.fst < Int.ofNat (List.length x.fst)) then
 Option.bind (idx x.fst x_1.fst) fun b =>
 Option.bind (F48 ([b.fst], ())) fun b_1 =>
 bif !b_1.fst then some (Sum.inr (false, ()))
 else
 Option.bind (F72 (b.snd.fst, 1, 1000, ())) fun b_2 =>
 bif !b_2.fst then some (Sum.inr (false, ()))
 else
 Option.bind (F72 (b.snd.snd.fst, 0, 1000, ())) fun b_3 =>
 bif !b_3.fst then some (Sum.inr (false, ()))
 else
 bif decide (0 < x_1.fst) then
 Option.bind (idx x.fst (wrap64 (x_1.fst - 1)))
 fun b_4 =>
 bif decide (b.fst ≤ b_4.fst) then some (Sum.inr (false, ()))
 else some (Sum.inl (wrap64 (x_1.fst + 1), ()))
 else some (Sum.inl (wrap64 (x_1.fst + 1), ()))
 else some (Sum.inr (decide (Int.ofNat (List.length x.fst) ≤ 64), ())))
 big (0, ())
def S77 : Sig := ⟨P77, R77, F77⟩
noncomputable def E77 : Env := { tab := tab, nt := 48, Γ := lookG [(48, [S48]), (72, [S72])], joins := lookN [], loops := lookN [(2, mkLoop ⟨[⟨.slot 7, (.int .i64), .pv⟩], [0, 5, 6], []⟩)] }
theorem raw77_eq (x : List T113D × Unit) : afun E77 Tryz.f77 P77 R77 x = F77 x := by kernel_rfl
-- decamp/cmd.handed
def F51 (x : List T94D × List T113D × Unit) : Option (Bool × Unit) :=
 Option.bind (F76 (x.fst, 15, ())) fun b =>
 bif b.fst then Option.bind (F77 x.snd) fun b => some b else some (false, ())
def S51 : Sig := ⟨P51, R51, F51⟩
noncomputable def E51 : Env := { tab := tab, nt := 11, Γ := lookG [(76, [S76]), (77, [S77])], joins := lookN [], loops := lookN [] }
theorem raw51_eq (x : List T94D × List T113D × Unit) : afun E51 Tryz.f51 P51 R51 x = F51 x := by kernel_rfl
-- decamp/cmd.Right
def F16 (x : T28D × Unit) : Option (Bool × Unit) :=
 Option.bind (F46 x)
 fun b =>
 Option.bind (F45 (b.fst, x)) fun b =>
 bif !b.fst then some (false, ())
 else
 bif decide (x.fst.fst < 10) then Option.bind (F47 x) fun b => some b
 else
 Option.bind (F48 ([x.fst.snd.snd.snd.snd.snd.snd.snd.snd.snd.snd.fst], ())) fun b =>
 bif !b.fst then some (false, ())
 else
 bif decide (x.fst.fst = 10) then
 Option.bind (F41 (x.fst.snd.fst, ())) fun b => some b
 else
 bif decide (x.fst.fst = 11) then
 bif decide (x.fst.fst = 11) then some (true, ())
 else
 bif decide (x.fst.fst = 12) then
 Option.bind
 (F48
 ([x.fst.snd.snd.snd.snd.snd.snd.snd.snd.snd.snd.snd.fst, x.fst.snd.snd.snd.snd.snd.snd.fst],
 ()))
 fun b =>
 bif b.fst then
 Option.bind (F41 (x.fst.snd.fst, ())) fun b =>
 bif b.fst then
 Option.bind (F41 (x.fst.snd.snd.fst, ())) fun b => some b
 else some (false, ())
 else some (false, ())
 else
 bif decide (x.fst.fst = 13) then
 Option.bind (F48 ([x.fst.snd.snd.snd.snd.snd.snd.snd.snd.snd.snd.snd.fst], ()))
 fun b =>
 bif b.fst then Option.bind (F49 x) fun b => some b
 else some (false, ())
 else
 bif decide (x.fst.fst = 14) then
 Option.bind (F48 ([x.fst.snd.snd.snd.snd.snd.snd.snd.snd.snd.snd.snd.fst], ()))
 fun b =>
 bif b.fst then Option.bind (F50 x) fun b => some b
 else some (false, ())
 else
 bif decide (x.fst.fst = 15) then
 Option.bind
 (F48
 ([x.fst.snd.snd.snd.snd.snd.snd.snd.snd.snd.snd.snd.fst,
 x.fst.snd.snd.snd.snd.snd.snd.fst],
 ()))
 fun b =>
 bif b.fst then
 Option.bind (F51 x.fst.snd.snd.snd.snd.snd.snd.snd.snd.snd.snd.snd.snd.snd.snd.snd)
 fun b => some b
 else some (false, ())
 else some (false, ())
 else
 bif decide (x.fst.fst = 16) then some (true, ())
 else
 bif decide (x.fst.fst = 12) then
 Option.bind
 (F48
 ([x.fst.snd.snd.snd.snd.snd.snd.snd.snd.snd.snd.snd.fst, x.fst.snd.snd.snd.snd.snd.snd.fst],
 ()))
 fun b =>
 bif b.fst then
 Option.bind (F41 (x.fst.snd.fst, ())) fun b =>
 bif b.fst then
 Option.bind (F41 (x.fst.snd.snd.fst, ())) fun b => some b
 else some (false, ())
 else some (false, ())
 else
 bif decide (x.fst.fst = 13) then
 Option.bind (F48 ([x.fst.snd.snd.snd.snd.snd.snd.snd.snd.snd.snd.snd.fst], ()))
 fun b =>
 bif b.fst then Option.bind (F49 x) fun b => some b
 else some (false, ())
 else
 bif decide (x.fst.fst = 14) then
 Option.bind (F48 ([x.fst.snd.snd.snd.snd.snd.snd.snd.snd.snd.snd.snd.fst], ()))
 fun b =>
 bif b.fst then Option.bind (F50 x) fun b => some b
 else some (false, ())
 else
 bif decide (x.fst.fst = 15) then
 Option.bind
 (F48
 ([x.fst.snd.snd.snd.snd.snd.snd.snd.snd.snd.snd.snd.fst,
 x.fst.snd.snd.snd.snd.snd.snd.fst],
 ()))
 fun b =>
 bif b.fst then
 Option.bind (F51 x.fst.snd.snd.snd.snd.snd.snd.snd.snd.snd.snd.snd.snd.snd.snd.snd)
 fun b => some b
 else some (false, ())
 else some (false, ())
def S16 : Sig := ⟨P16, R16, F16⟩
noncomputable def E16 : Env := { tab := tab, nt := 81, Γ := lookG [(41, [S41]), (45, [S45]), (46, [S46]), (47, [S47]), (48, [S48]), (49, [S49]), (50, [S50]), (51, [S51])], joins := lookN [], loops := lookN [] }
theorem raw16_eq (x : T28D × Unit) : afun E16 Tryz.f16 P16 R16 x = F16 x := by kernel_rfl
-- decamp/remap.Range
def F17 (x : List UInt8 × List UInt8 × List UInt8 × List UInt8 × Unit) : Option (List UInt8 × List UInt8 × Bool × Unit) :=
 Option.bind (F13 (x.fst, x.snd.fst, x.snd.snd.fst, ())) fun b =>
 bif !b.snd.fst then some ([], [], false, ())
 else
 Option.bind (F52 x.snd.snd) fun b_1 =>
 bif !b_1.fst then some ([], [], false, ())
 else
 bif decide (x.snd.snd.snd.fst = []) then some (b.fst, [], true, ())
 else
 Option.bind (F15 (x.snd.fst, ())) fun b_2 =>
 Option.bind
 (Option.bind (F15 (x.fst, ())) fun b =>
 bif !decide (x.snd.snd.snd.fst = b.fst) then
 Option.bind (F53 (x.snd.snd.snd.fst, x.fst, ())) fun b =>
 bif !b.fst then some (Sum.inr ([], [], false, ()))
 else
 Option.bind
 (sliceO x.snd.snd.snd.fst (Int.ofNat (List.length x.fst)) ↑(List.length x.snd.snd.snd.fst))
 fun b =>
 Option.bind (appO x.snd.fst b) fun b => some (Sum.inl (b, ()))
 else some (Sum.inl b_2))
 fun o =>
 Sum.elim
 (fun (x : List UInt8 × Unit) =>
 Option.bind (F52 (b.fst, x)) fun b_3 =>
 bif !b_3.fst then some ([], [], false, ()) else some (b.fst, x.fst, true, ()))
 (fun (val : List UInt8 × List UInt8 × Bool × Unit) => some val) o
def S17 : Sig := ⟨P17, R17, F17⟩
noncomputable def E17 : Env := { tab := tab, nt := 54, Γ := lookG [(13, [S13]), (15, [S15]), (52, [S52]), (53, [S53])], joins := lookN [(11, ⟨[⟨.slot 13, .str, .pv⟩], [11], []⟩)], loops := lookN [] }
theorem raw17_eq (x : List UInt8 × List UInt8 × List UInt8 × List UInt8 × Unit) : afun E17 Tryz.f17 P17 R17 x = F17 x := by kernel_rfl
-- decamp/remap.cmps
def F18 (x : List UInt8 × List UInt8 × List T96D × Unit) : Option (List T96D × Bool × Unit) :=
 iterE (List T96D × Int × Unit)
 (List T96D × Bool × Unit)
 (fun (x_1 : List T96D × Int × Unit) =>
 bif decide (x_1.snd.fst < Int.ofNat (List.length x.snd.snd.fst)) then
 Option.bind (idx x.snd.snd.fst x_1.snd.fst) fun b =>
 Option.bind (F13 (x.fst, x.snd.fst, b.fst, ())) fun b_1 =>
 bif !b_1.snd.fst then some (Sum.inr ([], false, ()))
 else
 Option.bind (appO x_1.fst [(b_1.fst, b.snd)])
 fun b =>
 some (Sum.inl (b, wrap64 (x_1.snd.fst + 1), ()))
 else some (Sum.inr (x_1.fst, true, ())))
 big ([], 0, ())
def S18 : Sig := ⟨P18, R18, F18⟩
noncomputable def E18 : Env := { tab := tab, nt := 37, Γ := lookG [(13, [S13])], joins := lookN [], loops := lookN [(3, mkLoop ⟨[⟨.slot 8, (.slice T96), .own false⟩, ⟨.slot 15, (.int .i64), .pv⟩], [0, 1, 13, 14], []⟩)] }
theorem raw18_eq (x : List UInt8 × List UInt8 × List T96D × Unit) : afun E18 Tryz.f18 P18 R18 x = F18 x := by kernel_rfl
-- decamp/remap.ops
def F19 (x : List UInt8 × List UInt8 × List T48D × Unit) : Option (List T48D × Bool × Unit) :=
 iterE (List T48D × Int × Unit)
 (List T48D × Bool × Unit)
 (fun (x_1 : List T48D × Int × Unit) =>
 bif decide (x_1.snd.fst < Int.ofNat (List.length x.snd.snd.fst)) then
 Option.bind (idx x.snd.snd.fst x_1.snd.fst)
 fun b =>
 Option.bind (F17 (x.fst, x.snd.fst, b.snd.fst, b.snd.snd.fst, ()))
 fun b_1 =>
 bif !b_1.snd.snd.fst then some (Sum.inr ([], false, ()))
 else
 Option.bind (appO x_1.fst [(b.fst, b_1.fst, b_1.snd.fst, b.snd.snd.snd)])
 fun b =>
 some (Sum.inl (b, wrap64 (x_1.snd.fst + 1), ()))
 else some (Sum.inr (x_1.fst, true, ())))
 big ([], 0, ())
def S19 : Sig := ⟨P19, R19, F19⟩
noncomputable def E19 : Env := { tab := tab, nt := 43, Γ := lookG [(17, [S17])], joins := lookN [], loops := lookN [(3, mkLoop ⟨[⟨.slot 8, (.slice T48), .own false⟩, ⟨.slot 16, (.int .i64), .pv⟩], [0, 1, 14, 15], []⟩)] }
theorem raw19_eq (x : List UInt8 × List UInt8 × List T48D × Unit) : afun E19 Tryz.f19 P19 R19 x = F19 x := by kernel_rfl
-- decamp/remap.Cmd
def F6 (x : List UInt8 × List UInt8 × T28D × Unit) : Option (T28D × Bool × Unit) :=
 Option.bind (F16 x.snd.snd) fun b =>
 bif !b.fst then
 some ((0, [], [], [], 0, 0, 0, [], [], [], 0, 0, 0, false, [], [], [], ()), false, ())
 else
 bif decide (8 ≤ x.snd.snd.fst.fst) then
 some ((0, [], [], [], 0, 0, 0, [], [], [], 0, 0, 0, false, [], [], [], ()), false, ())
 else
 Option.bind
 (bif decide (x.snd.snd.fst.fst = 1) then
 bif decide (x.snd.snd.fst.fst = 1) then
 Option.bind (F17 (x.fst, x.snd.fst, x.snd.snd.fst.snd.fst, x.snd.snd.fst.snd.snd.fst, ()))
 fun b =>
 some
 (Sum.inl
 (b.snd.snd.fst, b.fst, b.snd.fst, x.snd.snd.fst.snd.snd.snd.snd.snd.snd.snd.fst,
 x.snd.snd.fst.snd.snd.snd.snd.snd.snd.snd.snd.fst,
 x.snd.snd.fst.snd.snd.snd.snd.snd.snd.snd.snd.snd.fst, ()))
 else
 bif decide (x.snd.snd.fst.fst = 3) then
 Option.bind (F18 (x.fst, x.snd.fst, x.snd.snd.fst.snd.snd.snd.snd.snd.snd.snd.fst, ()))
 fun b =>
 Option.bind (F19 (x.fst, x.snd.fst, x.snd.snd.fst.snd.snd.snd.snd.snd.snd.snd.snd.fst, ()))
 fun b_1 =>
 Option.bind
 (F19 (x.fst, x.snd.fst, x.snd.snd.fst.snd.snd.snd.snd.snd.snd.snd.snd.snd.fst, ()))
 fun b_2 =>
 bif b.snd.fst then
 bif b_1.snd.fst then
 some
 (Sum.inl
 (b_2.snd.fst, x.snd.snd.fst.snd.fst, x.snd.snd.fst.snd.snd.fst, b.fst, b_1.fst, b_2.fst,
 ()))
 else
 some
 (Sum.inl
 (false, x.snd.snd.fst.snd.fst, x.snd.snd.fst.snd.snd.fst, b.fst, b_1.fst, b_2.fst,
 ()))
 else
 some
 (Sum.inl
 (false, x.snd.snd.fst.snd.fst, x.snd.snd.fst.snd.snd.fst, b.fst, b_1.fst, b_2.fst,
 ()))
 else
 some
 (Sum.inl
 (true, x.snd.snd.fst.snd.fst, x.snd.snd.fst.snd.snd.fst,
 x.snd.snd.fst.snd.snd.snd.snd.snd.snd.snd.fst, x.snd.snd.fst.snd.snd.snd.snd.snd.snd.snd.snd.fst,
 x.snd.snd.fst.snd.snd.snd.snd.snd.snd.snd.snd.snd.fst, ()))
 else
 bif decide (x.snd.snd.fst.fst = 2) then
 Option.bind (F17 (x.fst, x.snd.fst, x.snd.snd.fst.snd.fst, x.snd.snd.fst.snd.snd.fst, ()))
 fun b =>
 some
 (Sum.inl
 (b.snd.snd.fst, b.fst, b.snd.fst, x.snd.snd.fst.snd.snd.snd.snd.snd.snd.snd.fst,
 x.snd.snd.fst.snd.snd.snd.snd.snd.snd.snd.snd.fst,
 x.snd.snd.fst.snd.snd.snd.snd.snd.snd.snd.snd.snd.fst, ()))
 else
 bif decide (x.snd.snd.fst.fst = 3) then
 Option.bind (F18 (x.fst, x.snd.fst, x.snd.snd.fst.snd.snd.snd.snd.snd.snd.snd.fst, ()))
 fun b =>
 Option.bind (F19 (x.fst, x.snd.fst, x.snd.snd.fst.snd.snd.snd.snd.snd.snd.snd.snd.fst, ()))
 fun b_1 =>
 Option.bind
 (F19 (x.fst, x.snd.fst, x.snd.snd.fst.snd.snd.snd.snd.snd.snd.snd.snd.snd.fst, ()))
 fun b_2 =>
 bif b.snd.fst then
 bif b_1.snd.fst then
 some
 (Sum.inl
 (b_2.snd.fst, x.snd.snd.fst.snd.fst, x.snd.snd.fst.snd.snd.fst, b.fst, b_1.fst, b_2.fst,
 ()))
 else
 some
 (Sum.inl
 (false, x.snd.snd.fst.snd.fst, x.snd.snd.fst.snd.snd.fst, b.fst, b_1.fst, b_2.fst,
 ()))
 else
 some
 (Sum.inl
 (false, x.snd.snd.fst.snd.fst, x.snd.snd.fst.snd.snd.fst, b.fst, b_1.fst, b_2.fst,
 ()))
 else
 some
 (Sum.inl
 (true, x.snd.snd.fst.snd.fst, x.snd.snd.fst.snd.snd.fst,
 x.snd.snd.fst.snd.snd.snd.snd.snd.snd.snd.fst, x.snd.snd.fst.snd.snd.snd.snd.snd.snd.snd.snd.fst,
 x.snd.snd.fst.snd.snd.snd.snd.snd.snd.snd.snd.snd.fst, ())))
 fun o =>
 Sum.elim
 (fun (x_1 :
 Bool × List UInt8 × List UInt8 × List T96D × List T48D × List T48D × Unit) =>
 bif !x_1.fst then
 some ((0, [], [], [], 0, 0, 0, [], [], [], 0, 0, 0, false, [], [], [], ()), false, ())
 else
 Option.bind
 (F16
 ((x.snd.snd.fst.fst, x_1.snd.fst, x_1.snd.snd.fst, x.snd.snd.fst.snd.snd.snd.fst,
 x.snd.snd.fst.snd.snd.snd.snd.fst, x.snd.snd.fst.snd.snd.snd.snd.snd.fst,
 x.snd.snd.fst.snd.snd.snd.snd.snd.snd.fst, x_1.snd.snd.snd.fst, x_1.snd.snd.snd.snd.fst,
 x_1.snd.snd.snd.snd.snd.fst, x.snd.snd.fst.snd.snd.snd.snd.snd.snd.snd.snd.snd.snd),
 ()))
 fun b =>
 bif !b.fst then
 some
 ((0, [], [], [], 0, 0, 0, [], [], [], 0, 0, 0, false, [], [], [], ()), false, ())
 else
 some
 ((x.snd.snd.fst.fst, x_1.snd.fst, x_1.snd.snd.fst, x.snd.snd.fst.snd.snd.snd.fst,
 x.snd.snd.fst.snd.snd.snd.snd.fst, x.snd.snd.fst.snd.snd.snd.snd.snd.fst,
 x.snd.snd.fst.snd.snd.snd.snd.snd.snd.fst, x_1.snd.snd.snd.fst, x_1.snd.snd.snd.snd.fst,
 x_1.snd.snd.snd.snd.snd.fst, x.snd.snd.fst.snd.snd.snd.snd.snd.snd.snd.snd.snd.snd),
 true, ()))
 (fun (val :
 (Int × List UInt8 × List UInt8 × List UInt8 × Int × Int × Int × List T96D × List T48D × List T48D × Int × Int × Int × Bool × List
 T70D × List
 (Int × Int × (Int × Int × Bool × Int × List
 T70D × Y42D) × Unit) × List T113D × Unit) × Bool × Unit) =>
 some val)
 o
def S6 : Sig := ⟨P6, R6, F6⟩
noncomputable def E6 : Env := { tab := tab, nt := 83, Γ := lookG [(16, [S16]), (17, [S17]), (18, [S18]), (19, [S19])], joins := lookN [(14, ⟨[⟨.slot 8, .bool, .pv⟩, ⟨.fld 1000 1, .str, .pv⟩, ⟨.fld 1000 2, .str, .pv⟩, ⟨.fld 1000 7, (.slice T96), .pv⟩, ⟨.fld 1000 8, (.slice T48), .pv⟩, ⟨.fld 1000 9, (.slice T48), .pv⟩], [5, 6], [.site 2000, .fld 2000 0, .fld 2000 1, .fld 2000 2, .fld 2000 3, .fld 2000 4, .fld 2000 5, .fld 2000 6, .fld 2000 7, .fld 2000 8, .fld 2000 9, .fld 2000 10, .fld 2000 11, .fld 2000 12, .fld 2000 13, .fld 2000 14, .fld 2000 15, .fld 2000 16, .site 1000, .fld 1000 0, .fld 1000 3, .fld 1000 4, .fld 1000 5, .fld 1000 6, .fld 1000 10, .fld 1000 11, .fld 1000 12, .fld 1000 13, .fld 1000 14, .fld 1000 15, .fld 1000 16]⟩)], loops := lookN [] }
theorem raw6_eq (x : List UInt8 × List UInt8 × T28D × Unit) : afun E6 Tryz.f6 P6 R6 x = F6 x := by kernel_rfl
-- decamp/decampref17.bare
def F27 (x : T28D × Unit) : Option (Bool × Unit) := let o : Bool → Bool → Option (Bool × Unit) → Option (Bool × Unit) := (fun (p q : Bool) (r : Option (Bool × Unit)) => bif p then r else bif q then r else some (false, ()))
  
  ((o (decide (x.1.1 = 1) || decide (x.1.1 = 2) || decide (x.1.1 = 10) || decide (x.1.1 = 12) || decide (x.1.1 = 13)) (decide (x.1.2.1 = []))) 
  ((o (decide (x.1.1 = 2) || decide (x.1.1 = 12) || decide (x.1.1 = 13)) (decide (x.1.2.2.1 = []))) 
  ((o (decide (x.1.1 = 1)) (decide (x.1.2.2.2.1 = []))) 
  ((o (decide (x.1.1 = 1) || decide (x.1.1 = 5) || decide (x.1.1 = 6) || decide (x.1.1 = 7) || decide (x.1.1 = 9)) (decide (x.1.2.2.2.2.1 = 0))) 
  ((o (decide (x.1.1 = 5)) (decide (x.1.2.2.2.2.2.1 = 0))) 
  ((o (decide (x.1.1 = 4) || decide (x.1.1 = 12) || decide (x.1.1 = 14) || decide (x.1.1 = 15)) (decide (x.1.2.2.2.2.2.2.1 = 0))) 
  ((o (decide (x.1.1 = 3)) (decide (wrap64 (wrap64 (Int.ofNat (List.length x.1.2.2.2.2.2.2.2.1) + Int.ofNat (List.length x.1.2.2.2.2.2.2.2.2.1)) + Int.ofNat (List.length x.1.2.2.2.2.2.2.2.2.2.1)) = 0))) 
  ((o (decide (10 ≤ x.1.1)) (decide (x.1.2.2.2.2.2.2.2.2.2.2.1 = 0))) 
  ((fun r => bif decide (12 ≤ x.1.1) then (o (decide (x.1.1 ≤ 15)) (decide (x.1.2.2.2.2.2.2.2.2.2.2.2.1 = 0)) r) else (o false (decide (x.1.2.2.2.2.2.2.2.2.2.2.2.1 = 0)) r)) 
  ((o (decide (x.1.1 = 14)) (decide (x.1.2.2.2.2.2.2.2.2.2.2.2.2.1 = 0))) 
  ((o (decide (x.1.1 = 13)) (!x.1.2.2.2.2.2.2.2.2.2.2.2.2.2.1)) 
  ((o (decide (x.1.1 = 13) || decide (x.1.1 = 14)) (decide (Int.ofNat (List.length x.1.2.2.2.2.2.2.2.2.2.2.2.2.2.2.1) = 0))) (bif decide (x.1.1 = 15) then some (true, ()) else some (decide (wrap64 (Int.ofNat (List.length x.1.2.2.2.2.2.2.2.2.2.2.2.2.2.2.2.1) + Int.ofNat (List.length x.1.2.2.2.2.2.2.2.2.2.2.2.2.2.2.2.2.1)) = 0), ()))))))))))))))
def S27 : Sig := ⟨P27, R27, F27⟩
noncomputable def E27 : Env := { tab := tab, nt := 204, Γ := lookG [], joins := lookN [(3, ⟨[⟨.slot 4, .bool, .pv⟩], [1, 3], [.site 1000, .fld 1000 0, .fld 1000 1, .fld 1000 2, .fld 1000 3, .fld 1000 4, .fld 1000 5, .fld 1000 6, .fld 1000 7, .fld 1000 8, .fld 1000 9, .fld 1000 10, .fld 1000 11, .fld 1000 12, .fld 1000 13, .fld 1000 14, .fld 1000 15, .fld 1000 16]⟩), (4, ⟨[⟨.slot 5, .bool, .pv⟩], [1, 3, 4], [.site 1000, .fld 1000 0, .fld 1000 1, .fld 1000 2, .fld 1000 3, .fld 1000 4, .fld 1000 5, .fld 1000 6, .fld 1000 7, .fld 1000 8, .fld 1000 9, .fld 1000 10, .fld 1000 11, .fld 1000 12, .fld 1000 13, .fld 1000 14, .fld 1000 15, .fld 1000 16]⟩), (5, ⟨[⟨.slot 6, .bool, .pv⟩], [1, 3, 4, 5], [.site 1000, .fld 1000 0, .fld 1000 1, .fld 1000 2, .fld 1000 3, .fld 1000 4, .fld 1000 5, .fld 1000 6, .fld 1000 7, .fld 1000 8, .fld 1000 9, .fld 1000 10, .fld 1000 11, .fld 1000 12, .fld 1000 13, .fld 1000 14, .fld 1000 15, .fld 1000 16]⟩), (6, ⟨[⟨.slot 7, .bool, .pv⟩], [1, 3, 4, 5, 6], [.site 1000, .fld 1000 0, .fld 1000 1, .fld 1000 2, .fld 1000 3, .fld 1000 4, .fld 1000 5, .fld 1000 6, .fld 1000 7, .fld 1000 8, .fld 1000 9, .fld 1000 10, .fld 1000 11, .fld 1000 12, .fld 1000 13, .fld 1000 14, .fld 1000 15, .fld 1000 16]⟩)], loops := lookN [] }
-- decamp/decampref17.within
def F34 (x : Int × Int × Int × Unit) : Option (Bool × Unit) :=
 bif decide (x.snd.fst ≤ x.fst) then some (decide (x.fst ≤ x.snd.snd.fst), ()) else some (false, ())
def S34 : Sig := ⟨P34, R34, F34⟩
noncomputable def E34 : Env := { tab := tab, nt := 15, Γ := lookG [], joins := lookN [], loops := lookN [] }
theorem raw34_eq (x : Int × Int × Int × Unit) : afun E34 Tryz.f34 P34 R34 x = F34 x := by kernel_rfl
-- decamp/decampref17.one
def F28 (x : Int × Unit) : Option (Bool × Unit) := Option.bind (F34 (x.fst, 1, 1099511627776, ())) fun b => some b
def S28 : Sig := ⟨P28, R28, F28⟩
noncomputable def E28 : Env := { tab := tab, nt := 5, Γ := lookG [(34, [S34])], joins := lookN [], loops := lookN [] }
theorem raw28_eq (x : Int × Unit) : afun E28 Tryz.f28 P28 R28 x = F28 x := by kernel_rfl
-- decamp/decampref15.text
def F58 (x : List UInt8 × UInt8 × Unit) : Option (Bool × Unit) :=
 iterE (Int × Unit) (Bool × Unit)
 (fun (x_1 : Int × Unit) =>
 bif decide (x_1.fst < Int.ofNat (List.length x.fst)) then
 Option.bind (idx x.fst x_1.fst) fun b =>
 bif decide (intOf8 b < intOf8 (UInt8.ofNat 33)) then some (Sum.inr (false, ()))
 else
 Option.bind (idx x.fst x_1.fst) fun b =>
 bif decide (intOf8 x.snd.fst < intOf8 b) then some (Sum.inr (false, ()))
 else some (Sum.inl (wrap64 (x_1.fst + 1), ()))
 else
 Option.map Sum.inr
 (bif decide (1 ≤ Int.ofNat (List.length x.fst)) then
 some (decide (Int.ofNat (List.length x.fst) ≤ 32), ())
 else some (false, ())))
 big (0, ())
def S58 : Sig := ⟨P58, R58, F58⟩
noncomputable def E58 : Env := { tab := tab, nt := 31, Γ := lookG [], joins := lookN [], loops := lookN [(2, mkLoop ⟨[⟨.slot 8, (.int .i64), .pv⟩], [0, 1, 7], []⟩)] }
theorem raw58_eq (x : List UInt8 × UInt8 × Unit) : afun E58 Tryz.f58 P58 R58 x = F58 x := by kernel_rfl
-- decamp/decampref15.Key
def F29 (x : List UInt8 × Unit) : Option (Bool × Unit) := Option.bind (F58 (x.fst, UInt8.ofNat 126, ())) fun b => some b
def S29 : Sig := ⟨P29, R29, F29⟩
noncomputable def E29 : Env := { tab := tab, nt := 5, Γ := lookG [(58, [S58])], joins := lookN [], loops := lookN [] }
theorem raw29_eq (x : List UInt8 × Unit) : afun E29 Tryz.f29 P29 R29 x = F29 x := by kernel_rfl
-- decamp/decampref17.natural
def F30 (x : Int × Unit) : Option (Bool × Unit) := Option.bind (F34 (x.fst, 0, 1099511627776, ())) fun b => some b
def S30 : Sig := ⟨P30, R30, F30⟩
noncomputable def E30 : Env := { tab := tab, nt := 5, Γ := lookG [(34, [S34])], joins := lookN [], loops := lookN [] }
theorem raw30_eq (x : Int × Unit) : afun E30 Tryz.f30 P30 R30 x = F30 x := by kernel_rfl
-- decamp/decampref15.Range
def F31 (x : List UInt8 × List UInt8 × Unit) : Option (Bool × Unit) :=
 Option.bind (F29 (x.fst, ())) fun b =>
 bif b.fst then
 bif decide (Int.ofNat (List.length x.snd.fst) = 0) then some (true, ())
 else
 Option.bind (F58 (x.snd.fst, UInt8.ofNat 127, ())) fun b =>
 bif b.fst then some (strlt x.fst x.snd.fst, ()) else some (false, ())
 else some (false, ())
def S31 : Sig := ⟨P31, R31, F31⟩
noncomputable def E31 : Env := { tab := tab, nt := 21, Γ := lookG [(29, [S29]), (58, [S58])], joins := lookN [], loops := lookN [] }
theorem raw31_eq (x : List UInt8 × List UInt8 × Unit) : afun E31 Tryz.f31 P31 R31 x = F31 x := by kernel_rfl
-- decamp/decampref17.cmps
def F32 (x : List T96D × Unit) : Option (Bool × Unit) :=
 iterE (Int × Unit) (Bool × Unit)
 (fun (x_1 : Int × Unit) =>
 bif decide (x_1.fst < Int.ofNat (List.length x.fst)) then
 Option.bind (idx x.fst x_1.fst) fun b =>
 Option.bind
 (bif decide (1 ≤ b.snd.fst) then
 bif decide (b.snd.fst ≤ 4) then
 bif decide (Int.ofNat (List.length b.snd.snd.snd.snd.fst) = 0) then
 Option.bind (F34 (b.snd.snd.snd.fst, -1099511627776, 1099511627776, ()))
 fun b => some (Sum.inl b)
 else some (Sum.inl (false, ()))
 else some (Sum.inl (false, ()))
 else some (Sum.inl (false, ())))
 fun o =>
 Sum.elim
 (fun (x : Bool × Unit) =>
 Option.bind
 (bif decide (b.snd.fst = 5) then
 bif decide (b.snd.snd.snd.fst = 0) then
 some (Sum.inl (decide (Int.ofNat (List.length b.snd.snd.snd.snd.fst) ≤ 40), ()))
 else some (Sum.inl (false, ()))
 else some (Sum.inl (false, ())))
 fun o =>
 Sum.elim
 (fun (x_2 : Bool × Unit) =>
 Option.bind (F29 (b.fst, ())) fun b_1 =>
 bif !b_1.fst then some (Sum.inr (false, ()))
 else
 Option.bind (F34 (b.snd.snd.fst, 0, 2, ())) fun b =>
 bif !b.fst then some (Sum.inr (false, ()))
 else
 bif !x.fst then
 bif !x_2.fst then some (Sum.inr (false, ()))
 else some (Sum.inl (wrap64 (x_1.fst + 1), ()))
 else some (Sum.inl (wrap64 (x_1.fst + 1), ())))
 (fun (val : Int × Unit ⊕ Bool × Unit) => some val) o)
 (fun (val : Int × Unit ⊕ Bool × Unit) => some val) o
 else some (Sum.inr (decide (Int.ofNat (List.length x.fst) ≤ 4), ())))
 big (0, ())
def S32 : Sig := ⟨P32, R32, F32⟩
noncomputable def E32 : Env := { tab := tab, nt := 71, Γ := lookG [(29, [S29]), (34, [S34])], joins := lookN [(6, ⟨[⟨.slot 5, .bool, .pv⟩], [0, 4, 8, 9], [.site 4005000, .fld 4005000 0, .fld 4005000 1, .fld 4005000 2, .fld 4005000 3, .fld 4005000 4]⟩), (7, ⟨[⟨.slot 6, .bool, .pv⟩], [0, 4, 5, 8, 9], [.site 4005000, .fld 4005000 0, .fld 4005000 1, .fld 4005000 2, .fld 4005000 3, .fld 4005000 4]⟩)], loops := lookN [(2, mkLoop ⟨[⟨.slot 9, (.int .i64), .pv⟩], [0, 8], []⟩)] }
theorem raw32_eq (x : List T96D × Unit) : afun E32 Tryz.f32 P32 R32 x = F32 x := by kernel_rfl
-- decamp/decampref17.op
def F59 (x : T48D × Unit) : Option (Bool × Unit) :=
 bif decide (x.fst.fst = 1) then
 bif decide (Int.ofNat (List.length x.fst.snd.snd.fst) = 0) then
 Option.bind (F29 (x.fst.snd.fst, ())) fun b =>
 bif b.fst then
 bif decide (Int.ofNat (List.length x.fst.snd.snd.snd.fst) ≤ 40) then
 Option.bind (F30 x.fst.snd.snd.snd.snd) fun b => some b
 else some (false, ())
 else some (false, ())
 else some (false, ())
 else
 bif decide (x.fst.fst = 2) then
 bif decide (Int.ofNat (List.length x.fst.snd.snd.snd.fst) = 0) then
 bif decide (x.fst.snd.snd.snd.snd.fst = 0) then
 Option.bind (F31 (x.fst.snd.fst, x.fst.snd.snd.fst, ())) fun b => some b
 else some (false, ())
 else some (false, ())
 else
 bif decide (x.fst.fst = 3) then
 bif decide (Int.ofNat (List.length x.fst.snd.snd.snd.fst) = 0) then
 bif decide (x.fst.snd.snd.snd.snd.fst = 0) then
 Option.bind (F31 (x.fst.snd.fst, x.fst.snd.snd.fst, ())) fun b => some b
 else some (false, ())
 else some (false, ())
 else some (false, ())
def S59 : Sig := ⟨P59, R59, F59⟩
noncomputable def E59 : Env := { tab := tab, nt := 52, Γ := lookG [(29, [S29]), (30, [S30]), (31, [S31])], joins := lookN [], loops := lookN [] }
theorem raw59_eq (x : T48D × Unit) : afun E59 Tryz.f59 P59 R59 x = F59 x := by kernel_rfl
-- decamp/decampref15.In
def F79 (x : List UInt8 × List UInt8 × List UInt8 × Unit) : Option (Bool × Unit) :=
 Option.bind (F31 (x.fst, x.snd.fst, ())) fun b =>
 bif !b.fst then some (false, ())
 else
 Option.bind (F29 x.snd.snd) fun b =>
 bif !b.fst then some (false, ())
 else
 bif decide (Int.ofNat (List.length x.snd.fst) = 0) then some (decide (x.snd.snd.fst = x.fst), ())
 else
 bif !strlt x.snd.snd.fst x.fst then some (strlt x.snd.snd.fst x.snd.fst, ())
 else some (false, ())
def S79 : Sig := ⟨P79, R79, F79⟩
noncomputable def E79 : Env := { tab := tab, nt := 30, Γ := lookG [(29, [S29]), (31, [S31])], joins := lookN [], loops := lookN [] }
theorem raw79_eq (x : List UInt8 × List UInt8 × List UInt8 × Unit) : afun E79 Tryz.f79 P79 R79 x = F79 x := by kernel_rfl
-- decamp/decampref17.meet
def F60 (x : T48D × T48D × Unit) : Option (Bool × Unit) :=
 bif decide (x.fst.fst = 3) then some (false, ())
 else
 bif decide (x.snd.fst.fst = 3) then some (false, ())
 else
 Option.bind (F79 (x.fst.snd.fst, x.fst.snd.snd.fst, x.snd.fst.snd.fst, ())) fun b =>
 bif b.fst then some (true, ())
 else
 Option.bind (F79 (x.snd.fst.snd.fst, x.snd.fst.snd.snd.fst, x.fst.snd.fst, ()))
 fun b => some b
def S60 : Sig := ⟨P60, R60, F60⟩
noncomputable def E60 : Env := { tab := tab, nt := 29, Γ := lookG [(79, [S79])], joins := lookN [], loops := lookN [] }
theorem raw60_eq (x : T48D × T48D × Unit) : afun E60 Tryz.f60 P60 R60 x = F60 x := by kernel_rfl
-- decamp/decampref17.ops
def F33 (x : List T48D × Unit) : Option (Bool × Unit) :=
 iterE (Int × Unit) (Bool × Unit)
 (fun (x_1 : Int × Unit) =>
 bif decide (x_1.fst < Int.ofNat (List.length x.fst)) then
 Option.bind (idx x.fst x_1.fst) fun b =>
 Option.bind (F59 (b, ())) fun b =>
 bif !b.fst then some (Sum.inr (false, ()))
 else
 iterE (Int × Unit) (Int × Unit ⊕ Bool × Unit)
 (fun (x_2 : Int × Unit) =>
 bif decide (x_2.fst < x_1.fst) then
 Option.bind (idx x.fst x_2.fst)
 fun b =>
 Option.bind (idx x.fst x_1.fst)
 fun b_1 =>
 Option.bind (F60 (b, b_1, ())) fun b =>
 bif b.fst then some (Sum.inr (Sum.inr (false, ())))
 else some (Sum.inl (wrap64 (x_2.fst + 1), ()))
 else some (Sum.inr (Sum.inl (wrap64 (x_1.fst + 1), ()))))
 big (0, ())
 else some (Sum.inr (decide (Int.ofNat (List.length x.fst) ≤ 4), ())))
 big (0, ())
def S33 : Sig := ⟨P33, R33, F33⟩
noncomputable def E33 : Env := { tab := tab, nt := 34, Γ := lookG [(59, [S59]), (60, [S60])], joins := lookN [], loops := lookN [(2, mkLoop ⟨[⟨.slot 7, (.int .i64), .pv⟩], [0, 6], []⟩), (7, mkLoop ⟨[⟨.slot 17, (.int .i64), .pv⟩], [0, 3, 6, 7, 16], []⟩)] }
theorem raw33_eq (x : List T48D × Unit) : afun E33 Tryz.f33 P33 R33 x = F33 x := by kernel_rfl
-- decamp/decampref17.Prefix
def F35 (x : List UInt8 × Unit) : Option (Bool × Unit) :=
 bif decide (Int.ofNat (List.length x.fst) ≤ 8) then Option.bind (F29 x) fun b => some b
 else some (false, ())
def S35 : Sig := ⟨P35, R35, F35⟩
noncomputable def E35 : Env := { tab := tab, nt := 10, Γ := lookG [(29, [S29])], joins := lookN [], loops := lookN [] }
theorem raw35_eq (x : List UInt8 × Unit) : afun E35 Tryz.f35 P35 R35 x = F35 x := by kernel_rfl
-- decamp/decampref14.Ver
def F61 (x : T66D × Unit) : Option (Bool × Unit) :=
 bif decide (x.fst.fst < 1) then some (false, ())
 else
 bif decide (1099511627776 < x.fst.fst) then some (false, ())
 else
 bif decide (x.fst.snd.snd.fst < 1) then some (false, ())
 else
 bif decide (1099511627776 < x.fst.snd.snd.fst) then some (false, ())
 else
 bif x.fst.snd.snd.snd.snd.snd.snd.fst then
 bif decide (x.fst.snd.fst = 0) then
 bif decide (x.fst.snd.snd.snd.fst = 0) then
 bif decide (x.fst.snd.snd.snd.snd.snd.fst = 0) then
 some (decide (Int.ofNat (List.length x.fst.snd.snd.snd.snd.fst) = 0), ())
 else some (false, ())
 else some (false, ())
 else some (false, ())
 else
 bif decide (1 ≤ x.fst.snd.fst) then
 bif decide (x.fst.snd.fst ≤ x.fst.snd.snd.fst) then
 bif decide (1 ≤ x.fst.snd.snd.snd.fst) then
 bif decide (x.fst.snd.snd.snd.fst ≤ 1099511627776) then
 bif decide (Int.ofNat (List.length x.fst.snd.snd.snd.snd.fst) ≤ 40) then
 bif decide (-1099511627776 ≤ x.fst.snd.snd.snd.snd.snd.fst) then
 some (decide (x.fst.snd.snd.snd.snd.snd.fst ≤ 1099511627776), ())
 else some (false, ())
 else some (false, ())
 else some (false, ())
 else some (false, ())
 else some (false, ())
 else some (false, ())
def S61 : Sig := ⟨P61, R61, F61⟩
noncomputable def E61 : Env := { tab := tab, nt := 78, Γ := lookG [], joins := lookN [], loops := lookN [] }
theorem raw61_eq (x : T66D × Unit) : afun E61 Tryz.f61 P61 R61 x = F61 x := by kernel_rfl
-- decamp/decampref17.page
def F36 (x : T28D × Unit) : Option (Bool × Unit) :=
 iterE (Int × Unit) (Bool × Unit)
 (fun (x_1 : Int × Unit) =>
 bif
 decide
 (x_1.fst < Int.ofNat (List.length x.fst.snd.snd.snd.snd.snd.snd.snd.snd.snd.snd.snd.snd.snd.snd.fst)) then
 Option.bind (idx x.fst.snd.snd.snd.snd.snd.snd.snd.snd.snd.snd.snd.snd.snd.snd.fst x_1.fst)
 fun b =>
 Option.bind (F29 (b.fst, ())) fun b_1 =>
 bif !b_1.fst then some (Sum.inr (false, ()))
 else
 Option.bind (F61 b.snd) fun b_2 =>
 bif !b_2.fst then some (Sum.inr (false, ()))
 else
 bif b.snd.fst.snd.snd.snd.snd.snd.snd.fst then some (Sum.inr (false, ()))
 else
 bif decide (0 < x_1.fst) then
 Option.bind
 (idx x.fst.snd.snd.snd.snd.snd.snd.snd.snd.snd.snd.snd.snd.snd.snd.fst
 (wrap64 (x_1.fst - 1)))
 fun b_3 =>
 bif !strlt b_3.fst b.fst then some (Sum.inr (false, ()))
 else some (Sum.inl (wrap64 (x_1.fst + 1), ()))
 else some (Sum.inl (wrap64 (x_1.fst + 1), ()))
 else
 Option.map Sum.inr
 (bif decide (x.fst.snd.fst = []) then
 bif decide (x.fst.snd.snd.fst = []) then
 some
 (decide (Int.ofNat (List.length x.fst.snd.snd.snd.snd.snd.snd.snd.snd.snd.snd.snd.snd.snd.snd.fst) ≤ 8),
 ())
 else
 Option.bind (F29 (x.fst.snd.snd.fst, ())) fun b =>
 bif b.fst then
 some
 (decide
 (Int.ofNat (List.length x.fst.snd.snd.snd.snd.snd.snd.snd.snd.snd.snd.snd.snd.snd.snd.fst) ≤ 8),
 ())
 else some (false, ())
 else
 Option.bind (F29 (x.fst.snd.fst, ())) fun b =>
 bif b.fst then
 bif decide (x.fst.snd.snd.fst = []) then
 some
 (decide
 (Int.ofNat (List.length x.fst.snd.snd.snd.snd.snd.snd.snd.snd.snd.snd.snd.snd.snd.snd.fst) ≤ 8),
 ())
 else
 Option.bind (F29 (x.fst.snd.snd.fst, ())) fun b =>
 bif b.fst then
 some
 (decide
 (Int.ofNat (List.length x.fst.snd.snd.snd.snd.snd.snd.snd.snd.snd.snd.snd.snd.snd.snd.fst) ≤
 8),
 ())
 else some (false, ())
 else some (false, ())))
 big (0, ())
def S36 : Sig := ⟨P36, R36, F36⟩
noncomputable def E36 : Env := { tab := tab, nt := 72, Γ := lookG [(29, [S29]), (61, [S61])], joins := lookN [], loops := lookN [(2, mkLoop ⟨[⟨.slot 8, (.int .i64), .pv⟩], [1, 7], [.site 1000, .fld 1000 0, .fld 1000 1, .fld 1000 2, .fld 1000 3, .fld 1000 4, .fld 1000 5, .fld 1000 6, .fld 1000 7, .fld 1000 8, .fld 1000 9, .fld 1000 10, .fld 1000 11, .fld 1000 12, .fld 1000 13, .fld 1000 14, .fld 1000 15, .fld 1000 16]⟩)] }
theorem raw36_eq (x : T28D × Unit) : afun E36 Tryz.f36 P36 R36 x = F36 x := by kernel_rfl
-- decamp/decampref17.tail
def F37 (x : T28D × Unit) : Option (Bool × Unit) :=
 iterE (Int × Unit) (Bool × Unit)
 (fun (x_1 : Int × Unit) =>
 bif
 decide
 (x_1.fst < Int.ofNat (List.length x.fst.snd.snd.snd.snd.snd.snd.snd.snd.snd.snd.snd.snd.snd.snd.fst)) then
 Option.bind (idx x.fst.snd.snd.snd.snd.snd.snd.snd.snd.snd.snd.snd.snd.snd.snd.fst x_1.fst)
 fun b =>
 Option.bind (F29 (b.fst, ())) fun b_1 =>
 bif !b_1.fst then some (Sum.inr (false, ()))
 else
 Option.bind (F61 b.snd) fun b_2 =>
 bif !b_2.fst then some (Sum.inr (false, ()))
 else
 bif decide (b.snd.fst.fst ≤ x.fst.snd.snd.snd.snd.snd.snd.fst) then some (Sum.inr (false, ()))
 else
 bif decide (x.fst.snd.snd.snd.snd.snd.snd.snd.snd.snd.snd.snd.snd.fst < b.snd.fst.fst) then
 some (Sum.inr (false, ()))
 else
 bif decide (0 < x_1.fst) then
 Option.bind
 (idx x.fst.snd.snd.snd.snd.snd.snd.snd.snd.snd.snd.snd.snd.snd.snd.fst
 (wrap64 (x_1.fst - 1)))
 fun b_3 =>
 bif decide (b.snd.fst.fst < b_3.snd.fst.fst) then some (Sum.inr (false, ()))
 else
 Option.bind
 (idx x.fst.snd.snd.snd.snd.snd.snd.snd.snd.snd.snd.snd.snd.snd.snd.fst
 (wrap64 (x_1.fst - 1)))
 fun b_4 =>
 bif decide (b_4.snd.fst.fst = b.snd.fst.fst) then
 Option.bind
 (idx x.fst.snd.snd.snd.snd.snd.snd.snd.snd.snd.snd.snd.snd.snd.snd.fst
 (wrap64 (x_1.fst - 1)))
 fun b_5 =>
 bif !strlt b_5.fst b.fst then some (Sum.inr (false, ()))
 else some (Sum.inl (wrap64 (x_1.fst + 1), ()))
 else some (Sum.inl (wrap64 (x_1.fst + 1), ()))
 else some (Sum.inl (wrap64 (x_1.fst + 1), ()))
 else
 Option.map Sum.inr
 (Option.bind (F28 (x.fst.snd.snd.snd.snd.snd.snd.fst, ())) fun b =>
 bif b.fst then
 Option.bind (F28 (x.fst.snd.snd.snd.snd.snd.snd.snd.snd.snd.snd.snd.snd.fst, ()))
 fun b =>
 bif b.fst then
 bif
 decide
 (x.fst.snd.snd.snd.snd.snd.snd.fst <
 x.fst.snd.snd.snd.snd.snd.snd.snd.snd.snd.snd.snd.snd.fst) then
 some
 (decide
 (Int.ofNat (List.length x.fst.snd.snd.snd.snd.snd.snd.snd.snd.snd.snd.snd.snd.snd.snd.fst) ≤
 64),
 ())
 else some (false, ())
 else some (false, ())
 else some (false, ())))
 big (0, ())
def S37 : Sig := ⟨P37, R37, F37⟩
noncomputable def E37 : Env := { tab := tab, nt := 106, Γ := lookG [(28, [S28]), (29, [S29]), (61, [S61])], joins := lookN [], loops := lookN [(2, mkLoop ⟨[⟨.slot 8, (.int .i64), .pv⟩], [1, 7], [.site 1000, .fld 1000 0, .fld 1000 1, .fld 1000 2, .fld 1000 3, .fld 1000 4, .fld 1000 5, .fld 1000 6, .fld 1000 7, .fld 1000 8, .fld 1000 9, .fld 1000 10, .fld 1000 11, .fld 1000 12, .fld 1000 13, .fld 1000 14, .fld 1000 15, .fld 1000 16]⟩)] }
theorem raw37_eq (x : T28D × Unit) : afun E37 Tryz.f37 P37 R37 x = F37 x := by kernel_rfl
-- decamp/decampref17.Reply
def F62 (x : T51D × Unit) : Option (Bool × Unit) :=
 iterE (Int × Unit) (Bool × Unit)
 (fun (x_1 : Int × Unit) =>
 bif decide (x_1.fst < Int.ofNat (List.length x.fst.snd.snd.snd.snd.fst)) then
 Option.bind (idx x.fst.snd.snd.snd.snd.fst x_1.fst)
 fun b =>
 Option.bind (F29 (b.fst, ())) fun b =>
 bif !b.fst then some (Sum.inr (false, ()))
 else
 Option.bind (idx x.fst.snd.snd.snd.snd.fst x_1.fst)
 fun b =>
 Option.bind (F61 b.snd) fun b =>
 bif !b.fst then some (Sum.inr (false, ()))
 else some (Sum.inl (wrap64 (x_1.fst + 1), ()))
 else
 Option.map Sum.inr
 (Option.bind (F34 (x.fst.fst, 0, 15, ())) fun b =>
 bif b.fst then
 Option.bind (F30 (x.fst.snd.fst, ())) fun b =>
 bif b.fst then
 Option.bind (F30 (x.fst.snd.snd.snd.fst, ())) fun b =>
 bif b.fst then
 Option.bind (F30 x.fst.snd.snd.snd.snd.snd.snd) fun b =>
 bif b.fst then
 Option.bind (F34 (x.fst.snd.snd.snd.snd.snd.fst, 0, 1, ())) fun b =>
 bif b.fst then
 some (decide (Int.ofNat (List.length x.fst.snd.snd.snd.snd.fst) ≤ 8), ())
 else some (false, ())
 else some (false, ())
 else some (false, ())
 else some (false, ())
 else some (false, ())))
 big (0, ())
def S62 : Sig := ⟨P62, R62, F62⟩
noncomputable def E62 : Env := { tab := tab, nt := 58, Γ := lookG [(29, [S29]), (30, [S30]), (34, [S34]), (61, [S61])], joins := lookN [], loops := lookN [(2, mkLoop ⟨[⟨.slot 7, (.int .i64), .pv⟩], [1, 6], [.site 1000, .fld 1000 0, .fld 1000 1, .fld 1000 2, .fld 1000 3, .fld 1000 4, .fld 1000 5, .fld 1000 6]⟩)] }
theorem raw62_eq (x : T51D × Unit) : afun E62 Tryz.f62 P62 R62 x = F62 x := by kernel_rfl
-- decamp/decampref17.Sess
def F38 (x : List T94D × Int × Unit) : Option (Bool × Unit) :=
 iterE (Int × Unit) (Bool × Unit)
 (fun (x_1 : Int × Unit) =>
 bif decide (x_1.fst < Int.ofNat (List.length x.fst)) then
 Option.bind (idx x.fst x_1.fst)
 fun b =>
 Option.bind (F34 (b.fst, 1, x.snd)) fun b =>
 bif !b.fst then some (Sum.inr (false, ()))
 else
 Option.bind (idx x.fst x_1.fst)
 fun b =>
 Option.bind (F28 (b.snd.fst, ())) fun b =>
 bif !b.fst then some (Sum.inr (false, ()))
 else
 Option.bind (idx x.fst x_1.fst)
 fun b =>
 Option.bind (F62 b.snd.snd) fun b =>
 bif !b.fst then some (Sum.inr (false, ()))
 else
 bif decide (0 < x_1.fst) then
 Option.bind (idx x.fst (wrap64 (x_1.fst - 1)))
 fun b =>
 Option.bind (idx x.fst x_1.fst)
 fun b_1 =>
 bif decide (b_1.fst ≤ b.fst) then some (Sum.inr (false, ()))
 else some (Sum.inl (wrap64 (x_1.fst + 1), ()))
 else some (Sum.inl (wrap64 (x_1.fst + 1), ()))
 else some (Sum.inr (true, ())))
 big (0, ())
def S38 : Sig := ⟨P38, R38, F38⟩
noncomputable def E38 : Env := { tab := tab, nt := 56, Γ := lookG [(28, [S28]), (34, [S34]), (62, [S62])], joins := lookN [], loops := lookN [(2, mkLoop ⟨[⟨.slot 8, (.int .i64), .pv⟩], [0, 1, 7], []⟩)] }
theorem raw38_eq (x : List T94D × Int × Unit) : afun E38 Tryz.f38 P38 R38 x = F38 x := by kernel_rfl
-- decamp/decampref17.leases
def F39 (x : List T113D × Unit) : Option (Bool × Unit) :=
 iterE (Int × Unit) (Bool × Unit)
 (fun (x_1 : Int × Unit) =>
 bif decide (x_1.fst < Int.ofNat (List.length x.fst)) then
 Option.bind (idx x.fst x_1.fst) fun b =>
 Option.bind (F28 (b.fst, ())) fun b =>
 bif !b.fst then some (Sum.inr (false, ()))
 else
 Option.bind (idx x.fst x_1.fst) fun b =>
 Option.bind (F34 (b.snd.fst, 1, 1000, ())) fun b =>
 bif !b.fst then some (Sum.inr (false, ()))
 else
 Option.bind (idx x.fst x_1.fst) fun b =>
 Option.bind (F34 (b.snd.snd.fst, 0, 1000, ())) fun b =>
 bif !b.fst then some (Sum.inr (false, ()))
 else
 bif decide (0 < x_1.fst) then
 Option.bind (idx x.fst (wrap64 (x_1.fst - 1)))
 fun b =>
 Option.bind (idx x.fst x_1.fst) fun b_1 =>
 bif decide (b_1.fst ≤ b.fst) then some (Sum.inr (false, ()))
 else some (Sum.inl (wrap64 (x_1.fst + 1), ()))
 else some (Sum.inl (wrap64 (x_1.fst + 1), ()))
 else some (Sum.inr (decide (Int.ofNat (List.length x.fst) ≤ 64), ())))
 big (0, ())
def S39 : Sig := ⟨P39, R39, F39⟩
noncomputable def E39 : Env := { tab := tab, nt := 56, Γ := lookG [(28, [S28]), (34, [S34])], joins := lookN [], loops := lookN [(2, mkLoop ⟨[⟨.slot 6, (.int .i64), .pv⟩], [0, 5], []⟩)] }
theorem raw39_eq (x : List T113D × Unit) : afun E39 Tryz.f39 P39 R39 x = F39 x := by kernel_rfl
-- decamp/decampref17.Right
def F9 (x : T28D × Unit) : Option (Bool × Unit) :=
 Option.bind
 (Option.bind (F27 x) fun b =>
 bif !b.fst then some (Sum.inr (false, ()))
 else
 bif decide (10 ≤ x.fst.fst) then
 Option.bind (F28 (x.fst.snd.snd.snd.snd.snd.snd.snd.snd.snd.snd.fst, ())) fun b =>
 bif !b.fst then some (Sum.inr (false, ()))
 else
 bif decide (12 ≤ x.fst.fst) then
 bif decide (x.fst.fst ≤ 15) then
 Option.bind (F28 (x.fst.snd.snd.snd.snd.snd.snd.snd.snd.snd.snd.snd.fst, ()))
 fun b =>
 bif !b.fst then some (Sum.inr (false, ())) else some (Sum.inl ())
 else some (Sum.inl ())
 else some (Sum.inl ())
 else
 bif decide (12 ≤ x.fst.fst) then
 bif decide (x.fst.fst ≤ 15) then
 Option.bind (F28 (x.fst.snd.snd.snd.snd.snd.snd.snd.snd.snd.snd.snd.fst, ()))
 fun b =>
 bif !b.fst then some (Sum.inr (false, ())) else some (Sum.inl ())
 else some (Sum.inl ())
 else some (Sum.inl ()))
 fun o =>
 Sum.elim
 (fun (_z : Unit) =>
 Option.bind
 (bif decide (x.fst.fst = 1) then
 Option.bind (F29 (x.fst.snd.fst, ())) fun b =>
 bif b.fst then
 bif decide (Int.ofNat (List.length x.fst.snd.snd.snd.fst) ≤ 40) then
 Option.bind (F30 (x.fst.snd.snd.snd.snd.fst, ())) fun b => some (Sum.inr b)
 else some (Sum.inr (false, ()))
 else some (Sum.inr (false, ()))
 else
 bif decide (x.fst.fst = 2) then
 Option.bind (F31 (x.fst.snd.fst, x.fst.snd.snd.fst, ())) fun b =>
 some (Sum.inr b)
 else
 bif decide (x.fst.fst = 3) then
 Option.bind (F32 (x.fst.snd.snd.snd.snd.snd.snd.snd.fst, ())) fun b =>
 bif b.fst then
 Option.bind (F33 (x.fst.snd.snd.snd.snd.snd.snd.snd.snd.fst, ())) fun b =>
 bif b.fst then
 Option.bind (F33 (x.fst.snd.snd.snd.snd.snd.snd.snd.snd.snd.fst, ()))
 fun b => some (Sum.inr b)
 else some (Sum.inr (false, ()))
 else some (Sum.inr (false, ()))
 else
 bif decide (x.fst.fst = 4) then
 Option.bind (F28 (x.fst.snd.snd.snd.snd.snd.snd.fst, ())) fun b =>
 some (Sum.inr b)
 else
 bif decide (x.fst.fst = 5) then
 Option.bind (F28 (x.fst.snd.snd.snd.snd.fst, ())) fun b =>
 bif b.fst then
 Option.bind (F34 (x.fst.snd.snd.snd.snd.snd.fst, 1, 1000, ())) fun b =>
 some (Sum.inr b)
 else some (Sum.inr (false, ()))
 else
 bif decide (x.fst.fst = 6) then
 bif decide (x.fst.fst = 6) then
 Option.bind (F28 (x.fst.snd.snd.snd.snd.fst, ())) fun b =>
 some (Sum.inr b)
 else
 bif decide (x.fst.fst = 9) then
 bif !decide (x.fst.snd.snd.snd.snd.fst = 0) then
 Option.bind (F34 (x.fst.snd.snd.snd.snd.fst, -1099511627776, 1099511627776, ()))
 fun b => some (Sum.inr b)
 else some (Sum.inr (false, ()))
 else
 bif decide (x.fst.fst = 10) then
 Option.bind (F35 (x.fst.snd.fst, ())) fun b => some (Sum.inr b)
 else
 bif decide (x.fst.fst = 12) then
 Option.bind (F35 (x.fst.snd.fst, ())) fun b =>
 bif b.fst then
 Option.bind (F35 (x.fst.snd.snd.fst, ())) fun b =>
 bif b.fst then
 Option.bind (F28 (x.fst.snd.snd.snd.snd.snd.snd.fst, ()))
 fun b => some (Sum.inr b)
 else some (Sum.inr (false, ()))
 else some (Sum.inr (false, ()))
 else
 bif decide (x.fst.fst = 13) then
 Option.bind (F36 x) fun b => some (Sum.inr b)
 else
 bif decide (x.fst.fst = 14) then
 Option.bind (F37 x) fun b => some (Sum.inr b)
 else
 bif decide (x.fst.fst = 15) then
 Option.bind (F28 (x.fst.snd.snd.snd.snd.snd.snd.fst, ()))
 fun b =>
 bif b.fst then
 Option.bind
 (F38
 (x.fst.snd.snd.snd.snd.snd.snd.snd.snd.snd.snd.snd.snd.snd.snd.snd.fst, 15,
 ()))
 fun b =>
 bif b.fst then
 Option.bind
 (F39
 x.fst.snd.snd.snd.snd.snd.snd.snd.snd.snd.snd.snd.snd.snd.snd.snd.snd)
 fun b => some (Sum.inr b)
 else some (Sum.inr (false, ()))
 else some (Sum.inr (false, ()))
 else some (Sum.inl ())
 else
 bif decide (x.fst.fst = 7) then
 Option.bind (F28 (x.fst.snd.snd.snd.snd.fst, ())) fun b =>
 some (Sum.inr b)
 else
 bif decide (x.fst.fst = 9) then
 bif !decide (x.fst.snd.snd.snd.snd.fst = 0) then
 Option.bind (F34 (x.fst.snd.snd.snd.snd.fst, -1099511627776, 1099511627776, ()))
 fun b => some (Sum.inr b)
 else some (Sum.inr (false, ()))
 else
 bif decide (x.fst.fst = 10) then
 Option.bind (F35 (x.fst.snd.fst, ())) fun b => some (Sum.inr b)
 else
 bif decide (x.fst.fst = 12) then
 Option.bind (F35 (x.fst.snd.fst, ())) fun b =>
 bif b.fst then
 Option.bind (F35 (x.fst.snd.snd.fst, ())) fun b =>
 bif b.fst then
 Option.bind (F28 (x.fst.snd.snd.snd.snd.snd.snd.fst, ()))
 fun b => some (Sum.inr b)
 else some (Sum.inr (false, ()))
 else some (Sum.inr (false, ()))
 else
 bif decide (x.fst.fst = 13) then
 Option.bind (F36 x) fun b => some (Sum.inr b)
 else
 bif decide (x.fst.fst = 14) then
 Option.bind (F37 x) fun b => some (Sum.inr b)
 else
 bif decide (x.fst.fst = 15) then
 Option.bind (F28 (x.fst.snd.snd.snd.snd.snd.snd.fst, ()))
 fun b =>
 bif b.fst then
 Option.bind
 (F38
 (x.fst.snd.snd.snd.snd.snd.snd.snd.snd.snd.snd.snd.snd.snd.snd.snd.fst, 15,
 ()))
 fun b =>
 bif b.fst then
 Option.bind
 (F39
 x.fst.snd.snd.snd.snd.snd.snd.snd.snd.snd.snd.snd.snd.snd.snd.snd.snd)
 fun b => some (Sum.inr b)
 else some (Sum.inr (false, ()))
 else some (Sum.inr (false, ()))
 else some (Sum.inl ()))
 fun o =>
 Sum.elim
 (fun (_z : Unit) =>
 bif decide (x.fst.fst = 8) then some (true, ())
 else
 bif decide (x.fst.fst = 11) then some (true, ())
 else some (decide (x.fst.fst = 16), ()))
 (fun (val : Bool × Unit) => some val) o)
 (fun (val : Bool × Unit) => some val) o
def S9 : Sig := ⟨P9, R9, F9⟩
noncomputable def E9 : Env := { tab := tab, nt := 160, Γ := lookG [(27, [S27]), (28, [S28]), (29, [S29]), (30, [S30]), (31, [S31]), (32, [S32]), (33, [S33]), (34, [S34]), (35, [S35]), (36, [S36]), (37, [S37]), (38, [S38]), (39, [S39])], joins := lookN [(3, ⟨[], [1], [.site 1000, .fld 1000 0, .fld 1000 1, .fld 1000 2, .fld 1000 3, .fld 1000 4, .fld 1000 5, .fld 1000 6, .fld 1000 7, .fld 1000 8, .fld 1000 9, .fld 1000 10, .fld 1000 11, .fld 1000 12, .fld 1000 13, .fld 1000 14, .fld 1000 15, .fld 1000 16]⟩), (29, ⟨[], [1], [.site 1000, .fld 1000 0, .fld 1000 1, .fld 1000 2, .fld 1000 3, .fld 1000 4, .fld 1000 5, .fld 1000 6, .fld 1000 7, .fld 1000 8, .fld 1000 9, .fld 1000 10, .fld 1000 11, .fld 1000 12, .fld 1000 13, .fld 1000 14, .fld 1000 15, .fld 1000 16]⟩)], loops := lookN [] }
theorem raw9_eq (x : T28D × Unit) : afun E9 Tryz.f9 P9 R9 x = F9 x := by kernel_rfl
-- decamp/decampref18.begins
def F55 (x : List UInt8 × List UInt8 × Unit) : Option (Bool × Unit) :=
 bif decide (Int.ofNat (List.length x.snd.fst) ≤ Int.ofNat (List.length x.fst)) then
 Option.bind (sliceO x.fst 0 (Int.ofNat (List.length x.snd.fst))) fun b =>
 some (decide (b = x.snd.fst), ())
 else some (false, ())
def S55 : Sig := ⟨P55, R55, F55⟩
noncomputable def E55 : Env := { tab := tab, nt := 18, Γ := lookG [], joins := lookN [], loops := lookN [] }
theorem raw55_eq (x : List UInt8 × List UInt8 × Unit) : afun E55 Tryz.f55 P55 R55 x = F55 x := by kernel_rfl
-- decamp/decampref18.Under
def F56 (x : List UInt8 × List UInt8 × Unit) : Option (Bool × Unit) :=
 Option.bind (F35 (x.fst, ())) fun b =>
 bif b.fst then
 Option.bind (F29 x.snd) fun b =>
 bif b.fst then Option.bind (F55 (x.snd.fst, x.fst, ())) fun b => some b
 else some (false, ())
 else some (false, ())
def S56 : Sig := ⟨P56, R56, F56⟩
noncomputable def E56 : Env := { tab := tab, nt := 16, Γ := lookG [(29, [S29]), (35, [S35]), (55, [S55])], joins := lookN [], loops := lookN [] }
theorem raw56_eq (x : List UInt8 × List UInt8 × Unit) : afun E56 Tryz.f56 P56 R56 x = F56 x := by kernel_rfl
-- decamp/decampref18.Key
def F21 (x : List UInt8 × List UInt8 × List UInt8 × Unit) : Option (List UInt8 × Bool × Unit) :=
 Option.bind (F56 (x.fst, x.snd.snd)) fun b =>
 bif !b.fst then some ([], false, ())
 else
 Option.bind (F35 (x.snd.fst, ())) fun b =>
 bif !b.fst then some ([], false, ())
 else
 Option.bind (sliceO x.snd.snd.fst (Int.ofNat (List.length x.fst)) ↑(List.length x.snd.snd.fst))
 fun b =>
 Option.bind (appO x.snd.fst b) fun b =>
 Option.bind (F29 (b, ())) fun b =>
 bif !b.fst then some ([], false, ())
 else
 Option.bind (sliceO x.snd.snd.fst (Int.ofNat (List.length x.fst)) ↑(List.length x.snd.snd.fst))
 fun b =>
 Option.bind (appO x.snd.fst b) fun b => some (b, true, ())
def S21 : Sig := ⟨P21, R21, F21⟩
noncomputable def E21 : Env := { tab := tab, nt := 33, Γ := lookG [(29, [S29]), (35, [S35]), (56, [S56])], joins := lookN [], loops := lookN [] }
theorem raw21_eq (x : List UInt8 × List UInt8 × List UInt8 × Unit) : afun E21 Tryz.f21 P21 R21 x = F21 x := by kernel_rfl
-- decamp/decampref18.End
def F54 (x : List UInt8 × Unit) : Option (List UInt8 × Unit) :=
 Option.bind (F35 x) fun b =>
 bif !b.fst then some ([], ())
 else
 Option.bind (sliceO x.fst 0 (wrap64 (Int.ofNat (List.length x.fst) - 1)))
 fun b =>
 Option.bind (idx x.fst (wrap64 (Int.ofNat (List.length x.fst) - 1))) fun b_1 =>
 Option.bind (appO b [Sx.byteOf (IntKind.wrap IntKind.u8 (intOf8 b_1 + intOf8 (UInt8.ofNat 1)))])
 fun b => some (b, ())
def S54 : Sig := ⟨P54, R54, F54⟩
noncomputable def E54 : Env := { tab := tab, nt := 20, Γ := lookG [(35, [S35])], joins := lookN [], loops := lookN [] }
theorem raw54_eq (x : List UInt8 × Unit) : afun E54 Tryz.f54 P54 R54 x = F54 x := by kernel_rfl
-- decamp/decampref18.Range
def F20 (x : List UInt8 × List UInt8 × List UInt8 × List UInt8 × Unit) : Option (List UInt8 × List UInt8 × Bool × Unit) :=
 Option.bind (F21 (x.fst, x.snd.fst, x.snd.snd.fst, ())) fun b =>
 bif !b.snd.fst then some ([], [], false, ())
 else
 Option.bind (F31 x.snd.snd) fun b_1 =>
 bif !b_1.fst then some ([], [], false, ())
 else
 Option.bind
 (bif decide (x.snd.snd.snd.fst = []) then some (Sum.inr (b.fst, [], true, ()))
 else
 Option.bind (F54 (x.fst, ())) fun b =>
 bif decide (x.snd.snd.snd.fst = b.fst) then
 Option.bind (F54 (x.snd.fst, ())) fun b => some (Sum.inl b)
 else
 Option.bind (F55 (x.snd.snd.snd.fst, x.fst, ())) fun b =>
 bif b.fst then
 Option.bind
 (sliceO x.snd.snd.snd.fst (Int.ofNat (List.length x.fst)) ↑(List.length x.snd.snd.snd.fst))
 fun b =>
 Option.bind (appO x.snd.fst b) fun b => some (Sum.inl (b, ()))
 else some (Sum.inr ([], [], false, ())))
 fun o =>
 Sum.elim
 (fun (x : List UInt8 × Unit) =>
 Option.bind (F31 (b.fst, x)) fun b_2 =>
 bif !b_2.fst then some ([], [], false, ()) else some (b.fst, x.fst, true, ()))
 (fun (val : List UInt8 × List UInt8 × Bool × Unit) => some val) o
def S20 : Sig := ⟨P20, R20, F20⟩
noncomputable def E20 : Env := { tab := tab, nt := 56, Γ := lookG [(21, [S21]), (31, [S31]), (54, [S54]), (55, [S55])], joins := lookN [(12, ⟨[⟨.slot 13, .str, .pv⟩], [11], []⟩)], loops := lookN [] }
theorem raw20_eq (x : List UInt8 × List UInt8 × List UInt8 × List UInt8 × Unit) : afun E20 Tryz.f20 P20 R20 x = F20 x := by kernel_rfl
-- decamp/decampref18.ops
def F22 (x : List UInt8 × List UInt8 × List T48D × Unit) : Option (List T48D × Bool × Unit) :=
 iterE (List T48D × Int × Unit)
 (List T48D × Bool × Unit)
 (fun (x_1 : List T48D × Int × Unit) =>
 bif decide (x_1.snd.fst < Int.ofNat (List.length x.snd.snd.fst)) then
 Option.bind (idx x.snd.snd.fst x_1.snd.fst)
 fun b =>
 Option.bind (F20 (x.fst, x.snd.fst, b.snd.fst, b.snd.snd.fst, ()))
 fun b_1 =>
 bif !b_1.snd.snd.fst then some (Sum.inr ([], false, ()))
 else
 Option.bind (appO x_1.fst [(b.fst, b_1.fst, b_1.snd.fst, b.snd.snd.snd)])
 fun b =>
 some (Sum.inl (b, wrap64 (x_1.snd.fst + 1), ()))
 else some (Sum.inr (x_1.fst, true, ())))
 big ([], 0, ())
def S22 : Sig := ⟨P22, R22, F22⟩
noncomputable def E22 : Env := { tab := tab, nt := 42, Γ := lookG [(20, [S20])], joins := lookN [], loops := lookN [(3, mkLoop ⟨[⟨.slot 8, (.slice T48), .own false⟩, ⟨.slot 14, (.int .i64), .pv⟩], [0, 1, 2, 13], []⟩)] }
theorem raw22_eq (x : List UInt8 × List UInt8 × List T48D × Unit) : afun E22 Tryz.f22 P22 R22 x = F22 x := by kernel_rfl
-- decamp/decampref18.Cmd
def F7 (x : List UInt8 × List UInt8 × T28D × Unit) : Option (T28D × Bool × Unit) :=
 Option.bind (F9 x.snd.snd) fun b =>
 bif !b.fst then
 some ((0, [], [], [], 0, 0, 0, [], [], [], 0, 0, 0, false, [], [], [], ()), false, ())
 else
 bif decide (7 < x.snd.snd.fst.fst) then
 some ((0, [], [], [], 0, 0, 0, [], [], [], 0, 0, 0, false, [], [], [], ()), false, ())
 else
 bif decide (4 ≤ x.snd.snd.fst.fst) then some (x.snd.snd.fst, true, ())
 else
 bif !decide (x.snd.snd.fst.fst = 3) then
 Option.bind (F20 (x.fst, x.snd.fst, x.snd.snd.fst.snd.fst, x.snd.snd.fst.snd.snd.fst, ()))
 fun b =>
 bif !b.snd.snd.fst then
 some ((0, [], [], [], 0, 0, 0, [], [], [], 0, 0, 0, false, [], [], [], ()), false, ())
 else some ((x.snd.snd.fst.fst, b.fst, b.snd.fst, x.snd.snd.fst.snd.snd.snd), true, ())
 else
 iterE
 (List T96D × Int × Int × List UInt8 × List UInt8 × List UInt8 × Int × Int × Int × List T96D × List T48D × List T48D × Int × Int × Int × Bool × List
 T70D × List
 (Int × Int × (Int × Int × Bool × Int × List
 T70D × Y42D) × Unit) × List T113D × Unit)
 ((Int × List UInt8 × List UInt8 × List UInt8 × Int × Int × Int × List T96D × List T48D × List T48D × Int × Int × Int × Bool × List
 T70D × List
 (Int × Int × (Int × Int × Bool × Int × List
 T70D × Y42D) × Unit) × List T113D × Unit) × Bool × Unit)
 (fun (x_1 :
 List T96D × Int × Int × List UInt8 × List UInt8 × List UInt8 × Int × Int × Int × List T96D × List T48D × List T48D × Int × Int × Int × Bool × List
 T70D × List
 (Int × Int × (Int × Int × Bool × Int × List
 T70D × Y42D) × Unit) × List T113D × Unit) =>
 bif decide (x_1.snd.fst < Int.ofNat (List.length x.snd.snd.fst.snd.snd.snd.snd.snd.snd.snd.fst)) then
 Option.bind (idx x.snd.snd.fst.snd.snd.snd.snd.snd.snd.snd.fst x_1.snd.fst)
 fun b =>
 Option.bind (F21 (x.fst, x.snd.fst, b.fst, ())) fun b_1 =>
 bif !b_1.snd.fst then
 some
 (Sum.inr
 ((0, [], [], [], 0, 0, 0, [], [], [], 0, 0, 0, false, [], [], [], ()), false,
 ()))
 else
 Option.bind (appO x_1.fst [(b_1.fst, b.snd)])
 fun b =>
 some (Sum.inl (b, wrap64 (x_1.snd.fst + 1), x_1.snd.snd))
 else
 Option.map Sum.inr
 (Option.bind (F22 (x.fst, x.snd.fst, x.snd.snd.fst.snd.snd.snd.snd.snd.snd.snd.snd.fst, ()))
 fun b =>
 bif !b.snd.fst then
 some
 ((0, [], [], [], 0, 0, 0, [], [], [], 0, 0, 0, false, [], [], [], ()), false,
 ())
 else
 Option.bind
 (F22 (x.fst, x.snd.fst, x.snd.snd.fst.snd.snd.snd.snd.snd.snd.snd.snd.snd.fst, ()))
 fun b_1 =>
 bif !b_1.snd.fst then
 some
 ((0, [], [], [], 0, 0, 0, [], [], [], 0, 0, 0, false, [], [], [], ()), false,
 ())
 else
 some
 ((x.snd.snd.fst.fst, x.snd.snd.fst.snd.fst, x.snd.snd.fst.snd.snd.fst,
 x.snd.snd.fst.snd.snd.snd.fst, x.snd.snd.fst.snd.snd.snd.snd.fst,
 x.snd.snd.fst.snd.snd.snd.snd.snd.fst, x.snd.snd.fst.snd.snd.snd.snd.snd.snd.fst,
 x_1.fst, b.fst, b_1.fst, x.snd.snd.fst.snd.snd.snd.snd.snd.snd.snd.snd.snd.snd),
 true, ())))
 big ([], 0, 0, [], [], [], 0, 0, 0, [], [], [], 0, 0, 0, false, [], [], [], ())
def S7 : Sig := ⟨P7, R7, F7⟩
noncomputable def E7 : Env := { tab := tab, nt := 100, Γ := lookG [(9, [S9]), (20, [S20]), (21, [S21]), (22, [S22])], joins := lookN [], loops := lookN [(13, mkLoop ⟨[⟨.slot 9, (.slice T96), .own false⟩, ⟨.slot 48, (.int .i64), .pv⟩, ⟨.fld 2000 0, (.int .i64), .pv⟩, ⟨.fld 2000 1, .str, .pv⟩, ⟨.fld 2000 2, .str, .pv⟩, ⟨.fld 2000 3, .str, .pv⟩, ⟨.fld 2000 4, (.int .i64), .pv⟩, ⟨.fld 2000 5, (.int .i64), .pv⟩, ⟨.fld 2000 6, (.int .i64), .pv⟩, ⟨.fld 2000 7, (.slice T96), .own false⟩, ⟨.fld 2000 8, (.slice T48), .own false⟩, ⟨.fld 2000 9, (.slice T48), .own false⟩, ⟨.fld 2000 10, (.int .i64), .pv⟩, ⟨.fld 2000 11, (.int .i64), .pv⟩, ⟨.fld 2000 12, (.int .i64), .pv⟩, ⟨.fld 2000 13, .bool, .pv⟩, ⟨.fld 2000 14, (.slice T70), .own false⟩, ⟨.fld 2000 15, (.slice T94), .own false⟩, ⟨.fld 2000 16, (.slice T113), .own false⟩], [0, 1, 5, 6, 47], [.site 2000, .site 1000, .fld 1000 0, .fld 1000 1, .fld 1000 2, .fld 1000 3, .fld 1000 4, .fld 1000 5, .fld 1000 6, .fld 1000 7, .fld 1000 8, .fld 1000 9, .fld 1000 10, .fld 1000 11, .fld 1000 12, .fld 1000 13, .fld 1000 14, .fld 1000 15, .fld 1000 16]⟩)] }
theorem raw7_eq (x : List UInt8 × List UInt8 × T28D × Unit) : afun E7 Tryz.f7 P7 R7 x = F7 x := by kernel_rfl
-- decamp/decampref15.SameItems
def F12 (x : List T70D × List T70D × Unit) : Option (Bool × Unit) :=
 bif !decide (Int.ofNat (List.length x.fst) = Int.ofNat (List.length x.snd.fst)) then some (false, ())
 else
 iterE (Int × Unit) (Bool × Unit)
 (fun (x_1 : Int × Unit) =>
 bif decide (x_1.fst < Int.ofNat (List.length x.fst)) then
 Option.bind (idx x.fst x_1.fst)
 fun b =>
 Option.bind (idx x.snd.fst x_1.fst)
 fun b_1 =>
 bif
 !(decide (b.fst = b_1.fst) &&
 (decide (b.snd.fst.fst = b_1.snd.fst.fst) &&
 (decide (b.snd.fst.snd.fst = b_1.snd.fst.snd.fst) &&
 (decide (b.snd.fst.snd.snd.fst = b_1.snd.fst.snd.snd.fst) &&
 (decide (b.snd.fst.snd.snd.snd.fst = b_1.snd.fst.snd.snd.snd.fst) &&
 (decide (b.snd.fst.snd.snd.snd.snd.fst = b_1.snd.fst.snd.snd.snd.snd.fst) &&
 (decide (b.snd.fst.snd.snd.snd.snd.snd.fst = b_1.snd.fst.snd.snd.snd.snd.snd.fst) &&
 (b.snd.fst.snd.snd.snd.snd.snd.snd.fst == b_1.snd.fst.snd.snd.snd.snd.snd.snd.fst &&
 true)))))) &&
 true)) then
 some (Sum.inr (false, ()))
 else some (Sum.inl (wrap64 (x_1.fst + 1), ()))
 else some (Sum.inr (true, ())))
 big (0, ())
def S12 : Sig := ⟨P12, R12, F12⟩
noncomputable def E12 : Env := { tab := tab, nt := 26, Γ := lookG [], joins := lookN [], loops := lookN [(4, mkLoop ⟨[⟨.slot 13, (.int .i64), .pv⟩], [0, 1, 12], []⟩)] }
theorem raw12_eq (x : List T70D × List T70D × Unit) : afun E12 Tryz.f12 P12 R12 x = F12 x := by kernel_rfl
-- decamp/decampref17.sameCmps
def F23 (x : List T96D × List T96D × Unit) : Option (Bool × Unit) :=
 bif !decide (Int.ofNat (List.length x.fst) = Int.ofNat (List.length x.snd.fst)) then some (false, ())
 else
 iterE (Int × Unit) (Bool × Unit)
 (fun (x_1 : Int × Unit) =>
 bif decide (x_1.fst < Int.ofNat (List.length x.fst)) then
 Option.bind (idx x.fst x_1.fst) fun b =>
 Option.bind (idx x.snd.fst x_1.fst) fun b_1 =>
 bif
 !(decide (b.fst = b_1.fst) &&
 (decide (b.snd.fst = b_1.snd.fst) &&
 (decide (b.snd.snd.fst = b_1.snd.snd.fst) &&
 (decide (b.snd.snd.snd.fst = b_1.snd.snd.snd.fst) &&
 (decide (b.snd.snd.snd.snd.fst = b_1.snd.snd.snd.snd.fst) && true))))) then
 some (Sum.inr (false, ()))
 else some (Sum.inl (wrap64 (x_1.fst + 1), ()))
 else some (Sum.inr (true, ())))
 big (0, ())
def S23 : Sig := ⟨P23, R23, F23⟩
noncomputable def E23 : Env := { tab := tab, nt := 26, Γ := lookG [], joins := lookN [], loops := lookN [(4, mkLoop ⟨[⟨.slot 13, (.int .i64), .pv⟩], [0, 1, 12], []⟩)] }
theorem raw23_eq (x : List T96D × List T96D × Unit) : afun E23 Tryz.f23 P23 R23 x = F23 x := by kernel_rfl
-- decamp/decampref17.sameOps
def F24 (x : List T48D × List T48D × Unit) : Option (Bool × Unit) :=
 bif !decide (Int.ofNat (List.length x.fst) = Int.ofNat (List.length x.snd.fst)) then some (false, ())
 else
 iterE (Int × Unit) (Bool × Unit)
 (fun (x_1 : Int × Unit) =>
 bif decide (x_1.fst < Int.ofNat (List.length x.fst)) then
 Option.bind (idx x.fst x_1.fst) fun b =>
 Option.bind (idx x.snd.fst x_1.fst) fun b_1 =>
 bif
 !(decide (b.fst = b_1.fst) &&
 (decide (b.snd.fst = b_1.snd.fst) &&
 (decide (b.snd.snd.fst = b_1.snd.snd.fst) &&
 (decide (b.snd.snd.snd.fst = b_1.snd.snd.snd.fst) &&
 (decide (b.snd.snd.snd.snd.fst = b_1.snd.snd.snd.snd.fst) && true))))) then
 some (Sum.inr (false, ()))
 else some (Sum.inl (wrap64 (x_1.fst + 1), ()))
 else some (Sum.inr (true, ())))
 big (0, ())
def S24 : Sig := ⟨P24, R24, F24⟩
noncomputable def E24 : Env := { tab := tab, nt := 26, Γ := lookG [], joins := lookN [], loops := lookN [(4, mkLoop ⟨[⟨.slot 13, (.int .i64), .pv⟩], [0, 1, 12], []⟩)] }
theorem raw24_eq (x : List T48D × List T48D × Unit) : afun E24 Tryz.f24 P24 R24 x = F24 x := by kernel_rfl
-- decamp/decampref17.SameReply
def F57 (x : T51D × T51D × Unit) : Option (Bool × Unit) :=
 bif decide (x.fst.fst = x.snd.fst.fst) then
 bif decide (x.fst.snd.fst = x.snd.fst.snd.fst) then
 bif x.fst.snd.snd.fst == x.snd.fst.snd.snd.fst then
 bif decide (x.fst.snd.snd.snd.fst = x.snd.fst.snd.snd.snd.fst) then
 bif decide (x.fst.snd.snd.snd.snd.snd.fst = x.snd.fst.snd.snd.snd.snd.snd.fst) then
 bif decide (x.fst.snd.snd.snd.snd.snd.snd.fst = x.snd.fst.snd.snd.snd.snd.snd.snd.fst) then
 Option.bind (F12 (x.fst.snd.snd.snd.snd.fst, x.snd.fst.snd.snd.snd.snd.fst, ()))
 fun b => some b
 else some (false, ())
 else some (false, ())
 else some (false, ())
 else some (false, ())
 else some (false, ())
 else some (false, ())
def S57 : Sig := ⟨P57, R57, F57⟩
noncomputable def E57 : Env := { tab := tab, nt := 52, Γ := lookG [(12, [S12])], joins := lookN [], loops := lookN [] }
theorem raw57_eq (x : T51D × T51D × Unit) : afun E57 Tryz.f57 P57 R57 x = F57 x := by kernel_rfl
-- decamp/decampref17.SameSess
def F25 (x : List T94D × List T94D × Unit) : Option (Bool × Unit) :=
 bif !decide (Int.ofNat (List.length x.fst) = Int.ofNat (List.length x.snd.fst)) then some (false, ())
 else
 iterE (Int × Unit) (Bool × Unit)
 (fun (x_1 : Int × Unit) =>
 bif decide (x_1.fst < Int.ofNat (List.length x.fst)) then
 Option.bind (idx x.fst x_1.fst)
 fun b =>
 Option.bind (idx x.snd.fst x_1.fst)
 fun b_1 =>
 bif !decide (b.fst = b_1.fst) then some (Sum.inr (false, ()))
 else
 Option.bind (idx x.fst x_1.fst)
 fun b =>
 Option.bind (idx x.snd.fst x_1.fst)
 fun b_2 =>
 bif !decide (b.snd.fst = b_2.snd.fst) then some (Sum.inr (false, ()))
 else
 Option.bind (idx x.fst x_1.fst)
 fun b =>
 Option.bind (idx x.snd.fst x_1.fst)
 fun b_3 =>
 Option.bind (F57 (b.snd.snd.fst, b_3.snd.snd)) fun b =>
 bif !b.fst then some (Sum.inr (false, ()))
 else some (Sum.inl (wrap64 (x_1.fst + 1), ()))
 else some (Sum.inr (true, ())))
 big (0, ())
def S25 : Sig := ⟨P25, R25, F25⟩
noncomputable def E25 : Env := { tab := tab, nt := 55, Γ := lookG [(57, [S57])], joins := lookN [], loops := lookN [(4, mkLoop ⟨[⟨.slot 13, (.int .i64), .pv⟩], [0, 1, 12], []⟩)] }
theorem raw25_eq (x : List T94D × List T94D × Unit) : afun E25 Tryz.f25 P25 R25 x = F25 x := by kernel_rfl
-- decamp/decampref17.SameLeases
def F26 (x : List T113D × List T113D × Unit) : Option (Bool × Unit) :=
 bif !decide (Int.ofNat (List.length x.fst) = Int.ofNat (List.length x.snd.fst)) then some (false, ())
 else
 iterE (Int × Unit) (Bool × Unit)
 (fun (x_1 : Int × Unit) =>
 bif decide (x_1.fst < Int.ofNat (List.length x.fst)) then
 Option.bind (idx x.fst x_1.fst) fun b =>
 Option.bind (idx x.snd.fst x_1.fst) fun b_1 =>
 bif
 !(decide (b.fst = b_1.fst) &&
 (decide (b.snd.fst = b_1.snd.fst) && (decide (b.snd.snd.fst = b_1.snd.snd.fst) && true))) then
 some (Sum.inr (false, ()))
 else some (Sum.inl (wrap64 (x_1.fst + 1), ()))
 else some (Sum.inr (true, ())))
 big (0, ())
def S26 : Sig := ⟨P26, R26, F26⟩
noncomputable def E26 : Env := { tab := tab, nt := 26, Γ := lookG [], joins := lookN [], loops := lookN [(4, mkLoop ⟨[⟨.slot 13, (.int .i64), .pv⟩], [0, 1, 12], []⟩)] }
theorem raw26_eq (x : List T113D × List T113D × Unit) : afun E26 Tryz.f26 P26 R26 x = F26 x := by kernel_rfl
-- decamp/decampref17.Same
def F8 (x : T28D × T28D × Unit) : Option (Bool × Unit) :=
 bif decide (x.fst.fst = x.snd.fst.fst) then
 bif decide (x.fst.snd.fst = x.snd.fst.snd.fst) then
 bif decide (x.fst.snd.snd.fst = x.snd.fst.snd.snd.fst) then
 bif decide (x.fst.snd.snd.snd.fst = x.snd.fst.snd.snd.snd.fst) then
 bif decide (x.fst.snd.snd.snd.snd.fst = x.snd.fst.snd.snd.snd.snd.fst) then
 bif decide (x.fst.snd.snd.snd.snd.snd.fst = x.snd.fst.snd.snd.snd.snd.snd.fst) then
 bif decide (x.fst.snd.snd.snd.snd.snd.snd.fst = x.snd.fst.snd.snd.snd.snd.snd.snd.fst) then
 bif
 decide
 (x.fst.snd.snd.snd.snd.snd.snd.snd.snd.snd.snd.fst =
 x.snd.fst.snd.snd.snd.snd.snd.snd.snd.snd.snd.snd.fst) then
 bif
 decide
 (x.fst.snd.snd.snd.snd.snd.snd.snd.snd.snd.snd.snd.fst =
 x.snd.fst.snd.snd.snd.snd.snd.snd.snd.snd.snd.snd.snd.fst) then
 bif
 decide
 (x.fst.snd.snd.snd.snd.snd.snd.snd.snd.snd.snd.snd.snd.fst =
 x.snd.fst.snd.snd.snd.snd.snd.snd.snd.snd.snd.snd.snd.snd.fst) then
 bif
 x.fst.snd.snd.snd.snd.snd.snd.snd.snd.snd.snd.snd.snd.snd.fst ==
 x.snd.fst.snd.snd.snd.snd.snd.snd.snd.snd.snd.snd.snd.snd.snd.fst then
 Option.bind
 (F23
 (x.fst.snd.snd.snd.snd.snd.snd.snd.fst, x.snd.fst.snd.snd.snd.snd.snd.snd.snd.fst,
 ()))
 fun b =>
 bif b.fst then
 Option.bind
 (F24
 (x.fst.snd.snd.snd.snd.snd.snd.snd.snd.fst,
 x.snd.fst.snd.snd.snd.snd.snd.snd.snd.snd.fst, ()))
 fun b =>
 bif b.fst then
 Option.bind
 (F24
 (x.fst.snd.snd.snd.snd.snd.snd.snd.snd.snd.fst,
 x.snd.fst.snd.snd.snd.snd.snd.snd.snd.snd.snd.fst, ()))
 fun b =>
 bif b.fst then
 Option.bind
 (F12
 (x.fst.snd.snd.snd.snd.snd.snd.snd.snd.snd.snd.snd.snd.snd.snd.fst,
 x.snd.fst.snd.snd.snd.snd.snd.snd.snd.snd.snd.snd.snd.snd.snd.snd.fst,
 ()))
 fun b =>
 bif b.fst then
 Option.bind
 (F25
 (x.fst.snd.snd.snd.snd.snd.snd.snd.snd.snd.snd.snd.snd.snd.snd.snd.fst,
 x.snd.fst.snd.snd.snd.snd.snd.snd.snd.snd.snd.snd.snd.snd.snd.snd.snd.fst,
 ()))
 fun b =>
 bif b.fst then
 Option.bind
 (F26
 (x.fst.snd.snd.snd.snd.snd.snd.snd.snd.snd.snd.snd.snd.snd.snd.snd.snd.fst,
 x.snd.fst.snd.snd.snd.snd.snd.snd.snd.snd.snd.snd.snd.snd.snd.snd.snd.snd))
 fun b => some b
 else some (false, ())
 else some (false, ())
 else some (false, ())
 else some (false, ())
 else some (false, ())
 else some (false, ())
 else some (false, ())
 else some (false, ())
 else some (false, ())
 else some (false, ())
 else some (false, ())
 else some (false, ())
 else some (false, ())
 else some (false, ())
 else some (false, ())
 else some (false, ())
def S8 : Sig := ⟨P8, R8, F8⟩
noncomputable def E8 : Env := { tab := tab, nt := 122, Γ := lookG [(12, [S12]), (23, [S23]), (24, [S24]), (25, [S25]), (26, [S26])], joins := lookN [], loops := lookN [] }
theorem raw8_eq (x : T28D × T28D × Unit) : afun E8 Tryz.f8 P8 R8 x = F8 x := by kernel_rfl
-- decamp/remap.Items
def F10 (x : List UInt8 × List UInt8 × List T70D × Unit) : Option (List T70D × Bool × Unit) :=
 iterE (List T70D × Int × Unit)
 (List T70D × Bool × Unit)
 (fun (x_1 : List T70D × Int × Unit) =>
 bif decide (x_1.snd.fst < Int.ofNat (List.length x.snd.snd.fst)) then
 Option.bind (idx x.snd.snd.fst x_1.snd.fst)
 fun b =>
 Option.bind (F13 (x.fst, x.snd.fst, b.fst, ())) fun b_1 =>
 bif !b_1.snd.fst then some (Sum.inr ([], false, ()))
 else
 Option.bind (appO x_1.fst [(b_1.fst, b.snd)])
 fun b =>
 some (Sum.inl (b, wrap64 (x_1.snd.fst + 1), ()))
 else some (Sum.inr (x_1.fst, true, ())))
 big ([], 0, ())
def S10 : Sig := ⟨P10, R10, F10⟩
noncomputable def E10 : Env := { tab := tab, nt := 37, Γ := lookG [(13, [S13])], joins := lookN [], loops := lookN [(3, mkLoop ⟨[⟨.slot 8, (.slice T70), .own false⟩, ⟨.slot 15, (.int .i64), .pv⟩], [0, 1, 13, 14], []⟩)] }
theorem raw10_eq (x : List UInt8 × List UInt8 × List T70D × Unit) : afun E10 Tryz.f10 P10 R10 x = F10 x := by kernel_rfl
-- decamp/decampref18.Items
def F11 (x : List UInt8 × List UInt8 × List T70D × Unit) : Option (List T70D × Bool × Unit) :=
 iterE (List T70D × Int × Unit)
 (List T70D × Bool × Unit)
 (fun (x_1 : List T70D × Int × Unit) =>
 bif decide (x_1.snd.fst < Int.ofNat (List.length x.snd.snd.fst)) then
 Option.bind (idx x.snd.snd.fst x_1.snd.fst)
 fun b =>
 Option.bind (F21 (x.fst, x.snd.fst, b.fst, ())) fun b =>
 bif !b.snd.fst then some (Sum.inr ([], false, ()))
 else
 Option.bind (idx x.snd.snd.fst x_1.snd.fst)
 fun b_1 =>
 Option.bind (appO x_1.fst [(b.fst, b_1.snd)])
 fun b =>
 some (Sum.inl (b, wrap64 (x_1.snd.fst + 1), ()))
 else some (Sum.inr (x_1.fst, true, ())))
 big ([], 0, ())
def S11 : Sig := ⟨P11, R11, F11⟩
noncomputable def E11 : Env := { tab := tab, nt := 42, Γ := lookG [(21, [S21])], joins := lookN [], loops := lookN [(3, mkLoop ⟨[⟨.slot 8, (.slice T70), .own false⟩, ⟨.slot 14, (.int .i64), .pv⟩], [0, 1, 2, 13], []⟩)] }
theorem raw11_eq (x : List UInt8 × List UInt8 × List T70D × Unit) : afun E11 Tryz.f11 P11 R11 x = F11 x := by kernel_rfl
-- decamp/decamplaw18.RemapCmds
def F3 (x : List UInt8 × List UInt8 × T28D × List T70D × Unit) : Option (Bool × Unit) :=
 Option.bind (F4 ()) fun b =>
 bif !b.fst then Option.bind (F4 ()) fun b => some b
 else
 bif
 decide
 (500 < wrap64 (Int.ofNat (List.length x.fst) + Int.ofNat (List.length x.snd.fst))) then
 Option.bind (F4 ()) fun b => some b
 else
 Option.bind (F5 (x.snd.snd.fst, ())) fun b =>
 bif !b.fst then Option.bind (F4 ()) fun b => some b
 else
 Option.bind
 (F5
 ((0, [], [], [], 0, 0, 0, [], [], [], 0, 0, 0, false, x.snd.snd.snd.fst, [], [], ()),
 ()))
 fun b =>
 bif !b.fst then Option.bind (F4 ()) fun b => some b
 else
 Option.bind (F6 (x.fst, x.snd.fst, x.snd.snd.fst, ()))
 fun b =>
 Option.bind (F7 (x.fst, x.snd.fst, x.snd.snd.fst, ()))
 fun b_1 =>
 bif !b.snd.fst == b_1.snd.fst then some (false, ())
 else
 Option.bind (F8 (b.fst, b_1.fst, ())) fun b_2 =>
 bif !b_2.fst then some (false, ())
 else
 Option.bind
 (bif b.snd.fst then
 Option.bind (F6 (x.snd.fst, x.fst, b.fst, ()))
 fun b_3 =>
 Option.bind (F9 (b.fst, ())) fun b =>
 bif !b.fst then some (Sum.inr (false, ()))
 else
 bif !b_3.snd.fst then some (Sum.inr (false, ()))
 else
 Option.bind (F8 (b_3.fst, x.snd.snd.fst, ())) fun b =>
 bif !b.fst then some (Sum.inr (false, ()))
 else some (Sum.inl ())
 else some (Sum.inl ()))
 fun o =>
 Sum.elim
 (fun (_z : Unit) =>
 Option.bind (F10 (x.fst, x.snd.fst, x.snd.snd.snd))
 fun b =>
 Option.bind (F11 (x.fst, x.snd.fst, x.snd.snd.snd))
 fun b_3 =>
 bif b.snd.fst == b_3.snd.fst then
 Option.bind (F12 (b.fst, b_3.fst, ())) fun b => some b
 else some (false, ()))
 (fun (val : Bool × Unit) => some val) o
def S3 : Sig := ⟨P3, R3, F3⟩
noncomputable def E3 : Env := { tab := tab, nt := 107, Γ := lookG [(4, [S4]), (5, [S5]), (6, [S6]), (7, [S7]), (8, [S8]), (9, [S9]), (10, [S10]), (11, [S11]), (12, [S12])], joins := lookN [(11, ⟨[], [0, 1, 3], []⟩)], loops := lookN [] }
theorem raw3_eq (x : List UInt8 × List UInt8 × T28D × List T70D × Unit) : afun E3 Tryz.f3 P3 R3 x = F3 x := by kernel_rfl
end
end Go.Proofs.YtgfdlapadghggaaGreat
