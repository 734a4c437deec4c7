/-
  Remap: by a program of the bench (seat.py).
-/
import Derived.Test.YtgfdlapadghggaaRemapTab
namespace Go.Proofs.Ytgfdlapadghggaa
open Go.Sx Go
set_option maxRecDepth 100000
noncomputable section
-- decamp/remap.number
def F21 (x : Int × Unit) : Option (Bool × Unit) :=
  bif decide (1 ≤ x.fst) then some (decide (x.fst ≤ 1099511627776), ()) else some (false, ())
def S21 : Sig := ⟨P21, R21, F21⟩
noncomputable def E21 : Env := { tab := tab, nt := 9, Γ := lookG [], joins := lookN [], loops := lookN [] }
theorem raw21_eq (x : Int × Unit) : afun E21 Try.f21 P21 R21 x = F21 x := by kernel_rfl
-- (decamp/remap.Count).Right
def F11 (x : T24D × Unit) : Option (Bool × Unit) :=
  Option.bind (F21 (x.fst.fst, ())) fun (b : Bool × Unit) =>
    bif b.fst then Option.bind (F21 x.fst.snd) fun (b : Bool × Unit) => some b else some (false, ())
def S11 : Sig := ⟨P11, R11, F11⟩
noncomputable def E11 : Env := { tab := tab, nt := 11, Γ := lookG [(21, [S21])], joins := lookN [], loops := lookN [] }
theorem raw11_eq (x : T24D × Unit) : afun E11 Try.f11 P11 R11 x = F11 x := by kernel_rfl
-- (decamp/remap.Count).Client
def F8 (x : T24D × Int × Unit) : Option (Int × Bool × Unit) :=
  Option.bind (F11 (x.fst, ())) fun (b : Bool × Unit) =>
    bif !b.fst then some (0, false, ())
    else
      bif decide (x.snd.fst < x.fst.snd.fst) then some (0, false, ())
      else
        bif decide (1099511627776 < x.snd.fst) then some (0, false, ())
        else
          Option.bind
            (F21
              (wrap64 (wrap64 (x.snd.fst - x.fst.snd.fst) + x.fst.fst), ()))
            fun (b : Bool × Unit) =>
            bif !b.fst then some (0, false, ())
            else
              some
                (wrap64 (wrap64 (x.snd.fst - x.fst.snd.fst) + x.fst.fst), true,
                  ())
def S8 : Sig := ⟨P8, R8, F8⟩
noncomputable def E8 : Env := { tab := tab, nt := 37, Γ := lookG [(11, [S11]), (21, [S21])], joins := lookN [], loops := lookN [] }
theorem raw8_eq (x : T24D × Int × Unit) : afun E8 Try.f8 P8 R8 x = F8 x := by kernel_rfl
-- decamp/index.text
def F31 (x : List UInt8 × UInt8 × Unit) : Option (Bool × Unit) :=
  bif decide (Int.ofNat (List.length x.fst) < 1) then some (false, ())
  else
    bif decide (32 < Int.ofNat (List.length x.fst)) then some (false, ())
    else
      iterE (Int × Unit) (Bool × Unit)
        (fun (x_1 : Int × Unit) =>
          bif decide (x_1.fst < Int.ofNat (List.length x.fst)) then
            Option.bind (idx x.fst x_1.fst) fun (b : UInt8) =>
              bif decide (intOf8 b < intOf8 (UInt8.ofNat 33)) then some (Sum.inr (false, ()))
              else
                Option.bind (idx x.fst x_1.fst) fun (b : UInt8) =>
                  bif decide (intOf8 x.snd.fst < intOf8 b) then some (Sum.inr (false, ()))
                  else some (Sum.inl (wrap64 (x_1.fst + 1), ()))
          else some (Sum.inr (true, ())))
        big (0, ())
def S31 : Sig := ⟨P31, R31, F31⟩
noncomputable def E31 : Env := { tab := tab, nt := 31, Γ := lookG [], joins := lookN [], loops := lookN [(4, mkLoop ⟨[⟨.slot 16, (.int .i64), .pv⟩], [0, 1, 15], []⟩)] }
theorem raw31_eq (x : List UInt8 × UInt8 × Unit) : afun E31 Try.f31 P31 R31 x = F31 x := by kernel_rfl
-- decamp/index.Key
def F24 (x : List UInt8 × Unit) : Option (Bool × Unit) := Option.bind (F31 (x.fst, UInt8.ofNat 126, ())) fun (b : Bool × Unit) => some b
def S24 : Sig := ⟨P24, R24, F24⟩
noncomputable def E24 : Env := { tab := tab, nt := 5, Γ := lookG [(31, [S31])], joins := lookN [], loops := lookN [] }
theorem raw24_eq (x : List UInt8 × Unit) : afun E24 Try.f24 P24 R24 x = F24 x := by kernel_rfl
-- decamp/cmd.Prefix
def F23 (x : List UInt8 × Unit) : Option (Bool × Unit) :=
  bif decide (Int.ofNat (List.length x.fst) ≤ 8) then Option.bind (F24 x) fun (b : Bool × Unit) => some b
  else some (false, ())
def S23 : Sig := ⟨P23, R23, F23⟩
noncomputable def E23 : Env := { tab := tab, nt := 10, Γ := lookG [(24, [S24])], joins := lookN [], loops := lookN [] }
theorem raw23_eq (x : List UInt8 × Unit) : afun E23 Try.f23 P23 R23 x = F23 x := by kernel_rfl
-- internal/stringslite.HasPrefix
def F33 (x : List UInt8 × List UInt8 × Unit) : Option (Bool × Unit) :=
  bif decide (Int.ofNat (List.length x.snd.fst) ≤ Int.ofNat (List.length x.fst)) then
    Option.bind (sliceO x.fst 0 (Int.ofNat (List.length x.snd.fst))) fun (b : List UInt8) =>
      some (decide (b = x.snd.fst), ())
  else some (false, ())
def S33 : Sig := ⟨P33, R33, F33⟩
noncomputable def E33 : Env := { tab := tab, nt := 18, Γ := lookG [], joins := lookN [], loops := lookN [] }
theorem raw33_eq (x : List UInt8 × List UInt8 × Unit) : afun E33 Try.f33 P33 R33 x = F33 x := by kernel_rfl
-- strings.HasPrefix
def F28 (x : List UInt8 × List UInt8 × Unit) : Option (Bool × Unit) := Option.bind (F33 x) fun (b : Bool × Unit) => some b
def S28 : Sig := ⟨P28, R28, F28⟩
noncomputable def E28 : Env := { tab := tab, nt := 8, Γ := lookG [(33, [S33])], joins := lookN [], loops := lookN [] }
theorem raw28_eq (x : List UInt8 × List UInt8 × Unit) : afun E28 Try.f28 P28 R28 x = F28 x := by kernel_rfl
-- decamp/remap.Under
def F18 (x : List UInt8 × List UInt8 × Unit) : Option (Bool × Unit) :=
  Option.bind (F23 (x.fst, ())) fun (b : Bool × Unit) =>
    bif b.fst then
      Option.bind (F24 x.snd) fun (b : Bool × Unit) =>
        bif b.fst then Option.bind (F28 (x.snd.fst, x.fst, ())) fun (b : Bool × Unit) => some b
        else some (false, ())
    else some (false, ())
def S18 : Sig := ⟨P18, R18, F18⟩
noncomputable def E18 : Env := { tab := tab, nt := 16, Γ := lookG [(23, [S23]), (24, [S24]), (28, [S28])], joins := lookN [], loops := lookN [] }
theorem raw18_eq (x : List UInt8 × List UInt8 × Unit) : afun E18 Try.f18 P18 R18 x = F18 x := by kernel_rfl
-- decamp/remap.Key
def F12 (x : List UInt8 × List UInt8 × List UInt8 × Unit) : Option (List UInt8 × Bool × Unit) :=
  Option.bind (F18 (x.fst, x.snd.snd)) fun (b : Bool × Unit) =>
    bif !b.fst then some ([], false, ())
    else
      Option.bind (F23 (x.snd.fst, ())) fun (b : Bool × Unit) =>
        bif !b.fst then some ([], false, ())
        else
          Option.bind (sliceO x.snd.snd.fst (Int.ofNat (List.length x.fst)) ↑(List.length x.snd.snd.fst))
            fun (b : List UInt8) =>
            Option.bind (appO x.snd.fst b) fun (b : List UInt8) =>
              Option.bind (F24 (b, ())) fun (b_1 : Bool × Unit) =>
                bif !b_1.fst then some ([], false, ()) else some (b, true, ())
def S12 : Sig := ⟨P12, R12, F12⟩
noncomputable def E12 : Env := { tab := tab, nt := 28, Γ := lookG [(18, [S18]), (23, [S23]), (24, [S24])], joins := lookN [], loops := lookN [] }
theorem raw12_eq (x : List UInt8 × List UInt8 × List UInt8 × Unit) : afun E12 Try.f12 P12 R12 x = F12 x := by kernel_rfl
-- decamp/remap.End
def F16 (x : List UInt8 × Unit) : Option (List UInt8 × Unit) :=
  Option.bind (F23 x) fun (b : Bool × Unit) =>
    bif !b.fst then some ([], ())
    else
      Option.bind (idxN x.fst (wrap64 (Int.ofNat (List.length x.fst) - 1))) fun (b : Nat) =>
        Option.bind x.fst[b]? fun (b : UInt8) =>
          Option.bind (idxN x.fst (wrap64 (Int.ofNat (List.length x.fst) - 1))) fun (b_1 : Nat) =>
            Option.bind x.fst[b_1]? fun (b_2 : UInt8) =>
              some
                (List.set x.fst b_1 (Sx.byteOf (IntKind.wrap IntKind.u8 (intOf8 b + intOf8 (UInt8.ofNat 1)))),
                  ())
def S16 : Sig := ⟨P16, R16, F16⟩
noncomputable def E16 : Env := { tab := tab, nt := 19, Γ := lookG [(23, [S23])], joins := lookN [], loops := lookN [] }
theorem raw16_eq (x : List UInt8 × Unit) : afun E16 Try.f16 P16 R16 x = F16 x := by kernel_rfl
-- decamp/decamplaw18.awake
def F7 (x : Unit) : Option (Bool × Unit) :=
  Option.bind (F12 ([97, 47], [98, 98, 47], [97, 47, 120], ())) fun (b : List UInt8 × Bool × Unit) =>
    Option.bind (F8 ((7, 20, ()), 21, ())) fun (b_1 : Int × Bool × Unit) =>
      bif decide (b.fst = [98, 98, 47, 120]) then
        bif b.snd.fst then
          bif decide (b_1.fst = 8) then
            bif b_1.snd.fst then
              Option.bind (F16 ([97, 47], ())) fun (b : List UInt8 × Unit) =>
                some (decide (b.fst = [97, 48]), ())
            else some (false, ())
          else some (false, ())
        else some (false, ())
      else some (false, ())
def S7 : Sig := ⟨P7, R7, F7⟩
noncomputable def E7 : Env := { tab := tab, nt := 30, Γ := lookG [(8, [S8]), (12, [S12]), (16, [S16])], joins := lookN [], loops := lookN [] }
theorem raw7_eq (x : Unit) : afun E7 Try.f7 P7 R7 x = F7 x := by kernel_rfl
-- decamp/decampref18.one
def F22 (x : Int × Unit) : Option (Bool × Unit) :=
  bif decide (1 ≤ x.fst) then some (decide (x.fst ≤ 1099511627776), ()) else some (false, ())
def S22 : Sig := ⟨P22, R22, F22⟩
noncomputable def E22 : Env := { tab := tab, nt := 9, Γ := lookG [], joins := lookN [], loops := lookN [] }
theorem raw22_eq (x : Int × Unit) : afun E22 Try.f22 P22 R22 x = F22 x := by kernel_rfl
-- decamp/decampref18.Goes
def F9 (x : Int × Int × Int × Unit) : Option (Int × Bool × Unit) :=
  Option.bind (F22 x.snd.snd) fun (b : Bool × Unit) =>
    bif !b.fst then some (0, false, ())
    else
      Option.bind (F22 (x.snd.fst, ())) fun (b : Bool × Unit) =>
        bif !b.fst then some (0, false, ())
        else
          bif decide (x.fst < x.snd.fst) then some (0, false, ())
          else
            bif decide (1099511627776 < x.fst) then some (0, false, ())
            else
              bif
                  decide
                    (wrap64 (1099511627776 - x.snd.snd.fst) <
                      wrap64 (x.fst - x.snd.fst)) then
                some (0, false, ())
              else
                some
                  (wrap64 (x.snd.snd.fst + wrap64 (x.fst - x.snd.fst)), true,
                    ())
def S9 : Sig := ⟨P9, R9, F9⟩
noncomputable def E9 : Env := { tab := tab, nt := 38, Γ := lookG [(22, [S22])], joins := lookN [], loops := lookN [] }
theorem raw9_eq (x : Int × Int × Int × Unit) : afun E9 Try.f9 P9 R9 x = F9 x := by kernel_rfl
-- (decamp/remap.Count).Here
def F10 (x : T24D × Int × Unit) : Option (Int × Bool × Unit) :=
  Option.bind (F8 ((x.fst.snd.fst, x.fst.fst, ()), x.snd)) fun (b : Int × Bool × Unit) => some b
def S10 : Sig := ⟨P10, R10, F10⟩
noncomputable def E10 : Env := { tab := tab, nt := 15, Γ := lookG [(8, [S8])], joins := lookN [], loops := lookN [] }
theorem raw10_eq (x : T24D × Int × Unit) : afun E10 Try.f10 P10 R10 x = F10 x := by kernel_rfl
-- decamp/decamplaw18.RemapCounts
def F3 (x : Int × Int × Int × Int × Unit) : Option (Bool × Unit) :=
  Option.bind (F7 ()) fun (b : Bool × Unit) =>
    bif !b.fst then some (false, ())
    else
      Option.bind (F8 ((x.fst, x.snd.fst, ()), x.snd.snd.fst, ())) fun (b : Int × Bool × Unit) =>
        Option.bind (F9 (x.snd.snd.fst, x.snd.fst, x.fst, ())) fun (b_1 : Int × Bool × Unit) =>
          Option.bind (F10 ((x.fst, x.snd.fst, ()), x.snd.snd.fst, ()))
            fun (b_2 : Int × Bool × Unit) =>
            Option.bind (F9 (x.snd.snd.fst, x.fst, x.snd.fst, ())) fun (b_3 : Int × Bool × Unit) =>
              Option.bind
                (bif !decide (b.fst = b_1.fst) then some (Sum.inr (false, ()))
                else
                  bif !b.snd.fst == b_1.snd.fst then some (Sum.inr (false, ()))
                  else
                    bif !decide (b_2.fst = b_3.fst) then some (Sum.inr (false, ()))
                    else
                      bif !b_2.snd.fst == b_3.snd.fst then some (Sum.inr (false, ()))
                      else
                        Option.bind (F11 ((x.fst, x.snd.fst, ()), ())) fun (b : Bool × Unit) =>
                          bif decide (1 ≤ x.fst) then
                            bif decide (x.fst ≤ 1099511627776) then
                              bif decide (1 ≤ x.snd.fst) then
                                bif !b.fst == decide (x.snd.fst ≤ 1099511627776) then some (Sum.inr (false, ()))
                                else some (Sum.inl ())
                              else
                                bif !b.fst == false then some (Sum.inr (false, ()))
                                else some (Sum.inl ())
                            else
                              bif !b.fst == false then some (Sum.inr (false, ())) else some (Sum.inl ())
                          else
                            bif !b.fst == false then some (Sum.inr (false, ())) else some (Sum.inl ()))
                fun (o : Unit ⊕ Bool × Unit) =>
                Sum.elim
                  (fun (x_1 : Unit) =>
                    bif !b.snd.fst then some (true, ())
                    else
                      Option.bind (F10 ((x.fst, x.snd.fst, ()), b.fst, ()))
                        fun (b_4 : Int × Bool × Unit) =>
                        Option.bind (F8 ((x.fst, x.snd.fst, ()), x.snd.snd.snd))
                          fun (b_5 : Int × Bool × Unit) =>
                          bif b_4.snd.fst then
                            bif decide (b_4.fst = x.snd.snd.fst) then
                              bif !b_5.snd.fst then some (true, ())
                              else
                                some
                                  (decide (x.snd.snd.fst < x.snd.snd.snd.fst) == decide (b.fst < b_5.fst), ())
                            else some (false, ())
                          else some (false, ()))
                  (fun (val : Bool × Unit) => some val) o
def S3 : Sig := ⟨P3, R3, F3⟩
noncomputable def E3 : Env := { tab := tab, nt := 123, Γ := lookG [(7, [S7]), (8, [S8]), (9, [S9]), (10, [S10]), (11, [S11])], joins := lookN [(10, ⟨[], [2, 3, 9, 10, 11], [.site 3004000, .fld 3004000 0, .fld 3004000 1]⟩)], loops := lookN [] }
theorem raw3_eq (x : Int × Int × Int × Int × Unit) : afun E3 Try.f3 P3 R3 x = F3 x := by kernel_rfl
-- decamp/decampref15.text
def F32 (x : List UInt8 × UInt8 × Unit) : Option (Bool × Unit) :=
  iterE (Int × Unit) (Bool × Unit)
    (fun (x_1 : Int × Unit) =>
      bif decide (x_1.fst < Int.ofNat (List.length x.fst)) then
        Option.bind (idx x.fst x_1.fst) fun (b : UInt8) =>
          bif decide (intOf8 b < intOf8 (UInt8.ofNat 33)) then some (Sum.inr (false, ()))
          else
            Option.bind (idx x.fst x_1.fst) fun (b : UInt8) =>
              bif decide (intOf8 x.snd.fst < intOf8 b) then some (Sum.inr (false, ()))
              else some (Sum.inl (wrap64 (x_1.fst + 1), ()))
      else
        Option.map Sum.inr
          (bif decide (1 ≤ Int.ofNat (List.length x.fst)) then
            some (decide (Int.ofNat (List.length x.fst) ≤ 32), ())
          else some (false, ())))
    big (0, ())
def S32 : Sig := ⟨P32, R32, F32⟩
noncomputable def E32 : Env := { tab := tab, nt := 31, Γ := lookG [], joins := lookN [], loops := lookN [(2, mkLoop ⟨[⟨.slot 8, (.int .i64), .pv⟩], [0, 1, 7], []⟩)] }
theorem raw32_eq (x : List UInt8 × UInt8 × Unit) : afun E32 Try.f32 P32 R32 x = F32 x := by kernel_rfl
-- decamp/decampref15.Key
def F26 (x : List UInt8 × Unit) : Option (Bool × Unit) := Option.bind (F32 (x.fst, UInt8.ofNat 126, ())) fun (b : Bool × Unit) => some b
def S26 : Sig := ⟨P26, R26, F26⟩
noncomputable def E26 : Env := { tab := tab, nt := 5, Γ := lookG [(32, [S32])], joins := lookN [], loops := lookN [] }
theorem raw26_eq (x : List UInt8 × Unit) : afun E26 Try.f26 P26 R26 x = F26 x := by kernel_rfl
-- decamp/decampref17.Prefix
def F25 (x : List UInt8 × Unit) : Option (Bool × Unit) :=
  bif decide (Int.ofNat (List.length x.fst) ≤ 8) then Option.bind (F26 x) fun (b : Bool × Unit) => some b
  else some (false, ())
def S25 : Sig := ⟨P25, R25, F25⟩
noncomputable def E25 : Env := { tab := tab, nt := 10, Γ := lookG [(26, [S26])], joins := lookN [], loops := lookN [] }
theorem raw25_eq (x : List UInt8 × Unit) : afun E25 Try.f25 P25 R25 x = F25 x := by kernel_rfl
-- decamp/decampref18.begins
def F30 (x : List UInt8 × List UInt8 × Unit) : Option (Bool × Unit) :=
  bif decide (Int.ofNat (List.length x.snd.fst) ≤ Int.ofNat (List.length x.fst)) then
    Option.bind (sliceO x.fst 0 (Int.ofNat (List.length x.snd.fst))) fun (b : List UInt8) =>
      some (decide (b = x.snd.fst), ())
  else some (false, ())
def S30 : Sig := ⟨P30, R30, F30⟩
noncomputable def E30 : Env := { tab := tab, nt := 18, Γ := lookG [], joins := lookN [], loops := lookN [] }
theorem raw30_eq (x : List UInt8 × List UInt8 × Unit) : afun E30 Try.f30 P30 R30 x = F30 x := by kernel_rfl
-- decamp/decampref18.Under
def F19 (x : List UInt8 × List UInt8 × Unit) : Option (Bool × Unit) :=
  Option.bind (F25 (x.fst, ())) fun (b : Bool × Unit) =>
    bif b.fst then
      Option.bind (F26 x.snd) fun (b : Bool × Unit) =>
        bif b.fst then Option.bind (F30 (x.snd.fst, x.fst, ())) fun (b : Bool × Unit) => some b
        else some (false, ())
    else some (false, ())
def S19 : Sig := ⟨P19, R19, F19⟩
noncomputable def E19 : Env := { tab := tab, nt := 16, Γ := lookG [(25, [S25]), (26, [S26]), (30, [S30])], joins := lookN [], loops := lookN [] }
theorem raw19_eq (x : List UInt8 × List UInt8 × Unit) : afun E19 Try.f19 P19 R19 x = F19 x := by kernel_rfl
-- decamp/decampref18.Key
def F13 (x : List UInt8 × List UInt8 × List UInt8 × Unit) : Option (List UInt8 × Bool × Unit) :=
  Option.bind (F19 (x.fst, x.snd.snd)) fun (b : Bool × Unit) =>
    bif !b.fst then some ([], false, ())
    else
      Option.bind (F25 (x.snd.fst, ())) fun (b : Bool × Unit) =>
        bif !b.fst then some ([], false, ())
        else
          Option.bind (sliceO x.snd.snd.fst (Int.ofNat (List.length x.fst)) ↑(List.length x.snd.snd.fst))
            fun (b : List UInt8) =>
            Option.bind (appO x.snd.fst b) fun (b : List UInt8) =>
              Option.bind (F26 (b, ())) fun (b : Bool × Unit) =>
                bif !b.fst then some ([], false, ())
                else
                  Option.bind (sliceO x.snd.snd.fst (Int.ofNat (List.length x.fst)) ↑(List.length x.snd.snd.fst))
                    fun (b : List UInt8) =>
                    Option.bind (appO x.snd.fst b) fun (b : List UInt8) => some (b, true, ())
def S13 : Sig := ⟨P13, R13, F13⟩
noncomputable def E13 : Env := { tab := tab, nt := 33, Γ := lookG [(19, [S19]), (25, [S25]), (26, [S26])], joins := lookN [], loops := lookN [] }
theorem raw13_eq (x : List UInt8 × List UInt8 × List UInt8 × Unit) : afun E13 Try.f13 P13 R13 x = F13 x := by kernel_rfl
-- decamp/index.Range
def F27 (x : List UInt8 × List UInt8 × Unit) : Option (Bool × Unit) :=
  Option.bind (F24 (x.fst, ())) fun (b : Bool × Unit) =>
    bif b.fst then
      bif decide (x.snd.fst = []) then some (true, ())
      else
        Option.bind (F31 (x.snd.fst, UInt8.ofNat 127, ())) fun (b : Bool × Unit) =>
          bif b.fst then some (!(strlt x.snd.fst x.fst || decide (x.snd.fst = x.fst)), ())
          else some (false, ())
    else some (false, ())
def S27 : Sig := ⟨P27, R27, F27⟩
noncomputable def E27 : Env := { tab := tab, nt := 20, Γ := lookG [(24, [S24]), (31, [S31])], joins := lookN [], loops := lookN [] }
theorem raw27_eq (x : List UInt8 × List UInt8 × Unit) : afun E27 Try.f27 P27 R27 x = F27 x := by kernel_rfl
-- decamp/remap.Range
def F14 (x : List UInt8 × List UInt8 × List UInt8 × List UInt8 × Unit) : Option (List UInt8 × List UInt8 × Bool × Unit) :=
  Option.bind (F12 (x.fst, x.snd.fst, x.snd.snd.fst, ())) fun (b : List UInt8 × Bool × Unit) =>
    bif !b.snd.fst then some ([], [], false, ())
    else
      Option.bind (F27 x.snd.snd) fun (b_1 : Bool × Unit) =>
        bif !b_1.fst then some ([], [], false, ())
        else
          bif decide (x.snd.snd.snd.fst = []) then some (b.fst, [], true, ())
          else
            Option.bind (F16 (x.snd.fst, ())) fun (b_2 : List UInt8 × Unit) =>
              Option.bind
                (Option.bind (F16 (x.fst, ())) fun (b : List UInt8 × Unit) =>
                  bif !decide (x.snd.snd.snd.fst = b.fst) then
                    Option.bind (F28 (x.snd.snd.snd.fst, x.fst, ())) fun (b : Bool × Unit) =>
                      bif !b.fst then some (Sum.inr ([], [], false, ()))
                      else
                        Option.bind
                          (sliceO x.snd.snd.snd.fst (Int.ofNat (List.length x.fst)) ↑(List.length x.snd.snd.snd.fst))
                          fun (b : List UInt8) =>
                          Option.bind (appO x.snd.fst b) fun (b : List UInt8) => some (Sum.inl (b, ()))
                  else some (Sum.inl b_2))
                fun (o : List UInt8 × Unit ⊕ List UInt8 × List UInt8 × Bool × Unit) =>
                Sum.elim
                  (fun (x : List UInt8 × Unit) =>
                    Option.bind (F27 (b.fst, x)) fun (b_3 : Bool × Unit) =>
                      bif !b_3.fst then some ([], [], false, ()) else some (b.fst, x.fst, true, ()))
                  (fun (val : List UInt8 × List UInt8 × Bool × Unit) => some val) o
def S14 : Sig := ⟨P14, R14, F14⟩
noncomputable def E14 : Env := { tab := tab, nt := 54, Γ := lookG [(12, [S12]), (16, [S16]), (27, [S27]), (28, [S28])], joins := lookN [(11, ⟨[⟨.slot 13, .str, .pv⟩], [11], []⟩)], loops := lookN [] }
theorem raw14_eq (x : List UInt8 × List UInt8 × List UInt8 × List UInt8 × Unit) : afun E14 Try.f14 P14 R14 x = F14 x := by kernel_rfl
-- decamp/decampref18.End
def F17 (x : List UInt8 × Unit) : Option (List UInt8 × Unit) :=
  Option.bind (F25 x) fun (b : Bool × Unit) =>
    bif !b.fst then some ([], ())
    else
      Option.bind (sliceO x.fst 0 (wrap64 (Int.ofNat (List.length x.fst) - 1)))
        fun (b : List UInt8) =>
        Option.bind (idx x.fst (wrap64 (Int.ofNat (List.length x.fst) - 1))) fun (b_1 : UInt8) =>
          Option.bind (appO b [Sx.byteOf (IntKind.wrap IntKind.u8 (intOf8 b_1 + intOf8 (UInt8.ofNat 1)))])
            fun (b : List UInt8) => some (b, ())
def S17 : Sig := ⟨P17, R17, F17⟩
noncomputable def E17 : Env := { tab := tab, nt := 20, Γ := lookG [(25, [S25])], joins := lookN [], loops := lookN [] }
theorem raw17_eq (x : List UInt8 × Unit) : afun E17 Try.f17 P17 R17 x = F17 x := by kernel_rfl
-- decamp/decampref15.Range
def F29 (x : List UInt8 × List UInt8 × Unit) : Option (Bool × Unit) :=
  Option.bind (F26 (x.fst, ())) fun (b : Bool × Unit) =>
    bif b.fst then
      bif decide (Int.ofNat (List.length x.snd.fst) = 0) then some (true, ())
      else
        Option.bind (F32 (x.snd.fst, UInt8.ofNat 127, ())) fun (b : Bool × Unit) =>
          bif b.fst then some (strlt x.fst x.snd.fst, ()) else some (false, ())
    else some (false, ())
def S29 : Sig := ⟨P29, R29, F29⟩
noncomputable def E29 : Env := { tab := tab, nt := 21, Γ := lookG [(26, [S26]), (32, [S32])], joins := lookN [], loops := lookN [] }
theorem raw29_eq (x : List UInt8 × List UInt8 × Unit) : afun E29 Try.f29 P29 R29 x = F29 x := by kernel_rfl
-- decamp/decampref18.Range
def F15 (x : List UInt8 × List UInt8 × List UInt8 × List UInt8 × Unit) : Option (List UInt8 × List UInt8 × Bool × Unit) :=
  Option.bind (F13 (x.fst, x.snd.fst, x.snd.snd.fst, ())) fun (b : List UInt8 × Bool × Unit) =>
    bif !b.snd.fst then some ([], [], false, ())
    else
      Option.bind (F29 x.snd.snd) fun (b_1 : Bool × Unit) =>
        bif !b_1.fst then some ([], [], false, ())
        else
          Option.bind
            (bif decide (x.snd.snd.snd.fst = []) then some (Sum.inr (b.fst, [], true, ()))
            else
              Option.bind (F17 (x.fst, ())) fun (b : List UInt8 × Unit) =>
                bif decide (x.snd.snd.snd.fst = b.fst) then
                  Option.bind (F17 (x.snd.fst, ())) fun (b : List UInt8 × Unit) => some (Sum.inl b)
                else
                  Option.bind (F30 (x.snd.snd.snd.fst, x.fst, ())) fun (b : Bool × Unit) =>
                    bif b.fst then
                      Option.bind
                        (sliceO x.snd.snd.snd.fst (Int.ofNat (List.length x.fst)) ↑(List.length x.snd.snd.snd.fst))
                        fun (b : List UInt8) =>
                        Option.bind (appO x.snd.fst b) fun (b : List UInt8) => some (Sum.inl (b, ()))
                    else some (Sum.inr ([], [], false, ())))
            fun (o : List UInt8 × Unit ⊕ List UInt8 × List UInt8 × Bool × Unit) =>
            Sum.elim
              (fun (x : List UInt8 × Unit) =>
                Option.bind (F29 (b.fst, x)) fun (b_2 : Bool × Unit) =>
                  bif !b_2.fst then some ([], [], false, ()) else some (b.fst, x.fst, true, ()))
              (fun (val : List UInt8 × List UInt8 × Bool × Unit) => some val) o
def S15 : Sig := ⟨P15, R15, F15⟩
noncomputable def E15 : Env := { tab := tab, nt := 56, Γ := lookG [(13, [S13]), (17, [S17]), (29, [S29]), (30, [S30])], joins := lookN [(12, ⟨[⟨.slot 13, .str, .pv⟩], [11], []⟩)], loops := lookN [] }
theorem raw15_eq (x : List UInt8 × List UInt8 × List UInt8 × List UInt8 × Unit) : afun E15 Try.f15 P15 R15 x = F15 x := by kernel_rfl
-- decamp/decamplaw18.RemapKeys
def F4 (x : List UInt8 × List UInt8 × List UInt8 × List UInt8 × Unit) : Option (Bool × Unit) :=
  Option.bind (F7 ()) fun (b : Bool × Unit) =>
    bif !b.fst then Option.bind (F7 ()) fun (b : Bool × Unit) => some b
    else
      bif
          decide
            (500 <
              wrap64
                (wrap64
                    (wrap64 (Int.ofNat (List.length x.fst) + Int.ofNat (List.length x.snd.fst)) +
                      Int.ofNat (List.length x.snd.snd.fst)) +
                  Int.ofNat (List.length x.snd.snd.snd.fst))) then
        Option.bind (F7 ()) fun (b : Bool × Unit) => some b
      else
        Option.bind (F12 (x.fst, x.snd.fst, x.snd.snd.fst, ())) fun (b : List UInt8 × Bool × Unit) =>
          Option.bind (F13 (x.fst, x.snd.fst, x.snd.snd.fst, ())) fun (b_1 : List UInt8 × Bool × Unit) =>
            Option.bind (F14 x) fun (b_2 : List UInt8 × List UInt8 × Bool × Unit) =>
              Option.bind (F15 x) fun (b_3 : List UInt8 × List UInt8 × Bool × Unit) =>
                Option.bind (F16 (x.fst, ())) fun (b_4 : List UInt8 × Unit) =>
                  Option.bind (F17 (x.fst, ())) fun (b_5 : List UInt8 × Unit) =>
                    bif decide (b_4.fst = b_5.fst) then
                      Option.bind (F18 (x.fst, x.snd.snd.fst, ())) fun (b_6 : Bool × Unit) =>
                        Option.bind (F19 (x.fst, x.snd.snd.fst, ())) fun (b_7 : Bool × Unit) =>
                          bif b_6.fst == b_7.fst then
                            bif decide (b.fst = b_1.fst) then
                              bif b.snd.fst == b_1.snd.fst then
                                bif decide (b_2.fst = b_3.fst) then
                                  bif decide (b_2.snd.fst = b_3.snd.fst) then
                                    some (b_2.snd.snd.fst == b_3.snd.snd.fst, ())
                                  else some (false, ())
                                else some (false, ())
                              else some (false, ())
                            else some (false, ())
                          else some (false, ())
                    else some (false, ())
def S4 : Sig := ⟨P4, R4, F4⟩
noncomputable def E4 : Env := { tab := tab, nt := 107, Γ := lookG [(7, [S7]), (12, [S12]), (13, [S13]), (14, [S14]), (15, [S15]), (16, [S16]), (17, [S17]), (18, [S18]), (19, [S19])], joins := lookN [], loops := lookN [] }
theorem raw4_eq (x : List UInt8 × List UInt8 × List UInt8 × List UInt8 × Unit) : afun E4 Try.f4 P4 R4 x = F4 x := by kernel_rfl
-- decamp/decampref15.In
def F20 (x : List UInt8 × List UInt8 × List UInt8 × Unit) : Option (Bool × Unit) :=
  Option.bind (F29 (x.fst, x.snd.fst, ())) fun (b : Bool × Unit) =>
    bif !b.fst then some (false, ())
    else
      Option.bind (F26 x.snd.snd) fun (b : Bool × Unit) =>
        bif !b.fst then some (false, ())
        else
          bif decide (Int.ofNat (List.length x.snd.fst) = 0) then some (decide (x.snd.snd.fst = x.fst), ())
          else
            bif !strlt x.snd.snd.fst x.fst then some (strlt x.snd.snd.fst x.snd.fst, ())
            else some (false, ())
def S20 : Sig := ⟨P20, R20, F20⟩
noncomputable def E20 : Env := { tab := tab, nt := 30, Γ := lookG [(26, [S26]), (29, [S29])], joins := lookN [], loops := lookN [] }
theorem raw20_eq (x : List UInt8 × List UInt8 × List UInt8 × Unit) : afun E20 Try.f20 P20 R20 x = F20 x := by kernel_rfl
-- decamp/decamplaw18.RemapBack
def F5 (x : List UInt8 × List UInt8 × List UInt8 × List UInt8 × List UInt8 × Unit) : Option (Bool × Unit) :=
  Option.bind (F7 ()) fun (b : Bool × Unit) =>
    bif !b.fst then Option.bind (F7 ()) fun (b : Bool × Unit) => some b
    else
      bif
          decide
            (500 <
              wrap64
                (wrap64
                    (wrap64
                        (wrap64 (Int.ofNat (List.length x.fst) + Int.ofNat (List.length x.snd.fst)) +
                          Int.ofNat (List.length x.snd.snd.fst)) +
                      Int.ofNat (List.length x.snd.snd.snd.fst)) +
                  Int.ofNat (List.length x.snd.snd.snd.snd.fst))) then
        Option.bind (F7 ()) fun (b : Bool × Unit) => some b
      else
        Option.bind (F14 (x.fst, x.snd.fst, x.snd.snd.fst, x.snd.snd.snd.fst, ()))
          fun (b : List UInt8 × List UInt8 × Bool × Unit) =>
          bif !b.snd.snd.fst then
            bif decide (b.fst = []) then some (decide (b.snd.fst = []), ()) else some (false, ())
          else
            Option.bind (F14 (x.snd.fst, x.fst, b.fst, b.snd.fst, ()))
              fun (b_1 : List UInt8 × List UInt8 × Bool × Unit) =>
              bif !b_1.snd.snd.fst then some (false, ())
              else
                bif !decide (b_1.fst = x.snd.snd.fst) then some (false, ())
                else
                  bif !decide (b_1.snd.fst = x.snd.snd.snd.fst) then some (false, ())
                  else
                    Option.bind (F12 (x.fst, x.snd.fst, x.snd.snd.snd.snd)) fun (b_2 : List UInt8 × Bool × Unit) =>
                      bif !b_2.snd.fst then some (true, ())
                      else
                        Option.bind (F20 x.snd.snd) fun (b_3 : Bool × Unit) =>
                          Option.bind (F20 (b.fst, b.snd.fst, b_2.fst, ())) fun (b_4 : Bool × Unit) =>
                            bif b_3.fst == b_4.fst then
                              some (strlt x.snd.snd.fst x.snd.snd.snd.snd.fst == strlt b.fst b_2.fst, ())
                            else some (false, ())
def S5 : Sig := ⟨P5, R5, F5⟩
noncomputable def E5 : Env := { tab := tab, nt := 106, Γ := lookG [(7, [S7]), (12, [S12]), (14, [S14]), (20, [S20])], joins := lookN [], loops := lookN [] }
theorem raw5_eq (x : List UInt8 × List UInt8 × List UInt8 × List UInt8 × List UInt8 × Unit) : afun E5 Try.f5 P5 R5 x = F5 x := by kernel_rfl
-- decamp/decamplaw18.RemapJoins
def F6 (x : List UInt8 × List UInt8 × List UInt8 × List UInt8 × List UInt8 × Unit) : Option (Bool × Unit) :=
  Option.bind (F7 ()) fun (b : Bool × Unit) =>
    bif !b.fst then Option.bind (F7 ()) fun (b : Bool × Unit) => some b
    else
      bif
          decide
            (500 <
              wrap64
                (wrap64
                    (wrap64
                        (wrap64 (Int.ofNat (List.length x.fst) + Int.ofNat (List.length x.snd.fst)) +
                          Int.ofNat (List.length x.snd.snd.fst)) +
                      Int.ofNat (List.length x.snd.snd.snd.fst)) +
                  Int.ofNat (List.length x.snd.snd.snd.snd.fst))) then
        Option.bind (F7 ()) fun (b : Bool × Unit) => some b
      else
        Option.bind (F14 (x.fst, x.snd.fst, x.snd.snd.snd)) fun (b : List UInt8 × List UInt8 × Bool × Unit) =>
          bif !b.snd.snd.fst then
            bif decide (b.fst = []) then some (decide (b.snd.fst = []), ()) else some (false, ())
          else
            Option.bind (F14 (x.snd.fst, x.snd.snd.fst, b.fst, b.snd.fst, ()))
              fun (b : List UInt8 × List UInt8 × Bool × Unit) =>
              Option.bind (F14 (x.fst, x.snd.snd)) fun (b_1 : List UInt8 × List UInt8 × Bool × Unit) =>
                bif b.snd.snd.fst == b_1.snd.snd.fst then
                  bif decide (b.fst = b_1.fst) then some (decide (b.snd.fst = b_1.snd.fst), ())
                  else some (false, ())
                else some (false, ())
def S6 : Sig := ⟨P6, R6, F6⟩
noncomputable def E6 : Env := { tab := tab, nt := 88, Γ := lookG [(7, [S7]), (14, [S14])], joins := lookN [], loops := lookN [] }
theorem raw6_eq (x : List UInt8 × List UInt8 × List UInt8 × List UInt8 × List UInt8 × Unit) : afun E6 Try.f6 P6 R6 x = F6 x := by kernel_rfl
end
end Go.Proofs.Ytgfdlapadghggaa
