/-
  Entry: by a program of the bench (seat.py).
-/
import Derived.Test.YtlcckfcjchghbaaEntryTab
namespace Go.Proofs.Ytlcckfcjchghbaa
open Go.Sx Go
set_option maxRecDepth 100000
noncomputable section
-- decamp/entry.number
def F38 (x : Int × Unit) : Option (Bool × Unit) :=
  bif decide (1 ≤ x.fst) then some (decide (x.fst ≤ 1099511627776), ()) else some (false, ())
def S38 : Sig := ⟨P38, R38, F38⟩
noncomputable def E38 : Env := { tab := tab, nt := 9, Γ := lookG [], joins := lookN [], loops := lookN [] }
theorem raw38_eq (x : Int × Unit) : afun E38 Try.f38 P38 R38 x = F38 x := by kernel_rfl
-- decamp/entry.Right
def F9 (x : T27D × Unit) : Option (Bool × Unit) :=
  Option.bind (F38 (x.fst.fst, ())) fun (b : Bool × Unit) =>
    bif b.fst then
      Option.bind (F38 (x.fst.snd.fst, ())) fun (b : Bool × Unit) =>
        bif b.fst then some (decide (Int.ofNat (List.length x.fst.snd.snd.fst) ≤ 12000), ())
        else some (false, ())
    else some (false, ())
def S9 : Sig := ⟨P9, R9, F9⟩
noncomputable def E9 : Env := { tab := tab, nt := 17, Γ := lookG [(38, [S38])], joins := lookN [], loops := lookN [] }
theorem raw9_eq (x : T27D × Unit) : afun E9 Try.f9 P9 R9 x = F9 x := by kernel_rfl
-- decamp/entry.Run
def F11 (x : Int × Int × List T27D × Unit) : Option (Bool × Unit) :=
  iterE (Int × T24D) (Bool × Unit)
    (fun (x_1 : Int × T24D) =>
      bif decide (x_1.snd.snd.fst < Int.ofNat (List.length x.snd.snd.fst)) then
        Option.bind (idx x.snd.snd.fst x_1.snd.snd.fst) fun (b : T27D) =>
          Option.bind (F9 (b, ())) fun (b_1 : Bool × Unit) =>
            bif !b_1.fst then some (Sum.inr (false, ()))
            else
              bif !decide (wrap64 (b.fst - 1) = x_1.fst) then some (Sum.inr (false, ()))
              else
                bif decide (b.snd.fst < x_1.snd.fst) then some (Sum.inr (false, ()))
                else some (Sum.inl (b.fst, b.snd.fst, wrap64 (x_1.snd.snd.fst + 1), ()))
      else some (Sum.inr (true, ())))
    big (x.fst, x.snd.fst, 0, ())
def S11 : Sig := ⟨P11, R11, F11⟩
noncomputable def E11 : Env := { tab := tab, nt := 36, Γ := lookG [(9, [S9])], joins := lookN [], loops := lookN [(2, mkLoop ⟨[⟨.slot 0, (.int .i64), .pv⟩, ⟨.slot 1, (.int .i64), .pv⟩, ⟨.slot 11, (.int .i64), .pv⟩], [9, 10], []⟩)] }
theorem raw11_eq (x : Int × Int × List T27D × Unit) : afun E11 Try.f11 P11 R11 x = F11 x := by kernel_rfl
-- (*decamp/octets.Out).wide
def F59 (x : T56D × Int × Int × Unit) : Option (T56D × Unit) :=
  iterE (Int × T56D) (T56D × Unit)
    (fun (x_1 : Int × T56D) =>
      bif decide (0 ≤ x_1.fst) then
        Option.bind (shrO IntKind.u64 x.snd.fst (wrap64 (8 * x_1.fst))) fun (b : Int) =>
          Option.bind (appU x_1.snd.fst [Sx.byteOf (IntKind.wrap IntKind.u8 b)]) fun (b : List UInt8) =>
            some (Sum.inl (wrap64 (x_1.fst - 1), b, ()))
      else some (Sum.inr (x_1.snd, ())))
    big (wrap64 (x.snd.snd.fst - 1), x.fst)
def S59 : Sig := ⟨P59, R59, F59⟩
noncomputable def E59 : Env := { tab := tab, nt := 29, Γ := lookG [], joins := lookN [], loops := lookN [(2, mkLoop ⟨[⟨.slot 6, (.int .i64), .pv⟩, ⟨.fld 0 0, (.slice .u8), .own true⟩], [0, 1], [.site 0]⟩)] }
theorem raw59_eq (x : T56D × Int × Int × Unit) : afun E59 Try.f59 P59 R59 x = F59 x := by kernel_rfl
-- (*decamp/octets.Out).Num
def F50 (x : T56D × Int × Unit) : Option (T56D × Unit) :=
  Option.bind (F59 (x.fst, IntKind.wrap IntKind.u64 x.snd.fst, 8, ())) fun (b : T56D × Unit) =>
    some b
def S50 : Sig := ⟨P50, R50, F50⟩
noncomputable def E50 : Env := { tab := tab, nt := 8, Γ := lookG [(59, [S59])], joins := lookN [], loops := lookN [] }
theorem raw50_eq (x : T56D × Int × Unit) : afun E50 Try.f50 P50 R50 x = F50 x := by kernel_rfl
-- (*decamp/octets.Out).Count
def F64 (x : T56D × Int × Unit) : Option (T56D × Unit) :=
  Option.bind (F59 (x.fst, IntKind.wrap IntKind.u64 x.snd.fst, 4, ())) fun (b : T56D × Unit) =>
    some b
def S64 : Sig := ⟨P64, R64, F64⟩
noncomputable def E64 : Env := { tab := tab, nt := 8, Γ := lookG [(59, [S59])], joins := lookN [], loops := lookN [] }
theorem raw64_eq (x : T56D × Int × Unit) : afun E64 Try.f64 P64 R64 x = F64 x := by kernel_rfl
-- (*decamp/octets.Out).Bytes
def F58 (x : T56D × List UInt8 × Unit) : Option (T56D × Unit) :=
  Option.bind (F64 (x.fst, Int.ofNat (List.length x.snd.fst), ())) fun (b : T56D × Unit) =>
    Option.bind (appU b.fst.fst x.snd.fst) fun (b : List UInt8) => some ((b, ()), ())
def S58 : Sig := ⟨P58, R58, F58⟩
noncomputable def E58 : Env := { tab := tab, nt := 19, Γ := lookG [(64, [S64])], joins := lookN [], loops := lookN [] }
theorem raw58_eq (x : T56D × List UInt8 × Unit) : afun E58 Try.f58 P58 R58 x = F58 x := by kernel_rfl
-- decamp/entry.put
def F49 (x : T56D × Int × Int × List UInt8 × Unit) : Option (T56D × Unit) :=
  Option.bind (F50 (x.fst, x.snd.fst, ())) fun (b : T56D × Unit) =>
    Option.bind (F50 (b.fst, x.snd.snd.fst, ())) fun (b : T56D × Unit) =>
      Option.bind (F58 (b.fst, x.snd.snd.snd)) fun (b : T56D × Unit) => some b
def S49 : Sig := ⟨P49, R49, F49⟩
noncomputable def E49 : Env := { tab := tab, nt := 17, Γ := lookG [(50, [S50]), (58, [S58])], joins := lookN [], loops := lookN [] }
theorem raw49_eq (x : T56D × Int × Int × List UInt8 × Unit) : afun E49 Try.f49 P49 R49 x = F49 x := by kernel_rfl
-- decamp/entry.Put
def F30 (x : T56D × T27D × Unit) : Option (T56D × Unit) :=
  Option.bind (F9 x.snd) fun (b : Bool × Unit) =>
    bif !b.fst then Option.bind (F49 (x.fst, 0, 0, [], ())) fun (b : T56D × Unit) => some b
    else Option.bind (F49 (x.fst, x.snd.fst)) fun (b : T56D × Unit) => some b
def S30 : Sig := ⟨P30, R30, F30⟩
noncomputable def E30 : Env := { tab := tab, nt := 16, Γ := lookG [(9, [S9]), (49, [S49])], joins := lookN [], loops := lookN [] }
theorem raw30_eq (x : T56D × T27D × Unit) : afun E30 Try.f30 P30 R30 x = F30 x := by kernel_rfl
-- bytes.Clone
def F43 (x : List UInt8 × Unit) : Option (List UInt8 × Unit) :=
  bif List.isEmpty x.fst then
    bothE T56D (some ([], ()))
      (Option.bind (appU [] x.fst) fun (b : List UInt8) => some (b, ()))
  else Option.bind (appU [] x.fst) fun (b : List UInt8) => some (b, ())
def S43 : Sig := ⟨P43, R43, F43⟩
noncomputable def E43 : Env := { tab := tab, nt := 8, Γ := lookG [], joins := lookN [], loops := lookN [] }
theorem raw43_eq (x : List UInt8 × Unit) : afun E43 Try.f43 P43 R43 x = F43 x := by kernel_rfl
-- (*decamp/octets.Out).End
def F33 (x : T56D × Unit) : Option (List UInt8 × Int × T56D × Unit) :=
  bif decide (60000 < Int.ofNat (List.length x.fst.fst)) then some ([], 3, x)
  else Option.bind (F43 x.fst) fun (b : T56D) => some (b.fst, 0, x)
def S33 : Sig := ⟨P33, R33, F33⟩
noncomputable def E33 : Env := { tab := tab, nt := 19, Γ := lookG [(43, [S43])], joins := lookN [], loops := lookN [] }
theorem raw33_eq (x : T56D × Unit) : afun E33 Try.f33 P33 R33 x = F33 x := by kernel_rfl
-- decamp/decamplaw07.awake
def F7 (x : Unit) : Option (Bool × Unit) :=
  Option.bind (F30 (([], ()), (1, 1, [UInt8.ofNat 97], ()), ()))
    fun (b : T56D × Unit) =>
    Option.bind (F33 b) fun (b : List UInt8 × Int × T56D × Unit) =>
      bif decide (b.snd.fst = 0) then
        bif decide (Int.ofNat (List.length b.fst) = 21) then
          Option.bind (F9 ((1, 1, [UInt8.ofNat 97], ()), ())) fun (b : Bool × Unit) =>
            bif b.fst then
              Option.bind (F11 (0, 0, [(1, 1, [UInt8.ofNat 97], ())], ())) fun (b : Bool × Unit) =>
                some b
            else some (false, ())
        else some (false, ())
      else some (false, ())
def S7 : Sig := ⟨P7, R7, F7⟩
noncomputable def E7 : Env := { tab := tab, nt := 30, Γ := lookG [(9, [S9]), (11, [S11]), (30, [S30]), (33, [S33])], joins := lookN [], loops := lookN [] }
theorem raw7_eq (x : Unit) : afun E7 Try.f7 P7 R7 x = F7 x := by kernel_rfl
-- decamp/decampref07.Few
def F8 (x : List T27D × Int × Unit) : Option (Bool × Unit) :=
  iterE T24D (Bool × Unit)
    (fun (x_1 : T24D) =>
      bif decide (x_1.snd.fst < Int.ofNat (List.length x.fst)) then
        Option.bind (idx x.fst x_1.snd.fst) fun (b : T27D) =>
          bif decide (x.snd.fst ≤ x_1.snd.fst) then some (Sum.inr (false, ()))
          else
            bif decide (40000 < wrap64 (x_1.fst + Int.ofNat (List.length b.snd.snd.fst))) then
              some (Sum.inr (false, ()))
            else
              some
                (Sum.inl
                  (wrap64 (x_1.fst + Int.ofNat (List.length b.snd.snd.fst)),
                    wrap64 (x_1.snd.fst + 1), ()))
      else some (Sum.inr (true, ())))
    big (0, 0, ())
def S8 : Sig := ⟨P8, R8, F8⟩
noncomputable def E8 : Env := { tab := tab, nt := 28, Γ := lookG [], joins := lookN [], loops := lookN [(3, mkLoop ⟨[⟨.slot 5, (.int .i64), .pv⟩, ⟨.slot 9, (.int .i64), .pv⟩], [0, 1, 8], []⟩)] }
theorem raw8_eq (x : List T27D × Int × Unit) : afun E8 Try.f8 P8 R8 x = F8 x := by kernel_rfl
-- decamp/decampref07.number
def F39 (x : Int × Unit) : Option (Bool × Unit) :=
  bif decide (1 ≤ x.fst) then some (decide (x.fst ≤ 1099511627776), ()) else some (false, ())
def S39 : Sig := ⟨P39, R39, F39⟩
noncomputable def E39 : Env := { tab := tab, nt := 9, Γ := lookG [], joins := lookN [], loops := lookN [] }
theorem raw39_eq (x : Int × Unit) : afun E39 Try.f39 P39 R39 x = F39 x := by kernel_rfl
-- decamp/decampref07.Right
def F10 (x : T27D × Unit) : Option (Bool × Unit) :=
  Option.bind (F39 (x.fst.fst, ())) fun (b : Bool × Unit) =>
    bif b.fst then
      Option.bind (F39 (x.fst.snd.fst, ())) fun (b : Bool × Unit) =>
        bif b.fst then some (decide (Int.ofNat (List.length x.fst.snd.snd.fst) ≤ 12000), ())
        else some (false, ())
    else some (false, ())
def S10 : Sig := ⟨P10, R10, F10⟩
noncomputable def E10 : Env := { tab := tab, nt := 17, Γ := lookG [(39, [S39])], joins := lookN [], loops := lookN [] }
theorem raw10_eq (x : T27D × Unit) : afun E10 Try.f10 P10 R10 x = F10 x := by kernel_rfl
-- decamp/decampref07.Run
def F12 (x : Int × Int × List T27D × Unit) : Option (Bool × Unit) :=
  iterE T24D (Bool × Unit)
    (fun (x_1 : T24D) =>
      bif decide (x_1.snd.fst < Int.ofNat (List.length x.snd.snd.fst)) then
        Option.bind (idx x.snd.snd.fst x_1.snd.fst) fun (b : T27D) =>
          Option.bind (F10 (b, ())) fun (b : Bool × Unit) =>
            bif !b.fst then some (Sum.inr (false, ()))
            else
              Option.bind (idx x.snd.snd.fst x_1.snd.fst) fun (b : T27D) =>
                bif decide (b.snd.fst < x_1.fst) then some (Sum.inr (false, ()))
                else
                  Option.bind
                    (bif decide (x_1.snd.fst = 0) then
                      bif decide (x.fst < 0) then some (Sum.inr (Sum.inr (false, ())))
                      else
                        bif decide (1099511627776 ≤ x.fst) then some (Sum.inr (Sum.inr (false, ())))
                        else
                          Option.bind (idx x.snd.snd.fst x_1.snd.fst) fun (b : T27D) =>
                            bif !decide (b.fst = wrap64 (x.fst + 1)) then
                              some (Sum.inr (Sum.inr (false, ())))
                            else
                              bif decide (0 < x_1.snd.fst) then
                                Option.bind (idx x.snd.snd.fst x_1.snd.fst) fun (b : T27D) =>
                                  Option.bind (idx x.snd.snd.fst (wrap64 (x_1.snd.fst - 1)))
                                    fun (b_1 : T27D) =>
                                    bif !decide (b.fst = wrap64 (b_1.fst + 1)) then
                                      some (Sum.inr (Sum.inr (false, ())))
                                    else some (Sum.inl ())
                              else some (Sum.inl ())
                    else
                      bif decide (0 < x_1.snd.fst) then
                        Option.bind (idx x.snd.snd.fst x_1.snd.fst) fun (b : T27D) =>
                          Option.bind (idx x.snd.snd.fst (wrap64 (x_1.snd.fst - 1)))
                            fun (b_1 : T27D) =>
                            bif !decide (b.fst = wrap64 (b_1.fst + 1)) then
                              some (Sum.inr (Sum.inr (false, ())))
                            else some (Sum.inl ())
                      else some (Sum.inl ()))
                    fun (o : Unit ⊕ T24D ⊕ Bool × Unit) =>
                    Sum.elim
                      (fun (x_2 : Unit) =>
                        Option.bind (idx x.snd.snd.fst x_1.snd.fst) fun (b : T27D) =>
                          some (Sum.inl (b.snd.fst, wrap64 (x_1.snd.fst + 1), ())))
                      (fun (val : T24D ⊕ Bool × Unit) => some val) o
      else some (Sum.inr (true, ())))
    big (x.snd.fst, 0, ())
def S12 : Sig := ⟨P12, R12, F12⟩
noncomputable def E12 : Env := { tab := tab, nt := 73, Γ := lookG [(10, [S10])], joins := lookN [(8, ⟨[], [0, 2, 7, 9, 10], []⟩)], loops := lookN [(2, mkLoop ⟨[⟨.slot 1, (.int .i64), .pv⟩, ⟨.slot 10, (.int .i64), .pv⟩], [0, 2, 9], []⟩)] }
theorem raw12_eq (x : Int × Int × List T27D × Unit) : afun E12 Try.f12 P12 R12 x = F12 x := by kernel_rfl
-- decamp/entry.RightHard
def F13 (x : T24D × Unit) : Option (Bool × Unit) :=
  bif decide (0 ≤ x.fst.fst) then
    bif decide (x.fst.fst ≤ 1099511627776) then
      bif decide (-1 ≤ x.fst.snd.fst) then some (decide (x.fst.snd.fst < 3), ()) else some (false, ())
    else some (false, ())
  else some (false, ())
def S13 : Sig := ⟨P13, R13, F13⟩
noncomputable def E13 : Env := { tab := tab, nt := 21, Γ := lookG [], joins := lookN [], loops := lookN [] }
theorem raw13_eq (x : T24D × Unit) : afun E13 Try.f13 P13 R13 x = F13 x := by kernel_rfl
-- decamp/decampref07.Hard
def F14 (x : T24D × Unit) : Option (Bool × Unit) :=
  bif decide (0 ≤ x.fst.fst) then
    bif decide (x.fst.fst ≤ 1099511627776) then
      bif decide (-1 ≤ x.fst.snd.fst) then some (decide (x.fst.snd.fst ≤ 2), ()) else some (false, ())
    else some (false, ())
  else some (false, ())
def S14 : Sig := ⟨P14, R14, F14⟩
noncomputable def E14 : Env := { tab := tab, nt := 21, Γ := lookG [], joins := lookN [], loops := lookN [] }
theorem raw14_eq (x : T24D × Unit) : afun E14 Try.f14 P14 R14 x = F14 x := by kernel_rfl
-- decamp/entry.RightSnap
def F15 (x : T27D × Unit) : Option (Bool × Unit) :=
  Option.bind
    (bif decide (x.fst.fst = 0) then
      bif decide (x.fst.snd.fst = 0) then
        some (Sum.inr (decide (Int.ofNat (List.length x.fst.snd.snd.fst) = 0), ()))
      else some (Sum.inl ())
    else some (Sum.inl ()))
    fun (o : Unit ⊕ Bool × Unit) =>
    Sum.elim
      (fun (x_1 : Unit) =>
        Option.bind (F38 (x.fst.fst, ())) fun (b : Bool × Unit) =>
          bif b.fst then
            Option.bind (F38 (x.fst.snd.fst, ())) fun (b : Bool × Unit) =>
              bif b.fst then some (decide (Int.ofNat (List.length x.fst.snd.snd.fst) ≤ 50000), ())
              else some (false, ())
          else some (false, ()))
      (fun (val : Bool × Unit) => some val) o
def S15 : Sig := ⟨P15, R15, F15⟩
noncomputable def E15 : Env := { tab := tab, nt := 29, Γ := lookG [(38, [S38])], joins := lookN [(3, ⟨[], [1], [.site 1000, .fld 1000 0, .fld 1000 1, .fld 1000 2]⟩)], loops := lookN [] }
theorem raw15_eq (x : T27D × Unit) : afun E15 Try.f15 P15 R15 x = F15 x := by kernel_rfl
-- decamp/decampref07.Snap
def F16 (x : T27D × Unit) : Option (Bool × Unit) :=
  Option.bind
    (bif decide (x.fst.fst = 0) then
      bif decide (x.fst.snd.fst = 0) then
        some (Sum.inr (decide (Int.ofNat (List.length x.fst.snd.snd.fst) = 0), ()))
      else some (Sum.inl ())
    else some (Sum.inl ()))
    fun (o : Unit ⊕ Bool × Unit) =>
    Sum.elim
      (fun (x_1 : Unit) =>
        Option.bind (F39 (x.fst.fst, ())) fun (b : Bool × Unit) =>
          bif b.fst then
            Option.bind (F39 (x.fst.snd.fst, ())) fun (b : Bool × Unit) =>
              bif b.fst then some (decide (Int.ofNat (List.length x.fst.snd.snd.fst) ≤ 50000), ())
              else some (false, ())
          else some (false, ()))
      (fun (val : Bool × Unit) => some val) o
def S16 : Sig := ⟨P16, R16, F16⟩
noncomputable def E16 : Env := { tab := tab, nt := 29, Γ := lookG [(39, [S39])], joins := lookN [(3, ⟨[], [1], [.site 1000, .fld 1000 0, .fld 1000 1, .fld 1000 2]⟩)], loops := lookN [] }
theorem raw16_eq (x : T27D × Unit) : afun E16 Try.f16 P16 R16 x = F16 x := by kernel_rfl
-- decamp/decamplaw07.EntryRight
def F3 (x : List T27D × Int × Int × T24D × T27D × Unit) : Option (Bool × Unit) :=
  Option.bind (F7 ()) fun (b : Bool × Unit) =>
    bif !b.fst then Option.bind (F7 ()) fun (b : Bool × Unit) => some b
    else
      Option.bind (F8 (x.fst, 40, ())) fun (b : Bool × Unit) =>
        bif !b.fst then Option.bind (F7 ()) fun (b : Bool × Unit) => some b
        else
          bif decide (60000 < Int.ofNat (List.length x.snd.snd.snd.snd.fst.snd.snd.fst)) then
            Option.bind (F7 ()) fun (b : Bool × Unit) => some b
          else
            iterE (Int × Unit) (Bool × Unit)
              (fun (x_1 : Int × Unit) =>
                bif decide (x_1.fst < Int.ofNat (List.length x.fst)) then
                  Option.bind (idx x.fst x_1.fst) fun (b : T27D) =>
                    Option.bind (F9 (b, ())) fun (b : Bool × Unit) =>
                      Option.bind (idx x.fst x_1.fst) fun (b_1 : T27D) =>
                        Option.bind (F10 (b_1, ())) fun (b_2 : Bool × Unit) =>
                          bif !b.fst == b_2.fst then some (Sum.inr (false, ()))
                          else some (Sum.inl (wrap64 (x_1.fst + 1), ()))
                else
                  Option.map Sum.inr
                    (Option.bind (F11 (x.snd.fst, x.snd.snd.fst, x.fst, ())) fun (b : Bool × Unit) =>
                      Option.bind (F12 (x.snd.fst, x.snd.snd.fst, x.fst, ())) fun (b_1 : Bool × Unit) =>
                        bif b.fst == b_1.fst then
                          Option.bind (F13 (x.snd.snd.snd.fst, ())) fun (b : Bool × Unit) =>
                            Option.bind (F14 (x.snd.snd.snd.fst, ())) fun (b_2 : Bool × Unit) =>
                              bif b.fst == b_2.fst then
                                Option.bind (F15 x.snd.snd.snd.snd) fun (b : Bool × Unit) =>
                                  Option.bind (F16 x.snd.snd.snd.snd) fun (b_3 : Bool × Unit) =>
                                    some (b.fst == b_3.fst, ())
                              else some (false, ())
                        else some (false, ())))
              big (0, ())
def S3 : Sig := ⟨P3, R3, F3⟩
noncomputable def E3 : Env := { tab := tab, nt := 66, Γ := lookG [(7, [S7]), (8, [S8]), (9, [S9]), (10, [S10]), (11, [S11]), (12, [S12]), (13, [S13]), (14, [S14]), (15, [S15]), (16, [S16])], joins := lookN [], loops := lookN [(4, mkLoop ⟨[⟨.slot 28, (.int .i64), .pv⟩], [0, 1, 2, 8, 9, 27], [.site 2000, .fld 2000 0, .fld 2000 1, .fld 2000 2, .site 1000, .fld 1000 0, .fld 1000 1]⟩)] }
theorem raw3_eq (x : List T27D × Int × Int × T24D × T27D × Unit) : afun E3 Try.f3 P3 R3 x = F3 x := by kernel_rfl
-- bytes.Equal
def F42 (x : List UInt8 × List UInt8 × Unit) : Option (Bool × Unit) := some (decide (x.fst = x.snd.fst), ())
def S42 : Sig := ⟨P42, R42, F42⟩
noncomputable def E42 : Env := { tab := tab, nt := 10, Γ := lookG [], joins := lookN [], loops := lookN [] }
theorem raw42_eq (x : List UInt8 × List UInt8 × Unit) : afun E42 Try.f42 P42 R42 x = F42 x := by kernel_rfl
-- decamp/entry.Same$1
def F41 (x : T27D × T27D × Unit) : Option (Bool × Unit) :=
  bif decide (x.fst.fst = x.snd.fst.fst) then
    bif decide (x.fst.snd.fst = x.snd.fst.snd.fst) then
      Option.bind (F42 (x.fst.snd.snd.fst, x.snd.fst.snd.snd)) fun (b : Bool × Unit) => some b
    else some (false, ())
  else some (false, ())
def S41 : Sig := ⟨P41, R41, F41⟩
noncomputable def E41 : Env := { tab := tab, nt := 24, Γ := lookG [(42, [S42])], joins := lookN [], loops := lookN [] }
theorem raw41_eq (x : T27D × T27D × Unit) : afun E41 Try.f41 P41 R41 x = F41 x := by kernel_rfl
-- slices.EqualFunc[[]decamp/api.Entry,[]decamp/api.Entry,decamp/api.Entry,decamp/api.Entry]
def F40a (x : List T27D × List T27D × Unit) : Option (Bool × Unit) :=
  bif !decide (Int.ofNat (List.length x.fst) = Int.ofNat (List.length x.snd.fst)) then some (false, ())
  else
    iterE (Int × Unit) (Bool × Unit)
      (fun (x_1 : Int × Unit) =>
        bif decide (x_1.fst < Int.ofNat (List.length x.fst)) then
          Option.bind (idx x.fst x_1.fst) fun (b : T27D) =>
            Option.bind (idx x.snd.fst x_1.fst) fun (b_1 : T27D) =>
              Option.bind (F41 (b, b_1, ())) fun (b : Bool × Unit) =>
                bif !b.fst then some (Sum.inr (false, ()))
                else some (Sum.inl (wrap64 (x_1.fst + 1), ()))
        else some (Sum.inr (true, ())))
      big (0, ())
def S40a : Sig := ⟨P40a, R40a, F40a⟩
noncomputable def E40a : Env := { tab := tab, nt := 32, Γ := lookG [(41, [S41])], joins := lookN [], loops := lookN [(4, mkLoop ⟨[⟨.slot 17, (.int .i64), .pv⟩], [1, 2, 15, 16], []⟩)] }
theorem raw40a_eq (x : List T27D × List T27D × Unit) : afun E40a Try.f40 P40a R40a x = F40a x := by kernel_rfl
-- decamp/entry.Same
def F17 (x : List T27D × List T27D × Unit) : Option (Bool × Unit) :=
  Option.bind (F40a x) fun (b : Bool × Unit) => some b
def S17 : Sig := ⟨P17, R17, F17⟩
noncomputable def E17 : Env := { tab := tab, nt := 8, Γ := lookG [(40, [S40a]), (41, [S41])], joins := lookN [], loops := lookN [] }
theorem raw17_eq (x : List T27D × List T27D × Unit) : afun E17 Try.f17 P17 R17 x = F17 x := by kernel_rfl
-- decamp/decampref07.One
def F21 (x : T27D × T27D × Unit) : Option (Bool × Unit) :=
  bif decide (x.fst.fst = x.snd.fst.fst) then
    bif decide (x.fst.snd.fst = x.snd.fst.snd.fst) then
      some (decide (x.fst.snd.snd.fst = x.snd.fst.snd.snd.fst), ())
    else some (false, ())
  else some (false, ())
def S21 : Sig := ⟨P21, R21, F21⟩
noncomputable def E21 : Env := { tab := tab, nt := 26, Γ := lookG [], joins := lookN [], loops := lookN [] }
theorem raw21_eq (x : T27D × T27D × Unit) : afun E21 Try.f21 P21 R21 x = F21 x := by kernel_rfl
-- decamp/decampref07.Same
def F18 (x : List T27D × List T27D × Unit) : Option (Bool × Unit) :=
  bif !decide (Int.ofNat (List.length x.fst) = Int.ofNat (List.length x.snd.fst)) then some (false, ())
  else
    iterE (Int × Unit) (Bool × Unit)
      (fun (x_1 : Int × Unit) =>
        bif decide (x_1.fst < Int.ofNat (List.length x.fst)) then
          Option.bind (idx x.fst x_1.fst) fun (b : T27D) =>
            Option.bind (idx x.snd.fst x_1.fst) fun (b_1 : T27D) =>
              Option.bind (F21 (b, b_1, ())) fun (b : Bool × Unit) =>
                bif !b.fst then some (Sum.inr (false, ()))
                else some (Sum.inl (wrap64 (x_1.fst + 1), ()))
        else some (Sum.inr (true, ())))
      big (0, ())
def S18 : Sig := ⟨P18, R18, F18⟩
noncomputable def E18 : Env := { tab := tab, nt := 27, Γ := lookG [(21, [S21])], joins := lookN [], loops := lookN [(4, mkLoop ⟨[⟨.slot 13, (.int .i64), .pv⟩], [0, 1, 12], []⟩)] }
theorem raw18_eq (x : List T27D × List T27D × Unit) : afun E18 Try.f18 P18 R18 x = F18 x := by kernel_rfl
-- decamp/decamplaw07.EntrySame
def F4 (x : List T27D × List T27D × UInt8 × Unit) : Option (Bool × Unit) :=
  Option.bind (F7 ()) fun (b : Bool × Unit) =>
    bif !b.fst then Option.bind (F7 ()) fun (b : Bool × Unit) => some b
    else
      Option.bind (F8 (x.fst, 40, ())) fun (b : Bool × Unit) =>
        bif !b.fst then Option.bind (F7 ()) fun (b : Bool × Unit) => some b
        else
          Option.bind (F8 (x.snd.fst, 40, ())) fun (b : Bool × Unit) =>
            bif !b.fst then Option.bind (F7 ()) fun (b : Bool × Unit) => some b
            else
              Option.bind (F17 (x.fst, x.snd.fst, ())) fun (b : Bool × Unit) =>
                Option.bind (F18 (x.fst, x.snd.fst, ())) fun (b_1 : Bool × Unit) =>
                  bif !b.fst == b_1.fst then some (false, ())
                  else
                    Option.bind (F17 (x.fst, x.fst, ())) fun (b : Bool × Unit) =>
                      bif !b.fst then some (false, ())
                      else
                        bif decide (Int.ofNat (List.length x.fst) = 0) then some (true, ())
                        else
                          Option.bind (appO [] x.fst) fun (b : List T27D) =>
                            Option.bind
                              (remO (wrap64 (intOf8 x.snd.snd.fst)) (Int.ofNat (List.length b)))
                              fun (b_2 : Int) =>
                              Option.bind (idxN b b_2) fun (b_3 : Nat) =>
                                Option.bind b[b_3]? fun (b_4 : T27D) =>
                                  Option.bind (appU [] b_4.snd.snd.fst) fun (b_5 : List UInt8) =>
                                    Option.bind (appU b_5 [x.snd.snd.fst]) fun (b_6 : List UInt8) =>
                                      Option.bind (idxN b b_2) fun (b_7 : Nat) =>
                                        Option.bind b[b_7]? fun (b_8 : T27D) =>
                                          Option.bind
                                            (F17
                                              (x.fst, List.set b b_7 (b_8.fst, b_8.snd.fst, b_6, b_8.snd.snd.snd),
                                                ()))
                                            fun (b_9 : Bool × Unit) =>
                                            bif !b_9.fst then
                                              Option.bind
                                                (sliceO (List.set b b_7 (b_8.fst, b_8.snd.fst, b_6, b_8.snd.snd.snd)) 1
                                                  ↑(List.length
                                                      (List.set b b_7 (b_8.fst, b_8.snd.fst, b_6, b_8.snd.snd.snd))))
                                                fun (b_10 : List T27D) =>
                                                Option.bind (F17 (x.fst, b_10, ())) fun (b_11 : Bool × Unit) =>
                                                  bif !b_11.fst then
                                                    Option.bind
                                                      (F17
                                                        (List.set b b_7 (b_8.fst, b_8.snd.fst, b_6, b_8.snd.snd.snd),
                                                          List.set b b_7 (b_8.fst, b_8.snd.fst, b_6, b_8.snd.snd.snd),
                                                          ()))
                                                      fun (b : Bool × Unit) => some b
                                                  else some (false, ())
                                            else some (false, ())
def S4 : Sig := ⟨P4, R4, F4⟩
noncomputable def E4 : Env := { tab := tab, nt := 76, Γ := lookG [(7, [S7]), (8, [S8]), (17, [S17]), (18, [S18])], joins := lookN [], loops := lookN [] }
theorem raw4_eq (x : List T27D × List T27D × UInt8 × Unit) : afun E4 Try.f4 P4 R4 x = F4 x := by kernel_rfl
-- decamp/octets.NewIn
def F19 (x : List UInt8 × Unit) : Option (T41D × Unit) :=
  Option.bind (F43 x) fun (b : T56D) => some ((b.fst, false, ()), ())
def S19 : Sig := ⟨P19, R19, F19⟩
noncomputable def E19 : Env := { tab := tab, nt := 7, Γ := lookG [(43, [S43])], joins := lookN [], loops := lookN [] }
theorem raw19_eq (x : List UInt8 × Unit) : afun E19 Try.f19 P19 R19 x = F19 x := by kernel_rfl
-- (decamp/decampref03.In).Bytes
def F63 (x : T41D × Int × Unit) : Option (List UInt8 × T41D × Unit) :=
  bif x.fst.snd.fst then some ([], ([], true, ()), ())
  else
    bif decide (Int.ofNat (List.length x.fst.fst) < x.snd.fst) then some ([], ([], true, ()), ())
    else
      Option.bind (sliceO x.fst.fst 0 x.snd.fst) fun (b : List UInt8) =>
        Option.bind (sliceO x.fst.fst x.snd.fst ↑(List.length x.fst.fst)) fun (b_1 : List UInt8) =>
          some (b, (b_1, false, ()), ())
def S63 : Sig := ⟨P63, R63, F63⟩
noncomputable def E63 : Env := { tab := tab, nt := 25, Γ := lookG [], joins := lookN [], loops := lookN [] }
theorem raw63_eq (x : T41D × Int × Unit) : afun E63 Try.f63 P63 R63 x = F63 x := by kernel_rfl
-- (decamp/decampref03.In).Number
def F57 (x : T41D × Int × Unit) : Option (Int × T41D × Unit) :=
  Option.bind (F63 x) fun (b : List UInt8 × T41D × Unit) =>
    iterE T24D (Int × T41D × Unit)
      (fun (x : T24D) =>
        bif decide (x.snd.fst < Int.ofNat (List.length b.fst)) then
          Option.bind (idx b.fst x.snd.fst) fun (b : UInt8) =>
            some
              (Sum.inl
                (IntKind.wrap IntKind.u64
                    (IntKind.wrap IntKind.u64 (x.fst * 256) + IntKind.wrap IntKind.u64 (intOf8 b)),
                  wrap64 (x.snd.fst + 1), ()))
        else some (Sum.inr (x.fst, b.snd)))
      big (0, 0, ())
def S57 : Sig := ⟨P57, R57, F57⟩
noncomputable def E57 : Env := { tab := tab, nt := 32, Γ := lookG [(63, [S63])], joins := lookN [], loops := lookN [(4, mkLoop ⟨[⟨.slot 8, (.int .u64), .pv⟩, ⟨.slot 18, (.int .i64), .pv⟩], [5, 6, 7, 17], [.site 1007000, .fld 1007000 0, .fld 1007000 1, .site 3000, .fld 3000 0, .fld 3000 1]⟩)] }
theorem raw57_eq (x : T41D × Int × Unit) : afun E57 Try.f57 P57 R57 x = F57 x := by kernel_rfl
-- (decamp/decampref03.In).Num
def F48 (x : T41D × Unit) : Option (Int × T41D × Unit) :=
  Option.bind (F57 (x.fst, 8, ())) fun (b : Int × T41D × Unit) =>
    some (wrap64 b.fst, b.snd)
def S48 : Sig := ⟨P48, R48, F48⟩
noncomputable def E48 : Env := { tab := tab, nt := 14, Γ := lookG [(57, [S57])], joins := lookN [], loops := lookN [] }
theorem raw48_eq (x : T41D × Unit) : afun E48 Try.f48 P48 R48 x = F48 x := by kernel_rfl
-- (decamp/decampref03.In).Count
def F62 (x : T41D × Int × Unit) : Option (Int × T41D × Unit) :=
  Option.bind (F57 (x.fst, 4, ())) fun (b : Int × T41D × Unit) =>
    bif decide (x.snd.fst < 0) then some (0, ([], true, ()), ())
    else
      bif decide (IntKind.wrap IntKind.u64 x.snd.fst < b.fst) then some (0, ([], true, ()), ())
      else
        bif decide (IntKind.wrap IntKind.u64 (Int.ofNat (List.length b.snd.fst.fst)) < b.fst) then
          some (0, ([], true, ()), ())
        else some (wrap64 b.fst, b.snd)
def S62 : Sig := ⟨P62, R62, F62⟩
noncomputable def E62 : Env := { tab := tab, nt := 33, Γ := lookG [(57, [S57])], joins := lookN [], loops := lookN [] }
theorem raw62_eq (x : T41D × Int × Unit) : afun E62 Try.f62 P62 R62 x = F62 x := by kernel_rfl
-- (decamp/decampref03.In).Text
def F53 (x : T41D × Int × Unit) : Option (List UInt8 × T41D × Unit) :=
  Option.bind (F62 x) fun (b : Int × T41D × Unit) =>
    Option.bind (F63 (b.snd.fst, b.fst, ())) fun (b : List UInt8 × T41D × Unit) =>
      some b
def S53 : Sig := ⟨P53, R53, F53⟩
noncomputable def E53 : Env := { tab := tab, nt := 24, Γ := lookG [(62, [S62]), (63, [S63])], joins := lookN [], loops := lookN [] }
theorem raw53_eq (x : T41D × Int × Unit) : afun E53 Try.f53 P53 R53 x = F53 x := by kernel_rfl
-- decamp/decampref07.taken
def F44 (x : T41D × Int × Unit) : Option (Int × Int × List UInt8 × T41D × Unit) :=
  Option.bind (F48 (x.fst, ())) fun (b : Int × T41D × Unit) =>
    Option.bind (F48 b.snd) fun (b_1 : Int × T41D × Unit) =>
      Option.bind (F53 (b_1.snd.fst, x.snd)) fun (b_2 : List UInt8 × T41D × Unit) =>
        some (b.fst, b_1.fst, b_2)
def S44 : Sig := ⟨P44, R44, F44⟩
noncomputable def E44 : Env := { tab := tab, nt := 31, Γ := lookG [(48, [S48]), (53, [S53])], joins := lookN [], loops := lookN [] }
theorem raw44_eq (x : T41D × Int × Unit) : afun E44 Try.f44 P44 R44 x = F44 x := by kernel_rfl
-- decamp/decampref07.From
def F20 (x : T41D × Unit) : Option (T27D × T41D × Unit) :=
  Option.bind (F44 (x.fst, 12000, ())) fun (b : Int × Int × List UInt8 × T41D × Unit) =>
    bif b.snd.snd.snd.fst.snd.fst then some ((0, 0, [], ()), ([], true, ()), ())
    else
      Option.bind (F10 ((b.fst, b.snd.fst, b.snd.snd.fst, ()), ())) fun (b_1 : Bool × Unit) =>
        bif !b_1.fst then some ((0, 0, [], ()), ([], true, ()), ())
        else some ((b.fst, b.snd.fst, b.snd.snd.fst, ()), b.snd.snd.snd)
def S20 : Sig := ⟨P20, R20, F20⟩
noncomputable def E20 : Env := { tab := tab, nt := 31, Γ := lookG [(10, [S10]), (44, [S44])], joins := lookN [], loops := lookN [] }
theorem raw20_eq (x : T41D × Unit) : afun E20 Try.f20 P20 R20 x = F20 x := by kernel_rfl
-- (*decamp/octets.In).Bad
def F28 (x : T41D × Unit) : Option (Bool × T41D × Unit) := some (x.fst.snd.fst, x)
def S28 : Sig := ⟨P28, R28, F28⟩
noncomputable def E28 : Env := { tab := tab, nt := 11, Γ := lookG [], joins := lookN [], loops := lookN [] }
theorem raw28_eq (x : T41D × Unit) : afun E28 Try.f28 P28 R28 x = F28 x := by kernel_rfl
-- (*decamp/octets.In).Fail
def F47 (x : T41D × Unit) : Option (T41D × Unit) := some (([], true, ()), ())
def S47 : Sig := ⟨P47, R47, F47⟩
noncomputable def E47 : Env := { tab := tab, nt := 10, Γ := lookG [], joins := lookN [], loops := lookN [] }
theorem raw47_eq (x : T41D × Unit) : afun E47 Try.f47 P47 R47 x = F47 x := by kernel_rfl
-- (*decamp/octets.In).take
def F55 (x : T41D × Int × Unit) : Option (List UInt8 × T41D × Unit) :=
  bif x.fst.snd.fst then some ([], x.fst, ())
  else
    bif decide (Int.ofNat (List.length x.fst.fst) < x.snd.fst) then
      Option.bind (F47 (x.fst, ())) fun (b : T41D × Unit) => some ([], b)
    else
      Option.bind (sliceO x.fst.fst 0 x.snd.fst) fun (b : List UInt8) =>
        Option.bind (sliceO b 0 x.snd.fst) fun (b : List UInt8) =>
          Option.bind (sliceO x.fst.fst x.snd.fst ↑(List.length x.fst.fst)) fun (b_1 : List UInt8) =>
            some (b, (b_1, x.fst.snd), ())
def S55 : Sig := ⟨P55, R55, F55⟩
noncomputable def E55 : Env := { tab := tab, nt := 40, Γ := lookG [(47, [S47])], joins := lookN [], loops := lookN [] }
theorem raw55_eq (x : T41D × Int × Unit) : afun E55 Try.f55 P55 R55 x = F55 x := by kernel_rfl
-- (*decamp/octets.In).wide
def F54 (x : T41D × Int × Unit) : Option (Int × T41D × Unit) :=
  Option.bind (F55 x) fun (b : List UInt8 × T41D × Unit) =>
    iterE T24D (Int × T41D × Unit)
      (fun (x : T24D) =>
        bif decide (x.snd.fst < Int.ofNat (List.length b.fst)) then
          Option.bind (idx b.fst x.snd.fst) fun (b : UInt8) =>
            Option.bind (shlO IntKind.u64 x.fst 8) fun (b_1 : Int) =>
              some
                (Sum.inl
                  (bitsO BinOp.or IntKind.u64 b_1 (IntKind.wrap IntKind.u64 (intOf8 b)),
                    wrap64 (x.snd.fst + 1), ()))
        else some (Sum.inr (x.fst, b.snd)))
      big (0, 0, ())
def S54 : Sig := ⟨P54, R54, F54⟩
noncomputable def E54 : Env := { tab := tab, nt := 23, Γ := lookG [(55, [S55])], joins := lookN [], loops := lookN [(3, mkLoop ⟨[⟨.slot 5, (.int .u64), .pv⟩, ⟨.slot 12, (.int .i64), .pv⟩], [10, 11], [.site 0, .fld 0 0, .fld 0 1]⟩)] }
theorem raw54_eq (x : T41D × Int × Unit) : afun E54 Try.f54 P54 R54 x = F54 x := by kernel_rfl
-- (*decamp/octets.In).Num
def F45 (x : T41D × Unit) : Option (Int × T41D × Unit) :=
  Option.bind (F54 (x.fst, 8, ())) fun (b : Int × T41D × Unit) =>
    some (wrap64 b.fst, b.snd)
def S45 : Sig := ⟨P45, R45, F45⟩
noncomputable def E45 : Env := { tab := tab, nt := 6, Γ := lookG [(54, [S54])], joins := lookN [], loops := lookN [] }
theorem raw45_eq (x : T41D × Unit) : afun E45 Try.f45 P45 R45 x = F45 x := by kernel_rfl
-- (*decamp/octets.In).Left
def F29 (x : T41D × Unit) : Option (Int × T41D × Unit) := some (Int.ofNat (List.length x.fst.fst), x)
def S29 : Sig := ⟨P29, R29, F29⟩
noncomputable def E29 : Env := { tab := tab, nt := 10, Γ := lookG [], joins := lookN [], loops := lookN [] }
theorem raw29_eq (x : T41D × Unit) : afun E29 Try.f29 P29 R29 x = F29 x := by kernel_rfl
-- (*decamp/octets.In).Count
def F56 (x : T41D × Int × Unit) : Option (Int × T41D × Unit) :=
  Option.bind (F54 (x.fst, 4, ())) fun (b : Int × T41D × Unit) =>
    bif decide (IntKind.wrap IntKind.u64 (maxI x.snd.fst 0) < b.fst) then
      Option.bind (F47 b.snd) fun (b : T41D × Unit) => some (0, b)
    else
      Option.bind (F29 b.snd) fun (b_1 : Int × T41D × Unit) =>
        bif decide (IntKind.wrap IntKind.u64 b_1.fst < b.fst) then
          Option.bind (F47 b_1.snd) fun (b : T41D × Unit) => some (0, b)
        else
          bif decide (x.snd.fst < 0) then
            Option.bind (F47 b_1.snd) fun (b : T41D × Unit) => some (0, b)
          else some (wrap64 b.fst, b_1.snd)
def S56 : Sig := ⟨P56, R56, F56⟩
noncomputable def E56 : Env := { tab := tab, nt := 28, Γ := lookG [(29, [S29]), (47, [S47]), (54, [S54])], joins := lookN [], loops := lookN [] }
theorem raw56_eq (x : T41D × Int × Unit) : afun E56 Try.f56 P56 R56 x = F56 x := by kernel_rfl
-- (*decamp/octets.In).Bytes
def F46 (x : T41D × Int × Unit) : Option (List UInt8 × T41D × Unit) :=
  Option.bind (F56 x) fun (b : Int × T41D × Unit) =>
    Option.bind (F55 (b.snd.fst, b.fst, ())) fun (b : List UInt8 × T41D × Unit) =>
      some b
def S46 : Sig := ⟨P46, R46, F46⟩
noncomputable def E46 : Env := { tab := tab, nt := 10, Γ := lookG [(55, [S55]), (56, [S56])], joins := lookN [], loops := lookN [] }
theorem raw46_eq (x : T41D × Int × Unit) : afun E46 Try.f46 P46 R46 x = F46 x := by kernel_rfl
-- decamp/entry.Get
def F22 (x : T41D × Unit) : Option (T27D × T41D × Unit) :=
  Option.bind (F45 x) fun (b : Int × T41D × Unit) =>
    Option.bind (F45 b.snd) fun (b_1 : Int × T41D × Unit) =>
      Option.bind (F46 (b_1.snd.fst, 12000, ())) fun (b_2 : List UInt8 × T41D × Unit) =>
        Option.bind (F28 b_2.snd) fun (b_3 : Bool × T41D × Unit) =>
          bif b_3.fst then
            Option.bind (F47 b_3.snd) fun (b : T41D × Unit) => some ((0, 0, [], ()), b)
          else
            Option.bind (F9 ((b.fst, b_1.fst, b_2.fst, ()), ())) fun (b_4 : Bool × Unit) =>
              bif !b_4.fst then
                Option.bind (F47 b_3.snd) fun (b : T41D × Unit) =>
                  some ((0, 0, [], ()), b)
              else some ((b.fst, b_1.fst, b_2.fst, ()), b_3.snd)
def S22 : Sig := ⟨P22, R22, F22⟩
noncomputable def E22 : Env := { tab := tab, nt := 22, Γ := lookG [(9, [S9]), (28, [S28]), (45, [S45]), (46, [S46]), (47, [S47])], joins := lookN [], loops := lookN [] }
theorem raw22_eq (x : T41D × Unit) : afun E22 Try.f22 P22 R22 x = F22 x := by kernel_rfl
-- decamp/decampref07.HardFrom
def F23 (x : T41D × Unit) : Option (T24D × T41D × Unit) :=
  Option.bind (F48 x) fun (b : Int × T41D × Unit) =>
    Option.bind (F48 b.snd) fun (b_1 : Int × T41D × Unit) =>
      bif b_1.snd.fst.snd.fst then some ((0, 0, ()), ([], true, ()), ())
      else
        Option.bind (F14 ((b.fst, b_1.fst, ()), ())) fun (b_2 : Bool × Unit) =>
          bif !b_2.fst then some ((0, 0, ()), ([], true, ()), ())
          else some ((b.fst, b_1.fst, ()), b_1.snd)
def S23 : Sig := ⟨P23, R23, F23⟩
noncomputable def E23 : Env := { tab := tab, nt := 31, Γ := lookG [(14, [S14]), (48, [S48])], joins := lookN [], loops := lookN [] }
theorem raw23_eq (x : T41D × Unit) : afun E23 Try.f23 P23 R23 x = F23 x := by kernel_rfl
-- decamp/entry.GetHard
def F24 (x : T41D × Unit) : Option (T24D × T41D × Unit) :=
  Option.bind (F45 x) fun (b : Int × T41D × Unit) =>
    Option.bind (F45 b.snd) fun (b_1 : Int × T41D × Unit) =>
      Option.bind (F28 b_1.snd) fun (b_2 : Bool × T41D × Unit) =>
        bif b_2.fst then
          Option.bind (F47 b_2.snd) fun (b : T41D × Unit) => some ((0, 0, ()), b)
        else
          Option.bind (F13 ((b.fst, b_1.fst, ()), ())) fun (b_3 : Bool × Unit) =>
            bif !b_3.fst then
              Option.bind (F47 b_2.snd) fun (b : T41D × Unit) => some ((0, 0, ()), b)
            else some ((b.fst, b_1.fst, ()), b_2.snd)
def S24 : Sig := ⟨P24, R24, F24⟩
noncomputable def E24 : Env := { tab := tab, nt := 20, Γ := lookG [(13, [S13]), (28, [S28]), (45, [S45]), (47, [S47])], joins := lookN [], loops := lookN [] }
theorem raw24_eq (x : T41D × Unit) : afun E24 Try.f24 P24 R24 x = F24 x := by kernel_rfl
-- decamp/decampref07.SnapFrom
def F25 (x : T41D × Unit) : Option (T27D × T41D × Unit) :=
  Option.bind (F44 (x.fst, 50000, ())) fun (b : Int × Int × List UInt8 × T41D × Unit) =>
    bif b.snd.snd.snd.fst.snd.fst then some ((0, 0, [], ()), ([], true, ()), ())
    else
      Option.bind (F16 ((b.fst, b.snd.fst, b.snd.snd.fst, ()), ())) fun (b_1 : Bool × Unit) =>
        bif !b_1.fst then some ((0, 0, [], ()), ([], true, ()), ())
        else some ((b.fst, b.snd.fst, b.snd.snd.fst, ()), b.snd.snd.snd)
def S25 : Sig := ⟨P25, R25, F25⟩
noncomputable def E25 : Env := { tab := tab, nt := 31, Γ := lookG [(16, [S16]), (44, [S44])], joins := lookN [], loops := lookN [] }
theorem raw25_eq (x : T41D × Unit) : afun E25 Try.f25 P25 R25 x = F25 x := by kernel_rfl
-- decamp/decampref07.SameSnap
def F26 (x : T27D × T27D × Unit) : Option (Bool × Unit) :=
  bif decide (x.fst.fst = x.snd.fst.fst) then
    bif decide (x.fst.snd.fst = x.snd.fst.snd.fst) then
      some (decide (x.fst.snd.snd.fst = x.snd.fst.snd.snd.fst), ())
    else some (false, ())
  else some (false, ())
def S26 : Sig := ⟨P26, R26, F26⟩
noncomputable def E26 : Env := { tab := tab, nt := 26, Γ := lookG [], joins := lookN [], loops := lookN [] }
theorem raw26_eq (x : T27D × T27D × Unit) : afun E26 Try.f26 P26 R26 x = F26 x := by kernel_rfl
-- decamp/entry.GetSnap
def F27 (x : T41D × Unit) : Option (T27D × T41D × Unit) :=
  Option.bind (F45 x) fun (b : Int × T41D × Unit) =>
    Option.bind (F45 b.snd) fun (b_1 : Int × T41D × Unit) =>
      Option.bind (F46 (b_1.snd.fst, 50000, ())) fun (b_2 : List UInt8 × T41D × Unit) =>
        Option.bind (F28 b_2.snd) fun (b_3 : Bool × T41D × Unit) =>
          bif b_3.fst then
            Option.bind (F47 b_3.snd) fun (b : T41D × Unit) => some ((0, 0, [], ()), b)
          else
            Option.bind (F15 ((b.fst, b_1.fst, b_2.fst, ()), ())) fun (b_4 : Bool × Unit) =>
              bif !b_4.fst then
                Option.bind (F47 b_3.snd) fun (b : T41D × Unit) =>
                  some ((0, 0, [], ()), b)
              else some ((b.fst, b_1.fst, b_2.fst, ()), b_3.snd)
def S27 : Sig := ⟨P27, R27, F27⟩
noncomputable def E27 : Env := { tab := tab, nt := 22, Γ := lookG [(15, [S15]), (28, [S28]), (45, [S45]), (46, [S46]), (47, [S47])], joins := lookN [], loops := lookN [] }
theorem raw27_eq (x : T41D × Unit) : afun E27 Try.f27 P27 R27 x = F27 x := by kernel_rfl
-- decamp/decamplaw07.EntryGets
def F5 (x : List UInt8 × List UInt8 × Unit) : Option (Bool × Unit) :=
  Option.bind (F7 ()) fun (b : Bool × Unit) =>
    bif !b.fst then Option.bind (F7 ()) fun (b : Bool × Unit) => some b
    else
      bif decide (5000 < Int.ofNat (List.length x.fst)) then
        Option.bind (F7 ()) fun (b : Bool × Unit) => some b
      else
        bif decide (20 < Int.ofNat (List.length x.snd.fst)) then
          Option.bind (F7 ()) fun (b : Bool × Unit) => some b
        else
          Option.bind (F19 (x.fst, ())) fun (b : T41D × Unit) =>
            iterE (Int × List UInt8 × Bool × T41D) (Bool × Unit)
              (fun (x_1 : Int × List UInt8 × Bool × T41D) =>
                bif decide (x_1.fst < Int.ofNat (List.length x.snd.fst)) then
                  Option.bind
                    (Option.bind (idx x.snd.fst x_1.fst) fun (b : UInt8) =>
                      Option.bind (remO (intOf8 b) (intOf8 (UInt8.ofNat 3))) fun (b : Int) =>
                        bif decide (intOf8 (Sx.byteOf b) = intOf8 (UInt8.ofNat 0)) then
                          Option.bind (F20 ((x_1.snd.fst, x_1.snd.snd.fst, ()), ()))
                            fun (b : T27D × T41D × Unit) =>
                            Option.bind (F22 (x_1.snd.snd.snd, ()))
                              fun (b_1 : T27D × T41D × Unit) =>
                              Option.bind (F21 (b_1.fst, b.fst, ())) fun (b_2 : Bool × Unit) =>
                                some (Sum.inl (b_2.fst, b.snd.fst.fst, b.snd.fst.snd.fst, b_1.snd.fst))
                        else
                          bif decide (intOf8 (Sx.byteOf b) = intOf8 (UInt8.ofNat 1)) then
                            Option.bind (F23 ((x_1.snd.fst, x_1.snd.snd.fst, ()), ()))
                              fun (b : T24D × T41D × Unit) =>
                              Option.bind (F24 (x_1.snd.snd.snd, ()))
                                fun (b_1 : T24D × T41D × Unit) =>
                                some
                                  (Sum.inl
                                    (decide (b_1.fst.fst = b.fst.fst) &&
                                        (decide (b_1.fst.snd.fst = b.fst.snd.fst) && true),
                                      b.snd.fst.fst, b.snd.fst.snd.fst, b_1.snd.fst))
                          else
                            Option.bind (F25 ((x_1.snd.fst, x_1.snd.snd.fst, ()), ()))
                              fun (b : T27D × T41D × Unit) =>
                              Option.bind (F27 (x_1.snd.snd.snd, ()))
                                fun (b_1 : T27D × T41D × Unit) =>
                                Option.bind (F26 (b_1.fst, b.fst, ())) fun (b_2 : Bool × Unit) =>
                                  some (Sum.inl (b_2.fst, b.snd.fst.fst, b.snd.fst.snd.fst, b_1.snd.fst)))
                    fun
                      (o :
                        Bool × List UInt8 × Bool × T41D ⊕ Int × List UInt8 × Bool × T41D ⊕ Bool × Unit) =>
                    Sum.elim
                      (fun (x : Bool × List UInt8 × Bool × T41D) =>
                        bif !x.fst then some (Sum.inr (false, ()))
                        else
                          Option.bind (F28 (x.snd.snd.snd, ()))
                            fun (b : Bool × T41D × Unit) =>
                            bif !b.fst == x.snd.snd.fst then some (Sum.inr (false, ()))
                            else
                              Option.bind (F29 b.snd) fun (b : Int × T41D × Unit) =>
                                bif !decide (b.fst = Int.ofNat (List.length x.snd.fst)) then
                                  some (Sum.inr (false, ()))
                                else
                                  some
                                    (Sum.inl
                                      (wrap64 (x_1.fst + 1), x.snd.fst, x.snd.snd.fst, b.snd.fst)))
                      (fun (val : Int × List UInt8 × Bool × T41D ⊕ Bool × Unit) => some val) o
                else some (Sum.inr (true, ())))
              big (0, x.fst, false, b.fst)
def S5 : Sig := ⟨P5, R5, F5⟩
noncomputable def E5 : Env := { tab := tab, nt := 97, Γ := lookG [(7, [S7]), (19, [S19]), (20, [S20]), (21, [S21]), (22, [S22]), (23, [S23]), (24, [S24]), (25, [S25]), (26, [S26]), (27, [S27]), (28, [S28]), (29, [S29])], joins := lookN [(19, ⟨[⟨.slot 8, .bool, .pv⟩, ⟨.fld 9002000 0, (.slice .u8), .pv⟩, ⟨.fld 9002000 1, .bool, .pv⟩, ⟨.fld 3002001 0, (.slice .u8), .pv⟩, ⟨.fld 3002001 1, .bool, .pv⟩], [1, 5, 6, 9, 34, 35], [.site 9002000, .site 4003000, .fld 4003000 0, .fld 4003000 1, .site 3002001]⟩)], loops := lookN [(6, mkLoop ⟨[⟨.slot 35, (.int .i64), .pv⟩, ⟨.fld 4003000 0, (.slice .u8), .pv⟩, ⟨.fld 4003000 1, .bool, .pv⟩, ⟨.fld 3002001 0, (.slice .u8), .pv⟩, ⟨.fld 3002001 1, .bool, .pv⟩], [1, 5, 6, 34], [.site 4003000, .site 3002001]⟩)] }
theorem raw5_eq (x : List UInt8 × List UInt8 × Unit) : afun E5 Try.f5 P5 R5 x = F5 x := by kernel_rfl
-- decamp/entry.PutHard
def F31 (x : T56D × T24D × Unit) : Option (T56D × Unit) :=
  Option.bind (F13 x.snd) fun (b : Bool × Unit) =>
    bif !b.fst then
      Option.bind (F50 (x.fst, 0, ())) fun (b : T56D × Unit) =>
        Option.bind (F50 (b.fst, 0, ())) fun (b : T56D × Unit) => some b
    else
      Option.bind (F50 (x.fst, x.snd.fst.fst, ())) fun (b : T56D × Unit) =>
        Option.bind (F50 (b.fst, x.snd.fst.snd)) fun (b : T56D × Unit) => some b
def S31 : Sig := ⟨P31, R31, F31⟩
noncomputable def E31 : Env := { tab := tab, nt := 16, Γ := lookG [(13, [S13]), (50, [S50])], joins := lookN [], loops := lookN [] }
theorem raw31_eq (x : T56D × T24D × Unit) : afun E31 Try.f31 P31 R31 x = F31 x := by kernel_rfl
-- decamp/entry.PutSnap
def F32 (x : T56D × T27D × Unit) : Option (T56D × Unit) :=
  Option.bind (F15 x.snd) fun (b : Bool × Unit) =>
    bif !b.fst then Option.bind (F49 (x.fst, 0, 0, [], ())) fun (b : T56D × Unit) => some b
    else Option.bind (F49 (x.fst, x.snd.fst)) fun (b : T56D × Unit) => some b
def S32 : Sig := ⟨P32, R32, F32⟩
noncomputable def E32 : Env := { tab := tab, nt := 16, Γ := lookG [(15, [S15]), (49, [S49])], joins := lookN [], loops := lookN [] }
theorem raw32_eq (x : T56D × T27D × Unit) : afun E32 Try.f32 P32 R32 x = F32 x := by kernel_rfl
-- decamp/decampref03.Wide
def F61 (x : Int × Int × Unit) : Option (List UInt8 × Unit) :=
  Option.bind (mkO 0 x.snd.fst x.snd.fst) fun (b : List UInt8) =>
    iterE (Int × List UInt8 × Int × Unit) T56D
      (fun (x_1 : Int × List UInt8 × Int × Unit) =>
        bif decide (x_1.snd.snd.fst < x.snd.fst) then
          Option.bind
            (idxN x_1.snd.fst (wrap64 (wrap64 (x.snd.fst - 1) - x_1.snd.snd.fst)))
            fun (b : Nat) =>
            Option.bind x_1.snd.fst[b]? fun (b_1 : UInt8) =>
              Option.bind (quoO IntKind.u64 x_1.fst 256) fun (b_2 : Int) =>
                some
                  (Sum.inl
                    (b_2, List.set x_1.snd.fst b (Sx.byteOf (IntKind.wrap IntKind.u8 x_1.fst)),
                      wrap64 (x_1.snd.snd.fst + 1), ()))
        else some (Sum.inr (x_1.snd.fst, ())))
      big (x.fst, b, 0, ())
def S61 : Sig := ⟨P61, R61, F61⟩
noncomputable def E61 : Env := { tab := tab, nt := 25, Γ := lookG [], joins := lookN [], loops := lookN [(3, mkLoop ⟨[⟨.slot 0, (.int .u64), .pv⟩, ⟨.slot 5, (.slice .u8), .own false⟩, ⟨.slot 10, (.int .i64), .pv⟩], [1, 9], []⟩)] }
theorem raw61_eq (x : Int × Int × Unit) : afun E61 Try.f61 P61 R61 x = F61 x := by kernel_rfl
-- decamp/decampref03.Num
def F52 (x : Int × Unit) : Option (List UInt8 × Unit) :=
  Option.bind (F61 (IntKind.wrap IntKind.u64 x.fst, 8, ())) fun (b : T56D) => some b
def S52 : Sig := ⟨P52, R52, F52⟩
noncomputable def E52 : Env := { tab := tab, nt := 6, Γ := lookG [(61, [S61])], joins := lookN [], loops := lookN [] }
theorem raw52_eq (x : Int × Unit) : afun E52 Try.f52 P52 R52 x = F52 x := by kernel_rfl
-- decamp/decampref03.Count
def F65 (x : Int × Unit) : Option (List UInt8 × Unit) :=
  Option.bind (F61 (IntKind.wrap IntKind.u64 x.fst, 4, ())) fun (b : T56D) => some b
def S65 : Sig := ⟨P65, R65, F65⟩
noncomputable def E65 : Env := { tab := tab, nt := 6, Γ := lookG [(61, [S61])], joins := lookN [], loops := lookN [] }
theorem raw65_eq (x : Int × Unit) : afun E65 Try.f65 P65 R65 x = F65 x := by kernel_rfl
-- decamp/decampref03.Text
def F60 (x : List UInt8 × Unit) : Option (List UInt8 × Unit) :=
  Option.bind (F65 (Int.ofNat (List.length x.fst), ())) fun (b : T56D) =>
    Option.bind (appU b.fst x.fst) fun (b : List UInt8) => some (b, ())
def S60 : Sig := ⟨P60, R60, F60⟩
noncomputable def E60 : Env := { tab := tab, nt := 8, Γ := lookG [(65, [S65])], joins := lookN [], loops := lookN [] }
theorem raw60_eq (x : List UInt8 × Unit) : afun E60 Try.f60 P60 R60 x = F60 x := by kernel_rfl
-- decamp/decampref07.three
def F51 (x : Int × Int × List UInt8 × Unit) : Option (List UInt8 × Unit) :=
  Option.bind (F52 (x.fst, ())) fun (b : T56D) =>
    Option.bind (F52 (x.snd.fst, ())) fun (b_1 : T56D) =>
      Option.bind (appU b.fst b_1.fst) fun (b : List UInt8) =>
        Option.bind (F60 x.snd.snd) fun (b_2 : T56D) =>
          Option.bind (appU b b_2.fst) fun (b : List UInt8) => some (b, ())
def S51 : Sig := ⟨P51, R51, F51⟩
noncomputable def E51 : Env := { tab := tab, nt := 16, Γ := lookG [(52, [S52]), (60, [S60])], joins := lookN [], loops := lookN [] }
theorem raw51_eq (x : Int × Int × List UInt8 × Unit) : afun E51 Try.f51 P51 R51 x = F51 x := by kernel_rfl
-- decamp/decampref07.Bytes
def F34 (x : T27D × Unit) : Option (List UInt8 × Unit) :=
  Option.bind (F10 x) fun (b : Bool × Unit) =>
    bif !b.fst then Option.bind (mkO 0 20 20) fun (b : List UInt8) => some (b, ())
    else Option.bind (F51 x.fst) fun (b : T56D) => some b
def S34 : Sig := ⟨P34, R34, F34⟩
noncomputable def E34 : Env := { tab := tab, nt := 14, Γ := lookG [(10, [S10]), (51, [S51])], joins := lookN [], loops := lookN [] }
theorem raw34_eq (x : T27D × Unit) : afun E34 Try.f34 P34 R34 x = F34 x := by kernel_rfl
-- decamp/decampref07.HardBytes
def F35 (x : T24D × Unit) : Option (List UInt8 × Unit) :=
  Option.bind (F14 x) fun (b : Bool × Unit) =>
    bif !b.fst then Option.bind (mkO 0 16 16) fun (b : List UInt8) => some (b, ())
    else
      Option.bind (F52 (x.fst.fst, ())) fun (b : T56D) =>
        Option.bind (F52 x.fst.snd) fun (b_1 : T56D) =>
          Option.bind (appU b.fst b_1.fst) fun (b : List UInt8) => some (b, ())
def S35 : Sig := ⟨P35, R35, F35⟩
noncomputable def E35 : Env := { tab := tab, nt := 14, Γ := lookG [(14, [S14]), (52, [S52])], joins := lookN [], loops := lookN [] }
theorem raw35_eq (x : T24D × Unit) : afun E35 Try.f35 P35 R35 x = F35 x := by kernel_rfl
-- decamp/decampref07.SnapBytes
def F36 (x : T27D × Unit) : Option (List UInt8 × Unit) :=
  Option.bind (F16 x) fun (b : Bool × Unit) =>
    bif !b.fst then Option.bind (mkO 0 20 20) fun (b : List UInt8) => some (b, ())
    else Option.bind (F51 x.fst) fun (b : T56D) => some b
def S36 : Sig := ⟨P36, R36, F36⟩
noncomputable def E36 : Env := { tab := tab, nt := 14, Γ := lookG [(16, [S16]), (51, [S51])], joins := lookN [], loops := lookN [] }
theorem raw36_eq (x : T27D × Unit) : afun E36 Try.f36 P36 R36 x = F36 x := by kernel_rfl
-- (*decamp/octets.In).Done
def F37 (x : T41D × Unit) : Option (Bool × T41D × Unit) :=
  bif !x.fst.snd.fst then some (decide (Int.ofNat (List.length x.fst.fst) = 0), x) else some (false, x)
def S37 : Sig := ⟨P37, R37, F37⟩
noncomputable def E37 : Env := { tab := tab, nt := 20, Γ := lookG [], joins := lookN [], loops := lookN [] }
theorem raw37_eq (x : T41D × Unit) : afun E37 Try.f37 P37 R37 x = F37 x := by kernel_rfl
-- decamp/decamplaw07.EntryPuts
def F6 (x : T27D × T24D × T27D × Unit) : Option (Bool × Unit) :=
  Option.bind (F7 ()) fun (b : Bool × Unit) =>
    bif !b.fst then Option.bind (F7 ()) fun (b : Bool × Unit) => some b
    else
      bif decide (13000 < Int.ofNat (List.length x.fst.snd.snd.fst)) then
        Option.bind (F7 ()) fun (b : Bool × Unit) => some b
      else
        bif decide (45000 < Int.ofNat (List.length x.snd.snd.fst.snd.snd.fst)) then
          Option.bind (F7 ()) fun (b : Bool × Unit) => some b
        else
          Option.bind (F30 (([], ()), x.fst, ())) fun (b : T56D × Unit) =>
            Option.bind (F31 (b.fst, x.snd.fst, ())) fun (b : T56D × Unit) =>
              Option.bind (F32 (b.fst, x.snd.snd)) fun (b : T56D × Unit) =>
                Option.bind (F33 b) fun (b : List UInt8 × Int × T56D × Unit) =>
                  Option.bind (F34 (x.fst, ())) fun (b_1 : T56D) =>
                    Option.bind (F35 (x.snd.fst, ())) fun (b_2 : T56D) =>
                      Option.bind (appU b_1.fst b_2.fst) fun (b_3 : List UInt8) =>
                        Option.bind (F36 x.snd.snd) fun (b_4 : T56D) =>
                          Option.bind (appU b_3 b_4.fst) fun (b_5 : List UInt8) =>
                            bif !decide (b.snd.fst = 0) then some (false, ())
                            else
                              bif !decide (b.fst = b_5) then some (false, ())
                              else
                                Option.bind (F10 (x.fst, ())) fun (b_6 : Bool × Unit) =>
                                  bif !b_6.fst then some (true, ())
                                  else
                                    Option.bind (F14 (x.snd.fst, ())) fun (b_7 : Bool × Unit) =>
                                      bif !b_7.fst then some (true, ())
                                      else
                                        Option.bind (F16 x.snd.snd) fun (b_8 : Bool × Unit) =>
                                          bif !b_8.fst then some (true, ())
                                          else
                                            Option.bind (F19 (b.fst, ()))
                                              fun (b : T41D × Unit) =>
                                              Option.bind (F22 b)
                                                fun
                                                  (b :
                                                    T27D × T41D × Unit) =>
                                                Option.bind (F21 (b.fst, x.fst, ())) fun (b_9 : Bool × Unit) =>
                                                  bif b_9.fst then
                                                    Option.bind (F24 b.snd)
                                                      fun
                                                        (b :
                                                          T24D × T41D × Unit) =>
                                                      bif
                                                          decide (b.fst.fst = x.snd.fst.fst) &&
                                                            (decide (b.fst.snd.fst = x.snd.fst.snd.fst) && true) then
                                                        Option.bind (F27 b.snd)
                                                          fun
                                                            (b :
                                                              T27D × T41D × Unit) =>
                                                          Option.bind (F26 (b.fst, x.snd.snd))
                                                            fun (b_10 : Bool × Unit) =>
                                                            bif b_10.fst then
                                                              Option.bind (F37 b.snd)
                                                                fun (b : Bool × T41D × Unit) =>
                                                                some (b.fst, ())
                                                            else some (false, ())
                                                      else some (false, ())
                                                  else some (false, ())
def S6 : Sig := ⟨P6, R6, F6⟩
noncomputable def E6 : Env := { tab := tab, nt := 89, Γ := lookG [(7, [S7]), (10, [S10]), (14, [S14]), (16, [S16]), (19, [S19]), (21, [S21]), (22, [S22]), (24, [S24]), (26, [S26]), (27, [S27]), (30, [S30]), (31, [S31]), (32, [S32]), (33, [S33]), (34, [S34]), (35, [S35]), (36, [S36]), (37, [S37])], joins := lookN [], loops := lookN [] }
theorem raw6_eq (x : T27D × T24D × T27D × Unit) : afun E6 Try.f6 P6 R6 x = F6 x := by kernel_rfl
end
end Go.Proofs.Ytlcckfcjchghbaa
