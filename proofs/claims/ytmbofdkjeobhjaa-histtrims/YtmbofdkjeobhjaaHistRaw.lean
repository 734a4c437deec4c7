/-
  Hist: by a program of the bench (seat.py).
-/
import Derived.Test.YtmbofdkjeobhjaaHistTab
namespace Go.Proofs.Ytmbofdkjeobhjaa
open Go.Sx Go
set_option maxRecDepth 100000
noncomputable section
-- decamp/hist.number
def F32 (x : Int × Unit) : Option (Bool × Unit) :=
  bif decide (1 ≤ x.fst) then some (decide (x.fst ≤ 1099511627776), ()) else some (false, ())
def S32 : Sig := ⟨P32, R32, F32⟩
noncomputable def E32 : Env := { tab := tab, nt := 9, Γ := lookG [], joins := lookN [], loops := lookN [] }
theorem raw32_eq (x : Int × Unit) : afun E32 Try.f32 P32 R32 x = F32 x := by kernel_rfl
-- decamp/decampref14.Ver
def F30 (x : VerD × Unit) : Option (Bool × Unit) :=
  bif decide (x.fst.fst < 1) then some (false, ())
  else
    bif decide (1099511627776 < x.fst.fst) then some (false, ())
    else
      bif decide (x.fst.snd.snd.fst < 1) then some (false, ())
      else
        bif decide (1099511627776 < x.fst.snd.snd.fst) then some (false, ())
        else
          bif x.fst.snd.snd.snd.snd.snd.snd.fst then
            bif decide (x.fst.snd.fst = 0) then
              bif decide (x.fst.snd.snd.snd.fst = 0) then
                bif decide (x.fst.snd.snd.snd.snd.snd.fst = 0) then
                  some (decide (Int.ofNat (List.length x.fst.snd.snd.snd.snd.fst) = 0), ())
                else some (false, ())
              else some (false, ())
            else some (false, ())
          else
            bif decide (1 ≤ x.fst.snd.fst) then
              bif decide (x.fst.snd.fst ≤ x.fst.snd.snd.fst) then
                bif decide (1 ≤ x.fst.snd.snd.snd.fst) then
                  bif decide (x.fst.snd.snd.snd.fst ≤ 1099511627776) then
                    bif decide (Int.ofNat (List.length x.fst.snd.snd.snd.snd.fst) ≤ 40) then
                      bif decide (-1099511627776 ≤ x.fst.snd.snd.snd.snd.snd.fst) then
                        some (decide (x.fst.snd.snd.snd.snd.snd.fst ≤ 1099511627776), ())
                      else some (false, ())
                    else some (false, ())
                  else some (false, ())
                else some (false, ())
              else some (false, ())
            else some (false, ())
def S30 : Sig := ⟨P30, R30, F30⟩
noncomputable def E30 : Env := { tab := tab, nt := 78, Γ := lookG [], joins := lookN [], loops := lookN [] }
theorem raw30_eq (x : VerD × Unit) : afun E30 Try.f30 P30 R30 x = F30 x := by kernel_rfl
-- decamp/hist.right
def F29 (x : VerD × Unit) : Option (Bool × Unit) :=
  Option.bind (F32 (x.fst.fst, ())) fun (b : Bool × Unit) =>
    bif !b.fst then some (false, ())
    else
      Option.bind (F32 (x.fst.snd.snd.fst, ())) fun (b : Bool × Unit) =>
        bif !b.fst then some (false, ())
        else
          bif x.fst.snd.snd.snd.snd.snd.snd.fst then
            bif decide (x.fst.snd.fst = 0) then
              bif decide (x.fst.snd.snd.snd.fst = 0) then
                bif decide (x.fst.snd.snd.snd.snd.snd.fst = 0) then
                  some (decide (x.fst.snd.snd.snd.snd.fst = []), ())
                else some (false, ())
              else some (false, ())
            else some (false, ())
          else
            bif decide (1 ≤ x.fst.snd.fst) then
              bif decide (x.fst.snd.fst ≤ x.fst.snd.snd.fst) then
                Option.bind (F32 (x.fst.snd.snd.snd.fst, ())) fun (b : Bool × Unit) =>
                  bif b.fst then
                    bif decide (Int.ofNat (List.length x.fst.snd.snd.snd.snd.fst) ≤ 40) then
                      bif decide (-1099511627776 ≤ x.fst.snd.snd.snd.snd.snd.fst) then
                        some (decide (x.fst.snd.snd.snd.snd.snd.fst ≤ 1099511627776), ())
                      else some (false, ())
                    else some (false, ())
                  else some (false, ())
              else some (false, ())
            else some (false, ())
def S29 : Sig := ⟨P29, R29, F29⟩
noncomputable def E29 : Env := { tab := tab, nt := 64, Γ := lookG [(32, [S32])], joins := lookN [], loops := lookN [] }
theorem raw29_eq (x : VerD × Unit) : afun E29 Try.f29 P29 R29 x = F29 x := by kernel_rfl
-- slices.Clone[[]decamp/api.Ver,decamp/api.Ver]
def F31 (x : List VerD × Unit) : Option (List VerD × Unit) :=
  bif List.isEmpty x.fst then
    bothE (List VerD × Unit) (some ([], ()))
      (Option.bind (appO [] x.fst) fun (b : List VerD) =>
        some (b, ()))
  else
    Option.bind (appO [] x.fst) fun (b : List VerD) =>
      some (b, ())
def S31 : Sig := ⟨P31, R31, F31⟩
noncomputable def E31 : Env := { tab := tab, nt := 8, Γ := lookG [], joins := lookN [], loops := lookN [] }
theorem raw31_eq (x : List VerD × Unit) : afun E31 Try.f31 P31 R31 x = F31 x := by kernel_rfl
-- decamp/decampref14.Few
def F22 (x : List VerD × Unit) : Option (Bool × Unit) :=
  iterE (Int × Unit) (Bool × Unit)
    (fun (x_1 : Int × Unit) =>
      bif decide (x_1.fst < Int.ofNat (List.length x.fst)) then
        bif decide (40 ≤ x_1.fst) then some (Sum.inr (false, ()))
        else
          Option.bind (idx x.fst x_1.fst) fun (b : VerD) =>
            bif decide (100 < Int.ofNat (List.length b.snd.snd.snd.snd.fst)) then some (Sum.inr (false, ()))
            else some (Sum.inl (wrap64 (x_1.fst + 1), ()))
      else some (Sum.inr (true, ())))
    big (0, ())
def S22 : Sig := ⟨P22, R22, F22⟩
noncomputable def E22 : Env := { tab := tab, nt := 21, Γ := lookG [], joins := lookN [], loops := lookN [(2, mkLoop ⟨[⟨.slot 6, (.int .i64), .pv⟩], [0, 5], []⟩)] }
theorem raw22_eq (x : List VerD × Unit) : afun E22 Try.f22 P22 R22 x = F22 x := by kernel_rfl
-- decamp/decampref14.Same
def F14 (x : List VerD × List VerD × Unit) : Option (Bool × Unit) :=
  bif !decide (Int.ofNat (List.length x.fst) = Int.ofNat (List.length x.snd.fst)) then some (false, ())
  else
    iterE (Int × Unit) (Bool × Unit)
      (fun (x_1 : Int × Unit) =>
        bif decide (x_1.fst < Int.ofNat (List.length x.fst)) then
          Option.bind (idx x.fst x_1.fst) fun (b : VerD) =>
            Option.bind (idx x.snd.fst x_1.fst) fun (b_1 : VerD) =>
              bif
                  !(decide (b.fst = b_1.fst) &&
                      (decide (b.snd.fst = b_1.snd.fst) &&
                        (decide (b.snd.snd.fst = b_1.snd.snd.fst) &&
                          (decide (b.snd.snd.snd.fst = b_1.snd.snd.snd.fst) &&
                            (decide (b.snd.snd.snd.snd.fst = b_1.snd.snd.snd.snd.fst) &&
                              (decide (b.snd.snd.snd.snd.snd.fst = b_1.snd.snd.snd.snd.snd.fst) &&
                                (b.snd.snd.snd.snd.snd.snd.fst == b_1.snd.snd.snd.snd.snd.snd.fst && true))))))) then
                some (Sum.inr (false, ()))
              else some (Sum.inl (wrap64 (x_1.fst + 1), ()))
        else some (Sum.inr (true, ())))
      big (0, ())
def S14 : Sig := ⟨P14, R14, F14⟩
noncomputable def E14 : Env := { tab := tab, nt := 26, Γ := lookG [], joins := lookN [], loops := lookN [(4, mkLoop ⟨[⟨.slot 13, (.int .i64), .pv⟩], [0, 1, 12], []⟩)] }
theorem raw14_eq (x : List VerD × List VerD × Unit) : afun E14 Try.f14 P14 R14 x = F14 x := by kernel_rfl
-- decamp/hist.Right
def F12 (x : List VerD × Unit) : Option (Bool × Unit) :=
  iterE (Int × Unit) (Bool × Unit)
    (fun (x_1 : Int × Unit) =>
      bif decide (x_1.fst < Int.ofNat (List.length x.fst)) then
        Option.bind (idx x.fst x_1.fst) fun (b : VerD) =>
          Option.bind (F29 (b, ())) fun (b_1 : Bool × Unit) =>
            bif !b_1.fst then some (Sum.inr (false, ()))
            else
              bif decide (0 < x_1.fst) then
                Option.bind (idx x.fst (wrap64 (x_1.fst - 1)))
                  fun (b_2 : VerD) =>
                  bif decide (b.fst ≤ b_2.fst) then some (Sum.inr (false, ()))
                  else
                    Option.bind (idx x.fst (wrap64 (x_1.fst - 1)))
                      fun (b_3 : VerD) =>
                      bif decide (b.snd.snd.fst ≤ b_3.snd.snd.fst) then some (Sum.inr (false, ()))
                      else some (Sum.inl (wrap64 (x_1.fst + 1), ()))
              else some (Sum.inl (wrap64 (x_1.fst + 1), ()))
      else some (Sum.inr (true, ())))
    big (0, ())
def S12 : Sig := ⟨P12, R12, F12⟩
noncomputable def E12 : Env := { tab := tab, nt := 42, Γ := lookG [(29, [S29])], joins := lookN [], loops := lookN [(2, mkLoop ⟨[⟨.slot 7, (.int .i64), .pv⟩], [0, 5, 6], []⟩)] }
theorem raw12_eq (x : List VerD × Unit) : afun E12 Try.f12 P12 R12 x = F12 x := by kernel_rfl
-- decamp/hist.Add
def F27 (x : List VerD × VerD × Unit) : Option (List VerD × Int × Unit) :=
  Option.bind (F31 (x.fst, ()))
    fun (b : List VerD × Unit) =>
    Option.bind (appO b.fst [x.snd.fst]) fun (b : List VerD) =>
      Option.bind (F12 (b, ())) fun (b_1 : Bool × Unit) =>
        bif !b_1.fst then some ([], 1, ()) else some (b, 0, ())
def S27 : Sig := ⟨P27, R27, F27⟩
noncomputable def E27 : Env := { tab := tab, nt := 16, Γ := lookG [(12, [S12]), (31, [S31])], joins := lookN [], loops := lookN [] }
theorem raw27_eq (x : List VerD × VerD × Unit) : afun E27 Try.f27 P27 R27 x = F27 x := by kernel_rfl
-- decamp/hist.At
def F15 (x : List VerD × Int × Unit) : Option (VerD × Bool × Unit) :=
  Option.bind
    (Option.bind (F12 (x.fst, ())) fun (b : Bool × Unit) =>
      bif b.fst then
        iterE (Int × VerD)
          (VerD ⊕ VerD × Bool × Unit)
          (fun (x_1 : Int × VerD) =>
            bif decide (x_1.fst < Int.ofNat (List.length x.fst)) then
              Option.bind (idx x.fst x_1.fst) fun (b : VerD) =>
                bif decide (b.fst ≤ x.snd.fst) then some (Sum.inl (wrap64 (x_1.fst + 1), b))
                else some (Sum.inl (wrap64 (x_1.fst + 1), x_1.snd))
            else some (Sum.inr (Sum.inl x_1.snd)))
          big (0, 0, 0, 0, 0, [], 0, false, ())
      else some (Sum.inl (0, 0, 0, 0, [], 0, false, ())))
    fun
      (o :
        VerD ⊕ VerD × Bool × Unit) =>
    Sum.elim
      (fun (x : VerD) =>
        bif decide (x.fst = 0) then some ((0, 0, 0, 0, [], 0, false, ()), false, ())
        else
          bif x.snd.snd.snd.snd.snd.snd.fst then some ((0, 0, 0, 0, [], 0, false, ()), false, ())
          else some (x, true, ()))
      (fun (val : VerD × Bool × Unit) => some val) o
def S15 : Sig := ⟨P15, R15, F15⟩
noncomputable def E15 : Env := { tab := tab, nt := 32, Γ := lookG [(12, [S12])], joins := lookN [(9, ⟨[⟨.fld 1001000 0, (.int .i64), .pv⟩, ⟨.fld 1001000 1, (.int .i64), .pv⟩, ⟨.fld 1001000 2, (.int .i64), .pv⟩, ⟨.fld 1001000 3, (.int .i64), .pv⟩, ⟨.fld 1001000 4, .str, .pv⟩, ⟨.fld 1001000 5, (.int .i64), .pv⟩, ⟨.fld 1001000 6, .bool, .pv⟩], [4, 6], [.site 1001000, .site 1000, .fld 1000 0, .fld 1000 1, .fld 1000 2, .fld 1000 3, .fld 1000 4, .fld 1000 5, .fld 1000 6]⟩)], loops := lookN [(4, mkLoop ⟨[⟨.slot 13, (.int .i64), .pv⟩, ⟨.fld 1001000 0, (.int .i64), .pv⟩, ⟨.fld 1001000 1, (.int .i64), .pv⟩, ⟨.fld 1001000 2, (.int .i64), .pv⟩, ⟨.fld 1001000 3, (.int .i64), .pv⟩, ⟨.fld 1001000 4, .str, .pv⟩, ⟨.fld 1001000 5, (.int .i64), .pv⟩, ⟨.fld 1001000 6, .bool, .pv⟩], [1, 4, 6, 11, 12], [.site 1001000, .site 1000, .fld 1000 0, .fld 1000 1, .fld 1000 2, .fld 1000 3, .fld 1000 4, .fld 1000 5, .fld 1000 6]⟩)] }
theorem raw15_eq (x : List VerD × Int × Unit) : afun E15 Try.f15 P15 R15 x = F15 x := by kernel_rfl
-- decamp/hist.Live
def F17 (x : List VerD × Unit) : Option (VerD × Bool × Unit) :=
  Option.bind (F15 (x.fst, 1099511627776, ()))
    fun (b : VerD × Bool × Unit) => some b
def S17 : Sig := ⟨P17, R17, F17⟩
noncomputable def E17 : Env := { tab := tab, nt := 8, Γ := lookG [(15, [S15])], joins := lookN [], loops := lookN [] }
theorem raw17_eq (x : List VerD × Unit) : afun E17 Try.f17 P17 R17 x = F17 x := by kernel_rfl
-- decamp/hist.Put
def F13 (x : List VerD × Int × Int × List UInt8 × Int × Unit) : Option (List VerD × Int × Unit) :=
  Option.bind (F17 (x.fst, ()))
    fun (b : VerD × Bool × Unit) =>
    bif b.snd.fst then
      Option.bind
        (F27
          (x.fst,
            (x.snd.fst, b.fst.snd.fst, x.snd.snd.fst, wrap64 (b.fst.snd.snd.snd.fst + 1),
              x.snd.snd.snd.fst, x.snd.snd.snd.snd.fst, false, ()),
            ()))
        fun (b : List VerD × Int × Unit) => some b
    else
      Option.bind
        (F27
          (x.fst,
            (x.snd.fst, x.snd.snd.fst, x.snd.snd.fst, 1, x.snd.snd.snd.fst, x.snd.snd.snd.snd.fst, false, ()),
            ()))
        fun (b : List VerD × Int × Unit) => some b
def S13 : Sig := ⟨P13, R13, F13⟩
noncomputable def E13 : Env := { tab := tab, nt := 39, Γ := lookG [(17, [S17]), (27, [S27])], joins := lookN [], loops := lookN [] }
theorem raw13_eq (x : List VerD × Int × Int × List UInt8 × Int × Unit) : afun E13 Try.f13 P13 R13 x = F13 x := by kernel_rfl
-- decamp/hist.Del
def F25 (x : List VerD × Int × Int × Unit) : Option (List VerD × Int × Unit) :=
  Option.bind (F27 (x.fst, (x.snd.fst, 0, x.snd.snd.fst, 0, [], 0, true, ()), ()))
    fun (b : List VerD × Int × Unit) =>
    bif !decide (b.snd.fst = 0) then some ([], b.snd)
    else
      Option.bind (F17 (x.fst, ()))
        fun (b_1 : VerD × Bool × Unit) =>
        bif !b_1.snd.fst then some ([], 6, ()) else some (b.fst, 0, ())
def S25 : Sig := ⟨P25, R25, F25⟩
noncomputable def E25 : Env := { tab := tab, nt := 31, Γ := lookG [(17, [S17]), (27, [S27])], joins := lookN [], loops := lookN [] }
theorem raw25_eq (x : List VerD × Int × Int × Unit) : afun E25 Try.f25 P25 R25 x = F25 x := by kernel_rfl
-- decamp/hist.Since
def F18 (x : List VerD × Int × Int × Unit) : Option (List VerD × Unit) :=
  Option.bind (F12 (x.fst, ())) fun (b : Bool × Unit) =>
    bif b.fst then
      iterE (List VerD × Int × Unit)
        (List VerD × Unit)
        (fun (x_1 : List VerD × Int × Unit) =>
          bif decide (x_1.snd.fst < Int.ofNat (List.length x.fst)) then
            Option.bind (idx x.fst x_1.snd.fst) fun (b : VerD) =>
              bif decide (x.snd.fst ≤ b.fst) then
                bif decide (b.fst ≤ x.snd.snd.fst) then
                  Option.bind (appO x_1.fst [b])
                    fun (b : List VerD) =>
                    some (Sum.inl (b, wrap64 (x_1.snd.fst + 1), ()))
                else some (Sum.inl (x_1.fst, wrap64 (x_1.snd.fst + 1), ()))
              else some (Sum.inl (x_1.fst, wrap64 (x_1.snd.fst + 1), ()))
          else some (Sum.inr (x_1.fst, ())))
        big ([], 0, ())
    else some ([], ())
def S18 : Sig := ⟨P18, R18, F18⟩
noncomputable def E18 : Env := { tab := tab, nt := 34, Γ := lookG [(12, [S12])], joins := lookN [], loops := lookN [(4, mkLoop ⟨[⟨.slot 7, (.slice Ver), .own false⟩, ⟨.slot 14, (.int .i64), .pv⟩], [1, 2, 12, 13], []⟩)] }
theorem raw18_eq (x : List VerD × Int × Int × Unit) : afun E18 Try.f18 P18 R18 x = F18 x := by kernel_rfl
-- decamp/hist.Trim
def F20 (x : List VerD × Int × Unit) : Option (List VerD × Unit) :=
  Option.bind (F12 (x.fst, ())) fun (b : Bool × Unit) =>
    bif !b.fst then some ([], ())
    else
      iterE (List VerD × Int × Unit)
        (List VerD × Unit)
        (fun (x_1 : List VerD × Int × Unit) =>
          bif decide (x_1.snd.fst < Int.ofNat (List.length x.fst)) then
            Option.bind (idx x.fst x_1.snd.fst) fun (b : VerD) =>
              Option.bind
                (bif decide (wrap64 (x_1.snd.fst + 1) < Int.ofNat (List.length x.fst)) then
                  Option.bind (idx x.fst (wrap64 (x_1.snd.fst + 1)))
                    fun (b : VerD) =>
                    some (Sum.inl (decide (b.fst ≤ x.snd.fst), ()))
                else some (Sum.inl (false, ())))
                fun
                  (o :
                    Bool × Unit ⊕ List VerD × Int × Unit ⊕ List VerD × Unit) =>
                Sum.elim
                  (fun (x_2 : Bool × Unit) =>
                    bif decide (x.snd.fst < b.fst) then
                      Option.bind (appO x_1.fst [b])
                        fun (b : List VerD) =>
                        some (Sum.inl (b, wrap64 (x_1.snd.fst + 1), ()))
                    else
                      bif !x_2.fst then
                        bif !b.snd.snd.snd.snd.snd.snd.fst then
                          Option.bind (appO x_1.fst [b])
                            fun (b : List VerD) =>
                            some (Sum.inl (b, wrap64 (x_1.snd.fst + 1), ()))
                        else some (Sum.inl (x_1.fst, wrap64 (x_1.snd.fst + 1), ()))
                      else some (Sum.inl (x_1.fst, wrap64 (x_1.snd.fst + 1), ())))
                  (fun
                      (val :
                        List VerD × Int × Unit ⊕ List VerD × Unit) =>
                    some val)
                  o
          else some (Sum.inr (x_1.fst, ())))
        big ([], 0, ())
def S20 : Sig := ⟨P20, R20, F20⟩
noncomputable def E20 : Env := { tab := tab, nt := 53, Γ := lookG [(12, [S12])], joins := lookN [(8, ⟨[⟨.slot 8, .bool, .pv⟩], [0, 1, 5, 7, 12, 13, 14], [.site 6004000, .fld 6004000 0, .fld 6004000 1, .fld 6004000 2, .fld 6004000 3, .fld 6004000 4, .fld 6004000 5, .fld 6004000 6, .row 50005000]⟩)], loops := lookN [(5, mkLoop ⟨[⟨.slot 5, (.slice Ver), .own false⟩, ⟨.slot 14, (.int .i64), .pv⟩], [0, 1, 12, 13], []⟩)] }
theorem raw20_eq (x : List VerD × Int × Unit) : afun E20 Try.f20 P20 R20 x = F20 x := by kernel_rfl
-- decamp/decampref14.Right
def F23 (x : List VerD × Unit) : Option (Bool × Unit) :=
  iterE (Int × Unit) (Bool × Unit)
    (fun (x_1 : Int × Unit) =>
      bif decide (x_1.fst < Int.ofNat (List.length x.fst)) then
        Option.bind (idx x.fst x_1.fst) fun (b : VerD) =>
          Option.bind (F30 (b, ())) fun (b : Bool × Unit) =>
            bif !b.fst then some (Sum.inr (false, ()))
            else
              bif decide (0 < x_1.fst) then
                Option.bind (idx x.fst x_1.fst) fun (b : VerD) =>
                  Option.bind (idx x.fst (wrap64 (x_1.fst - 1)))
                    fun (b_1 : VerD) =>
                    bif decide (b.fst ≤ b_1.fst) then some (Sum.inr (false, ()))
                    else
                      Option.bind (idx x.fst x_1.fst)
                        fun (b : VerD) =>
                        Option.bind (idx x.fst (wrap64 (x_1.fst - 1)))
                          fun (b_2 : VerD) =>
                          bif decide (b.snd.snd.fst ≤ b_2.snd.snd.fst) then some (Sum.inr (false, ()))
                          else some (Sum.inl (wrap64 (x_1.fst + 1), ()))
              else some (Sum.inl (wrap64 (x_1.fst + 1), ()))
      else some (Sum.inr (true, ())))
    big (0, ())
def S23 : Sig := ⟨P23, R23, F23⟩
noncomputable def E23 : Env := { tab := tab, nt := 46, Γ := lookG [(30, [S30])], joins := lookN [], loops := lookN [(2, mkLoop ⟨[⟨.slot 6, (.int .i64), .pv⟩], [0, 5], []⟩)] }
theorem raw23_eq (x : List VerD × Unit) : afun E23 Try.f23 P23 R23 x = F23 x := by kernel_rfl
-- decamp/decampref14.Add
def F28 (x : List VerD × VerD × Unit) : Option (List VerD × Bool × Unit) :=
  Option.bind (appO [] x.fst) fun (b : List VerD) =>
    Option.bind (appO b [x.snd.fst]) fun (b : List VerD) =>
      Option.bind (F23 (b, ())) fun (b_1 : Bool × Unit) =>
        bif !b_1.fst then some ([], false, ()) else some (b, true, ())
def S28 : Sig := ⟨P28, R28, F28⟩
noncomputable def E28 : Env := { tab := tab, nt := 17, Γ := lookG [(23, [S23])], joins := lookN [], loops := lookN [] }
theorem raw28_eq (x : List VerD × VerD × Unit) : afun E28 Try.f28 P28 R28 x = F28 x := by kernel_rfl
-- decamp/decampref14.Put
def F24 (x : List VerD × Int × Int × List UInt8 × Int × Unit) : Option (List VerD × Bool × Unit) :=
  Option.bind
    (bif decide (0 < Int.ofNat (List.length x.fst)) then
      Option.bind (idx x.fst (wrap64 (Int.ofNat (List.length x.fst) - 1)))
        fun (b : VerD) =>
        bif !b.snd.snd.snd.snd.snd.snd.fst then
          Option.bind (idx x.fst (wrap64 (Int.ofNat (List.length x.fst) - 1)))
            fun (b : VerD) =>
            bif decide (1099511627776 ≤ b.snd.snd.snd.fst) then some (Sum.inr ([], false, ()))
            else
              Option.bind (idx x.fst (wrap64 (Int.ofNat (List.length x.fst) - 1)))
                fun (b : VerD) =>
                Option.bind (idx x.fst (wrap64 (Int.ofNat (List.length x.fst) - 1)))
                  fun (b_1 : VerD) =>
                  some (Sum.inl (b.snd.fst, wrap64 (b_1.snd.snd.snd.fst + 1), ()))
        else some (Sum.inl (x.snd.snd.fst, 1, ()))
    else some (Sum.inl (x.snd.snd.fst, 1, ())))
    fun (o : Int × Int × Unit ⊕ List VerD × Bool × Unit) =>
    Sum.elim
      (fun (x_1 : Int × Int × Unit) =>
        Option.bind
          (F28
            (x.fst,
              (x.snd.fst, x_1.fst, x.snd.snd.fst, x_1.snd.fst, x.snd.snd.snd.fst, x.snd.snd.snd.snd.fst, false,
                ()),
              ()))
          fun (b : List VerD × Bool × Unit) => some b)
      (fun (val : List VerD × Bool × Unit) => some val) o
def S24 : Sig := ⟨P24, R24, F24⟩
noncomputable def E24 : Env := { tab := tab, nt := 60, Γ := lookG [(28, [S28])], joins := lookN [(7, ⟨[⟨.fld 1007000 1, (.int .i64), .pv⟩, ⟨.fld 1007000 3, (.int .i64), .pv⟩], [0, 12], [.site 1007000, .fld 1007000 0, .fld 1007000 2, .fld 1007000 4, .fld 1007000 5, .fld 1007000 6]⟩)], loops := lookN [] }
theorem raw24_eq (x : List VerD × Int × Int × List UInt8 × Int × Unit) : afun E24 Try.f24 P24 R24 x = F24 x := by kernel_rfl
-- decamp/decampref14.Del
def F26 (x : List VerD × Int × Int × Unit) : Option (List VerD × Int × Unit) :=
  Option.bind (F28 (x.fst, (x.snd.fst, 0, x.snd.snd.fst, 0, [], 0, true, ()), ()))
    fun (b : List VerD × Bool × Unit) =>
    bif !b.snd.fst then some ([], 1, ())
    else
      bif decide (Int.ofNat (List.length x.fst) = 0) then some ([], 6, ())
      else
        Option.bind (idx x.fst (wrap64 (Int.ofNat (List.length x.fst) - 1)))
          fun (b_1 : VerD) =>
          bif b_1.snd.snd.snd.snd.snd.snd.fst then some ([], 6, ()) else some (b.fst, 0, ())
def S26 : Sig := ⟨P26, R26, F26⟩
noncomputable def E26 : Env := { tab := tab, nt := 34, Γ := lookG [(28, [S28])], joins := lookN [], loops := lookN [] }
theorem raw26_eq (x : List VerD × Int × Int × Unit) : afun E26 Try.f26 P26 R26 x = F26 x := by kernel_rfl
-- decamp/decampref14.At
def F16 (x : List VerD × Int × Unit) : Option (VerD × Bool × Unit) :=
  Option.bind (F23 (x.fst, ())) fun (b : Bool × Unit) =>
    bif !b.fst then some ((0, 0, 0, 0, [], 0, false, ()), false, ())
    else
      iterE (Int × VerD)
        (VerD × Bool × Unit)
        (fun (x_1 : Int × VerD) =>
          bif decide (0 ≤ x_1.fst) then
            Option.bind (idx x.fst x_1.fst) fun (b : VerD) =>
              bif decide (b.fst ≤ x.snd.fst) then
                Option.bind (idx x.fst x_1.fst) fun (b : VerD) =>
                  bif b.snd.snd.snd.snd.snd.snd.fst then
                    some (Sum.inr ((0, 0, 0, 0, [], 0, false, ()), false, ()))
                  else
                    Option.bind (idx x.fst x_1.fst) fun (b : VerD) =>
                      some (Sum.inr (b, true, ()))
              else some (Sum.inl (wrap64 (x_1.fst - 1), x_1.snd))
          else some (Sum.inr ((0, 0, 0, 0, [], 0, false, ()), false, ())))
        big (wrap64 (Int.ofNat (List.length x.fst) - 1), 0, 0, 0, 0, [], 0, false, ())
def S16 : Sig := ⟨P16, R16, F16⟩
noncomputable def E16 : Env := { tab := tab, nt := 36, Γ := lookG [(23, [S23])], joins := lookN [], loops := lookN [(4, mkLoop ⟨[⟨.slot 6, (.int .i64), .pv⟩, ⟨.fld 1000 0, (.int .i64), .pv⟩, ⟨.fld 1000 1, (.int .i64), .pv⟩, ⟨.fld 1000 2, (.int .i64), .pv⟩, ⟨.fld 1000 3, (.int .i64), .pv⟩, ⟨.fld 1000 4, .str, .pv⟩, ⟨.fld 1000 5, (.int .i64), .pv⟩, ⟨.fld 1000 6, .bool, .pv⟩], [0, 1, 4], [.site 1000]⟩)] }
theorem raw16_eq (x : List VerD × Int × Unit) : afun E16 Try.f16 P16 R16 x = F16 x := by kernel_rfl
-- decamp/decampref14.Since
def F19 (x : List VerD × Int × Int × Unit) : Option (List VerD × Unit) :=
  iterE (List VerD × Int × Unit)
    (List VerD × Unit)
    (fun (x_1 : List VerD × Int × Unit) =>
      bif decide (x_1.snd.fst < Int.ofNat (List.length x.fst)) then
        Option.bind (F23 (x.fst, ())) fun (b : Bool × Unit) =>
          bif b.fst then
            Option.bind (idx x.fst x_1.snd.fst) fun (b : VerD) =>
              bif decide (x.snd.fst ≤ b.fst) then
                Option.bind (idx x.fst x_1.snd.fst) fun (b : VerD) =>
                  bif decide (b.fst ≤ x.snd.snd.fst) then
                    Option.bind (idx x.fst x_1.snd.fst)
                      fun (b : VerD) =>
                      Option.bind (appO x_1.fst [b])
                        fun (b : List VerD) =>
                        some (Sum.inl (b, wrap64 (x_1.snd.fst + 1), ()))
                  else some (Sum.inl (x_1.fst, wrap64 (x_1.snd.fst + 1), ()))
              else some (Sum.inl (x_1.fst, wrap64 (x_1.snd.fst + 1), ()))
          else some (Sum.inl (x_1.fst, wrap64 (x_1.snd.fst + 1), ()))
      else some (Sum.inr (x_1.fst, ())))
    big ([], 0, ())
def S19 : Sig := ⟨P19, R19, F19⟩
noncomputable def E19 : Env := { tab := tab, nt := 43, Γ := lookG [(23, [S23])], joins := lookN [], loops := lookN [(3, mkLoop ⟨[⟨.slot 7, (.slice Ver), .own false⟩, ⟨.slot 11, (.int .i64), .pv⟩], [0, 1, 2, 10], []⟩)] }
theorem raw19_eq (x : List VerD × Int × Int × Unit) : afun E19 Try.f19 P19 R19 x = F19 x := by kernel_rfl
-- decamp/decampref14.Trim
def F21 (x : List VerD × Int × Unit) : Option (List VerD × Unit) :=
  Option.bind (F23 (x.fst, ())) fun (b : Bool × Unit) =>
    bif !b.fst then some ([], ())
    else
      Option.bind
        (Option.bind (F16 x) fun (b : VerD × Bool × Unit) =>
          bif b.snd.fst then
            Option.bind (appO [] [b.fst]) fun (b : List VerD) =>
              some (Sum.inl (b, ()))
          else some (Sum.inl ([], ())))
        fun
          (o :
            List VerD × Unit ⊕ List VerD × Unit) =>
        Sum.elim
          (fun (x_1 : List VerD × Unit) =>
            iterE (List VerD × Int × Unit)
              (List VerD × Unit)
              (fun (x_2 : List VerD × Int × Unit) =>
                bif decide (x_2.snd.fst < Int.ofNat (List.length x.fst)) then
                  Option.bind (idx x.fst x_2.snd.fst)
                    fun (b : VerD) =>
                    bif decide (x.snd.fst < b.fst) then
                      Option.bind (idx x.fst x_2.snd.fst)
                        fun (b : VerD) =>
                        Option.bind (appO x_2.fst [b])
                          fun (b : List VerD) =>
                          some (Sum.inl (b, wrap64 (x_2.snd.fst + 1), ()))
                    else some (Sum.inl (x_2.fst, wrap64 (x_2.snd.fst + 1), ()))
                else some (Sum.inr (x_2.fst, ())))
              big (x_1.fst, 0, ()))
          (fun (val : List VerD × Unit) => some val) o
def S21 : Sig := ⟨P21, R21, F21⟩
noncomputable def E21 : Env := { tab := tab, nt := 45, Γ := lookG [(16, [S16]), (23, [S23])], joins := lookN [(7, ⟨[⟨.slot 5, (.slice Ver), .own false⟩], [0, 1], []⟩)], loops := lookN [(8, mkLoop ⟨[⟨.slot 5, (.slice Ver), .own false⟩, ⟨.slot 26, (.int .i64), .pv⟩], [0, 1, 25], []⟩)] }
theorem raw21_eq (x : List VerD × Int × Unit) : afun E21 Try.f21 P21 R21 x = F21 x := by kernel_rfl
-- decamp/decamplaw14.awake
def F9 (x : Unit) : Option (Bool × Unit) :=
  Option.bind (F13 ([], 5, 5, [97], 0, ()))
    fun (b : List VerD × Int × Unit) =>
    Option.bind (F17 (b.fst, ()))
      fun (b_1 : VerD × Bool × Unit) =>
      bif decide (b.snd.fst = 0) then
        bif b_1.snd.fst then
          bif decide (b_1.fst.snd.snd.snd.snd.fst = [97]) then some (decide (b_1.fst.snd.snd.snd.fst = 1), ())
          else some (false, ())
        else some (false, ())
      else some (false, ())
def S9 : Sig := ⟨P9, R9, F9⟩
noncomputable def E9 : Env := { tab := tab, nt := 29, Γ := lookG [(13, [S13]), (17, [S17])], joins := lookN [], loops := lookN [] }
theorem raw9_eq (x : Unit) : afun E9 Try.f9 P9 R9 x = F9 x := by kernel_rfl
-- decamp/decamplaw14.few
def F10 (x : List ActD × Unit) : Option (Bool × Unit) :=
  iterE (Int × Unit) (Bool × Unit)
    (fun (x_1 : Int × Unit) =>
      bif decide (x_1.fst < Int.ofNat (List.length x.fst)) then
        bif decide (40 ≤ x_1.fst) then some (Sum.inr (false, ()))
        else
          Option.bind (idx x.fst x_1.fst)
            fun
              (b :
                ActD) =>
            bif decide (100 < Int.ofNat (List.length b.snd.snd.snd.fst)) then some (Sum.inr (false, ()))
            else
              Option.bind (idx x.fst x_1.fst)
                fun
                  (b :
                    ActD) =>
                bif decide (100 < Int.ofNat (List.length b.snd.snd.snd.snd.snd.fst.snd.snd.snd.snd.fst)) then
                  some (Sum.inr (false, ()))
                else some (Sum.inl (wrap64 (x_1.fst + 1), ()))
      else some (Sum.inr (true, ())))
    big (0, ())
def S10 : Sig := ⟨P10, R10, F10⟩
noncomputable def E10 : Env := { tab := tab, nt := 31, Γ := lookG [], joins := lookN [], loops := lookN [(2, mkLoop ⟨[⟨.slot 6, (.int .i64), .pv⟩], [0, 5], []⟩)] }
theorem raw10_eq (x : List ActD × Unit) : afun E10 Try.f10 P10 R10 x = F10 x := by kernel_rfl
-- decamp/decamplaw14.do
def F11 (x : List VerD × ActD × Unit) : Option (List VerD × Bool × Unit) :=
  Option.bind
    (bif decide (intOf8 x.snd.fst.fst = intOf8 (UInt8.ofNat 0)) then
      Option.bind
        (F13
          (x.fst, x.snd.fst.snd.fst, x.snd.fst.snd.snd.fst, x.snd.fst.snd.snd.snd.fst, x.snd.fst.snd.snd.snd.snd.fst,
            ()))
        fun (b : List VerD × Int × Unit) =>
        Option.bind
          (F24
            (x.fst, x.snd.fst.snd.fst, x.snd.fst.snd.snd.fst, x.snd.fst.snd.snd.snd.fst, x.snd.fst.snd.snd.snd.snd.fst,
              ()))
          fun (b_1 : List VerD × Bool × Unit) =>
          some (Sum.inl (b.fst, b.snd.fst, b_1.fst, b_1.snd.fst, 0, ()))
    else
      bif decide (intOf8 x.snd.fst.fst = intOf8 (UInt8.ofNat 1)) then
        Option.bind (F25 (x.fst, x.snd.fst.snd.fst, x.snd.fst.snd.snd.fst, ()))
          fun (b : List VerD × Int × Unit) =>
          Option.bind (F26 (x.fst, x.snd.fst.snd.fst, x.snd.fst.snd.snd.fst, ()))
            fun (b_1 : List VerD × Int × Unit) =>
            some (Sum.inl (b.fst, b.snd.fst, b_1.fst, true, b_1.snd))
      else
        Option.bind (F27 (x.fst, x.snd.fst.snd.snd.snd.snd.snd))
          fun (b : List VerD × Int × Unit) =>
          Option.bind (F28 (x.fst, x.snd.fst.snd.snd.snd.snd.snd))
            fun (b_1 : List VerD × Bool × Unit) =>
            some (Sum.inl (b.fst, b.snd.fst, b_1.fst, b_1.snd.fst, 0, ())))
    fun
      (o :
        List VerD × Int × List VerD × Bool × Int × Unit ⊕ List VerD × Bool × Unit) =>
    Sum.elim
      (fun
          (x_1 :
            List VerD × Int × List VerD × Bool × Int × Unit) =>
        Option.bind
          (bif !x_1.snd.snd.snd.fst then some (Sum.inl (1, ())) else some (Sum.inl x_1.snd.snd.snd.snd))
          fun (o : Int × Unit ⊕ List VerD × Bool × Unit) =>
          Sum.elim
            (fun (x_2 : Int × Unit) =>
              bif !decide (x_1.snd.fst = x_2.fst) then some (x.fst, false, ())
              else
                Option.bind (F14 (x_1.fst, x_1.snd.snd.fst, ())) fun (b : Bool × Unit) =>
                  bif !b.fst then some (x.fst, false, ())
                  else
                    bif !decide (x_2.fst = 0) then some (x.fst, true, ()) else some (x_1.fst, true, ()))
            (fun (val : List VerD × Bool × Unit) => some val) o)
      (fun (val : List VerD × Bool × Unit) => some val) o
def S11 : Sig := ⟨P11, R11, F11⟩
noncomputable def E11 : Env := { tab := tab, nt := 93, Γ := lookG [(13, [S13]), (14, [S14]), (24, [S24]), (25, [S25]), (26, [S26]), (27, [S27]), (28, [S28])], joins := lookN [(12, ⟨[⟨.slot 6, (.slice Ver), .own true⟩, ⟨.slot 7, (.int .i64), .pv⟩, ⟨.slot 8, (.slice Ver), .own true⟩, ⟨.slot 9, .bool, .pv⟩, ⟨.slot 10, (.int .i64), .pv⟩], [0], []⟩), (14, ⟨[⟨.slot 10, (.int .i64), .pv⟩], [0, 6, 7, 8], [.row 50012002, .row 50012000]⟩)], loops := lookN [] }
theorem raw11_eq (x : List VerD × ActD × Unit) : afun E11 Try.f11 P11 R11 x = F11 x := by kernel_rfl
-- decamp/decamplaw14.HistRight
def F8 (x : List VerD × Int × Unit) : Option (Bool × Unit) :=
  Option.bind (F9 ()) fun (b : Bool × Unit) =>
    bif !b.fst then Option.bind (F9 ()) fun (b : Bool × Unit) => some b
    else
      Option.bind (F22 (x.fst, ())) fun (b : Bool × Unit) =>
        bif !b.fst then Option.bind (F9 ()) fun (b : Bool × Unit) => some b
        else
          Option.bind (F23 (x.fst, ())) fun (b : Bool × Unit) =>
            Option.bind (F12 (x.fst, ())) fun (b_1 : Bool × Unit) =>
              bif !b_1.fst == b.fst then some (false, ())
              else
                Option.bind (F15 x)
                  fun (b_2 : VerD × Bool × Unit) =>
                  Option.bind (F16 x)
                    fun (b_3 : VerD × Bool × Unit) =>
                    bif
                        decide (b_2.fst.fst = b_3.fst.fst) &&
                          (decide (b_2.fst.snd.fst = b_3.fst.snd.fst) &&
                            (decide (b_2.fst.snd.snd.fst = b_3.fst.snd.snd.fst) &&
                              (decide (b_2.fst.snd.snd.snd.fst = b_3.fst.snd.snd.snd.fst) &&
                                (decide (b_2.fst.snd.snd.snd.snd.fst = b_3.fst.snd.snd.snd.snd.fst) &&
                                  (decide (b_2.fst.snd.snd.snd.snd.snd.fst = b_3.fst.snd.snd.snd.snd.snd.fst) &&
                                    (b_2.fst.snd.snd.snd.snd.snd.snd.fst == b_3.fst.snd.snd.snd.snd.snd.snd.fst &&
                                      true)))))) then
                      bif b_2.snd.fst == b_3.snd.fst then
                        bif b.fst then some (true, ())
                        else
                          bif !b_2.snd.fst then
                            Option.bind (F18 (x.fst, 0, x.snd))
                              fun (b : List VerD × Unit) =>
                              bif decide (Int.ofNat (List.length b.fst) = 0) then
                                Option.bind (F20 x)
                                  fun (b : List VerD × Unit) =>
                                  some (decide (Int.ofNat (List.length b.fst) = 0), ())
                              else some (false, ())
                          else some (false, ())
                      else some (false, ())
                    else some (false, ())
def S8 : Sig := ⟨P8, R8, F8⟩
noncomputable def E8 : Env := { tab := tab, nt := 65, Γ := lookG [(9, [S9]), (12, [S12]), (15, [S15]), (16, [S16]), (18, [S18]), (20, [S20]), (22, [S22]), (23, [S23])], joins := lookN [], loops := lookN [] }
theorem raw8_eq (x : List VerD × Int × Unit) : afun E8 Try.f8 P8 R8 x = F8 x := by kernel_rfl
-- decamp/decamplaw14.HistGrows
def F3 (x : List ActD × Unit) : Option (Bool × Unit) :=
  Option.bind (F9 ()) fun (b : Bool × Unit) =>
    bif !b.fst then Option.bind (F9 ()) fun (b : Bool × Unit) => some b
    else
      Option.bind (F10 x) fun (b : Bool × Unit) =>
        bif !b.fst then Option.bind (F9 ()) fun (b : Bool × Unit) => some b
        else
          iterE (List VerD × Int × Unit) (Bool × Unit)
            (fun (x_1 : List VerD × Int × Unit) =>
              bif decide (x_1.snd.fst < Int.ofNat (List.length x.fst)) then
                Option.bind (idx x.fst x_1.snd.fst)
                  fun
                    (b :
                      ActD) =>
                  Option.bind (F11 (x_1.fst, b, ()))
                    fun (b : List VerD × Bool × Unit) =>
                    bif !b.snd.fst then some (Sum.inr (false, ()))
                    else some (Sum.inl (b.fst, wrap64 (x_1.snd.fst + 1), ()))
              else Option.map Sum.inr (Option.bind (F12 (x_1.fst, ())) fun (b : Bool × Unit) => some b))
            big ([], 0, ())
def S3 : Sig := ⟨P3, R3, F3⟩
noncomputable def E3 : Env := { tab := tab, nt := 33, Γ := lookG [(9, [S9]), (10, [S10]), (11, [S11]), (12, [S12])], joins := lookN [], loops := lookN [(6, mkLoop ⟨[⟨.slot 3, (.slice Ver), .pv⟩, ⟨.slot 16, (.int .i64), .pv⟩], [0, 15], []⟩)] }
theorem raw3_eq (x : List ActD × Unit) : afun E3 Try.f3 P3 R3 x = F3 x := by kernel_rfl
-- decamp/decamplaw14.HistOwn
def F4 (x : List ActD × ActD × ActD × Unit) : Option (Bool × Unit) :=
  Option.bind (F9 ()) fun (b : Bool × Unit) =>
    bif !b.fst then Option.bind (F9 ()) fun (b : Bool × Unit) => some b
    else
      Option.bind (F10 (x.fst, ())) fun (b : Bool × Unit) =>
        bif !b.fst then Option.bind (F9 ()) fun (b : Bool × Unit) => some b
        else
          Option.bind (F10 ([x.snd.fst, x.snd.snd.fst], ())) fun (b : Bool × Unit) =>
            bif !b.fst then Option.bind (F9 ()) fun (b : Bool × Unit) => some b
            else
              iterE (List VerD × Int × Unit) (Bool × Unit)
                (fun (x_1 : List VerD × Int × Unit) =>
                  bif decide (x_1.snd.fst < Int.ofNat (List.length x.fst)) then
                    Option.bind (idx x.fst x_1.snd.fst)
                      fun
                        (b :
                          ActD) =>
                      Option.bind (F11 (x_1.fst, b, ()))
                        fun (b : List VerD × Bool × Unit) =>
                        some (Sum.inl (b.fst, wrap64 (x_1.snd.fst + 1), ()))
                  else
                    Option.map Sum.inr
                      (Option.bind
                        (mkO (0, 0, 0, 0, [], 0, false, ()) 0
                          (wrap64 (Int.ofNat (List.length x_1.fst) + 9)))
                        fun (b : List VerD) =>
                        Option.bind (appO b x_1.fst)
                          fun (b : List VerD) =>
                          Option.bind
                            (F13
                              (b, x.snd.fst.snd.fst, x.snd.fst.snd.snd.fst, x.snd.fst.snd.snd.snd.fst,
                                x.snd.fst.snd.snd.snd.snd.fst, ()))
                            fun (b_1 : List VerD × Int × Unit) =>
                            Option.bind (appO [] b_1.fst)
                              fun (b_2 : List VerD) =>
                              Option.bind
                                (F13
                                  (b, x.snd.snd.fst.snd.fst, x.snd.snd.fst.snd.snd.fst, x.snd.snd.fst.snd.snd.snd.fst,
                                    x.snd.snd.fst.snd.snd.snd.snd.fst, ()))
                                fun
                                  (b_3 :
                                    List VerD × Int × Unit) =>
                                Option.bind
                                  (bif decide (b_1.snd.fst = 0) then
                                    bif decide (b_3.snd.fst = 0) then
                                      bif
                                          !decide
                                              (Int.ofNat (List.length b_1.fst) =
                                                wrap64 (Int.ofNat (List.length x_1.fst) + 1)) then
                                        some (Sum.inr (false, ()))
                                      else
                                        bif
                                            !decide
                                                (Int.ofNat (List.length b_3.fst) =
                                                  wrap64 (Int.ofNat (List.length x_1.fst) + 1)) then
                                          some (Sum.inr (false, ()))
                                        else some (Sum.inl ())
                                    else some (Sum.inl ())
                                  else some (Sum.inl ()))
                                  fun (o : Unit ⊕ Bool × Unit) =>
                                  Sum.elim
                                    (fun (x : Unit) =>
                                      Option.bind (F14 (b, x_1.fst, ())) fun (b : Bool × Unit) =>
                                        bif b.fst then
                                          Option.bind (F14 (b_1.fst, b_2, ())) fun (b : Bool × Unit) => some b
                                        else some (false, ()))
                                    (fun (val : Bool × Unit) => some val) o))
                big ([], 0, ())
def S4 : Sig := ⟨P4, R4, F4⟩
noncomputable def E4 : Env := { tab := tab, nt := 110, Γ := lookG [(9, [S9]), (10, [S10]), (11, [S11]), (13, [S13]), (14, [S14])], joins := lookN [(15, ⟨[], [7, 9, 10, 12], [.row 11003000, .row 10010001, .row 9006000]⟩)], loops := lookN [(5, mkLoop ⟨[⟨.slot 7, (.slice Ver), .pv⟩, ⟨.slot 32, (.int .i64), .pv⟩], [0, 4, 5, 31], [.site 2000, .fld 2000 0, .fld 2000 1, .fld 2000 2, .fld 2000 3, .fld 2000 4, .fld 2000 5, .site 1000, .fld 1000 0, .fld 1000 1, .fld 1000 2, .fld 1000 3, .fld 1000 4, .fld 1000 5]⟩)] }
theorem raw4_eq (x : List ActD × ActD × ActD × Unit) : afun E4 Try.f4 P4 R4 x = F4 x := by kernel_rfl
-- decamp/decamplaw14.HistReads
def F5 (x : List ActD × Int × Int × Int × Unit) : Option (Bool × Unit) :=
  Option.bind (F9 ()) fun (b : Bool × Unit) =>
    bif !b.fst then Option.bind (F9 ()) fun (b : Bool × Unit) => some b
    else
      Option.bind (F10 (x.fst, ())) fun (b : Bool × Unit) =>
        bif !b.fst then Option.bind (F9 ()) fun (b : Bool × Unit) => some b
        else
          iterE (List VerD × Int × Unit) (Bool × Unit)
            (fun (x_1 : List VerD × Int × Unit) =>
              bif decide (x_1.snd.fst < Int.ofNat (List.length x.fst)) then
                Option.bind (idx x.fst x_1.snd.fst)
                  fun
                    (b :
                      ActD) =>
                  Option.bind (F11 (x_1.fst, b, ()))
                    fun (b : List VerD × Bool × Unit) =>
                    some (Sum.inl (b.fst, wrap64 (x_1.snd.fst + 1), ()))
              else
                Option.map Sum.inr
                  (Option.bind (F15 (x_1.fst, x.snd.fst, ()))
                    fun (b : VerD × Bool × Unit) =>
                    Option.bind (F16 (x_1.fst, x.snd.fst, ()))
                      fun (b_1 : VerD × Bool × Unit) =>
                      Option.bind (F17 (x_1.fst, ()))
                        fun (b_2 : VerD × Bool × Unit) =>
                        Option.bind (F16 (x_1.fst, 1099511627776, ()))
                          fun (b_3 : VerD × Bool × Unit) =>
                          bif
                              decide (b.fst.fst = b_1.fst.fst) &&
                                (decide (b.fst.snd.fst = b_1.fst.snd.fst) &&
                                  (decide (b.fst.snd.snd.fst = b_1.fst.snd.snd.fst) &&
                                    (decide (b.fst.snd.snd.snd.fst = b_1.fst.snd.snd.snd.fst) &&
                                      (decide (b.fst.snd.snd.snd.snd.fst = b_1.fst.snd.snd.snd.snd.fst) &&
                                        (decide (b.fst.snd.snd.snd.snd.snd.fst = b_1.fst.snd.snd.snd.snd.snd.fst) &&
                                          (b.fst.snd.snd.snd.snd.snd.snd.fst == b_1.fst.snd.snd.snd.snd.snd.snd.fst &&
                                            true)))))) then
                            bif b.snd.fst == b_1.snd.fst then
                              bif
                                  decide (b_2.fst.fst = b_3.fst.fst) &&
                                    (decide (b_2.fst.snd.fst = b_3.fst.snd.fst) &&
                                      (decide (b_2.fst.snd.snd.fst = b_3.fst.snd.snd.fst) &&
                                        (decide (b_2.fst.snd.snd.snd.fst = b_3.fst.snd.snd.snd.fst) &&
                                          (decide (b_2.fst.snd.snd.snd.snd.fst = b_3.fst.snd.snd.snd.snd.fst) &&
                                            (decide
                                                (b_2.fst.snd.snd.snd.snd.snd.fst = b_3.fst.snd.snd.snd.snd.snd.fst) &&
                                              (b_2.fst.snd.snd.snd.snd.snd.snd.fst ==
                                                  b_3.fst.snd.snd.snd.snd.snd.snd.fst &&
                                                true)))))) then
                                bif b_2.snd.fst == b_3.snd.fst then
                                  Option.bind (F18 (x_1.fst, x.snd.snd))
                                    fun (b : List VerD × Unit) =>
                                    Option.bind (F19 (x_1.fst, x.snd.snd))
                                      fun
                                        (b_4 :
                                          List VerD × Unit) =>
                                      Option.bind (F14 (b.fst, b_4)) fun (b : Bool × Unit) => some b
                                else some (false, ())
                              else some (false, ())
                            else some (false, ())
                          else some (false, ())))
            big ([], 0, ())
def S5 : Sig := ⟨P5, R5, F5⟩
noncomputable def E5 : Env := { tab := tab, nt := 93, Γ := lookG [(9, [S9]), (10, [S10]), (11, [S11]), (14, [S14]), (15, [S15]), (16, [S16]), (17, [S17]), (18, [S18]), (19, [S19])], joins := lookN [], loops := lookN [(5, mkLoop ⟨[⟨.slot 9, (.slice Ver), .pv⟩, ⟨.slot 29, (.int .i64), .pv⟩], [0, 1, 2, 3, 28], []⟩)] }
theorem raw5_eq (x : List ActD × Int × Int × Int × Unit) : afun E5 Try.f5 P5 R5 x = F5 x := by kernel_rfl
-- decamp/decamplaw14.HistParts
def F6 (x : List ActD × Int × Int × Int × Unit) : Option (Bool × Unit) :=
  Option.bind (F9 ()) fun (b : Bool × Unit) =>
    bif !b.fst then Option.bind (F9 ()) fun (b : Bool × Unit) => some b
    else
      Option.bind (F10 (x.fst, ())) fun (b : Bool × Unit) =>
        bif !b.fst then Option.bind (F9 ()) fun (b : Bool × Unit) => some b
        else
          bif decide (x.snd.snd.fst < 0) then Option.bind (F9 ()) fun (b : Bool × Unit) => some b
          else
            bif decide (1099511627776 < x.snd.snd.fst) then Option.bind (F9 ()) fun (b : Bool × Unit) => some b
            else
              bif decide (wrap64 (x.snd.snd.fst + 1) < x.snd.fst) then
                Option.bind (F9 ()) fun (b : Bool × Unit) => some b
              else
                bif decide (x.snd.snd.snd.fst < x.snd.snd.fst) then
                  Option.bind (F9 ()) fun (b : Bool × Unit) => some b
                else
                  iterE (List VerD × Int × Unit) (Bool × Unit)
                    (fun (x_1 : List VerD × Int × Unit) =>
                      bif decide (x_1.snd.fst < Int.ofNat (List.length x.fst)) then
                        Option.bind (idx x.fst x_1.snd.fst)
                          fun
                            (b :
                              ActD) =>
                          Option.bind (F11 (x_1.fst, b, ()))
                            fun (b : List VerD × Bool × Unit) =>
                            some (Sum.inl (b.fst, wrap64 (x_1.snd.fst + 1), ()))
                      else
                        Option.map Sum.inr
                          (Option.bind (F18 (x_1.fst, x.snd.fst, x.snd.snd.snd))
                            fun (b : List VerD × Unit) =>
                            Option.bind (F18 (x_1.fst, x.snd.fst, x.snd.snd.fst, ()))
                              fun (b_1 : List VerD × Unit) =>
                              Option.bind (F18 (x_1.fst, wrap64 (x.snd.snd.fst + 1), x.snd.snd.snd))
                                fun (b_2 : List VerD × Unit) =>
                                Option.bind (appO b_1.fst b_2.fst)
                                  fun (b_3 : List VerD) =>
                                  Option.bind (F14 (b.fst, b_3, ())) fun (b : Bool × Unit) => some b))
                    big ([], 0, ())
def S6 : Sig := ⟨P6, R6, F6⟩
noncomputable def E6 : Env := { tab := tab, nt := 68, Γ := lookG [(9, [S9]), (10, [S10]), (11, [S11]), (14, [S14]), (18, [S18])], joins := lookN [], loops := lookN [(5, mkLoop ⟨[⟨.slot 9, (.slice Ver), .pv⟩, ⟨.slot 40, (.int .i64), .pv⟩], [0, 1, 2, 3, 39], []⟩)] }
theorem raw6_eq (x : List ActD × Int × Int × Int × Unit) : afun E6 Try.f6 P6 R6 x = F6 x := by kernel_rfl
-- decamp/decamplaw14.HistTrims
def F7 (x : List ActD × Int × Int × Int × Unit) : Option (Bool × Unit) :=
  Option.bind (F9 ()) fun (b : Bool × Unit) =>
    bif !b.fst then Option.bind (F9 ()) fun (b : Bool × Unit) => some b
    else
      Option.bind (F10 (x.fst, ())) fun (b : Bool × Unit) =>
        bif !b.fst then Option.bind (F9 ()) fun (b : Bool × Unit) => some b
        else
          iterE (List VerD × Int × Unit) (Bool × Unit)
            (fun (x_1 : List VerD × Int × Unit) =>
              bif decide (x_1.snd.fst < Int.ofNat (List.length x.fst)) then
                Option.bind (idx x.fst x_1.snd.fst)
                  fun
                    (b :
                      ActD) =>
                  Option.bind (F11 (x_1.fst, b, ()))
                    fun (b : List VerD × Bool × Unit) =>
                    some (Sum.inl (b.fst, wrap64 (x_1.snd.fst + 1), ()))
              else
                Option.map Sum.inr
                  (Option.bind (F20 (x_1.fst, x.snd.fst, ()))
                    fun (b : List VerD × Unit) =>
                    Option.bind (F21 (x_1.fst, x.snd.fst, ()))
                      fun (b_1 : List VerD × Unit) =>
                      Option.bind (F14 (b.fst, b_1)) fun (b_2 : Bool × Unit) =>
                        bif !b_2.fst then some (false, ())
                        else
                          Option.bind
                            (bif decide (x.snd.fst ≤ x.snd.snd.fst) then
                              Option.bind (F20 (b.fst, x.snd.snd.fst, ()))
                                fun (b : List VerD × Unit) =>
                                Option.bind (F20 (x_1.fst, x.snd.snd.fst, ()))
                                  fun (b_3 : List VerD × Unit) =>
                                  Option.bind (F14 (b.fst, b_3)) fun (b : Bool × Unit) =>
                                    bif !b.fst then some (Sum.inr (false, ())) else some (Sum.inl ())
                            else some (Sum.inl ()))
                            fun (o : Unit ⊕ Bool × Unit) =>
                            Sum.elim
                              (fun (x_2 : Unit) =>
                                bif decide (x.snd.snd.snd.fst < x.snd.fst) then some (true, ())
                                else
                                  Option.bind (F15 (x_1.fst, x.snd.snd.snd))
                                    fun
                                      (b_3 :
                                        VerD × Bool × Unit) =>
                                    Option.bind (F15 (b.fst, x.snd.snd.snd))
                                      fun
                                        (b :
                                          VerD × Bool × Unit) =>
                                      bif
                                          decide (b_3.fst.fst = b.fst.fst) &&
                                            (decide (b_3.fst.snd.fst = b.fst.snd.fst) &&
                                              (decide (b_3.fst.snd.snd.fst = b.fst.snd.snd.fst) &&
                                                (decide (b_3.fst.snd.snd.snd.fst = b.fst.snd.snd.snd.fst) &&
                                                  (decide (b_3.fst.snd.snd.snd.snd.fst = b.fst.snd.snd.snd.snd.fst) &&
                                                    (decide
                                                        (b_3.fst.snd.snd.snd.snd.snd.fst =
                                                          b.fst.snd.snd.snd.snd.snd.fst) &&
                                                      (b_3.fst.snd.snd.snd.snd.snd.snd.fst ==
                                                          b.fst.snd.snd.snd.snd.snd.snd.fst &&
                                                        true)))))) then
                                        some (b_3.snd.fst == b.snd.fst, ())
                                      else some (false, ()))
                              (fun (val : Bool × Unit) => some val) o))
            big ([], 0, ())
def S7 : Sig := ⟨P7, R7, F7⟩
noncomputable def E7 : Env := { tab := tab, nt := 84, Γ := lookG [(9, [S9]), (10, [S10]), (11, [S11]), (14, [S14]), (15, [S15]), (20, [S20]), (21, [S21])], joins := lookN [(14, ⟨[], [1, 3, 9, 11], [.row 9003001]⟩)], loops := lookN [(5, mkLoop ⟨[⟨.slot 9, (.slice Ver), .pv⟩, ⟨.slot 26, (.int .i64), .pv⟩], [0, 1, 2, 3, 25], []⟩)] }
theorem raw7_eq (x : List ActD × Int × Int × Int × Unit) : afun E7 Try.f7 P7 R7 x = F7 x := by kernel_rfl
end
end Go.Proofs.Ytmbofdkjeobhjaa
