/-
  Call: by a program of the bench (seat.py).
-/
import Derived.Test.YtkiakaokgoodhaaGreatCallRawA
namespace Go.Proofs.YtkiakaokgoodhaaGreat
open Go.Sx Go
set_option maxRecDepth 100000
noncomputable section
-- decamp/caller.New
def F30 (x : TMD × Unit) : Option (TMD × Unit) :=
 bif decide (x.fst.fst = 1) then
 some
 ((1, 0, x.fst.snd.snd.fst,
 (0, 0, (0, [], [], [], 0, 0, 0, [], [], [], 0, 0, 0, false, [], [], [], ()), ()), 0, [], [],
 0, 0, 0, 0, (0, 0, false, 0, [], 0, 0, ()), [], [], false, (0, 0, [], [], ()),
 (0, 0, 0, [], [], 0, [], 0, 0, 0, ()), ()),
 ())
 else
 Option.bind
 (bif decide (x.fst.fst = 2) then some (Sum.inl (x.fst.snd.snd.snd.fst, ()))
 else
 some
 (Sum.inl
 ((0, 0, (0, [], [], [], 0, 0, 0, [], [], [], 0, 0, 0, false, [], [], [], ()), ()),
 ())))
 fun o =>
 Sum.elim
 (fun (x_1 :
 (Int × Int × (Int × List UInt8 × List UInt8 × List UInt8 × Int × Int × Int × List T96D × List T48D × List T48D × Int × Int × Int × Bool × List
 T70D × List
 (Int × Int × (Int × Int × Bool × Int × List
 T70D × Int × Int × Unit) × Unit) × List T113D × Unit) × Unit) × Unit) =>
 Option.bind
 (bif decide (x.fst.fst = 3) then some (Sum.inl (x.fst.snd.snd.snd.snd.fst, ()))
 else
 bif decide (x.fst.fst = 4) then some (Sum.inl (x.fst.snd.snd.snd.snd.fst, ()))
 else some (Sum.inl (0, ())))
 fun o =>
 Sum.elim
 (fun (x_2 : Int × Unit) =>
 Option.bind
 (bif decide (3 ≤ x.fst.fst) then
 bif decide (x.fst.fst ≤ 5) then
 some (Sum.inl (x.fst.snd.snd.snd.snd.snd.fst, x.fst.snd.snd.snd.snd.snd.snd.fst, ()))
 else some (Sum.inl ([], [], ()))
 else some (Sum.inl ([], [], ())))
 fun o =>
 Sum.elim
 (fun (x_3 : List UInt8 × List UInt8 × Unit) =>
 Option.bind
 (bif decide (3 ≤ x.fst.fst) then
 bif decide (x.fst.fst ≤ 6) then
 some (Sum.inl (x.fst.snd.snd.snd.snd.snd.snd.snd.fst, ()))
 else
 bif decide (x.fst.fst = 9) then
 some (Sum.inl (x.fst.snd.snd.snd.snd.snd.snd.snd.fst, ()))
 else
 bif decide (x.fst.fst = 12) then
 some (Sum.inl (x.fst.snd.snd.snd.snd.snd.snd.snd.fst, ()))
 else some (Sum.inl (0, ()))
 else
 bif decide (x.fst.fst = 9) then
 some (Sum.inl (x.fst.snd.snd.snd.snd.snd.snd.snd.fst, ()))
 else
 bif decide (x.fst.fst = 12) then
 some (Sum.inl (x.fst.snd.snd.snd.snd.snd.snd.snd.fst, ()))
 else some (Sum.inl (0, ())))
 fun o =>
 Sum.elim
 (fun (x_4 : Int × Unit) =>
 Option.bind
 (bif decide (x.fst.fst = 3) then
 some (Sum.inl (x.fst.snd.snd.snd.snd.snd.snd.snd.snd.fst, ()))
 else some (Sum.inl (0, ())))
 fun o =>
 Sum.elim
 (fun (x_5 : Int × Unit) =>
 Option.bind
 (bif decide (8 ≤ x.fst.fst) then
 bif decide (x.fst.fst ≤ 11) then
 some (Sum.inl (x.fst.snd.snd.snd.snd.snd.snd.snd.snd.snd.fst, ()))
 else some (Sum.inl (0, ()))
 else some (Sum.inl (0, ())))
 fun o =>
 Sum.elim
 (fun (x_6 : Int × Unit) =>
 Option.bind
 (bif decide (x.fst.fst = 8) then
 some
 (Sum.inl
 (x.fst.snd.snd.snd.snd.snd.snd.snd.snd.snd.snd.fst,
 x.fst.snd.snd.snd.snd.snd.snd.snd.snd.snd.snd.snd.fst, [], [], false,
 (0, 0, [], [], ()),
 (0, 0, 0, [], [], 0, [], 0, 0, 0, ()), ()))
 else
 bif decide (x.fst.fst = 9) then
 some
 (Sum.inl
 (0, (0, 0, false, 0, [], 0, 0, ()),
 x.fst.snd.snd.snd.snd.snd.snd.snd.snd.snd.snd.snd.snd.fst, [],
 false, (0, 0, [], [], ()),
 (0, 0, 0, [], [], 0, [], 0, 0, 0, ()), ()))
 else
 bif decide (x.fst.fst = 10) then
 some
 (Sum.inl
 (0, (0, 0, false, 0, [], 0, 0, ()), [],
 x.fst.snd.snd.snd.snd.snd.snd.snd.snd.snd.snd.snd.snd.snd.fst,
 x.fst.snd.snd.snd.snd.snd.snd.snd.snd.snd.snd.snd.snd.snd.snd.fst,
 (0, 0, [], [], ()),
 (0, 0, 0, [], [], 0, [], 0, 0, 0, ()), ()))
 else
 bif decide (x.fst.fst = 11) then
 some
 (Sum.inl
 (0, (0, 0, false, 0, [], 0, 0, ()), [], [], false,
 x.fst.snd.snd.snd.snd.snd.snd.snd.snd.snd.snd.snd.snd.snd.snd.snd.fst,
 (0, 0, 0, [], [], 0, [], 0, 0, 0, ()), ()))
 else
 bif decide (x.fst.fst = 12) then
 some
 (Sum.inl
 (0, (0, 0, false, 0, [], 0, 0, ()), [], [], false,
 (0, 0, [], [], ()),
 x.fst.snd.snd.snd.snd.snd.snd.snd.snd.snd.snd.snd.snd.snd.snd.snd.snd))
 else
 some
 (Sum.inl
 (0, (0, 0, false, 0, [], 0, 0, ()), [], [], false,
 (0, 0, [], [], ()),
 (0, 0, 0, [], [], 0, [], 0, 0, 0, ()), ())))
 fun o =>
 Sum.elim
 (fun (x_7 :
 Int × (Int × Int × Bool × Int × List
 T70D × Int × Int × Unit) × List
 (Int × List
 T70D × Unit) × List
 T70D × Bool × (Int × Int × List
 (Int × Int × (Int × Int × Bool × Int × List
 T70D × Int × Int × Unit) × Unit) × List T113D × Unit) × T53D × Unit) =>
 some
 ((x.fst.fst, x.fst.snd.fst,
 (0, 0, 0, 0, 0, 0, 0, 0, false, [], (0, 0, [], ()),
 ()),
 x_1.fst, x_2.fst, x_3.fst, x_3.snd.fst, x_4.fst, x_5.fst, x_6.fst,
 x_7),
 ()))
 (fun (val :
 (Int × Int × (Int × Int × Int × Int × Int × Int × Int × Int × Bool × List T25D × T25D × Unit) × (Int × Int × (Int × List UInt8 × List UInt8 × List UInt8 × Int × Int × Int × List
 T96D × List
 T48D × List
 T48D × Int × Int × Int × Bool × List
 (List UInt8 × (Int × Int × Int × Int × List
 UInt8 × Int × Bool × Unit) × Unit) × List
 (Int × Int × (Int × Int × Bool × Int × List
 (List
 UInt8 × (Int × Int × Int × Int × List
 UInt8 × Int × Bool × Unit) × Unit) × Int × Int × Unit) × Unit) × List
 T113D × Unit) × Unit) × Int × List UInt8 × List UInt8 × Int × Int × Int × Int × (Int × Int × Bool × Int × List
 T70D × Int × Int × Unit) × List
 (Int × List
 T70D × Unit) × List
 T70D × Bool × (Int × Int × List
 (Int × Int × (Int × Int × Bool × Int × List
 (List
 UInt8 × (Int × Int × Int × Int × List
 UInt8 × Int × Bool × Unit) × Unit) × Int × Int × Unit) × Unit) × List
 T113D × Unit) × T53D × Unit) × Unit) =>
 some val)
 o)
 (fun (val :
 (Int × Int × (Int × Int × Int × Int × Int × Int × Int × Int × Bool × List T25D × T25D × Unit) × (Int × Int × (Int × List UInt8 × List UInt8 × List UInt8 × Int × Int × Int × List
 T96D × List
 T48D × List
 T48D × Int × Int × Int × Bool × List
 T70D × List
 (Int × Int × (Int × Int × Bool × Int × List
 (List
 UInt8 × (Int × Int × Int × Int × List
 UInt8 × Int × Bool × Unit) × Unit) × Int × Int × Unit) × Unit) × List
 T113D × Unit) × Unit) × Int × List UInt8 × List UInt8 × Int × Int × Int × Int × (Int × Int × Bool × Int × List
 T70D × Int × Int × Unit) × List
 (Int × List
 T70D × Unit) × List
 T70D × Bool × (Int × Int × List
 (Int × Int × (Int × Int × Bool × Int × List
 (List UInt8 × (Int × Int × Int × Int × List
 UInt8 × Int × Bool × Unit) × Unit) × Int × Int × Unit) × Unit) × List T113D × Unit) × T53D × Unit) × Unit) =>
 some val)
 o)
 (fun (val :
 (Int × Int × (Int × Int × Int × Int × Int × Int × Int × Int × Bool × List T25D × T25D × Unit) × (Int × Int × (Int × List UInt8 × List UInt8 × List UInt8 × Int × Int × Int × List
 T96D × List
 T48D × List
 T48D × Int × Int × Int × Bool × List
 T70D × List
 (Int × Int × (Int × Int × Bool × Int × List
 (List UInt8 × (Int × Int × Int × Int × List
 UInt8 × Int × Bool × Unit) × Unit) × Int × Int × Unit) × Unit) × List T113D × Unit) × Unit) × Int × List UInt8 × List UInt8 × Int × Int × Int × Int × (Int × Int × Bool × Int × List
 T70D × Int × Int × Unit) × List
 (Int × List
 T70D × Unit) × List
 T70D × Bool × (Int × Int × List
 (Int × Int × (Int × Int × Bool × Int × List
 (List UInt8 × (Int × Int × Int × Int × List
 UInt8 × Int × Bool × Unit) × Unit) × Int × Int × Unit) × Unit) × List T113D × Unit) × T53D × Unit) × Unit) =>
 some val)
 o)
 (fun (val :
 (Int × Int × (Int × Int × Int × Int × Int × Int × Int × Int × Bool × List T25D × T25D × Unit) × (Int × Int × (Int × List UInt8 × List UInt8 × List UInt8 × Int × Int × Int × List T96D × List
 T48D × List
 T48D × Int × Int × Int × Bool × List
 T70D × List
 (Int × Int × (Int × Int × Bool × Int × List
 (List UInt8 × (Int × Int × Int × Int × List
 UInt8 × Int × Bool × Unit) × Unit) × Int × Int × Unit) × Unit) × List T113D × Unit) × Unit) × Int × List UInt8 × List UInt8 × Int × Int × Int × Int × (Int × Int × Bool × Int × List
 T70D × Int × Int × Unit) × List
 (Int × List
 T70D × Unit) × List
 T70D × Bool × (Int × Int × List
 (Int × Int × (Int × Int × Bool × Int × List
 T70D × Int × Int × Unit) × Unit) × List T113D × Unit) × T53D × Unit) × Unit) =>
 some val)
 o)
 (fun (val :
 (Int × Int × (Int × Int × Int × Int × Int × Int × Int × Int × Bool × List T25D × T25D × Unit) × (Int × Int × (Int × List UInt8 × List UInt8 × List UInt8 × Int × Int × Int × List T96D × List
 T48D × List
 T48D × Int × Int × Int × Bool × List
 T70D × List
 (Int × Int × (Int × Int × Bool × Int × List
 T70D × Int × Int × Unit) × Unit) × List T113D × Unit) × Unit) × Int × List UInt8 × List UInt8 × Int × Int × Int × Int × (Int × Int × Bool × Int × List
 T70D × Int × Int × Unit) × List
 (Int × List
 T70D × Unit) × List
 T70D × Bool × (Int × Int × List
 (Int × Int × (Int × Int × Bool × Int × List
 T70D × Int × Int × Unit) × Unit) × List T113D × Unit) × T53D × Unit) × Unit) =>
 some val)
 o)
 (fun (val :
 (Int × Int × (Int × Int × Int × Int × Int × Int × Int × Int × Bool × List T25D × T25D × Unit) × (Int × Int × (Int × List UInt8 × List UInt8 × List UInt8 × Int × Int × Int × List T96D × List T48D × List T48D × Int × Int × Int × Bool × List
 T70D × List
 (Int × Int × (Int × Int × Bool × Int × List
 T70D × Int × Int × Unit) × Unit) × List T113D × Unit) × Unit) × Int × List UInt8 × List UInt8 × Int × Int × Int × Int × (Int × Int × Bool × Int × List
 T70D × Int × Int × Unit) × List
 (Int × List
 T70D × Unit) × List
 T70D × Bool × (Int × Int × List
 (Int × Int × (Int × Int × Bool × Int × List
 T70D × Int × Int × Unit) × Unit) × List T113D × Unit) × T53D × Unit) × Unit) =>
 some val)
 o)
 (fun (val :
 (Int × Int × (Int × Int × Int × Int × Int × Int × Int × Int × Bool × List T25D × T25D × Unit) × (Int × Int × (Int × List UInt8 × List UInt8 × List UInt8 × Int × Int × Int × List T96D × List T48D × List T48D × Int × Int × Int × Bool × List
 T70D × List
 (Int × Int × (Int × Int × Bool × Int × List
 T70D × Int × Int × Unit) × Unit) × List T113D × Unit) × Unit) × Int × List UInt8 × List UInt8 × Int × Int × Int × Int × (Int × Int × Bool × Int × List
 T70D × Int × Int × Unit) × List
 (Int × List
 T70D × Unit) × List
 T70D × Bool × (Int × Int × List
 (Int × Int × (Int × Int × Bool × Int × List
 T70D × Int × Int × Unit) × Unit) × List T113D × Unit) × T53D × Unit) × Unit) =>
 some val)
 o
def S30 : Sig := ⟨P30, R30, F30⟩
noncomputable def E30 : Env := { tab := tab, nt := 106, Γ := lookG [], joins := lookN [(7, ⟨[⟨.fld 2005000 3, T33, .pv⟩], [1, 2, 3, 4], [.site 2005000, .fld 2005000 0, .fld 2005000 1, .fld 2005000 2, .fld 2005000 4, .fld 2005000 5, .fld 2005000 6, .fld 2005000 7, .fld 2005000 8, .fld 2005000 9, .fld 2005000 10, .fld 2005000 11, .fld 2005000 12, .fld 2005000 13, .fld 2005000 14, .fld 2005000 15, .fld 2005000 16, .site 2000, .fld 2000 0, .fld 2000 1, .fld 2000 2, .fld 2000 3, .fld 2000 4, .fld 2000 5, .fld 2000 6, .fld 2000 7, .fld 2000 8, .fld 2000 9, .fld 2000 10, .fld 2000 11, .fld 2000 12, .fld 2000 13, .fld 2000 14, .fld 2000 15, .fld 2000 16, .site 1000, .fld 1000 0, .fld 1000 1, .fld 1000 2, .fld 1000 3, .fld 1000 4, .fld 1000 5, .fld 1000 6, .fld 1000 7, .fld 1000 8, .fld 1000 9, .fld 1000 10, .fld 1000 11, .fld 1000 12, .fld 1000 13, .fld 1000 14, .fld 1000 15, .fld 1000 16]⟩), (9, ⟨[⟨.fld 2005000 4, (.int .i64), .pv⟩], [1, 2, 3, 4], [.site 2005000, .fld 2005000 0, .fld 2005000 1, .fld 2005000 2, .fld 2005000 3, .fld 2005000 5, .fld 2005000 6, .fld 2005000 7, .fld 2005000 8, .fld 2005000 9, .fld 2005000 10, .fld 2005000 11, .fld 2005000 12, .fld 2005000 13, .fld 2005000 14, .fld 2005000 15, .fld 2005000 16, .site 2000, .fld 2000 0, .fld 2000 1, .fld 2000 2, .fld 2000 3, .fld 2000 4, .fld 2000 5, .fld 2000 6, .fld 2000 7, .fld 2000 8, .fld 2000 9, .fld 2000 10, .fld 2000 11, .fld 2000 12, .fld 2000 13, .fld 2000 14, .fld 2000 15, .fld 2000 16, .site 1000, .fld 1000 0, .fld 1000 1, .fld 1000 2, .fld 1000 3, .fld 1000 4, .fld 1000 5, .fld 1000 6, .fld 1000 7, .fld 1000 8, .fld 1000 9, .fld 1000 10, .fld 1000 11, .fld 1000 12, .fld 1000 13, .fld 1000 14, .fld 1000 15, .fld 1000 16]⟩), (11, ⟨[⟨.fld 2005000 5, .str, .pv⟩, ⟨.fld 2005000 6, .str, .pv⟩], [1, 2, 3, 4], [.site 2005000, .fld 2005000 0, .fld 2005000 1, .fld 2005000 2, .fld 2005000 3, .fld 2005000 4, .fld 2005000 7, .fld 2005000 8, .fld 2005000 9, .fld 2005000 10, .fld 2005000 11, .fld 2005000 12, .fld 2005000 13, .fld 2005000 14, .fld 2005000 15, .fld 2005000 16, .site 2000, .fld 2000 0, .fld 2000 1, .fld 2000 2, .fld 2000 3, .fld 2000 4, .fld 2000 5, .fld 2000 6, .fld 2000 7, .fld 2000 8, .fld 2000 9, .fld 2000 10, .fld 2000 11, .fld 2000 12, .fld 2000 13, .fld 2000 14, .fld 2000 15, .fld 2000 16, .site 1000, .fld 1000 0, .fld 1000 1, .fld 1000 2, .fld 1000 3, .fld 1000 4, .fld 1000 5, .fld 1000 6, .fld 1000 7, .fld 1000 8, .fld 1000 9, .fld 1000 10, .fld 1000 11, .fld 1000 12, .fld 1000 13, .fld 1000 14, .fld 1000 15, .fld 1000 16]⟩), (13, ⟨[⟨.fld 2005000 7, (.int .i64), .pv⟩], [1, 2, 3, 4], [.site 2005000, .fld 2005000 0, .fld 2005000 1, .fld 2005000 2, .fld 2005000 3, .fld 2005000 4, .fld 2005000 5, .fld 2005000 6, .fld 2005000 8, .fld 2005000 9, .fld 2005000 10, .fld 2005000 11, .fld 2005000 12, .fld 2005000 13, .fld 2005000 14, .fld 2005000 15, .fld 2005000 16, .site 2000, .fld 2000 0, .fld 2000 1, .fld 2000 2, .fld 2000 3, .fld 2000 4, .fld 2000 5, .fld 2000 6, .fld 2000 7, .fld 2000 8, .fld 2000 9, .fld 2000 10, .fld 2000 11, .fld 2000 12, .fld 2000 13, .fld 2000 14, .fld 2000 15, .fld 2000 16, .site 1000, .fld 1000 0, .fld 1000 1, .fld 1000 2, .fld 1000 3, .fld 1000 4, .fld 1000 5, .fld 1000 6, .fld 1000 7, .fld 1000 8, .fld 1000 9, .fld 1000 10, .fld 1000 11, .fld 1000 12, .fld 1000 13, .fld 1000 14, .fld 1000 15, .fld 1000 16]⟩), (15, ⟨[⟨.fld 2005000 8, (.int .i64), .pv⟩], [1, 2, 3, 4], [.site 2005000, .fld 2005000 0, .fld 2005000 1, .fld 2005000 2, .fld 2005000 3, .fld 2005000 4, .fld 2005000 5, .fld 2005000 6, .fld 2005000 7, .fld 2005000 9, .fld 2005000 10, .fld 2005000 11, .fld 2005000 12, .fld 2005000 13, .fld 2005000 14, .fld 2005000 15, .fld 2005000 16, .site 2000, .fld 2000 0, .fld 2000 1, .fld 2000 2, .fld 2000 3, .fld 2000 4, .fld 2000 5, .fld 2000 6, .fld 2000 7, .fld 2000 8, .fld 2000 9, .fld 2000 10, .fld 2000 11, .fld 2000 12, .fld 2000 13, .fld 2000 14, .fld 2000 15, .fld 2000 16, .site 1000, .fld 1000 0, .fld 1000 1, .fld 1000 2, .fld 1000 3, .fld 1000 4, .fld 1000 5, .fld 1000 6, .fld 1000 7, .fld 1000 8, .fld 1000 9, .fld 1000 10, .fld 1000 11, .fld 1000 12, .fld 1000 13, .fld 1000 14, .fld 1000 15, .fld 1000 16]⟩), (17, ⟨[⟨.fld 2005000 9, (.int .i64), .pv⟩], [1, 2, 3, 4], [.site 2005000, .fld 2005000 0, .fld 2005000 1, .fld 2005000 2, .fld 2005000 3, .fld 2005000 4, .fld 2005000 5, .fld 2005000 6, .fld 2005000 7, .fld 2005000 8, .fld 2005000 10, .fld 2005000 11, .fld 2005000 12, .fld 2005000 13, .fld 2005000 14, .fld 2005000 15, .fld 2005000 16, .site 2000, .fld 2000 0, .fld 2000 1, .fld 2000 2, .fld 2000 3, .fld 2000 4, .fld 2000 5, .fld 2000 6, .fld 2000 7, .fld 2000 8, .fld 2000 9, .fld 2000 10, .fld 2000 11, .fld 2000 12, .fld 2000 13, .fld 2000 14, .fld 2000 15, .fld 2000 16, .site 1000, .fld 1000 0, .fld 1000 1, .fld 1000 2, .fld 1000 3, .fld 1000 4, .fld 1000 5, .fld 1000 6, .fld 1000 7, .fld 1000 8, .fld 1000 9, .fld 1000 10, .fld 1000 11, .fld 1000 12, .fld 1000 13, .fld 1000 14, .fld 1000 15, .fld 1000 16]⟩), (28, ⟨[⟨.fld 2005000 10, (.int .i64), .pv⟩, ⟨.fld 2005000 11, T51, .pv⟩, ⟨.fld 2005000 12, (.slice TB), .pv⟩, ⟨.fld 2005000 13, (.slice T70), .pv⟩, ⟨.fld 2005000 14, .bool, .pv⟩, ⟨.fld 2005000 15, T55, .pv⟩, ⟨.fld 2005000 16, T53, .pv⟩], [2, 4], [.site 2005000, .fld 2005000 0, .fld 2005000 1, .fld 2005000 2, .fld 2005000 3, .fld 2005000 4, .fld 2005000 5, .fld 2005000 6, .fld 2005000 7, .fld 2005000 8, .fld 2005000 9, .site 2000, .fld 2000 0, .fld 2000 1, .fld 2000 2, .fld 2000 3, .fld 2000 4, .fld 2000 5, .fld 2000 6, .fld 2000 7, .fld 2000 8, .fld 2000 9, .fld 2000 10, .fld 2000 11, .fld 2000 12, .fld 2000 13, .fld 2000 14, .fld 2000 15, .fld 2000 16]⟩)], loops := lookN [] }
theorem raw30_eq (x : TMD × Unit) : afun E30 Tryz.f30 P30 R30 x = F30 x := by kernel_rfl
-- decamp/decampref11.number
def F64 (x : Int × Unit) : Option (Bool × Unit) :=
 bif decide (0 ≤ x.fst) then some (decide (x.fst ≤ 1099511627776), ()) else some (false, ())
def S64 : Sig := ⟨P64, R64, F64⟩
noncomputable def E64 : Env := { tab := tab, nt := 9, Γ := lookG [], joins := lookN [], loops := lookN [] }
theorem raw64_eq (x : Int × Unit) : afun E64 Tryz.f64 P64 R64 x = F64 x := by kernel_rfl
-- decamp/decampref11.bare
def F65 (x : T27D × Unit) : Option (Bool × Unit) := let o : Bool → Bool → Option (Bool × Unit) → Option (Bool × Unit) := (fun (p q : Bool) (r : Option (Bool × Unit)) => bif p then r else bif q then r else some (false, ()))

  (o (decide (x.1.1 = 1) || decide (x.1.1 = 3) || decide (x.1.1 = 5) || decide (x.1.1 = 6)) (decide (x.1.2.2.2.2.1 = 0))
  (o (decide (x.1.1 = 1) || decide (x.1.1 = 3) || decide (x.1.1 = 5)) (decide (x.1.2.2.2.2.2.1 = 0))
  (o (decide (x.1.1 = 5)) (decide (x.1.2.2.2.2.2.2.1 = 0)) 
  (o (decide (x.1.1 = 5)) (decide (Int.ofNat (List.length x.1.2.2.2.2.2.2.2.2.2.1) = 0))
  (o (decide (x.1.1 = 5) || decide (x.1.1 = 6)) (decide (x.1.2.2.2.2.2.2.2.1 = 0))
  (o (decide (x.1.1 = 2) || decide (x.1.1 = 4) || decide (x.1.1 = 6)) (!x.1.2.2.2.2.2.2.2.2.1)
  (bif decide (x.1.1 = 7) then some (true, ()) else bif decide (x.1.2.2.2.2.2.2.2.2.2.2.1.1 = 0) then bif decide (x.1.2.2.2.2.2.2.2.2.2.2.1.2.1 = 0) then some (decide (Int.ofNat (List.length x.1.2.2.2.2.2.2.2.2.2.2.1.2.2.1) = 0), ()) else some (false, ()) else some (false, ()))))))))
def S65 : Sig := ⟨P65, R65, F65⟩
noncomputable def E65 : Env := { tab := tab, nt := 114, Γ := lookG [], joins := lookN [(2, ⟨[⟨.slot 3, .bool, .pv⟩], [1], [.site 1000, .fld 1000 0, .fld 1000 1, .fld 1000 2, .fld 1000 3, .fld 1000 4, .fld 1000 5, .fld 1000 6, .fld 1000 7, .fld 1000 8, .fld 1000 9, .fld 1000 10]⟩), (3, ⟨[⟨.slot 4, .bool, .pv⟩], [1, 3], [.site 1000, .fld 1000 0, .fld 1000 1, .fld 1000 2, .fld 1000 3, .fld 1000 4, .fld 1000 5, .fld 1000 6, .fld 1000 7, .fld 1000 8, .fld 1000 9, .fld 1000 10]⟩)], loops := lookN [] }
-- decamp/decampref07.number
def F104 (x : Int × Unit) : Option (Bool × Unit) :=
 bif decide (1 ≤ x.fst) then some (decide (x.fst ≤ 1099511627776), ()) else some (false, ())
def S104 : Sig := ⟨P104, R104, F104⟩
noncomputable def E104 : Env := { tab := tab, nt := 9, Γ := lookG [], joins := lookN [], loops := lookN [] }
theorem raw104_eq (x : Int × Unit) : afun E104 Tryz.f104 P104 R104 x = F104 x := by kernel_rfl
-- decamp/decampref07.Right
def F103 (x : T25D × Unit) : Option (Bool × Unit) :=
 Option.bind (F104 (x.fst.fst, ())) fun b =>
 bif b.fst then
 Option.bind (F104 (x.fst.snd.fst, ())) fun b =>
 bif b.fst then some (decide (Int.ofNat (List.length x.fst.snd.snd.fst) ≤ 12000), ())
 else some (false, ())
 else some (false, ())
def S103 : Sig := ⟨P103, R103, F103⟩
noncomputable def E103 : Env := { tab := tab, nt := 17, Γ := lookG [(104, [S104])], joins := lookN [], loops := lookN [] }
theorem raw103_eq (x : T25D × Unit) : afun E103 Tryz.f103 P103 R103 x = F103 x := by kernel_rfl
-- decamp/decampref07.Run
def F66 (x : Int × Int × List T25D × Unit) : Option (Bool × Unit) :=
 iterE (Int × Int × Unit) (Bool × Unit)
 (fun (x_1 : Int × Int × Unit) =>
 bif decide (x_1.snd.fst < Int.ofNat (List.length x.snd.snd.fst)) then
 Option.bind (idx x.snd.snd.fst x_1.snd.fst) fun b =>
 Option.bind (F103 (b, ())) fun b =>
 bif !b.fst then some (Sum.inr (false, ()))
 else
 Option.bind (idx x.snd.snd.fst x_1.snd.fst) fun b =>
 bif decide (b.snd.fst < x_1.fst) then some (Sum.inr (false, ()))
 else
 Option.bind
 (bif decide (x_1.snd.fst = 0) then
 bif decide (x.fst < 0) then some (Sum.inr (Sum.inr (false, ())))
 else
 bif decide (1099511627776 ≤ x.fst) then some (Sum.inr (Sum.inr (false, ())))
 else
 Option.bind (idx x.snd.snd.fst x_1.snd.fst) fun b =>
 bif !decide (b.fst = wrap64 (x.fst + 1)) then
 some (Sum.inr (Sum.inr (false, ())))
 else
 bif decide (0 < x_1.snd.fst) then
 Option.bind (idx x.snd.snd.fst x_1.snd.fst) fun b =>
 Option.bind (idx x.snd.snd.fst (wrap64 (x_1.snd.fst - 1)))
 fun b_1 =>
 bif !decide (b.fst = wrap64 (b_1.fst + 1)) then
 some (Sum.inr (Sum.inr (false, ())))
 else some (Sum.inl ())
 else some (Sum.inl ())
 else
 bif decide (0 < x_1.snd.fst) then
 Option.bind (idx x.snd.snd.fst x_1.snd.fst) fun b =>
 Option.bind (idx x.snd.snd.fst (wrap64 (x_1.snd.fst - 1)))
 fun b_1 =>
 bif !decide (b.fst = wrap64 (b_1.fst + 1)) then
 some (Sum.inr (Sum.inr (false, ())))
 else some (Sum.inl ())
 else some (Sum.inl ()))
 fun o =>
 Sum.elim
 (fun (_z : Unit) =>
 Option.bind (idx x.snd.snd.fst x_1.snd.fst) fun b =>
 some (Sum.inl (b.snd.fst, wrap64 (x_1.snd.fst + 1), ())))
 (fun (val : Int × Int × Unit ⊕ Bool × Unit) => some val) o
 else some (Sum.inr (true, ())))
 big (x.snd.fst, 0, ())
def S66 : Sig := ⟨P66, R66, F66⟩
noncomputable def E66 : Env := { tab := tab, nt := 73, Γ := lookG [(103, [S103])], joins := lookN [(8, ⟨[], [0, 2, 7, 9, 10], []⟩)], loops := lookN [(2, mkLoop ⟨[⟨.slot 1, (.int .i64), .pv⟩, ⟨.slot 10, (.int .i64), .pv⟩], [0, 2, 9], []⟩)] }
theorem raw66_eq (x : Int × Int × List T25D × Unit) : afun E66 Tryz.f66 P66 R66 x = F66 x := by kernel_rfl
-- decamp/decampref07.Snap
def F67 (x : T25D × Unit) : Option (Bool × Unit) :=
 Option.bind
 (bif decide (x.fst.fst = 0) then
 bif decide (x.fst.snd.fst = 0) then
 some (Sum.inr (decide (Int.ofNat (List.length x.fst.snd.snd.fst) = 0), ()))
 else some (Sum.inl ())
 else some (Sum.inl ()))
 fun o =>
 Sum.elim
 (fun (_z : Unit) =>
 Option.bind (F104 (x.fst.fst, ())) fun b =>
 bif b.fst then
 Option.bind (F104 (x.fst.snd.fst, ())) fun b =>
 bif b.fst then some (decide (Int.ofNat (List.length x.fst.snd.snd.fst) ≤ 50000), ())
 else some (false, ())
 else some (false, ()))
 (fun (val : Bool × Unit) => some val) o
def S67 : Sig := ⟨P67, R67, F67⟩
noncomputable def E67 : Env := { tab := tab, nt := 29, Γ := lookG [(104, [S104])], joins := lookN [(3, ⟨[], [1], [.site 1000, .fld 1000 0, .fld 1000 1, .fld 1000 2]⟩)], loops := lookN [] }
theorem raw67_eq (x : T25D × Unit) : afun E67 Tryz.f67 P67 R67 x = F67 x := by kernel_rfl
-- decamp/decampref11.Right
def F31 (x : T27D × Unit) : Option (Bool × Unit) :=
 bif decide (x.fst.fst < 1) then some (false, ())
 else
 bif decide (7 < x.fst.fst) then some (false, ())
 else
 bif decide (x.fst.snd.fst < 0) then some (false, ())
 else
 bif decide (2 < x.fst.snd.fst) then some (false, ())
 else
 bif decide (x.fst.snd.snd.fst < 0) then some (false, ())
 else
 bif decide (2 < x.fst.snd.snd.fst) then some (false, ())
 else
 bif decide (x.fst.snd.fst = x.fst.snd.snd.fst) then some (false, ())
 else
 bif decide (x.fst.snd.snd.snd.fst < 1) then some (false, ())
 else
 Option.bind (F64 (x.fst.snd.snd.snd.fst, ())) fun b =>
 bif !b.fst then some (false, ())
 else
 Option.bind (F64 (x.fst.snd.snd.snd.snd.fst, ())) fun b =>
 bif !b.fst then some (false, ())
 else
 Option.bind (F64 (x.fst.snd.snd.snd.snd.snd.fst, ())) fun b =>
 bif !b.fst then some (false, ())
 else
 Option.bind (F64 (x.fst.snd.snd.snd.snd.snd.snd.fst, ()))
 fun b =>
 bif !b.fst then some (false, ())
 else
 Option.bind (F64 (x.fst.snd.snd.snd.snd.snd.snd.snd.fst, ()))
 fun b =>
 bif !b.fst then some (false, ())
 else
 Option.bind (F65 x) fun b =>
 bif !b.fst then some (false, ())
 else
 bif
 decide
 (4 <
 Int.ofNat
 (List.length x.fst.snd.snd.snd.snd.snd.snd.snd.snd.snd.fst)) then
 some (false, ())
 else
 Option.bind
 (F66
 (x.fst.snd.snd.snd.snd.fst, x.fst.snd.snd.snd.snd.snd.fst,
 x.fst.snd.snd.snd.snd.snd.snd.snd.snd.snd.fst, ()))
 fun b =>
 bif !b.fst then some (false, ())
 else
 iterE (Int × Unit) (Bool × Unit)
 (fun (x_1 : Int × Unit) =>
 bif
 decide
 (x_1.fst <
 Int.ofNat
 (List.length
 x.fst.snd.snd.snd.snd.snd.snd.snd.snd.snd.fst)) then
 Option.bind
 (idx x.fst.snd.snd.snd.snd.snd.snd.snd.snd.snd.fst x_1.fst)
 fun b =>
 bif decide (x.fst.snd.snd.snd.fst < b.snd.fst) then
 some (Sum.inr (false, ()))
 else
 some
 (Sum.inl
 (wrap64 (x_1.fst + 1), ()))
 else
 Option.map Sum.inr
 (bif !decide (x.fst.fst = 7) then some (true, ())
 else
 Option.bind
 (F67 x.fst.snd.snd.snd.snd.snd.snd.snd.snd.snd.snd)
 fun b =>
 bif b.fst then
 some
 (decide
 (0 <
 x.fst.snd.snd.snd.snd.snd.snd.snd.snd.snd.snd.fst.fst),
 ())
 else some (false, ())))
 big (0, ())
def S31 : Sig := ⟨P31, R31, F31⟩
noncomputable def E31 : Env := { tab := tab, nt := 121, Γ := lookG [(64, [S64]), (65, [S65]), (66, [S66]), (67, [S67])], joins := lookN [], loops := lookN [(8, mkLoop ⟨[⟨.slot 94, (.int .i64), .pv⟩], [1, 93], [.site 1000, .fld 1000 0, .fld 1000 1, .fld 1000 2, .fld 1000 3, .fld 1000 4, .fld 1000 5, .fld 1000 6, .fld 1000 7, .fld 1000 8, .fld 1000 9, .fld 1000 10]⟩)] }
theorem raw31_eq (x : T27D × Unit) : afun E31 Tryz.f31 P31 R31 x = F31 x := by kernel_rfl
-- decamp/decampref22.within
def F32 (x : Int × Int × Int × Unit) : Option (Bool × Unit) :=
 bif decide (x.snd.fst ≤ x.fst) then some (decide (x.fst ≤ x.snd.snd.fst), ()) else some (false, ())
def S32 : Sig := ⟨P32, R32, F32⟩
noncomputable def E32 : Env := { tab := tab, nt := 15, Γ := lookG [], joins := lookN [], loops := lookN [] }
theorem raw32_eq (x : Int × Int × Int × Unit) : afun E32 Tryz.f32 P32 R32 x = F32 x := by kernel_rfl
-- decamp/decampref15.text
def F71 (x : List UInt8 × UInt8 × Unit) : Option (Bool × Unit) :=
 iterE (Int × Unit) (Bool × Unit)
 (fun (x_1 : Int × Unit) =>
 bif decide (x_1.fst < Int.ofNat (List.length x.fst)) then
 Option.bind (idx x.fst x_1.fst) fun b =>
 bif decide (intOf8 b < intOf8 (UInt8.ofNat 33)) then some (Sum.inr (false, ()))
 else
 Option.bind (idx x.fst x_1.fst) fun b =>
 bif decide (intOf8 x.snd.fst < intOf8 b) then some (Sum.inr (false, ()))
 else some (Sum.inl (wrap64 (x_1.fst + 1), ()))
 else
 Option.map Sum.inr
 (bif decide (1 ≤ Int.ofNat (List.length x.fst)) then
 some (decide (Int.ofNat (List.length x.fst) ≤ 32), ())
 else some (false, ())))
 big (0, ())
def S71 : Sig := ⟨P71, R71, F71⟩
noncomputable def E71 : Env := { tab := tab, nt := 31, Γ := lookG [], joins := lookN [], loops := lookN [(2, mkLoop ⟨[⟨.slot 8, (.int .i64), .pv⟩], [0, 1, 7], []⟩)] }
theorem raw71_eq (x : List UInt8 × UInt8 × Unit) : afun E71 Tryz.f71 P71 R71 x = F71 x := by kernel_rfl
-- decamp/decampref15.Key
def F36 (x : List UInt8 × Unit) : Option (Bool × Unit) := Option.bind (F71 (x.fst, UInt8.ofNat 126, ())) fun b => some b
def S36 : Sig := ⟨P36, R36, F36⟩
noncomputable def E36 : Env := { tab := tab, nt := 5, Γ := lookG [(71, [S71])], joins := lookN [], loops := lookN [] }
theorem raw36_eq (x : List UInt8 × Unit) : afun E36 Tryz.f36 P36 R36 x = F36 x := by kernel_rfl
-- decamp/decampref15.Range
def F34 (x : List UInt8 × List UInt8 × Unit) : Option (Bool × Unit) :=
 Option.bind (F36 (x.fst, ())) fun b =>
 bif b.fst then
 bif decide (Int.ofNat (List.length x.snd.fst) = 0) then some (true, ())
 else
 Option.bind (F71 (x.snd.fst, UInt8.ofNat 127, ())) fun b =>
 bif b.fst then some (strlt x.fst x.snd.fst, ()) else some (false, ())
 else some (false, ())
def S34 : Sig := ⟨P34, R34, F34⟩
noncomputable def E34 : Env := { tab := tab, nt := 21, Γ := lookG [(36, [S36]), (71, [S71])], joins := lookN [], loops := lookN [] }
theorem raw34_eq (x : List UInt8 × List UInt8 × Unit) : afun E34 Tryz.f34 P34 R34 x = F34 x := by kernel_rfl
-- decamp/decampref17.Prefix
def F35 (x : List UInt8 × Unit) : Option (Bool × Unit) :=
 bif decide (Int.ofNat (List.length x.fst) ≤ 8) then Option.bind (F36 x) fun b => some b
 else some (false, ())
def S35 : Sig := ⟨P35, R35, F35⟩
noncomputable def E35 : Env := { tab := tab, nt := 10, Γ := lookG [(36, [S36])], joins := lookN [], loops := lookN [] }
theorem raw35_eq (x : List UInt8 × Unit) : afun E35 Tryz.f35 P35 R35 x = F35 x := by kernel_rfl
-- decamp/decampref17.within
def F69 (x : Int × Int × Int × Unit) : Option (Bool × Unit) :=
 bif decide (x.snd.fst ≤ x.fst) then some (decide (x.fst ≤ x.snd.snd.fst), ()) else some (false, ())
def S69 : Sig := ⟨P69, R69, F69⟩
noncomputable def E69 : Env := { tab := tab, nt := 15, Γ := lookG [], joins := lookN [], loops := lookN [] }
theorem raw69_eq (x : Int × Int × Int × Unit) : afun E69 Tryz.f69 P69 R69 x = F69 x := by kernel_rfl
-- decamp/decampref17.one
def F70 (x : Int × Unit) : Option (Bool × Unit) := Option.bind (F69 (x.fst, 1, 1099511627776, ())) fun b => some b
def S70 : Sig := ⟨P70, R70, F70⟩
noncomputable def E70 : Env := { tab := tab, nt := 5, Γ := lookG [(69, [S69])], joins := lookN [], loops := lookN [] }
theorem raw70_eq (x : Int × Unit) : afun E70 Tryz.f70 P70 R70 x = F70 x := by kernel_rfl
-- decamp/decampref17.natural
def F73 (x : Int × Unit) : Option (Bool × Unit) := Option.bind (F69 (x.fst, 0, 1099511627776, ())) fun b => some b
def S73 : Sig := ⟨P73, R73, F73⟩
noncomputable def E73 : Env := { tab := tab, nt := 5, Γ := lookG [(69, [S69])], joins := lookN [], loops := lookN [] }
theorem raw73_eq (x : Int × Unit) : afun E73 Tryz.f73 P73 R73 x = F73 x := by kernel_rfl
-- decamp/decampref14.Ver
def F72 (x : T66D × Unit) : Option (Bool × Unit) :=
 bif decide (x.fst.fst < 1) then some (false, ())
 else
 bif decide (1099511627776 < x.fst.fst) then some (false, ())
 else
 bif decide (x.fst.snd.snd.fst < 1) then some (false, ())
 else
 bif decide (1099511627776 < x.fst.snd.snd.fst) then some (false, ())
 else
 bif x.fst.snd.snd.snd.snd.snd.snd.fst then
 bif decide (x.fst.snd.fst = 0) then
 bif decide (x.fst.snd.snd.snd.fst = 0) then
 bif decide (x.fst.snd.snd.snd.snd.snd.fst = 0) then
 some (decide (Int.ofNat (List.length x.fst.snd.snd.snd.snd.fst) = 0), ())
 else some (false, ())
 else some (false, ())
 else some (false, ())
 else
 bif decide (1 ≤ x.fst.snd.fst) then
 bif decide (x.fst.snd.fst ≤ x.fst.snd.snd.fst) then
 bif decide (1 ≤ x.fst.snd.snd.snd.fst) then
 bif decide (x.fst.snd.snd.snd.fst ≤ 1099511627776) then
 bif decide (Int.ofNat (List.length x.fst.snd.snd.snd.snd.fst) ≤ 40) then
 bif decide (-1099511627776 ≤ x.fst.snd.snd.snd.snd.snd.fst) then
 some (decide (x.fst.snd.snd.snd.snd.snd.fst ≤ 1099511627776), ())
 else some (false, ())
 else some (false, ())
 else some (false, ())
 else some (false, ())
 else some (false, ())
 else some (false, ())
def S72 : Sig := ⟨P72, R72, F72⟩
noncomputable def E72 : Env := { tab := tab, nt := 78, Γ := lookG [], joins := lookN [], loops := lookN [] }
theorem raw72_eq (x : T66D × Unit) : afun E72 Tryz.f72 P72 R72 x = F72 x := by kernel_rfl
-- decamp/decampref17.Reply
def F37 (x : T51D × Unit) : Option (Bool × Unit) :=
 iterE (Int × Unit) (Bool × Unit)
 (fun (x_1 : Int × Unit) =>
 bif decide (x_1.fst < Int.ofNat (List.length x.fst.snd.snd.snd.snd.fst)) then
 Option.bind (idx x.fst.snd.snd.snd.snd.fst x_1.fst)
 fun b =>
 Option.bind (F36 (b.fst, ())) fun b =>
 bif !b.fst then some (Sum.inr (false, ()))
 else
 Option.bind (idx x.fst.snd.snd.snd.snd.fst x_1.fst)
 fun b =>
 Option.bind (F72 b.snd) fun b =>
 bif !b.fst then some (Sum.inr (false, ()))
 else some (Sum.inl (wrap64 (x_1.fst + 1), ()))
 else
 Option.map Sum.inr
 (Option.bind (F69 (x.fst.fst, 0, 15, ())) fun b =>
 bif b.fst then
 Option.bind (F73 (x.fst.snd.fst, ())) fun b =>
 bif b.fst then
 Option.bind (F73 (x.fst.snd.snd.snd.fst, ())) fun b =>
 bif b.fst then
 Option.bind (F73 x.fst.snd.snd.snd.snd.snd.snd) fun b =>
 bif b.fst then
 Option.bind (F69 (x.fst.snd.snd.snd.snd.snd.fst, 0, 1, ())) fun b =>
 bif b.fst then
 some (decide (Int.ofNat (List.length x.fst.snd.snd.snd.snd.fst) ≤ 8), ())
 else some (false, ())
 else some (false, ())
 else some (false, ())
 else some (false, ())
 else some (false, ())))
 big (0, ())
def S37 : Sig := ⟨P37, R37, F37⟩
noncomputable def E37 : Env := { tab := tab, nt := 58, Γ := lookG [(36, [S36]), (69, [S69]), (72, [S72]), (73, [S73])], joins := lookN [], loops := lookN [(2, mkLoop ⟨[⟨.slot 7, (.int .i64), .pv⟩], [1, 6], [.site 1000, .fld 1000 0, .fld 1000 1, .fld 1000 2, .fld 1000 3, .fld 1000 4, .fld 1000 5, .fld 1000 6]⟩)] }
theorem raw37_eq (x : T51D × Unit) : afun E37 Tryz.f37 P37 R37 x = F37 x := by kernel_rfl
-- decamp/decampref17.Sess
def F74 (x : List T94D × Int × Unit) : Option (Bool × Unit) :=
 iterE (Int × Unit) (Bool × Unit)
 (fun (x_1 : Int × Unit) =>
 bif decide (x_1.fst < Int.ofNat (List.length x.fst)) then
 Option.bind (idx x.fst x_1.fst)
 fun b =>
 Option.bind (F69 (b.fst, 1, x.snd)) fun b =>
 bif !b.fst then some (Sum.inr (false, ()))
 else
 Option.bind (idx x.fst x_1.fst)
 fun b =>
 Option.bind (F70 (b.snd.fst, ())) fun b =>
 bif !b.fst then some (Sum.inr (false, ()))
 else
 Option.bind (idx x.fst x_1.fst)
 fun b =>
 Option.bind (F37 b.snd.snd) fun b =>
 bif !b.fst then some (Sum.inr (false, ()))
 else
 bif decide (0 < x_1.fst) then
 Option.bind (idx x.fst (wrap64 (x_1.fst - 1)))
 fun b =>
 Option.bind (idx x.fst x_1.fst)
 fun b_1 =>
 bif decide (b_1.fst ≤ b.fst) then some (Sum.inr (false, ()))
 else some (Sum.inl (wrap64 (x_1.fst + 1), ()))
 else some (Sum.inl (wrap64 (x_1.fst + 1), ()))
 else some (Sum.inr (true, ())))
 big (0, ())
def S74 : Sig := ⟨P74, R74, F74⟩
noncomputable def E74 : Env := { tab := tab, nt := 56, Γ := lookG [(37, [S37]), (69, [S69]), (70, [S70])], joins := lookN [], loops := lookN [(2, mkLoop ⟨[⟨.slot 8, (.int .i64), .pv⟩], [0, 1, 7], []⟩)] }
theorem raw74_eq (x : List T94D × Int × Unit) : afun E74 Tryz.f74 P74 R74 x = F74 x := by kernel_rfl
-- decamp/decampref17.leases
def F75 (x : List T113D × Unit) : Option (Bool × Unit) :=
 iterE (Int × Unit) (Bool × Unit)
 (fun (x_1 : Int × Unit) =>
 bif decide (x_1.fst < Int.ofNat (List.length x.fst)) then
 Option.bind (idx x.fst x_1.fst) fun b =>
 Option.bind (F70 (b.fst, ())) fun b =>
 bif !b.fst then some (Sum.inr (false, ()))
 else
 Option.bind (idx x.fst x_1.fst) fun b =>
 Option.bind (F69 (b.snd.fst, 1, 1000, ())) fun b =>
 bif !b.fst then some (Sum.inr (false, ()))
 else
 Option.bind (idx x.fst x_1.fst) fun b =>
 Option.bind (F69 (b.snd.snd.fst, 0, 1000, ())) fun b =>
 bif !b.fst then some (Sum.inr (false, ()))
 else
 bif decide (0 < x_1.fst) then
 Option.bind (idx x.fst (wrap64 (x_1.fst - 1)))
 fun b =>
 Option.bind (idx x.fst x_1.fst) fun b_1 =>
 bif decide (b_1.fst ≤ b.fst) then some (Sum.inr (false, ()))
 else some (Sum.inl (wrap64 (x_1.fst + 1), ()))
 else some (Sum.inl (wrap64 (x_1.fst + 1), ()))
 else some (Sum.inr (decide (Int.ofNat (List.length x.fst) ≤ 64), ())))
 big (0, ())
def S75 : Sig := ⟨P75, R75, F75⟩
noncomputable def E75 : Env := { tab := tab, nt := 56, Γ := lookG [(69, [S69]), (70, [S70])], joins := lookN [], loops := lookN [(2, mkLoop ⟨[⟨.slot 6, (.int .i64), .pv⟩], [0, 5], []⟩)] }
theorem raw75_eq (x : List T113D × Unit) : afun E75 Tryz.f75 P75 R75 x = F75 x := by kernel_rfl
-- decamp/decampref17.bare
def F105 (x : T28D × Unit) : Option (Bool × Unit) := let o : Bool → Bool → Option (Bool × Unit) → Option (Bool × Unit) := (fun (p q : Bool) (r : Option (Bool × Unit)) => bif p then r else bif q then r else some (false, ()))
  
  ((o (decide (x.1.1 = 1) || decide (x.1.1 = 2) || decide (x.1.1 = 10) || decide (x.1.1 = 12) || decide (x.1.1 = 13)) (decide (x.1.2.1 = []))) 
  ((o (decide (x.1.1 = 2) || decide (x.1.1 = 12) || decide (x.1.1 = 13)) (decide (x.1.2.2.1 = []))) 
  ((o (decide (x.1.1 = 1)) (decide (x.1.2.2.2.1 = []))) 
  ((o (decide (x.1.1 = 1) || decide (x.1.1 = 5) || decide (x.1.1 = 6) || decide (x.1.1 = 7) || decide (x.1.1 = 9)) (decide (x.1.2.2.2.2.1 = 0))) 
  ((o (decide (x.1.1 = 5)) (decide (x.1.2.2.2.2.2.1 = 0))) 
  ((o (decide (x.1.1 = 4) || decide (x.1.1 = 12) || decide (x.1.1 = 14) || decide (x.1.1 = 15)) (decide (x.1.2.2.2.2.2.2.1 = 0))) 
  ((o (decide (x.1.1 = 3)) (decide (wrap64 (wrap64 (Int.ofNat (List.length x.1.2.2.2.2.2.2.2.1) + Int.ofNat (List.length x.1.2.2.2.2.2.2.2.2.1)) + Int.ofNat (List.length x.1.2.2.2.2.2.2.2.2.2.1)) = 0))) 
  ((o (decide (10 ≤ x.1.1)) (decide (x.1.2.2.2.2.2.2.2.2.2.2.1 = 0))) 
  ((fun r => bif decide (12 ≤ x.1.1) then (o (decide (x.1.1 ≤ 15)) (decide (x.1.2.2.2.2.2.2.2.2.2.2.2.1 = 0)) r) else (o false (decide (x.1.2.2.2.2.2.2.2.2.2.2.2.1 = 0)) r)) 
  ((o (decide (x.1.1 = 14)) (decide (x.1.2.2.2.2.2.2.2.2.2.2.2.2.1 = 0))) 
  ((o (decide (x.1.1 = 13)) (!x.1.2.2.2.2.2.2.2.2.2.2.2.2.2.1)) 
  ((o (decide (x.1.1 = 13) || decide (x.1.1 = 14)) (decide (Int.ofNat (List.length x.1.2.2.2.2.2.2.2.2.2.2.2.2.2.2.1) = 0))) (bif decide (x.1.1 = 15) then some (true, ()) else some (decide (wrap64 (Int.ofNat (List.length x.1.2.2.2.2.2.2.2.2.2.2.2.2.2.2.2.1) + Int.ofNat (List.length x.1.2.2.2.2.2.2.2.2.2.2.2.2.2.2.2.2.1)) = 0), ()))))))))))))))
def S105 : Sig := ⟨P105, R105, F105⟩
noncomputable def E105 : Env := { tab := tab, nt := 204, Γ := lookG [], joins := lookN [(3, ⟨[⟨.slot 4, .bool, .pv⟩], [1, 3], [.site 1000, .fld 1000 0, .fld 1000 1, .fld 1000 2, .fld 1000 3, .fld 1000 4, .fld 1000 5, .fld 1000 6, .fld 1000 7, .fld 1000 8, .fld 1000 9, .fld 1000 10, .fld 1000 11, .fld 1000 12, .fld 1000 13, .fld 1000 14, .fld 1000 15, .fld 1000 16]⟩), (4, ⟨[⟨.slot 5, .bool, .pv⟩], [1, 3, 4], [.site 1000, .fld 1000 0, .fld 1000 1, .fld 1000 2, .fld 1000 3, .fld 1000 4, .fld 1000 5, .fld 1000 6, .fld 1000 7, .fld 1000 8, .fld 1000 9, .fld 1000 10, .fld 1000 11, .fld 1000 12, .fld 1000 13, .fld 1000 14, .fld 1000 15, .fld 1000 16]⟩), (5, ⟨[⟨.slot 6, .bool, .pv⟩], [1, 3, 4, 5], [.site 1000, .fld 1000 0, .fld 1000 1, .fld 1000 2, .fld 1000 3, .fld 1000 4, .fld 1000 5, .fld 1000 6, .fld 1000 7, .fld 1000 8, .fld 1000 9, .fld 1000 10, .fld 1000 11, .fld 1000 12, .fld 1000 13, .fld 1000 14, .fld 1000 15, .fld 1000 16]⟩), (6, ⟨[⟨.slot 7, .bool, .pv⟩], [1, 3, 4, 5, 6], [.site 1000, .fld 1000 0, .fld 1000 1, .fld 1000 2, .fld 1000 3, .fld 1000 4, .fld 1000 5, .fld 1000 6, .fld 1000 7, .fld 1000 8, .fld 1000 9, .fld 1000 10, .fld 1000 11, .fld 1000 12, .fld 1000 13, .fld 1000 14, .fld 1000 15, .fld 1000 16]⟩)], loops := lookN [] }
-- decamp/decampref17.cmps
def F106 (x : List T96D × Unit) : Option (Bool × Unit) :=
 iterE (Int × Unit) (Bool × Unit)
 (fun (x_1 : Int × Unit) =>
 bif decide (x_1.fst < Int.ofNat (List.length x.fst)) then
 Option.bind (idx x.fst x_1.fst) fun b =>
 Option.bind
 (bif decide (1 ≤ b.snd.fst) then
 bif decide (b.snd.fst ≤ 4) then
 bif decide (Int.ofNat (List.length b.snd.snd.snd.snd.fst) = 0) then
 Option.bind (F69 (b.snd.snd.snd.fst, -1099511627776, 1099511627776, ()))
 fun b => some (Sum.inl b)
 else some (Sum.inl (false, ()))
 else some (Sum.inl (false, ()))
 else some (Sum.inl (false, ())))
 fun o =>
 Sum.elim
 (fun (x : Bool × Unit) =>
 Option.bind
 (bif decide (b.snd.fst = 5) then
 bif decide (b.snd.snd.snd.fst = 0) then
 some (Sum.inl (decide (Int.ofNat (List.length b.snd.snd.snd.snd.fst) ≤ 40), ()))
 else some (Sum.inl (false, ()))
 else some (Sum.inl (false, ())))
 fun o =>
 Sum.elim
 (fun (x_2 : Bool × Unit) =>
 Option.bind (F36 (b.fst, ())) fun b_1 =>
 bif !b_1.fst then some (Sum.inr (false, ()))
 else
 Option.bind (F69 (b.snd.snd.fst, 0, 2, ())) fun b =>
 bif !b.fst then some (Sum.inr (false, ()))
 else
 bif !x.fst then
 bif !x_2.fst then some (Sum.inr (false, ()))
 else some (Sum.inl (wrap64 (x_1.fst + 1), ()))
 else some (Sum.inl (wrap64 (x_1.fst + 1), ())))
 (fun (val : Int × Unit ⊕ Bool × Unit) => some val) o)
 (fun (val : Int × Unit ⊕ Bool × Unit) => some val) o
 else some (Sum.inr (decide (Int.ofNat (List.length x.fst) ≤ 4), ())))
 big (0, ())
def S106 : Sig := ⟨P106, R106, F106⟩
noncomputable def E106 : Env := { tab := tab, nt := 71, Γ := lookG [(36, [S36]), (69, [S69])], joins := lookN [(6, ⟨[⟨.slot 5, .bool, .pv⟩], [0, 4, 8, 9], [.site 4005000, .fld 4005000 0, .fld 4005000 1, .fld 4005000 2, .fld 4005000 3, .fld 4005000 4]⟩), (7, ⟨[⟨.slot 6, .bool, .pv⟩], [0, 4, 5, 8, 9], [.site 4005000, .fld 4005000 0, .fld 4005000 1, .fld 4005000 2, .fld 4005000 3, .fld 4005000 4]⟩)], loops := lookN [(2, mkLoop ⟨[⟨.slot 9, (.int .i64), .pv⟩], [0, 8], []⟩)] }
theorem raw106_eq (x : List T96D × Unit) : afun E106 Tryz.f106 P106 R106 x = F106 x := by kernel_rfl
-- decamp/decampref17.op
def F135 (x : T48D × Unit) : Option (Bool × Unit) :=
 bif decide (x.fst.fst = 1) then
 bif decide (Int.ofNat (List.length x.fst.snd.snd.fst) = 0) then
 Option.bind (F36 (x.fst.snd.fst, ())) fun b =>
 bif b.fst then
 bif decide (Int.ofNat (List.length x.fst.snd.snd.snd.fst) ≤ 40) then
 Option.bind (F73 x.fst.snd.snd.snd.snd) fun b => some b
 else some (false, ())
 else some (false, ())
 else some (false, ())
 else
 bif decide (x.fst.fst = 2) then
 bif decide (Int.ofNat (List.length x.fst.snd.snd.snd.fst) = 0) then
 bif decide (x.fst.snd.snd.snd.snd.fst = 0) then
 Option.bind (F34 (x.fst.snd.fst, x.fst.snd.snd.fst, ())) fun b => some b
 else some (false, ())
 else some (false, ())
 else
 bif decide (x.fst.fst = 3) then
 bif decide (Int.ofNat (List.length x.fst.snd.snd.snd.fst) = 0) then
 bif decide (x.fst.snd.snd.snd.snd.fst = 0) then
 Option.bind (F34 (x.fst.snd.fst, x.fst.snd.snd.fst, ())) fun b => some b
 else some (false, ())
 else some (false, ())
 else some (false, ())
def S135 : Sig := ⟨P135, R135, F135⟩
noncomputable def E135 : Env := { tab := tab, nt := 52, Γ := lookG [(34, [S34]), (36, [S36]), (73, [S73])], joins := lookN [], loops := lookN [] }
theorem raw135_eq (x : T48D × Unit) : afun E135 Tryz.f135 P135 R135 x = F135 x := by kernel_rfl
-- decamp/decampref15.In
def F151 (x : List UInt8 × List UInt8 × List UInt8 × Unit) : Option (Bool × Unit) :=
 Option.bind (F34 (x.fst, x.snd.fst, ())) fun b =>
 bif !b.fst then some (false, ())
 else
 Option.bind (F36 x.snd.snd) fun b =>
 bif !b.fst then some (false, ())
 else
 bif decide (Int.ofNat (List.length x.snd.fst) = 0) then some (decide (x.snd.snd.fst = x.fst), ())
 else
 bif !strlt x.snd.snd.fst x.fst then some (strlt x.snd.snd.fst x.snd.fst, ())
 else some (false, ())
def S151 : Sig := ⟨P151, R151, F151⟩
noncomputable def E151 : Env := { tab := tab, nt := 30, Γ := lookG [(34, [S34]), (36, [S36])], joins := lookN [], loops := lookN [] }
theorem raw151_eq (x : List UInt8 × List UInt8 × List UInt8 × Unit) : afun E151 Tryz.f151 P151 R151 x = F151 x := by kernel_rfl
-- decamp/decampref17.meet
def F136 (x : T48D × T48D × Unit) : Option (Bool × Unit) :=
 bif decide (x.fst.fst = 3) then some (false, ())
 else
 bif decide (x.snd.fst.fst = 3) then some (false, ())
 else
 Option.bind (F151 (x.fst.snd.fst, x.fst.snd.snd.fst, x.snd.fst.snd.fst, ())) fun b =>
 bif b.fst then some (true, ())
 else
 Option.bind (F151 (x.snd.fst.snd.fst, x.snd.fst.snd.snd.fst, x.fst.snd.fst, ()))
 fun b => some b
def S136 : Sig := ⟨P136, R136, F136⟩
noncomputable def E136 : Env := { tab := tab, nt := 29, Γ := lookG [(151, [S151])], joins := lookN [], loops := lookN [] }
theorem raw136_eq (x : T48D × T48D × Unit) : afun E136 Tryz.f136 P136 R136 x = F136 x := by kernel_rfl
-- decamp/decampref17.ops
def F107 (x : List T48D × Unit) : Option (Bool × Unit) :=
 iterE (Int × Unit) (Bool × Unit)
 (fun (x_1 : Int × Unit) =>
 bif decide (x_1.fst < Int.ofNat (List.length x.fst)) then
 Option.bind (idx x.fst x_1.fst) fun b =>
 Option.bind (F135 (b, ())) fun b =>
 bif !b.fst then some (Sum.inr (false, ()))
 else
 iterE (Int × Unit) (Int × Unit ⊕ Bool × Unit)
 (fun (x_2 : Int × Unit) =>
 bif decide (x_2.fst < x_1.fst) then
 Option.bind (idx x.fst x_2.fst)
 fun b =>
 Option.bind (idx x.fst x_1.fst)
 fun b_1 =>
 Option.bind (F136 (b, b_1, ())) fun b =>
 bif b.fst then some (Sum.inr (Sum.inr (false, ())))
 else some (Sum.inl (wrap64 (x_2.fst + 1), ()))
 else some (Sum.inr (Sum.inl (wrap64 (x_1.fst + 1), ()))))
 big (0, ())
 else some (Sum.inr (decide (Int.ofNat (List.length x.fst) ≤ 4), ())))
 big (0, ())
def S107 : Sig := ⟨P107, R107, F107⟩
noncomputable def E107 : Env := { tab := tab, nt := 34, Γ := lookG [(135, [S135]), (136, [S136])], joins := lookN [], loops := lookN [(2, mkLoop ⟨[⟨.slot 7, (.int .i64), .pv⟩], [0, 6], []⟩), (7, mkLoop ⟨[⟨.slot 17, (.int .i64), .pv⟩], [0, 3, 6, 7, 16], []⟩)] }
theorem raw107_eq (x : List T48D × Unit) : afun E107 Tryz.f107 P107 R107 x = F107 x := by kernel_rfl
-- decamp/decampref17.page
def F108 (x : T28D × Unit) : Option (Bool × Unit) :=
 iterE (Int × Unit) (Bool × Unit)
 (fun (x_1 : Int × Unit) =>
 bif
 decide
 (x_1.fst < Int.ofNat (List.length x.fst.snd.snd.snd.snd.snd.snd.snd.snd.snd.snd.snd.snd.snd.snd.fst)) then
 Option.bind (idx x.fst.snd.snd.snd.snd.snd.snd.snd.snd.snd.snd.snd.snd.snd.snd.fst x_1.fst)
 fun b =>
 Option.bind (F36 (b.fst, ())) fun b_1 =>
 bif !b_1.fst then some (Sum.inr (false, ()))
 else
 Option.bind (F72 b.snd) fun b_2 =>
 bif !b_2.fst then some (Sum.inr (false, ()))
 else
 bif b.snd.fst.snd.snd.snd.snd.snd.snd.fst then some (Sum.inr (false, ()))
 else
 bif decide (0 < x_1.fst) then
 Option.bind
 (idx x.fst.snd.snd.snd.snd.snd.snd.snd.snd.snd.snd.snd.snd.snd.snd.fst
 (wrap64 (x_1.fst - 1)))
 fun b_3 =>
 bif !strlt b_3.fst b.fst then some (Sum.inr (false, ()))
 else some (Sum.inl (wrap64 (x_1.fst + 1), ()))
 else some (Sum.inl (wrap64 (x_1.fst + 1), ()))
 else
 Option.map Sum.inr
 (bif decide (x.fst.snd.fst = []) then
 bif decide (x.fst.snd.snd.fst = []) then
 some
 (decide (Int.ofNat (List.length x.fst.snd.snd.snd.snd.snd.snd.snd.snd.snd.snd.snd.snd.snd.snd.fst) ≤ 8),
 ())
 else
 Option.bind (F36 (x.fst.snd.snd.fst, ())) fun b =>
 bif b.fst then
 some
 (decide
 (Int.ofNat (List.length x.fst.snd.snd.snd.snd.snd.snd.snd.snd.snd.snd.snd.snd.snd.snd.fst) ≤ 8),
 ())
 else some (false, ())
 else
 Option.bind (F36 (x.fst.snd.fst, ())) fun b =>
 bif b.fst then
 bif decide (x.fst.snd.snd.fst = []) then
 some
 (decide
 (Int.ofNat (List.length x.fst.snd.snd.snd.snd.snd.snd.snd.snd.snd.snd.snd.snd.snd.snd.fst) ≤ 8),
 ())
 else
 Option.bind (F36 (x.fst.snd.snd.fst, ())) fun b =>
 bif b.fst then
 some
 (decide
 (Int.ofNat (List.length x.fst.snd.snd.snd.snd.snd.snd.snd.snd.snd.snd.snd.snd.snd.snd.fst) ≤
 8),
 ())
 else some (false, ())
 else some (false, ())))
 big (0, ())
def S108 : Sig := ⟨P108, R108, F108⟩
noncomputable def E108 : Env := { tab := tab, nt := 72, Γ := lookG [(36, [S36]), (72, [S72])], joins := lookN [], loops := lookN [(2, mkLoop ⟨[⟨.slot 8, (.int .i64), .pv⟩], [1, 7], [.site 1000, .fld 1000 0, .fld 1000 1, .fld 1000 2, .fld 1000 3, .fld 1000 4, .fld 1000 5, .fld 1000 6, .fld 1000 7, .fld 1000 8, .fld 1000 9, .fld 1000 10, .fld 1000 11, .fld 1000 12, .fld 1000 13, .fld 1000 14, .fld 1000 15, .fld 1000 16]⟩)] }
theorem raw108_eq (x : T28D × Unit) : afun E108 Tryz.f108 P108 R108 x = F108 x := by kernel_rfl
-- decamp/decampref17.tail
def F109 (x : T28D × Unit) : Option (Bool × Unit) :=
 iterE (Int × Unit) (Bool × Unit)
 (fun (x_1 : Int × Unit) =>
 bif
 decide
 (x_1.fst < Int.ofNat (List.length x.fst.snd.snd.snd.snd.snd.snd.snd.snd.snd.snd.snd.snd.snd.snd.fst)) then
 Option.bind (idx x.fst.snd.snd.snd.snd.snd.snd.snd.snd.snd.snd.snd.snd.snd.snd.fst x_1.fst)
 fun b =>
 Option.bind (F36 (b.fst, ())) fun b_1 =>
 bif !b_1.fst then some (Sum.inr (false, ()))
 else
 Option.bind (F72 b.snd) fun b_2 =>
 bif !b_2.fst then some (Sum.inr (false, ()))
 else
 bif decide (b.snd.fst.fst ≤ x.fst.snd.snd.snd.snd.snd.snd.fst) then some (Sum.inr (false, ()))
 else
 bif decide (x.fst.snd.snd.snd.snd.snd.snd.snd.snd.snd.snd.snd.snd.fst < b.snd.fst.fst) then
 some (Sum.inr (false, ()))
 else
 bif decide (0 < x_1.fst) then
 Option.bind
 (idx x.fst.snd.snd.snd.snd.snd.snd.snd.snd.snd.snd.snd.snd.snd.snd.fst
 (wrap64 (x_1.fst - 1)))
 fun b_3 =>
 bif decide (b.snd.fst.fst < b_3.snd.fst.fst) then some (Sum.inr (false, ()))
 else
 Option.bind
 (idx x.fst.snd.snd.snd.snd.snd.snd.snd.snd.snd.snd.snd.snd.snd.snd.fst
 (wrap64 (x_1.fst - 1)))
 fun b_4 =>
 bif decide (b_4.snd.fst.fst = b.snd.fst.fst) then
 Option.bind
 (idx x.fst.snd.snd.snd.snd.snd.snd.snd.snd.snd.snd.snd.snd.snd.snd.fst
 (wrap64 (x_1.fst - 1)))
 fun b_5 =>
 bif !strlt b_5.fst b.fst then some (Sum.inr (false, ()))
 else some (Sum.inl (wrap64 (x_1.fst + 1), ()))
 else some (Sum.inl (wrap64 (x_1.fst + 1), ()))
 else some (Sum.inl (wrap64 (x_1.fst + 1), ()))
 else
 Option.map Sum.inr
 (Option.bind (F70 (x.fst.snd.snd.snd.snd.snd.snd.fst, ())) fun b =>
 bif b.fst then
 Option.bind (F70 (x.fst.snd.snd.snd.snd.snd.snd.snd.snd.snd.snd.snd.snd.fst, ()))
 fun b =>
 bif b.fst then
 bif
 decide
 (x.fst.snd.snd.snd.snd.snd.snd.fst <
 x.fst.snd.snd.snd.snd.snd.snd.snd.snd.snd.snd.snd.snd.fst) then
 some
 (decide
 (Int.ofNat (List.length x.fst.snd.snd.snd.snd.snd.snd.snd.snd.snd.snd.snd.snd.snd.snd.fst) ≤
 64),
 ())
 else some (false, ())
 else some (false, ())
 else some (false, ())))
 big (0, ())
def S109 : Sig := ⟨P109, R109, F109⟩
noncomputable def E109 : Env := { tab := tab, nt := 106, Γ := lookG [(36, [S36]), (70, [S70]), (72, [S72])], joins := lookN [], loops := lookN [(2, mkLoop ⟨[⟨.slot 8, (.int .i64), .pv⟩], [1, 7], [.site 1000, .fld 1000 0, .fld 1000 1, .fld 1000 2, .fld 1000 3, .fld 1000 4, .fld 1000 5, .fld 1000 6, .fld 1000 7, .fld 1000 8, .fld 1000 9, .fld 1000 10, .fld 1000 11, .fld 1000 12, .fld 1000 13, .fld 1000 14, .fld 1000 15, .fld 1000 16]⟩)] }
theorem raw109_eq (x : T28D × Unit) : afun E109 Tryz.f109 P109 R109 x = F109 x := by kernel_rfl
-- decamp/decampref17.Right
def F68 (x : T28D × Unit) : Option (Bool × Unit) :=
 Option.bind
 (Option.bind (F105 x) fun b =>
 bif !b.fst then some (Sum.inr (false, ()))
 else
 bif decide (10 ≤ x.fst.fst) then
 Option.bind (F70 (x.fst.snd.snd.snd.snd.snd.snd.snd.snd.snd.snd.fst, ())) fun b =>
 bif !b.fst then some (Sum.inr (false, ()))
 else
 bif decide (12 ≤ x.fst.fst) then
 bif decide (x.fst.fst ≤ 15) then
 Option.bind (F70 (x.fst.snd.snd.snd.snd.snd.snd.snd.snd.snd.snd.snd.fst, ()))
 fun b =>
 bif !b.fst then some (Sum.inr (false, ())) else some (Sum.inl ())
 else some (Sum.inl ())
 else some (Sum.inl ())
 else
 bif decide (12 ≤ x.fst.fst) then
 bif decide (x.fst.fst ≤ 15) then
 Option.bind (F70 (x.fst.snd.snd.snd.snd.snd.snd.snd.snd.snd.snd.snd.fst, ()))
 fun b =>
 bif !b.fst then some (Sum.inr (false, ())) else some (Sum.inl ())
 else some (Sum.inl ())
 else some (Sum.inl ()))
 fun o =>
 Sum.elim
 (fun (_z : Unit) =>
 Option.bind
 (bif decide (x.fst.fst = 1) then
 Option.bind (F36 (x.fst.snd.fst, ())) fun b =>
 bif b.fst then
 bif decide (Int.ofNat (List.length x.fst.snd.snd.snd.fst) ≤ 40) then
 Option.bind (F73 (x.fst.snd.snd.snd.snd.fst, ())) fun b => some (Sum.inr b)
 else some (Sum.inr (false, ()))
 else some (Sum.inr (false, ()))
 else
 bif decide (x.fst.fst = 2) then
 Option.bind (F34 (x.fst.snd.fst, x.fst.snd.snd.fst, ())) fun b =>
 some (Sum.inr b)
 else
 bif decide (x.fst.fst = 3) then
 Option.bind (F106 (x.fst.snd.snd.snd.snd.snd.snd.snd.fst, ())) fun b =>
 bif b.fst then
 Option.bind (F107 (x.fst.snd.snd.snd.snd.snd.snd.snd.snd.fst, ())) fun b =>
 bif b.fst then
 Option.bind (F107 (x.fst.snd.snd.snd.snd.snd.snd.snd.snd.snd.fst, ()))
 fun b => some (Sum.inr b)
 else some (Sum.inr (false, ()))
 else some (Sum.inr (false, ()))
 else
 bif decide (x.fst.fst = 4) then
 Option.bind (F70 (x.fst.snd.snd.snd.snd.snd.snd.fst, ())) fun b =>
 some (Sum.inr b)
 else
 bif decide (x.fst.fst = 5) then
 Option.bind (F70 (x.fst.snd.snd.snd.snd.fst, ())) fun b =>
 bif b.fst then
 Option.bind (F69 (x.fst.snd.snd.snd.snd.snd.fst, 1, 1000, ())) fun b =>
 some (Sum.inr b)
 else some (Sum.inr (false, ()))
 else
 bif decide (x.fst.fst = 6) then
 bif decide (x.fst.fst = 6) then
 Option.bind (F70 (x.fst.snd.snd.snd.snd.fst, ())) fun b =>
 some (Sum.inr b)
 else
 bif decide (x.fst.fst = 9) then
 bif !decide (x.fst.snd.snd.snd.snd.fst = 0) then
 Option.bind (F69 (x.fst.snd.snd.snd.snd.fst, -1099511627776, 1099511627776, ()))
 fun b => some (Sum.inr b)
 else some (Sum.inr (false, ()))
 else
 bif decide (x.fst.fst = 10) then
 Option.bind (F35 (x.fst.snd.fst, ())) fun b => some (Sum.inr b)
 else
 bif decide (x.fst.fst = 12) then
 Option.bind (F35 (x.fst.snd.fst, ())) fun b =>
 bif b.fst then
 Option.bind (F35 (x.fst.snd.snd.fst, ())) fun b =>
 bif b.fst then
 Option.bind (F70 (x.fst.snd.snd.snd.snd.snd.snd.fst, ()))
 fun b => some (Sum.inr b)
 else some (Sum.inr (false, ()))
 else some (Sum.inr (false, ()))
 else
 bif decide (x.fst.fst = 13) then
 Option.bind (F108 x) fun b => some (Sum.inr b)
 else
 bif decide (x.fst.fst = 14) then
 Option.bind (F109 x) fun b => some (Sum.inr b)
 else
 bif decide (x.fst.fst = 15) then
 Option.bind (F70 (x.fst.snd.snd.snd.snd.snd.snd.fst, ()))
 fun b =>
 bif b.fst then
 Option.bind
 (F74
 (x.fst.snd.snd.snd.snd.snd.snd.snd.snd.snd.snd.snd.snd.snd.snd.snd.fst, 15,
 ()))
 fun b =>
 bif b.fst then
 Option.bind
 (F75
 x.fst.snd.snd.snd.snd.snd.snd.snd.snd.snd.snd.snd.snd.snd.snd.snd.snd)
 fun b => some (Sum.inr b)
 else some (Sum.inr (false, ()))
 else some (Sum.inr (false, ()))
 else some (Sum.inl ())
 else
 bif decide (x.fst.fst = 7) then
 Option.bind (F70 (x.fst.snd.snd.snd.snd.fst, ())) fun b =>
 some (Sum.inr b)
 else
 bif decide (x.fst.fst = 9) then
 bif !decide (x.fst.snd.snd.snd.snd.fst = 0) then
 Option.bind (F69 (x.fst.snd.snd.snd.snd.fst, -1099511627776, 1099511627776, ()))
 fun b => some (Sum.inr b)
 else some (Sum.inr (false, ()))
 else
 bif decide (x.fst.fst = 10) then
 Option.bind (F35 (x.fst.snd.fst, ())) fun b => some (Sum.inr b)
 else
 bif decide (x.fst.fst = 12) then
 Option.bind (F35 (x.fst.snd.fst, ())) fun b =>
 bif b.fst then
 Option.bind (F35 (x.fst.snd.snd.fst, ())) fun b =>
 bif b.fst then
 Option.bind (F70 (x.fst.snd.snd.snd.snd.snd.snd.fst, ()))
 fun b => some (Sum.inr b)
 else some (Sum.inr (false, ()))
 else some (Sum.inr (false, ()))
 else
 bif decide (x.fst.fst = 13) then
 Option.bind (F108 x) fun b => some (Sum.inr b)
 else
 bif decide (x.fst.fst = 14) then
 Option.bind (F109 x) fun b => some (Sum.inr b)
 else
 bif decide (x.fst.fst = 15) then
 Option.bind (F70 (x.fst.snd.snd.snd.snd.snd.snd.fst, ()))
 fun b =>
 bif b.fst then
 Option.bind
 (F74
 (x.fst.snd.snd.snd.snd.snd.snd.snd.snd.snd.snd.snd.snd.snd.snd.snd.fst, 15,
 ()))
 fun b =>
 bif b.fst then
 Option.bind
 (F75
 x.fst.snd.snd.snd.snd.snd.snd.snd.snd.snd.snd.snd.snd.snd.snd.snd.snd)
 fun b => some (Sum.inr b)
 else some (Sum.inr (false, ()))
 else some (Sum.inr (false, ()))
 else some (Sum.inl ()))
 fun o =>
 Sum.elim
 (fun (_z : Unit) =>
 bif decide (x.fst.fst = 8) then some (true, ())
 else
 bif decide (x.fst.fst = 11) then some (true, ())
 else some (decide (x.fst.fst = 16), ()))
 (fun (val : Bool × Unit) => some val) o)
 (fun (val : Bool × Unit) => some val) o
def S68 : Sig := ⟨P68, R68, F68⟩
noncomputable def E68 : Env := { tab := tab, nt := 160, Γ := lookG [(34, [S34]), (35, [S35]), (36, [S36]), (69, [S69]), (70, [S70]), (73, [S73]), (74, [S74]), (75, [S75]), (105, [S105]), (106, [S106]), (107, [S107]), (108, [S108]), (109, [S109])], joins := lookN [(3, ⟨[], [1], [.site 1000, .fld 1000 0, .fld 1000 1, .fld 1000 2, .fld 1000 3, .fld 1000 4, .fld 1000 5, .fld 1000 6, .fld 1000 7, .fld 1000 8, .fld 1000 9, .fld 1000 10, .fld 1000 11, .fld 1000 12, .fld 1000 13, .fld 1000 14, .fld 1000 15, .fld 1000 16]⟩), (29, ⟨[], [1], [.site 1000, .fld 1000 0, .fld 1000 1, .fld 1000 2, .fld 1000 3, .fld 1000 4, .fld 1000 5, .fld 1000 6, .fld 1000 7, .fld 1000 8, .fld 1000 9, .fld 1000 10, .fld 1000 11, .fld 1000 12, .fld 1000 13, .fld 1000 14, .fld 1000 15, .fld 1000 16]⟩)], loops := lookN [] }
theorem raw68_eq (x : T28D × Unit) : afun E68 Tryz.f68 P68 R68 x = F68 x := by kernel_rfl
-- decamp/decampref17.RightJob
def F33 (x : T33D × Unit) : Option (Bool × Unit) :=
 Option.bind (F68 x.fst.snd.snd) fun b =>
 bif !b.fst then some (false, ())
 else
 bif decide (x.fst.fst = 0) then
 bif decide (x.fst.snd.fst = 0) then some (decide (8 ≤ x.fst.snd.snd.fst.fst), ())
 else some (false, ())
 else
 Option.bind (F69 (x.fst.fst, 1, 31, ())) fun b =>
 bif b.fst then
 Option.bind (F70 (x.fst.snd.fst, ())) fun b =>
 bif b.fst then some (decide (x.fst.snd.snd.fst.fst < 8), ()) else some (false, ())
 else some (false, ())
def S33 : Sig := ⟨P33, R33, F33⟩
noncomputable def E33 : Env := { tab := tab, nt := 33, Γ := lookG [(68, [S68]), (69, [S69]), (70, [S70])], joins := lookN [], loops := lookN [] }
theorem raw33_eq (x : T33D × Unit) : afun E33 Tryz.f33 P33 R33 x = F33 x := by kernel_rfl
-- decamp/decampref22.items
def F39 (x : List T70D × Int × Unit) : Option (Bool × Unit) :=
 iterE (Int × Unit) (Bool × Unit)
 (fun (x_1 : Int × Unit) =>
 bif decide (x_1.fst < Int.ofNat (List.length x.fst)) then
 Option.bind (idx x.fst x_1.fst)
 fun b =>
 Option.bind (F36 (b.fst, ())) fun b =>
 bif !b.fst then some (Sum.inr (false, ()))
 else
 Option.bind (idx x.fst x_1.fst)
 fun b =>
 Option.bind (F72 b.snd) fun b =>
 bif !b.fst then some (Sum.inr (false, ()))
 else some (Sum.inl (wrap64 (x_1.fst + 1), ()))
 else some (Sum.inr (decide (Int.ofNat (List.length x.fst) ≤ x.snd.fst), ())))
 big (0, ())
def S39 : Sig := ⟨P39, R39, F39⟩
noncomputable def E39 : Env := { tab := tab, nt := 32, Γ := lookG [(36, [S36]), (72, [S72])], joins := lookN [], loops := lookN [(2, mkLoop ⟨[⟨.slot 8, (.int .i64), .pv⟩], [0, 1, 7], []⟩)] }
theorem raw39_eq (x : List T70D × Int × Unit) : afun E39 Tryz.f39 P39 R39 x = F39 x := by kernel_rfl
-- decamp/decampref22.batches
def F38 (x : List TBD × Unit) : Option (Bool × Unit) :=
 iterE (Int × Unit) (Bool × Unit)
 (fun (x_1 : Int × Unit) =>
 bif decide (x_1.fst < Int.ofNat (List.length x.fst)) then
 Option.bind (idx x.fst x_1.fst)
 fun b =>
 Option.bind (F32 (b.fst, 1, 1099511627776, ())) fun b =>
 bif !b.fst then some (Sum.inr (false, ()))
 else
 bif decide (0 < x_1.fst) then
 Option.bind (idx x.fst x_1.fst)
 fun b =>
 Option.bind (idx x.fst (wrap64 (x_1.fst - 1)))
 fun b_1 =>
 bif decide (b.fst ≤ b_1.fst) then some (Sum.inr (false, ()))
 else
 Option.bind (idx x.fst x_1.fst)
 fun b =>
 Option.bind (F39 (b.snd.fst, 48, ())) fun b =>
 bif !b.fst then some (Sum.inr (false, ()))
 else some (Sum.inl (wrap64 (x_1.fst + 1), ()))
 else
 Option.bind (idx x.fst x_1.fst)
 fun b =>
 Option.bind (F39 (b.snd.fst, 48, ())) fun b =>
 bif !b.fst then some (Sum.inr (false, ()))
 else some (Sum.inl (wrap64 (x_1.fst + 1), ()))
 else some (Sum.inr (decide (Int.ofNat (List.length x.fst) ≤ 64), ())))
 big (0, ())
def S38 : Sig := ⟨P38, R38, F38⟩
noncomputable def E38 : Env := { tab := tab, nt := 47, Γ := lookG [(32, [S32]), (39, [S39])], joins := lookN [], loops := lookN [(2, mkLoop ⟨[⟨.slot 6, (.int .i64), .pv⟩], [0, 5], []⟩)] }
theorem raw38_eq (x : List TBD × Unit) : afun E38 Tryz.f38 P38 R38 x = F38 x := by kernel_rfl
-- decamp/decampref22.None
def F40 (x : T55D × Unit) : Option (Bool × Unit) :=
 Option.bind (F52 (x.fst, (0, 0, [], [], ()), ())) fun b => some b
def S40 : Sig := ⟨P40, R40, F40⟩
noncomputable def E40 : Env := { tab := tab, nt := 6, Γ := lookG [(52, [S52])], joins := lookN [], loops := lookN [] }
theorem raw40_eq (x : T55D × Unit) : afun E40 Tryz.f40 P40 R40 x = F40 x := by kernel_rfl
-- decamp/decampref17.Hand
def F41 (x : T55D × Unit) : Option (Bool × Unit) :=
 Option.bind (F70 (x.fst.fst, ())) fun b =>
 bif b.fst then
 Option.bind (F73 (x.fst.snd.fst, ())) fun b =>
 bif b.fst then
 Option.bind (F74 (x.fst.snd.snd.fst, 15, ())) fun b =>
 bif b.fst then Option.bind (F75 x.fst.snd.snd.snd) fun b => some b
 else some (false, ())
 else some (false, ())
 else some (false, ())
def S41 : Sig := ⟨P41, R41, F41⟩
noncomputable def E41 : Env := { tab := tab, nt := 21, Γ := lookG [(70, [S70]), (73, [S73]), (74, [S74]), (75, [S75])], joins := lookN [], loops := lookN [] }
theorem raw41_eq (x : T55D × Unit) : afun E41 Tryz.f41 P41 R41 x = F41 x := by kernel_rfl
-- decamp/decampref17.Move
def F42 (x : T53D × Unit) : Option (Bool × Unit) :=
 Option.bind (F69 (x.fst.fst, 0, 4, ())) fun b =>
 bif b.fst then
 Option.bind (F73 (x.fst.snd.fst, ())) fun b =>
 bif b.fst then
 Option.bind (F73 (x.fst.snd.snd.fst, ())) fun b =>
 bif b.fst then
 Option.bind (F73 (x.fst.snd.snd.snd.snd.snd.fst, ())) fun b =>
 bif b.fst then
 Option.bind (F73 (x.fst.snd.snd.snd.snd.snd.snd.snd.fst, ())) fun b =>
 bif b.fst then
 Option.bind (F73 (x.fst.snd.snd.snd.snd.snd.snd.snd.snd.fst, ()))
 fun b =>
 bif b.fst then
 Option.bind (F73 x.fst.snd.snd.snd.snd.snd.snd.snd.snd.snd) fun b =>
 bif b.fst then
 bif decide (x.fst.snd.snd.snd.fst = []) then
 bif decide (x.fst.snd.snd.snd.snd.fst = []) then
 bif decide (x.fst.snd.snd.snd.snd.snd.snd.fst = []) then some (true, ())
 else
 Option.bind (F36 (x.fst.snd.snd.snd.snd.snd.snd.fst, ()))
 fun b => some b
 else
 Option.bind (F35 (x.fst.snd.snd.snd.snd.fst, ())) fun b =>
 bif b.fst then
 bif decide (x.fst.snd.snd.snd.snd.snd.snd.fst = []) then some (true, ())
 else
 Option.bind (F36 (x.fst.snd.snd.snd.snd.snd.snd.fst, ()))
 fun b => some b
 else some (false, ())
 else
 Option.bind (F35 (x.fst.snd.snd.snd.fst, ())) fun b =>
 bif b.fst then
 bif decide (x.fst.snd.snd.snd.snd.fst = []) then
 bif decide (x.fst.snd.snd.snd.snd.snd.snd.fst = []) then some (true, ())
 else
 Option.bind (F36 (x.fst.snd.snd.snd.snd.snd.snd.fst, ()))
 fun b => some b
 else
 Option.bind (F35 (x.fst.snd.snd.snd.snd.fst, ()))
 fun b =>
 bif b.fst then
 bif decide (x.fst.snd.snd.snd.snd.snd.snd.fst = []) then
 some (true, ())
 else
 Option.bind (F36 (x.fst.snd.snd.snd.snd.snd.snd.fst, ()))
 fun b => some b
 else some (false, ())
 else some (false, ())
 else some (false, ())
 else some (false, ())
 else some (false, ())
 else some (false, ())
 else some (false, ())
 else some (false, ())
 else some (false, ())
def S42 : Sig := ⟨P42, R42, F42⟩
noncomputable def E42 : Env := { tab := tab, nt := 66, Γ := lookG [(35, [S35]), (36, [S36]), (69, [S69]), (73, [S73])], joins := lookN [], loops := lookN [] }
theorem raw42_eq (x : T53D × Unit) : afun E42 Tryz.f42 P42 R42 x = F42 x := by kernel_rfl
-- decamp/decampref22.Right
def F11 (x : TMD × Unit) : Option (Bool × Unit) :=
 bif decide (x.fst.fst < 1) then some (false, ())
 else
 bif decide (12 < x.fst.fst) then some (false, ())
 else
 Option.bind (F30 x)
 fun b =>
 Option.bind (F15 (b.fst, x)) fun b =>
 bif !b.fst then some (false, ())
 else
 bif decide (x.fst.fst = 1) then
 Option.bind (F31 (x.fst.snd.snd.fst, ())) fun b => some b
 else
 Option.bind (F32 (x.fst.snd.fst, 1, 1099511627776, ())) fun b =>
 bif !b.fst then some (false, ())
 else
 Option.bind (F32 (x.fst.snd.snd.snd.snd.fst, 0, 31, ())) fun b =>
 bif !b.fst then some (false, ())
 else
 Option.bind (F32 (x.fst.snd.snd.snd.snd.snd.snd.snd.snd.snd.fst, 0, 15, ()))
 fun b =>
 bif !b.fst then some (false, ())
 else
 bif decide (x.fst.fst = 2) then
 Option.bind (F33 (x.fst.snd.snd.snd.fst, ())) fun b => some b
 else
 bif decide (x.fst.fst = 3) then
 Option.bind
 (F34 (x.fst.snd.snd.snd.snd.snd.fst, x.fst.snd.snd.snd.snd.snd.snd.fst, ()))
 fun b =>
 bif b.fst then
 Option.bind
 (F32 (x.fst.snd.snd.snd.snd.snd.snd.snd.fst, 0, 1099511627776, ()))
 fun b =>
 bif b.fst then
 Option.bind (F32 (x.fst.snd.snd.snd.snd.snd.snd.snd.snd.fst, 0, 8, ()))
 fun b => some b
 else some (false, ())
 else some (false, ())
 else
 bif decide (x.fst.fst = 4) then
 Option.bind
 (F34 (x.fst.snd.snd.snd.snd.snd.fst, x.fst.snd.snd.snd.snd.snd.snd.fst, ()))
 fun b =>
 bif b.fst then
 Option.bind
 (F32 (x.fst.snd.snd.snd.snd.snd.snd.snd.fst, 1, 1099511627776, ()))
 fun b => some b
 else some (false, ())
 else
 bif decide (x.fst.fst = 5) then
 Option.bind (F35 (x.fst.snd.snd.snd.snd.snd.fst, ()))
 fun b =>
 bif b.fst then
 bif decide (x.fst.snd.snd.snd.snd.snd.snd.fst = []) then
 Option.bind
 (F32 (x.fst.snd.snd.snd.snd.snd.snd.snd.fst, 1, 1099511627776, ()))
 fun b => some b
 else
 Option.bind (F36 (x.fst.snd.snd.snd.snd.snd.snd.fst, ()))
 fun b =>
 bif b.fst then
 Option.bind
 (F32
 (x.fst.snd.snd.snd.snd.snd.snd.snd.fst, 1, 1099511627776, ()))
 fun b => some b
 else some (false, ())
 else some (false, ())
 else
 bif decide (x.fst.fst = 6) then
 Option.bind
 (F32 (x.fst.snd.snd.snd.snd.snd.snd.snd.fst, 1, 1099511627776, ()))
 fun b => some b
 else
 bif decide (x.fst.fst = 8) then
 Option.bind
 (F32 (x.fst.snd.snd.snd.snd.snd.snd.snd.snd.snd.snd.fst, -1, 2, ()))
 fun b =>
 bif b.fst then
 Option.bind
 (F37 (x.fst.snd.snd.snd.snd.snd.snd.snd.snd.snd.snd.snd.fst, ()))
 fun b => some b
 else some (false, ())
 else
 bif decide (x.fst.fst = 9) then
 Option.bind
 (F32 (x.fst.snd.snd.snd.snd.snd.snd.snd.fst, 0, 1099511627777, ()))
 fun b =>
 bif b.fst then
 Option.bind
 (F38
 (x.fst.snd.snd.snd.snd.snd.snd.snd.snd.snd.snd.snd.snd.fst, ()))
 fun b => some b
 else some (false, ())
 else
 bif decide (x.fst.fst = 10) then
 Option.bind
 (F39
 (x.fst.snd.snd.snd.snd.snd.snd.snd.snd.snd.snd.snd.snd.snd.fst, 8,
 ()))
 fun b => some b
 else
 bif decide (x.fst.fst = 11) then
 Option.bind
 (F40
 (x.fst.snd.snd.snd.snd.snd.snd.snd.snd.snd.snd.snd.snd.snd.snd.snd.fst,
 ()))
 fun b =>
 bif b.fst then some (true, ())
 else
 Option.bind
 (F41
 (x.fst.snd.snd.snd.snd.snd.snd.snd.snd.snd.snd.snd.snd.snd.snd.snd.fst,
 ()))
 fun b => some b
 else
 bif decide (x.fst.fst = 12) then
 Option.bind
 (F32
 (x.fst.snd.snd.snd.snd.snd.snd.snd.fst, 0, 1099511627776, ()))
 fun b =>
 bif b.fst then
 Option.bind
 (F42
 x.fst.snd.snd.snd.snd.snd.snd.snd.snd.snd.snd.snd.snd.snd.snd.snd.snd)
 fun b => some b
 else some (false, ())
 else some (true, ())
def S11 : Sig := ⟨P11, R11, F11⟩
noncomputable def E11 : Env := { tab := tab, nt := 146, Γ := lookG [(15, [S15]), (30, [S30]), (31, [S31]), (32, [S32]), (33, [S33]), (34, [S34]), (35, [S35]), (36, [S36]), (37, [S37]), (38, [S38]), (39, [S39]), (40, [S40]), (41, [S41]), (42, [S42])], joins := lookN [], loops := lookN [] }
theorem raw11_eq (x : TMD × Unit) : afun E11 Tryz.f11 P11 R11 x = F11 x := by kernel_rfl
-- decamp/decamplaw11.To
def F46 (x : T27D × Unit) : Option (T27D × Unit) :=
 some x
def S46 : Sig := ⟨P46, R46, F46⟩
noncomputable def E46 : Env := { tab := tab, nt := 4, Γ := lookG [], joins := lookN [], loops := lookN [] }
theorem raw46_eq (x : T27D × Unit) : afun E46 Tryz.f46 P46 R46 x = F46 x := by kernel_rfl
-- decamp/decamplaw22.To
def F13 (x : TMD × Unit) : Option (TMD × Unit) :=
 Option.bind (F46 (x.fst.snd.snd.fst, ()))
 fun b =>
 some ((x.fst.fst, x.fst.snd.fst, b.fst, x.fst.snd.snd.snd), ())
def S13 : Sig := ⟨P13, R13, F13⟩
noncomputable def E13 : Env := { tab := tab, nt := 47, Γ := lookG [(46, [S46])], joins := lookN [], loops := lookN [] }
theorem raw13_eq (x : TMD × Unit) : afun E13 Tryz.f13 P13 R13 x = F13 x := by kernel_rfl
-- (*decamp/caller.Caller).Tick
def F14 (x : Y100D × Unit) : Option (Y58D × Bool × Y100D × Unit) :=
 bif !x.fst.snd.snd.snd.snd.snd.snd.snd.fst then
 some
 ((0, 0,
 (0, 0, (0, 0, 0, 0, 0, 0, 0, 0, false, [], (0, 0, [], ()), ()),
 (0, 0, (0, [], [], [], 0, 0, 0, [], [], [], 0, 0, 0, false, [], [], [], ()), ()), 0, [], [],
 0, 0, 0, 0, (0, 0, false, 0, [], 0, 0, ()), [], [], false, (0, 0, [], [], ()),
 (0, 0, 0, [], [], 0, [], 0, 0, 0, ()), ()),
 ()),
 false, x)
 else
 bif decide (wrap64 (x.fst.snd.snd.snd.snd.snd.snd.fst + 1) < x.fst.snd.snd.snd.fst) then
 some
 ((0, 0,
 (0, 0, (0, 0, 0, 0, 0, 0, 0, 0, false, [], (0, 0, [], ()), ()),
 (0, 0, (0, [], [], [], 0, 0, 0, [], [], [], 0, 0, 0, false, [], [], [], ()), ()), 0, [],
 [], 0, 0, 0, 0, (0, 0, false, 0, [], 0, 0, ()), [], [], false, (0, 0, [], [], ()),
 (0, 0, 0, [], [], 0, [], 0, 0, 0, ()), ()),
 ()),
 false,
 (x.fst.fst, x.fst.snd.fst, x.fst.snd.snd.fst, x.fst.snd.snd.snd.fst, x.fst.snd.snd.snd.snd.fst,
 x.fst.snd.snd.snd.snd.snd.fst, wrap64 (x.fst.snd.snd.snd.snd.snd.snd.fst + 1),
 x.fst.snd.snd.snd.snd.snd.snd.snd),
 ())
 else
 bif decide (wrap64 (x.fst.snd.snd.snd.snd.snd.snd.fst + 1) = x.fst.snd.snd.snd.fst) then
 Option.bind (remO (wrap64 (x.fst.snd.snd.snd.snd.snd.fst + 1)) x.fst.snd.snd.fst)
 fun b =>
 Option.bind
 (F45
 ((x.fst.fst, x.fst.snd.fst, x.fst.snd.snd.fst, x.fst.snd.snd.snd.fst, x.fst.snd.snd.snd.snd.fst, b, 0,
 x.fst.snd.snd.snd.snd.snd.snd.snd),
 ()))
 fun b =>
 some (b.fst, true, b.snd)
 else
 Option.bind
 (F45
 ((x.fst.fst, x.fst.snd.fst, x.fst.snd.snd.fst, x.fst.snd.snd.snd.fst, x.fst.snd.snd.snd.snd.fst,
 x.fst.snd.snd.snd.snd.snd.fst, 0, x.fst.snd.snd.snd.snd.snd.snd.snd),
 ()))
 fun b =>
 some (b.fst, true, b.snd)
def S14 : Sig := ⟨P14, R14, F14⟩
noncomputable def E14 : Env := { tab := tab, nt := 58, Γ := lookG [(45, [S45])], joins := lookN [], loops := lookN [] }
theorem raw14_eq (x : Y100D × Unit) : afun E14 Tryz.f14 P14 R14 x = F14 x := by kernel_rfl
-- (*decamp/caller.Caller).Tick
def F14a (x : Unit) : Option (Y58D × Bool × Unit) :=
 some
 ((0, 0,
 (0, 0, (0, 0, 0, 0, 0, 0, 0, 0, false, [], (0, 0, [], ()), ()),
 (0, 0, (0, [], [], [], 0, 0, 0, [], [], [], 0, 0, 0, false, [], [], [], ()), ()), 0, [], [],
 0, 0, 0, 0, (0, 0, false, 0, [], 0, 0, ()), [], [], false, (0, 0, [], [], ()),
 (0, 0, 0, [], [], 0, [], 0, 0, 0, ()), ()),
 ()),
 false, ())
def S14a : Sig := ⟨P14a, R14a, F14a⟩
noncomputable def E14a : Env := { tab := tab, nt := 58, Γ := lookG [(45, [S45])], joins := lookN [], loops := lookN [] }
theorem raw14a_eq (x : Unit) : afun E14a Tryz.f14 P14a R14a x = F14a x := by kernel_rfl
-- decamp/decamplaw11.Of
def F53 (x : T27D × Unit) : Option (T27D × Unit) :=
 some x
def S53 : Sig := ⟨P53, R53, F53⟩
noncomputable def E53 : Env := { tab := tab, nt := 4, Γ := lookG [], joins := lookN [], loops := lookN [] }
theorem raw53_eq (x : T27D × Unit) : afun E53 Tryz.f53 P53 R53 x = F53 x := by kernel_rfl
-- decamp/decamplaw22.Of
def F16 (x : TMD × Unit) : Option (TMD × Unit) :=
 Option.bind (F53 (x.fst.snd.snd.fst, ()))
 fun b =>
 some ((x.fst.fst, x.fst.snd.fst, b.fst, x.fst.snd.snd.snd), ())
def S16 : Sig := ⟨P16, R16, F16⟩
noncomputable def E16 : Env := { tab := tab, nt := 47, Γ := lookG [(53, [S53])], joins := lookN [], loops := lookN [] }
theorem raw16_eq (x : TMD × Unit) : afun E16 Tryz.f16 P16 R16 x = F16 x := by kernel_rfl
-- decamp/decamplaw24.CallerTurns
def F3 (x : Int × Int × Int × Int × Int × TMD × Unit) : Option (Bool × Unit) :=
 Option.bind (F7 ()) fun b =>
 bif !b.fst then Option.bind (F7 ()) fun b => some b
 else
 Option.bind (F8 x.snd.snd.snd.snd.snd) fun b =>
 bif !b.fst then Option.bind (F7 ()) fun b => some b
 else
 Option.bind (F9 (x.fst, x.snd.fst, x.snd.snd.fst, x.snd.snd.snd.fst, x.snd.snd.snd.snd.fst, ()))
 fun b =>
 bif !b.fst then Option.bind (F7 ()) fun b => some b
 else
 Option.bind (F10 (x.fst, x.snd.fst, x.snd.snd.fst, x.snd.snd.snd.fst, x.snd.snd.snd.snd.fst, ()))
 fun b =>
 bif b.fst.fst then
 bif !decide (b.snd.fst = 0) then some (decide (b.snd.fst = 0), ())
 else
 bif decide (x.snd.snd.snd.snd.snd.fst.fst < 2) then some (decide (b.snd.fst = 0), ())
 else
 bif decide (7 < x.snd.snd.snd.snd.snd.fst.fst) then some (decide (b.snd.fst = 0), ())
 else
 Option.bind
 (F11
 ((x.snd.snd.snd.snd.snd.fst.fst, wrap64 (x.snd.snd.snd.snd.fst + 1),
 x.snd.snd.snd.snd.snd.fst.snd.snd),
 ()))
 fun b_1 =>
 bif !b_1.fst then some (decide (b.snd.fst = 0), ())
 else
 Option.bind
 (F13
 ((x.snd.snd.snd.snd.snd.fst.fst, wrap64 (x.snd.snd.snd.snd.fst + 1),
 x.snd.snd.snd.snd.snd.fst.snd.snd),
 ()))
 fun b_2 =>
 Option.bind (F12 (b.fst.snd, b_2))
 fun b =>
 bif !decide (b.snd.fst = 0) then some (false, ())
 else
 bif !decide (b.fst.snd.fst = wrap64 (4 * x.snd.fst)) then
 some (false, ())
 else
 iterE
 (Int × Int × Int × Int × Int × Int × Int × Int × Bool × (Int × Int × (Int × Int × Int × Int × Int × Int × Int × Int × Bool × List
 T25D × T25D × Unit) × (Int × Int × (Int × List UInt8 × List UInt8 × List UInt8 × Int × Int × Int × List
 T96D × List
 T48D × List
 T48D × Int × Int × Int × Bool × List
 (List UInt8 × (Int × Int × Int × Int × List
 UInt8 × Int × Bool × Unit) × Unit) × List
 (Int × Int × (Int × Int × Bool × Int × List
 (List
 UInt8 × (Int × Int × Int × Int × List
 UInt8 × Int × Bool × Unit) × Unit) × Int × Int × Unit) × Unit) × List
 T113D × Unit) × Unit) × Int × List UInt8 × List UInt8 × Int × Int × Int × Int × (Int × Int × Bool × Int × List
 T70D × Int × Int × Unit) × List
 (Int × List
 T70D × Unit) × List
 T70D × Bool × (Int × Int × List
 (Int × Int × (Int × Int × Bool × Int × List
 (List
 UInt8 × (Int × Int × Int × Int × List
 UInt8 × Int × Bool × Unit) × Unit) × Int × Int × Unit) × Unit) × List
 T113D × Unit) × T53D × Unit) × Unit)
 (Bool × Unit)
 (fun (x_1 :
 Int × Int × Int × Int × Int × Int × Int × Int × Bool × (Int × Int × (Int × Int × Int × Int × Int × Int × Int × Int × Bool × List
 T25D × T25D × Unit) × (Int × Int × (Int × List UInt8 × List UInt8 × List UInt8 × Int × Int × Int × List
 T96D × List
 T48D × List
 T48D × Int × Int × Int × Bool × List
 (List
 UInt8 × (Int × Int × Int × Int × List
 UInt8 × Int × Bool × Unit) × Unit) × List
 (Int × Int × (Int × Int × Bool × Int × List
 (List
 UInt8 × (Int × Int × Int × Int × List
 UInt8 × Int × Bool × Unit) × Unit) × Int × Int × Unit) × Unit) × List
 T113D × Unit) × Unit) × Int × List UInt8 × List UInt8 × Int × Int × Int × Int × (Int × Int × Bool × Int × List
 (List UInt8 × (Int × Int × Int × Int × List
 UInt8 × Int × Bool × Unit) × Unit) × Int × Int × Unit) × List
 (Int × List
 (List UInt8 × (Int × Int × Int × Int × List
 UInt8 × Int × Bool × Unit) × Unit) × Unit) × List
 T70D × Bool × (Int × Int × List
 (Int × Int × (Int × Int × Bool × Int × List
 (List
 UInt8 × (Int × Int × Int × Int × List
 UInt8 × Int × Bool × Unit) × Unit) × Int × Int × Unit) × Unit) × List
 T113D × Unit) × (Int × Int × Int × List UInt8 × List UInt8 × Int × List
 UInt8 × T113D) × Unit) × Unit) =>
 bif decide (x_1.fst < wrap64 (2 * x.snd.snd.fst)) then
 iterE
 (Int × Int × Int × Int × Int × Int × Int × Int × Bool × (Int × Int × (Int × Int × Int × Int × Int × Int × Int × Int × Bool × List
 T25D × T25D × Unit) × (Int × Int × (Int × List UInt8 × List UInt8 × List UInt8 × Int × Int × Int × List
 T96D × List
 T48D × List
 T48D × Int × Int × Int × Bool × List
 (List
 UInt8 × (Int × Int × Int × Int × List
 UInt8 × Int × Bool × Unit) × Unit) × List
 (Int × Int × (Int × Int × Bool × Int × List
 (List
 UInt8 × (Int × Int × Int × Int × List
 UInt8 × Int × Bool × Unit) × Unit) × Int × Int × Unit) × Unit) × List
 T113D × Unit) × Unit) × Int × List UInt8 × List UInt8 × Int × Int × Int × Int × (Int × Int × Bool × Int × List
 (List UInt8 × (Int × Int × Int × Int × List
 UInt8 × Int × Bool × Unit) × Unit) × Int × Int × Unit) × List
 (Int × List
 (List UInt8 × (Int × Int × Int × Int × List
 UInt8 × Int × Bool × Unit) × Unit) × Unit) × List
 T70D × Bool × (Int × Int × List
 (Int × Int × (Int × Int × Bool × Int × List
 (List
 UInt8 × (Int × Int × Int × Int × List
 UInt8 × Int × Bool × Unit) × Unit) × Int × Int × Unit) × Unit) × List
 T113D × Unit) × (Int × Int × Int × List UInt8 × List UInt8 × Int × List
 UInt8 × T113D) × Unit) × Unit)
 (Int × Int × Int × Int × Int × Int × Int × Int × Bool × (Int × Int × (Int × Int × Int × Int × Int × Int × Int × Int × Bool × List
 T25D × T25D × Unit) × (Int × Int × (Int × List UInt8 × List UInt8 × List UInt8 × Int × Int × Int × List
 T96D × List
 T48D × List
 T48D × Int × Int × Int × Bool × List
 (List
 UInt8 × (Int × Int × Int × Int × List
 UInt8 × Int × Bool × Unit) × Unit) × List
 (Int × Int × (Int × Int × Bool × Int × List
 (List
 UInt8 × (Int × Int × Int × Int × List
 UInt8 × Int × Bool × Unit) × Unit) × Int × Int × Unit) × Unit) × List
 T113D × Unit) × Unit) × Int × List UInt8 × List UInt8 × Int × Int × Int × Int × (Int × Int × Bool × Int × List
 (List UInt8 × (Int × Int × Int × Int × List
 UInt8 × Int × Bool × Unit) × Unit) × Int × Int × Unit) × List
 (Int × List
 (List UInt8 × (Int × Int × Int × Int × List
 UInt8 × Int × Bool × Unit) × Unit) × Unit) × List
 T70D × Bool × (Int × Int × List
 (Int × Int × (Int × Int × Bool × Int × List
 (List
 UInt8 × (Int × Int × Int × Int × List
 UInt8 × Int × Bool × Unit) × Unit) × Int × Int × Unit) × Unit) × List
 T113D × Unit) × (Int × Int × Int × List UInt8 × List UInt8 × Int × List
 UInt8 × T113D) × Unit) × Unit ⊕ Bool × Unit)
 (fun (x_2 :
 Int × Int × Int × Int × Int × Int × Int × Int × Bool × (Int × Int × (Int × Int × Int × Int × Int × Int × Int × Int × Bool × List
 T25D × T25D × Unit) × (Int × Int × (Int × List UInt8 × List UInt8 × List UInt8 × Int × Int × Int × List
 (List UInt8 × Int × Int × Int × List
 UInt8 × Unit) × List
 (Int × List UInt8 × List UInt8 × List
 UInt8 × Int × Unit) × List
 (Int × List UInt8 × List
 UInt8 × List
 UInt8 × Int × Unit) × Int × Int × Int × Bool × List
 (List
 UInt8 × (Int × Int × Int × Int × List
 UInt8 × Int × Bool × Unit) × Unit) × List
 (Int × Int × (Int × Int × Bool × Int × List
 (List
 UInt8 × (Int × Int × Int × Int × List
 UInt8 × Int × Bool × Unit) × Unit) × Int × Int × Unit) × Unit) × List
 T113D × Unit) × Unit) × Int × List UInt8 × List UInt8 × Int × Int × Int × Int × (Int × Int × Bool × Int × List
 (List UInt8 × (Int × Int × Int × Int × List
 UInt8 × Int × Bool × Unit) × Unit) × Int × Int × Unit) × List
 (Int × List
 (List UInt8 × (Int × Int × Int × Int × List
 UInt8 × Int × Bool × Unit) × Unit) × Unit) × List
 (List UInt8 × (Int × Int × Int × Int × List
 UInt8 × Int × Bool × Unit) × Unit) × Bool × (Int × Int × List
 (Int × Int × (Int × Int × Bool × Int × List
 (List
 UInt8 × (Int × Int × Int × Int × List
 UInt8 × Int × Bool × Unit) × Unit) × Int × Int × Unit) × Unit) × List
 T113D × Unit) × (Int × Int × Int × List
 UInt8 × List
 UInt8 × Int × List
 UInt8 × T113D) × Unit) × Unit) =>
 bif
 decide
 (x_2.fst < wrap64 (x.snd.snd.snd.fst - 1)) then
 Option.bind (F14 (x_2.snd, ()))
 fun b =>
 bif b.snd.fst then some (Sum.inr (Sum.inr (false, ())))
 else
 some
 (Sum.inl (wrap64 (x_2.fst + 1), b.snd.snd.fst))
 else
 Option.map Sum.inr
 (Option.bind (F14 (x_2.snd, ()))
 fun b =>
 bif !b.snd.fst then some (Sum.inr (false, ()))
 else
 bif !decide (b.fst.fst = x.fst) then
 some (Sum.inr (false, ()))
 else
 Option.bind
 (remO (wrap64 (x_1.fst + 1)) x.snd.snd.fst)
 fun b_3 =>
 bif
 !decide
 (b.fst.snd.fst =
 wrap64
 (wrap64 (4 * x.snd.fst) +
 b_3)) then
 some (Sum.inr (false, ()))
 else
 Option.bind (F16 b.fst.snd.snd)
 fun b_4 =>
 Option.bind
 (F15
 (b_4.fst,
 (x.snd.snd.snd.snd.snd.fst.fst,
 wrap64
 (x.snd.snd.snd.snd.fst + 1),
 x.snd.snd.snd.snd.snd.fst.snd.snd),
 ()))
 fun b_5 =>
 bif !b_5.fst then some (Sum.inr (false, ()))
 else
 some
 (Sum.inl
 (wrap64 (x_1.fst + 1),
 b.snd.snd.fst))))
 big (0, x_1.snd)
 else some (Sum.inr (true, ())))
 big (0, b.snd.snd.fst)
 else
 bif !decide (b.snd.fst = 0) then some (decide (b.snd.fst = 0), ())
 else
 bif decide (x.snd.snd.snd.snd.snd.fst.fst < 2) then some (decide (b.snd.fst = 0), ())
 else
 bif decide (7 < x.snd.snd.snd.snd.snd.fst.fst) then some (decide (b.snd.fst = 0), ())
 else
 Option.bind
 (F11
 ((x.snd.snd.snd.snd.snd.fst.fst, wrap64 (x.snd.snd.snd.snd.fst + 1),
 x.snd.snd.snd.snd.snd.fst.snd.snd),
 ()))
 fun b_1 =>
 bif !b_1.fst then some (decide (b.snd.fst = 0), ())
 else
 Option.bind
 (F13
 ((x.snd.snd.snd.snd.snd.fst.fst, wrap64 (x.snd.snd.snd.snd.fst + 1),
 x.snd.snd.snd.snd.snd.fst.snd.snd),
 ()))
 fun b =>
 Option.bind (F12a b)
 fun b =>
 bif !decide (b.snd.fst = 0) then some (false, ())
 else
 bif !decide (b.fst.snd.fst = wrap64 (4 * x.snd.fst)) then
 some (false, ())
 else none
def S3 : Sig := ⟨P3, R3, F3⟩
-- (*decamp/caller.Caller).Hear
def F17 (x : Y100D × Int × TMD × Unit) : Option (TMD × Bool × Y100D × Unit) :=
 bif !x.fst.snd.snd.snd.snd.snd.snd.snd.fst then
 some
 ((0, 0, (0, 0, 0, 0, 0, 0, 0, 0, false, [], (0, 0, [], ()), ()),
 (0, 0, (0, [], [], [], 0, 0, 0, [], [], [], 0, 0, 0, false, [], [], [], ()), ()), 0, [], [],
 0, 0, 0, 0, (0, 0, false, 0, [], 0, 0, ()), [], [], false, (0, 0, [], [], ()),
 (0, 0, 0, [], [], 0, [], 0, 0, 0, ()), ()),
 false, x.fst, ())
 else
 bif decide (x.snd.fst < wrap64 (4 * x.fst.snd.fst)) then
 some
 ((0, 0, (0, 0, 0, 0, 0, 0, 0, 0, false, [], (0, 0, [], ()), ()),
 (0, 0, (0, [], [], [], 0, 0, 0, [], [], [], 0, 0, 0, false, [], [], [], ()), ()), 0, [], [],
 0, 0, 0, 0, (0, 0, false, 0, [], 0, 0, ()), [], [], false, (0, 0, [], [], ()),
 (0, 0, 0, [], [], 0, [], 0, 0, 0, ()), ()),
 false, x.fst, ())
 else
 bif
 decide
 (wrap64 (wrap64 (4 * x.fst.snd.fst) + x.fst.snd.snd.fst) ≤
 x.snd.fst) then
 some
 ((0, 0, (0, 0, 0, 0, 0, 0, 0, 0, false, [], (0, 0, [], ()), ()),
 (0, 0, (0, [], [], [], 0, 0, 0, [], [], [], 0, 0, 0, false, [], [], [], ()), ()), 0, [],
 [], 0, 0, 0, 0, (0, 0, false, 0, [], 0, 0, ()), [], [], false, (0, 0, [], [], ()),
 (0, 0, 0, [], [], 0, [], 0, 0, 0, ()), ()),
 false, x.fst, ())
 else
 bif !decide (x.snd.snd.fst.snd.fst = x.fst.snd.snd.snd.snd.fst) then
 some
 ((0, 0, (0, 0, 0, 0, 0, 0, 0, 0, false, [], (0, 0, [], ()), ()),
 (0, 0, (0, [], [], [], 0, 0, 0, [], [], [], 0, 0, 0, false, [], [], [], ()), ()), 0, [],
 [], 0, 0, 0, 0, (0, 0, false, 0, [], 0, 0, ()), [], [], false, (0, 0, [], [], ()),
 (0, 0, 0, [], [], 0, [], 0, 0, 0, ()), ()),
 false, x.fst, ())
 else
 Option.bind (F18 (x.fst.snd.snd.snd.snd.snd.snd.snd.snd.fst.fst, ())) fun b =>
 bif !decide (x.snd.snd.fst.fst = b.fst) then
 some
 ((0, 0, (0, 0, 0, 0, 0, 0, 0, 0, false, [], (0, 0, [], ()), ()),
 (0, 0, (0, [], [], [], 0, 0, 0, [], [], [], 0, 0, 0, false, [], [], [], ()), ()), 0,
 [], [], 0, 0, 0, 0, (0, 0, false, 0, [], 0, 0, ()), [], [], false,
 (0, 0, [], [], ()), (0, 0, 0, [], [], 0, [], 0, 0, 0, ()), ()),
 false, x.fst, ())
 else
 Option.bind (F43 x.snd.snd) fun b =>
 bif !b.fst then
 some
 ((0, 0, (0, 0, 0, 0, 0, 0, 0, 0, false, [], (0, 0, [], ()), ()),
 (0, 0, (0, [], [], [], 0, 0, 0, [], [], [], 0, 0, 0, false, [], [], [], ()),
 ()),
 0, [], [], 0, 0, 0, 0, (0, 0, false, 0, [], 0, 0, ()), [], [], false,
 (0, 0, [], [], ()), (0, 0, 0, [], [], 0, [], 0, 0, 0, ()), ()),
 false, x.fst, ())
 else
 bif decide (x.snd.snd.fst.fst = 8) then
 bif decide (x.snd.snd.fst.snd.snd.snd.snd.snd.snd.snd.snd.snd.fst = 14) then
 Option.bind
 (remO (wrap64 (x.fst.snd.snd.snd.snd.snd.fst + 1)) x.fst.snd.snd.fst)
 fun b =>
 Option.bind
 (bif decide (0 ≤ x.snd.snd.fst.snd.snd.snd.snd.snd.snd.snd.snd.snd.snd.fst) then
 bif
 decide
 (x.snd.snd.fst.snd.snd.snd.snd.snd.snd.snd.snd.snd.snd.fst < x.fst.snd.snd.fst) then
 some (Sum.inl (x.snd.snd.fst.snd.snd.snd.snd.snd.snd.snd.snd.snd.snd.fst, ()))
 else some (Sum.inl (b, ()))
 else some (Sum.inl (b, ())))
 fun o =>
 Sum.elim
 (fun (x_1 : Int × Unit) =>
 some
 ((0, 0, (0, 0, 0, 0, 0, 0, 0, 0, false, [], (0, 0, [], ()), ()),
 (0, 0, (0, [], [], [], 0, 0, 0, [], [], [], 0, 0, 0, false, [], [], [], ()),
 ()),
 0, [], [], 0, 0, 0, 0, (0, 0, false, 0, [], 0, 0, ()), [], [], false,
 (0, 0, [], [], ()), (0, 0, 0, [], [], 0, [], 0, 0, 0, ()),
 ()),
 false,
 (x.fst.fst, x.fst.snd.fst, x.fst.snd.snd.fst, x.fst.snd.snd.snd.fst,
 x.fst.snd.snd.snd.snd.fst, x_1.fst, x.fst.snd.snd.snd.fst,
 x.fst.snd.snd.snd.snd.snd.snd.snd),
 ()))
 (fun (val :
 (Int × Int × (Int × Int × Int × Int × Int × Int × Int × Int × Bool × List T25D × T25D × Unit) × (Int × Int × (Int × List UInt8 × List UInt8 × List UInt8 × Int × Int × Int × List
 T96D × List
 T48D × List
 T48D × Int × Int × Int × Bool × List
 T70D × List
 (Int × Int × (Int × Int × Bool × Int × List
 (List UInt8 × (Int × Int × Int × Int × List
 UInt8 × Int × Bool × Unit) × Unit) × Int × Int × Unit) × Unit) × List T113D × Unit) × Unit) × Int × List UInt8 × List UInt8 × Int × Int × Int × Int × (Int × Int × Bool × Int × List
 T70D × Int × Int × Unit) × List
 (Int × List
 T70D × Unit) × List
 T70D × Bool × (Int × Int × List
 (Int × Int × (Int × Int × Bool × Int × List
 T70D × Int × Int × Unit) × Unit) × List T113D × Unit) × T53D × Unit) × Bool × (Int × Int × Int × Int × Int × Int × Int × Bool × (Int × Int × (Int × Int × Int × Int × Int × Int × Int × Int × Bool × List
 T25D × T25D × Unit) × (Int × Int × (Int × List UInt8 × List UInt8 × List UInt8 × Int × Int × Int × List
 T96D × List
 T48D × List
 T48D × Int × Int × Int × Bool × List
 (List UInt8 × (Int × Int × Int × Int × List
 UInt8 × Int × Bool × Unit) × Unit) × List
 (Int × Int × (Int × Int × Bool × Int × List
 (List
 UInt8 × (Int × Int × Int × Int × List
 UInt8 × Int × Bool × Unit) × Unit) × Int × Int × Unit) × Unit) × List
 T113D × Unit) × Unit) × Int × List UInt8 × List UInt8 × Int × Int × Int × Int × (Int × Int × Bool × Int × List
 T70D × Int × Int × Unit) × List
 (Int × List
 T70D × Unit) × List
 T70D × Bool × (Int × Int × List
 (Int × Int × (Int × Int × Bool × Int × List
 (List
 UInt8 × (Int × Int × Int × Int × List
 UInt8 × Int × Bool × Unit) × Unit) × Int × Int × Unit) × Unit) × List
 T113D × Unit) × T53D × Unit) × Unit) × Unit) =>
 some val)
 o
 else
 Option.bind (F44 x.snd.snd)
 fun b =>
 some
 (b.fst, true,
 (x.fst.fst, x.fst.snd.fst, x.fst.snd.snd.fst, x.fst.snd.snd.snd.fst,
 x.fst.snd.snd.snd.snd.fst, x.fst.snd.snd.snd.snd.snd.fst,
 x.fst.snd.snd.snd.snd.snd.snd.fst, false, x.fst.snd.snd.snd.snd.snd.snd.snd.snd),
 ())
 else
 Option.bind (F44 x.snd.snd)
 fun b =>
 some
 (b.fst, true,
 (x.fst.fst, x.fst.snd.fst, x.fst.snd.snd.fst, x.fst.snd.snd.snd.fst,
 x.fst.snd.snd.snd.snd.fst, x.fst.snd.snd.snd.snd.snd.fst, x.fst.snd.snd.snd.snd.snd.snd.fst,
 false, x.fst.snd.snd.snd.snd.snd.snd.snd.snd),
 ())
def S17 : Sig := ⟨P17, R17, F17⟩
noncomputable def E17 : Env := { tab := tab, nt := 117, Γ := lookG [(18, [S18]), (43, [S43]), (44, [S44])], joins := lookN [(7, ⟨[⟨.fld 0 5, (.int .i64), .pv⟩], [0, 6], [.site 0, .fld 0 0, .fld 0 1, .fld 0 2, .fld 0 3, .fld 0 4, .fld 0 6, .fld 0 7, .fld 0 8, .site 2000, .fld 2000 0, .fld 2000 1, .fld 2000 2, .fld 2000 3, .fld 2000 4, .fld 2000 5, .fld 2000 6, .fld 2000 7, .fld 2000 8, .fld 2000 9, .fld 2000 10, .fld 2000 11, .fld 2000 12, .fld 2000 13, .fld 2000 14, .fld 2000 15, .fld 2000 16]⟩)], loops := lookN [] }
theorem raw17_eq (x : Y100D × Int × TMD × Unit) : afun E17 Tryz.f17 P17 R17 x = F17 x := by kernel_rfl
-- (*decamp/caller.Caller).Hear
def F17a (x : Int × TMD × Unit) : Option (TMD × Bool × Unit) :=
 some
 ((0, 0, (0, 0, 0, 0, 0, 0, 0, 0, false, [], (0, 0, [], ()), ()),
 (0, 0, (0, [], [], [], 0, 0, 0, [], [], [], 0, 0, 0, false, [], [], [], ()), ()), 0, [], [], 0,
 0, 0, 0, (0, 0, false, 0, [], 0, 0, ()), [], [], false, (0, 0, [], [], ()),
 (0, 0, 0, [], [], 0, [], 0, 0, 0, ()), ()),
 false, ())
def S17a : Sig := ⟨P17a, R17a, F17a⟩
noncomputable def E17a : Env := { tab := tab, nt := 117, Γ := lookG [(18, [S18]), (43, [S43]), (44, [S44])], joins := lookN [], loops := lookN [] }
theorem raw17a_eq (x : Int × TMD × Unit) : afun E17a Tryz.f17 P17a R17a x = F17a x := by kernel_rfl
-- decamp/decamplaw24.CallerOnce
-- decamp/decamplaw24.few
def F20 (x : List Y78D × Int × Unit) : Option (Bool × Unit) :=
 iterE (Int × Unit) (Bool × Unit)
 (fun (x_1 : Int × Unit) =>
 bif decide (x_1.fst < Int.ofNat (List.length x.fst)) then
 bif decide (x.snd.fst ≤ x_1.fst) then some (Sum.inr (false, ()))
 else
 Option.bind (idx x.fst x_1.fst)
 fun b =>
 Option.bind (F8 b.snd.snd) fun b =>
 bif !b.fst then some (Sum.inr (false, ()))
 else some (Sum.inl (wrap64 (x_1.fst + 1), ()))
 else some (Sum.inr (true, ())))
 big (0, ())
def S20 : Sig := ⟨P20, R20, F20⟩
noncomputable def E20 : Env := { tab := tab, nt := 24, Γ := lookG [(8, [S8])], joins := lookN [], loops := lookN [(2, mkLoop ⟨[⟨.slot 8, (.int .i64), .pv⟩], [0, 1, 7], []⟩)] }
theorem raw20_eq (x : List Y78D × Int × Unit) : afun E20 Tryz.f20 P20 R20 x = F20 x := by kernel_rfl
-- (decamp/decampref24.Caller).parcel
def F54 (x : Y76D × Unit) : Option (Y58D × Unit) :=
 some
 ((x.fst.fst,
 wrap64 (wrap64 (4 * x.fst.snd.fst) + x.fst.snd.snd.snd.snd.snd.fst),
 x.fst.snd.snd.snd.snd.snd.snd.snd.snd.snd),
 ())
def S54 : Sig := ⟨P54, R54, F54⟩
noncomputable def E54 : Env := { tab := tab, nt := 14, Γ := lookG [], joins := lookN [], loops := lookN [] }
theorem raw54_eq (x : Y76D × Unit) : afun E54 Tryz.f54 P54 R54 x = F54 x := by kernel_rfl
-- (decamp/decampref24.Caller).Ask
def F21 (x : Y76D × TMD × Unit) : Option (Y76D × Y58D × Int × Unit) :=
 bif x.fst.snd.snd.snd.snd.snd.snd.snd.fst then
 some
 (x.fst,
 (0, 0,
 (0, 0, (0, 0, 0, 0, 0, 0, 0, 0, false, [], (0, 0, [], ()), ()),
 (0, 0, (0, [], [], [], 0, 0, 0, [], [], [], 0, 0, 0, false, [], [], [], ()), ()), 0, [], [],
 0, 0, 0, 0, (0, 0, false, 0, [], 0, 0, ()), [], [], false, (0, 0, [], [], ()),
 (0, 0, 0, [], [], 0, [], 0, 0, 0, ()), ()),
 ()),
 7, ())
 else
 bif decide (x.snd.fst.fst < 2) then
 some
 (x.fst,
 (0, 0,
 (0, 0, (0, 0, 0, 0, 0, 0, 0, 0, false, [], (0, 0, [], ()), ()),
 (0, 0, (0, [], [], [], 0, 0, 0, [], [], [], 0, 0, 0, false, [], [], [], ()), ()), 0, [],
 [], 0, 0, 0, 0, (0, 0, false, 0, [], 0, 0, ()), [], [], false, (0, 0, [], [], ()),
 (0, 0, 0, [], [], 0, [], 0, 0, 0, ()), ()),
 ()),
 1, ())
 else
 bif decide (7 < x.snd.fst.fst) then
 some
 (x.fst,
 (0, 0,
 (0, 0, (0, 0, 0, 0, 0, 0, 0, 0, false, [], (0, 0, [], ()), ()),
 (0, 0, (0, [], [], [], 0, 0, 0, [], [], [], 0, 0, 0, false, [], [], [], ()), ()), 0, [],
 [], 0, 0, 0, 0, (0, 0, false, 0, [], 0, 0, ()), [], [], false, (0, 0, [], [], ()),
 (0, 0, 0, [], [], 0, [], 0, 0, 0, ()), ()),
 ()),
 1, ())
 else
 Option.bind
 (F11
 ((x.snd.fst.fst, wrap64 (x.fst.snd.snd.snd.snd.fst + 1), x.snd.fst.snd.snd), ()))
 fun b =>
 bif !b.fst then
 some
 (x.fst,
 (0, 0,
 (0, 0, (0, 0, 0, 0, 0, 0, 0, 0, false, [], (0, 0, [], ()), ()),
 (0, 0, (0, [], [], [], 0, 0, 0, [], [], [], 0, 0, 0, false, [], [], [], ()), ()), 0,
 [], [], 0, 0, 0, 0, (0, 0, false, 0, [], 0, 0, ()), [], [], false,
 (0, 0, [], [], ()), (0, 0, 0, [], [], 0, [], 0, 0, 0, ()), ()),
 ()),
 1, ())
 else
 Option.bind
 (F54
 ((x.fst.fst, x.fst.snd.fst, x.fst.snd.snd.fst, x.fst.snd.snd.snd.fst,
 wrap64 (x.fst.snd.snd.snd.snd.fst + 1), x.fst.snd.snd.snd.snd.snd.fst, 0, true,
 false, (x.snd.fst.fst, wrap64 (x.fst.snd.snd.snd.snd.fst + 1), x.snd.fst.snd.snd),
 ()),
 ()))
 fun b =>
 some
 ((x.fst.fst, x.fst.snd.fst, x.fst.snd.snd.fst, x.fst.snd.snd.snd.fst,
 wrap64 (x.fst.snd.snd.snd.snd.fst + 1), x.fst.snd.snd.snd.snd.snd.fst, 0, true,
 false, (x.snd.fst.fst, wrap64 (x.fst.snd.snd.snd.snd.fst + 1), x.snd.fst.snd.snd),
 ()),
 b.fst, 0, ())
def S21 : Sig := ⟨P21, R21, F21⟩
noncomputable def E21 : Env := { tab := tab, nt := 41, Γ := lookG [(11, [S11]), (54, [S54])], joins := lookN [], loops := lookN [] }
theorem raw21_eq (x : Y76D × TMD × Unit) : afun E21 Tryz.f21 P21 R21 x = F21 x := by kernel_rfl
-- decamp/decamplaw22.Sent
def F55 (x : List Y58D × List Y58D × Unit) : Option (Bool × Unit) :=
 bif !decide (Int.ofNat (List.length x.fst) = Int.ofNat (List.length x.snd.fst)) then some (false, ())
 else
 iterE (Int × Unit) (Bool × Unit)
 (fun (x_1 : Int × Unit) =>
 bif decide (x_1.fst < Int.ofNat (List.length x.fst)) then
 Option.bind (idx x.fst x_1.fst)
 fun b =>
 Option.bind (idx x.snd.fst x_1.fst)
 fun b_1 =>
 bif !decide (b.fst = b_1.fst) then some (Sum.inr (false, ()))
 else
 Option.bind (idx x.fst x_1.fst)
 fun b =>
 Option.bind (idx x.snd.fst x_1.fst)
 fun b_2 =>
 bif !decide (b.snd.fst = b_2.snd.fst) then some (Sum.inr (false, ()))
 else
 Option.bind (idx x.fst x_1.fst)
 fun b =>
 Option.bind (F16 b.snd.snd)
 fun b =>
 Option.bind (idx x.snd.fst x_1.fst)
 fun b_3 =>
 Option.bind (F15 (b.fst, b_3.snd.snd)) fun b =>
 bif !b.fst then some (Sum.inr (false, ()))
 else some (Sum.inl (wrap64 (x_1.fst + 1), ()))
 else some (Sum.inr (true, ())))
 big (0, ())
def S55 : Sig := ⟨P55, R55, F55⟩
noncomputable def E55 : Env := { tab := tab, nt := 56, Γ := lookG [(15, [S15]), (16, [S16])], joins := lookN [], loops := lookN [(4, mkLoop ⟨[⟨.slot 13, (.int .i64), .pv⟩], [0, 1, 12], []⟩)] }
theorem raw55_eq (x : List Y58D × List Y58D × Unit) : afun E55 Tryz.f55 P55 R55 x = F55 x := by kernel_rfl
-- decamp/decamplaw24.one
def F22 (x : Y58D × Bool × List Y58D × Unit) : Option (Bool × Unit) :=
 bif !x.snd.fst then
 bif decide (Int.ofNat (List.length x.snd.snd.fst) = 0) then
 Option.bind
 (F25
 (x.fst.snd.snd.fst,
 (0, 0, (0, 0, 0, 0, 0, 0, 0, 0, false, [], (0, 0, [], ()), ()),
 (0, 0, (0, [], [], [], 0, 0, 0, [], [], [], 0, 0, 0, false, [], [], [], ()), ()), 0, [],
 [], 0, 0, 0, 0, (0, 0, false, 0, [], 0, 0, ()), [], [], false, (0, 0, [], [], ()),
 (0, 0, 0, [], [], 0, [], 0, 0, 0, ()), ()),
 ()))
 fun b =>
 bif b.fst then
 bif decide (x.fst.fst = 0) then some (decide (x.fst.snd.fst = 0), ()) else some (false, ())
 else some (false, ())
 else some (false, ())
 else Option.bind (F55 ([x.fst], x.snd.snd)) fun b => some b
def S22 : Sig := ⟨P22, R22, F22⟩
noncomputable def E22 : Env := { tab := tab, nt := 32, Γ := lookG [(25, [S25]), (55, [S55])], joins := lookN [], loops := lookN [] }
theorem raw22_eq (x : Y58D × Bool × List Y58D × Unit) : afun E22 Tryz.f22 P22 R22 x = F22 x := by kernel_rfl
-- (decamp/decampref24.Caller).Tick
def F23 (x : Y76D × Unit) : Option (Y76D × List Y58D × Unit) :=
 bif !x.fst.snd.snd.snd.snd.snd.snd.snd.fst then some (x.fst, [], ())
 else
 Option.bind
 (bif !x.fst.snd.snd.snd.snd.snd.snd.snd.snd.fst then
 bif decide (wrap64 (x.fst.snd.snd.snd.snd.snd.snd.fst + 1) < x.fst.snd.snd.snd.fst) then
 some
 (Sum.inr
 ((x.fst.fst, x.fst.snd.fst, x.fst.snd.snd.fst, x.fst.snd.snd.snd.fst, x.fst.snd.snd.snd.snd.fst,
 x.fst.snd.snd.snd.snd.snd.fst, wrap64 (x.fst.snd.snd.snd.snd.snd.snd.fst + 1),
 x.fst.snd.snd.snd.snd.snd.snd.snd),
 [], ()))
 else
 some
 (Sum.inl
 (0, 0, 0, 0, 0, 0, 0, false, false,
 (0, 0, (0, 0, 0, 0, 0, 0, 0, 0, false, [], (0, 0, [], ()), ()),
 (0, 0, (0, [], [], [], 0, 0, 0, [], [], [], 0, 0, 0, false, [], [], [], ()), ()), 0,
 [], [], 0, 0, 0, 0, (0, 0, false, 0, [], 0, 0, ()), [], [], false, (0, 0, [], [], ()),
 (0, 0, 0, [], [], 0, [], 0, 0, 0, ()), ()),
 ()))
 else
 some
 (Sum.inl
 (0, 0, 0, 0, 0, 0, 0, false, false,
 (0, 0, (0, 0, 0, 0, 0, 0, 0, 0, false, [], (0, 0, [], ()), ()),
 (0, 0, (0, [], [], [], 0, 0, 0, [], [], [], 0, 0, 0, false, [], [], [], ()), ()), 0, [],
 [], 0, 0, 0, 0, (0, 0, false, 0, [], 0, 0, ()), [], [], false, (0, 0, [], [], ()),
 (0, 0, 0, [], [], 0, [], 0, 0, 0, ()), ()),
 ())))
 fun o =>
 Sum.elim
 (fun (_z :
 Int × Int × Int × Int × Int × Int × Int × Bool × Bool × (Int × Int × (Int × Int × Int × Int × Int × Int × Int × Int × Bool × List T25D × T25D × Unit) × (Int × Int × (Int × List UInt8 × List UInt8 × List UInt8 × Int × Int × Int × List T96D × List
 T48D × List
 T48D × Int × Int × Int × Bool × List
 T70D × List
 (Int × Int × (Int × Int × Bool × Int × List
 (List UInt8 × (Int × Int × Int × Int × List
 UInt8 × Int × Bool × Unit) × Unit) × Int × Int × Unit) × Unit) × List T113D × Unit) × Unit) × Int × List UInt8 × List UInt8 × Int × Int × Int × Int × (Int × Int × Bool × Int × List
 T70D × Int × Int × Unit) × List
 (Int × List
 T70D × Unit) × List
 T70D × Bool × (Int × Int × List
 (Int × Int × (Int × Int × Bool × Int × List
 T70D × Int × Int × Unit) × Unit) × List T113D × Unit) × T53D × Unit) × Unit) =>
 Option.bind
 (bif !x.fst.snd.snd.snd.snd.snd.snd.snd.snd.fst then
 Option.bind (remO (wrap64 (x.fst.snd.snd.snd.snd.snd.fst + 1)) x.fst.snd.snd.fst)
 fun b => some (Sum.inl (b, ()))
 else some (Sum.inl (x.fst.snd.snd.snd.snd.snd.fst, ())))
 fun o =>
 Sum.elim
 (fun (x_1 : Int × Unit) =>
 Option.bind
 (F54
 ((x.fst.fst, x.fst.snd.fst, x.fst.snd.snd.fst, x.fst.snd.snd.snd.fst, x.fst.snd.snd.snd.snd.fst,
 x_1.fst, 0, x.fst.snd.snd.snd.snd.snd.snd.snd.fst, false,
 x.fst.snd.snd.snd.snd.snd.snd.snd.snd.snd),
 ()))
 fun b =>
 some
 ((x.fst.fst, x.fst.snd.fst, x.fst.snd.snd.fst, x.fst.snd.snd.snd.fst, x.fst.snd.snd.snd.snd.fst,
 x_1.fst, 0, x.fst.snd.snd.snd.snd.snd.snd.snd.fst, false,
 x.fst.snd.snd.snd.snd.snd.snd.snd.snd.snd),
 [b.fst], ()))
 (fun (val :
 (Int × Int × Int × Int × Int × Int × Int × Bool × Bool × (Int × Int × (Int × Int × Int × Int × Int × Int × Int × Int × Bool × List T25D × T25D × Unit) × (Int × Int × (Int × List UInt8 × List UInt8 × List UInt8 × Int × Int × Int × List
 T96D × List
 T48D × List
 T48D × Int × Int × Int × Bool × List
 T70D × List
 (Int × Int × (Int × Int × Bool × Int × List
 (List
 UInt8 × (Int × Int × Int × Int × List
 UInt8 × Int × Bool × Unit) × Unit) × Int × Int × Unit) × Unit) × List T113D × Unit) × Unit) × Int × List UInt8 × List UInt8 × Int × Int × Int × Int × (Int × Int × Bool × Int × List
 T70D × Int × Int × Unit) × List
 (Int × List
 T70D × Unit) × List
 T70D × Bool × (Int × Int × List
 (Int × Int × (Int × Int × Bool × Int × List
 (List UInt8 × (Int × Int × Int × Int × List
 UInt8 × Int × Bool × Unit) × Unit) × Int × Int × Unit) × Unit) × List T113D × Unit) × T53D × Unit) × Unit) × List
 (Int × Int × (Int × Int × (Int × Int × Int × Int × Int × Int × Int × Int × Bool × List T25D × T25D × Unit) × (Int × Int × (Int × List UInt8 × List UInt8 × List UInt8 × Int × Int × Int × List T96D × List
 T48D × List
 T48D × Int × Int × Int × Bool × List
 T70D × List
 (Int × Int × (Int × Int × Bool × Int × List
 (List UInt8 × (Int × Int × Int × Int × List
 UInt8 × Int × Bool × Unit) × Unit) × Int × Int × Unit) × Unit) × List T113D × Unit) × Unit) × Int × List UInt8 × List UInt8 × Int × Int × Int × Int × (Int × Int × Bool × Int × List
 T70D × Int × Int × Unit) × List
 (Int × List
 T70D × Unit) × List
 T70D × Bool × (Int × Int × List
 (Int × Int × (Int × Int × Bool × Int × List
 T70D × Int × Int × Unit) × Unit) × List T113D × Unit) × T53D × Unit) × Unit) × Unit) =>
 some val)
 o)
 (fun (val :
 (Int × Int × Int × Int × Int × Int × Int × Bool × Bool × (Int × Int × (Int × Int × Int × Int × Int × Int × Int × Int × Bool × List T25D × T25D × Unit) × (Int × Int × (Int × List UInt8 × List UInt8 × List UInt8 × Int × Int × Int × List
 T96D × List
 T48D × List
 T48D × Int × Int × Int × Bool × List
 T70D × List
 (Int × Int × (Int × Int × Bool × Int × List
 (List UInt8 × (Int × Int × Int × Int × List
 UInt8 × Int × Bool × Unit) × Unit) × Int × Int × Unit) × Unit) × List T113D × Unit) × Unit) × Int × List UInt8 × List UInt8 × Int × Int × Int × Int × (Int × Int × Bool × Int × List
 T70D × Int × Int × Unit) × List
 (Int × List
 T70D × Unit) × List
 T70D × Bool × (Int × Int × List
 (Int × Int × (Int × Int × Bool × Int × List
 T70D × Int × Int × Unit) × Unit) × List T113D × Unit) × T53D × Unit) × Unit) × List
 (Int × Int × (Int × Int × (Int × Int × Int × Int × Int × Int × Int × Int × Bool × List T25D × T25D × Unit) × (Int × Int × (Int × List UInt8 × List UInt8 × List UInt8 × Int × Int × Int × List T96D × List
 T48D × List
 T48D × Int × Int × Int × Bool × List
 T70D × List
 (Int × Int × (Int × Int × Bool × Int × List
 T70D × Int × Int × Unit) × Unit) × List T113D × Unit) × Unit) × Int × List UInt8 × List UInt8 × Int × Int × Int × Int × (Int × Int × Bool × Int × List
 T70D × Int × Int × Unit) × List
 (Int × List
 T70D × Unit) × List
 T70D × Bool × (Int × Int × List
 (Int × Int × (Int × Int × Bool × Int × List
 T70D × Int × Int × Unit) × Unit) × List T113D × Unit) × T53D × Unit) × Unit) × Unit) =>
 some val)
 o
def S23 : Sig := ⟨P23, R23, F23⟩
noncomputable def E23 : Env := { tab := tab, nt := 39, Γ := lookG [(54, [S54])], joins := lookN [(6, ⟨[⟨.fld 2000 0, (.int .i64), .pv⟩, ⟨.fld 2000 1, (.int .i64), .pv⟩, ⟨.fld 2000 2, (.int .i64), .pv⟩, ⟨.fld 2000 3, (.int .i64), .pv⟩, ⟨.fld 2000 4, (.int .i64), .pv⟩, ⟨.fld 2000 5, (.int .i64), .pv⟩, ⟨.fld 2000 6, (.int .i64), .pv⟩, ⟨.fld 2000 7, .bool, .pv⟩, ⟨.fld 2000 8, .bool, .pv⟩, ⟨.fld 2000 9, TM, .pv⟩], [1, 2], [.site 2000, .site 1000, .fld 1000 0, .fld 1000 1, .fld 1000 2, .fld 1000 3, .fld 1000 4, .fld 1000 5, .fld 1000 6, .fld 1000 7, .fld 1000 8, .fld 1000 9]⟩), (8, ⟨[⟨.fld 1000 5, (.int .i64), .pv⟩], [1, 2], [.site 2000, .fld 2000 0, .fld 2000 1, .fld 2000 2, .fld 2000 3, .fld 2000 4, .fld 2000 5, .fld 2000 6, .fld 2000 7, .fld 2000 8, .fld 2000 9, .site 1000, .fld 1000 0, .fld 1000 1, .fld 1000 2, .fld 1000 3, .fld 1000 4, .fld 1000 6, .fld 1000 7, .fld 1000 8, .fld 1000 9]⟩)], loops := lookN [] }
theorem raw23_eq (x : Y76D × Unit) : afun E23 Tryz.f23 P23 R23 x = F23 x := by kernel_rfl
-- decamp/decampref22.Answer
def F56 (x : Int × Unit) : Option (Int × Unit) :=
 bif decide (maxI 0 (minI x.fst 12) = Int.ofNat 0) then some (0, ())
 else
 bif decide (maxI 0 (minI x.fst 12) = Int.ofNat (0 + 1)) then some (0, ())
 else
 bif decide (maxI 0 (minI x.fst 12) = Int.ofNat (0 + 1 + 1)) then some (8, ())
 else
 bif decide (maxI 0 (minI x.fst 12) = Int.ofNat (0 + 1 + 1 + 1)) then some (8, ())
 else
 bif decide (maxI 0 (minI x.fst 12) = Int.ofNat (0 + 1 + 1 + 1 + 1)) then some (9, ())
 else
 bif decide (maxI 0 (minI x.fst 12) = Int.ofNat (0 + 1 + 1 + 1 + 1 + 1)) then some (10, ())
 else
 bif decide (maxI 0 (minI x.fst 12) = Int.ofNat (0 + 1 + 1 + 1 + 1 + 1 + 1)) then some (11, ())
 else
 bif decide (maxI 0 (minI x.fst 12) = Int.ofNat (0 + 1 + 1 + 1 + 1 + 1 + 1 + 1)) then
 some (12, ())
 else
 bif decide (maxI 0 (minI x.fst 12) = Int.ofNat (0 + 1 + 1 + 1 + 1 + 1 + 1 + 1 + 1)) then
 some (0, ())
 else
 bif decide (maxI 0 (minI x.fst 12) = Int.ofNat (0 + 1 + 1 + 1 + 1 + 1 + 1 + 1 + 1 + 1)) then
 some (0, ())
 else
 bif decide (maxI 0 (minI x.fst 12) = Int.ofNat (0 + 1 + 1 + 1 + 1 + 1 + 1 + 1 + 1 + 1 + 1)) then
 some (0, ())
 else
 bif
 decide
 (maxI 0 (minI x.fst 12) = Int.ofNat (0 + 1 + 1 + 1 + 1 + 1 + 1 + 1 + 1 + 1 + 1 + 1)) then
 some (0, ())
 else
 bif
 decide
 (maxI 0 (minI x.fst 12) =
 Int.ofNat (0 + 1 + 1 + 1 + 1 + 1 + 1 + 1 + 1 + 1 + 1 + 1 + 1)) then
 some (0, ())
 else none
def S56 : Sig := ⟨P56, R56, F56⟩
noncomputable def E56 : Env := { tab := tab, nt := 8, Γ := lookG [], joins := lookN [], loops := lookN [] }
theorem raw56_eq (x : Int × Unit) : afun E56 Tryz.f56 P56 R56 x = F56 x := by kernel_rfl
-- (decamp/decampref24.Caller).Hear
def F24 (x : Y76D × Int × TMD × Unit) : Option (Y76D × Bool × Unit) :=
 bif !x.fst.snd.snd.snd.snd.snd.snd.snd.fst then some (x.fst, false, ())
 else
 bif decide (x.snd.fst < wrap64 (4 * x.fst.snd.fst)) then some (x.fst, false, ())
 else
 bif
 decide
 (wrap64 (wrap64 (4 * x.fst.snd.fst) + x.fst.snd.snd.fst) ≤
 x.snd.fst) then
 some (x.fst, false, ())
 else
 Option.bind (F11 x.snd.snd) fun b =>
 bif !b.fst then some (x.fst, false, ())
 else
 bif !decide (x.snd.snd.fst.snd.fst = x.fst.snd.snd.snd.snd.fst) then some (x.fst, false, ())
 else
 Option.bind (F56 (x.fst.snd.snd.snd.snd.snd.snd.snd.snd.snd.fst.fst, ())) fun b =>
 bif !decide (x.snd.snd.fst.fst = b.fst) then some (x.fst, false, ())
 else
 bif decide (x.snd.snd.fst.fst = 8) then
 bif decide (x.snd.snd.fst.snd.snd.snd.snd.snd.snd.snd.snd.snd.fst = 14) then
 Option.bind
 (bif decide (0 ≤ x.snd.snd.fst.snd.snd.snd.snd.snd.snd.snd.snd.snd.snd.fst) then
 bif
 decide
 (x.snd.snd.fst.snd.snd.snd.snd.snd.snd.snd.snd.snd.snd.fst < x.fst.snd.snd.fst) then
 some (Sum.inl (x.snd.snd.fst.snd.snd.snd.snd.snd.snd.snd.snd.snd.snd.fst, ()))
 else
 Option.bind
 (remO (wrap64 (x.fst.snd.snd.snd.snd.snd.fst + 1)) x.fst.snd.snd.fst)
 fun b => some (Sum.inl (b, ()))
 else
 Option.bind
 (remO (wrap64 (x.fst.snd.snd.snd.snd.snd.fst + 1)) x.fst.snd.snd.fst)
 fun b => some (Sum.inl (b, ())))
 fun o =>
 Sum.elim
 (fun (x_1 : Int × Unit) =>
 some
 ((x.fst.fst, x.fst.snd.fst, x.fst.snd.snd.fst, x.fst.snd.snd.snd.fst,
 x.fst.snd.snd.snd.snd.fst, x_1.fst, x.fst.snd.snd.snd.snd.snd.snd.fst,
 x.fst.snd.snd.snd.snd.snd.snd.snd.fst, true,
 x.fst.snd.snd.snd.snd.snd.snd.snd.snd.snd),
 false, ()))
 (fun (val :
 (Int × Int × Int × Int × Int × Int × Int × Bool × Bool × (Int × Int × (Int × Int × Int × Int × Int × Int × Int × Int × Bool × List T25D × T25D × Unit) × (Int × Int × (Int × List UInt8 × List UInt8 × List UInt8 × Int × Int × Int × List
 T96D × List
 T48D × List
 T48D × Int × Int × Int × Bool × List
 (List UInt8 × (Int × Int × Int × Int × List
 UInt8 × Int × Bool × Unit) × Unit) × List
 (Int × Int × (Int × Int × Bool × Int × List
 (List
 UInt8 × (Int × Int × Int × Int × List
 UInt8 × Int × Bool × Unit) × Unit) × Int × Int × Unit) × Unit) × List
 T113D × Unit) × Unit) × Int × List UInt8 × List UInt8 × Int × Int × Int × Int × (Int × Int × Bool × Int × List
 T70D × Int × Int × Unit) × List
 (Int × List
 T70D × Unit) × List
 T70D × Bool × (Int × Int × List
 (Int × Int × (Int × Int × Bool × Int × List
 (List
 UInt8 × (Int × Int × Int × Int × List
 UInt8 × Int × Bool × Unit) × Unit) × Int × Int × Unit) × Unit) × List
 T113D × Unit) × T53D × Unit) × Unit) × Bool × Unit) =>
 some val)
 o
 else
 some
 ((x.fst.fst, x.fst.snd.fst, x.fst.snd.snd.fst, x.fst.snd.snd.snd.fst, x.fst.snd.snd.snd.snd.fst,
 x.fst.snd.snd.snd.snd.snd.fst, x.fst.snd.snd.snd.snd.snd.snd.fst, false,
 x.fst.snd.snd.snd.snd.snd.snd.snd.snd),
 true, ())
 else
 some
 ((x.fst.fst, x.fst.snd.fst, x.fst.snd.snd.fst, x.fst.snd.snd.snd.fst, x.fst.snd.snd.snd.snd.fst,
 x.fst.snd.snd.snd.snd.snd.fst, x.fst.snd.snd.snd.snd.snd.snd.fst, false,
 x.fst.snd.snd.snd.snd.snd.snd.snd.snd),
 true, ())
def S24 : Sig := ⟨P24, R24, F24⟩
noncomputable def E24 : Env := { tab := tab, nt := 82, Γ := lookG [(11, [S11]), (56, [S56])], joins := lookN [(7, ⟨[⟨.fld 1000 5, (.int .i64), .pv⟩], [3, 6], [.site 3000, .fld 3000 0, .fld 3000 1, .fld 3000 2, .fld 3000 3, .fld 3000 4, .fld 3000 5, .fld 3000 6, .fld 3000 7, .fld 3000 8, .fld 3000 9, .site 1000, .fld 1000 0, .fld 1000 1, .fld 1000 2, .fld 1000 3, .fld 1000 4, .fld 1000 6, .fld 1000 7, .fld 1000 8, .fld 1000 9]⟩)], loops := lookN [] }
theorem raw24_eq (x : Y76D × Int × TMD × Unit) : afun E24 Tryz.f24 P24 R24 x = F24 x := by kernel_rfl
-- (*decamp/caller.Caller).Drop
def F26 (x : Y100D × Unit) : Option (Y100D × Unit) :=
 some
 ((x.fst.fst, x.fst.snd.fst, x.fst.snd.snd.fst, x.fst.snd.snd.snd.fst, x.fst.snd.snd.snd.snd.fst,
 x.fst.snd.snd.snd.snd.snd.fst, x.fst.snd.snd.snd.snd.snd.snd.fst, false, x.fst.snd.snd.snd.snd.snd.snd.snd.snd),
 ())
def S26 : Sig := ⟨P26, R26, F26⟩
noncomputable def E26 : Env := { tab := tab, nt := 7, Γ := lookG [], joins := lookN [], loops := lookN [] }
theorem raw26_eq (x : Y100D × Unit) : afun E26 Tryz.f26 P26 R26 x = F26 x := by kernel_rfl
-- (*decamp/caller.Caller).Drop
def F26a (x : Unit) : Option (Unit) := some ()
def S26a : Sig := ⟨P26a, R26a, F26a⟩
noncomputable def E26a : Env := { tab := tab, nt := 7, Γ := lookG [], joins := lookN [], loops := lookN [] }
theorem raw26a_eq (x : Unit) : afun E26a Tryz.f26 P26a R26a x = F26a x := by kernel_rfl
-- (*decamp/caller.Caller).Target
def F27 (x : Y100D × Unit) : Option (Int × Y100D × Unit) :=
 some (x.fst.snd.snd.snd.snd.snd.fst, x)
def S27 : Sig := ⟨P27, R27, F27⟩
noncomputable def E27 : Env := { tab := tab, nt := 9, Γ := lookG [], joins := lookN [], loops := lookN [] }
theorem raw27_eq (x : Y100D × Unit) : afun E27 Tryz.f27 P27 R27 x = F27 x := by kernel_rfl
-- (*decamp/caller.Caller).Target
def F27a (x : Unit) : Option (Int × Unit) := some (0, ())
def S27a : Sig := ⟨P27a, R27a, F27a⟩
noncomputable def E27a : Env := { tab := tab, nt := 9, Γ := lookG [], joins := lookN [], loops := lookN [] }
theorem raw27a_eq (x : Unit) : afun E27a Tryz.f27 P27a R27a x = F27a x := by kernel_rfl
-- decamp/decamplaw24.CallerPlays
def F5 (x : Int × Int × Int × Int × Int × List Y78D × Unit) : Option (Bool × Unit) :=
 Option.bind (F7 ()) fun b =>
 bif !b.fst then Option.bind (F7 ()) fun b => some b
 else
 Option.bind (F20 (x.snd.snd.snd.snd.snd.fst, 80, ())) fun b =>
 bif !b.fst then Option.bind (F7 ()) fun b => some b
 else
 Option.bind (F10 (x.fst, x.snd.fst, x.snd.snd.fst, x.snd.snd.snd.fst, x.snd.snd.snd.snd.fst, ()))
 fun b =>
 bif b.fst.fst then
 Option.bind (F9 (x.fst, x.snd.fst, x.snd.snd.fst, x.snd.snd.snd.fst, x.snd.snd.snd.snd.fst, ()))
 fun b_1 =>
 bif !b_1.fst then bif decide (b.snd.fst = 1) then some (false, ()) else some (false, ())
 else
 iterE
 (Int × Int × Int × Int × Int × Int × Int × Int × Bool × Bool × (Int × Int × (Int × Int × Int × Int × Int × Int × Int × Int × Bool × List T25D × T25D × Unit) × (Int × Int × (Int × List UInt8 × List UInt8 × List UInt8 × Int × Int × Int × List
 T96D × List
 T48D × List
 T48D × Int × Int × Int × Bool × List
 T70D × List
 (Int × Int × (Int × Int × Bool × Int × List
 (List
 UInt8 × (Int × Int × Int × Int × List
 UInt8 × Int × Bool × Unit) × Unit) × Int × Int × Unit) × Unit) × List T113D × Unit) × Unit) × Int × List UInt8 × List UInt8 × Int × Int × Int × Int × (Int × Int × Bool × Int × List
 T70D × Int × Int × Unit) × List
 (Int × List
 T70D × Unit) × List
 T70D × Bool × (Int × Int × List
 (Int × Int × (Int × Int × Bool × Int × List
 (List UInt8 × (Int × Int × Int × Int × List
 UInt8 × Int × Bool × Unit) × Unit) × Int × Int × Unit) × Unit) × List T113D × Unit) × T53D × Unit) × Int × Int × Int × Int × Int × Int × Int × Bool × (Int × Int × (Int × Int × Int × Int × Int × Int × Int × Int × Bool × List
 T25D × T25D × Unit) × (Int × Int × (Int × List UInt8 × List UInt8 × List UInt8 × Int × Int × Int × List
 T96D × List
 T48D × List
 T48D × Int × Int × Int × Bool × List
 (List UInt8 × (Int × Int × Int × Int × List
 UInt8 × Int × Bool × Unit) × Unit) × List
 (Int × Int × (Int × Int × Bool × Int × List
 (List
 UInt8 × (Int × Int × Int × Int × List
 UInt8 × Int × Bool × Unit) × Unit) × Int × Int × Unit) × Unit) × List
 T113D × Unit) × Unit) × Int × List UInt8 × List UInt8 × Int × Int × Int × Int × (Int × Int × Bool × Int × List
 T70D × Int × Int × Unit) × List
 (Int × List
 T70D × Unit) × List
 T70D × Bool × (Int × Int × List
 (Int × Int × (Int × Int × Bool × Int × List
 (List
 UInt8 × (Int × Int × Int × Int × List
 UInt8 × Int × Bool × Unit) × Unit) × Int × Int × Unit) × Unit) × List
 T113D × Unit) × T53D × Unit) × Unit)
 (Bool × Unit)
 (fun (x_1 :
 Int × Int × Int × Int × Int × Int × Int × Int × Bool × Bool × (Int × Int × (Int × Int × Int × Int × Int × Int × Int × Int × Bool × List T25D × T25D × Unit) × (Int × Int × (Int × List UInt8 × List UInt8 × List UInt8 × Int × Int × Int × List
 T96D × List
 T48D × List
 T48D × Int × Int × Int × Bool × List
 T70D × List
 (Int × Int × (Int × Int × Bool × Int × List
 (List
 UInt8 × (Int × Int × Int × Int × List
 UInt8 × Int × Bool × Unit) × Unit) × Int × Int × Unit) × Unit) × List
 T113D × Unit) × Unit) × Int × List UInt8 × List UInt8 × Int × Int × Int × Int × (Int × Int × Bool × Int × List
 T70D × Int × Int × Unit) × List
 (Int × List
 T70D × Unit) × List
 T70D × Bool × (Int × Int × List
 (Int × Int × (Int × Int × Bool × Int × List
 (List UInt8 × (Int × Int × Int × Int × List
 UInt8 × Int × Bool × Unit) × Unit) × Int × Int × Unit) × Unit) × List T113D × Unit) × T53D × Unit) × Int × Int × Int × Int × Int × Int × Int × Bool × (Int × Int × (Int × Int × Int × Int × Int × Int × Int × Int × Bool × List
 T25D × T25D × Unit) × (Int × Int × (Int × List UInt8 × List UInt8 × List UInt8 × Int × Int × Int × List
 T96D × List
 T48D × List
 T48D × Int × Int × Int × Bool × List
 (List
 UInt8 × (Int × Int × Int × Int × List
 UInt8 × Int × Bool × Unit) × Unit) × List
 (Int × Int × (Int × Int × Bool × Int × List
 (List
 UInt8 × (Int × Int × Int × Int × List
 UInt8 × Int × Bool × Unit) × Unit) × Int × Int × Unit) × Unit) × List
 T113D × Unit) × Unit) × Int × List UInt8 × List UInt8 × Int × Int × Int × Int × (Int × Int × Bool × Int × List
 (List UInt8 × (Int × Int × Int × Int × List
 UInt8 × Int × Bool × Unit) × Unit) × Int × Int × Unit) × List
 (Int × List
 (List UInt8 × (Int × Int × Int × Int × List
 UInt8 × Int × Bool × Unit) × Unit) × Unit) × List
 T70D × Bool × (Int × Int × List
 (Int × Int × (Int × Int × Bool × Int × List
 (List
 UInt8 × (Int × Int × Int × Int × List
 UInt8 × Int × Bool × Unit) × Unit) × Int × Int × Unit) × Unit) × List
 T113D × Unit) × (Int × Int × Int × List UInt8 × List UInt8 × Int × List
 UInt8 × T113D) × Unit) × Unit) =>
 bif decide (x_1.fst < Int.ofNat (List.length x.snd.snd.snd.snd.snd.fst)) then
 Option.bind (idx x.snd.snd.snd.snd.snd.fst x_1.fst)
 fun b =>
 Option.bind
 (bif decide (intOf8 b.fst = intOf8 (UInt8.ofNat 0)) then
 Option.bind (F13 b.snd.snd)
 fun b_2 =>
 Option.bind (F12 (x_1.snd.snd.snd.snd.snd.snd.snd.snd.snd.snd.snd, b_2))
 fun b_3 =>
 Option.bind
 (F21
 ((x_1.snd.fst, x_1.snd.snd.fst, x_1.snd.snd.snd.fst, x_1.snd.snd.snd.snd.fst,
 x_1.snd.snd.snd.snd.snd.fst, x_1.snd.snd.snd.snd.snd.snd.fst,
 x_1.snd.snd.snd.snd.snd.snd.snd.fst, x_1.snd.snd.snd.snd.snd.snd.snd.snd.fst,
 x_1.snd.snd.snd.snd.snd.snd.snd.snd.snd.fst,
 x_1.snd.snd.snd.snd.snd.snd.snd.snd.snd.snd.fst, ()),
 b.snd.snd))
 fun b =>
 Option.bind
 (bif decide (b.snd.snd.fst = 0) then
 Option.bind (appO [] [b.snd.fst])
 fun b =>
 some (Sum.inl (b, ()))
 else some (Sum.inl ([], ())))
 fun o =>
 Sum.elim
 (fun (x :
 List
 (Int × Int × (Int × Int × (Int × Int × Int × Int × Int × Int × Int × Int × Bool × List T25D × T25D × Unit) × (Int × Int × (Int × List UInt8 × List UInt8 × List UInt8 × Int × Int × Int × List
 T96D × List
 T48D × List
 T48D × Int × Int × Int × Bool × List
 (List UInt8 × (Int × Int × Int × Int × List
 UInt8 × Int × Bool × Unit) × Unit) × List
 (Int × Int × (Int × Int × Bool × Int × List
 (List
 UInt8 × (Int × Int × Int × Int × List
 UInt8 × Int × Bool × Unit) × Unit) × Int × Int × Unit) × Unit) × List
 T113D × Unit) × Unit) × Int × List UInt8 × List UInt8 × Int × Int × Int × Int × (Int × Int × Bool × Int × List
 T70D × Int × Int × Unit) × List
 (Int × List
 T70D × Unit) × List
 T70D × Bool × (Int × Int × List
 (Int × Int × (Int × Int × Bool × Int × List
 (List
 UInt8 × (Int × Int × Int × Int × List
 UInt8 × Int × Bool × Unit) × Unit) × Int × Int × Unit) × Unit) × List
 T113D × Unit) × T53D × Unit) × Unit) × Unit) =>
 bif !decide (b_3.snd.fst = b.snd.snd.fst) then
 some (Sum.inr (Sum.inr (false, ())))
 else
 Option.bind (F22 (b_3.fst, decide (b_3.snd.fst = 0), x))
 fun b_4 =>
 bif !b_4.fst then some (Sum.inr (Sum.inr (false, ())))
 else
 some
 (Sum.inl
 (b.fst.fst, b.fst.snd.fst, b.fst.snd.snd.fst, b.fst.snd.snd.snd.fst,
 b.fst.snd.snd.snd.snd.fst, b.fst.snd.snd.snd.snd.snd.fst,
 b.fst.snd.snd.snd.snd.snd.snd.fst,
 b.fst.snd.snd.snd.snd.snd.snd.snd.fst,
 b.fst.snd.snd.snd.snd.snd.snd.snd.snd.fst,
 b.fst.snd.snd.snd.snd.snd.snd.snd.snd.snd.fst, b_3.snd.snd.fst)))
 (fun (val :
 Int × Int × Int × Int × Int × Int × Int × Bool × Bool × (Int × Int × (Int × Int × Int × Int × Int × Int × Int × Int × Bool × List
 T25D × T25D × Unit) × (Int × Int × (Int × List UInt8 × List UInt8 × List UInt8 × Int × Int × Int × List
 T96D × List
 T48D × List
 (Int × List UInt8 × List UInt8 × List
 UInt8 × Int × Unit) × Int × Int × Int × Bool × List
 (List
 UInt8 × (Int × Int × Int × Int × List
 UInt8 × Int × Bool × Unit) × Unit) × List
 (Int × Int × (Int × Int × Bool × Int × List
 (List
 UInt8 × (Int × Int × Int × Int × List
 UInt8 × Int × Bool × Unit) × Unit) × Int × Int × Unit) × Unit) × List
 T113D × Unit) × Unit) × Int × List UInt8 × List UInt8 × Int × Int × Int × Int × (Int × Int × Bool × Int × List
 (List UInt8 × (Int × Int × Int × Int × List
 UInt8 × Int × Bool × Unit) × Unit) × Int × Int × Unit) × List
 (Int × List
 (List UInt8 × (Int × Int × Int × Int × List
 UInt8 × Int × Bool × Unit) × Unit) × Unit) × List
 (List UInt8 × (Int × Int × Int × Int × List
 UInt8 × Int × Bool × Unit) × Unit) × Bool × (Int × Int × List
 (Int × Int × (Int × Int × Bool × Int × List
 (List
 UInt8 × (Int × Int × Int × Int × List
 UInt8 × Int × Bool × Unit) × Unit) × Int × Int × Unit) × Unit) × List
 T113D × Unit) × (Int × Int × Int × List UInt8 × List
 UInt8 × Int × List
 UInt8 × T113D) × Unit) × Int × Int × Int × Int × Int × Int × Int × Bool × (Int × Int × (Int × Int × Int × Int × Int × Int × Int × Int × Bool × List
 (Int × Int × List
 UInt8 × Unit) × (Int × Int × List
 UInt8 × Unit) × Unit) × (Int × Int × (Int × List UInt8 × List UInt8 × List UInt8 × Int × Int × Int × List
 (List
 UInt8 × Int × Int × Int × List
 UInt8 × Unit) × List
 (Int × List
 UInt8 × List
 UInt8 × List
 UInt8 × Int × Unit) × List
 (Int × List
 UInt8 × List
 UInt8 × List
 UInt8 × Int × Unit) × Int × Int × Int × Bool × List
 (List
 UInt8 × (Int × Int × Int × Int × List
 UInt8 × Int × Bool × Unit) × Unit) × List
 (Int × Int × (Int × Int × Bool × Int × List
 (List
 UInt8 × (Int × Int × Int × Int × List
 UInt8 × Int × Bool × Unit) × Unit) × Int × Int × Unit) × Unit) × List
 T113D × Unit) × Unit) × Int × List UInt8 × List UInt8 × Int × Int × Int × Int × (Int × Int × Bool × Int × List
 (List
 UInt8 × (Int × Int × Int × Int × List
 UInt8 × Int × Bool × Unit) × Unit) × Int × Int × Unit) × List
 (Int × List
 (List
 UInt8 × (Int × Int × Int × Int × List
 UInt8 × Int × Bool × Unit) × Unit) × Unit) × List
 (List
 UInt8 × (Int × Int × Int × Int × List
 UInt8 × Int × Bool × Unit) × Unit) × Bool × (Int × Int × List
 (Int × Int × (Int × Int × Bool × Int × List
 (List
 UInt8 × (Int × Int × Int × Int × List
 UInt8 × Int × Bool × Unit) × Unit) × Int × Int × Unit) × Unit) × List
 T113D × Unit) × (Int × Int × Int × List
 UInt8 × List
 UInt8 × Int × List
 UInt8 × T113D) × Unit) × Unit ⊕ Int × Int × Int × Int × Int × Int × Int × Int × Bool × Bool × (Int × Int × (Int × Int × Int × Int × Int × Int × Int × Int × Bool × List
 T25D × T25D × Unit) × (Int × Int × (Int × List UInt8 × List UInt8 × List UInt8 × Int × Int × Int × List
 (List UInt8 × Int × Int × Int × List
 UInt8 × Unit) × List
 (Int × List UInt8 × List
 UInt8 × List
 UInt8 × Int × Unit) × List
 (Int × List
 UInt8 × List
 UInt8 × List
 UInt8 × Int × Unit) × Int × Int × Int × Bool × List
 (List
 UInt8 × (Int × Int × Int × Int × List
 UInt8 × Int × Bool × Unit) × Unit) × List
 (Int × Int × (Int × Int × Bool × Int × List
 (List
 UInt8 × (Int × Int × Int × Int × List
 UInt8 × Int × Bool × Unit) × Unit) × Int × Int × Unit) × Unit) × List
 T113D × Unit) × Unit) × Int × List UInt8 × List UInt8 × Int × Int × Int × Int × (Int × Int × Bool × Int × List
 (List
 UInt8 × (Int × Int × Int × Int × List
 UInt8 × Int × Bool × Unit) × Unit) × Int × Int × Unit) × List
 (Int × List
 (List UInt8 × (Int × Int × Int × Int × List
 UInt8 × Int × Bool × Unit) × Unit) × Unit) × List
 (List UInt8 × (Int × Int × Int × Int × List
 UInt8 × Int × Bool × Unit) × Unit) × Bool × (Int × Int × List
 (Int × Int × (Int × Int × Bool × Int × List
 (List
 UInt8 × (Int × Int × Int × Int × List
 UInt8 × Int × Bool × Unit) × Unit) × Int × Int × Unit) × Unit) × List
 T113D × Unit) × (Int × Int × Int × List
 UInt8 × List
 UInt8 × Int × List
 UInt8 × T113D) × Unit) × Int × Int × Int × Int × Int × Int × Int × Bool × (Int × Int × (Int × Int × Int × Int × Int × Int × Int × Int × Bool × List
 (Int × Int × List
 UInt8 × Unit) × (Int × Int × List
 UInt8 × Unit) × Unit) × (Int × Int × (Int × List UInt8 × List UInt8 × List
 UInt8 × Int × Int × Int × List
 (List
 UInt8 × Int × Int × Int × List
 UInt8 × Unit) × List
 (Int × List
 UInt8 × List
 UInt8 × List
 UInt8 × Int × Unit) × List
 (Int × List
 UInt8 × List
 UInt8 × List
 UInt8 × Int × Unit) × Int × Int × Int × Bool × List
 (List
 UInt8 × (Int × Int × Int × Int × List
 UInt8 × Int × Bool × Unit) × Unit) × List
 (Int × Int × (Int × Int × Bool × Int × List
 (List
 UInt8 × (Int × Int × Int × Int × List
 UInt8 × Int × Bool × Unit) × Unit) × Int × Int × Unit) × Unit) × List
 T113D × Unit) × Unit) × Int × List UInt8 × List UInt8 × Int × Int × Int × Int × (Int × Int × Bool × Int × List
 (List
 UInt8 × (Int × Int × Int × Int × List
 UInt8 × Int × Bool × Unit) × Unit) × Int × Int × Unit) × List
 (Int × List
 (List
 UInt8 × (Int × Int × Int × Int × List
 UInt8 × Int × Bool × Unit) × Unit) × Unit) × List
 (List
 UInt8 × (Int × Int × Int × Int × List
 UInt8 × Int × Bool × Unit) × Unit) × Bool × (Int × Int × List
 (Int × Int × (Int × Int × Bool × Int × List
 (List
 UInt8 × (Int × Int × Int × Int × List
 UInt8 × Int × Bool × Unit) × Unit) × Int × Int × Unit) × Unit) × List
 T113D × Unit) × (Int × Int × Int × List
 UInt8 × List
 UInt8 × Int × List
 UInt8 × T113D) × Unit) × Unit ⊕ Bool × Unit) =>
 some val)
 o
 else
 bif decide (intOf8 b.fst = intOf8 (UInt8.ofNat 1)) then
 Option.bind (F14 (x_1.snd.snd.snd.snd.snd.snd.snd.snd.snd.snd.snd, ()))
 fun b =>
 Option.bind
 (F23
 ((x_1.snd.fst, x_1.snd.snd.fst, x_1.snd.snd.snd.fst, x_1.snd.snd.snd.snd.fst,
 x_1.snd.snd.snd.snd.snd.fst, x_1.snd.snd.snd.snd.snd.snd.fst,
 x_1.snd.snd.snd.snd.snd.snd.snd.fst, x_1.snd.snd.snd.snd.snd.snd.snd.snd.fst,
 x_1.snd.snd.snd.snd.snd.snd.snd.snd.snd.fst,
 x_1.snd.snd.snd.snd.snd.snd.snd.snd.snd.snd.fst, ()),
 ()))
 fun b_2 =>
 Option.bind (F22 (b.fst, b.snd.fst, b_2.snd)) fun b_3 =>
 bif !b_3.fst then some (Sum.inr (Sum.inr (false, ())))
 else
 some
 (Sum.inl
 (b_2.fst.fst, b_2.fst.snd.fst, b_2.fst.snd.snd.fst, b_2.fst.snd.snd.snd.fst,
 b_2.fst.snd.snd.snd.snd.fst, b_2.fst.snd.snd.snd.snd.snd.fst,
 b_2.fst.snd.snd.snd.snd.snd.snd.fst,
 b_2.fst.snd.snd.snd.snd.snd.snd.snd.fst,
 b_2.fst.snd.snd.snd.snd.snd.snd.snd.snd.fst,
 b_2.fst.snd.snd.snd.snd.snd.snd.snd.snd.snd.fst, b.snd.snd.fst))
 else
 bif decide (intOf8 b.fst = intOf8 (UInt8.ofNat 2)) then
 bif decide (intOf8 b.fst = intOf8 (UInt8.ofNat 2)) then
 Option.bind
 (bif decide (intOf8 b.fst = intOf8 (UInt8.ofNat 3)) then
 some
 (Sum.inl
 (wrap64
 (wrap64 (4 * x_1.snd.snd.fst) +
 x_1.snd.snd.snd.snd.snd.snd.fst),
 (b.snd.snd.fst.fst, x_1.snd.snd.snd.snd.snd.fst, b.snd.snd.fst.snd.snd),
 ()))
 else some (Sum.inl b.snd))
 fun o =>
 Sum.elim
 (fun (x :
 Int × (Int × Int × (Int × Int × Int × Int × Int × Int × Int × Int × Bool × List T25D × T25D × Unit) × (Int × Int × (Int × List UInt8 × List UInt8 × List UInt8 × Int × Int × Int × List
 T96D × List
 T48D × List
 T48D × Int × Int × Int × Bool × List
 T70D × List
 (Int × Int × (Int × Int × Bool × Int × List
 (List
 UInt8 × (Int × Int × Int × Int × List
 UInt8 × Int × Bool × Unit) × Unit) × Int × Int × Unit) × Unit) × List
 T113D × Unit) × Unit) × Int × List UInt8 × List UInt8 × Int × Int × Int × Int × (Int × Int × Bool × Int × List
 T70D × Int × Int × Unit) × List
 (Int × List
 T70D × Unit) × List
 T70D × Bool × (Int × Int × List
 (Int × Int × (Int × Int × Bool × Int × List
 (List
 UInt8 × (Int × Int × Int × Int × List
 UInt8 × Int × Bool × Unit) × Unit) × Int × Int × Unit) × Unit) × List T113D × Unit) × T53D × Unit) × Unit) =>
 Option.bind (F13 x.snd)
 fun b =>
 Option.bind
 (F17 (x_1.snd.snd.snd.snd.snd.snd.snd.snd.snd.snd.snd, x.fst, b))
 fun b =>
 Option.bind
 (F24
 ((x_1.snd.fst, x_1.snd.snd.fst, x_1.snd.snd.snd.fst,
 x_1.snd.snd.snd.snd.fst, x_1.snd.snd.snd.snd.snd.fst,
 x_1.snd.snd.snd.snd.snd.snd.fst,
 x_1.snd.snd.snd.snd.snd.snd.snd.fst,
 x_1.snd.snd.snd.snd.snd.snd.snd.snd.fst,
 x_1.snd.snd.snd.snd.snd.snd.snd.snd.snd.fst,
 x_1.snd.snd.snd.snd.snd.snd.snd.snd.snd.snd.fst, ()),
 x))
 fun b_2 =>
 bif !b.snd.fst == b_2.snd.fst then
 some (Sum.inr (Sum.inr (false, ())))
 else
 bif b.snd.fst then
 Option.bind (F16 (b.fst, ()))
 fun b_3 =>
 Option.bind (F15 (b_3.fst, x.snd)) fun b_4 =>
 bif !b_4.fst then some (Sum.inr (Sum.inr (false, ())))
 else
 bif !b.snd.fst then
 Option.bind
 (F25
 (b.fst,
 (0, 0,
 (0, 0, 0, 0, 0, 0, 0, 0, false, [],
 (0, 0, [], ()), ()),
 (0, 0,
 (0, [], [], [], 0, 0, 0, [], [], [], 0, 0, 0,
 false, [], [], [], ()),
 ()),
 0, [], [], 0, 0, 0, 0,
 (0, 0, false, 0, [], 0, 0, ()), [], [],
 false, (0, 0, [], [], ()),
 (0, 0, 0, [], [], 0, [], 0, 0, 0, ()),
 ()),
 ()))
 fun b_5 =>
 bif !b_5.fst then
 some (Sum.inr (Sum.inr (false, ())))
 else
 some
 (Sum.inl
 (b_2.fst.fst, b_2.fst.snd.fst, b_2.fst.snd.snd.fst,
 b_2.fst.snd.snd.snd.fst,
 b_2.fst.snd.snd.snd.snd.fst,
 b_2.fst.snd.snd.snd.snd.snd.fst,
 b_2.fst.snd.snd.snd.snd.snd.snd.fst,
 b_2.fst.snd.snd.snd.snd.snd.snd.snd.fst,
 b_2.fst.snd.snd.snd.snd.snd.snd.snd.snd.fst,
 b_2.fst.snd.snd.snd.snd.snd.snd.snd.snd.snd.fst,
 b.snd.snd.fst))
 else
 some
 (Sum.inl
 (b_2.fst.fst, b_2.fst.snd.fst, b_2.fst.snd.snd.fst,
 b_2.fst.snd.snd.snd.fst, b_2.fst.snd.snd.snd.snd.fst,
 b_2.fst.snd.snd.snd.snd.snd.fst,
 b_2.fst.snd.snd.snd.snd.snd.snd.fst,
 b_2.fst.snd.snd.snd.snd.snd.snd.snd.fst,
 b_2.fst.snd.snd.snd.snd.snd.snd.snd.snd.fst,
 b_2.fst.snd.snd.snd.snd.snd.snd.snd.snd.snd.fst,
 b.snd.snd.fst))
 else
 bif !b.snd.fst then
 Option.bind
 (F25
 (b.fst,
 (0, 0,
 (0, 0, 0, 0, 0, 0, 0, 0, false, [],
 (0, 0, [], ()), ()),
 (0, 0,
 (0, [], [], [], 0, 0, 0, [], [], [], 0, 0, 0, false, [],
 [], [], ()),
 ()),
 0, [], [], 0, 0, 0, 0,
 (0, 0, false, 0, [], 0, 0, ()), [], [], false,
 (0, 0, [], [], ()),
 (0, 0, 0, [], [], 0, [], 0, 0, 0, ()),
 ()),
 ()))
 fun b_3 =>
 bif !b_3.fst then some (Sum.inr (Sum.inr (false, ())))
 else
 some
 (Sum.inl
 (b_2.fst.fst, b_2.fst.snd.fst, b_2.fst.snd.snd.fst,
 b_2.fst.snd.snd.snd.fst, b_2.fst.snd.snd.snd.snd.fst,
 b_2.fst.snd.snd.snd.snd.snd.fst,
 b_2.fst.snd.snd.snd.snd.snd.snd.fst,
 b_2.fst.snd.snd.snd.snd.snd.snd.snd.fst,
 b_2.fst.snd.snd.snd.snd.snd.snd.snd.snd.fst,
 b_2.fst.snd.snd.snd.snd.snd.snd.snd.snd.snd.fst,
 b.snd.snd.fst))
 else
 some
 (Sum.inl
 (b_2.fst.fst, b_2.fst.snd.fst, b_2.fst.snd.snd.fst,
 b_2.fst.snd.snd.snd.fst, b_2.fst.snd.snd.snd.snd.fst,
 b_2.fst.snd.snd.snd.snd.snd.fst,
 b_2.fst.snd.snd.snd.snd.snd.snd.fst,
 b_2.fst.snd.snd.snd.snd.snd.snd.snd.fst,
 b_2.fst.snd.snd.snd.snd.snd.snd.snd.snd.fst,
 b_2.fst.snd.snd.snd.snd.snd.snd.snd.snd.snd.fst,
 b.snd.snd.fst)))
 (fun (val :
 Int × Int × Int × Int × Int × Int × Int × Bool × Bool × (Int × Int × (Int × Int × Int × Int × Int × Int × Int × Int × Bool × List
 T25D × T25D × Unit) × (Int × Int × (Int × List UInt8 × List UInt8 × List UInt8 × Int × Int × Int × List
 T96D × List
 T48D × List
 (Int × List UInt8 × List UInt8 × List
 UInt8 × Int × Unit) × Int × Int × Int × Bool × List
 (List
 UInt8 × (Int × Int × Int × Int × List
 UInt8 × Int × Bool × Unit) × Unit) × List
 (Int × Int × (Int × Int × Bool × Int × List
 (List
 UInt8 × (Int × Int × Int × Int × List
 UInt8 × Int × Bool × Unit) × Unit) × Int × Int × Unit) × Unit) × List
 T113D × Unit) × Unit) × Int × List UInt8 × List UInt8 × Int × Int × Int × Int × (Int × Int × Bool × Int × List
 (List UInt8 × (Int × Int × Int × Int × List
 UInt8 × Int × Bool × Unit) × Unit) × Int × Int × Unit) × List
 (Int × List
 (List UInt8 × (Int × Int × Int × Int × List
 UInt8 × Int × Bool × Unit) × Unit) × Unit) × List
 (List UInt8 × (Int × Int × Int × Int × List
 UInt8 × Int × Bool × Unit) × Unit) × Bool × (Int × Int × List
 (Int × Int × (Int × Int × Bool × Int × List
 (List
 UInt8 × (Int × Int × Int × Int × List
 UInt8 × Int × Bool × Unit) × Unit) × Int × Int × Unit) × Unit) × List
 T113D × Unit) × (Int × Int × Int × List UInt8 × List
 UInt8 × Int × List
 UInt8 × T113D) × Unit) × Int × Int × Int × Int × Int × Int × Int × Bool × (Int × Int × (Int × Int × Int × Int × Int × Int × Int × Int × Bool × List
 (Int × Int × List
 UInt8 × Unit) × (Int × Int × List
 UInt8 × Unit) × Unit) × (Int × Int × (Int × List UInt8 × List UInt8 × List UInt8 × Int × Int × Int × List
 (List
 UInt8 × Int × Int × Int × List
 UInt8 × Unit) × List
 (Int × List
 UInt8 × List
 UInt8 × List
 UInt8 × Int × Unit) × List
 (Int × List
 UInt8 × List
 UInt8 × List
 UInt8 × Int × Unit) × Int × Int × Int × Bool × List
 (List
 UInt8 × (Int × Int × Int × Int × List
 UInt8 × Int × Bool × Unit) × Unit) × List
 (Int × Int × (Int × Int × Bool × Int × List
 (List
 UInt8 × (Int × Int × Int × Int × List
 UInt8 × Int × Bool × Unit) × Unit) × Int × Int × Unit) × Unit) × List
 T113D × Unit) × Unit) × Int × List UInt8 × List UInt8 × Int × Int × Int × Int × (Int × Int × Bool × Int × List
 (List
 UInt8 × (Int × Int × Int × Int × List
 UInt8 × Int × Bool × Unit) × Unit) × Int × Int × Unit) × List
 (Int × List
 (List
 UInt8 × (Int × Int × Int × Int × List
 UInt8 × Int × Bool × Unit) × Unit) × Unit) × List
 (List
 UInt8 × (Int × Int × Int × Int × List
 UInt8 × Int × Bool × Unit) × Unit) × Bool × (Int × Int × List
 (Int × Int × (Int × Int × Bool × Int × List
 (List
 UInt8 × (Int × Int × Int × Int × List
 UInt8 × Int × Bool × Unit) × Unit) × Int × Int × Unit) × Unit) × List
 T113D × Unit) × (Int × Int × Int × List
 UInt8 × List
 UInt8 × Int × List
 UInt8 × T113D) × Unit) × Unit ⊕ Int × Int × Int × Int × Int × Int × Int × Int × Bool × Bool × (Int × Int × (Int × Int × Int × Int × Int × Int × Int × Int × Bool × List
 T25D × T25D × Unit) × (Int × Int × (Int × List UInt8 × List UInt8 × List UInt8 × Int × Int × Int × List
 (List UInt8 × Int × Int × Int × List
 UInt8 × Unit) × List
 (Int × List UInt8 × List
 UInt8 × List
 UInt8 × Int × Unit) × List
 (Int × List
 UInt8 × List
 UInt8 × List
 UInt8 × Int × Unit) × Int × Int × Int × Bool × List
 (List
 UInt8 × (Int × Int × Int × Int × List
 UInt8 × Int × Bool × Unit) × Unit) × List
 (Int × Int × (Int × Int × Bool × Int × List
 (List
 UInt8 × (Int × Int × Int × Int × List
 UInt8 × Int × Bool × Unit) × Unit) × Int × Int × Unit) × Unit) × List
 T113D × Unit) × Unit) × Int × List UInt8 × List UInt8 × Int × Int × Int × Int × (Int × Int × Bool × Int × List
 (List
 UInt8 × (Int × Int × Int × Int × List
 UInt8 × Int × Bool × Unit) × Unit) × Int × Int × Unit) × List
 (Int × List
 (List UInt8 × (Int × Int × Int × Int × List
 UInt8 × Int × Bool × Unit) × Unit) × Unit) × List
 (List UInt8 × (Int × Int × Int × Int × List
 UInt8 × Int × Bool × Unit) × Unit) × Bool × (Int × Int × List
 (Int × Int × (Int × Int × Bool × Int × List
 (List
 UInt8 × (Int × Int × Int × Int × List
 UInt8 × Int × Bool × Unit) × Unit) × Int × Int × Unit) × Unit) × List
 T113D × Unit) × (Int × Int × Int × List
 UInt8 × List
 UInt8 × Int × List
 UInt8 × T113D) × Unit) × Int × Int × Int × Int × Int × Int × Int × Bool × (Int × Int × (Int × Int × Int × Int × Int × Int × Int × Int × Bool × List
 (Int × Int × List
 UInt8 × Unit) × (Int × Int × List
 UInt8 × Unit) × Unit) × (Int × Int × (Int × List UInt8 × List UInt8 × List
 UInt8 × Int × Int × Int × List
 (List
 UInt8 × Int × Int × Int × List
 UInt8 × Unit) × List
 (Int × List
 UInt8 × List
 UInt8 × List
 UInt8 × Int × Unit) × List
 (Int × List
 UInt8 × List
 UInt8 × List
 UInt8 × Int × Unit) × Int × Int × Int × Bool × List
 (List
 UInt8 × (Int × Int × Int × Int × List
 UInt8 × Int × Bool × Unit) × Unit) × List
 (Int × Int × (Int × Int × Bool × Int × List
 (List
 UInt8 × (Int × Int × Int × Int × List
 UInt8 × Int × Bool × Unit) × Unit) × Int × Int × Unit) × Unit) × List
 T113D × Unit) × Unit) × Int × List UInt8 × List UInt8 × Int × Int × Int × Int × (Int × Int × Bool × Int × List
 (List
 UInt8 × (Int × Int × Int × Int × List
 UInt8 × Int × Bool × Unit) × Unit) × Int × Int × Unit) × List
 (Int × List
 (List
 UInt8 × (Int × Int × Int × Int × List
 UInt8 × Int × Bool × Unit) × Unit) × Unit) × List
 (List
 UInt8 × (Int × Int × Int × Int × List
 UInt8 × Int × Bool × Unit) × Unit) × Bool × (Int × Int × List
 (Int × Int × (Int × Int × Bool × Int × List
 (List
 UInt8 × (Int × Int × Int × Int × List
 UInt8 × Int × Bool × Unit) × Unit) × Int × Int × Unit) × Unit) × List
 T113D × Unit) × (Int × Int × Int × List
 UInt8 × List
 UInt8 × Int × List
 UInt8 × T113D) × Unit) × Unit ⊕ Bool × Unit) =>
 some val)
 o
 else
 Option.bind (F26 (x_1.snd.snd.snd.snd.snd.snd.snd.snd.snd.snd.snd, ()))
 fun b =>
 some
 (Sum.inl
 (x_1.snd.fst, x_1.snd.snd.fst, x_1.snd.snd.snd.fst, x_1.snd.snd.snd.snd.fst,
 x_1.snd.snd.snd.snd.snd.fst, x_1.snd.snd.snd.snd.snd.snd.fst,
 x_1.snd.snd.snd.snd.snd.snd.snd.fst, false,
 x_1.snd.snd.snd.snd.snd.snd.snd.snd.snd.fst,
 x_1.snd.snd.snd.snd.snd.snd.snd.snd.snd.snd.fst, b.fst))
 else
 bif decide (intOf8 b.fst = intOf8 (UInt8.ofNat 3)) then
 Option.bind
 (bif decide (intOf8 b.fst = intOf8 (UInt8.ofNat 3)) then
 some
 (Sum.inl
 (wrap64
 (wrap64 (4 * x_1.snd.snd.fst) +
 x_1.snd.snd.snd.snd.snd.snd.fst),
 (b.snd.snd.fst.fst, x_1.snd.snd.snd.snd.snd.fst, b.snd.snd.fst.snd.snd),
 ()))
 else some (Sum.inl b.snd))
 fun o =>
 Sum.elim
 (fun (x :
 Int × (Int × Int × (Int × Int × Int × Int × Int × Int × Int × Int × Bool × List T25D × T25D × Unit) × (Int × Int × (Int × List UInt8 × List UInt8 × List UInt8 × Int × Int × Int × List
 T96D × List
 T48D × List
 T48D × Int × Int × Int × Bool × List
 T70D × List
 (Int × Int × (Int × Int × Bool × Int × List
 (List
 UInt8 × (Int × Int × Int × Int × List
 UInt8 × Int × Bool × Unit) × Unit) × Int × Int × Unit) × Unit) × List
 T113D × Unit) × Unit) × Int × List UInt8 × List UInt8 × Int × Int × Int × Int × (Int × Int × Bool × Int × List
 T70D × Int × Int × Unit) × List
 (Int × List
 T70D × Unit) × List
 T70D × Bool × (Int × Int × List
 (Int × Int × (Int × Int × Bool × Int × List
 (List
 UInt8 × (Int × Int × Int × Int × List
 UInt8 × Int × Bool × Unit) × Unit) × Int × Int × Unit) × Unit) × List T113D × Unit) × T53D × Unit) × Unit) =>
 Option.bind (F13 x.snd)
 fun b =>
 Option.bind
 (F17 (x_1.snd.snd.snd.snd.snd.snd.snd.snd.snd.snd.snd, x.fst, b))
 fun b =>
 Option.bind
 (F24
 ((x_1.snd.fst, x_1.snd.snd.fst, x_1.snd.snd.snd.fst,
 x_1.snd.snd.snd.snd.fst, x_1.snd.snd.snd.snd.snd.fst,
 x_1.snd.snd.snd.snd.snd.snd.fst,
 x_1.snd.snd.snd.snd.snd.snd.snd.fst,
 x_1.snd.snd.snd.snd.snd.snd.snd.snd.fst,
 x_1.snd.snd.snd.snd.snd.snd.snd.snd.snd.fst,
 x_1.snd.snd.snd.snd.snd.snd.snd.snd.snd.snd.fst, ()),
 x))
 fun b_2 =>
 bif !b.snd.fst == b_2.snd.fst then
 some (Sum.inr (Sum.inr (false, ())))
 else
 bif b.snd.fst then
 Option.bind (F16 (b.fst, ()))
 fun b_3 =>
 Option.bind (F15 (b_3.fst, x.snd)) fun b_4 =>
 bif !b_4.fst then some (Sum.inr (Sum.inr (false, ())))
 else
 bif !b.snd.fst then
 Option.bind
 (F25
 (b.fst,
 (0, 0,
 (0, 0, 0, 0, 0, 0, 0, 0, false, [],
 (0, 0, [], ()), ()),
 (0, 0,
 (0, [], [], [], 0, 0, 0, [], [], [], 0, 0, 0,
 false, [], [], [], ()),
 ()),
 0, [], [], 0, 0, 0, 0,
 (0, 0, false, 0, [], 0, 0, ()), [], [],
 false, (0, 0, [], [], ()),
 (0, 0, 0, [], [], 0, [], 0, 0, 0, ()),
 ()),
 ()))
 fun b_5 =>
 bif !b_5.fst then
 some (Sum.inr (Sum.inr (false, ())))
 else
 some
 (Sum.inl
 (b_2.fst.fst, b_2.fst.snd.fst, b_2.fst.snd.snd.fst,
 b_2.fst.snd.snd.snd.fst,
 b_2.fst.snd.snd.snd.snd.fst,
 b_2.fst.snd.snd.snd.snd.snd.fst,
 b_2.fst.snd.snd.snd.snd.snd.snd.fst,
 b_2.fst.snd.snd.snd.snd.snd.snd.snd.fst,
 b_2.fst.snd.snd.snd.snd.snd.snd.snd.snd.fst,
 b_2.fst.snd.snd.snd.snd.snd.snd.snd.snd.snd.fst,
 b.snd.snd.fst))
 else
 some
 (Sum.inl
 (b_2.fst.fst, b_2.fst.snd.fst, b_2.fst.snd.snd.fst,
 b_2.fst.snd.snd.snd.fst, b_2.fst.snd.snd.snd.snd.fst,
 b_2.fst.snd.snd.snd.snd.snd.fst,
 b_2.fst.snd.snd.snd.snd.snd.snd.fst,
 b_2.fst.snd.snd.snd.snd.snd.snd.snd.fst,
 b_2.fst.snd.snd.snd.snd.snd.snd.snd.snd.fst,
 b_2.fst.snd.snd.snd.snd.snd.snd.snd.snd.snd.fst,
 b.snd.snd.fst))
 else
 bif !b.snd.fst then
 Option.bind
 (F25
 (b.fst,
 (0, 0,
 (0, 0, 0, 0, 0, 0, 0, 0, false, [],
 (0, 0, [], ()), ()),
 (0, 0,
 (0, [], [], [], 0, 0, 0, [], [], [], 0, 0, 0, false, [],
 [], [], ()),
 ()),
 0, [], [], 0, 0, 0, 0,
 (0, 0, false, 0, [], 0, 0, ()), [], [], false,
 (0, 0, [], [], ()),
 (0, 0, 0, [], [], 0, [], 0, 0, 0, ()),
 ()),
 ()))
 fun b_3 =>
 bif !b_3.fst then some (Sum.inr (Sum.inr (false, ())))
 else
 some
 (Sum.inl
 (b_2.fst.fst, b_2.fst.snd.fst, b_2.fst.snd.snd.fst,
 b_2.fst.snd.snd.snd.fst, b_2.fst.snd.snd.snd.snd.fst,
 b_2.fst.snd.snd.snd.snd.snd.fst,
 b_2.fst.snd.snd.snd.snd.snd.snd.fst,
 b_2.fst.snd.snd.snd.snd.snd.snd.snd.fst,
 b_2.fst.snd.snd.snd.snd.snd.snd.snd.snd.fst,
 b_2.fst.snd.snd.snd.snd.snd.snd.snd.snd.snd.fst,
 b.snd.snd.fst))
 else
 some
 (Sum.inl
 (b_2.fst.fst, b_2.fst.snd.fst, b_2.fst.snd.snd.fst,
 b_2.fst.snd.snd.snd.fst, b_2.fst.snd.snd.snd.snd.fst,
 b_2.fst.snd.snd.snd.snd.snd.fst,
 b_2.fst.snd.snd.snd.snd.snd.snd.fst,
 b_2.fst.snd.snd.snd.snd.snd.snd.snd.fst,
 b_2.fst.snd.snd.snd.snd.snd.snd.snd.snd.fst,
 b_2.fst.snd.snd.snd.snd.snd.snd.snd.snd.snd.fst,
 b.snd.snd.fst)))
 (fun (val :
 Int × Int × Int × Int × Int × Int × Int × Bool × Bool × (Int × Int × (Int × Int × Int × Int × Int × Int × Int × Int × Bool × List
 T25D × T25D × Unit) × (Int × Int × (Int × List UInt8 × List UInt8 × List UInt8 × Int × Int × Int × List
 T96D × List
 T48D × List
 (Int × List UInt8 × List UInt8 × List
 UInt8 × Int × Unit) × Int × Int × Int × Bool × List
 (List
 UInt8 × (Int × Int × Int × Int × List
 UInt8 × Int × Bool × Unit) × Unit) × List
 (Int × Int × (Int × Int × Bool × Int × List
 (List
 UInt8 × (Int × Int × Int × Int × List
 UInt8 × Int × Bool × Unit) × Unit) × Int × Int × Unit) × Unit) × List
 T113D × Unit) × Unit) × Int × List UInt8 × List UInt8 × Int × Int × Int × Int × (Int × Int × Bool × Int × List
 (List UInt8 × (Int × Int × Int × Int × List
 UInt8 × Int × Bool × Unit) × Unit) × Int × Int × Unit) × List
 (Int × List
 (List UInt8 × (Int × Int × Int × Int × List
 UInt8 × Int × Bool × Unit) × Unit) × Unit) × List
 (List UInt8 × (Int × Int × Int × Int × List
 UInt8 × Int × Bool × Unit) × Unit) × Bool × (Int × Int × List
 (Int × Int × (Int × Int × Bool × Int × List
 (List
 UInt8 × (Int × Int × Int × Int × List
 UInt8 × Int × Bool × Unit) × Unit) × Int × Int × Unit) × Unit) × List
 T113D × Unit) × (Int × Int × Int × List UInt8 × List
 UInt8 × Int × List
 UInt8 × T113D) × Unit) × Int × Int × Int × Int × Int × Int × Int × Bool × (Int × Int × (Int × Int × Int × Int × Int × Int × Int × Int × Bool × List
 (Int × Int × List
 UInt8 × Unit) × (Int × Int × List
 UInt8 × Unit) × Unit) × (Int × Int × (Int × List UInt8 × List UInt8 × List UInt8 × Int × Int × Int × List
 (List
 UInt8 × Int × Int × Int × List
 UInt8 × Unit) × List
 (Int × List
 UInt8 × List
 UInt8 × List
 UInt8 × Int × Unit) × List
 (Int × List
 UInt8 × List
 UInt8 × List
 UInt8 × Int × Unit) × Int × Int × Int × Bool × List
 (List
 UInt8 × (Int × Int × Int × Int × List
 UInt8 × Int × Bool × Unit) × Unit) × List
 (Int × Int × (Int × Int × Bool × Int × List
 (List
 UInt8 × (Int × Int × Int × Int × List
 UInt8 × Int × Bool × Unit) × Unit) × Int × Int × Unit) × Unit) × List
 T113D × Unit) × Unit) × Int × List UInt8 × List UInt8 × Int × Int × Int × Int × (Int × Int × Bool × Int × List
 (List
 UInt8 × (Int × Int × Int × Int × List
 UInt8 × Int × Bool × Unit) × Unit) × Int × Int × Unit) × List
 (Int × List
 (List
 UInt8 × (Int × Int × Int × Int × List
 UInt8 × Int × Bool × Unit) × Unit) × Unit) × List
 (List
 UInt8 × (Int × Int × Int × Int × List
 UInt8 × Int × Bool × Unit) × Unit) × Bool × (Int × Int × List
 (Int × Int × (Int × Int × Bool × Int × List
 (List
 UInt8 × (Int × Int × Int × Int × List
 UInt8 × Int × Bool × Unit) × Unit) × Int × Int × Unit) × Unit) × List
 T113D × Unit) × (Int × Int × Int × List
 UInt8 × List
 UInt8 × Int × List
 UInt8 × T113D) × Unit) × Unit ⊕ Int × Int × Int × Int × Int × Int × Int × Int × Bool × Bool × (Int × Int × (Int × Int × Int × Int × Int × Int × Int × Int × Bool × List
 T25D × T25D × Unit) × (Int × Int × (Int × List UInt8 × List UInt8 × List UInt8 × Int × Int × Int × List
 (List UInt8 × Int × Int × Int × List
 UInt8 × Unit) × List
 (Int × List UInt8 × List
 UInt8 × List
 UInt8 × Int × Unit) × List
 (Int × List
 UInt8 × List
 UInt8 × List
 UInt8 × Int × Unit) × Int × Int × Int × Bool × List
 (List
 UInt8 × (Int × Int × Int × Int × List
 UInt8 × Int × Bool × Unit) × Unit) × List
 (Int × Int × (Int × Int × Bool × Int × List
 (List
 UInt8 × (Int × Int × Int × Int × List
 UInt8 × Int × Bool × Unit) × Unit) × Int × Int × Unit) × Unit) × List
 T113D × Unit) × Unit) × Int × List UInt8 × List UInt8 × Int × Int × Int × Int × (Int × Int × Bool × Int × List
 (List
 UInt8 × (Int × Int × Int × Int × List
 UInt8 × Int × Bool × Unit) × Unit) × Int × Int × Unit) × List
 (Int × List
 (List UInt8 × (Int × Int × Int × Int × List
 UInt8 × Int × Bool × Unit) × Unit) × Unit) × List
 (List UInt8 × (Int × Int × Int × Int × List
 UInt8 × Int × Bool × Unit) × Unit) × Bool × (Int × Int × List
 (Int × Int × (Int × Int × Bool × Int × List
 (List
 UInt8 × (Int × Int × Int × Int × List
 UInt8 × Int × Bool × Unit) × Unit) × Int × Int × Unit) × Unit) × List
 T113D × Unit) × (Int × Int × Int × List
 UInt8 × List
 UInt8 × Int × List
 UInt8 × T113D) × Unit) × Int × Int × Int × Int × Int × Int × Int × Bool × (Int × Int × (Int × Int × Int × Int × Int × Int × Int × Int × Bool × List
 (Int × Int × List
 UInt8 × Unit) × (Int × Int × List
 UInt8 × Unit) × Unit) × (Int × Int × (Int × List UInt8 × List UInt8 × List
 UInt8 × Int × Int × Int × List
 (List
 UInt8 × Int × Int × Int × List
 UInt8 × Unit) × List
 (Int × List
 UInt8 × List
 UInt8 × List
 UInt8 × Int × Unit) × List
 (Int × List
 UInt8 × List
 UInt8 × List
 UInt8 × Int × Unit) × Int × Int × Int × Bool × List
 (List
 UInt8 × (Int × Int × Int × Int × List
 UInt8 × Int × Bool × Unit) × Unit) × List
 (Int × Int × (Int × Int × Bool × Int × List
 (List
 UInt8 × (Int × Int × Int × Int × List
 UInt8 × Int × Bool × Unit) × Unit) × Int × Int × Unit) × Unit) × List
 T113D × Unit) × Unit) × Int × List UInt8 × List UInt8 × Int × Int × Int × Int × (Int × Int × Bool × Int × List
 (List
 UInt8 × (Int × Int × Int × Int × List
 UInt8 × Int × Bool × Unit) × Unit) × Int × Int × Unit) × List
 (Int × List
 (List
 UInt8 × (Int × Int × Int × Int × List
 UInt8 × Int × Bool × Unit) × Unit) × Unit) × List
 (List
 UInt8 × (Int × Int × Int × Int × List
 UInt8 × Int × Bool × Unit) × Unit) × Bool × (Int × Int × List
 (Int × Int × (Int × Int × Bool × Int × List
 (List
 UInt8 × (Int × Int × Int × Int × List
 UInt8 × Int × Bool × Unit) × Unit) × Int × Int × Unit) × Unit) × List
 T113D × Unit) × (Int × Int × Int × List
 UInt8 × List
 UInt8 × Int × List
 UInt8 × T113D) × Unit) × Unit ⊕ Bool × Unit) =>
 some val)
 o
 else
 Option.bind (F26 (x_1.snd.snd.snd.snd.snd.snd.snd.snd.snd.snd.snd, ()))
 fun b =>
 some
 (Sum.inl
 (x_1.snd.fst, x_1.snd.snd.fst, x_1.snd.snd.snd.fst, x_1.snd.snd.snd.snd.fst,
 x_1.snd.snd.snd.snd.snd.fst, x_1.snd.snd.snd.snd.snd.snd.fst,
 x_1.snd.snd.snd.snd.snd.snd.snd.fst, false,
 x_1.snd.snd.snd.snd.snd.snd.snd.snd.snd.fst,
 x_1.snd.snd.snd.snd.snd.snd.snd.snd.snd.snd.fst, b.fst)))
 fun o =>
 Sum.elim
 (fun (x :
 Int × Int × Int × Int × Int × Int × Int × Bool × Bool × (Int × Int × (Int × Int × Int × Int × Int × Int × Int × Int × Bool × List T25D × T25D × Unit) × (Int × Int × (Int × List UInt8 × List UInt8 × List UInt8 × Int × Int × Int × List
 T96D × List
 T48D × List
 T48D × Int × Int × Int × Bool × List
 (List UInt8 × (Int × Int × Int × Int × List
 UInt8 × Int × Bool × Unit) × Unit) × List
 (Int × Int × (Int × Int × Bool × Int × List
 (List
 UInt8 × (Int × Int × Int × Int × List
 UInt8 × Int × Bool × Unit) × Unit) × Int × Int × Unit) × Unit) × List
 T113D × Unit) × Unit) × Int × List UInt8 × List UInt8 × Int × Int × Int × Int × (Int × Int × Bool × Int × List
 T70D × Int × Int × Unit) × List
 (Int × List
 T70D × Unit) × List
 T70D × Bool × (Int × Int × List
 (Int × Int × (Int × Int × Bool × Int × List
 (List
 UInt8 × (Int × Int × Int × Int × List
 UInt8 × Int × Bool × Unit) × Unit) × Int × Int × Unit) × Unit) × List
 T113D × Unit) × T53D × Unit) × Int × Int × Int × Int × Int × Int × Int × Bool × (Int × Int × (Int × Int × Int × Int × Int × Int × Int × Int × Bool × List
 T25D × T25D × Unit) × (Int × Int × (Int × List UInt8 × List UInt8 × List UInt8 × Int × Int × Int × List
 (List UInt8 × Int × Int × Int × List
 UInt8 × Unit) × List
 (Int × List
 UInt8 × List
 UInt8 × List
 UInt8 × Int × Unit) × List
 (Int × List
 UInt8 × List
 UInt8 × List
 UInt8 × Int × Unit) × Int × Int × Int × Bool × List
 (List
 UInt8 × (Int × Int × Int × Int × List
 UInt8 × Int × Bool × Unit) × Unit) × List
 (Int × Int × (Int × Int × Bool × Int × List
 (List
 UInt8 × (Int × Int × Int × Int × List
 UInt8 × Int × Bool × Unit) × Unit) × Int × Int × Unit) × Unit) × List
 T113D × Unit) × Unit) × Int × List UInt8 × List UInt8 × Int × Int × Int × Int × (Int × Int × Bool × Int × List
 (List
 UInt8 × (Int × Int × Int × Int × List
 UInt8 × Int × Bool × Unit) × Unit) × Int × Int × Unit) × List
 (Int × List
 (List
 UInt8 × (Int × Int × Int × Int × List
 UInt8 × Int × Bool × Unit) × Unit) × Unit) × List
 (List UInt8 × (Int × Int × Int × Int × List
 UInt8 × Int × Bool × Unit) × Unit) × Bool × (Int × Int × List
 (Int × Int × (Int × Int × Bool × Int × List
 (List
 UInt8 × (Int × Int × Int × Int × List
 UInt8 × Int × Bool × Unit) × Unit) × Int × Int × Unit) × Unit) × List
 T113D × Unit) × (Int × Int × Int × List
 UInt8 × List
 UInt8 × Int × List
 UInt8 × T113D) × Unit) × Unit) =>
 Option.bind (F19 (x.snd.snd.snd.snd.snd.snd.snd.snd.snd.snd, ()))
 fun b =>
 bif !b.fst == x.snd.snd.snd.snd.snd.snd.snd.fst then
 some (Sum.inr (false, ()))
 else
 Option.bind (F27 b.snd)
 fun b =>
 bif !decide (b.fst = x.snd.snd.snd.snd.snd.fst) then
 some (Sum.inr (false, ()))
 else
 some
 (Sum.inl
 (wrap64 (x_1.fst + 1), x.fst, x.snd.fst, x.snd.snd.fst,
 x.snd.snd.snd.fst, x.snd.snd.snd.snd.fst, x.snd.snd.snd.snd.snd.fst,
 x.snd.snd.snd.snd.snd.snd.fst, x.snd.snd.snd.snd.snd.snd.snd.fst,
 x.snd.snd.snd.snd.snd.snd.snd.snd.fst,
 x.snd.snd.snd.snd.snd.snd.snd.snd.snd.fst, b.snd.fst)))
 (fun (val :
 Int × Int × Int × Int × Int × Int × Int × Int × Bool × Bool × (Int × Int × (Int × Int × Int × Int × Int × Int × Int × Int × Bool × List
 T25D × T25D × Unit) × (Int × Int × (Int × List UInt8 × List UInt8 × List UInt8 × Int × Int × Int × List
 T96D × List
 T48D × List
 T48D × Int × Int × Int × Bool × List
 (List UInt8 × (Int × Int × Int × Int × List
 UInt8 × Int × Bool × Unit) × Unit) × List
 (Int × Int × (Int × Int × Bool × Int × List
 (List
 UInt8 × (Int × Int × Int × Int × List
 UInt8 × Int × Bool × Unit) × Unit) × Int × Int × Unit) × Unit) × List
 T113D × Unit) × Unit) × Int × List UInt8 × List UInt8 × Int × Int × Int × Int × (Int × Int × Bool × Int × List
 T70D × Int × Int × Unit) × List
 (Int × List
 T70D × Unit) × List
 T70D × Bool × (Int × Int × List
 (Int × Int × (Int × Int × Bool × Int × List
 (List
 UInt8 × (Int × Int × Int × Int × List
 UInt8 × Int × Bool × Unit) × Unit) × Int × Int × Unit) × Unit) × List
 T113D × Unit) × T53D × Unit) × Int × Int × Int × Int × Int × Int × Int × Bool × (Int × Int × (Int × Int × Int × Int × Int × Int × Int × Int × Bool × List
 (Int × Int × List
 UInt8 × Unit) × (Int × Int × List
 UInt8 × Unit) × Unit) × (Int × Int × (Int × List UInt8 × List UInt8 × List UInt8 × Int × Int × Int × List
 (List
 UInt8 × Int × Int × Int × List
 UInt8 × Unit) × List
 (Int × List
 UInt8 × List
 UInt8 × List
 UInt8 × Int × Unit) × List
 (Int × List
 UInt8 × List
 UInt8 × List
 UInt8 × Int × Unit) × Int × Int × Int × Bool × List
 (List
 UInt8 × (Int × Int × Int × Int × List
 UInt8 × Int × Bool × Unit) × Unit) × List
 (Int × Int × (Int × Int × Bool × Int × List
 (List
 UInt8 × (Int × Int × Int × Int × List
 UInt8 × Int × Bool × Unit) × Unit) × Int × Int × Unit) × Unit) × List
 T113D × Unit) × Unit) × Int × List UInt8 × List UInt8 × Int × Int × Int × Int × (Int × Int × Bool × Int × List
 (List
 UInt8 × (Int × Int × Int × Int × List
 UInt8 × Int × Bool × Unit) × Unit) × Int × Int × Unit) × List
 (Int × List
 (List
 UInt8 × (Int × Int × Int × Int × List
 UInt8 × Int × Bool × Unit) × Unit) × Unit) × List
 (List
 UInt8 × (Int × Int × Int × Int × List
 UInt8 × Int × Bool × Unit) × Unit) × Bool × (Int × Int × List
 (Int × Int × (Int × Int × Bool × Int × List
 (List
 UInt8 × (Int × Int × Int × Int × List
 UInt8 × Int × Bool × Unit) × Unit) × Int × Int × Unit) × Unit) × List
 T113D × Unit) × (Int × Int × Int × List
 UInt8 × List
 UInt8 × Int × List
 UInt8 × T113D) × Unit) × Unit ⊕ Bool × Unit) =>
 some val)
 o
 else some (Sum.inr (true, ())))
 big
 (0, x.fst, x.snd.fst, x.snd.snd.fst, x.snd.snd.snd.fst, x.snd.snd.snd.snd.fst, 0, 0, false, false,
 (0, 0, (0, 0, 0, 0, 0, 0, 0, 0, false, [], (0, 0, [], ()), ()),
 (0, 0, (0, [], [], [], 0, 0, 0, [], [], [], 0, 0, 0, false, [], [], [], ()),
 ()),
 0, [], [], 0, 0, 0, 0, (0, 0, false, 0, [], 0, 0, ()), [], [], false,
 (0, 0, [], [], ()), (0, 0, 0, [], [], 0, [], 0, 0, 0, ()), ()),
 b.fst.snd)
 else
 Option.bind (F9 (x.fst, x.snd.fst, x.snd.snd.fst, x.snd.snd.snd.fst, x.snd.snd.snd.snd.fst, ()))
 fun b_1 =>
 bif !b_1.fst then bif decide (b.snd.fst = 1) then some (true, ()) else some (false, ())
 else none
def S5 : Sig := ⟨P5, R5, F5⟩
noncomputable def E5 : Env := { tab := tab, nt := 210, Γ := lookG [(7, [S7]), (9, [S9]), (10, [S10]), (12, [S12, S12a]), (13, [S13]), (14, [S14, S14a]), (15, [S15]), (16, [S16]), (17, [S17, S17a]), (19, [S19, S19a]), (20, [S20]), (21, [S21]), (22, [S22]), (23, [S23]), (24, [S24]), (25, [S25]), (26, [S26, S26a]), (27, [S27, S27a])], joins := lookN [(21, ⟨[⟨.slot 23, (.slice Y58), .own false⟩], [5, 13, 15, 18, 19, 22, 69, 70], [.site 15009000, .fld 15009000 0, .fld 15009000 1, .fld 15009000 2, .site 6007000, .fld 6007000 0, .fld 6007000 1, .fld 6007000 2, .fld 6007000 3, .fld 6007000 4, .fld 6007000 5, .fld 6007000 6, .fld 6007000 7, .fld 6007000 8, .fld 6007000 9, .site 3006001, .fld 3006001 0, .fld 3006001 1, .fld 3006001 2, .fld 3006001 3, .fld 3006001 4, .fld 3006001 5, .fld 3006001 6, .fld 3006001 7, .fld 3006001 8]⟩), (34, ⟨[⟨.fld 10005000 1, (.int .i64), .pv⟩, ⟨.fld 10005000 2, TM, .pv⟩], [5, 13, 15, 17, 69, 70], [.site 10005000, .fld 10005000 0, .site 6007000, .fld 6007000 0, .fld 6007000 1, .fld 6007000 2, .fld 6007000 3, .fld 6007000 4, .fld 6007000 5, .fld 6007000 6, .fld 6007000 7, .fld 6007000 8, .fld 6007000 9, .site 3006001, .fld 3006001 0, .fld 3006001 1, .fld 3006001 2, .fld 3006001 3, .fld 3006001 4, .fld 3006001 5, .fld 3006001 6, .fld 3006001 7, .fld 3006001 8]⟩), (39, ⟨[⟨.fld 6007000 0, (.int .i64), .pv⟩, ⟨.fld 6007000 1, (.int .i64), .pv⟩, ⟨.fld 6007000 2, (.int .i64), .pv⟩, ⟨.fld 6007000 3, (.int .i64), .pv⟩, ⟨.fld 6007000 4, (.int .i64), .pv⟩, ⟨.fld 6007000 5, (.int .i64), .pv⟩, ⟨.fld 6007000 6, (.int .i64), .pv⟩, ⟨.fld 6007000 7, .bool, .pv⟩, ⟨.fld 6007000 8, .bool, .pv⟩, ⟨.fld 6007000 9, TM, .pv⟩, ⟨.fld 3006001 0, (.int .i64), .pv⟩, ⟨.fld 3006001 1, (.int .i64), .pv⟩, ⟨.fld 3006001 2, (.int .i64), .pv⟩, ⟨.fld 3006001 3, (.int .i64), .pv⟩, ⟨.fld 3006001 4, (.int .i64), .pv⟩, ⟨.fld 3006001 5, (.int .i64), .pv⟩, ⟨.fld 3006001 6, (.int .i64), .pv⟩, ⟨.fld 3006001 7, .bool, .pv⟩, ⟨.fld 3006001 8, TM, .pv⟩], [5, 13, 15, 69, 70], [.site 6007000, .site 3006001]⟩)], loops := lookN [(8, mkLoop ⟨[⟨.slot 70, (.int .i64), .pv⟩, ⟨.fld 6007000 0, (.int .i64), .pv⟩, ⟨.fld 6007000 1, (.int .i64), .pv⟩, ⟨.fld 6007000 2, (.int .i64), .pv⟩, ⟨.fld 6007000 3, (.int .i64), .pv⟩, ⟨.fld 6007000 4, (.int .i64), .pv⟩, ⟨.fld 6007000 5, (.int .i64), .pv⟩, ⟨.fld 6007000 6, (.int .i64), .pv⟩, ⟨.fld 6007000 7, .bool, .pv⟩, ⟨.fld 6007000 8, .bool, .pv⟩, ⟨.fld 6007000 9, TM, .pv⟩, ⟨.fld 3006001 0, (.int .i64), .pv⟩, ⟨.fld 3006001 1, (.int .i64), .pv⟩, ⟨.fld 3006001 2, (.int .i64), .pv⟩, ⟨.fld 3006001 3, (.int .i64), .pv⟩, ⟨.fld 3006001 4, (.int .i64), .pv⟩, ⟨.fld 3006001 5, (.int .i64), .pv⟩, ⟨.fld 3006001 6, (.int .i64), .pv⟩, ⟨.fld 3006001 7, .bool, .pv⟩, ⟨.fld 3006001 8, TM, .pv⟩], [5, 13, 15, 69], [.site 6007000, .site 3006001]⟩)] }
theorem raw5_eq (x : Int × Int × Int × Int × Int × List Y78D × Unit) : afun E5 Tryz.f5 P5 R5 x = F5 x := by kernel_rfl
-- decamp/decamplaw24.CallerNil
end
end Go.Proofs.YtkiakaokgoodhaaGreat

