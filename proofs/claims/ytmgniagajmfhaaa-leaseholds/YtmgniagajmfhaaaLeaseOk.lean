/-
  Lease: by a program of the bench (seat.py).
-/
import Derived.Test.YtmgniagajmfhaaaLeaseRaw
namespace Go.Proofs.Ytmgniagajmfhaaa
open Go.Sx Go
theorem ok53 : FOk Try.prog 53 S53 := afun_ok (E := E53) (fn := Try.f53) tabOk (GOk.look (l := []) trivial) Try.checked.mixed Try.func53 (by kernel_rfl) (by kernel_rfl) (by kernel_rfl) (by kernel_rfl) (by kernel_rfl) (by kernel_rfl) (by kernel_rfl)
  fun x y h => (raw53_eq x).trans h
theorem ok46 : FOk Try.prog 46 S46 := afun_ok (E := E46) (fn := Try.f46) tabOk (GOk.look (l := [(53, [S53])]) ⟨⟨ok53, trivial⟩, trivial⟩) Try.checked.mixed Try.func46 (by kernel_rfl) (by kernel_rfl) (by kernel_rfl) (by kernel_rfl) (by kernel_rfl) (by kernel_rfl) (by kernel_rfl)
  fun x y h => (raw46_eq x).trans h
theorem ok30 : FOk Try.prog 30 S30 := afun_ok (E := E30) (fn := Try.f30) tabOk (GOk.look (l := [(46, [S46])]) ⟨⟨ok46, trivial⟩, trivial⟩) Try.checked.mixed Try.func30 (by kernel_rfl) (by kernel_rfl) (by kernel_rfl) (by kernel_rfl) (by kernel_rfl) (by kernel_rfl) (by kernel_rfl)
  fun x y h => (raw30_eq x).trans h
theorem ok35 : FOk Try.prog 35 S35 := afun_ok (E := E35) (fn := Try.f35) tabOk (GOk.look (l := []) trivial) Try.checked.mixed Try.func35 (by kernel_rfl) (by kernel_rfl) (by kernel_rfl) (by kernel_rfl) (by kernel_rfl) (by kernel_rfl) (by kernel_rfl)
  fun x y h => (raw35_eq x).trans h
theorem ok32 : FOk Try.prog 32 S32 := afun_ok (E := E32) (fn := Try.f32) tabOk (GOk.look (l := [(35, [S35])]) ⟨⟨ok35, trivial⟩, trivial⟩) Try.checked.mixed Try.func32 (by kernel_rfl) (by kernel_rfl) (by kernel_rfl) (by kernel_rfl) (by kernel_rfl) (by kernel_rfl) (by kernel_rfl)
  fun x y h => (raw32_eq x).trans h
theorem ok56 : FOk Try.prog 56 S56 := afun_ok (E := E56) (fn := Try.f56) tabOk (GOk.look (l := []) trivial) Try.checked.mixed Try.func56 (by kernel_rfl) (by kernel_rfl) (by kernel_rfl) (by kernel_rfl) (by kernel_rfl) (by kernel_rfl) (by kernel_rfl)
  fun x y h => (raw56_eq x).trans h
theorem ok48 : FOk Try.prog 48 S48 := afun_ok (E := E48) (fn := Try.f48) tabOk (GOk.look (l := [(46, [S46]), (56, [S56])]) ⟨⟨ok46, trivial⟩, ⟨ok56, trivial⟩, trivial⟩) Try.checked.mixed Try.func48 (by kernel_rfl) (by kernel_rfl) (by kernel_rfl) (by kernel_rfl) (by kernel_rfl) (by kernel_rfl) (by kernel_rfl)
  fun x y h => (raw48_eq x).trans h
theorem ok49 : FOk Try.prog 49 S49 := afun_ok (E := E49) (fn := Try.f49) tabOk (GOk.look (l := [(56, [S56])]) ⟨⟨ok56, trivial⟩, trivial⟩) Try.checked.mixed Try.func49 (by kernel_rfl) (by kernel_rfl) (by kernel_rfl) (by kernel_rfl) (by kernel_rfl) (by kernel_rfl) (by kernel_rfl)
  fun x y h => (raw49_eq x).trans h
theorem ok33 : FOk Try.prog 33 S33 := afun_ok (E := E33) (fn := Try.f33) tabOk (GOk.look (l := [(48, [S48]), (49, [S49])]) ⟨⟨ok48, trivial⟩, ⟨ok49, trivial⟩, trivial⟩) Try.checked.mixed Try.func33 (by kernel_rfl) (by kernel_rfl) (by kernel_rfl) (by kernel_rfl) (by kernel_rfl) (by kernel_rfl) (by kernel_rfl)
  fun x y h => (raw33_eq x).trans h
theorem ok58 : FOk Try.prog 58 S58 := afun_ok (E := E58) (fn := Try.f58) tabOk (GOk.look (l := []) trivial) Try.checked.mixed Try.func58 (by kernel_rfl) (by kernel_rfl) (by kernel_rfl) (by kernel_rfl) (by kernel_rfl) (by kernel_rfl) (by kernel_rfl)
  fun x y h => (raw58_eq x).trans h
theorem ok57 : FOk Try.prog 57 S57 := afun_ok (E := E57) (fn := Try.f57) tabOk (GOk.look (l := [(56, [S56]), (58, [S58])]) ⟨⟨ok56, trivial⟩, ⟨ok58, trivial⟩, trivial⟩) Try.checked.mixed Try.func57 (by kernel_rfl) (by kernel_rfl) (by kernel_rfl) (by kernel_rfl) (by kernel_rfl) (by kernel_rfl) (by kernel_rfl)
  fun x y h => (raw57_eq x).trans h
theorem ok54 : FOk Try.prog 54 S54 := afun_ok (E := E54) (fn := Try.f54) tabOk (GOk.look (l := [(57, [S57]), (58, [S58])]) ⟨⟨ok57, trivial⟩, ⟨ok58, trivial⟩, trivial⟩) Try.checked.mixed Try.func54 (by kernel_rfl) (by kernel_rfl) (by kernel_rfl) (by kernel_rfl) (by kernel_rfl) (by kernel_rfl) (by kernel_rfl)
  fun x y h => (raw54_eq x).trans h
theorem ok50 : FOk Try.prog 50 S50 := rec_ok (P := Try.prog) (f := 50) (ps := P50) (rs := R50) (s := F50s) Try.func50 (by kernel_rfl) (by kernel_rfl) (by kernel_rfl) (fun (G : T26D × T78D × Unit → Option (T26D × Unit)) hG => afun_ok (P := Try.prog) (E := E50r G) (f := 50) (fn := Try.f50) (ps := P50) (rs := R50) (F := F50s G) tabOk (GOk.look (l := [(46, [S46]), (50, [⟨P50, R50, G⟩]), (54, [S54]), (57, [S57])]) ⟨⟨ok46, trivial⟩, ⟨hG, trivial⟩, ⟨ok54, trivial⟩, ⟨ok57, trivial⟩, trivial⟩) Try.checked.mixed Try.func50 (by kernel_rfl) (by kernel_rfl) (by kernel_rfl) (by kernel_rfl) (by kernel_rfl) (by kernel_rfl) (by kernel_rfl)
  fun x y h => (raw50_eq G x).trans h) big
theorem ok34 : FOk Try.prog 34 S34 := afun_ok (E := E34) (fn := Try.f34) tabOk (GOk.look (l := [(50, [S50])]) ⟨⟨ok50, trivial⟩, trivial⟩) Try.checked.mixed Try.func34 (by kernel_rfl) (by kernel_rfl) (by kernel_rfl) (by kernel_rfl) (by kernel_rfl) (by kernel_rfl) (by kernel_rfl)
  fun x y h => (raw34_eq x).trans h
theorem ok11 : FOk Try.prog 11 S11 := afun_ok (E := E11) (fn := Try.f11) tabOk (GOk.look (l := [(30, [S30]), (32, [S32]), (33, [S33]), (34, [S34])]) ⟨⟨ok30, trivial⟩, ⟨ok32, trivial⟩, ⟨ok33, trivial⟩, ⟨ok34, trivial⟩, trivial⟩) Try.checked.mixed Try.func11 (by kernel_rfl) (by kernel_rfl) (by kernel_rfl) (by kernel_rfl) (by kernel_rfl) (by kernel_rfl) (by kernel_rfl)
  fun x y h => (raw11_eq x).trans h
theorem ok52 : FOk Try.prog 52 S52 := afun_ok (E := E52) (fn := Try.f52) tabOk (GOk.look (l := []) trivial) Try.checked.mixed Try.func52 (by kernel_rfl) (by kernel_rfl) (by kernel_rfl) (by kernel_rfl) (by kernel_rfl) (by kernel_rfl) (by kernel_rfl)
  fun x y h => (raw52_eq x).trans h
theorem ok52a : FOk Try.prog 52 S52a := afun_ok (E := E52a) (fn := Try.f52) tabOk (GOk.look (l := []) trivial) Try.checked.mixed Try.func52 (by kernel_rfl) (by kernel_rfl) (by kernel_rfl) (by kernel_rfl) (by kernel_rfl) (by kernel_rfl) (by kernel_rfl)
  fun x y h => (raw52a_eq x).trans h
theorem ok51a : FOk Try.prog 51 S51a := rec_ok (P := Try.prog) (f := 51) (ps := P51a) (rs := R51a) (s := F51as) Try.func51 (by kernel_rfl) (by kernel_rfl) (by kernel_rfl) (fun (G : T26D × (List T78D × Unit) × Unit → Option ((List T78D × Unit) × Unit)) hG => afun_ok (P := Try.prog) (E := E51ar G) (f := 51) (fn := Try.f51) (ps := P51a) (rs := R51a) (F := F51as G) tabOk (GOk.look (l := [(51, [⟨P51a, R51a, G⟩]), (52, [S52, S52a])]) ⟨⟨hG, trivial⟩, ⟨ok52, ok52a, trivial⟩, trivial⟩) Try.checked.mixed Try.func51 (by kernel_rfl) (by kernel_rfl) (by kernel_rfl) (by kernel_rfl) (by kernel_rfl) (by kernel_rfl) (by kernel_rfl)
  fun x y h => (raw51a_eq G x).trans h) big
theorem ok36 : FOk Try.prog 36 S36 := afun_ok (E := E36) (fn := Try.f36) tabOk (GOk.look (l := [(51, [S51a]), (52, [S52, S52a])]) ⟨⟨ok51a, trivial⟩, ⟨ok52, ok52a, trivial⟩, trivial⟩) Try.checked.mixed Try.func36 (by kernel_rfl) (by kernel_rfl) (by kernel_rfl) (by kernel_rfl) (by kernel_rfl) (by kernel_rfl) (by kernel_rfl)
  fun x y h => (raw36_eq x).trans h
theorem ok14 : FOk Try.prog 14 S14 := afun_ok (E := E14) (fn := Try.f14) tabOk (GOk.look (l := [(35, [S35]), (36, [S36])]) ⟨⟨ok35, trivial⟩, ⟨ok36, trivial⟩, trivial⟩) Try.checked.mixed Try.func14 (by kernel_rfl) (by kernel_rfl) (by kernel_rfl) (by kernel_rfl) (by kernel_rfl) (by kernel_rfl) (by kernel_rfl)
  fun x y h => (raw14_eq x).trans h
theorem ok42 : FOk Try.prog 42 S42 := afun_ok (E := E42) (fn := Try.f42) tabOk (GOk.look (l := []) trivial) Try.checked.mixed Try.func42 (by kernel_rfl) (by kernel_rfl) (by kernel_rfl) (by kernel_rfl) (by kernel_rfl) (by kernel_rfl) (by kernel_rfl)
  fun x y h => (raw42_eq x).trans h
theorem ok19 : FOk Try.prog 19 S19 := afun_ok (E := E19) (fn := Try.f19) tabOk (GOk.look (l := [(30, [S30]), (35, [S35]), (42, [S42])]) ⟨⟨ok30, trivial⟩, ⟨ok35, trivial⟩, ⟨ok42, trivial⟩, trivial⟩) Try.checked.mixed Try.func19 (by kernel_rfl) (by kernel_rfl) (by kernel_rfl) (by kernel_rfl) (by kernel_rfl) (by kernel_rfl) (by kernel_rfl)
  fun x y h => (raw19_eq x).trans h
theorem ok7 : FOk Try.prog 7 S7 := afun_ok (E := E7) (fn := Try.f7) tabOk (GOk.look (l := [(11, [S11]), (14, [S14]), (19, [S19])]) ⟨⟨ok11, trivial⟩, ⟨ok14, trivial⟩, ⟨ok19, trivial⟩, trivial⟩) Try.checked.mixed Try.func7 (by kernel_rfl) (by kernel_rfl) (by kernel_rfl) (by kernel_rfl) (by kernel_rfl) (by kernel_rfl) (by kernel_rfl)
  fun x y h => (raw7_eq x).trans h
theorem ok8 : FOk Try.prog 8 S8 := afun_ok (E := E8) (fn := Try.f8) tabOk (GOk.look (l := []) trivial) Try.checked.mixed Try.func8 (by kernel_rfl) (by kernel_rfl) (by kernel_rfl) (by kernel_rfl) (by kernel_rfl) (by kernel_rfl) (by kernel_rfl)
  fun x y h => (raw8_eq x).trans h
theorem ok55 : FOk Try.prog 55 S55 := rec_ok (P := Try.prog) (f := 55) (ps := P55) (rs := R55) (s := F55s) Try.func55 (by kernel_rfl) (by kernel_rfl) (by kernel_rfl) (fun (G : T26D × Unit → Option (T78D × T26D × Unit)) hG => afun_ok (P := Try.prog) (E := E55r G) (f := 55) (fn := Try.f55) (ps := P55) (rs := R55) (F := F55s G) tabOk (GOk.look (l := [(54, [S54]), (55, [⟨P55, R55, G⟩])]) ⟨⟨ok54, trivial⟩, ⟨hG, trivial⟩, trivial⟩) Try.checked.mixed Try.func55 (by kernel_rfl) (by kernel_rfl) (by kernel_rfl) (by kernel_rfl) (by kernel_rfl) (by kernel_rfl) (by kernel_rfl)
  fun x y h => (raw55_eq G x).trans h) big
theorem ok47 : FOk Try.prog 47 S47 := rec_ok (P := Try.prog) (f := 47) (ps := P47) (rs := R47) (s := F47s) Try.func47 (by kernel_rfl) (by kernel_rfl) (by kernel_rfl) (fun (G : T26D × Int × Unit → Option (T26D × Unit)) hG => afun_ok (P := Try.prog) (E := E47r G) (f := 47) (fn := Try.f47) (ps := P47) (rs := R47) (F := F47s G) tabOk (GOk.look (l := [(46, [S46]), (47, [⟨P47, R47, G⟩]), (54, [S54]), (55, [S55])]) ⟨⟨ok46, trivial⟩, ⟨hG, trivial⟩, ⟨ok54, trivial⟩, ⟨ok55, trivial⟩, trivial⟩) Try.checked.mixed Try.func47 (by kernel_rfl) (by kernel_rfl) (by kernel_rfl) (by kernel_rfl) (by kernel_rfl) (by kernel_rfl) (by kernel_rfl)
  fun x y h => (raw47_eq G x).trans h) big
theorem ok31 : FOk Try.prog 31 S31 := afun_ok (E := E31) (fn := Try.f31) tabOk (GOk.look (l := [(30, [S30]), (47, [S47])]) ⟨⟨ok30, trivial⟩, ⟨ok47, trivial⟩, trivial⟩) Try.checked.mixed Try.func31 (by kernel_rfl) (by kernel_rfl) (by kernel_rfl) (by kernel_rfl) (by kernel_rfl) (by kernel_rfl) (by kernel_rfl)
  fun x y h => (raw31_eq x).trans h
theorem ok10 : FOk Try.prog 10 S10 := afun_ok (E := E10) (fn := Try.f10) tabOk (GOk.look (l := [(30, [S30]), (31, [S31])]) ⟨⟨ok30, trivial⟩, ⟨ok31, trivial⟩, trivial⟩) Try.checked.mixed Try.func10 (by kernel_rfl) (by kernel_rfl) (by kernel_rfl) (by kernel_rfl) (by kernel_rfl) (by kernel_rfl) (by kernel_rfl)
  fun x y h => (raw10_eq x).trans h
theorem ok12 : FOk Try.prog 12 S12 := afun_ok (E := E12) (fn := Try.f12) tabOk (GOk.look (l := [(30, [S30]), (34, [S34]), (35, [S35])]) ⟨⟨ok30, trivial⟩, ⟨ok34, trivial⟩, ⟨ok35, trivial⟩, trivial⟩) Try.checked.mixed Try.func12 (by kernel_rfl) (by kernel_rfl) (by kernel_rfl) (by kernel_rfl) (by kernel_rfl) (by kernel_rfl) (by kernel_rfl)
  fun x y h => (raw12_eq x).trans h
theorem ok16 : FOk Try.prog 16 S16 := afun_ok (E := E16) (fn := Try.f16) tabOk (GOk.look (l := [(34, [S34]), (35, [S35]), (36, [S36]), (42, [S42])]) ⟨⟨ok34, trivial⟩, ⟨ok35, trivial⟩, ⟨ok36, trivial⟩, ⟨ok42, trivial⟩, trivial⟩) Try.checked.mixed Try.func16 (by kernel_rfl) (by kernel_rfl) (by kernel_rfl) (by kernel_rfl) (by kernel_rfl) (by kernel_rfl) (by kernel_rfl)
  fun x y h => (raw16_eq x).trans h
theorem ok17 : FOk Try.prog 17 S17 := afun_ok (E := E17) (fn := Try.f17) tabOk (GOk.look (l := [(34, [S34]), (35, [S35]), (36, [S36])]) ⟨⟨ok34, trivial⟩, ⟨ok35, trivial⟩, ⟨ok36, trivial⟩, trivial⟩) Try.checked.mixed Try.func17 (by kernel_rfl) (by kernel_rfl) (by kernel_rfl) (by kernel_rfl) (by kernel_rfl) (by kernel_rfl) (by kernel_rfl)
  fun x y h => (raw17_eq x).trans h
theorem ok18 : FOk Try.prog 18 S18 := afun_ok (E := E18) (fn := Try.f18) tabOk (GOk.look (l := [(35, [S35]), (36, [S36]), (42, [S42])]) ⟨⟨ok35, trivial⟩, ⟨ok36, trivial⟩, ⟨ok42, trivial⟩, trivial⟩) Try.checked.mixed Try.func18 (by kernel_rfl) (by kernel_rfl) (by kernel_rfl) (by kernel_rfl) (by kernel_rfl) (by kernel_rfl) (by kernel_rfl)
  fun x y h => (raw18_eq x).trans h
theorem ok40 : FOk Try.prog 40 S40 := afun_ok (E := E40) (fn := Try.f40) tabOk (GOk.look (l := []) trivial) Try.checked.mixed Try.func40 (by kernel_rfl) (by kernel_rfl) (by kernel_rfl) (by kernel_rfl) (by kernel_rfl) (by kernel_rfl) (by kernel_rfl)
  fun x y h => (raw40_eq x).trans h
theorem ok21 : FOk Try.prog 21 S21 := afun_ok (E := E21) (fn := Try.f21) tabOk (GOk.look (l := [(40, [S40])]) ⟨⟨ok40, trivial⟩, trivial⟩) Try.checked.mixed Try.func21 (by kernel_rfl) (by kernel_rfl) (by kernel_rfl) (by kernel_rfl) (by kernel_rfl) (by kernel_rfl) (by kernel_rfl)
  fun x y h => (raw21_eq x).trans h
theorem ok41 : FOk Try.prog 41 S41 := afun_ok (E := E41) (fn := Try.f41) tabOk (GOk.look (l := []) trivial) Try.checked.mixed Try.func41 (by kernel_rfl) (by kernel_rfl) (by kernel_rfl) (by kernel_rfl) (by kernel_rfl) (by kernel_rfl) (by kernel_rfl)
  fun x y h => (raw41_eq x).trans h
theorem ok22 : FOk Try.prog 22 S22 := afun_ok (E := E22) (fn := Try.f22) tabOk (GOk.look (l := [(40, [S40]), (41, [S41])]) ⟨⟨ok40, trivial⟩, ⟨ok41, trivial⟩, trivial⟩) Try.checked.mixed Try.func22 (by kernel_rfl) (by kernel_rfl) (by kernel_rfl) (by kernel_rfl) (by kernel_rfl) (by kernel_rfl) (by kernel_rfl)
  fun x y h => (raw22_eq x).trans h
theorem ok43 : FOk Try.prog 43 S43 := afun_ok (E := E43) (fn := Try.f43) tabOk (GOk.look (l := [(40, [S40])]) ⟨⟨ok40, trivial⟩, trivial⟩) Try.checked.mixed Try.func43 (by kernel_rfl) (by kernel_rfl) (by kernel_rfl) (by kernel_rfl) (by kernel_rfl) (by kernel_rfl) (by kernel_rfl)
  fun x y h => (raw43_eq x).trans h
theorem ok44 : FOk Try.prog 44 S44 := afun_ok (E := E44) (fn := Try.f44) tabOk (GOk.look (l := []) trivial) Try.checked.mixed Try.func44 (by kernel_rfl) (by kernel_rfl) (by kernel_rfl) (by kernel_rfl) (by kernel_rfl) (by kernel_rfl) (by kernel_rfl)
  fun x y h => (raw44_eq x).trans h
theorem ok45 : FOk Try.prog 45 S45 := afun_ok (E := E45) (fn := Try.f45) tabOk (GOk.look (l := []) trivial) Try.checked.mixed Try.func45 (by kernel_rfl) (by kernel_rfl) (by kernel_rfl) (by kernel_rfl) (by kernel_rfl) (by kernel_rfl) (by kernel_rfl)
  fun x y h => (raw45_eq x).trans h
theorem ok23 : FOk Try.prog 23 S23 := afun_ok (E := E23) (fn := Try.f23) tabOk (GOk.look (l := [(43, [S43]), (44, [S44]), (45, [S45])]) ⟨⟨ok43, trivial⟩, ⟨ok44, trivial⟩, ⟨ok45, trivial⟩, trivial⟩) Try.checked.mixed Try.func23 (by kernel_rfl) (by kernel_rfl) (by kernel_rfl) (by kernel_rfl) (by kernel_rfl) (by kernel_rfl) (by kernel_rfl)
  fun x y h => (raw23_eq x).trans h
theorem ok24 : FOk Try.prog 24 S24 := afun_ok (E := E24) (fn := Try.f24) tabOk (GOk.look (l := [(40, [S40]), (44, [S44]), (45, [S45])]) ⟨⟨ok40, trivial⟩, ⟨ok44, trivial⟩, ⟨ok45, trivial⟩, trivial⟩) Try.checked.mixed Try.func24 (by kernel_rfl) (by kernel_rfl) (by kernel_rfl) (by kernel_rfl) (by kernel_rfl) (by kernel_rfl) (by kernel_rfl)
  fun x y h => (raw24_eq x).trans h
theorem ok25 : FOk Try.prog 25 S25 := afun_ok (E := E25) (fn := Try.f25) tabOk (GOk.look (l := []) trivial) Try.checked.mixed Try.func25 (by kernel_rfl) (by kernel_rfl) (by kernel_rfl) (by kernel_rfl) (by kernel_rfl) (by kernel_rfl) (by kernel_rfl)
  fun x y h => (raw25_eq x).trans h
theorem ok26 : FOk Try.prog 26 S26 := afun_ok (E := E26) (fn := Try.f26) tabOk (GOk.look (l := [(11, [S11]), (31, [S31]), (35, [S35]), (36, [S36])]) ⟨⟨ok11, trivial⟩, ⟨ok31, trivial⟩, ⟨ok35, trivial⟩, ⟨ok36, trivial⟩, trivial⟩) Try.checked.mixed Try.func26 (by kernel_rfl) (by kernel_rfl) (by kernel_rfl) (by kernel_rfl) (by kernel_rfl) (by kernel_rfl) (by kernel_rfl)
  fun x y h => (raw26_eq x).trans h
theorem ok27 : FOk Try.prog 27 S27 := afun_ok (E := E27) (fn := Try.f27) tabOk (GOk.look (l := [(40, [S40]), (43, [S43]), (44, [S44]), (45, [S45])]) ⟨⟨ok40, trivial⟩, ⟨ok43, trivial⟩, ⟨ok44, trivial⟩, ⟨ok45, trivial⟩, trivial⟩) Try.checked.mixed Try.func27 (by kernel_rfl) (by kernel_rfl) (by kernel_rfl) (by kernel_rfl) (by kernel_rfl) (by kernel_rfl) (by kernel_rfl)
  fun x y h => (raw27_eq x).trans h
theorem ok28 : FOk Try.prog 28 S28 := afun_ok (E := E28) (fn := Try.f28) tabOk (GOk.look (l := [(32, [S32]), (34, [S34])]) ⟨⟨ok32, trivial⟩, ⟨ok34, trivial⟩, trivial⟩) Try.checked.mixed Try.func28 (by kernel_rfl) (by kernel_rfl) (by kernel_rfl) (by kernel_rfl) (by kernel_rfl) (by kernel_rfl) (by kernel_rfl)
  fun x y h => (raw28_eq x).trans h
theorem ok29 : FOk Try.prog 29 S29 := afun_ok (E := E29) (fn := Try.f29) tabOk (GOk.look (l := [(43, [S43]), (45, [S45])]) ⟨⟨ok43, trivial⟩, ⟨ok45, trivial⟩, trivial⟩) Try.checked.mixed Try.func29 (by kernel_rfl) (by kernel_rfl) (by kernel_rfl) (by kernel_rfl) (by kernel_rfl) (by kernel_rfl) (by kernel_rfl)
  fun x y h => (raw29_eq x).trans h
theorem ok9 : FOk Try.prog 9 S9 := afun_ok (E := E9) (fn := Try.f9) tabOk (GOk.look (l := [(10, [S10]), (11, [S11]), (12, [S12]), (16, [S16]), (17, [S17]), (18, [S18]), (21, [S21]), (22, [S22]), (23, [S23]), (24, [S24]), (25, [S25]), (26, [S26]), (27, [S27]), (28, [S28]), (29, [S29])]) ⟨⟨ok10, trivial⟩, ⟨ok11, trivial⟩, ⟨ok12, trivial⟩, ⟨ok16, trivial⟩, ⟨ok17, trivial⟩, ⟨ok18, trivial⟩, ⟨ok21, trivial⟩, ⟨ok22, trivial⟩, ⟨ok23, trivial⟩, ⟨ok24, trivial⟩, ⟨ok25, trivial⟩, ⟨ok26, trivial⟩, ⟨ok27, trivial⟩, ⟨ok28, trivial⟩, ⟨ok29, trivial⟩, trivial⟩) Try.checked.mixed Try.func9 (by kernel_rfl) (by kernel_rfl) (by kernel_rfl) (by kernel_rfl) (by kernel_rfl) (by kernel_rfl) (by kernel_rfl)
  fun x y h => (raw9_eq x).trans h
theorem ok13 : FOk Try.prog 13 S13 := afun_ok (E := E13) (fn := Try.f13) tabOk (GOk.look (l := []) trivial) Try.checked.mixed Try.func13 (by kernel_rfl) (by kernel_rfl) (by kernel_rfl) (by kernel_rfl) (by kernel_rfl) (by kernel_rfl) (by kernel_rfl)
  fun x y h => (raw13_eq x).trans h
theorem ok3 : FOk Try.prog 3 S3 := afun_ok (E := E3) (fn := Try.f3) tabOk (GOk.look (l := [(7, [S7]), (8, [S8]), (9, [S9]), (10, [S10]), (11, [S11]), (12, [S12]), (13, [S13]), (14, [S14])]) ⟨⟨ok7, trivial⟩, ⟨ok8, trivial⟩, ⟨ok9, trivial⟩, ⟨ok10, trivial⟩, ⟨ok11, trivial⟩, ⟨ok12, trivial⟩, ⟨ok13, trivial⟩, ⟨ok14, trivial⟩, trivial⟩) Try.checked.mixed Try.func3 (by kernel_rfl) (by kernel_rfl) (by kernel_rfl) (by kernel_rfl) (by kernel_rfl) (by kernel_rfl) (by kernel_rfl)
  fun x y h => (raw3_eq x).trans h
theorem ok20 : FOk Try.prog 20 S20 := afun_ok (E := E20) (fn := Try.f20) tabOk (GOk.look (l := [(30, [S30])]) ⟨⟨ok30, trivial⟩, trivial⟩) Try.checked.mixed Try.func20 (by kernel_rfl) (by kernel_rfl) (by kernel_rfl) (by kernel_rfl) (by kernel_rfl) (by kernel_rfl) (by kernel_rfl)
  fun x y h => (raw20_eq x).trans h
theorem ok37 : FOk Try.prog 37 S37 := afun_ok (E := E37) (fn := Try.f37) tabOk (GOk.look (l := []) trivial) Try.checked.mixed Try.func37 (by kernel_rfl) (by kernel_rfl) (by kernel_rfl) (by kernel_rfl) (by kernel_rfl) (by kernel_rfl) (by kernel_rfl)
  fun x y h => (raw37_eq x).trans h
theorem ok38 : FOk Try.prog 38 S38 := afun_ok (E := E38) (fn := Try.f38) tabOk (GOk.look (l := [(40, [S40]), (41, [S41])]) ⟨⟨ok40, trivial⟩, ⟨ok41, trivial⟩, trivial⟩) Try.checked.mixed Try.func38 (by kernel_rfl) (by kernel_rfl) (by kernel_rfl) (by kernel_rfl) (by kernel_rfl) (by kernel_rfl) (by kernel_rfl)
  fun x y h => (raw38_eq x).trans h
theorem ok39 : FOk Try.prog 39 S39 := afun_ok (E := E39) (fn := Try.f39) tabOk (GOk.look (l := [(40, [S40])]) ⟨⟨ok40, trivial⟩, trivial⟩) Try.checked.mixed Try.func39 (by kernel_rfl) (by kernel_rfl) (by kernel_rfl) (by kernel_rfl) (by kernel_rfl) (by kernel_rfl) (by kernel_rfl)
  fun x y h => (raw39_eq x).trans h
theorem ok15 : FOk Try.prog 15 S15 := afun_ok (E := E15) (fn := Try.f15) tabOk (GOk.look (l := [(14, [S14]), (18, [S18]), (19, [S19]), (20, [S20]), (37, [S37]), (38, [S38]), (39, [S39]), (40, [S40]), (41, [S41])]) ⟨⟨ok14, trivial⟩, ⟨ok18, trivial⟩, ⟨ok19, trivial⟩, ⟨ok20, trivial⟩, ⟨ok37, trivial⟩, ⟨ok38, trivial⟩, ⟨ok39, trivial⟩, ⟨ok40, trivial⟩, ⟨ok41, trivial⟩, trivial⟩) Try.checked.mixed Try.func15 (by kernel_rfl) (by kernel_rfl) (by kernel_rfl) (by kernel_rfl) (by kernel_rfl) (by kernel_rfl) (by kernel_rfl)
  fun x y h => (raw15_eq x).trans h
theorem ok4 : FOk Try.prog 4 S4 := afun_ok (E := E4) (fn := Try.f4) tabOk (GOk.look (l := [(7, [S7]), (8, [S8]), (9, [S9]), (15, [S15])]) ⟨⟨ok7, trivial⟩, ⟨ok8, trivial⟩, ⟨ok9, trivial⟩, ⟨ok15, trivial⟩, trivial⟩) Try.checked.mixed Try.func4 (by kernel_rfl) (by kernel_rfl) (by kernel_rfl) (by kernel_rfl) (by kernel_rfl) (by kernel_rfl) (by kernel_rfl)
  fun x y h => (raw4_eq x).trans h
theorem ok5 : FOk Try.prog 5 S5 := afun_ok (E := E5) (fn := Try.f5) tabOk (GOk.look (l := [(7, [S7]), (8, [S8]), (9, [S9]), (14, [S14]), (15, [S15]), (16, [S16]), (17, [S17]), (18, [S18]), (19, [S19]), (20, [S20]), (21, [S21]), (22, [S22])]) ⟨⟨ok7, trivial⟩, ⟨ok8, trivial⟩, ⟨ok9, trivial⟩, ⟨ok14, trivial⟩, ⟨ok15, trivial⟩, ⟨ok16, trivial⟩, ⟨ok17, trivial⟩, ⟨ok18, trivial⟩, ⟨ok19, trivial⟩, ⟨ok20, trivial⟩, ⟨ok21, trivial⟩, ⟨ok22, trivial⟩, trivial⟩) Try.checked.mixed Try.func5 (by kernel_rfl) (by kernel_rfl) (by kernel_rfl) (by kernel_rfl) (by kernel_rfl) (by kernel_rfl) (by kernel_rfl)
  fun x y h => (raw5_eq x).trans h
theorem ok6 : FOk Try.prog 6 S6 := afun_ok (E := E6) (fn := Try.f6) tabOk (GOk.look (l := [(7, [S7]), (8, [S8]), (9, [S9]), (15, [S15])]) ⟨⟨ok7, trivial⟩, ⟨ok8, trivial⟩, ⟨ok9, trivial⟩, ⟨ok15, trivial⟩, trivial⟩) Try.checked.mixed Try.func6 (by kernel_rfl) (by kernel_rfl) (by kernel_rfl) (by kernel_rfl) (by kernel_rfl) (by kernel_rfl) (by kernel_rfl)
  fun x y h => (raw6_eq x).trans h
end Go.Proofs.Ytmgniagajmfhaaa
