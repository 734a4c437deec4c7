/-
  Order: by a program of the bench (seat.py).
-/
import Derived.Test.YtgbmnillcdjdeaaOrderRaw
namespace Go.Proofs.Ytgbmnillcdjdeaa
open Go.Sx Go
theorem ok62 : FOk Try.prog 62 S62 := afun_ok (E := E62) (fn := Try.f62) tabOk (GOk.look (l := []) trivial) Try.checked.mixed Try.func62 (by kernel_rfl) (by kernel_rfl) (by kernel_rfl) (by kernel_rfl) (by kernel_rfl) (by kernel_rfl) (by kernel_rfl)
  fun x y h => (raw62_eq x).trans h
theorem ok48 : FOk Try.prog 48 S48 := afun_ok (E := E48) (fn := Try.f48) tabOk (GOk.look (l := [(62, [S62])]) ⟨⟨ok62, trivial⟩, trivial⟩) Try.checked.mixed Try.func48 (by kernel_rfl) (by kernel_rfl) (by kernel_rfl) (by kernel_rfl) (by kernel_rfl) (by kernel_rfl) (by kernel_rfl)
  fun x y h => (raw48_eq x).trans h
theorem ok45 : FOk Try.prog 45 S45 := afun_ok (E := E45) (fn := Try.f45) tabOk (GOk.look (l := []) trivial) Try.checked.mixed Try.func45 (by kernel_rfl) (by kernel_rfl) (by kernel_rfl) (by kernel_rfl) (by kernel_rfl) (by kernel_rfl) (by kernel_rfl)
  fun x y h => (raw45_eq x).trans h
theorem ok67 : FOk Try.prog 67 S67 := afun_ok (E := E67) (fn := Try.f67) tabOk (GOk.look (l := []) trivial) Try.checked.mixed Try.func67 (by kernel_rfl) (by kernel_rfl) (by kernel_rfl) (by kernel_rfl) (by kernel_rfl) (by kernel_rfl) (by kernel_rfl)
  fun x y h => (raw67_eq x).trans h
theorem ok55 : FOk Try.prog 55 S55 := afun_ok (E := E55) (fn := Try.f55) tabOk (GOk.look (l := [(45, [S45]), (67, [S67])]) ⟨⟨ok45, trivial⟩, ⟨ok67, trivial⟩, trivial⟩) Try.checked.mixed Try.func55 (by kernel_rfl) (by kernel_rfl) (by kernel_rfl) (by kernel_rfl) (by kernel_rfl) (by kernel_rfl) (by kernel_rfl)
  fun x y h => (raw55_eq x).trans h
theorem ok56 : FOk Try.prog 56 S56 := afun_ok (E := E56) (fn := Try.f56) tabOk (GOk.look (l := [(55, [S55]), (67, [S67])]) ⟨⟨ok55, trivial⟩, ⟨ok67, trivial⟩, trivial⟩) Try.checked.mixed Try.func56 (by kernel_rfl) (by kernel_rfl) (by kernel_rfl) (by kernel_rfl) (by kernel_rfl) (by kernel_rfl) (by kernel_rfl)
  fun x y h => (raw56_eq x).trans h
theorem ok34 : FOk Try.prog 34 S34 := rec_ok (P := Try.prog) (f := 34) (ps := P34) (rs := R34) (s := F34s) Try.func34 (by kernel_rfl) (by kernel_rfl) (by kernel_rfl) (fun (G : T24D × T31D × Unit → Option (T24D × Unit)) hG => afun_ok (P := Try.prog) (E := E34r G) (f := 34) (fn := Try.f34) (ps := P34) (rs := R34) (F := F34s G) tabOk (GOk.look (l := [(34, [⟨P34, R34, G⟩]), (48, [S48]), (55, [S55]), (56, [S56])]) ⟨⟨hG, trivial⟩, ⟨ok48, trivial⟩, ⟨ok55, trivial⟩, ⟨ok56, trivial⟩, trivial⟩) Try.checked.mixed Try.func34 (by kernel_rfl) (by kernel_rfl) (by kernel_rfl) (by kernel_rfl) (by kernel_rfl) (by kernel_rfl) (by kernel_rfl)
  fun x y h => (raw34_eq G x).trans h) big
theorem ok10 : FOk Try.prog 10 S10 := afun_ok (E := E10) (fn := Try.f10) tabOk (GOk.look (l := [(34, [S34])]) ⟨⟨ok34, trivial⟩, trivial⟩) Try.checked.mixed Try.func10 (by kernel_rfl) (by kernel_rfl) (by kernel_rfl) (by kernel_rfl) (by kernel_rfl) (by kernel_rfl) (by kernel_rfl)
  fun x y h => (raw10_eq x).trans h
theorem ok21 : FOk Try.prog 21 S21 := afun_ok (E := E21) (fn := Try.f21) tabOk (GOk.look (l := [(45, [S45])]) ⟨⟨ok45, trivial⟩, trivial⟩) Try.checked.mixed Try.func21 (by kernel_rfl) (by kernel_rfl) (by kernel_rfl) (by kernel_rfl) (by kernel_rfl) (by kernel_rfl) (by kernel_rfl)
  fun x y h => (raw21_eq x).trans h
theorem ok30 : FOk Try.prog 30 S30 := afun_ok (E := E30) (fn := Try.f30) tabOk (GOk.look (l := [(48, [S48])]) ⟨⟨ok48, trivial⟩, trivial⟩) Try.checked.mixed Try.func30 (by kernel_rfl) (by kernel_rfl) (by kernel_rfl) (by kernel_rfl) (by kernel_rfl) (by kernel_rfl) (by kernel_rfl)
  fun x y h => (raw30_eq x).trans h
theorem ok9 : FOk Try.prog 9 S9 := afun_ok (E := E9) (fn := Try.f9) tabOk (GOk.look (l := [(10, [S10]), (21, [S21]), (30, [S30])]) ⟨⟨ok10, trivial⟩, ⟨ok21, trivial⟩, ⟨ok30, trivial⟩, trivial⟩) Try.checked.mixed Try.func9 (by kernel_rfl) (by kernel_rfl) (by kernel_rfl) (by kernel_rfl) (by kernel_rfl) (by kernel_rfl) (by kernel_rfl)
  fun x y h => (raw9_eq x).trans h
theorem ok36 : FOk Try.prog 36 S36 := afun_ok (E := E36) (fn := Try.f36) tabOk (GOk.look (l := []) trivial) Try.checked.mixed Try.func36 (by kernel_rfl) (by kernel_rfl) (by kernel_rfl) (by kernel_rfl) (by kernel_rfl) (by kernel_rfl) (by kernel_rfl)
  fun x y h => (raw36_eq x).trans h
theorem ok36a : FOk Try.prog 36 S36a := afun_ok (E := E36a) (fn := Try.f36) tabOk (GOk.look (l := []) trivial) Try.checked.mixed Try.func36 (by kernel_rfl) (by kernel_rfl) (by kernel_rfl) (by kernel_rfl) (by kernel_rfl) (by kernel_rfl) (by kernel_rfl)
  fun x y h => (raw36a_eq x).trans h
theorem ok35a : FOk Try.prog 35 S35a := rec_ok (P := Try.prog) (f := 35) (ps := P35a) (rs := R35a) (s := F35as) Try.func35 (by kernel_rfl) (by kernel_rfl) (by kernel_rfl) (fun (G : T24D × (List T31D × Unit) × Unit → Option ((List T31D × Unit) × Unit)) hG => afun_ok (P := Try.prog) (E := E35ar G) (f := 35) (fn := Try.f35) (ps := P35a) (rs := R35a) (F := F35as G) tabOk (GOk.look (l := [(35, [⟨P35a, R35a, G⟩]), (36, [S36, S36a])]) ⟨⟨hG, trivial⟩, ⟨ok36, ok36a, trivial⟩, trivial⟩) Try.checked.mixed Try.func35 (by kernel_rfl) (by kernel_rfl) (by kernel_rfl) (by kernel_rfl) (by kernel_rfl) (by kernel_rfl) (by kernel_rfl)
  fun x y h => (raw35a_eq G x).trans h) big
theorem ok11 : FOk Try.prog 11 S11 := afun_ok (E := E11) (fn := Try.f11) tabOk (GOk.look (l := [(35, [S35a]), (36, [S36, S36a])]) ⟨⟨ok35a, trivial⟩, ⟨ok36, ok36a, trivial⟩, trivial⟩) Try.checked.mixed Try.func11 (by kernel_rfl) (by kernel_rfl) (by kernel_rfl) (by kernel_rfl) (by kernel_rfl) (by kernel_rfl) (by kernel_rfl)
  fun x y h => (raw11_eq x).trans h
theorem ok3 : FOk Try.prog 3 S3 := afun_ok (E := E3) (fn := Try.f3) tabOk (GOk.look (l := [(9, [S9]), (10, [S10]), (11, [S11])]) ⟨⟨ok9, trivial⟩, ⟨ok10, trivial⟩, ⟨ok11, trivial⟩, trivial⟩) Try.checked.mixed Try.func3 (by kernel_rfl) (by kernel_rfl) (by kernel_rfl) (by kernel_rfl) (by kernel_rfl) (by kernel_rfl) (by kernel_rfl)
  fun x y h => (raw3_eq x).trans h
theorem ok40 : FOk Try.prog 40 S40 := afun_ok (E := E40) (fn := Try.f40) tabOk (GOk.look (l := []) trivial) Try.checked.mixed Try.func40 (by kernel_rfl) (by kernel_rfl) (by kernel_rfl) (by kernel_rfl) (by kernel_rfl) (by kernel_rfl) (by kernel_rfl)
  fun x y h => (raw40_eq x).trans h
theorem ok41 : FOk Try.prog 41 S41 := afun_ok (E := E41) (fn := Try.f41) tabOk (GOk.look (l := []) trivial) Try.checked.mixed Try.func41 (by kernel_rfl) (by kernel_rfl) (by kernel_rfl) (by kernel_rfl) (by kernel_rfl) (by kernel_rfl) (by kernel_rfl)
  fun x y h => (raw41_eq x).trans h
theorem ok57 : FOk Try.prog 57 S57 := afun_ok (E := E57) (fn := Try.f57) tabOk (GOk.look (l := [(40, [S40]), (41, [S41])]) ⟨⟨ok40, trivial⟩, ⟨ok41, trivial⟩, trivial⟩) Try.checked.mixed Try.func57 (by kernel_rfl) (by kernel_rfl) (by kernel_rfl) (by kernel_rfl) (by kernel_rfl) (by kernel_rfl) (by kernel_rfl)
  fun x y h => (raw57_eq x).trans h
theorem ok68 : FOk Try.prog 68 S68 := afun_ok (E := E68) (fn := Try.f68) tabOk (GOk.look (l := []) trivial) Try.checked.mixed Try.func68 (by kernel_rfl) (by kernel_rfl) (by kernel_rfl) (by kernel_rfl) (by kernel_rfl) (by kernel_rfl) (by kernel_rfl)
  fun x y h => (raw68_eq x).trans h
theorem ok58 : FOk Try.prog 58 S58 := afun_ok (E := E58) (fn := Try.f58) tabOk (GOk.look (l := [(68, [S68])]) ⟨⟨ok68, trivial⟩, trivial⟩) Try.checked.mixed Try.func58 (by kernel_rfl) (by kernel_rfl) (by kernel_rfl) (by kernel_rfl) (by kernel_rfl) (by kernel_rfl) (by kernel_rfl)
  fun x y h => (raw58_eq x).trans h
theorem ok59 : FOk Try.prog 59 S59 := afun_ok (E := E59) (fn := Try.f59) tabOk (GOk.look (l := [(40, [S40]), (57, [S57])]) ⟨⟨ok40, trivial⟩, ⟨ok57, trivial⟩, trivial⟩) Try.checked.mixed Try.func59 (by kernel_rfl) (by kernel_rfl) (by kernel_rfl) (by kernel_rfl) (by kernel_rfl) (by kernel_rfl) (by kernel_rfl)
  fun x y h => (raw59_eq x).trans h
theorem ok37 : FOk Try.prog 37 S37 := rec_ok (P := Try.prog) (f := 37) (ps := P37) (rs := R37) (s := F37s) Try.func37 (by kernel_rfl) (by kernel_rfl) (by kernel_rfl) (fun (G : T34D × T83D × Unit → Option (T34D × Unit)) hG => afun_ok (P := Try.prog) (E := E37r G) (f := 37) (fn := Try.f37) (ps := P37) (rs := R37) (F := F37s G) tabOk (GOk.look (l := [(37, [⟨P37, R37, G⟩]), (57, [S57]), (58, [S58]), (59, [S59])]) ⟨⟨hG, trivial⟩, ⟨ok57, trivial⟩, ⟨ok58, trivial⟩, ⟨ok59, trivial⟩, trivial⟩) Try.checked.mixed Try.func37 (by kernel_rfl) (by kernel_rfl) (by kernel_rfl) (by kernel_rfl) (by kernel_rfl) (by kernel_rfl) (by kernel_rfl)
  fun x y h => (raw37_eq G x).trans h) big
theorem ok12 : FOk Try.prog 12 S12 := afun_ok (E := E12) (fn := Try.f12) tabOk (GOk.look (l := [(37, [S37])]) ⟨⟨ok37, trivial⟩, trivial⟩) Try.checked.mixed Try.func12 (by kernel_rfl) (by kernel_rfl) (by kernel_rfl) (by kernel_rfl) (by kernel_rfl) (by kernel_rfl) (by kernel_rfl)
  fun x y h => (raw12_eq x).trans h
theorem ok38 : FOk Try.prog 38 S38 := afun_ok (E := E38) (fn := Try.f38) tabOk (GOk.look (l := [(58, [S58])]) ⟨⟨ok58, trivial⟩, trivial⟩) Try.checked.mixed Try.func38 (by kernel_rfl) (by kernel_rfl) (by kernel_rfl) (by kernel_rfl) (by kernel_rfl) (by kernel_rfl) (by kernel_rfl)
  fun x y h => (raw38_eq x).trans h
theorem ok60 : FOk Try.prog 60 S60 := rec_ok (P := Try.prog) (f := 60) (ps := P60) (rs := R60) (s := F60s) Try.func60 (by kernel_rfl) (by kernel_rfl) (by kernel_rfl) (fun (G : T34D × Unit → Option (T83D × T34D × Unit)) hG => afun_ok (P := Try.prog) (E := E60r G) (f := 60) (fn := Try.f60) (ps := P60) (rs := R60) (F := F60s G) tabOk (GOk.look (l := [(59, [S59]), (60, [⟨P60, R60, G⟩])]) ⟨⟨ok59, trivial⟩, ⟨hG, trivial⟩, trivial⟩) Try.checked.mixed Try.func60 (by kernel_rfl) (by kernel_rfl) (by kernel_rfl) (by kernel_rfl) (by kernel_rfl) (by kernel_rfl) (by kernel_rfl)
  fun x y h => (raw60_eq G x).trans h) big
theorem ok39 : FOk Try.prog 39 S39 := rec_ok (P := Try.prog) (f := 39) (ps := P39) (rs := R39) (s := F39s) Try.func39 (by kernel_rfl) (by kernel_rfl) (by kernel_rfl) (fun (G : T34D × Int × Unit → Option (T34D × Unit)) hG => afun_ok (P := Try.prog) (E := E39r G) (f := 39) (fn := Try.f39) (ps := P39) (rs := R39) (F := F39s G) tabOk (GOk.look (l := [(39, [⟨P39, R39, G⟩]), (58, [S58]), (59, [S59]), (60, [S60])]) ⟨⟨hG, trivial⟩, ⟨ok58, trivial⟩, ⟨ok59, trivial⟩, ⟨ok60, trivial⟩, trivial⟩) Try.checked.mixed Try.func39 (by kernel_rfl) (by kernel_rfl) (by kernel_rfl) (by kernel_rfl) (by kernel_rfl) (by kernel_rfl) (by kernel_rfl)
  fun x y h => (raw39_eq G x).trans h) big
theorem ok13 : FOk Try.prog 13 S13 := afun_ok (E := E13) (fn := Try.f13) tabOk (GOk.look (l := [(38, [S38]), (39, [S39])]) ⟨⟨ok38, trivial⟩, ⟨ok39, trivial⟩, trivial⟩) Try.checked.mixed Try.func13 (by kernel_rfl) (by kernel_rfl) (by kernel_rfl) (by kernel_rfl) (by kernel_rfl) (by kernel_rfl) (by kernel_rfl)
  fun x y h => (raw13_eq x).trans h
theorem ok14 : FOk Try.prog 14 S14 := afun_ok (E := E14) (fn := Try.f14) tabOk (GOk.look (l := [(40, [S40])]) ⟨⟨ok40, trivial⟩, trivial⟩) Try.checked.mixed Try.func14 (by kernel_rfl) (by kernel_rfl) (by kernel_rfl) (by kernel_rfl) (by kernel_rfl) (by kernel_rfl) (by kernel_rfl)
  fun x y h => (raw14_eq x).trans h
theorem ok15 : FOk Try.prog 15 S15 := afun_ok (E := E15) (fn := Try.f15) tabOk (GOk.look (l := []) trivial) Try.checked.mixed Try.func15 (by kernel_rfl) (by kernel_rfl) (by kernel_rfl) (by kernel_rfl) (by kernel_rfl) (by kernel_rfl) (by kernel_rfl)
  fun x y h => (raw15_eq x).trans h
theorem ok16 : FOk Try.prog 16 S16 := afun_ok (E := E16) (fn := Try.f16) tabOk (GOk.look (l := [(41, [S41])]) ⟨⟨ok41, trivial⟩, trivial⟩) Try.checked.mixed Try.func16 (by kernel_rfl) (by kernel_rfl) (by kernel_rfl) (by kernel_rfl) (by kernel_rfl) (by kernel_rfl) (by kernel_rfl)
  fun x y h => (raw16_eq x).trans h
theorem ok4 : FOk Try.prog 4 S4 := afun_ok (E := E4) (fn := Try.f4) tabOk (GOk.look (l := [(9, [S9]), (12, [S12]), (13, [S13]), (14, [S14]), (15, [S15]), (16, [S16])]) ⟨⟨ok9, trivial⟩, ⟨ok12, trivial⟩, ⟨ok13, trivial⟩, ⟨ok14, trivial⟩, ⟨ok15, trivial⟩, ⟨ok16, trivial⟩, trivial⟩) Try.checked.mixed Try.func4 (by kernel_rfl) (by kernel_rfl) (by kernel_rfl) (by kernel_rfl) (by kernel_rfl) (by kernel_rfl) (by kernel_rfl)
  fun x y h => (raw4_eq x).trans h
theorem ok17 : FOk Try.prog 17 S17 := afun_ok (E := E17) (fn := Try.f17) tabOk (GOk.look (l := []) trivial) Try.checked.mixed Try.func17 (by kernel_rfl) (by kernel_rfl) (by kernel_rfl) (by kernel_rfl) (by kernel_rfl) (by kernel_rfl) (by kernel_rfl)
  fun x y h => (raw17_eq x).trans h
theorem ok69 : FOk Try.prog 69 S69 := rec_ok (P := Try.prog) (f := 69) (ps := P69) (rs := R69) (s := F69s) Try.func69 (by kernel_rfl) (by kernel_rfl) (by kernel_rfl) (fun (G : T24D × Unit → Option (T31D × T24D × Unit)) hG => afun_ok (P := Try.prog) (E := E69r G) (f := 69) (fn := Try.f69) (ps := P69) (rs := R69) (F := F69s G) tabOk (GOk.look (l := [(56, [S56]), (69, [⟨P69, R69, G⟩])]) ⟨⟨ok56, trivial⟩, ⟨hG, trivial⟩, trivial⟩) Try.checked.mixed Try.func69 (by kernel_rfl) (by kernel_rfl) (by kernel_rfl) (by kernel_rfl) (by kernel_rfl) (by kernel_rfl) (by kernel_rfl)
  fun x y h => (raw69_eq G x).trans h) big
theorem ok61 : FOk Try.prog 61 S61 := rec_ok (P := Try.prog) (f := 61) (ps := P61) (rs := R61) (s := F61s) Try.func61 (by kernel_rfl) (by kernel_rfl) (by kernel_rfl) (fun (G : T24D × List UInt8 × Unit → Option (T24D × Unit)) hG => afun_ok (P := Try.prog) (E := E61r G) (f := 61) (fn := Try.f61) (ps := P61) (rs := R61) (F := F61s G) tabOk (GOk.look (l := [(48, [S48]), (56, [S56]), (61, [⟨P61, R61, G⟩]), (69, [S69])]) ⟨⟨ok48, trivial⟩, ⟨ok56, trivial⟩, ⟨hG, trivial⟩, ⟨ok69, trivial⟩, trivial⟩) Try.checked.mixed Try.func61 (by kernel_rfl) (by kernel_rfl) (by kernel_rfl) (by kernel_rfl) (by kernel_rfl) (by kernel_rfl) (by kernel_rfl)
  fun x y h => (raw61_eq G x).trans h) big
theorem ok42 : FOk Try.prog 42 S42 := afun_ok (E := E42) (fn := Try.f42) tabOk (GOk.look (l := [(30, [S30]), (61, [S61])]) ⟨⟨ok30, trivial⟩, ⟨ok61, trivial⟩, trivial⟩) Try.checked.mixed Try.func42 (by kernel_rfl) (by kernel_rfl) (by kernel_rfl) (by kernel_rfl) (by kernel_rfl) (by kernel_rfl) (by kernel_rfl)
  fun x y h => (raw42_eq x).trans h
theorem ok43 : FOk Try.prog 43 S43 := afun_ok (E := E43) (fn := Try.f43) tabOk (GOk.look (l := []) trivial) Try.checked.mixed Try.func43 (by kernel_rfl) (by kernel_rfl) (by kernel_rfl) (by kernel_rfl) (by kernel_rfl) (by kernel_rfl) (by kernel_rfl)
  fun x y h => (raw43_eq x).trans h
theorem ok32 : FOk Try.prog 32 S32 := afun_ok (E := E32) (fn := Try.f32) tabOk (GOk.look (l := []) trivial) Try.checked.mixed Try.func32 (by kernel_rfl) (by kernel_rfl) (by kernel_rfl) (by kernel_rfl) (by kernel_rfl) (by kernel_rfl) (by kernel_rfl)
  fun x y h => (raw32_eq x).trans h
theorem ok44 : FOk Try.prog 44 S44 := afun_ok (E := E44) (fn := Try.f44) tabOk (GOk.look (l := [(32, [S32])]) ⟨⟨ok32, trivial⟩, trivial⟩) Try.checked.mixed Try.func44 (by kernel_rfl) (by kernel_rfl) (by kernel_rfl) (by kernel_rfl) (by kernel_rfl) (by kernel_rfl) (by kernel_rfl)
  fun x y h => (raw44_eq x).trans h
theorem ok18 : FOk Try.prog 18 S18 := afun_ok (E := E18) (fn := Try.f18) tabOk (GOk.look (l := [(10, [S10]), (42, [S42]), (43, [S43]), (44, [S44])]) ⟨⟨ok10, trivial⟩, ⟨ok42, trivial⟩, ⟨ok43, trivial⟩, ⟨ok44, trivial⟩, trivial⟩) Try.checked.mixed Try.func18 (by kernel_rfl) (by kernel_rfl) (by kernel_rfl) (by kernel_rfl) (by kernel_rfl) (by kernel_rfl) (by kernel_rfl)
  fun x y h => (raw18_eq x).trans h
theorem ok19 : FOk Try.prog 19 S19 := afun_ok (E := E19) (fn := Try.f19) tabOk (GOk.look (l := []) trivial) Try.checked.mixed Try.func19 (by kernel_rfl) (by kernel_rfl) (by kernel_rfl) (by kernel_rfl) (by kernel_rfl) (by kernel_rfl) (by kernel_rfl)
  fun x y h => (raw19_eq x).trans h
theorem ok5 : FOk Try.prog 5 S5 := afun_ok (E := E5) (fn := Try.f5) tabOk (GOk.look (l := [(9, [S9]), (11, [S11]), (17, [S17]), (18, [S18]), (19, [S19])]) ⟨⟨ok9, trivial⟩, ⟨ok11, trivial⟩, ⟨ok17, trivial⟩, ⟨ok18, trivial⟩, ⟨ok19, trivial⟩, trivial⟩) Try.checked.mixed Try.func5 (by kernel_rfl) (by kernel_rfl) (by kernel_rfl) (by kernel_rfl) (by kernel_rfl) (by kernel_rfl) (by kernel_rfl)
  fun x y h => (raw5_eq x).trans h
theorem ok20 : FOk Try.prog 20 S20 := afun_ok (E := E20) (fn := Try.f20) tabOk (GOk.look (l := [(21, [S21]), (45, [S45])]) ⟨⟨ok21, trivial⟩, ⟨ok45, trivial⟩, trivial⟩) Try.checked.mixed Try.func20 (by kernel_rfl) (by kernel_rfl) (by kernel_rfl) (by kernel_rfl) (by kernel_rfl) (by kernel_rfl) (by kernel_rfl)
  fun x y h => (raw20_eq x).trans h
theorem ok47 : FOk Try.prog 47 S47 := afun_ok (E := E47) (fn := Try.f47) tabOk (GOk.look (l := []) trivial) Try.checked.mixed Try.func47 (by kernel_rfl) (by kernel_rfl) (by kernel_rfl) (by kernel_rfl) (by kernel_rfl) (by kernel_rfl) (by kernel_rfl)
  fun x y h => (raw47_eq x).trans h
theorem ok47a : FOk Try.prog 47 S47a := afun_ok (E := E47a) (fn := Try.f47) tabOk (GOk.look (l := []) trivial) Try.checked.mixed Try.func47 (by kernel_rfl) (by kernel_rfl) (by kernel_rfl) (by kernel_rfl) (by kernel_rfl) (by kernel_rfl) (by kernel_rfl)
  fun x y h => (raw47a_eq x).trans h
theorem ok46a : FOk Try.prog 46 S46a := rec_ok (P := Try.prog) (f := 46) (ps := P46a) (rs := R46a) (s := F46as) Try.func46 (by kernel_rfl) (by kernel_rfl) (by kernel_rfl) (fun (G : T24D × List UInt8 × List UInt8 × (List T31D × Unit) × Unit → Option ((List T31D × Unit) × Unit)) hG => afun_ok (P := Try.prog) (E := E46ar G) (f := 46) (fn := Try.f46) (ps := P46a) (rs := R46a) (F := F46as G) tabOk (GOk.look (l := [(46, [⟨P46a, R46a, G⟩]), (47, [S47, S47a]), (48, [S48])]) ⟨⟨hG, trivial⟩, ⟨ok47, ok47a, trivial⟩, ⟨ok48, trivial⟩, trivial⟩) Try.checked.mixed Try.func46 (by kernel_rfl) (by kernel_rfl) (by kernel_rfl) (by kernel_rfl) (by kernel_rfl) (by kernel_rfl) (by kernel_rfl)
  fun x y h => (raw46a_eq G x).trans h) big
theorem ok22 : FOk Try.prog 22 S22 := afun_ok (E := E22) (fn := Try.f22) tabOk (GOk.look (l := [(46, [S46a]), (47, [S47, S47a])]) ⟨⟨ok46a, trivial⟩, ⟨ok47, ok47a, trivial⟩, trivial⟩) Try.checked.mixed Try.func22 (by kernel_rfl) (by kernel_rfl) (by kernel_rfl) (by kernel_rfl) (by kernel_rfl) (by kernel_rfl) (by kernel_rfl)
  fun x y h => (raw22_eq x).trans h
theorem ok23 : FOk Try.prog 23 S23 := afun_ok (E := E23) (fn := Try.f23) tabOk (GOk.look (l := [(45, [S45]), (48, [S48])]) ⟨⟨ok45, trivial⟩, ⟨ok48, trivial⟩, trivial⟩) Try.checked.mixed Try.func23 (by kernel_rfl) (by kernel_rfl) (by kernel_rfl) (by kernel_rfl) (by kernel_rfl) (by kernel_rfl) (by kernel_rfl)
  fun x y h => (raw23_eq x).trans h
theorem ok6 : FOk Try.prog 6 S6 := afun_ok (E := E6) (fn := Try.f6) tabOk (GOk.look (l := [(9, [S9]), (10, [S10]), (20, [S20]), (21, [S21]), (22, [S22]), (23, [S23])]) ⟨⟨ok9, trivial⟩, ⟨ok10, trivial⟩, ⟨ok20, trivial⟩, ⟨ok21, trivial⟩, ⟨ok22, trivial⟩, ⟨ok23, trivial⟩, trivial⟩) Try.checked.mixed Try.func6 (by kernel_rfl) (by kernel_rfl) (by kernel_rfl) (by kernel_rfl) (by kernel_rfl) (by kernel_rfl) (by kernel_rfl)
  fun x y h => (raw6_eq x).trans h
theorem ok63 : FOk Try.prog 63 S63 := afun_ok (E := E63) (fn := Try.f63) tabOk (GOk.look (l := []) trivial) Try.checked.mixed Try.func63 (by kernel_rfl) (by kernel_rfl) (by kernel_rfl) (by kernel_rfl) (by kernel_rfl) (by kernel_rfl) (by kernel_rfl)
  fun x y h => (raw63_eq x).trans h
theorem ok49 : FOk Try.prog 49 S49 := afun_ok (E := E49) (fn := Try.f49) tabOk (GOk.look (l := [(63, [S63])]) ⟨⟨ok63, trivial⟩, trivial⟩) Try.checked.mixed Try.func49 (by kernel_rfl) (by kernel_rfl) (by kernel_rfl) (by kernel_rfl) (by kernel_rfl) (by kernel_rfl) (by kernel_rfl)
  fun x y h => (raw49_eq x).trans h
theorem ok24 : FOk Try.prog 24 S24 := afun_ok (E := E24) (fn := Try.f24) tabOk (GOk.look (l := [(49, [S49])]) ⟨⟨ok49, trivial⟩, trivial⟩) Try.checked.mixed Try.func24 (by kernel_rfl) (by kernel_rfl) (by kernel_rfl) (by kernel_rfl) (by kernel_rfl) (by kernel_rfl) (by kernel_rfl)
  fun x y h => (raw24_eq x).trans h
theorem ok53 : FOk Try.prog 53 S53 := afun_ok (E := E53) (fn := Try.f53) tabOk (GOk.look (l := []) trivial) Try.checked.mixed Try.func53 (by kernel_rfl) (by kernel_rfl) (by kernel_rfl) (by kernel_rfl) (by kernel_rfl) (by kernel_rfl) (by kernel_rfl)
  fun x y h => (raw53_eq x).trans h
theorem ok70 : FOk Try.prog 70 S70 := afun_ok (E := E70) (fn := Try.f70) tabOk (GOk.look (l := []) trivial) Try.checked.mixed Try.func70 (by kernel_rfl) (by kernel_rfl) (by kernel_rfl) (by kernel_rfl) (by kernel_rfl) (by kernel_rfl) (by kernel_rfl)
  fun x y h => (raw70_eq x).trans h
theorem ok64 : FOk Try.prog 64 S64 := afun_ok (E := E64) (fn := Try.f64) tabOk (GOk.look (l := [(53, [S53]), (70, [S70])]) ⟨⟨ok53, trivial⟩, ⟨ok70, trivial⟩, trivial⟩) Try.checked.mixed Try.func64 (by kernel_rfl) (by kernel_rfl) (by kernel_rfl) (by kernel_rfl) (by kernel_rfl) (by kernel_rfl) (by kernel_rfl)
  fun x y h => (raw64_eq x).trans h
theorem ok65 : FOk Try.prog 65 S65 := afun_ok (E := E65) (fn := Try.f65) tabOk (GOk.look (l := [(64, [S64]), (70, [S70])]) ⟨⟨ok64, trivial⟩, ⟨ok70, trivial⟩, trivial⟩) Try.checked.mixed Try.func65 (by kernel_rfl) (by kernel_rfl) (by kernel_rfl) (by kernel_rfl) (by kernel_rfl) (by kernel_rfl) (by kernel_rfl)
  fun x y h => (raw65_eq x).trans h
theorem ok50 : FOk Try.prog 50 S50 := rec_ok (P := Try.prog) (f := 50) (ps := P50) (rs := R50) (s := F50s) Try.func50 (by kernel_rfl) (by kernel_rfl) (by kernel_rfl) (fun (G : T57D × T66D × Unit → Option (T57D × Unit)) hG => afun_ok (P := Try.prog) (E := E50r G) (f := 50) (fn := Try.f50) (ps := P50) (rs := R50) (F := F50s G) tabOk (GOk.look (l := [(49, [S49]), (50, [⟨P50, R50, G⟩]), (64, [S64]), (65, [S65])]) ⟨⟨ok49, trivial⟩, ⟨hG, trivial⟩, ⟨ok64, trivial⟩, ⟨ok65, trivial⟩, trivial⟩) Try.checked.mixed Try.func50 (by kernel_rfl) (by kernel_rfl) (by kernel_rfl) (by kernel_rfl) (by kernel_rfl) (by kernel_rfl) (by kernel_rfl)
  fun x y h => (raw50_eq G x).trans h) big
theorem ok25 : FOk Try.prog 25 S25 := afun_ok (E := E25) (fn := Try.f25) tabOk (GOk.look (l := [(50, [S50])]) ⟨⟨ok50, trivial⟩, trivial⟩) Try.checked.mixed Try.func25 (by kernel_rfl) (by kernel_rfl) (by kernel_rfl) (by kernel_rfl) (by kernel_rfl) (by kernel_rfl) (by kernel_rfl)
  fun x y h => (raw25_eq x).trans h
theorem ok52 : FOk Try.prog 52 S52 := afun_ok (E := E52) (fn := Try.f52) tabOk (GOk.look (l := []) trivial) Try.checked.mixed Try.func52 (by kernel_rfl) (by kernel_rfl) (by kernel_rfl) (by kernel_rfl) (by kernel_rfl) (by kernel_rfl) (by kernel_rfl)
  fun x y h => (raw52_eq x).trans h
theorem ok52a : FOk Try.prog 52 S52a := afun_ok (E := E52a) (fn := Try.f52) tabOk (GOk.look (l := []) trivial) Try.checked.mixed Try.func52 (by kernel_rfl) (by kernel_rfl) (by kernel_rfl) (by kernel_rfl) (by kernel_rfl) (by kernel_rfl) (by kernel_rfl)
  fun x y h => (raw52a_eq x).trans h
theorem ok51a : FOk Try.prog 51 S51a := rec_ok (P := Try.prog) (f := 51) (ps := P51a) (rs := R51a) (s := F51as) Try.func51 (by kernel_rfl) (by kernel_rfl) (by kernel_rfl) (fun (G : T57D × (List T66D × Unit) × Unit → Option ((List T66D × Unit) × Unit)) hG => afun_ok (P := Try.prog) (E := E51ar G) (f := 51) (fn := Try.f51) (ps := P51a) (rs := R51a) (F := F51as G) tabOk (GOk.look (l := [(51, [⟨P51a, R51a, G⟩]), (52, [S52, S52a])]) ⟨⟨hG, trivial⟩, ⟨ok52, ok52a, trivial⟩, trivial⟩) Try.checked.mixed Try.func51 (by kernel_rfl) (by kernel_rfl) (by kernel_rfl) (by kernel_rfl) (by kernel_rfl) (by kernel_rfl) (by kernel_rfl)
  fun x y h => (raw51a_eq G x).trans h) big
theorem ok26 : FOk Try.prog 26 S26 := afun_ok (E := E26) (fn := Try.f26) tabOk (GOk.look (l := [(51, [S51a]), (52, [S52, S52a])]) ⟨⟨ok51a, trivial⟩, ⟨ok52, ok52a, trivial⟩, trivial⟩) Try.checked.mixed Try.func26 (by kernel_rfl) (by kernel_rfl) (by kernel_rfl) (by kernel_rfl) (by kernel_rfl) (by kernel_rfl) (by kernel_rfl)
  fun x y h => (raw26_eq x).trans h
theorem ok27 : FOk Try.prog 27 S27 := afun_ok (E := E27) (fn := Try.f27) tabOk (GOk.look (l := [(49, [S49]), (53, [S53])]) ⟨⟨ok49, trivial⟩, ⟨ok53, trivial⟩, trivial⟩) Try.checked.mixed Try.func27 (by kernel_rfl) (by kernel_rfl) (by kernel_rfl) (by kernel_rfl) (by kernel_rfl) (by kernel_rfl) (by kernel_rfl)
  fun x y h => (raw27_eq x).trans h
theorem ok66 : FOk Try.prog 66 S66 := rec_ok (P := Try.prog) (f := 66) (ps := P66) (rs := R66) (s := F66s) Try.func66 (by kernel_rfl) (by kernel_rfl) (by kernel_rfl) (fun (G : T57D × Unit → Option (T66D × T57D × Unit)) hG => afun_ok (P := Try.prog) (E := E66r G) (f := 66) (fn := Try.f66) (ps := P66) (rs := R66) (F := F66s G) tabOk (GOk.look (l := [(65, [S65]), (66, [⟨P66, R66, G⟩])]) ⟨⟨ok65, trivial⟩, ⟨hG, trivial⟩, trivial⟩) Try.checked.mixed Try.func66 (by kernel_rfl) (by kernel_rfl) (by kernel_rfl) (by kernel_rfl) (by kernel_rfl) (by kernel_rfl) (by kernel_rfl)
  fun x y h => (raw66_eq G x).trans h) big
theorem ok54 : FOk Try.prog 54 S54 := rec_ok (P := Try.prog) (f := 54) (ps := P54) (rs := R54) (s := F54s) Try.func54 (by kernel_rfl) (by kernel_rfl) (by kernel_rfl) (fun (G : T57D × Int × Unit → Option (T57D × Unit)) hG => afun_ok (P := Try.prog) (E := E54r G) (f := 54) (fn := Try.f54) (ps := P54) (rs := R54) (F := F54s G) tabOk (GOk.look (l := [(49, [S49]), (54, [⟨P54, R54, G⟩]), (65, [S65]), (66, [S66])]) ⟨⟨ok49, trivial⟩, ⟨hG, trivial⟩, ⟨ok65, trivial⟩, ⟨ok66, trivial⟩, trivial⟩) Try.checked.mixed Try.func54 (by kernel_rfl) (by kernel_rfl) (by kernel_rfl) (by kernel_rfl) (by kernel_rfl) (by kernel_rfl) (by kernel_rfl)
  fun x y h => (raw54_eq G x).trans h) big
theorem ok28 : FOk Try.prog 28 S28 := afun_ok (E := E28) (fn := Try.f28) tabOk (GOk.look (l := [(24, [S24]), (54, [S54])]) ⟨⟨ok24, trivial⟩, ⟨ok54, trivial⟩, trivial⟩) Try.checked.mixed Try.func28 (by kernel_rfl) (by kernel_rfl) (by kernel_rfl) (by kernel_rfl) (by kernel_rfl) (by kernel_rfl) (by kernel_rfl)
  fun x y h => (raw28_eq x).trans h
theorem ok29 : FOk Try.prog 29 S29 := afun_ok (E := E29) (fn := Try.f29) tabOk (GOk.look (l := [(53, [S53])]) ⟨⟨ok53, trivial⟩, trivial⟩) Try.checked.mixed Try.func29 (by kernel_rfl) (by kernel_rfl) (by kernel_rfl) (by kernel_rfl) (by kernel_rfl) (by kernel_rfl) (by kernel_rfl)
  fun x y h => (raw29_eq x).trans h
theorem ok7 : FOk Try.prog 7 S7 := afun_ok (E := E7) (fn := Try.f7) tabOk (GOk.look (l := [(9, [S9]), (24, [S24]), (25, [S25]), (26, [S26]), (27, [S27]), (28, [S28]), (29, [S29])]) ⟨⟨ok9, trivial⟩, ⟨ok24, trivial⟩, ⟨ok25, trivial⟩, ⟨ok26, trivial⟩, ⟨ok27, trivial⟩, ⟨ok28, trivial⟩, ⟨ok29, trivial⟩, trivial⟩) Try.checked.mixed Try.func7 (by kernel_rfl) (by kernel_rfl) (by kernel_rfl) (by kernel_rfl) (by kernel_rfl) (by kernel_rfl) (by kernel_rfl)
  fun x y h => (raw7_eq x).trans h
theorem ok31 : FOk Try.prog 31 S31 := afun_ok (E := E31) (fn := Try.f31) tabOk (GOk.look (l := []) trivial) Try.checked.mixed Try.func31 (by kernel_rfl) (by kernel_rfl) (by kernel_rfl) (by kernel_rfl) (by kernel_rfl) (by kernel_rfl) (by kernel_rfl)
  fun x y h => (raw31_eq x).trans h
theorem ok33 : FOk Try.prog 33 S33 := afun_ok (E := E33) (fn := Try.f33) tabOk (GOk.look (l := []) trivial) Try.checked.mixed Try.func33 (by kernel_rfl) (by kernel_rfl) (by kernel_rfl) (by kernel_rfl) (by kernel_rfl) (by kernel_rfl) (by kernel_rfl)
  fun x y h => (raw33_eq x).trans h
theorem ok8 : FOk Try.prog 8 S8 := afun_ok (E := E8) (fn := Try.f8) tabOk (GOk.look (l := [(9, [S9]), (11, [S11]), (17, [S17]), (18, [S18]), (19, [S19]), (20, [S20]), (21, [S21]), (22, [S22]), (23, [S23]), (30, [S30]), (31, [S31]), (32, [S32]), (33, [S33])]) ⟨⟨ok9, trivial⟩, ⟨ok11, trivial⟩, ⟨ok17, trivial⟩, ⟨ok18, trivial⟩, ⟨ok19, trivial⟩, ⟨ok20, trivial⟩, ⟨ok21, trivial⟩, ⟨ok22, trivial⟩, ⟨ok23, trivial⟩, ⟨ok30, trivial⟩, ⟨ok31, trivial⟩, ⟨ok32, trivial⟩, ⟨ok33, trivial⟩, trivial⟩) Try.checked.mixed Try.func8 (by kernel_rfl) (by kernel_rfl) (by kernel_rfl) (by kernel_rfl) (by kernel_rfl) (by kernel_rfl) (by kernel_rfl)
  fun x y h => (raw8_eq x).trans h
end Go.Proofs.Ytgbmnillcdjdeaa
