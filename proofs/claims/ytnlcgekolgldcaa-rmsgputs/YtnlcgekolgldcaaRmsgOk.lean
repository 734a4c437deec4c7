/-
  Rmsg: by a program of the bench (seat.py).
-/
import Derived.Test.YtnlcgekolgldcaaRmsgRaw
namespace Go.Proofs.Ytnlcgekolgldcaa
open Go.Sx Go
theorem ok35 : FOk Try.prog 35 S35 := afun_ok (E := E35) (fn := Try.f35) tabOk (GOk.look (l := []) trivial) Try.checked.mixed Try.func35 (by kernel_rfl) (by kernel_rfl) (by kernel_rfl) (by kernel_rfl) (by kernel_rfl) (by kernel_rfl) (by kernel_rfl)
  fun x y h => (raw35_eq x).trans h
theorem ok68 : FOk Try.prog 68 S68 := afun_ok (E := E68) (fn := Try.f68) tabOk (GOk.look (l := [(35, [S35])]) ⟨⟨ok35, trivial⟩, trivial⟩) Try.checked.mixed Try.func68 (by kernel_rfl) (by kernel_rfl) (by kernel_rfl) (by kernel_rfl) (by kernel_rfl) (by kernel_rfl) (by kernel_rfl)
  fun x y h => (raw68_eq x).trans h
theorem ok67a : FOk Try.prog 67 S67a := afun_ok (E := E67a) (fn := Try.f67) tabOk (GOk.look (l := [(68, [S68])]) ⟨⟨ok68, trivial⟩, trivial⟩) Try.checked.mixed Try.func67 (by kernel_rfl) (by kernel_rfl) (by kernel_rfl) (by kernel_rfl) (by kernel_rfl) (by kernel_rfl) (by kernel_rfl)
  fun x y h => (raw67a_eq x).trans h
theorem ok34 : FOk Try.prog 34 S34 := afun_ok (E := E34) (fn := Try.f34) tabOk (GOk.look (l := [(67, [S67a]), (68, [S68])]) ⟨⟨ok67a, trivial⟩, ⟨ok68, trivial⟩, trivial⟩) Try.checked.mixed Try.func34 (by kernel_rfl) (by kernel_rfl) (by kernel_rfl) (by kernel_rfl) (by kernel_rfl) (by kernel_rfl) (by kernel_rfl)
  fun x y h => (raw34_eq x).trans h
theorem ok12 : FOk Try.prog 12 S12 := afun_ok (E := E12) (fn := Try.f12) tabOk (GOk.look (l := [(34, [S34]), (35, [S35])]) ⟨⟨ok34, trivial⟩, ⟨ok35, trivial⟩, trivial⟩) Try.checked.mixed Try.func12 (by kernel_rfl) (by kernel_rfl) (by kernel_rfl) (by kernel_rfl) (by kernel_rfl) (by kernel_rfl) (by kernel_rfl)
  fun x y h => (raw12_eq x).trans h
theorem ok25 : FOk Try.prog 25 S25 := afun_ok (E := E25) (fn := Try.f25) tabOk (GOk.look (l := []) trivial) Try.checked.mixed Try.func25 (by kernel_rfl) (by kernel_rfl) (by kernel_rfl) (by kernel_rfl) (by kernel_rfl) (by kernel_rfl) (by kernel_rfl)
  fun x y h => (raw25_eq x).trans h
theorem ok26 : FOk Try.prog 26 S26 := afun_ok (E := E26) (fn := Try.f26) tabOk (GOk.look (l := []) trivial) Try.checked.mixed Try.func26 (by kernel_rfl) (by kernel_rfl) (by kernel_rfl) (by kernel_rfl) (by kernel_rfl) (by kernel_rfl) (by kernel_rfl)
  fun x y h => (raw26_eq x).trans h
theorem ok27 : FOk Try.prog 27 S27 := afun_ok (E := E27) (fn := Try.f27) tabOk (GOk.look (l := []) trivial) Try.checked.mixed Try.func27 (by kernel_rfl) (by kernel_rfl) (by kernel_rfl) (by kernel_rfl) (by kernel_rfl) (by kernel_rfl) (by kernel_rfl)
  fun x y h => (raw27_eq x).trans h
theorem ok64 : FOk Try.prog 64 S64 := afun_ok (E := E64) (fn := Try.f64) tabOk (GOk.look (l := []) trivial) Try.checked.mixed Try.func64 (by kernel_rfl) (by kernel_rfl) (by kernel_rfl) (by kernel_rfl) (by kernel_rfl) (by kernel_rfl) (by kernel_rfl)
  fun x y h => (raw64_eq x).trans h
theorem ok63 : FOk Try.prog 63 S63 := afun_ok (E := E63) (fn := Try.f63) tabOk (GOk.look (l := [(64, [S64])]) ⟨⟨ok64, trivial⟩, trivial⟩) Try.checked.mixed Try.func63 (by kernel_rfl) (by kernel_rfl) (by kernel_rfl) (by kernel_rfl) (by kernel_rfl) (by kernel_rfl) (by kernel_rfl)
  fun x y h => (raw63_eq x).trans h
theorem ok28 : FOk Try.prog 28 S28 := afun_ok (E := E28) (fn := Try.f28) tabOk (GOk.look (l := [(63, [S63])]) ⟨⟨ok63, trivial⟩, trivial⟩) Try.checked.mixed Try.func28 (by kernel_rfl) (by kernel_rfl) (by kernel_rfl) (by kernel_rfl) (by kernel_rfl) (by kernel_rfl) (by kernel_rfl)
  fun x y h => (raw28_eq x).trans h
theorem ok29 : FOk Try.prog 29 S29 := afun_ok (E := E29) (fn := Try.f29) tabOk (GOk.look (l := [(64, [S64])]) ⟨⟨ok64, trivial⟩, trivial⟩) Try.checked.mixed Try.func29 (by kernel_rfl) (by kernel_rfl) (by kernel_rfl) (by kernel_rfl) (by kernel_rfl) (by kernel_rfl) (by kernel_rfl)
  fun x y h => (raw29_eq x).trans h
theorem ok10 : FOk Try.prog 10 S10 := afun_ok (E := E10) (fn := Try.f10) tabOk (GOk.look (l := [(12, [S12]), (25, [S25]), (26, [S26]), (27, [S27]), (28, [S28]), (29, [S29])]) ⟨⟨ok12, trivial⟩, ⟨ok25, trivial⟩, ⟨ok26, trivial⟩, ⟨ok27, trivial⟩, ⟨ok28, trivial⟩, ⟨ok29, trivial⟩, trivial⟩) Try.checked.mixed Try.func10 (by kernel_rfl) (by kernel_rfl) (by kernel_rfl) (by kernel_rfl) (by kernel_rfl) (by kernel_rfl) (by kernel_rfl)
  fun x y h => (raw10_eq x).trans h
theorem ok7 : FOk Try.prog 7 S7 := afun_ok (E := E7) (fn := Try.f7) tabOk (GOk.look (l := [(10, [S10]), (12, [S12])]) ⟨⟨ok10, trivial⟩, ⟨ok12, trivial⟩, trivial⟩) Try.checked.mixed Try.func7 (by kernel_rfl) (by kernel_rfl) (by kernel_rfl) (by kernel_rfl) (by kernel_rfl) (by kernel_rfl) (by kernel_rfl)
  fun x y h => (raw7_eq x).trans h
theorem ok24 : FOk Try.prog 24 S24 := afun_ok (E := E24) (fn := Try.f24) tabOk (GOk.look (l := []) trivial) Try.checked.mixed Try.func24 (by kernel_rfl) (by kernel_rfl) (by kernel_rfl) (by kernel_rfl) (by kernel_rfl) (by kernel_rfl) (by kernel_rfl)
  fun x y h => (raw24_eq x).trans h
theorem ok8 : FOk Try.prog 8 S8 := afun_ok (E := E8) (fn := Try.f8) tabOk (GOk.look (l := [(24, [S24])]) ⟨⟨ok24, trivial⟩, trivial⟩) Try.checked.mixed Try.func8 (by kernel_rfl) (by kernel_rfl) (by kernel_rfl) (by kernel_rfl) (by kernel_rfl) (by kernel_rfl) (by kernel_rfl)
  fun x y h => (raw8_eq x).trans h
theorem ok9 : FOk Try.prog 9 S9 := afun_ok (E := E9) (fn := Try.f9) tabOk (GOk.look (l := []) trivial) Try.checked.mixed Try.func9 (by kernel_rfl) (by kernel_rfl) (by kernel_rfl) (by kernel_rfl) (by kernel_rfl) (by kernel_rfl) (by kernel_rfl)
  fun x y h => (raw9_eq x).trans h
theorem ok30 : FOk Try.prog 30 S30 := afun_ok (E := E30) (fn := Try.f30) tabOk (GOk.look (l := []) trivial) Try.checked.mixed Try.func30 (by kernel_rfl) (by kernel_rfl) (by kernel_rfl) (by kernel_rfl) (by kernel_rfl) (by kernel_rfl) (by kernel_rfl)
  fun x y h => (raw30_eq x).trans h
theorem ok31 : FOk Try.prog 31 S31 := afun_ok (E := E31) (fn := Try.f31) tabOk (GOk.look (l := []) trivial) Try.checked.mixed Try.func31 (by kernel_rfl) (by kernel_rfl) (by kernel_rfl) (by kernel_rfl) (by kernel_rfl) (by kernel_rfl) (by kernel_rfl)
  fun x y h => (raw31_eq x).trans h
theorem ok66 : FOk Try.prog 66 S66 := afun_ok (E := E66) (fn := Try.f66) tabOk (GOk.look (l := []) trivial) Try.checked.mixed Try.func66 (by kernel_rfl) (by kernel_rfl) (by kernel_rfl) (by kernel_rfl) (by kernel_rfl) (by kernel_rfl) (by kernel_rfl)
  fun x y h => (raw66_eq x).trans h
theorem ok65 : FOk Try.prog 65 S65 := afun_ok (E := E65) (fn := Try.f65) tabOk (GOk.look (l := [(66, [S66])]) ⟨⟨ok66, trivial⟩, trivial⟩) Try.checked.mixed Try.func65 (by kernel_rfl) (by kernel_rfl) (by kernel_rfl) (by kernel_rfl) (by kernel_rfl) (by kernel_rfl) (by kernel_rfl)
  fun x y h => (raw65_eq x).trans h
theorem ok32 : FOk Try.prog 32 S32 := afun_ok (E := E32) (fn := Try.f32) tabOk (GOk.look (l := [(65, [S65])]) ⟨⟨ok65, trivial⟩, trivial⟩) Try.checked.mixed Try.func32 (by kernel_rfl) (by kernel_rfl) (by kernel_rfl) (by kernel_rfl) (by kernel_rfl) (by kernel_rfl) (by kernel_rfl)
  fun x y h => (raw32_eq x).trans h
theorem ok33 : FOk Try.prog 33 S33 := afun_ok (E := E33) (fn := Try.f33) tabOk (GOk.look (l := [(66, [S66])]) ⟨⟨ok66, trivial⟩, trivial⟩) Try.checked.mixed Try.func33 (by kernel_rfl) (by kernel_rfl) (by kernel_rfl) (by kernel_rfl) (by kernel_rfl) (by kernel_rfl) (by kernel_rfl)
  fun x y h => (raw33_eq x).trans h
theorem ok11 : FOk Try.prog 11 S11 := afun_ok (E := E11) (fn := Try.f11) tabOk (GOk.look (l := [(30, [S30]), (31, [S31]), (32, [S32]), (33, [S33])]) ⟨⟨ok30, trivial⟩, ⟨ok31, trivial⟩, ⟨ok32, trivial⟩, ⟨ok33, trivial⟩, trivial⟩) Try.checked.mixed Try.func11 (by kernel_rfl) (by kernel_rfl) (by kernel_rfl) (by kernel_rfl) (by kernel_rfl) (by kernel_rfl) (by kernel_rfl)
  fun x y h => (raw11_eq x).trans h
theorem ok69 : FOk Try.prog 69 S69 := afun_ok (E := E69) (fn := Try.f69) tabOk (GOk.look (l := []) trivial) Try.checked.mixed Try.func69 (by kernel_rfl) (by kernel_rfl) (by kernel_rfl) (by kernel_rfl) (by kernel_rfl) (by kernel_rfl) (by kernel_rfl)
  fun x y h => (raw69_eq x).trans h
theorem ok36 : FOk Try.prog 36 S36 := afun_ok (E := E36) (fn := Try.f36) tabOk (GOk.look (l := [(69, [S69])]) ⟨⟨ok69, trivial⟩, trivial⟩) Try.checked.mixed Try.func36 (by kernel_rfl) (by kernel_rfl) (by kernel_rfl) (by kernel_rfl) (by kernel_rfl) (by kernel_rfl) (by kernel_rfl)
  fun x y h => (raw36_eq x).trans h
theorem ok37 : FOk Try.prog 37 S37 := afun_ok (E := E37) (fn := Try.f37) tabOk (GOk.look (l := []) trivial) Try.checked.mixed Try.func37 (by kernel_rfl) (by kernel_rfl) (by kernel_rfl) (by kernel_rfl) (by kernel_rfl) (by kernel_rfl) (by kernel_rfl)
  fun x y h => (raw37_eq x).trans h
theorem ok13 : FOk Try.prog 13 S13 := afun_ok (E := E13) (fn := Try.f13) tabOk (GOk.look (l := [(36, [S36]), (37, [S37])]) ⟨⟨ok36, trivial⟩, ⟨ok37, trivial⟩, trivial⟩) Try.checked.mixed Try.func13 (by kernel_rfl) (by kernel_rfl) (by kernel_rfl) (by kernel_rfl) (by kernel_rfl) (by kernel_rfl) (by kernel_rfl)
  fun x y h => (raw13_eq x).trans h
theorem ok3 : FOk Try.prog 3 S3 := afun_ok (E := E3) (fn := Try.f3) tabOk (GOk.look (l := [(7, [S7]), (8, [S8]), (9, [S9]), (10, [S10]), (11, [S11]), (12, [S12]), (13, [S13])]) ⟨⟨ok7, trivial⟩, ⟨ok8, trivial⟩, ⟨ok9, trivial⟩, ⟨ok10, trivial⟩, ⟨ok11, trivial⟩, ⟨ok12, trivial⟩, ⟨ok13, trivial⟩, trivial⟩) Try.checked.mixed Try.func3 (by kernel_rfl) (by kernel_rfl) (by kernel_rfl) (by kernel_rfl) (by kernel_rfl) (by kernel_rfl) (by kernel_rfl)
  fun x y h => (raw3_eq x).trans h
theorem ok4 : FOk Try.prog 4 S4 := afun_ok (E := E4) (fn := Try.f4) tabOk (GOk.look (l := [(7, [S7]), (8, [S8]), (9, [S9]), (10, [S10]), (11, [S11])]) ⟨⟨ok7, trivial⟩, ⟨ok8, trivial⟩, ⟨ok9, trivial⟩, ⟨ok10, trivial⟩, ⟨ok11, trivial⟩, trivial⟩) Try.checked.mixed Try.func4 (by kernel_rfl) (by kernel_rfl) (by kernel_rfl) (by kernel_rfl) (by kernel_rfl) (by kernel_rfl) (by kernel_rfl)
  fun x y h => (raw4_eq x).trans h
theorem ok38 : FOk Try.prog 38 S38 := afun_ok (E := E38) (fn := Try.f38) tabOk (GOk.look (l := []) trivial) Try.checked.mixed Try.func38 (by kernel_rfl) (by kernel_rfl) (by kernel_rfl) (by kernel_rfl) (by kernel_rfl) (by kernel_rfl) (by kernel_rfl)
  fun x y h => (raw38_eq x).trans h
theorem ok14 : FOk Try.prog 14 S14 := afun_ok (E := E14) (fn := Try.f14) tabOk (GOk.look (l := [(38, [S38])]) ⟨⟨ok38, trivial⟩, trivial⟩) Try.checked.mixed Try.func14 (by kernel_rfl) (by kernel_rfl) (by kernel_rfl) (by kernel_rfl) (by kernel_rfl) (by kernel_rfl) (by kernel_rfl)
  fun x y h => (raw14_eq x).trans h
theorem ok18 : FOk Try.prog 18 S18 := afun_ok (E := E18) (fn := Try.f18) tabOk (GOk.look (l := []) trivial) Try.checked.mixed Try.func18 (by kernel_rfl) (by kernel_rfl) (by kernel_rfl) (by kernel_rfl) (by kernel_rfl) (by kernel_rfl) (by kernel_rfl)
  fun x y h => (raw18_eq x).trans h
theorem ok45 : FOk Try.prog 45 S45 := afun_ok (E := E45) (fn := Try.f45) tabOk (GOk.look (l := []) trivial) Try.checked.mixed Try.func45 (by kernel_rfl) (by kernel_rfl) (by kernel_rfl) (by kernel_rfl) (by kernel_rfl) (by kernel_rfl) (by kernel_rfl)
  fun x y h => (raw45_eq x).trans h
theorem ok78 : FOk Try.prog 78 S78 := afun_ok (E := E78) (fn := Try.f78) tabOk (GOk.look (l := [(45, [S45])]) ⟨⟨ok45, trivial⟩, trivial⟩) Try.checked.mixed Try.func78 (by kernel_rfl) (by kernel_rfl) (by kernel_rfl) (by kernel_rfl) (by kernel_rfl) (by kernel_rfl) (by kernel_rfl)
  fun x y h => (raw78_eq x).trans h
theorem ok70 : FOk Try.prog 70 S70 := afun_ok (E := E70) (fn := Try.f70) tabOk (GOk.look (l := [(78, [S78])]) ⟨⟨ok78, trivial⟩, trivial⟩) Try.checked.mixed Try.func70 (by kernel_rfl) (by kernel_rfl) (by kernel_rfl) (by kernel_rfl) (by kernel_rfl) (by kernel_rfl) (by kernel_rfl)
  fun x y h => (raw70_eq x).trans h
theorem ok39 : FOk Try.prog 39 S39 := afun_ok (E := E39) (fn := Try.f39) tabOk (GOk.look (l := [(70, [S70])]) ⟨⟨ok70, trivial⟩, trivial⟩) Try.checked.mixed Try.func39 (by kernel_rfl) (by kernel_rfl) (by kernel_rfl) (by kernel_rfl) (by kernel_rfl) (by kernel_rfl) (by kernel_rfl)
  fun x y h => (raw39_eq x).trans h
theorem ok40 : FOk Try.prog 40 S40 := afun_ok (E := E40) (fn := Try.f40) tabOk (GOk.look (l := [(70, [S70])]) ⟨⟨ok70, trivial⟩, trivial⟩) Try.checked.mixed Try.func40 (by kernel_rfl) (by kernel_rfl) (by kernel_rfl) (by kernel_rfl) (by kernel_rfl) (by kernel_rfl) (by kernel_rfl)
  fun x y h => (raw40_eq x).trans h
theorem ok41 : FOk Try.prog 41 S41 := afun_ok (E := E41) (fn := Try.f41) tabOk (GOk.look (l := [(39, [S39]), (45, [S45])]) ⟨⟨ok39, trivial⟩, ⟨ok45, trivial⟩, trivial⟩) Try.checked.mixed Try.func41 (by kernel_rfl) (by kernel_rfl) (by kernel_rfl) (by kernel_rfl) (by kernel_rfl) (by kernel_rfl) (by kernel_rfl)
  fun x y h => (raw41_eq x).trans h
theorem ok19 : FOk Try.prog 19 S19 := afun_ok (E := E19) (fn := Try.f19) tabOk (GOk.look (l := []) trivial) Try.checked.mixed Try.func19 (by kernel_rfl) (by kernel_rfl) (by kernel_rfl) (by kernel_rfl) (by kernel_rfl) (by kernel_rfl) (by kernel_rfl)
  fun x y h => (raw19_eq x).trans h
theorem ok42 : FOk Try.prog 42 S42 := afun_ok (E := E42) (fn := Try.f42) tabOk (GOk.look (l := [(19, [S19]), (45, [S45]), (70, [S70])]) ⟨⟨ok19, trivial⟩, ⟨ok45, trivial⟩, ⟨ok70, trivial⟩, trivial⟩) Try.checked.mixed Try.func42 (by kernel_rfl) (by kernel_rfl) (by kernel_rfl) (by kernel_rfl) (by kernel_rfl) (by kernel_rfl) (by kernel_rfl)
  fun x y h => (raw42_eq x).trans h
theorem ok71 : FOk Try.prog 71 S71 := afun_ok (E := E71) (fn := Try.f71) tabOk (GOk.look (l := [(42, [S42]), (78, [S78])]) ⟨⟨ok42, trivial⟩, ⟨ok78, trivial⟩, trivial⟩) Try.checked.mixed Try.func71 (by kernel_rfl) (by kernel_rfl) (by kernel_rfl) (by kernel_rfl) (by kernel_rfl) (by kernel_rfl) (by kernel_rfl)
  fun x y h => (raw71_eq x).trans h
theorem ok43 : FOk Try.prog 43 S43 := afun_ok (E := E43) (fn := Try.f43) tabOk (GOk.look (l := [(18, [S18]), (40, [S40]), (45, [S45]), (63, [S63]), (71, [S71])]) ⟨⟨ok18, trivial⟩, ⟨ok40, trivial⟩, ⟨ok45, trivial⟩, ⟨ok63, trivial⟩, ⟨ok71, trivial⟩, trivial⟩) Try.checked.mixed Try.func43 (by kernel_rfl) (by kernel_rfl) (by kernel_rfl) (by kernel_rfl) (by kernel_rfl) (by kernel_rfl) (by kernel_rfl)
  fun x y h => (raw43_eq x).trans h
theorem ok44 : FOk Try.prog 44 S44 := afun_ok (E := E44) (fn := Try.f44) tabOk (GOk.look (l := [(18, [S18]), (29, [S29]), (40, [S40]), (45, [S45]), (71, [S71])]) ⟨⟨ok18, trivial⟩, ⟨ok29, trivial⟩, ⟨ok40, trivial⟩, ⟨ok45, trivial⟩, ⟨ok71, trivial⟩, trivial⟩) Try.checked.mixed Try.func44 (by kernel_rfl) (by kernel_rfl) (by kernel_rfl) (by kernel_rfl) (by kernel_rfl) (by kernel_rfl) (by kernel_rfl)
  fun x y h => (raw44_eq x).trans h
theorem ok15 : FOk Try.prog 15 S15 := afun_ok (E := E15) (fn := Try.f15) tabOk (GOk.look (l := [(10, [S10]), (18, [S18]), (39, [S39]), (40, [S40]), (41, [S41]), (42, [S42]), (43, [S43]), (44, [S44]), (45, [S45])]) ⟨⟨ok10, trivial⟩, ⟨ok18, trivial⟩, ⟨ok39, trivial⟩, ⟨ok40, trivial⟩, ⟨ok41, trivial⟩, ⟨ok42, trivial⟩, ⟨ok43, trivial⟩, ⟨ok44, trivial⟩, ⟨ok45, trivial⟩, trivial⟩) Try.checked.mixed Try.func15 (by kernel_rfl) (by kernel_rfl) (by kernel_rfl) (by kernel_rfl) (by kernel_rfl) (by kernel_rfl) (by kernel_rfl)
  fun x y h => (raw15_eq x).trans h
theorem ok79 : FOk Try.prog 79 S79 := afun_ok (E := E79) (fn := Try.f79) tabOk (GOk.look (l := []) trivial) Try.checked.mixed Try.func79 (by kernel_rfl) (by kernel_rfl) (by kernel_rfl) (by kernel_rfl) (by kernel_rfl) (by kernel_rfl) (by kernel_rfl)
  fun x y h => (raw79_eq x).trans h
theorem ok72 : FOk Try.prog 72 S72 := afun_ok (E := E72) (fn := Try.f72) tabOk (GOk.look (l := [(79, [S79])]) ⟨⟨ok79, trivial⟩, trivial⟩) Try.checked.mixed Try.func72 (by kernel_rfl) (by kernel_rfl) (by kernel_rfl) (by kernel_rfl) (by kernel_rfl) (by kernel_rfl) (by kernel_rfl)
  fun x y h => (raw72_eq x).trans h
theorem ok46 : FOk Try.prog 46 S46 := afun_ok (E := E46) (fn := Try.f46) tabOk (GOk.look (l := [(72, [S72])]) ⟨⟨ok72, trivial⟩, trivial⟩) Try.checked.mixed Try.func46 (by kernel_rfl) (by kernel_rfl) (by kernel_rfl) (by kernel_rfl) (by kernel_rfl) (by kernel_rfl) (by kernel_rfl)
  fun x y h => (raw46_eq x).trans h
theorem ok47 : FOk Try.prog 47 S47 := afun_ok (E := E47) (fn := Try.f47) tabOk (GOk.look (l := [(72, [S72])]) ⟨⟨ok72, trivial⟩, trivial⟩) Try.checked.mixed Try.func47 (by kernel_rfl) (by kernel_rfl) (by kernel_rfl) (by kernel_rfl) (by kernel_rfl) (by kernel_rfl) (by kernel_rfl)
  fun x y h => (raw47_eq x).trans h
theorem ok48 : FOk Try.prog 48 S48 := afun_ok (E := E48) (fn := Try.f48) tabOk (GOk.look (l := [(72, [S72])]) ⟨⟨ok72, trivial⟩, trivial⟩) Try.checked.mixed Try.func48 (by kernel_rfl) (by kernel_rfl) (by kernel_rfl) (by kernel_rfl) (by kernel_rfl) (by kernel_rfl) (by kernel_rfl)
  fun x y h => (raw48_eq x).trans h
theorem ok49 : FOk Try.prog 49 S49 := afun_ok (E := E49) (fn := Try.f49) tabOk (GOk.look (l := [(72, [S72])]) ⟨⟨ok72, trivial⟩, trivial⟩) Try.checked.mixed Try.func49 (by kernel_rfl) (by kernel_rfl) (by kernel_rfl) (by kernel_rfl) (by kernel_rfl) (by kernel_rfl) (by kernel_rfl)
  fun x y h => (raw49_eq x).trans h
theorem ok80 : FOk Try.prog 80 S80 := afun_ok (E := E80) (fn := Try.f80) tabOk (GOk.look (l := [(49, [S49]), (79, [S79])]) ⟨⟨ok49, trivial⟩, ⟨ok79, trivial⟩, trivial⟩) Try.checked.mixed Try.func80 (by kernel_rfl) (by kernel_rfl) (by kernel_rfl) (by kernel_rfl) (by kernel_rfl) (by kernel_rfl) (by kernel_rfl)
  fun x y h => (raw80_eq x).trans h
theorem ok73 : FOk Try.prog 73 S73 := afun_ok (E := E73) (fn := Try.f73) tabOk (GOk.look (l := [(47, [S47]), (80, [S80])]) ⟨⟨ok47, trivial⟩, ⟨ok80, trivial⟩, trivial⟩) Try.checked.mixed Try.func73 (by kernel_rfl) (by kernel_rfl) (by kernel_rfl) (by kernel_rfl) (by kernel_rfl) (by kernel_rfl) (by kernel_rfl)
  fun x y h => (raw73_eq x).trans h
theorem ok50 : FOk Try.prog 50 S50 := afun_ok (E := E50) (fn := Try.f50) tabOk (GOk.look (l := [(65, [S65]), (73, [S73])]) ⟨⟨ok65, trivial⟩, ⟨ok73, trivial⟩, trivial⟩) Try.checked.mixed Try.func50 (by kernel_rfl) (by kernel_rfl) (by kernel_rfl) (by kernel_rfl) (by kernel_rfl) (by kernel_rfl) (by kernel_rfl)
  fun x y h => (raw50_eq x).trans h
theorem ok51 : FOk Try.prog 51 S51 := afun_ok (E := E51) (fn := Try.f51) tabOk (GOk.look (l := [(33, [S33]), (73, [S73])]) ⟨⟨ok33, trivial⟩, ⟨ok73, trivial⟩, trivial⟩) Try.checked.mixed Try.func51 (by kernel_rfl) (by kernel_rfl) (by kernel_rfl) (by kernel_rfl) (by kernel_rfl) (by kernel_rfl) (by kernel_rfl)
  fun x y h => (raw51_eq x).trans h
theorem ok16 : FOk Try.prog 16 S16 := afun_ok (E := E16) (fn := Try.f16) tabOk (GOk.look (l := [(11, [S11]), (46, [S46]), (47, [S47]), (48, [S48]), (49, [S49]), (50, [S50]), (51, [S51])]) ⟨⟨ok11, trivial⟩, ⟨ok46, trivial⟩, ⟨ok47, trivial⟩, ⟨ok48, trivial⟩, ⟨ok49, trivial⟩, ⟨ok50, trivial⟩, ⟨ok51, trivial⟩, trivial⟩) Try.checked.mixed Try.func16 (by kernel_rfl) (by kernel_rfl) (by kernel_rfl) (by kernel_rfl) (by kernel_rfl) (by kernel_rfl) (by kernel_rfl)
  fun x y h => (raw16_eq x).trans h
theorem ok17 : FOk Try.prog 17 S17 := afun_ok (E := E17) (fn := Try.f17) tabOk (GOk.look (l := []) trivial) Try.checked.mixed Try.func17 (by kernel_rfl) (by kernel_rfl) (by kernel_rfl) (by kernel_rfl) (by kernel_rfl) (by kernel_rfl) (by kernel_rfl)
  fun x y h => (raw17_eq x).trans h
theorem ok5 : FOk Try.prog 5 S5 := afun_ok (E := E5) (fn := Try.f5) tabOk (GOk.look (l := [(7, [S7]), (10, [S10]), (13, [S13]), (14, [S14]), (15, [S15]), (16, [S16]), (17, [S17]), (18, [S18]), (19, [S19])]) ⟨⟨ok7, trivial⟩, ⟨ok10, trivial⟩, ⟨ok13, trivial⟩, ⟨ok14, trivial⟩, ⟨ok15, trivial⟩, ⟨ok16, trivial⟩, ⟨ok17, trivial⟩, ⟨ok18, trivial⟩, ⟨ok19, trivial⟩, trivial⟩) Try.checked.mixed Try.func5 (by kernel_rfl) (by kernel_rfl) (by kernel_rfl) (by kernel_rfl) (by kernel_rfl) (by kernel_rfl) (by kernel_rfl)
  fun x y h => (raw5_eq x).trans h
theorem ok74 : FOk Try.prog 74 S74 := afun_ok (E := E74) (fn := Try.f74) tabOk (GOk.look (l := []) trivial) Try.checked.mixed Try.func74 (by kernel_rfl) (by kernel_rfl) (by kernel_rfl) (by kernel_rfl) (by kernel_rfl) (by kernel_rfl) (by kernel_rfl)
  fun x y h => (raw74_eq x).trans h
theorem ok52 : FOk Try.prog 52 S52 := afun_ok (E := E52) (fn := Try.f52) tabOk (GOk.look (l := [(74, [S74])]) ⟨⟨ok74, trivial⟩, trivial⟩) Try.checked.mixed Try.func52 (by kernel_rfl) (by kernel_rfl) (by kernel_rfl) (by kernel_rfl) (by kernel_rfl) (by kernel_rfl) (by kernel_rfl)
  fun x y h => (raw52_eq x).trans h
theorem ok53 : FOk Try.prog 53 S53 := afun_ok (E := E53) (fn := Try.f53) tabOk (GOk.look (l := [(74, [S74])]) ⟨⟨ok74, trivial⟩, trivial⟩) Try.checked.mixed Try.func53 (by kernel_rfl) (by kernel_rfl) (by kernel_rfl) (by kernel_rfl) (by kernel_rfl) (by kernel_rfl) (by kernel_rfl)
  fun x y h => (raw53_eq x).trans h
theorem ok54 : FOk Try.prog 54 S54 := afun_ok (E := E54) (fn := Try.f54) tabOk (GOk.look (l := [(52, [S52])]) ⟨⟨ok52, trivial⟩, trivial⟩) Try.checked.mixed Try.func54 (by kernel_rfl) (by kernel_rfl) (by kernel_rfl) (by kernel_rfl) (by kernel_rfl) (by kernel_rfl) (by kernel_rfl)
  fun x y h => (raw54_eq x).trans h
theorem ok55 : FOk Try.prog 55 S55 := afun_ok (E := E55) (fn := Try.f55) tabOk (GOk.look (l := [(74, [S74])]) ⟨⟨ok74, trivial⟩, trivial⟩) Try.checked.mixed Try.func55 (by kernel_rfl) (by kernel_rfl) (by kernel_rfl) (by kernel_rfl) (by kernel_rfl) (by kernel_rfl) (by kernel_rfl)
  fun x y h => (raw55_eq x).trans h
theorem ok81 : FOk Try.prog 81 S81 := afun_ok (E := E81) (fn := Try.f81) tabOk (GOk.look (l := [(55, [S55])]) ⟨⟨ok55, trivial⟩, trivial⟩) Try.checked.mixed Try.func81 (by kernel_rfl) (by kernel_rfl) (by kernel_rfl) (by kernel_rfl) (by kernel_rfl) (by kernel_rfl) (by kernel_rfl)
  fun x y h => (raw81_eq x).trans h
theorem ok75 : FOk Try.prog 75 S75 := afun_ok (E := E75) (fn := Try.f75) tabOk (GOk.look (l := [(53, [S53]), (81, [S81])]) ⟨⟨ok53, trivial⟩, ⟨ok81, trivial⟩, trivial⟩) Try.checked.mixed Try.func75 (by kernel_rfl) (by kernel_rfl) (by kernel_rfl) (by kernel_rfl) (by kernel_rfl) (by kernel_rfl) (by kernel_rfl)
  fun x y h => (raw75_eq x).trans h
theorem ok56 : FOk Try.prog 56 S56 := afun_ok (E := E56) (fn := Try.f56) tabOk (GOk.look (l := [(63, [S63]), (75, [S75])]) ⟨⟨ok63, trivial⟩, ⟨ok75, trivial⟩, trivial⟩) Try.checked.mixed Try.func56 (by kernel_rfl) (by kernel_rfl) (by kernel_rfl) (by kernel_rfl) (by kernel_rfl) (by kernel_rfl) (by kernel_rfl)
  fun x y h => (raw56_eq x).trans h
theorem ok57 : FOk Try.prog 57 S57 := afun_ok (E := E57) (fn := Try.f57) tabOk (GOk.look (l := [(29, [S29]), (75, [S75])]) ⟨⟨ok29, trivial⟩, ⟨ok75, trivial⟩, trivial⟩) Try.checked.mixed Try.func57 (by kernel_rfl) (by kernel_rfl) (by kernel_rfl) (by kernel_rfl) (by kernel_rfl) (by kernel_rfl) (by kernel_rfl)
  fun x y h => (raw57_eq x).trans h
theorem ok20 : FOk Try.prog 20 S20 := afun_ok (E := E20) (fn := Try.f20) tabOk (GOk.look (l := [(10, [S10]), (52, [S52]), (53, [S53]), (54, [S54]), (55, [S55]), (56, [S56]), (57, [S57])]) ⟨⟨ok10, trivial⟩, ⟨ok52, trivial⟩, ⟨ok53, trivial⟩, ⟨ok54, trivial⟩, ⟨ok55, trivial⟩, ⟨ok56, trivial⟩, ⟨ok57, trivial⟩, trivial⟩) Try.checked.mixed Try.func20 (by kernel_rfl) (by kernel_rfl) (by kernel_rfl) (by kernel_rfl) (by kernel_rfl) (by kernel_rfl) (by kernel_rfl)
  fun x y h => (raw20_eq x).trans h
theorem ok21 : FOk Try.prog 21 S21 := afun_ok (E := E21) (fn := Try.f21) tabOk (GOk.look (l := [(38, [S38])]) ⟨⟨ok38, trivial⟩, trivial⟩) Try.checked.mixed Try.func21 (by kernel_rfl) (by kernel_rfl) (by kernel_rfl) (by kernel_rfl) (by kernel_rfl) (by kernel_rfl) (by kernel_rfl)
  fun x y h => (raw21_eq x).trans h
theorem ok76 : FOk Try.prog 76 S76 := afun_ok (E := E76) (fn := Try.f76) tabOk (GOk.look (l := []) trivial) Try.checked.mixed Try.func76 (by kernel_rfl) (by kernel_rfl) (by kernel_rfl) (by kernel_rfl) (by kernel_rfl) (by kernel_rfl) (by kernel_rfl)
  fun x y h => (raw76_eq x).trans h
theorem ok58 : FOk Try.prog 58 S58 := afun_ok (E := E58) (fn := Try.f58) tabOk (GOk.look (l := [(76, [S76])]) ⟨⟨ok76, trivial⟩, trivial⟩) Try.checked.mixed Try.func58 (by kernel_rfl) (by kernel_rfl) (by kernel_rfl) (by kernel_rfl) (by kernel_rfl) (by kernel_rfl) (by kernel_rfl)
  fun x y h => (raw58_eq x).trans h
theorem ok59 : FOk Try.prog 59 S59 := afun_ok (E := E59) (fn := Try.f59) tabOk (GOk.look (l := []) trivial) Try.checked.mixed Try.func59 (by kernel_rfl) (by kernel_rfl) (by kernel_rfl) (by kernel_rfl) (by kernel_rfl) (by kernel_rfl) (by kernel_rfl)
  fun x y h => (raw59_eq x).trans h
theorem ok60 : FOk Try.prog 60 S60 := afun_ok (E := E60) (fn := Try.f60) tabOk (GOk.look (l := [(76, [S76])]) ⟨⟨ok76, trivial⟩, trivial⟩) Try.checked.mixed Try.func60 (by kernel_rfl) (by kernel_rfl) (by kernel_rfl) (by kernel_rfl) (by kernel_rfl) (by kernel_rfl) (by kernel_rfl)
  fun x y h => (raw60_eq x).trans h
theorem ok82 : FOk Try.prog 82 S82 := afun_ok (E := E82) (fn := Try.f82) tabOk (GOk.look (l := [(60, [S60])]) ⟨⟨ok60, trivial⟩, trivial⟩) Try.checked.mixed Try.func82 (by kernel_rfl) (by kernel_rfl) (by kernel_rfl) (by kernel_rfl) (by kernel_rfl) (by kernel_rfl) (by kernel_rfl)
  fun x y h => (raw82_eq x).trans h
theorem ok77 : FOk Try.prog 77 S77 := afun_ok (E := E77) (fn := Try.f77) tabOk (GOk.look (l := [(58, [S58]), (82, [S82])]) ⟨⟨ok58, trivial⟩, ⟨ok82, trivial⟩, trivial⟩) Try.checked.mixed Try.func77 (by kernel_rfl) (by kernel_rfl) (by kernel_rfl) (by kernel_rfl) (by kernel_rfl) (by kernel_rfl) (by kernel_rfl)
  fun x y h => (raw77_eq x).trans h
theorem ok61 : FOk Try.prog 61 S61 := afun_ok (E := E61) (fn := Try.f61) tabOk (GOk.look (l := [(65, [S65]), (77, [S77])]) ⟨⟨ok65, trivial⟩, ⟨ok77, trivial⟩, trivial⟩) Try.checked.mixed Try.func61 (by kernel_rfl) (by kernel_rfl) (by kernel_rfl) (by kernel_rfl) (by kernel_rfl) (by kernel_rfl) (by kernel_rfl)
  fun x y h => (raw61_eq x).trans h
theorem ok62 : FOk Try.prog 62 S62 := afun_ok (E := E62) (fn := Try.f62) tabOk (GOk.look (l := [(33, [S33]), (77, [S77])]) ⟨⟨ok33, trivial⟩, ⟨ok77, trivial⟩, trivial⟩) Try.checked.mixed Try.func62 (by kernel_rfl) (by kernel_rfl) (by kernel_rfl) (by kernel_rfl) (by kernel_rfl) (by kernel_rfl) (by kernel_rfl)
  fun x y h => (raw62_eq x).trans h
theorem ok22 : FOk Try.prog 22 S22 := afun_ok (E := E22) (fn := Try.f22) tabOk (GOk.look (l := [(11, [S11]), (58, [S58]), (59, [S59]), (60, [S60]), (61, [S61]), (62, [S62])]) ⟨⟨ok11, trivial⟩, ⟨ok58, trivial⟩, ⟨ok59, trivial⟩, ⟨ok60, trivial⟩, ⟨ok61, trivial⟩, ⟨ok62, trivial⟩, trivial⟩) Try.checked.mixed Try.func22 (by kernel_rfl) (by kernel_rfl) (by kernel_rfl) (by kernel_rfl) (by kernel_rfl) (by kernel_rfl) (by kernel_rfl)
  fun x y h => (raw22_eq x).trans h
theorem ok23 : FOk Try.prog 23 S23 := afun_ok (E := E23) (fn := Try.f23) tabOk (GOk.look (l := []) trivial) Try.checked.mixed Try.func23 (by kernel_rfl) (by kernel_rfl) (by kernel_rfl) (by kernel_rfl) (by kernel_rfl) (by kernel_rfl) (by kernel_rfl)
  fun x y h => (raw23_eq x).trans h
theorem ok6 : FOk Try.prog 6 S6 := afun_ok (E := E6) (fn := Try.f6) tabOk (GOk.look (l := [(7, [S7]), (8, [S8]), (9, [S9]), (11, [S11]), (12, [S12]), (13, [S13]), (14, [S14]), (15, [S15]), (17, [S17]), (18, [S18]), (20, [S20]), (21, [S21]), (22, [S22]), (23, [S23])]) ⟨⟨ok7, trivial⟩, ⟨ok8, trivial⟩, ⟨ok9, trivial⟩, ⟨ok11, trivial⟩, ⟨ok12, trivial⟩, ⟨ok13, trivial⟩, ⟨ok14, trivial⟩, ⟨ok15, trivial⟩, ⟨ok17, trivial⟩, ⟨ok18, trivial⟩, ⟨ok20, trivial⟩, ⟨ok21, trivial⟩, ⟨ok22, trivial⟩, ⟨ok23, trivial⟩, trivial⟩) Try.checked.mixed Try.func6 (by kernel_rfl) (by kernel_rfl) (by kernel_rfl) (by kernel_rfl) (by kernel_rfl) (by kernel_rfl) (by kernel_rfl)
  fun x y h => (raw6_eq x).trans h
end Go.Proofs.Ytnlcgekolgldcaa
