/-
  Octets: by a program of the bench (seat.py).
-/
import Derived.Test.YtchknfdjnkalkaaOctetsRaw
namespace Go.Proofs.Ytchknfdjnkalkaa
open Go.Sx Go
theorem ok43 : FOk Try.prog 43 S43 := afun_ok (E := E43) (fn := Try.f43) tabOk (GOk.look (l := []) trivial) Try.checked.mixed Try.func43 (by kernel_rfl) (by kernel_rfl) (by kernel_rfl) (by kernel_rfl) (by kernel_rfl) (by kernel_rfl) (by kernel_rfl)
  fun x y h => (raw43_eq x).trans h
theorem ok43a : FOk Try.prog 43 S43a := afun_ok (E := E43a) (fn := Try.f43) tabOk (GOk.look (l := []) trivial) Try.checked.mixed Try.func43 (by kernel_rfl) (by kernel_rfl) (by kernel_rfl) (by kernel_rfl) (by kernel_rfl) (by kernel_rfl) (by kernel_rfl)
  fun x y h => (raw43a_eq x).trans h
theorem ok26 : FOk Try.prog 26 S26 := afun_ok (E := E26) (fn := Try.f26) tabOk (GOk.look (l := [(43, [S43, S43a])]) ⟨⟨ok43, ok43a, trivial⟩, trivial⟩) Try.checked.mixed Try.func26 (by kernel_rfl) (by kernel_rfl) (by kernel_rfl) (by kernel_rfl) (by kernel_rfl) (by kernel_rfl) (by kernel_rfl)
  fun x y h => (raw26_eq x).trans h
theorem ok26a : FOk Try.prog 26 S26a := afun_ok (E := E26a) (fn := Try.f26) tabOk (GOk.look (l := [(43, [S43, S43a])]) ⟨⟨ok43, ok43a, trivial⟩, trivial⟩) Try.checked.mixed Try.func26 (by kernel_rfl) (by kernel_rfl) (by kernel_rfl) (by kernel_rfl) (by kernel_rfl) (by kernel_rfl) (by kernel_rfl)
  fun x y h => (raw26a_eq x).trans h
theorem ok9 : FOk Try.prog 9 S9 := afun_ok (E := E9) (fn := Try.f9) tabOk (GOk.look (l := [(26, [S26, S26a])]) ⟨⟨ok26, ok26a, trivial⟩, trivial⟩) Try.checked.mixed Try.func9 (by kernel_rfl) (by kernel_rfl) (by kernel_rfl) (by kernel_rfl) (by kernel_rfl) (by kernel_rfl) (by kernel_rfl)
  fun x y h => (raw9_eq x).trans h
theorem ok9a : FOk Try.prog 9 S9a := afun_ok (E := E9a) (fn := Try.f9) tabOk (GOk.look (l := [(26, [S26, S26a])]) ⟨⟨ok26, ok26a, trivial⟩, trivial⟩) Try.checked.mixed Try.func9 (by kernel_rfl) (by kernel_rfl) (by kernel_rfl) (by kernel_rfl) (by kernel_rfl) (by kernel_rfl) (by kernel_rfl)
  fun x y h => (raw9a_eq x).trans h
theorem ok27 : FOk Try.prog 27 S27 := afun_ok (E := E27) (fn := Try.f27) tabOk (GOk.look (l := []) trivial) Try.checked.mixed Try.func27 (by kernel_rfl) (by kernel_rfl) (by kernel_rfl) (by kernel_rfl) (by kernel_rfl) (by kernel_rfl) (by kernel_rfl)
  fun x y h => (raw27_eq x).trans h
theorem ok10 : FOk Try.prog 10 S10 := afun_ok (E := E10) (fn := Try.f10) tabOk (GOk.look (l := [(27, [S27])]) ⟨⟨ok27, trivial⟩, trivial⟩) Try.checked.mixed Try.func10 (by kernel_rfl) (by kernel_rfl) (by kernel_rfl) (by kernel_rfl) (by kernel_rfl) (by kernel_rfl) (by kernel_rfl)
  fun x y h => (raw10_eq x).trans h
theorem ok10a : FOk Try.prog 10 S10a := afun_ok (E := E10a) (fn := Try.f10) tabOk (GOk.look (l := [(27, [S27])]) ⟨⟨ok27, trivial⟩, trivial⟩) Try.checked.mixed Try.func10 (by kernel_rfl) (by kernel_rfl) (by kernel_rfl) (by kernel_rfl) (by kernel_rfl) (by kernel_rfl) (by kernel_rfl)
  fun x y h => (raw10a_eq x).trans h
theorem ok11 : FOk Try.prog 11 S11 := afun_ok (E := E11) (fn := Try.f11) tabOk (GOk.look (l := [(27, [S27])]) ⟨⟨ok27, trivial⟩, trivial⟩) Try.checked.mixed Try.func11 (by kernel_rfl) (by kernel_rfl) (by kernel_rfl) (by kernel_rfl) (by kernel_rfl) (by kernel_rfl) (by kernel_rfl)
  fun x y h => (raw11_eq x).trans h
theorem ok14 : FOk Try.prog 14 S14 := afun_ok (E := E14) (fn := Try.f14) tabOk (GOk.look (l := []) trivial) Try.checked.mixed Try.func14 (by kernel_rfl) (by kernel_rfl) (by kernel_rfl) (by kernel_rfl) (by kernel_rfl) (by kernel_rfl) (by kernel_rfl)
  fun x y h => (raw14_eq x).trans h
theorem ok14a : FOk Try.prog 14 S14a := afun_ok (E := E14a) (fn := Try.f14) tabOk (GOk.look (l := []) trivial) Try.checked.mixed Try.func14 (by kernel_rfl) (by kernel_rfl) (by kernel_rfl) (by kernel_rfl) (by kernel_rfl) (by kernel_rfl) (by kernel_rfl)
  fun x y h => (raw14a_eq x).trans h
theorem ok24 : FOk Try.prog 24 S24 := afun_ok (E := E24) (fn := Try.f24) tabOk (GOk.look (l := []) trivial) Try.checked.mixed Try.func24 (by kernel_rfl) (by kernel_rfl) (by kernel_rfl) (by kernel_rfl) (by kernel_rfl) (by kernel_rfl) (by kernel_rfl)
  fun x y h => (raw24_eq x).trans h
theorem ok24a : FOk Try.prog 24 S24a := afun_ok (E := E24a) (fn := Try.f24) tabOk (GOk.look (l := []) trivial) Try.checked.mixed Try.func24 (by kernel_rfl) (by kernel_rfl) (by kernel_rfl) (by kernel_rfl) (by kernel_rfl) (by kernel_rfl) (by kernel_rfl)
  fun x y h => (raw24a_eq x).trans h
theorem ok28 : FOk Try.prog 28 S28 := afun_ok (E := E28) (fn := Try.f28) tabOk (GOk.look (l := [(24, [S24, S24a])]) ⟨⟨ok24, ok24a, trivial⟩, trivial⟩) Try.checked.mixed Try.func28 (by kernel_rfl) (by kernel_rfl) (by kernel_rfl) (by kernel_rfl) (by kernel_rfl) (by kernel_rfl) (by kernel_rfl)
  fun x y h => (raw28_eq x).trans h
theorem ok28a : FOk Try.prog 28 S28a := afun_ok (E := E28a) (fn := Try.f28) tabOk (GOk.look (l := [(24, [S24, S24a])]) ⟨⟨ok24, ok24a, trivial⟩, trivial⟩) Try.checked.mixed Try.func28 (by kernel_rfl) (by kernel_rfl) (by kernel_rfl) (by kernel_rfl) (by kernel_rfl) (by kernel_rfl) (by kernel_rfl)
  fun x y h => (raw28a_eq x).trans h
theorem ok42 : FOk Try.prog 42 S42 := afun_ok (E := E42) (fn := Try.f42) tabOk (GOk.look (l := [(28, [S28, S28a])]) ⟨⟨ok28, ok28a, trivial⟩, trivial⟩) Try.checked.mixed Try.func42 (by kernel_rfl) (by kernel_rfl) (by kernel_rfl) (by kernel_rfl) (by kernel_rfl) (by kernel_rfl) (by kernel_rfl)
  fun x y h => (raw42_eq x).trans h
theorem ok42a : FOk Try.prog 42 S42a := afun_ok (E := E42a) (fn := Try.f42) tabOk (GOk.look (l := [(28, [S28, S28a])]) ⟨⟨ok28, ok28a, trivial⟩, trivial⟩) Try.checked.mixed Try.func42 (by kernel_rfl) (by kernel_rfl) (by kernel_rfl) (by kernel_rfl) (by kernel_rfl) (by kernel_rfl) (by kernel_rfl)
  fun x y h => (raw42a_eq x).trans h
theorem ok25 : FOk Try.prog 25 S25 := afun_ok (E := E25) (fn := Try.f25) tabOk (GOk.look (l := [(14, [S14, S14a]), (24, [S24, S24a]), (42, [S42, S42a])]) ⟨⟨ok14, ok14a, trivial⟩, ⟨ok24, ok24a, trivial⟩, ⟨ok42, ok42a, trivial⟩, trivial⟩) Try.checked.mixed Try.func25 (by kernel_rfl) (by kernel_rfl) (by kernel_rfl) (by kernel_rfl) (by kernel_rfl) (by kernel_rfl) (by kernel_rfl)
  fun x y h => (raw25_eq x).trans h
theorem ok25a : FOk Try.prog 25 S25a := afun_ok (E := E25a) (fn := Try.f25) tabOk (GOk.look (l := [(14, [S14, S14a]), (24, [S24, S24a]), (42, [S42, S42a])]) ⟨⟨ok14, ok14a, trivial⟩, ⟨ok24, ok24a, trivial⟩, ⟨ok42, ok42a, trivial⟩, trivial⟩) Try.checked.mixed Try.func25 (by kernel_rfl) (by kernel_rfl) (by kernel_rfl) (by kernel_rfl) (by kernel_rfl) (by kernel_rfl) (by kernel_rfl)
  fun x y h => (raw25a_eq x).trans h
theorem ok12 : FOk Try.prog 12 S12 := afun_ok (E := E12) (fn := Try.f12) tabOk (GOk.look (l := [(25, [S25, S25a]), (28, [S28, S28a])]) ⟨⟨ok25, ok25a, trivial⟩, ⟨ok28, ok28a, trivial⟩, trivial⟩) Try.checked.mixed Try.func12 (by kernel_rfl) (by kernel_rfl) (by kernel_rfl) (by kernel_rfl) (by kernel_rfl) (by kernel_rfl) (by kernel_rfl)
  fun x y h => (raw12_eq x).trans h
theorem ok12a : FOk Try.prog 12 S12a := afun_ok (E := E12a) (fn := Try.f12) tabOk (GOk.look (l := [(25, [S25, S25a]), (28, [S28, S28a])]) ⟨⟨ok25, ok25a, trivial⟩, ⟨ok28, ok28a, trivial⟩, trivial⟩) Try.checked.mixed Try.func12 (by kernel_rfl) (by kernel_rfl) (by kernel_rfl) (by kernel_rfl) (by kernel_rfl) (by kernel_rfl) (by kernel_rfl)
  fun x y h => (raw12a_eq x).trans h
theorem ok8 : FOk Try.prog 8 S8 := afun_ok (E := E8) (fn := Try.f8) tabOk (GOk.look (l := [(9, [S9, S9a]), (10, [S10, S10a]), (11, [S11]), (12, [S12, S12a])]) ⟨⟨ok9, ok9a, trivial⟩, ⟨ok10, ok10a, trivial⟩, ⟨ok11, trivial⟩, ⟨ok12, ok12a, trivial⟩, trivial⟩) Try.checked.mixed Try.func8 (by kernel_rfl) (by kernel_rfl) (by kernel_rfl) (by kernel_rfl) (by kernel_rfl) (by kernel_rfl) (by kernel_rfl)
  fun x y h => (raw8_eq x).trans h
theorem ok13 : FOk Try.prog 13 S13 := afun_ok (E := E13) (fn := Try.f13) tabOk (GOk.look (l := []) trivial) Try.checked.mixed Try.func13 (by kernel_rfl) (by kernel_rfl) (by kernel_rfl) (by kernel_rfl) (by kernel_rfl) (by kernel_rfl) (by kernel_rfl)
  fun x y h => (raw13_eq x).trans h
theorem ok13a : FOk Try.prog 13 S13a := afun_ok (E := E13a) (fn := Try.f13) tabOk (GOk.look (l := []) trivial) Try.checked.mixed Try.func13 (by kernel_rfl) (by kernel_rfl) (by kernel_rfl) (by kernel_rfl) (by kernel_rfl) (by kernel_rfl) (by kernel_rfl)
  fun x y h => (raw13a_eq x).trans h
theorem ok3 : FOk Try.prog 3 S3 := afun_ok (E := E3) (fn := Try.f3) tabOk (GOk.look (l := [(8, [S8]), (9, [S9, S9a]), (10, [S10, S10a]), (11, [S11]), (12, [S12, S12a]), (13, [S13, S13a]), (14, [S14, S14a])]) ⟨⟨ok8, trivial⟩, ⟨ok9, ok9a, trivial⟩, ⟨ok10, ok10a, trivial⟩, ⟨ok11, trivial⟩, ⟨ok12, ok12a, trivial⟩, ⟨ok13, ok13a, trivial⟩, ⟨ok14, ok14a, trivial⟩, trivial⟩) Try.checked.mixed Try.func3 (by kernel_rfl) (by kernel_rfl) (by kernel_rfl) (by kernel_rfl) (by kernel_rfl) (by kernel_rfl) (by kernel_rfl)
  fun x y h => (raw3_eq x).trans h
theorem ok20 : FOk Try.prog 20 S20 := afun_ok (E := E20) (fn := Try.f20) tabOk (GOk.look (l := [(42, [S42, S42a])]) ⟨⟨ok42, ok42a, trivial⟩, trivial⟩) Try.checked.mixed Try.func20 (by kernel_rfl) (by kernel_rfl) (by kernel_rfl) (by kernel_rfl) (by kernel_rfl) (by kernel_rfl) (by kernel_rfl)
  fun x y h => (raw20_eq x).trans h
theorem ok20a : FOk Try.prog 20 S20a := afun_ok (E := E20a) (fn := Try.f20) tabOk (GOk.look (l := [(42, [S42, S42a])]) ⟨⟨ok42, ok42a, trivial⟩, trivial⟩) Try.checked.mixed Try.func20 (by kernel_rfl) (by kernel_rfl) (by kernel_rfl) (by kernel_rfl) (by kernel_rfl) (by kernel_rfl) (by kernel_rfl)
  fun x y h => (raw20a_eq x).trans h
theorem ok21 : FOk Try.prog 21 S21 := afun_ok (E := E21) (fn := Try.f21) tabOk (GOk.look (l := [(20, [S20, S20a]), (24, [S24, S24a])]) ⟨⟨ok20, ok20a, trivial⟩, ⟨ok24, ok24a, trivial⟩, trivial⟩) Try.checked.mixed Try.func21 (by kernel_rfl) (by kernel_rfl) (by kernel_rfl) (by kernel_rfl) (by kernel_rfl) (by kernel_rfl) (by kernel_rfl)
  fun x y h => (raw21_eq x).trans h
theorem ok21a : FOk Try.prog 21 S21a := afun_ok (E := E21a) (fn := Try.f21) tabOk (GOk.look (l := [(20, [S20, S20a]), (24, [S24, S24a])]) ⟨⟨ok20, ok20a, trivial⟩, ⟨ok24, ok24a, trivial⟩, trivial⟩) Try.checked.mixed Try.func21 (by kernel_rfl) (by kernel_rfl) (by kernel_rfl) (by kernel_rfl) (by kernel_rfl) (by kernel_rfl) (by kernel_rfl)
  fun x y h => (raw21a_eq x).trans h
theorem ok22 : FOk Try.prog 22 S22 := afun_ok (E := E22) (fn := Try.f22) tabOk (GOk.look (l := [(42, [S42, S42a])]) ⟨⟨ok42, ok42a, trivial⟩, trivial⟩) Try.checked.mixed Try.func22 (by kernel_rfl) (by kernel_rfl) (by kernel_rfl) (by kernel_rfl) (by kernel_rfl) (by kernel_rfl) (by kernel_rfl)
  fun x y h => (raw22_eq x).trans h
theorem ok22a : FOk Try.prog 22 S22a := afun_ok (E := E22a) (fn := Try.f22) tabOk (GOk.look (l := [(42, [S42, S42a])]) ⟨⟨ok42, ok42a, trivial⟩, trivial⟩) Try.checked.mixed Try.func22 (by kernel_rfl) (by kernel_rfl) (by kernel_rfl) (by kernel_rfl) (by kernel_rfl) (by kernel_rfl) (by kernel_rfl)
  fun x y h => (raw22a_eq x).trans h
theorem ok23 : FOk Try.prog 23 S23 := afun_ok (E := E23) (fn := Try.f23) tabOk (GOk.look (l := [(25, [S25, S25a]), (28, [S28, S28a])]) ⟨⟨ok25, ok25a, trivial⟩, ⟨ok28, ok28a, trivial⟩, trivial⟩) Try.checked.mixed Try.func23 (by kernel_rfl) (by kernel_rfl) (by kernel_rfl) (by kernel_rfl) (by kernel_rfl) (by kernel_rfl) (by kernel_rfl)
  fun x y h => (raw23_eq x).trans h
theorem ok23a : FOk Try.prog 23 S23a := afun_ok (E := E23a) (fn := Try.f23) tabOk (GOk.look (l := [(25, [S25, S25a]), (28, [S28, S28a])]) ⟨⟨ok25, ok25a, trivial⟩, ⟨ok28, ok28a, trivial⟩, trivial⟩) Try.checked.mixed Try.func23 (by kernel_rfl) (by kernel_rfl) (by kernel_rfl) (by kernel_rfl) (by kernel_rfl) (by kernel_rfl) (by kernel_rfl)
  fun x y h => (raw23a_eq x).trans h
theorem ok45 : FOk Try.prog 45 S45 := afun_ok (E := E45) (fn := Try.f45) tabOk (GOk.look (l := []) trivial) Try.checked.mixed Try.func45 (by kernel_rfl) (by kernel_rfl) (by kernel_rfl) (by kernel_rfl) (by kernel_rfl) (by kernel_rfl) (by kernel_rfl)
  fun x y h => (raw45_eq x).trans h
theorem ok44 : FOk Try.prog 44 S44 := afun_ok (E := E44) (fn := Try.f44) tabOk (GOk.look (l := [(45, [S45])]) ⟨⟨ok45, trivial⟩, trivial⟩) Try.checked.mixed Try.func44 (by kernel_rfl) (by kernel_rfl) (by kernel_rfl) (by kernel_rfl) (by kernel_rfl) (by kernel_rfl) (by kernel_rfl)
  fun x y h => (raw44_eq x).trans h
theorem ok29 : FOk Try.prog 29 S29 := afun_ok (E := E29) (fn := Try.f29) tabOk (GOk.look (l := [(44, [S44])]) ⟨⟨ok44, trivial⟩, trivial⟩) Try.checked.mixed Try.func29 (by kernel_rfl) (by kernel_rfl) (by kernel_rfl) (by kernel_rfl) (by kernel_rfl) (by kernel_rfl) (by kernel_rfl)
  fun x y h => (raw29_eq x).trans h
theorem ok30 : FOk Try.prog 30 S30 := afun_ok (E := E30) (fn := Try.f30) tabOk (GOk.look (l := [(44, [S44])]) ⟨⟨ok44, trivial⟩, trivial⟩) Try.checked.mixed Try.func30 (by kernel_rfl) (by kernel_rfl) (by kernel_rfl) (by kernel_rfl) (by kernel_rfl) (by kernel_rfl) (by kernel_rfl)
  fun x y h => (raw30_eq x).trans h
theorem ok31 : FOk Try.prog 31 S31 := afun_ok (E := E31) (fn := Try.f31) tabOk (GOk.look (l := [(44, [S44])]) ⟨⟨ok44, trivial⟩, trivial⟩) Try.checked.mixed Try.func31 (by kernel_rfl) (by kernel_rfl) (by kernel_rfl) (by kernel_rfl) (by kernel_rfl) (by kernel_rfl) (by kernel_rfl)
  fun x y h => (raw31_eq x).trans h
theorem ok32 : FOk Try.prog 32 S32 := afun_ok (E := E32) (fn := Try.f32) tabOk (GOk.look (l := [(44, [S44])]) ⟨⟨ok44, trivial⟩, trivial⟩) Try.checked.mixed Try.func32 (by kernel_rfl) (by kernel_rfl) (by kernel_rfl) (by kernel_rfl) (by kernel_rfl) (by kernel_rfl) (by kernel_rfl)
  fun x y h => (raw32_eq x).trans h
theorem ok33 : FOk Try.prog 33 S33 := afun_ok (E := E33) (fn := Try.f33) tabOk (GOk.look (l := [(31, [S31]), (45, [S45])]) ⟨⟨ok31, trivial⟩, ⟨ok45, trivial⟩, trivial⟩) Try.checked.mixed Try.func33 (by kernel_rfl) (by kernel_rfl) (by kernel_rfl) (by kernel_rfl) (by kernel_rfl) (by kernel_rfl) (by kernel_rfl)
  fun x y h => (raw33_eq x).trans h
theorem ok15 : FOk Try.prog 15 S15 := afun_ok (E := E15) (fn := Try.f15) tabOk (GOk.look (l := [(12, [S12, S12a]), (20, [S20, S20a]), (21, [S21, S21a]), (22, [S22, S22a]), (23, [S23, S23a]), (24, [S24, S24a]), (25, [S25, S25a]), (29, [S29]), (30, [S30]), (31, [S31]), (32, [S32]), (33, [S33])]) ⟨⟨ok12, ok12a, trivial⟩, ⟨ok20, ok20a, trivial⟩, ⟨ok21, ok21a, trivial⟩, ⟨ok22, ok22a, trivial⟩, ⟨ok23, ok23a, trivial⟩, ⟨ok24, ok24a, trivial⟩, ⟨ok25, ok25a, trivial⟩, ⟨ok29, trivial⟩, ⟨ok30, trivial⟩, ⟨ok31, trivial⟩, ⟨ok32, trivial⟩, ⟨ok33, trivial⟩, trivial⟩) Try.checked.mixed Try.func15 (by kernel_rfl) (by kernel_rfl) (by kernel_rfl) (by kernel_rfl) (by kernel_rfl) (by kernel_rfl) (by kernel_rfl)
  fun x y h => (raw15_eq x).trans h
theorem ok16 : FOk Try.prog 16 S16 := afun_ok (E := E16) (fn := Try.f16) tabOk (GOk.look (l := []) trivial) Try.checked.mixed Try.func16 (by kernel_rfl) (by kernel_rfl) (by kernel_rfl) (by kernel_rfl) (by kernel_rfl) (by kernel_rfl) (by kernel_rfl)
  fun x y h => (raw16_eq x).trans h
theorem ok16a : FOk Try.prog 16 S16a := afun_ok (E := E16a) (fn := Try.f16) tabOk (GOk.look (l := []) trivial) Try.checked.mixed Try.func16 (by kernel_rfl) (by kernel_rfl) (by kernel_rfl) (by kernel_rfl) (by kernel_rfl) (by kernel_rfl) (by kernel_rfl)
  fun x y h => (raw16a_eq x).trans h
theorem ok17 : FOk Try.prog 17 S17 := afun_ok (E := E17) (fn := Try.f17) tabOk (GOk.look (l := []) trivial) Try.checked.mixed Try.func17 (by kernel_rfl) (by kernel_rfl) (by kernel_rfl) (by kernel_rfl) (by kernel_rfl) (by kernel_rfl) (by kernel_rfl)
  fun x y h => (raw17_eq x).trans h
theorem ok4 : FOk Try.prog 4 S4 := afun_ok (E := E4) (fn := Try.f4) tabOk (GOk.look (l := [(8, [S8]), (11, [S11]), (13, [S13, S13a]), (14, [S14, S14a]), (15, [S15]), (16, [S16, S16a]), (17, [S17])]) ⟨⟨ok8, trivial⟩, ⟨ok11, trivial⟩, ⟨ok13, ok13a, trivial⟩, ⟨ok14, ok14a, trivial⟩, ⟨ok15, trivial⟩, ⟨ok16, ok16a, trivial⟩, ⟨ok17, trivial⟩, trivial⟩) Try.checked.mixed Try.func4 (by kernel_rfl) (by kernel_rfl) (by kernel_rfl) (by kernel_rfl) (by kernel_rfl) (by kernel_rfl) (by kernel_rfl)
  fun x y h => (raw4_eq x).trans h
theorem ok34 : FOk Try.prog 34 S34 := afun_ok (E := E34) (fn := Try.f34) tabOk (GOk.look (l := [(43, [S43, S43a])]) ⟨⟨ok43, ok43a, trivial⟩, trivial⟩) Try.checked.mixed Try.func34 (by kernel_rfl) (by kernel_rfl) (by kernel_rfl) (by kernel_rfl) (by kernel_rfl) (by kernel_rfl) (by kernel_rfl)
  fun x y h => (raw34_eq x).trans h
theorem ok34a : FOk Try.prog 34 S34a := afun_ok (E := E34a) (fn := Try.f34) tabOk (GOk.look (l := [(43, [S43, S43a])]) ⟨⟨ok43, ok43a, trivial⟩, trivial⟩) Try.checked.mixed Try.func34 (by kernel_rfl) (by kernel_rfl) (by kernel_rfl) (by kernel_rfl) (by kernel_rfl) (by kernel_rfl) (by kernel_rfl)
  fun x y h => (raw34a_eq x).trans h
theorem ok35 : FOk Try.prog 35 S35 := afun_ok (E := E35) (fn := Try.f35) tabOk (GOk.look (l := [(34, [S34, S34a])]) ⟨⟨ok34, ok34a, trivial⟩, trivial⟩) Try.checked.mixed Try.func35 (by kernel_rfl) (by kernel_rfl) (by kernel_rfl) (by kernel_rfl) (by kernel_rfl) (by kernel_rfl) (by kernel_rfl)
  fun x y h => (raw35_eq x).trans h
theorem ok35a : FOk Try.prog 35 S35a := afun_ok (E := E35a) (fn := Try.f35) tabOk (GOk.look (l := [(34, [S34, S34a])]) ⟨⟨ok34, ok34a, trivial⟩, trivial⟩) Try.checked.mixed Try.func35 (by kernel_rfl) (by kernel_rfl) (by kernel_rfl) (by kernel_rfl) (by kernel_rfl) (by kernel_rfl) (by kernel_rfl)
  fun x y h => (raw35a_eq x).trans h
theorem ok36 : FOk Try.prog 36 S36 := afun_ok (E := E36) (fn := Try.f36) tabOk (GOk.look (l := [(43, [S43, S43a])]) ⟨⟨ok43, ok43a, trivial⟩, trivial⟩) Try.checked.mixed Try.func36 (by kernel_rfl) (by kernel_rfl) (by kernel_rfl) (by kernel_rfl) (by kernel_rfl) (by kernel_rfl) (by kernel_rfl)
  fun x y h => (raw36_eq x).trans h
theorem ok36a : FOk Try.prog 36 S36a := afun_ok (E := E36a) (fn := Try.f36) tabOk (GOk.look (l := [(43, [S43, S43a])]) ⟨⟨ok43, ok43a, trivial⟩, trivial⟩) Try.checked.mixed Try.func36 (by kernel_rfl) (by kernel_rfl) (by kernel_rfl) (by kernel_rfl) (by kernel_rfl) (by kernel_rfl) (by kernel_rfl)
  fun x y h => (raw36a_eq x).trans h
theorem ok37 : FOk Try.prog 37 S37 := afun_ok (E := E37) (fn := Try.f37) tabOk (GOk.look (l := [(26, [S26, S26a])]) ⟨⟨ok26, ok26a, trivial⟩, trivial⟩) Try.checked.mixed Try.func37 (by kernel_rfl) (by kernel_rfl) (by kernel_rfl) (by kernel_rfl) (by kernel_rfl) (by kernel_rfl) (by kernel_rfl)
  fun x y h => (raw37_eq x).trans h
theorem ok37a : FOk Try.prog 37 S37a := afun_ok (E := E37a) (fn := Try.f37) tabOk (GOk.look (l := [(26, [S26, S26a])]) ⟨⟨ok26, ok26a, trivial⟩, trivial⟩) Try.checked.mixed Try.func37 (by kernel_rfl) (by kernel_rfl) (by kernel_rfl) (by kernel_rfl) (by kernel_rfl) (by kernel_rfl) (by kernel_rfl)
  fun x y h => (raw37a_eq x).trans h
theorem ok18 : FOk Try.prog 18 S18 := afun_ok (E := E18) (fn := Try.f18) tabOk (GOk.look (l := [(9, [S9, S9a]), (26, [S26, S26a]), (34, [S34, S34a]), (35, [S35, S35a]), (36, [S36, S36a]), (37, [S37, S37a])]) ⟨⟨ok9, ok9a, trivial⟩, ⟨ok26, ok26a, trivial⟩, ⟨ok34, ok34a, trivial⟩, ⟨ok35, ok35a, trivial⟩, ⟨ok36, ok36a, trivial⟩, ⟨ok37, ok37a, trivial⟩, trivial⟩) Try.checked.mixed Try.func18 (by kernel_rfl) (by kernel_rfl) (by kernel_rfl) (by kernel_rfl) (by kernel_rfl) (by kernel_rfl) (by kernel_rfl)
  fun x y h => (raw18_eq x).trans h
theorem ok18a : FOk Try.prog 18 S18a := afun_ok (E := E18a) (fn := Try.f18) tabOk (GOk.look (l := [(9, [S9, S9a]), (26, [S26, S26a]), (34, [S34, S34a]), (35, [S35, S35a]), (36, [S36, S36a]), (37, [S37, S37a])]) ⟨⟨ok9, ok9a, trivial⟩, ⟨ok26, ok26a, trivial⟩, ⟨ok34, ok34a, trivial⟩, ⟨ok35, ok35a, trivial⟩, ⟨ok36, ok36a, trivial⟩, ⟨ok37, ok37a, trivial⟩, trivial⟩) Try.checked.mixed Try.func18 (by kernel_rfl) (by kernel_rfl) (by kernel_rfl) (by kernel_rfl) (by kernel_rfl) (by kernel_rfl) (by kernel_rfl)
  fun x y h => (raw18a_eq x).trans h
theorem ok38 : FOk Try.prog 38 S38 := afun_ok (E := E38) (fn := Try.f38) tabOk (GOk.look (l := []) trivial) Try.checked.mixed Try.func38 (by kernel_rfl) (by kernel_rfl) (by kernel_rfl) (by kernel_rfl) (by kernel_rfl) (by kernel_rfl) (by kernel_rfl)
  fun x y h => (raw38_eq x).trans h
theorem ok46 : FOk Try.prog 46 S46 := afun_ok (E := E46) (fn := Try.f46) tabOk (GOk.look (l := []) trivial) Try.checked.mixed Try.func46 (by kernel_rfl) (by kernel_rfl) (by kernel_rfl) (by kernel_rfl) (by kernel_rfl) (by kernel_rfl) (by kernel_rfl)
  fun x y h => (raw46_eq x).trans h
theorem ok39 : FOk Try.prog 39 S39 := afun_ok (E := E39) (fn := Try.f39) tabOk (GOk.look (l := [(46, [S46])]) ⟨⟨ok46, trivial⟩, trivial⟩) Try.checked.mixed Try.func39 (by kernel_rfl) (by kernel_rfl) (by kernel_rfl) (by kernel_rfl) (by kernel_rfl) (by kernel_rfl) (by kernel_rfl)
  fun x y h => (raw39_eq x).trans h
theorem ok40 : FOk Try.prog 40 S40 := afun_ok (E := E40) (fn := Try.f40) tabOk (GOk.look (l := [(46, [S46])]) ⟨⟨ok46, trivial⟩, trivial⟩) Try.checked.mixed Try.func40 (by kernel_rfl) (by kernel_rfl) (by kernel_rfl) (by kernel_rfl) (by kernel_rfl) (by kernel_rfl) (by kernel_rfl)
  fun x y h => (raw40_eq x).trans h
theorem ok41 : FOk Try.prog 41 S41 := afun_ok (E := E41) (fn := Try.f41) tabOk (GOk.look (l := [(39, [S39])]) ⟨⟨ok39, trivial⟩, trivial⟩) Try.checked.mixed Try.func41 (by kernel_rfl) (by kernel_rfl) (by kernel_rfl) (by kernel_rfl) (by kernel_rfl) (by kernel_rfl) (by kernel_rfl)
  fun x y h => (raw41_eq x).trans h
theorem ok19 : FOk Try.prog 19 S19 := afun_ok (E := E19) (fn := Try.f19) tabOk (GOk.look (l := [(38, [S38]), (39, [S39]), (40, [S40]), (41, [S41])]) ⟨⟨ok38, trivial⟩, ⟨ok39, trivial⟩, ⟨ok40, trivial⟩, ⟨ok41, trivial⟩, trivial⟩) Try.checked.mixed Try.func19 (by kernel_rfl) (by kernel_rfl) (by kernel_rfl) (by kernel_rfl) (by kernel_rfl) (by kernel_rfl) (by kernel_rfl)
  fun x y h => (raw19_eq x).trans h
theorem ok5 : FOk Try.prog 5 S5 := afun_ok (E := E5) (fn := Try.f5) tabOk (GOk.look (l := [(8, [S8]), (10, [S10, S10a]), (18, [S18, S18a]), (19, [S19])]) ⟨⟨ok8, trivial⟩, ⟨ok10, ok10a, trivial⟩, ⟨ok18, ok18a, trivial⟩, ⟨ok19, trivial⟩, trivial⟩) Try.checked.mixed Try.func5 (by kernel_rfl) (by kernel_rfl) (by kernel_rfl) (by kernel_rfl) (by kernel_rfl) (by kernel_rfl) (by kernel_rfl)
  fun x y h => (raw5_eq x).trans h
theorem ok6 : FOk Try.prog 6 S6 := afun_ok (E := E6) (fn := Try.f6) tabOk (GOk.look (l := [(8, [S8]), (10, [S10, S10a]), (11, [S11]), (12, [S12, S12a]), (16, [S16, S16a]), (18, [S18, S18a]), (20, [S20, S20a]), (21, [S21, S21a]), (22, [S22, S22a]), (23, [S23, S23a])]) ⟨⟨ok8, trivial⟩, ⟨ok10, ok10a, trivial⟩, ⟨ok11, trivial⟩, ⟨ok12, ok12a, trivial⟩, ⟨ok16, ok16a, trivial⟩, ⟨ok18, ok18a, trivial⟩, ⟨ok20, ok20a, trivial⟩, ⟨ok21, ok21a, trivial⟩, ⟨ok22, ok22a, trivial⟩, ⟨ok23, ok23a, trivial⟩, trivial⟩) Try.checked.mixed Try.func6 (by kernel_rfl) (by kernel_rfl) (by kernel_rfl) (by kernel_rfl) (by kernel_rfl) (by kernel_rfl) (by kernel_rfl)
  fun x y h => (raw6_eq x).trans h
theorem ok7 : FOk Try.prog 7 S7 := afun_ok (E := E7) (fn := Try.f7) tabOk (GOk.look (l := [(8, [S8]), (10, [S10, S10a]), (11, [S11]), (12, [S12, S12a]), (13, [S13, S13a]), (14, [S14, S14a]), (16, [S16, S16a]), (18, [S18, S18a]), (20, [S20, S20a]), (21, [S21, S21a]), (22, [S22, S22a]), (23, [S23, S23a]), (24, [S24, S24a]), (25, [S25, S25a])]) ⟨⟨ok8, trivial⟩, ⟨ok10, ok10a, trivial⟩, ⟨ok11, trivial⟩, ⟨ok12, ok12a, trivial⟩, ⟨ok13, ok13a, trivial⟩, ⟨ok14, ok14a, trivial⟩, ⟨ok16, ok16a, trivial⟩, ⟨ok18, ok18a, trivial⟩, ⟨ok20, ok20a, trivial⟩, ⟨ok21, ok21a, trivial⟩, ⟨ok22, ok22a, trivial⟩, ⟨ok23, ok23a, trivial⟩, ⟨ok24, ok24a, trivial⟩, ⟨ok25, ok25a, trivial⟩, trivial⟩) Try.checked.mixed Try.func7 (by kernel_rfl) (by kernel_rfl) (by kernel_rfl) (by kernel_rfl) (by kernel_rfl) (by kernel_rfl) (by kernel_rfl)
  fun x y h => (raw7_eq x).trans h
end Go.Proofs.Ytchknfdjnkalkaa
