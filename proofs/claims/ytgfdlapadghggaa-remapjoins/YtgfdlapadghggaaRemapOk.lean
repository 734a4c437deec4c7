/-
  Remap: by a program of the bench (seat.py).
-/
import Derived.Test.YtgfdlapadghggaaRemapRaw
namespace Go.Proofs.Ytgfdlapadghggaa
open Go.Sx Go
theorem ok21 : FOk Try.prog 21 S21 := afun_ok (E := E21) (fn := Try.f21) tabOk (GOk.look (l := []) trivial) Try.checked.mixed Try.func21 (by kernel_rfl) (by kernel_rfl) (by kernel_rfl) (by kernel_rfl) (by kernel_rfl) (by kernel_rfl) (by kernel_rfl)
  fun x y h => (raw21_eq x).trans h
theorem ok11 : FOk Try.prog 11 S11 := afun_ok (E := E11) (fn := Try.f11) tabOk (GOk.look (l := [(21, [S21])]) ⟨⟨ok21, trivial⟩, trivial⟩) Try.checked.mixed Try.func11 (by kernel_rfl) (by kernel_rfl) (by kernel_rfl) (by kernel_rfl) (by kernel_rfl) (by kernel_rfl) (by kernel_rfl)
  fun x y h => (raw11_eq x).trans h
theorem ok8 : FOk Try.prog 8 S8 := afun_ok (E := E8) (fn := Try.f8) tabOk (GOk.look (l := [(11, [S11]), (21, [S21])]) ⟨⟨ok11, trivial⟩, ⟨ok21, trivial⟩, trivial⟩) Try.checked.mixed Try.func8 (by kernel_rfl) (by kernel_rfl) (by kernel_rfl) (by kernel_rfl) (by kernel_rfl) (by kernel_rfl) (by kernel_rfl)
  fun x y h => (raw8_eq x).trans h
theorem ok31 : FOk Try.prog 31 S31 := afun_ok (E := E31) (fn := Try.f31) tabOk (GOk.look (l := []) trivial) Try.checked.mixed Try.func31 (by kernel_rfl) (by kernel_rfl) (by kernel_rfl) (by kernel_rfl) (by kernel_rfl) (by kernel_rfl) (by kernel_rfl)
  fun x y h => (raw31_eq x).trans h
theorem ok24 : FOk Try.prog 24 S24 := afun_ok (E := E24) (fn := Try.f24) tabOk (GOk.look (l := [(31, [S31])]) ⟨⟨ok31, trivial⟩, trivial⟩) Try.checked.mixed Try.func24 (by kernel_rfl) (by kernel_rfl) (by kernel_rfl) (by kernel_rfl) (by kernel_rfl) (by kernel_rfl) (by kernel_rfl)
  fun x y h => (raw24_eq x).trans h
theorem ok23 : FOk Try.prog 23 S23 := afun_ok (E := E23) (fn := Try.f23) tabOk (GOk.look (l := [(24, [S24])]) ⟨⟨ok24, trivial⟩, trivial⟩) Try.checked.mixed Try.func23 (by kernel_rfl) (by kernel_rfl) (by kernel_rfl) (by kernel_rfl) (by kernel_rfl) (by kernel_rfl) (by kernel_rfl)
  fun x y h => (raw23_eq x).trans h
theorem ok33 : FOk Try.prog 33 S33 := afun_ok (E := E33) (fn := Try.f33) tabOk (GOk.look (l := []) trivial) Try.checked.mixed Try.func33 (by kernel_rfl) (by kernel_rfl) (by kernel_rfl) (by kernel_rfl) (by kernel_rfl) (by kernel_rfl) (by kernel_rfl)
  fun x y h => (raw33_eq x).trans h
theorem ok28 : FOk Try.prog 28 S28 := afun_ok (E := E28) (fn := Try.f28) tabOk (GOk.look (l := [(33, [S33])]) ⟨⟨ok33, trivial⟩, trivial⟩) Try.checked.mixed Try.func28 (by kernel_rfl) (by kernel_rfl) (by kernel_rfl) (by kernel_rfl) (by kernel_rfl) (by kernel_rfl) (by kernel_rfl)
  fun x y h => (raw28_eq x).trans h
theorem ok18 : FOk Try.prog 18 S18 := afun_ok (E := E18) (fn := Try.f18) tabOk (GOk.look (l := [(23, [S23]), (24, [S24]), (28, [S28])]) ⟨⟨ok23, trivial⟩, ⟨ok24, trivial⟩, ⟨ok28, trivial⟩, trivial⟩) Try.checked.mixed Try.func18 (by kernel_rfl) (by kernel_rfl) (by kernel_rfl) (by kernel_rfl) (by kernel_rfl) (by kernel_rfl) (by kernel_rfl)
  fun x y h => (raw18_eq x).trans h
theorem ok12 : FOk Try.prog 12 S12 := afun_ok (E := E12) (fn := Try.f12) tabOk (GOk.look (l := [(18, [S18]), (23, [S23]), (24, [S24])]) ⟨⟨ok18, trivial⟩, ⟨ok23, trivial⟩, ⟨ok24, trivial⟩, trivial⟩) Try.checked.mixed Try.func12 (by kernel_rfl) (by kernel_rfl) (by kernel_rfl) (by kernel_rfl) (by kernel_rfl) (by kernel_rfl) (by kernel_rfl)
  fun x y h => (raw12_eq x).trans h
theorem ok16 : FOk Try.prog 16 S16 := afun_ok (E := E16) (fn := Try.f16) tabOk (GOk.look (l := [(23, [S23])]) ⟨⟨ok23, trivial⟩, trivial⟩) Try.checked.mixed Try.func16 (by kernel_rfl) (by kernel_rfl) (by kernel_rfl) (by kernel_rfl) (by kernel_rfl) (by kernel_rfl) (by kernel_rfl)
  fun x y h => (raw16_eq x).trans h
theorem ok7 : FOk Try.prog 7 S7 := afun_ok (E := E7) (fn := Try.f7) tabOk (GOk.look (l := [(8, [S8]), (12, [S12]), (16, [S16])]) ⟨⟨ok8, trivial⟩, ⟨ok12, trivial⟩, ⟨ok16, trivial⟩, trivial⟩) Try.checked.mixed Try.func7 (by kernel_rfl) (by kernel_rfl) (by kernel_rfl) (by kernel_rfl) (by kernel_rfl) (by kernel_rfl) (by kernel_rfl)
  fun x y h => (raw7_eq x).trans h
theorem ok22 : FOk Try.prog 22 S22 := afun_ok (E := E22) (fn := Try.f22) tabOk (GOk.look (l := []) trivial) Try.checked.mixed Try.func22 (by kernel_rfl) (by kernel_rfl) (by kernel_rfl) (by kernel_rfl) (by kernel_rfl) (by kernel_rfl) (by kernel_rfl)
  fun x y h => (raw22_eq x).trans h
theorem ok9 : FOk Try.prog 9 S9 := afun_ok (E := E9) (fn := Try.f9) tabOk (GOk.look (l := [(22, [S22])]) ⟨⟨ok22, trivial⟩, trivial⟩) Try.checked.mixed Try.func9 (by kernel_rfl) (by kernel_rfl) (by kernel_rfl) (by kernel_rfl) (by kernel_rfl) (by kernel_rfl) (by kernel_rfl)
  fun x y h => (raw9_eq x).trans h
theorem ok10 : FOk Try.prog 10 S10 := afun_ok (E := E10) (fn := Try.f10) tabOk (GOk.look (l := [(8, [S8])]) ⟨⟨ok8, trivial⟩, trivial⟩) Try.checked.mixed Try.func10 (by kernel_rfl) (by kernel_rfl) (by kernel_rfl) (by kernel_rfl) (by kernel_rfl) (by kernel_rfl) (by kernel_rfl)
  fun x y h => (raw10_eq x).trans h
theorem ok3 : FOk Try.prog 3 S3 := afun_ok (E := E3) (fn := Try.f3) tabOk (GOk.look (l := [(7, [S7]), (8, [S8]), (9, [S9]), (10, [S10]), (11, [S11])]) ⟨⟨ok7, trivial⟩, ⟨ok8, trivial⟩, ⟨ok9, trivial⟩, ⟨ok10, trivial⟩, ⟨ok11, trivial⟩, trivial⟩) Try.checked.mixed Try.func3 (by kernel_rfl) (by kernel_rfl) (by kernel_rfl) (by kernel_rfl) (by kernel_rfl) (by kernel_rfl) (by kernel_rfl)
  fun x y h => (raw3_eq x).trans h
theorem ok32 : FOk Try.prog 32 S32 := afun_ok (E := E32) (fn := Try.f32) tabOk (GOk.look (l := []) trivial) Try.checked.mixed Try.func32 (by kernel_rfl) (by kernel_rfl) (by kernel_rfl) (by kernel_rfl) (by kernel_rfl) (by kernel_rfl) (by kernel_rfl)
  fun x y h => (raw32_eq x).trans h
theorem ok26 : FOk Try.prog 26 S26 := afun_ok (E := E26) (fn := Try.f26) tabOk (GOk.look (l := [(32, [S32])]) ⟨⟨ok32, trivial⟩, trivial⟩) Try.checked.mixed Try.func26 (by kernel_rfl) (by kernel_rfl) (by kernel_rfl) (by kernel_rfl) (by kernel_rfl) (by kernel_rfl) (by kernel_rfl)
  fun x y h => (raw26_eq x).trans h
theorem ok25 : FOk Try.prog 25 S25 := afun_ok (E := E25) (fn := Try.f25) tabOk (GOk.look (l := [(26, [S26])]) ⟨⟨ok26, trivial⟩, trivial⟩) Try.checked.mixed Try.func25 (by kernel_rfl) (by kernel_rfl) (by kernel_rfl) (by kernel_rfl) (by kernel_rfl) (by kernel_rfl) (by kernel_rfl)
  fun x y h => (raw25_eq x).trans h
theorem ok30 : FOk Try.prog 30 S30 := afun_ok (E := E30) (fn := Try.f30) tabOk (GOk.look (l := []) trivial) Try.checked.mixed Try.func30 (by kernel_rfl) (by kernel_rfl) (by kernel_rfl) (by kernel_rfl) (by kernel_rfl) (by kernel_rfl) (by kernel_rfl)
  fun x y h => (raw30_eq x).trans h
theorem ok19 : FOk Try.prog 19 S19 := afun_ok (E := E19) (fn := Try.f19) tabOk (GOk.look (l := [(25, [S25]), (26, [S26]), (30, [S30])]) ⟨⟨ok25, trivial⟩, ⟨ok26, trivial⟩, ⟨ok30, trivial⟩, trivial⟩) Try.checked.mixed Try.func19 (by kernel_rfl) (by kernel_rfl) (by kernel_rfl) (by kernel_rfl) (by kernel_rfl) (by kernel_rfl) (by kernel_rfl)
  fun x y h => (raw19_eq x).trans h
theorem ok13 : FOk Try.prog 13 S13 := afun_ok (E := E13) (fn := Try.f13) tabOk (GOk.look (l := [(19, [S19]), (25, [S25]), (26, [S26])]) ⟨⟨ok19, trivial⟩, ⟨ok25, trivial⟩, ⟨ok26, trivial⟩, trivial⟩) Try.checked.mixed Try.func13 (by kernel_rfl) (by kernel_rfl) (by kernel_rfl) (by kernel_rfl) (by kernel_rfl) (by kernel_rfl) (by kernel_rfl)
  fun x y h => (raw13_eq x).trans h
theorem ok27 : FOk Try.prog 27 S27 := afun_ok (E := E27) (fn := Try.f27) tabOk (GOk.look (l := [(24, [S24]), (31, [S31])]) ⟨⟨ok24, trivial⟩, ⟨ok31, trivial⟩, trivial⟩) Try.checked.mixed Try.func27 (by kernel_rfl) (by kernel_rfl) (by kernel_rfl) (by kernel_rfl) (by kernel_rfl) (by kernel_rfl) (by kernel_rfl)
  fun x y h => (raw27_eq x).trans h
theorem ok14 : FOk Try.prog 14 S14 := afun_ok (E := E14) (fn := Try.f14) tabOk (GOk.look (l := [(12, [S12]), (16, [S16]), (27, [S27]), (28, [S28])]) ⟨⟨ok12, trivial⟩, ⟨ok16, trivial⟩, ⟨ok27, trivial⟩, ⟨ok28, trivial⟩, trivial⟩) Try.checked.mixed Try.func14 (by kernel_rfl) (by kernel_rfl) (by kernel_rfl) (by kernel_rfl) (by kernel_rfl) (by kernel_rfl) (by kernel_rfl)
  fun x y h => (raw14_eq x).trans h
theorem ok17 : FOk Try.prog 17 S17 := afun_ok (E := E17) (fn := Try.f17) tabOk (GOk.look (l := [(25, [S25])]) ⟨⟨ok25, trivial⟩, trivial⟩) Try.checked.mixed Try.func17 (by kernel_rfl) (by kernel_rfl) (by kernel_rfl) (by kernel_rfl) (by kernel_rfl) (by kernel_rfl) (by kernel_rfl)
  fun x y h => (raw17_eq x).trans h
theorem ok29 : FOk Try.prog 29 S29 := afun_ok (E := E29) (fn := Try.f29) tabOk (GOk.look (l := [(26, [S26]), (32, [S32])]) ⟨⟨ok26, trivial⟩, ⟨ok32, trivial⟩, trivial⟩) Try.checked.mixed Try.func29 (by kernel_rfl) (by kernel_rfl) (by kernel_rfl) (by kernel_rfl) (by kernel_rfl) (by kernel_rfl) (by kernel_rfl)
  fun x y h => (raw29_eq x).trans h
theorem ok15 : FOk Try.prog 15 S15 := afun_ok (E := E15) (fn := Try.f15) tabOk (GOk.look (l := [(13, [S13]), (17, [S17]), (29, [S29]), (30, [S30])]) ⟨⟨ok13, trivial⟩, ⟨ok17, trivial⟩, ⟨ok29, trivial⟩, ⟨ok30, trivial⟩, trivial⟩) Try.checked.mixed Try.func15 (by kernel_rfl) (by kernel_rfl) (by kernel_rfl) (by kernel_rfl) (by kernel_rfl) (by kernel_rfl) (by kernel_rfl)
  fun x y h => (raw15_eq x).trans h
theorem ok4 : FOk Try.prog 4 S4 := afun_ok (E := E4) (fn := Try.f4) tabOk (GOk.look (l := [(7, [S7]), (12, [S12]), (13, [S13]), (14, [S14]), (15, [S15]), (16, [S16]), (17, [S17]), (18, [S18]), (19, [S19])]) ⟨⟨ok7, trivial⟩, ⟨ok12, trivial⟩, ⟨ok13, trivial⟩, ⟨ok14, trivial⟩, ⟨ok15, trivial⟩, ⟨ok16, trivial⟩, ⟨ok17, trivial⟩, ⟨ok18, trivial⟩, ⟨ok19, trivial⟩, trivial⟩) Try.checked.mixed Try.func4 (by kernel_rfl) (by kernel_rfl) (by kernel_rfl) (by kernel_rfl) (by kernel_rfl) (by kernel_rfl) (by kernel_rfl)
  fun x y h => (raw4_eq x).trans h
theorem ok20 : FOk Try.prog 20 S20 := afun_ok (E := E20) (fn := Try.f20) tabOk (GOk.look (l := [(26, [S26]), (29, [S29])]) ⟨⟨ok26, trivial⟩, ⟨ok29, trivial⟩, trivial⟩) Try.checked.mixed Try.func20 (by kernel_rfl) (by kernel_rfl) (by kernel_rfl) (by kernel_rfl) (by kernel_rfl) (by kernel_rfl) (by kernel_rfl)
  fun x y h => (raw20_eq x).trans h
theorem ok5 : FOk Try.prog 5 S5 := afun_ok (E := E5) (fn := Try.f5) tabOk (GOk.look (l := [(7, [S7]), (12, [S12]), (14, [S14]), (20, [S20])]) ⟨⟨ok7, trivial⟩, ⟨ok12, trivial⟩, ⟨ok14, trivial⟩, ⟨ok20, trivial⟩, trivial⟩) Try.checked.mixed Try.func5 (by kernel_rfl) (by kernel_rfl) (by kernel_rfl) (by kernel_rfl) (by kernel_rfl) (by kernel_rfl) (by kernel_rfl)
  fun x y h => (raw5_eq x).trans h
theorem ok6 : FOk Try.prog 6 S6 := afun_ok (E := E6) (fn := Try.f6) tabOk (GOk.look (l := [(7, [S7]), (14, [S14])]) ⟨⟨ok7, trivial⟩, ⟨ok14, trivial⟩, trivial⟩) Try.checked.mixed Try.func6 (by kernel_rfl) (by kernel_rfl) (by kernel_rfl) (by kernel_rfl) (by kernel_rfl) (by kernel_rfl) (by kernel_rfl)
  fun x y h => (raw6_eq x).trans h
end Go.Proofs.Ytgfdlapadghggaa
