/-
  Wiro: by a program of the bench (seat.py).
-/
import Derived.Test.YtcbomldaooeplaaWiroRaw
namespace Go.Proofs.Ytcbomldaooeplaa
open Go.Sx Go
theorem ok7 : FOk Try.prog 7 S7 := afun_ok (E := E7) (fn := Try.f7) tabOk (GOk.look (l := []) trivial) Try.checked.mixed Try.func7 (by kernel_rfl) (by kernel_rfl) (by kernel_rfl) (by kernel_rfl) (by kernel_rfl) (by kernel_rfl) (by kernel_rfl)
  fun x y h => (raw7_eq x).trans h
theorem ok20 : FOk Try.prog 20 S20 := afun_ok (E := E20) (fn := Try.f20) tabOk (GOk.look (l := []) trivial) Try.checked.mixed Try.func20 (by kernel_rfl) (by kernel_rfl) (by kernel_rfl) (by kernel_rfl) (by kernel_rfl) (by kernel_rfl) (by kernel_rfl)
  fun x y h => (raw20_eq x).trans h
theorem ok14 : FOk Try.prog 14 S14 := afun_ok (E := E14) (fn := Try.f14) tabOk (GOk.look (l := [(20, [S20])]) ⟨⟨ok20, trivial⟩, trivial⟩) Try.checked.mixed Try.func14 (by kernel_rfl) (by kernel_rfl) (by kernel_rfl) (by kernel_rfl) (by kernel_rfl) (by kernel_rfl) (by kernel_rfl)
  fun x y h => (raw14_eq x).trans h
theorem ok32 : FOk Try.prog 32 S32 := afun_ok (E := E32) (fn := Try.f32) tabOk (GOk.look (l := []) trivial) Try.checked.mixed Try.func32 (by kernel_rfl) (by kernel_rfl) (by kernel_rfl) (by kernel_rfl) (by kernel_rfl) (by kernel_rfl) (by kernel_rfl)
  fun x y h => (raw32_eq x).trans h
theorem ok28 : FOk Try.prog 28 S28 := afun_ok (E := E28) (fn := Try.f28) tabOk (GOk.look (l := [(20, [S20]), (32, [S32])]) ⟨⟨ok20, trivial⟩, ⟨ok32, trivial⟩, trivial⟩) Try.checked.mixed Try.func28 (by kernel_rfl) (by kernel_rfl) (by kernel_rfl) (by kernel_rfl) (by kernel_rfl) (by kernel_rfl) (by kernel_rfl)
  fun x y h => (raw28_eq x).trans h
theorem ok33 : FOk Try.prog 33 S33 := afun_ok (E := E33) (fn := Try.f33) tabOk (GOk.look (l := []) trivial) Try.checked.mixed Try.func33 (by kernel_rfl) (by kernel_rfl) (by kernel_rfl) (by kernel_rfl) (by kernel_rfl) (by kernel_rfl) (by kernel_rfl)
  fun x y h => (raw33_eq x).trans h
theorem ok29 : FOk Try.prog 29 S29 := afun_ok (E := E29) (fn := Try.f29) tabOk (GOk.look (l := [(33, [S33])]) ⟨⟨ok33, trivial⟩, trivial⟩) Try.checked.mixed Try.func29 (by kernel_rfl) (by kernel_rfl) (by kernel_rfl) (by kernel_rfl) (by kernel_rfl) (by kernel_rfl) (by kernel_rfl)
  fun x y h => (raw29_eq x).trans h
theorem ok30 : FOk Try.prog 30 S30 := afun_ok (E := E30) (fn := Try.f30) tabOk (GOk.look (l := [(28, [S28]), (32, [S32])]) ⟨⟨ok28, trivial⟩, ⟨ok32, trivial⟩, trivial⟩) Try.checked.mixed Try.func30 (by kernel_rfl) (by kernel_rfl) (by kernel_rfl) (by kernel_rfl) (by kernel_rfl) (by kernel_rfl) (by kernel_rfl)
  fun x y h => (raw30_eq x).trans h
theorem ok21 : FOk Try.prog 21 S21 := rec_ok (P := Try.prog) (f := 21) (ps := P21) (rs := R21) (s := F21s) Try.func21 (by kernel_rfl) (by kernel_rfl) (by kernel_rfl) (fun (G : T44D × T52D × Unit → Option (T44D × Unit)) hG => afun_ok (P := Try.prog) (E := E21r G) (f := 21) (fn := Try.f21) (ps := P21) (rs := R21) (F := F21s G) tabOk (GOk.look (l := [(21, [⟨P21, R21, G⟩]), (28, [S28]), (29, [S29]), (30, [S30])]) ⟨⟨hG, trivial⟩, ⟨ok28, trivial⟩, ⟨ok29, trivial⟩, ⟨ok30, trivial⟩, trivial⟩) Try.checked.mixed Try.func21 (by kernel_rfl) (by kernel_rfl) (by kernel_rfl) (by kernel_rfl) (by kernel_rfl) (by kernel_rfl) (by kernel_rfl)
  fun x y h => (raw21_eq G x).trans h) big
theorem ok15 : FOk Try.prog 15 S15 := afun_ok (E := E15) (fn := Try.f15) tabOk (GOk.look (l := [(21, [S21])]) ⟨⟨ok21, trivial⟩, trivial⟩) Try.checked.mixed Try.func15 (by kernel_rfl) (by kernel_rfl) (by kernel_rfl) (by kernel_rfl) (by kernel_rfl) (by kernel_rfl) (by kernel_rfl)
  fun x y h => (raw15_eq x).trans h
theorem ok22 : FOk Try.prog 22 S22 := afun_ok (E := E22) (fn := Try.f22) tabOk (GOk.look (l := []) trivial) Try.checked.mixed Try.func22 (by kernel_rfl) (by kernel_rfl) (by kernel_rfl) (by kernel_rfl) (by kernel_rfl) (by kernel_rfl) (by kernel_rfl)
  fun x y h => (raw22_eq x).trans h
theorem ok16 : FOk Try.prog 16 S16 := afun_ok (E := E16) (fn := Try.f16) tabOk (GOk.look (l := [(22, [S22])]) ⟨⟨ok22, trivial⟩, trivial⟩) Try.checked.mixed Try.func16 (by kernel_rfl) (by kernel_rfl) (by kernel_rfl) (by kernel_rfl) (by kernel_rfl) (by kernel_rfl) (by kernel_rfl)
  fun x y h => (raw16_eq x).trans h
theorem ok8 : FOk Try.prog 8 S8 := afun_ok (E := E8) (fn := Try.f8) tabOk (GOk.look (l := [(14, [S14]), (15, [S15]), (16, [S16])]) ⟨⟨ok14, trivial⟩, ⟨ok15, trivial⟩, ⟨ok16, trivial⟩, trivial⟩) Try.checked.mixed Try.func8 (by kernel_rfl) (by kernel_rfl) (by kernel_rfl) (by kernel_rfl) (by kernel_rfl) (by kernel_rfl) (by kernel_rfl)
  fun x y h => (raw8_eq x).trans h
theorem ok8a : FOk Try.prog 8 S8a := afun_ok (E := E8a) (fn := Try.f8) tabOk (GOk.look (l := [(14, [S14]), (15, [S15]), (16, [S16])]) ⟨⟨ok14, trivial⟩, ⟨ok15, trivial⟩, ⟨ok16, trivial⟩, trivial⟩) Try.checked.mixed Try.func8 (by kernel_rfl) (by kernel_rfl) (by kernel_rfl) (by kernel_rfl) (by kernel_rfl) (by kernel_rfl) (by kernel_rfl)
  fun x y h => (raw8a_eq x).trans h
theorem ok23 : FOk Try.prog 23 S23 := afun_ok (E := E23) (fn := Try.f23) tabOk (GOk.look (l := [(14, [S14]), (20, [S20])]) ⟨⟨ok14, trivial⟩, ⟨ok20, trivial⟩, trivial⟩) Try.checked.mixed Try.func23 (by kernel_rfl) (by kernel_rfl) (by kernel_rfl) (by kernel_rfl) (by kernel_rfl) (by kernel_rfl) (by kernel_rfl)
  fun x y h => (raw23_eq x).trans h
theorem ok17 : FOk Try.prog 17 S17 := afun_ok (E := E17) (fn := Try.f17) tabOk (GOk.look (l := [(23, [S23])]) ⟨⟨ok23, trivial⟩, trivial⟩) Try.checked.mixed Try.func17 (by kernel_rfl) (by kernel_rfl) (by kernel_rfl) (by kernel_rfl) (by kernel_rfl) (by kernel_rfl) (by kernel_rfl)
  fun x y h => (raw17_eq x).trans h
theorem ok17a : FOk Try.prog 17 S17a := afun_ok (E := E17a) (fn := Try.f17) tabOk (GOk.look (l := [(23, [S23])]) ⟨⟨ok23, trivial⟩, trivial⟩) Try.checked.mixed Try.func17 (by kernel_rfl) (by kernel_rfl) (by kernel_rfl) (by kernel_rfl) (by kernel_rfl) (by kernel_rfl) (by kernel_rfl)
  fun x y h => (raw17a_eq x).trans h
theorem ok24 : FOk Try.prog 24 S24 := afun_ok (E := E24) (fn := Try.f24) tabOk (GOk.look (l := [(29, [S29])]) ⟨⟨ok29, trivial⟩, trivial⟩) Try.checked.mixed Try.func24 (by kernel_rfl) (by kernel_rfl) (by kernel_rfl) (by kernel_rfl) (by kernel_rfl) (by kernel_rfl) (by kernel_rfl)
  fun x y h => (raw24_eq x).trans h
theorem ok31 : FOk Try.prog 31 S31 := rec_ok (P := Try.prog) (f := 31) (ps := P31) (rs := R31) (s := F31s) Try.func31 (by kernel_rfl) (by kernel_rfl) (by kernel_rfl) (fun (G : T44D × Unit → Option (T52D × T44D × Unit)) hG => afun_ok (P := Try.prog) (E := E31r G) (f := 31) (fn := Try.f31) (ps := P31) (rs := R31) (F := F31s G) tabOk (GOk.look (l := [(30, [S30]), (31, [⟨P31, R31, G⟩])]) ⟨⟨ok30, trivial⟩, ⟨hG, trivial⟩, trivial⟩) Try.checked.mixed Try.func31 (by kernel_rfl) (by kernel_rfl) (by kernel_rfl) (by kernel_rfl) (by kernel_rfl) (by kernel_rfl) (by kernel_rfl)
  fun x y h => (raw31_eq G x).trans h) big
theorem ok25 : FOk Try.prog 25 S25 := rec_ok (P := Try.prog) (f := 25) (ps := P25) (rs := R25) (s := F25s) Try.func25 (by kernel_rfl) (by kernel_rfl) (by kernel_rfl) (fun (G : T44D × Int × Unit → Option (T44D × Unit)) hG => afun_ok (P := Try.prog) (E := E25r G) (f := 25) (fn := Try.f25) (ps := P25) (rs := R25) (F := F25s G) tabOk (GOk.look (l := [(25, [⟨P25, R25, G⟩]), (29, [S29]), (30, [S30]), (31, [S31])]) ⟨⟨hG, trivial⟩, ⟨ok29, trivial⟩, ⟨ok30, trivial⟩, ⟨ok31, trivial⟩, trivial⟩) Try.checked.mixed Try.func25 (by kernel_rfl) (by kernel_rfl) (by kernel_rfl) (by kernel_rfl) (by kernel_rfl) (by kernel_rfl) (by kernel_rfl)
  fun x y h => (raw25_eq G x).trans h) big
theorem ok18 : FOk Try.prog 18 S18 := afun_ok (E := E18) (fn := Try.f18) tabOk (GOk.look (l := [(24, [S24]), (25, [S25])]) ⟨⟨ok24, trivial⟩, ⟨ok25, trivial⟩, trivial⟩) Try.checked.mixed Try.func18 (by kernel_rfl) (by kernel_rfl) (by kernel_rfl) (by kernel_rfl) (by kernel_rfl) (by kernel_rfl) (by kernel_rfl)
  fun x y h => (raw18_eq x).trans h
theorem ok9 : FOk Try.prog 9 S9 := afun_ok (E := E9) (fn := Try.f9) tabOk (GOk.look (l := [(16, [S16]), (17, [S17, S17a]), (18, [S18])]) ⟨⟨ok16, trivial⟩, ⟨ok17, ok17a, trivial⟩, ⟨ok18, trivial⟩, trivial⟩) Try.checked.mixed Try.func9 (by kernel_rfl) (by kernel_rfl) (by kernel_rfl) (by kernel_rfl) (by kernel_rfl) (by kernel_rfl) (by kernel_rfl)
  fun x y h => (raw9_eq x).trans h
theorem ok9a : FOk Try.prog 9 S9a := afun_ok (E := E9a) (fn := Try.f9) tabOk (GOk.look (l := [(16, [S16]), (17, [S17, S17a]), (18, [S18])]) ⟨⟨ok16, trivial⟩, ⟨ok17, ok17a, trivial⟩, ⟨ok18, trivial⟩, trivial⟩) Try.checked.mixed Try.func9 (by kernel_rfl) (by kernel_rfl) (by kernel_rfl) (by kernel_rfl) (by kernel_rfl) (by kernel_rfl) (by kernel_rfl)
  fun x y h => (raw9a_eq x).trans h
theorem ok13 : FOk Try.prog 13 S13 := afun_ok (E := E13) (fn := Try.f13) tabOk (GOk.look (l := [(14, [S14])]) ⟨⟨ok14, trivial⟩, trivial⟩) Try.checked.mixed Try.func13 (by kernel_rfl) (by kernel_rfl) (by kernel_rfl) (by kernel_rfl) (by kernel_rfl) (by kernel_rfl) (by kernel_rfl)
  fun x y h => (raw13_eq x).trans h
theorem ok13a : FOk Try.prog 13 S13a := afun_ok (E := E13a) (fn := Try.f13) tabOk (GOk.look (l := [(14, [S14])]) ⟨⟨ok14, trivial⟩, trivial⟩) Try.checked.mixed Try.func13 (by kernel_rfl) (by kernel_rfl) (by kernel_rfl) (by kernel_rfl) (by kernel_rfl) (by kernel_rfl) (by kernel_rfl)
  fun x y h => (raw13a_eq x).trans h
theorem ok5 : FOk Try.prog 5 S5 := afun_ok (E := E5) (fn := Try.f5) tabOk (GOk.look (l := [(7, [S7]), (8, [S8, S8a]), (9, [S9, S9a]), (13, [S13, S13a])]) ⟨⟨ok7, trivial⟩, ⟨ok8, ok8a, trivial⟩, ⟨ok9, ok9a, trivial⟩, ⟨ok13, ok13a, trivial⟩, trivial⟩) Try.checked.mixed Try.func5 (by kernel_rfl) (by kernel_rfl) (by kernel_rfl) (by kernel_rfl) (by kernel_rfl) (by kernel_rfl) (by kernel_rfl)
  fun x y h => (raw5_eq x).trans h
theorem ok11 : FOk Try.prog 11 S11 := afun_ok (E := E11) (fn := Try.f11) tabOk (GOk.look (l := [(8, [S8, S8a]), (17, [S17, S17a])]) ⟨⟨ok8, ok8a, trivial⟩, ⟨ok17, ok17a, trivial⟩, trivial⟩) Try.checked.mixed Try.func11 (by kernel_rfl) (by kernel_rfl) (by kernel_rfl) (by kernel_rfl) (by kernel_rfl) (by kernel_rfl) (by kernel_rfl)
  fun x y h => (raw11_eq x).trans h
theorem ok11a : FOk Try.prog 11 S11a := afun_ok (E := E11a) (fn := Try.f11) tabOk (GOk.look (l := [(8, [S8, S8a]), (17, [S17, S17a])]) ⟨⟨ok8, ok8a, trivial⟩, ⟨ok17, ok17a, trivial⟩, trivial⟩) Try.checked.mixed Try.func11 (by kernel_rfl) (by kernel_rfl) (by kernel_rfl) (by kernel_rfl) (by kernel_rfl) (by kernel_rfl) (by kernel_rfl)
  fun x y h => (raw11a_eq x).trans h
theorem ok27 : FOk Try.prog 27 S27 := afun_ok (E := E27) (fn := Try.f27) tabOk (GOk.look (l := []) trivial) Try.checked.mixed Try.func27 (by kernel_rfl) (by kernel_rfl) (by kernel_rfl) (by kernel_rfl) (by kernel_rfl) (by kernel_rfl) (by kernel_rfl)
  fun x y h => (raw27_eq x).trans h
theorem ok27a : FOk Try.prog 27 S27a := afun_ok (E := E27a) (fn := Try.f27) tabOk (GOk.look (l := []) trivial) Try.checked.mixed Try.func27 (by kernel_rfl) (by kernel_rfl) (by kernel_rfl) (by kernel_rfl) (by kernel_rfl) (by kernel_rfl) (by kernel_rfl)
  fun x y h => (raw27a_eq x).trans h
theorem ok26a : FOk Try.prog 26 S26a := rec_ok (P := Try.prog) (f := 26) (ps := P26a) (rs := R26a) (s := F26as) Try.func26 (by kernel_rfl) (by kernel_rfl) (by kernel_rfl) (fun (G : T44D × (List T52D × Unit) × Unit → Option ((List T52D × Unit) × Unit)) hG => afun_ok (P := Try.prog) (E := E26ar G) (f := 26) (fn := Try.f26) (ps := P26a) (rs := R26a) (F := F26as G) tabOk (GOk.look (l := [(26, [⟨P26a, R26a, G⟩]), (27, [S27, S27a])]) ⟨⟨hG, trivial⟩, ⟨ok27, ok27a, trivial⟩, trivial⟩) Try.checked.mixed Try.func26 (by kernel_rfl) (by kernel_rfl) (by kernel_rfl) (by kernel_rfl) (by kernel_rfl) (by kernel_rfl) (by kernel_rfl)
  fun x y h => (raw26a_eq G x).trans h) big
theorem ok19 : FOk Try.prog 19 S19 := afun_ok (E := E19) (fn := Try.f19) tabOk (GOk.look (l := [(26, [S26a]), (27, [S27, S27a])]) ⟨⟨ok26a, trivial⟩, ⟨ok27, ok27a, trivial⟩, trivial⟩) Try.checked.mixed Try.func19 (by kernel_rfl) (by kernel_rfl) (by kernel_rfl) (by kernel_rfl) (by kernel_rfl) (by kernel_rfl) (by kernel_rfl)
  fun x y h => (raw19_eq x).trans h
theorem ok12 : FOk Try.prog 12 S12 := afun_ok (E := E12) (fn := Try.f12) (tabOk.deeps [22, 29, 56]) (GOk.look (l := [(16, [S16]), (19, [S19])]) ⟨⟨ok16, trivial⟩, ⟨ok19, trivial⟩, trivial⟩) Try.checked.mixed Try.func12 (by kernel_rfl) (by kernel_rfl) (by kernel_rfl) (by kernel_rfl) (by kernel_rfl) (by kernel_rfl) (by kernel_rfl)
  fun x y h => (raw12_eq x).trans h
theorem ok12a : FOk Try.prog 12 S12a := afun_ok (E := E12a) (fn := Try.f12) (tabOk.deeps [22, 29, 56]) (GOk.look (l := [(16, [S16]), (19, [S19])]) ⟨⟨ok16, trivial⟩, ⟨ok19, trivial⟩, trivial⟩) Try.checked.mixed Try.func12 (by kernel_rfl) (by kernel_rfl) (by kernel_rfl) (by kernel_rfl) (by kernel_rfl) (by kernel_rfl) (by kernel_rfl)
  fun x y h => (raw12a_eq x).trans h
theorem ok4 : FOk Try.prog 4 S4 := afun_ok (E := E4) (fn := Try.f4) (tabOk.deeps [22, 29, 56]) (GOk.look (l := [(5, [S5]), (7, [S7]), (8, [S8, S8a]), (9, [S9, S9a]), (11, [S11, S11a]), (12, [S12, S12a]), (13, [S13, S13a])]) ⟨⟨ok5, trivial⟩, ⟨ok7, trivial⟩, ⟨ok8, ok8a, trivial⟩, ⟨ok9, ok9a, trivial⟩, ⟨ok11, ok11a, trivial⟩, ⟨ok12, ok12a, trivial⟩, ⟨ok13, ok13a, trivial⟩, trivial⟩) Try.checked.mixed Try.func4 (by kernel_rfl) (by kernel_rfl) (by kernel_rfl) (by kernel_rfl) (by kernel_rfl) (by kernel_rfl) (by kernel_rfl)
  fun x y h => (raw4_eq x).trans h
end Go.Proofs.Ytcbomldaooeplaa
