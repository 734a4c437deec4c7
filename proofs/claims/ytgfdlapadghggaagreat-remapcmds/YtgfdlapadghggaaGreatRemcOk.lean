/-
  Remc: by a program of the bench (seat.py).
-/
import Derived.Test.YtgfdlapadghggaaGreatRemcHand
import Derived.Test.YtgfdlapadghggaaGreatRemcRaw
namespace Go.Proofs.YtgfdlapadghggaaGreat
open Go.Sx Go
theorem ok63 : FOk Tryz.prog 63 S63 := afun_ok (E := E63) (fn := Tryz.f63) tabOk (GOk.look (l := []) trivial) Tryz.checked.mixed Tryz.func63 (by kernel_rfl) (by kernel_rfl) (by kernel_rfl) (by kernel_rfl) (by kernel_rfl) (by kernel_rfl) (by kernel_rfl)
  fun x y h => (raw63_eq x).trans h
theorem ok42 : FOk Tryz.prog 42 S42 := afun_ok (E := E42) (fn := Tryz.f42) tabOk (GOk.look (l := [(63, [S63])]) ⟨⟨ok63, trivial⟩, trivial⟩) Tryz.checked.mixed Tryz.func42 (by kernel_rfl) (by kernel_rfl) (by kernel_rfl) (by kernel_rfl) (by kernel_rfl) (by kernel_rfl) (by kernel_rfl)
  fun x y h => (raw42_eq x).trans h
theorem ok41 : FOk Tryz.prog 41 S41 := afun_ok (E := E41) (fn := Tryz.f41) tabOk (GOk.look (l := [(42, [S42])]) ⟨⟨ok42, trivial⟩, trivial⟩) Tryz.checked.mixed Tryz.func41 (by kernel_rfl) (by kernel_rfl) (by kernel_rfl) (by kernel_rfl) (by kernel_rfl) (by kernel_rfl) (by kernel_rfl)
  fun x y h => (raw41_eq x).trans h
theorem ok78 : FOk Tryz.prog 78 S78 := afun_ok (E := E78) (fn := Tryz.f78) tabOk (GOk.look (l := []) trivial) Tryz.checked.mixed Tryz.func78 (by kernel_rfl) (by kernel_rfl) (by kernel_rfl) (by kernel_rfl) (by kernel_rfl) (by kernel_rfl) (by kernel_rfl)
  fun x y h => (raw78_eq x).trans h
theorem ok53 : FOk Tryz.prog 53 S53 := afun_ok (E := E53) (fn := Tryz.f53) tabOk (GOk.look (l := [(78, [S78])]) ⟨⟨ok78, trivial⟩, trivial⟩) Tryz.checked.mixed Tryz.func53 (by kernel_rfl) (by kernel_rfl) (by kernel_rfl) (by kernel_rfl) (by kernel_rfl) (by kernel_rfl) (by kernel_rfl)
  fun x y h => (raw53_eq x).trans h
theorem ok40 : FOk Tryz.prog 40 S40 := afun_ok (E := E40) (fn := Tryz.f40) tabOk (GOk.look (l := [(41, [S41]), (42, [S42]), (53, [S53])]) ⟨⟨ok41, trivial⟩, ⟨ok42, trivial⟩, ⟨ok53, trivial⟩, trivial⟩) Tryz.checked.mixed Tryz.func40 (by kernel_rfl) (by kernel_rfl) (by kernel_rfl) (by kernel_rfl) (by kernel_rfl) (by kernel_rfl) (by kernel_rfl)
  fun x y h => (raw40_eq x).trans h
theorem ok13 : FOk Tryz.prog 13 S13 := afun_ok (E := E13) (fn := Tryz.f13) tabOk (GOk.look (l := [(40, [S40]), (41, [S41]), (42, [S42])]) ⟨⟨ok40, trivial⟩, ⟨ok41, trivial⟩, ⟨ok42, trivial⟩, trivial⟩) Tryz.checked.mixed Tryz.func13 (by kernel_rfl) (by kernel_rfl) (by kernel_rfl) (by kernel_rfl) (by kernel_rfl) (by kernel_rfl) (by kernel_rfl)
  fun x y h => (raw13_eq x).trans h
theorem ok44 : FOk Tryz.prog 44 S44 := afun_ok (E := E44) (fn := Tryz.f44) tabOk (GOk.look (l := []) trivial) Tryz.checked.mixed Tryz.func44 (by kernel_rfl) (by kernel_rfl) (by kernel_rfl) (by kernel_rfl) (by kernel_rfl) (by kernel_rfl) (by kernel_rfl)
  fun x y h => (raw44_eq x).trans h
theorem ok43 : FOk Tryz.prog 43 S43 := afun_ok (E := E43) (fn := Tryz.f43) tabOk (GOk.look (l := [(44, [S44])]) ⟨⟨ok44, trivial⟩, trivial⟩) Tryz.checked.mixed Tryz.func43 (by kernel_rfl) (by kernel_rfl) (by kernel_rfl) (by kernel_rfl) (by kernel_rfl) (by kernel_rfl) (by kernel_rfl)
  fun x y h => (raw43_eq x).trans h
theorem ok14 : FOk Tryz.prog 14 S14 := afun_ok (E := E14) (fn := Tryz.f14) tabOk (GOk.look (l := [(43, [S43]), (44, [S44])]) ⟨⟨ok43, trivial⟩, ⟨ok44, trivial⟩, trivial⟩) Tryz.checked.mixed Tryz.func14 (by kernel_rfl) (by kernel_rfl) (by kernel_rfl) (by kernel_rfl) (by kernel_rfl) (by kernel_rfl) (by kernel_rfl)
  fun x y h => (raw14_eq x).trans h
theorem ok15 : FOk Tryz.prog 15 S15 := afun_ok (E := E15) (fn := Tryz.f15) tabOk (GOk.look (l := [(41, [S41])]) ⟨⟨ok41, trivial⟩, trivial⟩) Tryz.checked.mixed Tryz.func15 (by kernel_rfl) (by kernel_rfl) (by kernel_rfl) (by kernel_rfl) (by kernel_rfl) (by kernel_rfl) (by kernel_rfl)
  fun x y h => (raw15_eq x).trans h
theorem ok4 : FOk Tryz.prog 4 S4 := afun_ok (E := E4) (fn := Tryz.f4) tabOk (GOk.look (l := [(13, [S13]), (14, [S14]), (15, [S15])]) ⟨⟨ok13, trivial⟩, ⟨ok14, trivial⟩, ⟨ok15, trivial⟩, trivial⟩) Tryz.checked.mixed Tryz.func4 (by kernel_rfl) (by kernel_rfl) (by kernel_rfl) (by kernel_rfl) (by kernel_rfl) (by kernel_rfl) (by kernel_rfl)
  fun x y h => (raw4_eq x).trans h
theorem ok5 : FOk Tryz.prog 5 S5 := afun_ok (E := E5) (fn := Tryz.f5) tabOk (GOk.look (l := []) trivial) Tryz.checked.mixed Tryz.func5 (by kernel_rfl) (by kernel_rfl) (by kernel_rfl) (by kernel_rfl) (by kernel_rfl) (by kernel_rfl) (by kernel_rfl)
  fun x y h => (raw5_eq x).trans h
theorem ok64 : FOk Tryz.prog 64 S64 := afun_ok (E := E64) (fn := Tryz.f64) tabOk (GOk.look (l := []) trivial) Tryz.checked.mixed Tryz.func64 (by kernel_rfl) (by kernel_rfl) (by kernel_rfl) (by kernel_rfl) (by kernel_rfl) (by kernel_rfl) (by kernel_rfl)
  fun x y h => (raw64_eq x).trans h
theorem ok65 : FOk Tryz.prog 65 S65 := afun_ok (E := E65) (fn := Tryz.f65) tabOk (GOk.look (l := []) trivial) Tryz.checked.mixed Tryz.func65 (by kernel_rfl) (by kernel_rfl) (by kernel_rfl) (by kernel_rfl) (by kernel_rfl) (by kernel_rfl) (by kernel_rfl)
  fun x y h => (raw65_eq x).trans h
theorem ok80 : FOk Tryz.prog 80 S80 := afun_ok (E := E80) (fn := Tryz.f80) tabOk (GOk.look (l := []) trivial) Tryz.checked.mixed Tryz.func80 (by kernel_rfl) (by kernel_rfl) (by kernel_rfl) (by kernel_rfl) (by kernel_rfl) (by kernel_rfl) (by kernel_rfl)
  fun x y h => (raw80_eq x).trans h
theorem ok66 : FOk Tryz.prog 66 S66 := afun_ok (E := E66) (fn := Tryz.f66) tabOk (GOk.look (l := [(80, [S80])]) ⟨⟨ok80, trivial⟩, trivial⟩) Tryz.checked.mixed Tryz.func66 (by kernel_rfl) (by kernel_rfl) (by kernel_rfl) (by kernel_rfl) (by kernel_rfl) (by kernel_rfl) (by kernel_rfl)
  fun x y h => (raw66_eq x).trans h
theorem ok83 : FOk Tryz.prog 83 S83 := afun_ok (E := E83) (fn := Tryz.f83) tabOk (GOk.look (l := [(66, [S66])]) ⟨⟨ok66, trivial⟩, trivial⟩) Tryz.checked.mixed Tryz.func83 (by kernel_rfl) (by kernel_rfl) (by kernel_rfl) (by kernel_rfl) (by kernel_rfl) (by kernel_rfl) (by kernel_rfl)
  fun x y h => (raw83_eq x).trans h
theorem ok82 : FOk Tryz.prog 82 S82 := afun_ok (E := E82) (fn := Tryz.f82) tabOk (GOk.look (l := [(83, [S83])]) ⟨⟨ok83, trivial⟩, trivial⟩) Tryz.checked.mixed Tryz.func82 (by kernel_rfl) (by kernel_rfl) (by kernel_rfl) (by kernel_rfl) (by kernel_rfl) (by kernel_rfl) (by kernel_rfl)
  fun x y h => (raw82_eq x).trans h
theorem ok81a : FOk Tryz.prog 81 S81a := afun_ok (E := E81a) (fn := Tryz.f81) tabOk (GOk.look (l := [(82, [S82])]) ⟨⟨ok82, trivial⟩, trivial⟩) Tryz.checked.mixed Tryz.func81 (by kernel_rfl) (by kernel_rfl) (by kernel_rfl) (by kernel_rfl) (by kernel_rfl) (by kernel_rfl) (by kernel_rfl)
  fun x y h => (raw81a_eq x).trans h
theorem ok67 : FOk Tryz.prog 67 S67 := afun_ok (E := E67) (fn := Tryz.f67) tabOk (GOk.look (l := [(81, [S81a]), (82, [S82])]) ⟨⟨ok81a, trivial⟩, ⟨ok82, trivial⟩, trivial⟩) Tryz.checked.mixed Tryz.func67 (by kernel_rfl) (by kernel_rfl) (by kernel_rfl) (by kernel_rfl) (by kernel_rfl) (by kernel_rfl) (by kernel_rfl)
  fun x y h => (raw67_eq x).trans h
theorem ok68 : FOk Tryz.prog 68 S68 := afun_ok (E := E68) (fn := Tryz.f68) tabOk (GOk.look (l := []) trivial) Tryz.checked.mixed Tryz.func68 (by kernel_rfl) (by kernel_rfl) (by kernel_rfl) (by kernel_rfl) (by kernel_rfl) (by kernel_rfl) (by kernel_rfl)
  fun x y h => (raw68_eq x).trans h
theorem ok45 : FOk Tryz.prog 45 S45 := afun_ok (E := E45) (fn := Tryz.f45) tabOk (GOk.look (l := [(64, [S64]), (65, [S65]), (66, [S66]), (67, [S67]), (68, [S68])]) ⟨⟨ok64, trivial⟩, ⟨ok65, trivial⟩, ⟨ok66, trivial⟩, ⟨ok67, trivial⟩, ⟨ok68, trivial⟩, trivial⟩) Tryz.checked.mixed Tryz.func45 (by kernel_rfl) (by kernel_rfl) (by kernel_rfl) (by kernel_rfl) (by kernel_rfl) (by kernel_rfl) (by kernel_rfl)
  fun x y h => (raw45_eq x).trans h
theorem ok69 : FOk Tryz.prog 69 S69 := afun_ok (E := E69) (fn := Tryz.f69) tabOk (GOk.look (l := []) trivial) Tryz.checked.mixed Tryz.func69 (by kernel_rfl) (by kernel_rfl) (by kernel_rfl) (by kernel_rfl) (by kernel_rfl) (by kernel_rfl) (by kernel_rfl)
  fun x y h => (raw69_eq x).trans h
theorem ok46 : FOk Tryz.prog 46 S46 := afun_ok (E := E46) (fn := Tryz.f46) tabOk (GOk.look (l := [(69, [S69])]) ⟨⟨ok69, trivial⟩, trivial⟩) Tryz.checked.mixed Tryz.func46 (by kernel_rfl) (by kernel_rfl) (by kernel_rfl) (by kernel_rfl) (by kernel_rfl) (by kernel_rfl) (by kernel_rfl)
  fun x y h => (raw46_eq x).trans h
theorem ok72 : FOk Tryz.prog 72 S72 := afun_ok (E := E72) (fn := Tryz.f72) tabOk (GOk.look (l := []) trivial) Tryz.checked.mixed Tryz.func72 (by kernel_rfl) (by kernel_rfl) (by kernel_rfl) (by kernel_rfl) (by kernel_rfl) (by kernel_rfl) (by kernel_rfl)
  fun x y h => (raw72_eq x).trans h
theorem ok74 : FOk Tryz.prog 74 S74 := afun_ok (E := E74) (fn := Tryz.f74) tabOk (GOk.look (l := [(72, [S72])]) ⟨⟨ok72, trivial⟩, trivial⟩) Tryz.checked.mixed Tryz.func74 (by kernel_rfl) (by kernel_rfl) (by kernel_rfl) (by kernel_rfl) (by kernel_rfl) (by kernel_rfl) (by kernel_rfl)
  fun x y h => (raw74_eq x).trans h
theorem ok89a : FOk Tryz.prog 89 S89a := afun_ok (E := E89a) (fn := Tryz.f89) tabOk (GOk.look (l := [(74, [S74])]) ⟨⟨ok74, trivial⟩, trivial⟩) Tryz.checked.mixed Tryz.func89 (by kernel_rfl) (by kernel_rfl) (by kernel_rfl) (by kernel_rfl) (by kernel_rfl) (by kernel_rfl) (by kernel_rfl)
  fun x y h => (raw89a_eq x).trans h
theorem ok73a : FOk Tryz.prog 73 S73a := afun_ok (E := E73a) (fn := Tryz.f73) tabOk (GOk.look (l := [(74, [S74]), (89, [S89a])]) ⟨⟨ok74, trivial⟩, ⟨ok89a, trivial⟩, trivial⟩) Tryz.checked.mixed Tryz.func73 (by kernel_rfl) (by kernel_rfl) (by kernel_rfl) (by kernel_rfl) (by kernel_rfl) (by kernel_rfl) (by kernel_rfl)
  fun x y h => (raw73a_eq x).trans h
theorem ok48 : FOk Tryz.prog 48 S48 := afun_ok (E := E48) (fn := Tryz.f48) tabOk (GOk.look (l := [(73, [S73a]), (74, [S74])]) ⟨⟨ok73a, trivial⟩, ⟨ok74, trivial⟩, trivial⟩) Tryz.checked.mixed Tryz.func48 (by kernel_rfl) (by kernel_rfl) (by kernel_rfl) (by kernel_rfl) (by kernel_rfl) (by kernel_rfl) (by kernel_rfl)
  fun x y h => (raw48_eq x).trans h
theorem ok52 : FOk Tryz.prog 52 S52 := afun_ok (E := E52) (fn := Tryz.f52) tabOk (GOk.look (l := [(42, [S42]), (63, [S63])]) ⟨⟨ok42, trivial⟩, ⟨ok63, trivial⟩, trivial⟩) Tryz.checked.mixed Tryz.func52 (by kernel_rfl) (by kernel_rfl) (by kernel_rfl) (by kernel_rfl) (by kernel_rfl) (by kernel_rfl) (by kernel_rfl)
  fun x y h => (raw52_eq x).trans h
theorem ok92 : FOk Tryz.prog 92 S92 := afun_ok (E := E92) (fn := Tryz.f92) tabOk (GOk.look (l := [(72, [S72])]) ⟨⟨ok72, trivial⟩, trivial⟩) Tryz.checked.mixed Tryz.func92 (by kernel_rfl) (by kernel_rfl) (by kernel_rfl) (by kernel_rfl) (by kernel_rfl) (by kernel_rfl) (by kernel_rfl)
  fun x y h => (raw92_eq x).trans h
theorem ok89b : FOk Tryz.prog 89 S89b := afun_ok (E := E89b) (fn := Tryz.f89) tabOk (GOk.look (l := [(92, [S92])]) ⟨⟨ok92, trivial⟩, trivial⟩) Tryz.checked.mixed Tryz.func89 (by kernel_rfl) (by kernel_rfl) (by kernel_rfl) (by kernel_rfl) (by kernel_rfl) (by kernel_rfl) (by kernel_rfl)
  fun x y h => (raw89b_eq x).trans h
theorem ok73b : FOk Tryz.prog 73 S73b := afun_ok (E := E73b) (fn := Tryz.f73) tabOk (GOk.look (l := [(89, [S89a, S89b]), (92, [S92])]) ⟨⟨ok89a, ok89b, trivial⟩, ⟨ok92, trivial⟩, trivial⟩) Tryz.checked.mixed Tryz.func73 (by kernel_rfl) (by kernel_rfl) (by kernel_rfl) (by kernel_rfl) (by kernel_rfl) (by kernel_rfl) (by kernel_rfl)
  fun x y h => (raw73b_eq x).trans h
theorem ok84 : FOk Tryz.prog 84 S84 := afun_ok (E := E84) (fn := Tryz.f84) tabOk (GOk.look (l := [(73, [S73a, S73b]), (92, [S92])]) ⟨⟨ok73a, ok73b, trivial⟩, ⟨ok92, trivial⟩, trivial⟩) Tryz.checked.mixed Tryz.func84 (by kernel_rfl) (by kernel_rfl) (by kernel_rfl) (by kernel_rfl) (by kernel_rfl) (by kernel_rfl) (by kernel_rfl)
  fun x y h => (raw84_eq x).trans h
theorem ok70 : FOk Tryz.prog 70 S70 := afun_ok (E := E70) (fn := Tryz.f70) tabOk (GOk.look (l := [(42, [S42]), (84, [S84])]) ⟨⟨ok42, trivial⟩, ⟨ok84, trivial⟩, trivial⟩) Tryz.checked.mixed Tryz.func70 (by kernel_rfl) (by kernel_rfl) (by kernel_rfl) (by kernel_rfl) (by kernel_rfl) (by kernel_rfl) (by kernel_rfl)
  fun x y h => (raw70_eq x).trans h
theorem ok87 : FOk Tryz.prog 87 S87 := afun_ok (E := E87) (fn := Tryz.f87) tabOk (GOk.look (l := [(42, [S42]), (72, [S72])]) ⟨⟨ok42, trivial⟩, ⟨ok72, trivial⟩, trivial⟩) Tryz.checked.mixed Tryz.func87 (by kernel_rfl) (by kernel_rfl) (by kernel_rfl) (by kernel_rfl) (by kernel_rfl) (by kernel_rfl) (by kernel_rfl)
  fun x y h => (raw87_eq x).trans h
theorem ok86 : FOk Tryz.prog 86 S86 := afun_ok (E := E86) (fn := Tryz.f86) tabOk (GOk.look (l := [(87, [S87])]) ⟨⟨ok87, trivial⟩, trivial⟩) Tryz.checked.mixed Tryz.func86 (by kernel_rfl) (by kernel_rfl) (by kernel_rfl) (by kernel_rfl) (by kernel_rfl) (by kernel_rfl) (by kernel_rfl)
  fun x y h => (raw86_eq x).trans h
theorem ok93a : FOk Tryz.prog 93 S93a := afun_ok (E := E93a) (fn := Tryz.f93) tabOk (GOk.look (l := [(86, [S86])]) ⟨⟨ok86, trivial⟩, trivial⟩) Tryz.checked.mixed Tryz.func93 (by kernel_rfl) (by kernel_rfl) (by kernel_rfl) (by kernel_rfl) (by kernel_rfl) (by kernel_rfl) (by kernel_rfl)
  fun x y h => (raw93a_eq x).trans h
theorem ok85a : FOk Tryz.prog 85 S85a := afun_ok (E := E85a) (fn := Tryz.f85) tabOk (GOk.look (l := [(86, [S86]), (93, [S93a])]) ⟨⟨ok86, trivial⟩, ⟨ok93a, trivial⟩, trivial⟩) Tryz.checked.mixed Tryz.func85 (by kernel_rfl) (by kernel_rfl) (by kernel_rfl) (by kernel_rfl) (by kernel_rfl) (by kernel_rfl) (by kernel_rfl)
  fun x y h => (raw85a_eq x).trans h
theorem ok94 : FOk Tryz.prog 94 S94 := afun_ok (E := E94) (fn := Tryz.f94) tabOk (GOk.look (l := [(52, [S52]), (70, [S70])]) ⟨⟨ok52, trivial⟩, ⟨ok70, trivial⟩, trivial⟩) Tryz.checked.mixed Tryz.func94 (by kernel_rfl) (by kernel_rfl) (by kernel_rfl) (by kernel_rfl) (by kernel_rfl) (by kernel_rfl) (by kernel_rfl)
  fun x y h => (raw94_eq x).trans h
theorem ok102 : FOk Tryz.prog 102 S102 := afun_ok (E := E102) (fn := Tryz.f102) tabOk (GOk.look (l := [(42, [S42]), (52, [S52])]) ⟨⟨ok42, trivial⟩, ⟨ok52, trivial⟩, trivial⟩) Tryz.checked.mixed Tryz.func102 (by kernel_rfl) (by kernel_rfl) (by kernel_rfl) (by kernel_rfl) (by kernel_rfl) (by kernel_rfl) (by kernel_rfl)
  fun x y h => (raw102_eq x).trans h
theorem ok97 : FOk Tryz.prog 97 S97 := afun_ok (E := E97) (fn := Tryz.f97) tabOk (GOk.look (l := [(102, [S102])]) ⟨⟨ok102, trivial⟩, trivial⟩) Tryz.checked.mixed Tryz.func97 (by kernel_rfl) (by kernel_rfl) (by kernel_rfl) (by kernel_rfl) (by kernel_rfl) (by kernel_rfl) (by kernel_rfl)
  fun x y h => (raw97_eq x).trans h
theorem ok96 : FOk Tryz.prog 96 S96 := afun_ok (E := E96) (fn := Tryz.f96) tabOk (GOk.look (l := [(97, [S97])]) ⟨⟨ok97, trivial⟩, trivial⟩) Tryz.checked.mixed Tryz.func96 (by kernel_rfl) (by kernel_rfl) (by kernel_rfl) (by kernel_rfl) (by kernel_rfl) (by kernel_rfl) (by kernel_rfl)
  fun x y h => (raw96_eq x).trans h
theorem ok96a : FOk Tryz.prog 96 S96a := afun_ok (E := E96a) (fn := Tryz.f96) tabOk (GOk.look (l := [(97, [S97])]) ⟨⟨ok97, trivial⟩, trivial⟩) Tryz.checked.mixed Tryz.func96 (by kernel_rfl) (by kernel_rfl) (by kernel_rfl) (by kernel_rfl) (by kernel_rfl) (by kernel_rfl) (by kernel_rfl)
  fun x y h => (raw96a_eq x).trans h
theorem ok101a : FOk Tryz.prog 101 S101a := afun_ok (E := E101a) (fn := Tryz.f101) tabOk (GOk.look (l := [(96, [S96, S96a])]) ⟨⟨ok96, ok96a, trivial⟩, trivial⟩) Tryz.checked.mixed Tryz.func101 (by kernel_rfl) (by kernel_rfl) (by kernel_rfl) (by kernel_rfl) (by kernel_rfl) (by kernel_rfl) (by kernel_rfl)
  fun x y h => (raw101a_eq x).trans h
theorem ok95a : FOk Tryz.prog 95 S95a := afun_ok (E := E95a) (fn := Tryz.f95) tabOk (GOk.look (l := [(96, [S96, S96a]), (101, [S101a])]) ⟨⟨ok96, ok96a, trivial⟩, ⟨ok101a, trivial⟩, trivial⟩) Tryz.checked.mixed Tryz.func95 (by kernel_rfl) (by kernel_rfl) (by kernel_rfl) (by kernel_rfl) (by kernel_rfl) (by kernel_rfl) (by kernel_rfl)
  fun x y h => (raw95a_eq x).trans h
theorem ok88 : FOk Tryz.prog 88 S88 := afun_ok (E := E88) (fn := Tryz.f88) tabOk (GOk.look (l := [(94, [S94]), (95, [S95a]), (96, [S96, S96a])]) ⟨⟨ok94, trivial⟩, ⟨ok95a, trivial⟩, ⟨ok96, ok96a, trivial⟩, trivial⟩) Tryz.checked.mixed Tryz.func88 (by kernel_rfl) (by kernel_rfl) (by kernel_rfl) (by kernel_rfl) (by kernel_rfl) (by kernel_rfl) (by kernel_rfl)
  fun x y h => (raw88_eq x).trans h
theorem ok71 : FOk Tryz.prog 71 S71 := afun_ok (E := E71) (fn := Tryz.f71) tabOk (GOk.look (l := [(85, [S85a]), (86, [S86]), (88, [S88])]) ⟨⟨ok85a, trivial⟩, ⟨ok86, trivial⟩, ⟨ok88, trivial⟩, trivial⟩) Tryz.checked.mixed Tryz.func71 (by kernel_rfl) (by kernel_rfl) (by kernel_rfl) (by kernel_rfl) (by kernel_rfl) (by kernel_rfl) (by kernel_rfl)
  fun x y h => (raw71_eq x).trans h
theorem ok47 : FOk Tryz.prog 47 S47 := afun_ok (E := E47) (fn := Tryz.f47) tabOk (GOk.look (l := [(48, [S48]), (52, [S52]), (70, [S70]), (71, [S71]), (72, [S72])]) ⟨⟨ok48, trivial⟩, ⟨ok52, trivial⟩, ⟨ok70, trivial⟩, ⟨ok71, trivial⟩, ⟨ok72, trivial⟩, trivial⟩) Tryz.checked.mixed Tryz.func47 (by kernel_rfl) (by kernel_rfl) (by kernel_rfl) (by kernel_rfl) (by kernel_rfl) (by kernel_rfl) (by kernel_rfl)
  fun x y h => (raw47_eq x).trans h
theorem ok103 : FOk Tryz.prog 103 S103 := afun_ok (E := E103) (fn := Tryz.f103) tabOk (GOk.look (l := []) trivial) Tryz.checked.mixed Tryz.func103 (by kernel_rfl) (by kernel_rfl) (by kernel_rfl) (by kernel_rfl) (by kernel_rfl) (by kernel_rfl) (by kernel_rfl)
  fun x y h => (raw103_eq x).trans h
theorem ok98 : FOk Tryz.prog 98 S98 := afun_ok (E := E98) (fn := Tryz.f98) tabOk (GOk.look (l := [(103, [S103])]) ⟨⟨ok103, trivial⟩, trivial⟩) Tryz.checked.mixed Tryz.func98 (by kernel_rfl) (by kernel_rfl) (by kernel_rfl) (by kernel_rfl) (by kernel_rfl) (by kernel_rfl) (by kernel_rfl)
  fun x y h => (raw98_eq x).trans h
theorem ok90 : FOk Tryz.prog 90 S90 := afun_ok (E := E90) (fn := Tryz.f90) tabOk (GOk.look (l := [(98, [S98])]) ⟨⟨ok98, trivial⟩, trivial⟩) Tryz.checked.mixed Tryz.func90 (by kernel_rfl) (by kernel_rfl) (by kernel_rfl) (by kernel_rfl) (by kernel_rfl) (by kernel_rfl) (by kernel_rfl)
  fun x y h => (raw90_eq x).trans h
theorem ok75 : FOk Tryz.prog 75 S75 := afun_ok (E := E75) (fn := Tryz.f75) tabOk (GOk.look (l := [(90, [S90])]) ⟨⟨ok90, trivial⟩, trivial⟩) Tryz.checked.mixed Tryz.func75 (by kernel_rfl) (by kernel_rfl) (by kernel_rfl) (by kernel_rfl) (by kernel_rfl) (by kernel_rfl) (by kernel_rfl)
  fun x y h => (raw75_eq x).trans h
theorem ok49 : FOk Tryz.prog 49 S49 := afun_ok (E := E49) (fn := Tryz.f49) tabOk (GOk.look (l := [(42, [S42]), (75, [S75])]) ⟨⟨ok42, trivial⟩, ⟨ok75, trivial⟩, trivial⟩) Tryz.checked.mixed Tryz.func49 (by kernel_rfl) (by kernel_rfl) (by kernel_rfl) (by kernel_rfl) (by kernel_rfl) (by kernel_rfl) (by kernel_rfl)
  fun x y h => (raw49_eq x).trans h
theorem ok50 : FOk Tryz.prog 50 S50 := afun_ok (E := E50) (fn := Tryz.f50) tabOk (GOk.look (l := [(42, [S42]), (48, [S48]), (75, [S75])]) ⟨⟨ok42, trivial⟩, ⟨ok48, trivial⟩, ⟨ok75, trivial⟩, trivial⟩) Tryz.checked.mixed Tryz.func50 (by kernel_rfl) (by kernel_rfl) (by kernel_rfl) (by kernel_rfl) (by kernel_rfl) (by kernel_rfl) (by kernel_rfl)
  fun x y h => (raw50_eq x).trans h
theorem ok100 : FOk Tryz.prog 100 S100 := afun_ok (E := E100) (fn := Tryz.f100) tabOk (GOk.look (l := [(42, [S42]), (75, [S75])]) ⟨⟨ok42, trivial⟩, ⟨ok75, trivial⟩, trivial⟩) Tryz.checked.mixed Tryz.func100 (by kernel_rfl) (by kernel_rfl) (by kernel_rfl) (by kernel_rfl) (by kernel_rfl) (by kernel_rfl) (by kernel_rfl)
  fun x y h => (raw100_eq x).trans h
theorem ok104a : FOk Tryz.prog 104 S104a := afun_ok (E := E104a) (fn := Tryz.f104) tabOk (GOk.look (l := [(100, [S100])]) ⟨⟨ok100, trivial⟩, trivial⟩) Tryz.checked.mixed Tryz.func104 (by kernel_rfl) (by kernel_rfl) (by kernel_rfl) (by kernel_rfl) (by kernel_rfl) (by kernel_rfl) (by kernel_rfl)
  fun x y h => (raw104a_eq x).trans h
theorem ok99a : FOk Tryz.prog 99 S99a := afun_ok (E := E99a) (fn := Tryz.f99) tabOk (GOk.look (l := [(100, [S100]), (104, [S104a])]) ⟨⟨ok100, trivial⟩, ⟨ok104a, trivial⟩, trivial⟩) Tryz.checked.mixed Tryz.func99 (by kernel_rfl) (by kernel_rfl) (by kernel_rfl) (by kernel_rfl) (by kernel_rfl) (by kernel_rfl) (by kernel_rfl)
  fun x y h => (raw99a_eq x).trans h
theorem ok91 : FOk Tryz.prog 91 S91 := afun_ok (E := E91) (fn := Tryz.f91) tabOk (GOk.look (l := [(84, [S84]), (99, [S99a]), (100, [S100])]) ⟨⟨ok84, trivial⟩, ⟨ok99a, trivial⟩, ⟨ok100, trivial⟩, trivial⟩) Tryz.checked.mixed Tryz.func91 (by kernel_rfl) (by kernel_rfl) (by kernel_rfl) (by kernel_rfl) (by kernel_rfl) (by kernel_rfl) (by kernel_rfl)
  fun x y h => (raw91_eq x).trans h
theorem ok76 : FOk Tryz.prog 76 S76 := afun_ok (E := E76) (fn := Tryz.f76) tabOk (GOk.look (l := [(48, [S48]), (72, [S72]), (91, [S91])]) ⟨⟨ok48, trivial⟩, ⟨ok72, trivial⟩, ⟨ok91, trivial⟩, trivial⟩) Tryz.checked.mixed Tryz.func76 (by kernel_rfl) (by kernel_rfl) (by kernel_rfl) (by kernel_rfl) (by kernel_rfl) (by kernel_rfl) (by kernel_rfl)
  fun x y h => (raw76_eq x).trans h
theorem ok77 : FOk Tryz.prog 77 S77 := afun_ok (E := E77) (fn := Tryz.f77) tabOk (GOk.look (l := [(48, [S48]), (72, [S72])]) ⟨⟨ok48, trivial⟩, ⟨ok72, trivial⟩, trivial⟩) Tryz.checked.mixed Tryz.func77 (by kernel_rfl) (by kernel_rfl) (by kernel_rfl) (by kernel_rfl) (by kernel_rfl) (by kernel_rfl) (by kernel_rfl)
  fun x y h => (raw77_eq x).trans h
theorem ok51 : FOk Tryz.prog 51 S51 := afun_ok (E := E51) (fn := Tryz.f51) tabOk (GOk.look (l := [(76, [S76]), (77, [S77])]) ⟨⟨ok76, trivial⟩, ⟨ok77, trivial⟩, trivial⟩) Tryz.checked.mixed Tryz.func51 (by kernel_rfl) (by kernel_rfl) (by kernel_rfl) (by kernel_rfl) (by kernel_rfl) (by kernel_rfl) (by kernel_rfl)
  fun x y h => (raw51_eq x).trans h
theorem ok16 : FOk Tryz.prog 16 S16 := afun_ok (E := E16) (fn := Tryz.f16) tabOk (GOk.look (l := [(41, [S41]), (45, [S45]), (46, [S46]), (47, [S47]), (48, [S48]), (49, [S49]), (50, [S50]), (51, [S51])]) ⟨⟨ok41, trivial⟩, ⟨ok45, trivial⟩, ⟨ok46, trivial⟩, ⟨ok47, trivial⟩, ⟨ok48, trivial⟩, ⟨ok49, trivial⟩, ⟨ok50, trivial⟩, ⟨ok51, trivial⟩, trivial⟩) Tryz.checked.mixed Tryz.func16 (by kernel_rfl) (by kernel_rfl) (by kernel_rfl) (by kernel_rfl) (by kernel_rfl) (by kernel_rfl) (by kernel_rfl)
  fun x y h => (raw16_eq x).trans h
theorem ok17 : FOk Tryz.prog 17 S17 := afun_ok (E := E17) (fn := Tryz.f17) tabOk (GOk.look (l := [(13, [S13]), (15, [S15]), (52, [S52]), (53, [S53])]) ⟨⟨ok13, trivial⟩, ⟨ok15, trivial⟩, ⟨ok52, trivial⟩, ⟨ok53, trivial⟩, trivial⟩) Tryz.checked.mixed Tryz.func17 (by kernel_rfl) (by kernel_rfl) (by kernel_rfl) (by kernel_rfl) (by kernel_rfl) (by kernel_rfl) (by kernel_rfl)
  fun x y h => (raw17_eq x).trans h
theorem ok18 : FOk Tryz.prog 18 S18 := afun_ok (E := E18) (fn := Tryz.f18) tabOk (GOk.look (l := [(13, [S13])]) ⟨⟨ok13, trivial⟩, trivial⟩) Tryz.checked.mixed Tryz.func18 (by kernel_rfl) (by kernel_rfl) (by kernel_rfl) (by kernel_rfl) (by kernel_rfl) (by kernel_rfl) (by kernel_rfl)
  fun x y h => (raw18_eq x).trans h
theorem ok19 : FOk Tryz.prog 19 S19 := afun_ok (E := E19) (fn := Tryz.f19) tabOk (GOk.look (l := [(17, [S17])]) ⟨⟨ok17, trivial⟩, trivial⟩) Tryz.checked.mixed Tryz.func19 (by kernel_rfl) (by kernel_rfl) (by kernel_rfl) (by kernel_rfl) (by kernel_rfl) (by kernel_rfl) (by kernel_rfl)
  fun x y h => (raw19_eq x).trans h
theorem ok6 : FOk Tryz.prog 6 S6 := afun_ok (E := E6) (fn := Tryz.f6) tabOk (GOk.look (l := [(16, [S16]), (17, [S17]), (18, [S18]), (19, [S19])]) ⟨⟨ok16, trivial⟩, ⟨ok17, trivial⟩, ⟨ok18, trivial⟩, ⟨ok19, trivial⟩, trivial⟩) Tryz.checked.mixed Tryz.func6 (by kernel_rfl) (by kernel_rfl) (by kernel_rfl) (by kernel_rfl) (by kernel_rfl) (by kernel_rfl) (by kernel_rfl)
  fun x y h => (raw6_eq x).trans h
theorem ok27 : FOk Tryz.prog 27 S27 := afun_ok (E := E27) (fn := Tryz.f27) tabOk (GOk.look (l := []) trivial) Tryz.checked.mixed Tryz.func27 (by kernel_rfl) (by kernel_rfl) (by kernel_rfl) (by kernel_rfl) (by kernel_rfl) (by kernel_rfl) (by kernel_rfl)
  fun x y h => hand27 x y h
theorem ok34 : FOk Tryz.prog 34 S34 := afun_ok (E := E34) (fn := Tryz.f34) tabOk (GOk.look (l := []) trivial) Tryz.checked.mixed Tryz.func34 (by kernel_rfl) (by kernel_rfl) (by kernel_rfl) (by kernel_rfl) (by kernel_rfl) (by kernel_rfl) (by kernel_rfl)
  fun x y h => (raw34_eq x).trans h
theorem ok28 : FOk Tryz.prog 28 S28 := afun_ok (E := E28) (fn := Tryz.f28) tabOk (GOk.look (l := [(34, [S34])]) ⟨⟨ok34, trivial⟩, trivial⟩) Tryz.checked.mixed Tryz.func28 (by kernel_rfl) (by kernel_rfl) (by kernel_rfl) (by kernel_rfl) (by kernel_rfl) (by kernel_rfl) (by kernel_rfl)
  fun x y h => (raw28_eq x).trans h
theorem ok58 : FOk Tryz.prog 58 S58 := afun_ok (E := E58) (fn := Tryz.f58) tabOk (GOk.look (l := []) trivial) Tryz.checked.mixed Tryz.func58 (by kernel_rfl) (by kernel_rfl) (by kernel_rfl) (by kernel_rfl) (by kernel_rfl) (by kernel_rfl) (by kernel_rfl)
  fun x y h => (raw58_eq x).trans h
theorem ok29 : FOk Tryz.prog 29 S29 := afun_ok (E := E29) (fn := Tryz.f29) tabOk (GOk.look (l := [(58, [S58])]) ⟨⟨ok58, trivial⟩, trivial⟩) Tryz.checked.mixed Tryz.func29 (by kernel_rfl) (by kernel_rfl) (by kernel_rfl) (by kernel_rfl) (by kernel_rfl) (by kernel_rfl) (by kernel_rfl)
  fun x y h => (raw29_eq x).trans h
theorem ok30 : FOk Tryz.prog 30 S30 := afun_ok (E := E30) (fn := Tryz.f30) tabOk (GOk.look (l := [(34, [S34])]) ⟨⟨ok34, trivial⟩, trivial⟩) Tryz.checked.mixed Tryz.func30 (by kernel_rfl) (by kernel_rfl) (by kernel_rfl) (by kernel_rfl) (by kernel_rfl) (by kernel_rfl) (by kernel_rfl)
  fun x y h => (raw30_eq x).trans h
theorem ok31 : FOk Tryz.prog 31 S31 := afun_ok (E := E31) (fn := Tryz.f31) tabOk (GOk.look (l := [(29, [S29]), (58, [S58])]) ⟨⟨ok29, trivial⟩, ⟨ok58, trivial⟩, trivial⟩) Tryz.checked.mixed Tryz.func31 (by kernel_rfl) (by kernel_rfl) (by kernel_rfl) (by kernel_rfl) (by kernel_rfl) (by kernel_rfl) (by kernel_rfl)
  fun x y h => (raw31_eq x).trans h
theorem ok32 : FOk Tryz.prog 32 S32 := afun_ok (E := E32) (fn := Tryz.f32) tabOk (GOk.look (l := [(29, [S29]), (34, [S34])]) ⟨⟨ok29, trivial⟩, ⟨ok34, trivial⟩, trivial⟩) Tryz.checked.mixed Tryz.func32 (by kernel_rfl) (by kernel_rfl) (by kernel_rfl) (by kernel_rfl) (by kernel_rfl) (by kernel_rfl) (by kernel_rfl)
  fun x y h => (raw32_eq x).trans h
theorem ok59 : FOk Tryz.prog 59 S59 := afun_ok (E := E59) (fn := Tryz.f59) tabOk (GOk.look (l := [(29, [S29]), (30, [S30]), (31, [S31])]) ⟨⟨ok29, trivial⟩, ⟨ok30, trivial⟩, ⟨ok31, trivial⟩, trivial⟩) Tryz.checked.mixed Tryz.func59 (by kernel_rfl) (by kernel_rfl) (by kernel_rfl) (by kernel_rfl) (by kernel_rfl) (by kernel_rfl) (by kernel_rfl)
  fun x y h => (raw59_eq x).trans h
theorem ok79 : FOk Tryz.prog 79 S79 := afun_ok (E := E79) (fn := Tryz.f79) tabOk (GOk.look (l := [(29, [S29]), (31, [S31])]) ⟨⟨ok29, trivial⟩, ⟨ok31, trivial⟩, trivial⟩) Tryz.checked.mixed Tryz.func79 (by kernel_rfl) (by kernel_rfl) (by kernel_rfl) (by kernel_rfl) (by kernel_rfl) (by kernel_rfl) (by kernel_rfl)
  fun x y h => (raw79_eq x).trans h
theorem ok60 : FOk Tryz.prog 60 S60 := afun_ok (E := E60) (fn := Tryz.f60) tabOk (GOk.look (l := [(79, [S79])]) ⟨⟨ok79, trivial⟩, trivial⟩) Tryz.checked.mixed Tryz.func60 (by kernel_rfl) (by kernel_rfl) (by kernel_rfl) (by kernel_rfl) (by kernel_rfl) (by kernel_rfl) (by kernel_rfl)
  fun x y h => (raw60_eq x).trans h
theorem ok33 : FOk Tryz.prog 33 S33 := afun_ok (E := E33) (fn := Tryz.f33) tabOk (GOk.look (l := [(59, [S59]), (60, [S60])]) ⟨⟨ok59, trivial⟩, ⟨ok60, trivial⟩, trivial⟩) Tryz.checked.mixed Tryz.func33 (by kernel_rfl) (by kernel_rfl) (by kernel_rfl) (by kernel_rfl) (by kernel_rfl) (by kernel_rfl) (by kernel_rfl)
  fun x y h => (raw33_eq x).trans h
theorem ok35 : FOk Tryz.prog 35 S35 := afun_ok (E := E35) (fn := Tryz.f35) tabOk (GOk.look (l := [(29, [S29])]) ⟨⟨ok29, trivial⟩, trivial⟩) Tryz.checked.mixed Tryz.func35 (by kernel_rfl) (by kernel_rfl) (by kernel_rfl) (by kernel_rfl) (by kernel_rfl) (by kernel_rfl) (by kernel_rfl)
  fun x y h => (raw35_eq x).trans h
theorem ok61 : FOk Tryz.prog 61 S61 := afun_ok (E := E61) (fn := Tryz.f61) tabOk (GOk.look (l := []) trivial) Tryz.checked.mixed Tryz.func61 (by kernel_rfl) (by kernel_rfl) (by kernel_rfl) (by kernel_rfl) (by kernel_rfl) (by kernel_rfl) (by kernel_rfl)
  fun x y h => (raw61_eq x).trans h
theorem ok36 : FOk Tryz.prog 36 S36 := afun_ok (E := E36) (fn := Tryz.f36) tabOk (GOk.look (l := [(29, [S29]), (61, [S61])]) ⟨⟨ok29, trivial⟩, ⟨ok61, trivial⟩, trivial⟩) Tryz.checked.mixed Tryz.func36 (by kernel_rfl) (by kernel_rfl) (by kernel_rfl) (by kernel_rfl) (by kernel_rfl) (by kernel_rfl) (by kernel_rfl)
  fun x y h => (raw36_eq x).trans h
theorem ok37 : FOk Tryz.prog 37 S37 := afun_ok (E := E37) (fn := Tryz.f37) tabOk (GOk.look (l := [(28, [S28]), (29, [S29]), (61, [S61])]) ⟨⟨ok28, trivial⟩, ⟨ok29, trivial⟩, ⟨ok61, trivial⟩, trivial⟩) Tryz.checked.mixed Tryz.func37 (by kernel_rfl) (by kernel_rfl) (by kernel_rfl) (by kernel_rfl) (by kernel_rfl) (by kernel_rfl) (by kernel_rfl)
  fun x y h => (raw37_eq x).trans h
theorem ok62 : FOk Tryz.prog 62 S62 := afun_ok (E := E62) (fn := Tryz.f62) tabOk (GOk.look (l := [(29, [S29]), (30, [S30]), (34, [S34]), (61, [S61])]) ⟨⟨ok29, trivial⟩, ⟨ok30, trivial⟩, ⟨ok34, trivial⟩, ⟨ok61, trivial⟩, trivial⟩) Tryz.checked.mixed Tryz.func62 (by kernel_rfl) (by kernel_rfl) (by kernel_rfl) (by kernel_rfl) (by kernel_rfl) (by kernel_rfl) (by kernel_rfl)
  fun x y h => (raw62_eq x).trans h
theorem ok38 : FOk Tryz.prog 38 S38 := afun_ok (E := E38) (fn := Tryz.f38) tabOk (GOk.look (l := [(28, [S28]), (34, [S34]), (62, [S62])]) ⟨⟨ok28, trivial⟩, ⟨ok34, trivial⟩, ⟨ok62, trivial⟩, trivial⟩) Tryz.checked.mixed Tryz.func38 (by kernel_rfl) (by kernel_rfl) (by kernel_rfl) (by kernel_rfl) (by kernel_rfl) (by kernel_rfl) (by kernel_rfl)
  fun x y h => (raw38_eq x).trans h
theorem ok39 : FOk Tryz.prog 39 S39 := afun_ok (E := E39) (fn := Tryz.f39) tabOk (GOk.look (l := [(28, [S28]), (34, [S34])]) ⟨⟨ok28, trivial⟩, ⟨ok34, trivial⟩, trivial⟩) Tryz.checked.mixed Tryz.func39 (by kernel_rfl) (by kernel_rfl) (by kernel_rfl) (by kernel_rfl) (by kernel_rfl) (by kernel_rfl) (by kernel_rfl)
  fun x y h => (raw39_eq x).trans h
theorem ok9 : FOk Tryz.prog 9 S9 := afun_ok (E := E9) (fn := Tryz.f9) tabOk (GOk.look (l := [(27, [S27]), (28, [S28]), (29, [S29]), (30, [S30]), (31, [S31]), (32, [S32]), (33, [S33]), (34, [S34]), (35, [S35]), (36, [S36]), (37, [S37]), (38, [S38]), (39, [S39])]) ⟨⟨ok27, trivial⟩, ⟨ok28, trivial⟩, ⟨ok29, trivial⟩, ⟨ok30, trivial⟩, ⟨ok31, trivial⟩, ⟨ok32, trivial⟩, ⟨ok33, trivial⟩, ⟨ok34, trivial⟩, ⟨ok35, trivial⟩, ⟨ok36, trivial⟩, ⟨ok37, trivial⟩, ⟨ok38, trivial⟩, ⟨ok39, trivial⟩, trivial⟩) Tryz.checked.mixed Tryz.func9 (by kernel_rfl) (by kernel_rfl) (by kernel_rfl) (by kernel_rfl) (by kernel_rfl) (by kernel_rfl) (by kernel_rfl)
  fun x y h => (raw9_eq x).trans h
theorem ok55 : FOk Tryz.prog 55 S55 := afun_ok (E := E55) (fn := Tryz.f55) tabOk (GOk.look (l := []) trivial) Tryz.checked.mixed Tryz.func55 (by kernel_rfl) (by kernel_rfl) (by kernel_rfl) (by kernel_rfl) (by kernel_rfl) (by kernel_rfl) (by kernel_rfl)
  fun x y h => (raw55_eq x).trans h
theorem ok56 : FOk Tryz.prog 56 S56 := afun_ok (E := E56) (fn := Tryz.f56) tabOk (GOk.look (l := [(29, [S29]), (35, [S35]), (55, [S55])]) ⟨⟨ok29, trivial⟩, ⟨ok35, trivial⟩, ⟨ok55, trivial⟩, trivial⟩) Tryz.checked.mixed Tryz.func56 (by kernel_rfl) (by kernel_rfl) (by kernel_rfl) (by kernel_rfl) (by kernel_rfl) (by kernel_rfl) (by kernel_rfl)
  fun x y h => (raw56_eq x).trans h
theorem ok21 : FOk Tryz.prog 21 S21 := afun_ok (E := E21) (fn := Tryz.f21) tabOk (GOk.look (l := [(29, [S29]), (35, [S35]), (56, [S56])]) ⟨⟨ok29, trivial⟩, ⟨ok35, trivial⟩, ⟨ok56, trivial⟩, trivial⟩) Tryz.checked.mixed Tryz.func21 (by kernel_rfl) (by kernel_rfl) (by kernel_rfl) (by kernel_rfl) (by kernel_rfl) (by kernel_rfl) (by kernel_rfl)
  fun x y h => (raw21_eq x).trans h
theorem ok54 : FOk Tryz.prog 54 S54 := afun_ok (E := E54) (fn := Tryz.f54) tabOk (GOk.look (l := [(35, [S35])]) ⟨⟨ok35, trivial⟩, trivial⟩) Tryz.checked.mixed Tryz.func54 (by kernel_rfl) (by kernel_rfl) (by kernel_rfl) (by kernel_rfl) (by kernel_rfl) (by kernel_rfl) (by kernel_rfl)
  fun x y h => (raw54_eq x).trans h
theorem ok20 : FOk Tryz.prog 20 S20 := afun_ok (E := E20) (fn := Tryz.f20) tabOk (GOk.look (l := [(21, [S21]), (31, [S31]), (54, [S54]), (55, [S55])]) ⟨⟨ok21, trivial⟩, ⟨ok31, trivial⟩, ⟨ok54, trivial⟩, ⟨ok55, trivial⟩, trivial⟩) Tryz.checked.mixed Tryz.func20 (by kernel_rfl) (by kernel_rfl) (by kernel_rfl) (by kernel_rfl) (by kernel_rfl) (by kernel_rfl) (by kernel_rfl)
  fun x y h => (raw20_eq x).trans h
theorem ok22 : FOk Tryz.prog 22 S22 := afun_ok (E := E22) (fn := Tryz.f22) tabOk (GOk.look (l := [(20, [S20])]) ⟨⟨ok20, trivial⟩, trivial⟩) Tryz.checked.mixed Tryz.func22 (by kernel_rfl) (by kernel_rfl) (by kernel_rfl) (by kernel_rfl) (by kernel_rfl) (by kernel_rfl) (by kernel_rfl)
  fun x y h => (raw22_eq x).trans h
theorem ok7 : FOk Tryz.prog 7 S7 := afun_ok (E := E7) (fn := Tryz.f7) tabOk (GOk.look (l := [(9, [S9]), (20, [S20]), (21, [S21]), (22, [S22])]) ⟨⟨ok9, trivial⟩, ⟨ok20, trivial⟩, ⟨ok21, trivial⟩, ⟨ok22, trivial⟩, trivial⟩) Tryz.checked.mixed Tryz.func7 (by kernel_rfl) (by kernel_rfl) (by kernel_rfl) (by kernel_rfl) (by kernel_rfl) (by kernel_rfl) (by kernel_rfl)
  fun x y h => (raw7_eq x).trans h
theorem ok12 : FOk Tryz.prog 12 S12 := afun_ok (E := E12) (fn := Tryz.f12) tabOk (GOk.look (l := []) trivial) Tryz.checked.mixed Tryz.func12 (by kernel_rfl) (by kernel_rfl) (by kernel_rfl) (by kernel_rfl) (by kernel_rfl) (by kernel_rfl) (by kernel_rfl)
  fun x y h => (raw12_eq x).trans h
theorem ok23 : FOk Tryz.prog 23 S23 := afun_ok (E := E23) (fn := Tryz.f23) tabOk (GOk.look (l := []) trivial) Tryz.checked.mixed Tryz.func23 (by kernel_rfl) (by kernel_rfl) (by kernel_rfl) (by kernel_rfl) (by kernel_rfl) (by kernel_rfl) (by kernel_rfl)
  fun x y h => (raw23_eq x).trans h
theorem ok24 : FOk Tryz.prog 24 S24 := afun_ok (E := E24) (fn := Tryz.f24) tabOk (GOk.look (l := []) trivial) Tryz.checked.mixed Tryz.func24 (by kernel_rfl) (by kernel_rfl) (by kernel_rfl) (by kernel_rfl) (by kernel_rfl) (by kernel_rfl) (by kernel_rfl)
  fun x y h => (raw24_eq x).trans h
theorem ok57 : FOk Tryz.prog 57 S57 := afun_ok (E := E57) (fn := Tryz.f57) tabOk (GOk.look (l := [(12, [S12])]) ⟨⟨ok12, trivial⟩, trivial⟩) Tryz.checked.mixed Tryz.func57 (by kernel_rfl) (by kernel_rfl) (by kernel_rfl) (by kernel_rfl) (by kernel_rfl) (by kernel_rfl) (by kernel_rfl)
  fun x y h => (raw57_eq x).trans h
theorem ok25 : FOk Tryz.prog 25 S25 := afun_ok (E := E25) (fn := Tryz.f25) tabOk (GOk.look (l := [(57, [S57])]) ⟨⟨ok57, trivial⟩, trivial⟩) Tryz.checked.mixed Tryz.func25 (by kernel_rfl) (by kernel_rfl) (by kernel_rfl) (by kernel_rfl) (by kernel_rfl) (by kernel_rfl) (by kernel_rfl)
  fun x y h => (raw25_eq x).trans h
theorem ok26 : FOk Tryz.prog 26 S26 := afun_ok (E := E26) (fn := Tryz.f26) tabOk (GOk.look (l := []) trivial) Tryz.checked.mixed Tryz.func26 (by kernel_rfl) (by kernel_rfl) (by kernel_rfl) (by kernel_rfl) (by kernel_rfl) (by kernel_rfl) (by kernel_rfl)
  fun x y h => (raw26_eq x).trans h
theorem ok8 : FOk Tryz.prog 8 S8 := afun_ok (E := E8) (fn := Tryz.f8) tabOk (GOk.look (l := [(12, [S12]), (23, [S23]), (24, [S24]), (25, [S25]), (26, [S26])]) ⟨⟨ok12, trivial⟩, ⟨ok23, trivial⟩, ⟨ok24, trivial⟩, ⟨ok25, trivial⟩, ⟨ok26, trivial⟩, trivial⟩) Tryz.checked.mixed Tryz.func8 (by kernel_rfl) (by kernel_rfl) (by kernel_rfl) (by kernel_rfl) (by kernel_rfl) (by kernel_rfl) (by kernel_rfl)
  fun x y h => (raw8_eq x).trans h
theorem ok10 : FOk Tryz.prog 10 S10 := afun_ok (E := E10) (fn := Tryz.f10) tabOk (GOk.look (l := [(13, [S13])]) ⟨⟨ok13, trivial⟩, trivial⟩) Tryz.checked.mixed Tryz.func10 (by kernel_rfl) (by kernel_rfl) (by kernel_rfl) (by kernel_rfl) (by kernel_rfl) (by kernel_rfl) (by kernel_rfl)
  fun x y h => (raw10_eq x).trans h
theorem ok11 : FOk Tryz.prog 11 S11 := afun_ok (E := E11) (fn := Tryz.f11) tabOk (GOk.look (l := [(21, [S21])]) ⟨⟨ok21, trivial⟩, trivial⟩) Tryz.checked.mixed Tryz.func11 (by kernel_rfl) (by kernel_rfl) (by kernel_rfl) (by kernel_rfl) (by kernel_rfl) (by kernel_rfl) (by kernel_rfl)
  fun x y h => (raw11_eq x).trans h
theorem ok3 : FOk Tryz.prog 3 S3 := afun_ok (E := E3) (fn := Tryz.f3) tabOk (GOk.look (l := [(4, [S4]), (5, [S5]), (6, [S6]), (7, [S7]), (8, [S8]), (9, [S9]), (10, [S10]), (11, [S11]), (12, [S12])]) ⟨⟨ok4, trivial⟩, ⟨ok5, trivial⟩, ⟨ok6, trivial⟩, ⟨ok7, trivial⟩, ⟨ok8, trivial⟩, ⟨ok9, trivial⟩, ⟨ok10, trivial⟩, ⟨ok11, trivial⟩, ⟨ok12, trivial⟩, trivial⟩) Tryz.checked.mixed Tryz.func3 (by kernel_rfl) (by kernel_rfl) (by kernel_rfl) (by kernel_rfl) (by kernel_rfl) (by kernel_rfl) (by kernel_rfl)
  fun x y h => (raw3_eq x).trans h
end Go.Proofs.YtgfdlapadghggaaGreat
