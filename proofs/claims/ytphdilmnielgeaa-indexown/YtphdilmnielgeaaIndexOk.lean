/-
  Index: by a program of the bench (seat.py).
-/
import Derived.Test.YtphdilmnielgeaaIndexRaw
namespace Go.Proofs.Ytphdilmnielgeaa
open Go.Sx Go
theorem ok44 : FOk Try.prog 44 S44 := afun_ok (E := E44) (fn := Try.f44) tabOk (GOk.look (l := []) trivial) Try.checked.mixed Try.func44 (by kernel_rfl) (by kernel_rfl) (by kernel_rfl) (by kernel_rfl) (by kernel_rfl) (by kernel_rfl) (by kernel_rfl)
  fun x y h => (raw44_eq x).trans h
theorem ok14 : FOk Try.prog 14 S14 := afun_ok (E := E14) (fn := Try.f14) tabOk (GOk.look (l := [(44, [S44])]) ⟨⟨ok44, trivial⟩, trivial⟩) Try.checked.mixed Try.func14 (by kernel_rfl) (by kernel_rfl) (by kernel_rfl) (by kernel_rfl) (by kernel_rfl) (by kernel_rfl) (by kernel_rfl)
  fun x y h => (raw14_eq x).trans h
theorem ok91 : FOk Try.prog 91 S91 := afun_ok (E := E91) (fn := Try.f91) tabOk (GOk.look (l := []) trivial) Try.checked.mixed Try.func91 (by kernel_rfl) (by kernel_rfl) (by kernel_rfl) (by kernel_rfl) (by kernel_rfl) (by kernel_rfl) (by kernel_rfl)
  fun x y h => (raw91_eq x).trans h
theorem ok81 : FOk Try.prog 81 S81 := afun_ok (E := E81) (fn := Try.f81) tabOk (GOk.look (l := [(91, [S91])]) ⟨⟨ok91, trivial⟩, trivial⟩) Try.checked.mixed Try.func81 (by kernel_rfl) (by kernel_rfl) (by kernel_rfl) (by kernel_rfl) (by kernel_rfl) (by kernel_rfl) (by kernel_rfl)
  fun x y h => (raw81_eq x).trans h
theorem ok52 : FOk Try.prog 52 S52 := afun_ok (E := E52) (fn := Try.f52) tabOk (GOk.look (l := [(81, [S81])]) ⟨⟨ok81, trivial⟩, trivial⟩) Try.checked.mixed Try.func52 (by kernel_rfl) (by kernel_rfl) (by kernel_rfl) (by kernel_rfl) (by kernel_rfl) (by kernel_rfl) (by kernel_rfl)
  fun x y h => (raw52_eq x).trans h
theorem ok99 : FOk Try.prog 99 S99 := afun_ok (E := E99) (fn := Try.f99) tabOk (GOk.look (l := []) trivial) Try.checked.mixed Try.func99 (by kernel_rfl) (by kernel_rfl) (by kernel_rfl) (by kernel_rfl) (by kernel_rfl) (by kernel_rfl) (by kernel_rfl)
  fun x y h => (raw99_eq x).trans h
theorem ok92 : FOk Try.prog 92 S92 := afun_ok (E := E92) (fn := Try.f92) tabOk (GOk.look (l := [(99, [S99])]) ⟨⟨ok99, trivial⟩, trivial⟩) Try.checked.mixed Try.func92 (by kernel_rfl) (by kernel_rfl) (by kernel_rfl) (by kernel_rfl) (by kernel_rfl) (by kernel_rfl) (by kernel_rfl)
  fun x y h => (raw92_eq x).trans h
theorem ok84 : FOk Try.prog 84 S84 := afun_ok (E := E84) (fn := Try.f84) tabOk (GOk.look (l := [(92, [S92])]) ⟨⟨ok92, trivial⟩, trivial⟩) Try.checked.mixed Try.func84 (by kernel_rfl) (by kernel_rfl) (by kernel_rfl) (by kernel_rfl) (by kernel_rfl) (by kernel_rfl) (by kernel_rfl)
  fun x y h => (raw84_eq x).trans h
theorem ok60 : FOk Try.prog 60 S60 := afun_ok (E := E60) (fn := Try.f60) tabOk (GOk.look (l := [(84, [S84])]) ⟨⟨ok84, trivial⟩, trivial⟩) Try.checked.mixed Try.func60 (by kernel_rfl) (by kernel_rfl) (by kernel_rfl) (by kernel_rfl) (by kernel_rfl) (by kernel_rfl) (by kernel_rfl)
  fun x y h => (raw60_eq x).trans h
theorem ok53 : FOk Try.prog 53 S53 := afun_ok (E := E53) (fn := Try.f53) tabOk (GOk.look (l := [(60, [S60])]) ⟨⟨ok60, trivial⟩, trivial⟩) Try.checked.mixed Try.func53 (by kernel_rfl) (by kernel_rfl) (by kernel_rfl) (by kernel_rfl) (by kernel_rfl) (by kernel_rfl) (by kernel_rfl)
  fun x y h => (raw53_eq x).trans h
theorem ok24 : FOk Try.prog 24 S24 := afun_ok (E := E24) (fn := Try.f24) tabOk (GOk.look (l := [(52, [S52]), (53, [S53])]) ⟨⟨ok52, trivial⟩, ⟨ok53, trivial⟩, trivial⟩) Try.checked.mixed Try.func24 (by kernel_rfl) (by kernel_rfl) (by kernel_rfl) (by kernel_rfl) (by kernel_rfl) (by kernel_rfl) (by kernel_rfl)
  fun x y h => (raw24_eq x).trans h
theorem ok57 : FOk Try.prog 57 S57 := afun_ok (E := E57) (fn := Try.f57) tabOk (GOk.look (l := []) trivial) Try.checked.mixed Try.func57 (by kernel_rfl) (by kernel_rfl) (by kernel_rfl) (by kernel_rfl) (by kernel_rfl) (by kernel_rfl) (by kernel_rfl)
  fun x y h => (raw57_eq x).trans h
theorem ok79 : FOk Try.prog 79 S79 := afun_ok (E := E79) (fn := Try.f79) tabOk (GOk.look (l := [(57, [S57]), (84, [S84])]) ⟨⟨ok57, trivial⟩, ⟨ok84, trivial⟩, trivial⟩) Try.checked.mixed Try.func79 (by kernel_rfl) (by kernel_rfl) (by kernel_rfl) (by kernel_rfl) (by kernel_rfl) (by kernel_rfl) (by kernel_rfl)
  fun x y h => (raw79_eq x).trans h
theorem ok73 : FOk Try.prog 73 S73 := afun_ok (E := E73) (fn := Try.f73) tabOk (GOk.look (l := [(53, [S53]), (79, [S79])]) ⟨⟨ok53, trivial⟩, ⟨ok79, trivial⟩, trivial⟩) Try.checked.mixed Try.func73 (by kernel_rfl) (by kernel_rfl) (by kernel_rfl) (by kernel_rfl) (by kernel_rfl) (by kernel_rfl) (by kernel_rfl)
  fun x y h => (raw73_eq x).trans h
theorem ok105 : FOk Try.prog 105 S105 := afun_ok (E := E105) (fn := Try.f105) tabOk (GOk.look (l := []) trivial) Try.checked.mixed Try.func105 (by kernel_rfl) (by kernel_rfl) (by kernel_rfl) (by kernel_rfl) (by kernel_rfl) (by kernel_rfl) (by kernel_rfl)
  fun x y h => (raw105_eq x).trans h
theorem ok106 : FOk Try.prog 106 S106 := afun_ok (E := E106) (fn := Try.f106) tabOk (GOk.look (l := []) trivial) Try.checked.mixed Try.func106 (by kernel_rfl) (by kernel_rfl) (by kernel_rfl) (by kernel_rfl) (by kernel_rfl) (by kernel_rfl) (by kernel_rfl)
  fun x y h => (raw106_eq x).trans h
theorem ok103 : FOk Try.prog 103 S103 := afun_ok (E := E103) (fn := Try.f103) tabOk (GOk.look (l := [(105, [S105]), (106, [S106])]) ⟨⟨ok105, trivial⟩, ⟨ok106, trivial⟩, trivial⟩) Try.checked.mixed Try.func103 (by kernel_rfl) (by kernel_rfl) (by kernel_rfl) (by kernel_rfl) (by kernel_rfl) (by kernel_rfl) (by kernel_rfl)
  fun x y h => (raw103_eq x).trans h
theorem ok101 : FOk Try.prog 101 S101 := afun_ok (E := E101) (fn := Try.f101) tabOk (GOk.look (l := [(103, [S103]), (105, [S105])]) ⟨⟨ok103, trivial⟩, ⟨ok105, trivial⟩, trivial⟩) Try.checked.mixed Try.func101 (by kernel_rfl) (by kernel_rfl) (by kernel_rfl) (by kernel_rfl) (by kernel_rfl) (by kernel_rfl) (by kernel_rfl)
  fun x y h => (raw101_eq x).trans h
theorem ok102 : FOk Try.prog 102 S102 := rec_ok (P := Try.prog) (f := 102) (ps := P102) (rs := R102) (s := F102s) Try.func102 (by kernel_rfl) (by kernel_rfl) (by kernel_rfl) (fun (G : T28D × Unit → Option (T51D × T28D × Unit)) hG => afun_ok (P := Try.prog) (E := E102r G) (f := 102) (fn := Try.f102) (ps := P102) (rs := R102) (F := F102s G) tabOk (GOk.look (l := [(101, [S101]), (102, [⟨P102, R102, G⟩])]) ⟨⟨ok101, trivial⟩, ⟨hG, trivial⟩, trivial⟩) Try.checked.mixed Try.func102 (by kernel_rfl) (by kernel_rfl) (by kernel_rfl) (by kernel_rfl) (by kernel_rfl) (by kernel_rfl) (by kernel_rfl)
  fun x y h => (raw102_eq G x).trans h) big
theorem ok97 : FOk Try.prog 97 S97 := rec_ok (P := Try.prog) (f := 97) (ps := P97) (rs := R97) (s := F97s) Try.func97 (by kernel_rfl) (by kernel_rfl) (by kernel_rfl) (fun (G : T28D × List UInt8 × Unit → Option (T28D × Unit)) hG => afun_ok (P := Try.prog) (E := E97r G) (f := 97) (fn := Try.f97) (ps := P97) (rs := R97) (F := F97s G) tabOk (GOk.look (l := [(81, [S81]), (97, [⟨P97, R97, G⟩]), (101, [S101]), (102, [S102])]) ⟨⟨ok81, trivial⟩, ⟨hG, trivial⟩, ⟨ok101, trivial⟩, ⟨ok102, trivial⟩, trivial⟩) Try.checked.mixed Try.func97 (by kernel_rfl) (by kernel_rfl) (by kernel_rfl) (by kernel_rfl) (by kernel_rfl) (by kernel_rfl) (by kernel_rfl)
  fun x y h => (raw97_eq G x).trans h) big
theorem ok89 : FOk Try.prog 89 S89 := afun_ok (E := E89) (fn := Try.f89) tabOk (GOk.look (l := [(52, [S52]), (97, [S97])]) ⟨⟨ok52, trivial⟩, ⟨ok97, trivial⟩, trivial⟩) Try.checked.mixed Try.func89 (by kernel_rfl) (by kernel_rfl) (by kernel_rfl) (by kernel_rfl) (by kernel_rfl) (by kernel_rfl) (by kernel_rfl)
  fun x y h => (raw89_eq x).trans h
theorem ok98 : FOk Try.prog 98 S98 := rec_ok (P := Try.prog) (f := 98) (ps := P98) (rs := R98) (s := F98s) Try.func98 (by kernel_rfl) (by kernel_rfl) (by kernel_rfl) (fun (G : T28D × T51D × Unit → Option (T28D × Unit)) hG => afun_ok (P := Try.prog) (E := E98r G) (f := 98) (fn := Try.f98) (ps := P98) (rs := R98) (F := F98s G) tabOk (GOk.look (l := [(81, [S81]), (98, [⟨P98, R98, G⟩]), (101, [S101]), (103, [S103])]) ⟨⟨ok81, trivial⟩, ⟨hG, trivial⟩, ⟨ok101, trivial⟩, ⟨ok103, trivial⟩, trivial⟩) Try.checked.mixed Try.func98 (by kernel_rfl) (by kernel_rfl) (by kernel_rfl) (by kernel_rfl) (by kernel_rfl) (by kernel_rfl) (by kernel_rfl)
  fun x y h => (raw98_eq G x).trans h) big
theorem ok90 : FOk Try.prog 90 S90 := afun_ok (E := E90) (fn := Try.f90) tabOk (GOk.look (l := [(98, [S98])]) ⟨⟨ok98, trivial⟩, trivial⟩) Try.checked.mixed Try.func90 (by kernel_rfl) (by kernel_rfl) (by kernel_rfl) (by kernel_rfl) (by kernel_rfl) (by kernel_rfl) (by kernel_rfl)
  fun x y h => (raw90_eq x).trans h
theorem ok69 : FOk Try.prog 69 S69 := afun_ok (E := E69) (fn := Try.f69) tabOk (GOk.look (l := [(89, [S89]), (90, [S90])]) ⟨⟨ok89, trivial⟩, ⟨ok90, trivial⟩, trivial⟩) Try.checked.mixed Try.func69 (by kernel_rfl) (by kernel_rfl) (by kernel_rfl) (by kernel_rfl) (by kernel_rfl) (by kernel_rfl) (by kernel_rfl)
  fun x y h => (raw69_eq x).trans h
theorem ok74 : FOk Try.prog 74 S74 := afun_ok (E := E74) (fn := Try.f74) tabOk (GOk.look (l := [(14, [S14]), (69, [S69])]) ⟨⟨ok14, trivial⟩, ⟨ok69, trivial⟩, trivial⟩) Try.checked.mixed Try.func74 (by kernel_rfl) (by kernel_rfl) (by kernel_rfl) (by kernel_rfl) (by kernel_rfl) (by kernel_rfl) (by kernel_rfl)
  fun x y h => (raw74_eq x).trans h
theorem ok43 : FOk Try.prog 43 S43 := afun_ok (E := E43) (fn := Try.f43) tabOk (GOk.look (l := [(52, [S52]), (73, [S73]), (74, [S74])]) ⟨⟨ok52, trivial⟩, ⟨ok73, trivial⟩, ⟨ok74, trivial⟩, trivial⟩) Try.checked.mixed Try.func43 (by kernel_rfl) (by kernel_rfl) (by kernel_rfl) (by kernel_rfl) (by kernel_rfl) (by kernel_rfl) (by kernel_rfl)
  fun x y h => (raw43_eq x).trans h
theorem ok13 : FOk Try.prog 13 S13 := afun_ok (E := E13) (fn := Try.f13) tabOk (GOk.look (l := [(14, [S14]), (24, [S24]), (43, [S43])]) ⟨⟨ok14, trivial⟩, ⟨ok24, trivial⟩, ⟨ok43, trivial⟩, trivial⟩) Try.checked.mixed Try.func13 (by kernel_rfl) (by kernel_rfl) (by kernel_rfl) (by kernel_rfl) (by kernel_rfl) (by kernel_rfl) (by kernel_rfl)
  fun x y h => (raw13_eq x).trans h
theorem ok45 : FOk Try.prog 45 S45 := afun_ok (E := E45) (fn := Try.f45) tabOk (GOk.look (l := []) trivial) Try.checked.mixed Try.func45 (by kernel_rfl) (by kernel_rfl) (by kernel_rfl) (by kernel_rfl) (by kernel_rfl) (by kernel_rfl) (by kernel_rfl)
  fun x y h => (raw45_eq x).trans h
theorem ok15 : FOk Try.prog 15 S15 := afun_ok (E := E15) (fn := Try.f15) tabOk (GOk.look (l := [(45, [S45])]) ⟨⟨ok45, trivial⟩, trivial⟩) Try.checked.mixed Try.func15 (by kernel_rfl) (by kernel_rfl) (by kernel_rfl) (by kernel_rfl) (by kernel_rfl) (by kernel_rfl) (by kernel_rfl)
  fun x y h => (raw15_eq x).trans h
theorem ok16 : FOk Try.prog 16 S16 := afun_ok (E := E16) (fn := Try.f16) tabOk (GOk.look (l := [(14, [S14]), (44, [S44])]) ⟨⟨ok14, trivial⟩, ⟨ok44, trivial⟩, trivial⟩) Try.checked.mixed Try.func16 (by kernel_rfl) (by kernel_rfl) (by kernel_rfl) (by kernel_rfl) (by kernel_rfl) (by kernel_rfl) (by kernel_rfl)
  fun x y h => (raw16_eq x).trans h
theorem ok17 : FOk Try.prog 17 S17 := afun_ok (E := E17) (fn := Try.f17) tabOk (GOk.look (l := [(15, [S15]), (45, [S45])]) ⟨⟨ok15, trivial⟩, ⟨ok45, trivial⟩, trivial⟩) Try.checked.mixed Try.func17 (by kernel_rfl) (by kernel_rfl) (by kernel_rfl) (by kernel_rfl) (by kernel_rfl) (by kernel_rfl) (by kernel_rfl)
  fun x y h => (raw17_eq x).trans h
theorem ok19 : FOk Try.prog 19 S19 := afun_ok (E := E19) (fn := Try.f19) tabOk (GOk.look (l := [(15, [S15]), (17, [S17])]) ⟨⟨ok15, trivial⟩, ⟨ok17, trivial⟩, trivial⟩) Try.checked.mixed Try.func19 (by kernel_rfl) (by kernel_rfl) (by kernel_rfl) (by kernel_rfl) (by kernel_rfl) (by kernel_rfl) (by kernel_rfl)
  fun x y h => (raw19_eq x).trans h
theorem ok20 : FOk Try.prog 20 S20 := afun_ok (E := E20) (fn := Try.f20) tabOk (GOk.look (l := []) trivial) Try.checked.mixed Try.func20 (by kernel_rfl) (by kernel_rfl) (by kernel_rfl) (by kernel_rfl) (by kernel_rfl) (by kernel_rfl) (by kernel_rfl)
  fun x y h => (raw20_eq x).trans h
theorem ok83 : FOk Try.prog 83 S83 := afun_ok (E := E83) (fn := Try.f83) tabOk (GOk.look (l := []) trivial) Try.checked.mixed Try.func83 (by kernel_rfl) (by kernel_rfl) (by kernel_rfl) (by kernel_rfl) (by kernel_rfl) (by kernel_rfl) (by kernel_rfl)
  fun x y h => (raw83_eq x).trans h
theorem ok83a : FOk Try.prog 83 S83a := afun_ok (E := E83a) (fn := Try.f83) tabOk (GOk.look (l := []) trivial) Try.checked.mixed Try.func83 (by kernel_rfl) (by kernel_rfl) (by kernel_rfl) (by kernel_rfl) (by kernel_rfl) (by kernel_rfl) (by kernel_rfl)
  fun x y h => (raw83a_eq x).trans h
theorem ok82a : FOk Try.prog 82 S82a := rec_ok (P := Try.prog) (f := 82) (ps := P82a) (rs := R82a) (s := F82as) Try.func82 (by kernel_rfl) (by kernel_rfl) (by kernel_rfl) (fun (G : T28D × (List T51D × Unit) × Unit → Option ((List T51D × Unit) × Unit)) hG => afun_ok (P := Try.prog) (E := E82ar G) (f := 82) (fn := Try.f82) (ps := P82a) (rs := R82a) (F := F82as G) tabOk (GOk.look (l := [(82, [⟨P82a, R82a, G⟩]), (83, [S83, S83a])]) ⟨⟨hG, trivial⟩, ⟨ok83, ok83a, trivial⟩, trivial⟩) Try.checked.mixed Try.func82 (by kernel_rfl) (by kernel_rfl) (by kernel_rfl) (by kernel_rfl) (by kernel_rfl) (by kernel_rfl) (by kernel_rfl)
  fun x y h => (raw82a_eq G x).trans h) big
theorem ok56 : FOk Try.prog 56 S56 := afun_ok (E := E56) (fn := Try.f56) tabOk (GOk.look (l := [(82, [S82a]), (83, [S83, S83a])]) ⟨⟨ok82a, trivial⟩, ⟨ok83, ok83a, trivial⟩, trivial⟩) Try.checked.mixed Try.func56 (by kernel_rfl) (by kernel_rfl) (by kernel_rfl) (by kernel_rfl) (by kernel_rfl) (by kernel_rfl) (by kernel_rfl)
  fun x y h => (raw56_eq x).trans h
theorem ok27 : FOk Try.prog 27 S27 := afun_ok (E := E27) (fn := Try.f27) tabOk (GOk.look (l := [(56, [S56]), (57, [S57])]) ⟨⟨ok56, trivial⟩, ⟨ok57, trivial⟩, trivial⟩) Try.checked.mixed Try.func27 (by kernel_rfl) (by kernel_rfl) (by kernel_rfl) (by kernel_rfl) (by kernel_rfl) (by kernel_rfl) (by kernel_rfl)
  fun x y h => (raw27_eq x).trans h
theorem ok27z : FOk Try.prog 27 S27z := afun_ok (E := E27z) (fn := Try.f27) (tabOk.deeps [33, 47, 74]) (GOk.look (l := [(56, [S56]), (57, [S57])]) ⟨⟨ok56, trivial⟩, ⟨ok57, trivial⟩, trivial⟩) Try.checked.mixed Try.func27 (by kernel_rfl) (by kernel_rfl) (by kernel_rfl) (by kernel_rfl) (by kernel_rfl) (by kernel_rfl) (by kernel_rfl)
  fun x y h => (raw27z_eq x).trans h
theorem ok70 : FOk Try.prog 70 S70 := afun_ok (E := E70) (fn := Try.f70) tabOk (GOk.look (l := [(84, [S84])]) ⟨⟨ok84, trivial⟩, trivial⟩) Try.checked.mixed Try.func70 (by kernel_rfl) (by kernel_rfl) (by kernel_rfl) (by kernel_rfl) (by kernel_rfl) (by kernel_rfl) (by kernel_rfl)
  fun x y h => (raw70_eq x).trans h
theorem ok39 : FOk Try.prog 39 S39 := afun_ok (E := E39) (fn := Try.f39) tabOk (GOk.look (l := [(56, [S56]), (69, [S69]), (70, [S70])]) ⟨⟨ok56, trivial⟩, ⟨ok69, trivial⟩, ⟨ok70, trivial⟩, trivial⟩) Try.checked.mixed Try.func39 (by kernel_rfl) (by kernel_rfl) (by kernel_rfl) (by kernel_rfl) (by kernel_rfl) (by kernel_rfl) (by kernel_rfl)
  fun x y h => (raw39_eq x).trans h
theorem ok71 : FOk Try.prog 71 S71 := afun_ok (E := E71) (fn := Try.f71) tabOk (GOk.look (l := []) trivial) Try.checked.mixed Try.func71 (by kernel_rfl) (by kernel_rfl) (by kernel_rfl) (by kernel_rfl) (by kernel_rfl) (by kernel_rfl) (by kernel_rfl)
  fun x y h => (raw71_eq x).trans h
theorem ok58 : FOk Try.prog 58 S58 := afun_ok (E := E58) (fn := Try.f58) tabOk (GOk.look (l := []) trivial) Try.checked.mixed Try.func58 (by kernel_rfl) (by kernel_rfl) (by kernel_rfl) (by kernel_rfl) (by kernel_rfl) (by kernel_rfl) (by kernel_rfl)
  fun x y h => (raw58_eq x).trans h
theorem ok28 : FOk Try.prog 28 S28 := afun_ok (E := E28) (fn := Try.f28) tabOk (GOk.look (l := [(58, [S58])]) ⟨⟨ok58, trivial⟩, trivial⟩) Try.checked.mixed Try.func28 (by kernel_rfl) (by kernel_rfl) (by kernel_rfl) (by kernel_rfl) (by kernel_rfl) (by kernel_rfl) (by kernel_rfl)
  fun x y h => (raw28_eq x).trans h
theorem ok54 : FOk Try.prog 54 S54 := afun_ok (E := E54) (fn := Try.f54) tabOk (GOk.look (l := [(28, [S28])]) ⟨⟨ok28, trivial⟩, trivial⟩) Try.checked.mixed Try.func54 (by kernel_rfl) (by kernel_rfl) (by kernel_rfl) (by kernel_rfl) (by kernel_rfl) (by kernel_rfl) (by kernel_rfl)
  fun x y h => (raw54_eq x).trans h
theorem ok72 : FOk Try.prog 72 S72 := afun_ok (E := E72) (fn := Try.f72) tabOk (GOk.look (l := [(28, [S28]), (54, [S54])]) ⟨⟨ok28, trivial⟩, ⟨ok54, trivial⟩, trivial⟩) Try.checked.mixed Try.func72 (by kernel_rfl) (by kernel_rfl) (by kernel_rfl) (by kernel_rfl) (by kernel_rfl) (by kernel_rfl) (by kernel_rfl)
  fun x y h => (raw72_eq x).trans h
theorem ok40 : FOk Try.prog 40 S40 := afun_ok (E := E40) (fn := Try.f40) tabOk (GOk.look (l := [(71, [S71]), (72, [S72])]) ⟨⟨ok71, trivial⟩, ⟨ok72, trivial⟩, trivial⟩) Try.checked.mixed Try.func40 (by kernel_rfl) (by kernel_rfl) (by kernel_rfl) (by kernel_rfl) (by kernel_rfl) (by kernel_rfl) (by kernel_rfl)
  fun x y h => (raw40_eq x).trans h
theorem ok94 : FOk Try.prog 94 S94 := afun_ok (E := E94) (fn := Try.f94) tabOk (GOk.look (l := []) trivial) Try.checked.mixed Try.func94 (by kernel_rfl) (by kernel_rfl) (by kernel_rfl) (by kernel_rfl) (by kernel_rfl) (by kernel_rfl) (by kernel_rfl)
  fun x y h => (raw94_eq x).trans h
theorem ok94a : FOk Try.prog 94 S94a := afun_ok (E := E94a) (fn := Try.f94) tabOk (GOk.look (l := []) trivial) Try.checked.mixed Try.func94 (by kernel_rfl) (by kernel_rfl) (by kernel_rfl) (by kernel_rfl) (by kernel_rfl) (by kernel_rfl) (by kernel_rfl)
  fun x y h => (raw94a_eq x).trans h
theorem ok93a : FOk Try.prog 93 S93a := rec_ok (P := Try.prog) (f := 93) (ps := P93a) (rs := R93a) (s := F93as) Try.func93 (by kernel_rfl) (by kernel_rfl) (by kernel_rfl) (fun (G : T28D × List UInt8 × List UInt8 × (List T51D × Unit) × Unit → Option ((List T51D × Unit) × Unit)) hG => afun_ok (P := Try.prog) (E := E93ar G) (f := 93) (fn := Try.f93) (ps := P93a) (rs := R93a) (F := F93as G) tabOk (GOk.look (l := [(81, [S81]), (93, [⟨P93a, R93a, G⟩]), (94, [S94, S94a])]) ⟨⟨ok81, trivial⟩, ⟨hG, trivial⟩, ⟨ok94, ok94a, trivial⟩, trivial⟩) Try.checked.mixed Try.func93 (by kernel_rfl) (by kernel_rfl) (by kernel_rfl) (by kernel_rfl) (by kernel_rfl) (by kernel_rfl) (by kernel_rfl)
  fun x y h => (raw93a_eq G x).trans h) big
theorem ok86 : FOk Try.prog 86 S86 := afun_ok (E := E86) (fn := Try.f86) tabOk (GOk.look (l := [(93, [S93a]), (94, [S94, S94a])]) ⟨⟨ok93a, trivial⟩, ⟨ok94, ok94a, trivial⟩, trivial⟩) Try.checked.mixed Try.func86 (by kernel_rfl) (by kernel_rfl) (by kernel_rfl) (by kernel_rfl) (by kernel_rfl) (by kernel_rfl) (by kernel_rfl)
  fun x y h => (raw86_eq x).trans h
theorem ok62 : FOk Try.prog 62 S62 := afun_ok (E := E62) (fn := Try.f62) tabOk (GOk.look (l := [(16, [S16]), (52, [S52]), (86, [S86])]) ⟨⟨ok16, trivial⟩, ⟨ok52, trivial⟩, ⟨ok86, trivial⟩, trivial⟩) Try.checked.mixed Try.func62 (by kernel_rfl) (by kernel_rfl) (by kernel_rfl) (by kernel_rfl) (by kernel_rfl) (by kernel_rfl) (by kernel_rfl)
  fun x y h => (raw62_eq x).trans h
theorem ok41 : FOk Try.prog 41 S41 := afun_ok (E := E41) (fn := Try.f41) tabOk (GOk.look (l := [(62, [S62]), (69, [S69])]) ⟨⟨ok62, trivial⟩, ⟨ok69, trivial⟩, trivial⟩) Try.checked.mixed Try.func41 (by kernel_rfl) (by kernel_rfl) (by kernel_rfl) (by kernel_rfl) (by kernel_rfl) (by kernel_rfl) (by kernel_rfl)
  fun x y h => (raw41_eq x).trans h
theorem ok42 : FOk Try.prog 42 S42 := afun_ok (E := E42) (fn := Try.f42) tabOk (GOk.look (l := [(19, [S19])]) ⟨⟨ok19, trivial⟩, trivial⟩) Try.checked.mixed Try.func42 (by kernel_rfl) (by kernel_rfl) (by kernel_rfl) (by kernel_rfl) (by kernel_rfl) (by kernel_rfl) (by kernel_rfl)
  fun x y h => (raw42_eq x).trans h
theorem ok55 : FOk Try.prog 55 S55 := afun_ok (E := E55) (fn := Try.f55) tabOk (GOk.look (l := []) trivial) Try.checked.mixed Try.func55 (by kernel_rfl) (by kernel_rfl) (by kernel_rfl) (by kernel_rfl) (by kernel_rfl) (by kernel_rfl) (by kernel_rfl)
  fun x y h => (raw55_eq x).trans h
theorem ok80 : FOk Try.prog 80 S80 := afun_ok (E := E80) (fn := Try.f80) tabOk (GOk.look (l := [(28, [S28])]) ⟨⟨ok28, trivial⟩, trivial⟩) Try.checked.mixed Try.func80 (by kernel_rfl) (by kernel_rfl) (by kernel_rfl) (by kernel_rfl) (by kernel_rfl) (by kernel_rfl) (by kernel_rfl)
  fun x y h => (raw80_eq x).trans h
theorem ok75 : FOk Try.prog 75 S75 := afun_ok (E := E75) (fn := Try.f75) tabOk (GOk.look (l := [(80, [S80])]) ⟨⟨ok80, trivial⟩, trivial⟩) Try.checked.mixed Try.func75 (by kernel_rfl) (by kernel_rfl) (by kernel_rfl) (by kernel_rfl) (by kernel_rfl) (by kernel_rfl) (by kernel_rfl)
  fun x y h => (raw75_eq x).trans h
theorem ok46 : FOk Try.prog 46 S46 := afun_ok (E := E46) (fn := Try.f46) tabOk (GOk.look (l := [(15, [S15]), (55, [S55]), (71, [S71]), (75, [S75])]) ⟨⟨ok15, trivial⟩, ⟨ok55, trivial⟩, ⟨ok71, trivial⟩, ⟨ok75, trivial⟩, trivial⟩) Try.checked.mixed Try.func46 (by kernel_rfl) (by kernel_rfl) (by kernel_rfl) (by kernel_rfl) (by kernel_rfl) (by kernel_rfl) (by kernel_rfl)
  fun x y h => (raw46_eq x).trans h
theorem ok76 : FOk Try.prog 76 S76 := afun_ok (E := E76) (fn := Try.f76) tabOk (GOk.look (l := [(53, [S53]), (79, [S79])]) ⟨⟨ok53, trivial⟩, ⟨ok79, trivial⟩, trivial⟩) Try.checked.mixed Try.func76 (by kernel_rfl) (by kernel_rfl) (by kernel_rfl) (by kernel_rfl) (by kernel_rfl) (by kernel_rfl) (by kernel_rfl)
  fun x y h => (raw76_eq x).trans h
theorem ok47 : FOk Try.prog 47 S47 := afun_ok (E := E47) (fn := Try.f47) tabOk (GOk.look (l := [(16, [S16]), (53, [S53]), (62, [S62]), (69, [S69]), (76, [S76])]) ⟨⟨ok16, trivial⟩, ⟨ok53, trivial⟩, ⟨ok62, trivial⟩, ⟨ok69, trivial⟩, ⟨ok76, trivial⟩, trivial⟩) Try.checked.mixed Try.func47 (by kernel_rfl) (by kernel_rfl) (by kernel_rfl) (by kernel_rfl) (by kernel_rfl) (by kernel_rfl) (by kernel_rfl)
  fun x y h => (raw47_eq x).trans h
theorem ok25 : FOk Try.prog 25 S25 := afun_ok (E := E25) (fn := Try.f25) tabOk (GOk.look (l := [(54, [S54]), (55, [S55])]) ⟨⟨ok54, trivial⟩, ⟨ok55, trivial⟩, trivial⟩) Try.checked.mixed Try.func25 (by kernel_rfl) (by kernel_rfl) (by kernel_rfl) (by kernel_rfl) (by kernel_rfl) (by kernel_rfl) (by kernel_rfl)
  fun x y h => (raw25_eq x).trans h
theorem ok77 : FOk Try.prog 77 S77 := afun_ok (E := E77) (fn := Try.f77) tabOk (GOk.look (l := [(19, [S19]), (25, [S25])]) ⟨⟨ok19, trivial⟩, ⟨ok25, trivial⟩, trivial⟩) Try.checked.mixed Try.func77 (by kernel_rfl) (by kernel_rfl) (by kernel_rfl) (by kernel_rfl) (by kernel_rfl) (by kernel_rfl) (by kernel_rfl)
  fun x y h => (raw77_eq x).trans h
theorem ok78 : FOk Try.prog 78 S78 := afun_ok (E := E78) (fn := Try.f78) tabOk (GOk.look (l := [(80, [S80])]) ⟨⟨ok80, trivial⟩, trivial⟩) Try.checked.mixed Try.func78 (by kernel_rfl) (by kernel_rfl) (by kernel_rfl) (by kernel_rfl) (by kernel_rfl) (by kernel_rfl) (by kernel_rfl)
  fun x y h => (raw78_eq x).trans h
theorem ok48 : FOk Try.prog 48 S48 := afun_ok (E := E48) (fn := Try.f48) tabOk (GOk.look (l := [(17, [S17]), (55, [S55]), (71, [S71]), (77, [S77]), (78, [S78])]) ⟨⟨ok17, trivial⟩, ⟨ok55, trivial⟩, ⟨ok71, trivial⟩, ⟨ok77, trivial⟩, ⟨ok78, trivial⟩, trivial⟩) Try.checked.mixed Try.func48 (by kernel_rfl) (by kernel_rfl) (by kernel_rfl) (by kernel_rfl) (by kernel_rfl) (by kernel_rfl) (by kernel_rfl)
  fun x y h => (raw48_eq x).trans h
theorem ok49 : FOk Try.prog 49 S49 := afun_ok (E := E49) (fn := Try.f49) tabOk (GOk.look (l := [(52, [S52]), (74, [S74]), (79, [S79])]) ⟨⟨ok52, trivial⟩, ⟨ok74, trivial⟩, ⟨ok79, trivial⟩, trivial⟩) Try.checked.mixed Try.func49 (by kernel_rfl) (by kernel_rfl) (by kernel_rfl) (by kernel_rfl) (by kernel_rfl) (by kernel_rfl) (by kernel_rfl)
  fun x y h => (raw49_eq x).trans h
theorem ok50 : FOk Try.prog 50 S50 := afun_ok (E := E50) (fn := Try.f50) tabOk (GOk.look (l := [(15, [S15]), (55, [S55]), (71, [S71]), (80, [S80])]) ⟨⟨ok15, trivial⟩, ⟨ok55, trivial⟩, ⟨ok71, trivial⟩, ⟨ok80, trivial⟩, trivial⟩) Try.checked.mixed Try.func50 (by kernel_rfl) (by kernel_rfl) (by kernel_rfl) (by kernel_rfl) (by kernel_rfl) (by kernel_rfl) (by kernel_rfl)
  fun x y h => (raw50_eq x).trans h
theorem ok21 : FOk Try.prog 21 S21 := afun_ok (E := E21) (fn := Try.f21) tabOk (GOk.look (l := [(27, [S27]), (39, [S39]), (40, [S40]), (41, [S41]), (42, [S42]), (43, [S43]), (46, [S46]), (47, [S47]), (48, [S48]), (49, [S49]), (50, [S50])]) ⟨⟨ok27, trivial⟩, ⟨ok39, trivial⟩, ⟨ok40, trivial⟩, ⟨ok41, trivial⟩, ⟨ok42, trivial⟩, ⟨ok43, trivial⟩, ⟨ok46, trivial⟩, ⟨ok47, trivial⟩, ⟨ok48, trivial⟩, ⟨ok49, trivial⟩, ⟨ok50, trivial⟩, trivial⟩) Try.checked.mixed Try.func21 (by kernel_rfl) (by kernel_rfl) (by kernel_rfl) (by kernel_rfl) (by kernel_rfl) (by kernel_rfl) (by kernel_rfl)
  fun x y h => (raw21_eq x).trans h
theorem ok51 : FOk Try.prog 51 S51 := afun_ok (E := E51) (fn := Try.f51) tabOk (GOk.look (l := []) trivial) Try.checked.mixed Try.func51 (by kernel_rfl) (by kernel_rfl) (by kernel_rfl) (by kernel_rfl) (by kernel_rfl) (by kernel_rfl) (by kernel_rfl)
  fun x y h => (raw51_eq x).trans h
theorem ok22 : FOk Try.prog 22 S22 := afun_ok (E := E22) (fn := Try.f22) tabOk (GOk.look (l := [(51, [S51])]) ⟨⟨ok51, trivial⟩, trivial⟩) Try.checked.mixed Try.func22 (by kernel_rfl) (by kernel_rfl) (by kernel_rfl) (by kernel_rfl) (by kernel_rfl) (by kernel_rfl) (by kernel_rfl)
  fun x y h => (raw22_eq x).trans h
theorem ok23 : FOk Try.prog 23 S23 := afun_ok (E := E23) (fn := Try.f23) tabOk (GOk.look (l := [(27, [S27])]) ⟨⟨ok27, trivial⟩, trivial⟩) Try.checked.mixed Try.func23 (by kernel_rfl) (by kernel_rfl) (by kernel_rfl) (by kernel_rfl) (by kernel_rfl) (by kernel_rfl) (by kernel_rfl)
  fun x y h => (raw23_eq x).trans h
theorem ok26 : FOk Try.prog 26 S26 := afun_ok (E := E26) (fn := Try.f26) tabOk (GOk.look (l := [(21, [S21])]) ⟨⟨ok21, trivial⟩, trivial⟩) Try.checked.mixed Try.func26 (by kernel_rfl) (by kernel_rfl) (by kernel_rfl) (by kernel_rfl) (by kernel_rfl) (by kernel_rfl) (by kernel_rfl)
  fun x y h => (raw26_eq x).trans h
theorem ok5 : FOk Try.prog 5 S5 := afun_ok (E := E5) (fn := Try.f5) (tabOk.deeps [33, 47, 74]) (GOk.look (l := [(13, [S13]), (20, [S20]), (21, [S21]), (22, [S22]), (23, [S23]), (26, [S26]), (27, [S27z]), (28, [S28])]) ⟨⟨ok13, trivial⟩, ⟨ok20, trivial⟩, ⟨ok21, trivial⟩, ⟨ok22, trivial⟩, ⟨ok23, trivial⟩, ⟨ok26, trivial⟩, ⟨ok27z, trivial⟩, ⟨ok28, trivial⟩, trivial⟩) Try.checked.mixed Try.func5 (by kernel_rfl) (by kernel_rfl) (by kernel_rfl) (by kernel_rfl) (by kernel_rfl) (by kernel_rfl) (by kernel_rfl)
  fun x y h => (raw5_eq x).trans h
end Go.Proofs.Ytphdilmnielgeaa
