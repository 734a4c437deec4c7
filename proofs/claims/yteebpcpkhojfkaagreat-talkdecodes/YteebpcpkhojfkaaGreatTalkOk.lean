/-
  Talk: by a program of the bench (seat.py).
-/
import Derived.Test.YteebpcpkhojfkaaGreatTalkHand
import Derived.Test.YteebpcpkhojfkaaGreatTalkRaw
namespace Go.Proofs.YteebpcpkhojfkaaGreat
open Go.Sx Go
theorem ok160 : FOk Tryz.prog 160 S160 := afun_ok (E := E160) (fn := Tryz.f160) tabOk (GOk.look (l := []) trivial) Tryz.checked.mixed Tryz.func160 (by kernel_rfl) (by kernel_rfl) (by kernel_rfl) (by kernel_rfl) (by kernel_rfl) (by kernel_rfl) (by kernel_rfl)
  fun x y h => (raw160_eq x).trans h
theorem ok210 : FOk Tryz.prog 210 S210 := afun_ok (E := E210) (fn := Tryz.f210) tabOk (GOk.look (l := [(160, [S160])]) ⟨⟨ok160, trivial⟩, trivial⟩) Tryz.checked.mixed Tryz.func210 (by kernel_rfl) (by kernel_rfl) (by kernel_rfl) (by kernel_rfl) (by kernel_rfl) (by kernel_rfl) (by kernel_rfl)
  fun x y h => (raw210_eq x).trans h
theorem ok209a : FOk Tryz.prog 209 S209a := afun_ok (E := E209a) (fn := Tryz.f209) tabOk (GOk.look (l := [(210, [S210])]) ⟨⟨ok210, trivial⟩, trivial⟩) Tryz.checked.mixed Tryz.func209 (by kernel_rfl) (by kernel_rfl) (by kernel_rfl) (by kernel_rfl) (by kernel_rfl) (by kernel_rfl) (by kernel_rfl)
  fun x y h => (raw209a_eq x).trans h
theorem ok159 : FOk Tryz.prog 159 S159 := afun_ok (E := E159) (fn := Tryz.f159) tabOk (GOk.look (l := [(209, [S209a]), (210, [S210])]) ⟨⟨ok209a, trivial⟩, ⟨ok210, trivial⟩, trivial⟩) Tryz.checked.mixed Tryz.func159 (by kernel_rfl) (by kernel_rfl) (by kernel_rfl) (by kernel_rfl) (by kernel_rfl) (by kernel_rfl) (by kernel_rfl)
  fun x y h => (raw159_eq x).trans h
theorem ok75 : FOk Tryz.prog 75 S75 := afun_ok (E := E75) (fn := Tryz.f75) tabOk (GOk.look (l := [(159, [S159]), (160, [S160])]) ⟨⟨ok159, trivial⟩, ⟨ok160, trivial⟩, trivial⟩) Tryz.checked.mixed Tryz.func75 (by kernel_rfl) (by kernel_rfl) (by kernel_rfl) (by kernel_rfl) (by kernel_rfl) (by kernel_rfl) (by kernel_rfl)
  fun x y h => (raw75_eq x).trans h
theorem ok161 : FOk Tryz.prog 161 S161 := afun_ok (E := E161) (fn := Tryz.f161) tabOk (GOk.look (l := []) trivial) Tryz.checked.mixed Tryz.func161 (by kernel_rfl) (by kernel_rfl) (by kernel_rfl) (by kernel_rfl) (by kernel_rfl) (by kernel_rfl) (by kernel_rfl)
  fun x y h => (raw161_eq x).trans h
theorem ok162 : FOk Tryz.prog 162 S162 := afun_ok (E := E162) (fn := Tryz.f162) tabOk (GOk.look (l := []) trivial) Tryz.checked.mixed Tryz.func162 (by kernel_rfl) (by kernel_rfl) (by kernel_rfl) (by kernel_rfl) (by kernel_rfl) (by kernel_rfl) (by kernel_rfl)
  fun x y h => (raw162_eq x).trans h
theorem ok79 : FOk Tryz.prog 79 S79 := afun_ok (E := E79) (fn := Tryz.f79) tabOk (GOk.look (l := []) trivial) Tryz.checked.mixed Tryz.func79 (by kernel_rfl) (by kernel_rfl) (by kernel_rfl) (by kernel_rfl) (by kernel_rfl) (by kernel_rfl) (by kernel_rfl)
  fun x y h => (raw79_eq x).trans h
theorem ok163 : FOk Tryz.prog 163 S163 := afun_ok (E := E163) (fn := Tryz.f163) tabOk (GOk.look (l := [(79, [S79])]) ⟨⟨ok79, trivial⟩, trivial⟩) Tryz.checked.mixed Tryz.func163 (by kernel_rfl) (by kernel_rfl) (by kernel_rfl) (by kernel_rfl) (by kernel_rfl) (by kernel_rfl) (by kernel_rfl)
  fun x y h => (raw163_eq x).trans h
theorem ok77 : FOk Tryz.prog 77 S77 := afun_ok (E := E77) (fn := Tryz.f77) tabOk (GOk.look (l := [(163, [S163])]) ⟨⟨ok163, trivial⟩, trivial⟩) Tryz.checked.mixed Tryz.func77 (by kernel_rfl) (by kernel_rfl) (by kernel_rfl) (by kernel_rfl) (by kernel_rfl) (by kernel_rfl) (by kernel_rfl)
  fun x y h => (raw77_eq x).trans h
theorem ok212 : FOk Tryz.prog 212 S212 := afun_ok (E := E212) (fn := Tryz.f212) tabOk (GOk.look (l := [(77, [S77])]) ⟨⟨ok77, trivial⟩, trivial⟩) Tryz.checked.mixed Tryz.func212 (by kernel_rfl) (by kernel_rfl) (by kernel_rfl) (by kernel_rfl) (by kernel_rfl) (by kernel_rfl) (by kernel_rfl)
  fun x y h => (raw212_eq x).trans h
theorem ok211a : FOk Tryz.prog 211 S211a := afun_ok (E := E211a) (fn := Tryz.f211) tabOk (GOk.look (l := [(212, [S212])]) ⟨⟨ok212, trivial⟩, trivial⟩) Tryz.checked.mixed Tryz.func211 (by kernel_rfl) (by kernel_rfl) (by kernel_rfl) (by kernel_rfl) (by kernel_rfl) (by kernel_rfl) (by kernel_rfl)
  fun x y h => (raw211a_eq x).trans h
theorem ok164 : FOk Tryz.prog 164 S164 := afun_ok (E := E164) (fn := Tryz.f164) tabOk (GOk.look (l := [(211, [S211a]), (212, [S212])]) ⟨⟨ok211a, trivial⟩, ⟨ok212, trivial⟩, trivial⟩) Tryz.checked.mixed Tryz.func164 (by kernel_rfl) (by kernel_rfl) (by kernel_rfl) (by kernel_rfl) (by kernel_rfl) (by kernel_rfl) (by kernel_rfl)
  fun x y h => (raw164_eq x).trans h
theorem ok165 : FOk Tryz.prog 165 S165 := afun_ok (E := E165) (fn := Tryz.f165) tabOk (GOk.look (l := []) trivial) Tryz.checked.mixed Tryz.func165 (by kernel_rfl) (by kernel_rfl) (by kernel_rfl) (by kernel_rfl) (by kernel_rfl) (by kernel_rfl) (by kernel_rfl)
  fun x y h => (raw165_eq x).trans h
theorem ok76 : FOk Tryz.prog 76 S76 := afun_ok (E := E76) (fn := Tryz.f76) tabOk (GOk.look (l := [(161, [S161]), (162, [S162]), (163, [S163]), (164, [S164]), (165, [S165])]) ⟨⟨ok161, trivial⟩, ⟨ok162, trivial⟩, ⟨ok163, trivial⟩, ⟨ok164, trivial⟩, ⟨ok165, trivial⟩, trivial⟩) Tryz.checked.mixed Tryz.func76 (by kernel_rfl) (by kernel_rfl) (by kernel_rfl) (by kernel_rfl) (by kernel_rfl) (by kernel_rfl) (by kernel_rfl)
  fun x y h => (raw76_eq x).trans h
theorem ok167 : FOk Tryz.prog 167 S167 := afun_ok (E := E167) (fn := Tryz.f167) tabOk (GOk.look (l := [(79, [S79])]) ⟨⟨ok79, trivial⟩, trivial⟩) Tryz.checked.mixed Tryz.func167 (by kernel_rfl) (by kernel_rfl) (by kernel_rfl) (by kernel_rfl) (by kernel_rfl) (by kernel_rfl) (by kernel_rfl)
  fun x y h => (raw167_eq x).trans h
theorem ok166a : FOk Tryz.prog 166 S166a := afun_ok (E := E166a) (fn := Tryz.f166) tabOk (GOk.look (l := [(167, [S167])]) ⟨⟨ok167, trivial⟩, trivial⟩) Tryz.checked.mixed Tryz.func166 (by kernel_rfl) (by kernel_rfl) (by kernel_rfl) (by kernel_rfl) (by kernel_rfl) (by kernel_rfl) (by kernel_rfl)
  fun x y h => (raw166a_eq x).trans h
theorem ok78 : FOk Tryz.prog 78 S78 := afun_ok (E := E78) (fn := Tryz.f78) tabOk (GOk.look (l := [(166, [S166a]), (167, [S167])]) ⟨⟨ok166a, trivial⟩, ⟨ok167, trivial⟩, trivial⟩) Tryz.checked.mixed Tryz.func78 (by kernel_rfl) (by kernel_rfl) (by kernel_rfl) (by kernel_rfl) (by kernel_rfl) (by kernel_rfl) (by kernel_rfl)
  fun x y h => (raw78_eq x).trans h
theorem ok80 : FOk Tryz.prog 80 S80 := afun_ok (E := E80) (fn := Tryz.f80) tabOk (GOk.look (l := [(76, [S76])]) ⟨⟨ok76, trivial⟩, trivial⟩) Tryz.checked.mixed Tryz.func80 (by kernel_rfl) (by kernel_rfl) (by kernel_rfl) (by kernel_rfl) (by kernel_rfl) (by kernel_rfl) (by kernel_rfl)
  fun x y h => (raw80_eq x).trans h
theorem ok18 : FOk Tryz.prog 18 S18 := afun_ok (E := E18) (fn := Tryz.f18) tabOk (GOk.look (l := [(75, [S75]), (76, [S76]), (77, [S77]), (78, [S78]), (79, [S79]), (80, [S80])]) ⟨⟨ok75, trivial⟩, ⟨ok76, trivial⟩, ⟨ok77, trivial⟩, ⟨ok78, trivial⟩, ⟨ok79, trivial⟩, ⟨ok80, trivial⟩, trivial⟩) Tryz.checked.mixed Tryz.func18 (by kernel_rfl) (by kernel_rfl) (by kernel_rfl) (by kernel_rfl) (by kernel_rfl) (by kernel_rfl) (by kernel_rfl)
  fun x y h => (raw18_eq x).trans h
theorem ok70 : FOk Tryz.prog 70 S70 := afun_ok (E := E70) (fn := Tryz.f70) tabOk (GOk.look (l := []) trivial) Tryz.checked.mixed Tryz.func70 (by kernel_rfl) (by kernel_rfl) (by kernel_rfl) (by kernel_rfl) (by kernel_rfl) (by kernel_rfl) (by kernel_rfl)
  fun x y h => (raw70_eq x).trans h
theorem ok146 : FOk Tryz.prog 146 S146 := afun_ok (E := E146) (fn := Tryz.f146) tabOk (GOk.look (l := []) trivial) Tryz.checked.mixed Tryz.func146 (by kernel_rfl) (by kernel_rfl) (by kernel_rfl) (by kernel_rfl) (by kernel_rfl) (by kernel_rfl) (by kernel_rfl)
  fun x y h => (raw146_eq x).trans h
theorem ok147 : FOk Tryz.prog 147 S147 := afun_ok (E := E147) (fn := Tryz.f147) tabOk (GOk.look (l := []) trivial) Tryz.checked.mixed Tryz.func147 (by kernel_rfl) (by kernel_rfl) (by kernel_rfl) (by kernel_rfl) (by kernel_rfl) (by kernel_rfl) (by kernel_rfl)
  fun x y h => (raw147_eq x).trans h
theorem ok148 : FOk Tryz.prog 148 S148 := afun_ok (E := E148) (fn := Tryz.f148) tabOk (GOk.look (l := []) trivial) Tryz.checked.mixed Tryz.func148 (by kernel_rfl) (by kernel_rfl) (by kernel_rfl) (by kernel_rfl) (by kernel_rfl) (by kernel_rfl) (by kernel_rfl)
  fun x y h => (raw148_eq x).trans h
theorem ok199 : FOk Tryz.prog 199 S199 := afun_ok (E := E199) (fn := Tryz.f199) tabOk (GOk.look (l := []) trivial) Tryz.checked.mixed Tryz.func199 (by kernel_rfl) (by kernel_rfl) (by kernel_rfl) (by kernel_rfl) (by kernel_rfl) (by kernel_rfl) (by kernel_rfl)
  fun x y h => (raw199_eq x).trans h
theorem ok173 : FOk Tryz.prog 173 S173 := afun_ok (E := E173) (fn := Tryz.f173) tabOk (GOk.look (l := [(199, [S199])]) ⟨⟨ok199, trivial⟩, trivial⟩) Tryz.checked.mixed Tryz.func173 (by kernel_rfl) (by kernel_rfl) (by kernel_rfl) (by kernel_rfl) (by kernel_rfl) (by kernel_rfl) (by kernel_rfl)
  fun x y h => (raw173_eq x).trans h
theorem ok149 : FOk Tryz.prog 149 S149 := afun_ok (E := E149) (fn := Tryz.f149) tabOk (GOk.look (l := [(173, [S173])]) ⟨⟨ok173, trivial⟩, trivial⟩) Tryz.checked.mixed Tryz.func149 (by kernel_rfl) (by kernel_rfl) (by kernel_rfl) (by kernel_rfl) (by kernel_rfl) (by kernel_rfl) (by kernel_rfl)
  fun x y h => (raw149_eq x).trans h
theorem ok150 : FOk Tryz.prog 150 S150 := afun_ok (E := E150) (fn := Tryz.f150) tabOk (GOk.look (l := [(199, [S199])]) ⟨⟨ok199, trivial⟩, trivial⟩) Tryz.checked.mixed Tryz.func150 (by kernel_rfl) (by kernel_rfl) (by kernel_rfl) (by kernel_rfl) (by kernel_rfl) (by kernel_rfl) (by kernel_rfl)
  fun x y h => (raw150_eq x).trans h
theorem ok71 : FOk Tryz.prog 71 S71 := afun_ok (E := E71) (fn := Tryz.f71) tabOk (GOk.look (l := [(75, [S75]), (146, [S146]), (147, [S147]), (148, [S148]), (149, [S149]), (150, [S150])]) ⟨⟨ok75, trivial⟩, ⟨ok146, trivial⟩, ⟨ok147, trivial⟩, ⟨ok148, trivial⟩, ⟨ok149, trivial⟩, ⟨ok150, trivial⟩, trivial⟩) Tryz.checked.mixed Tryz.func71 (by kernel_rfl) (by kernel_rfl) (by kernel_rfl) (by kernel_rfl) (by kernel_rfl) (by kernel_rfl) (by kernel_rfl)
  fun x y h => (raw71_eq x).trans h
theorem ok72 : FOk Tryz.prog 72 S72 := afun_ok (E := E72) (fn := Tryz.f72) tabOk (GOk.look (l := []) trivial) Tryz.checked.mixed Tryz.func72 (by kernel_rfl) (by kernel_rfl) (by kernel_rfl) (by kernel_rfl) (by kernel_rfl) (by kernel_rfl) (by kernel_rfl)
  fun x y h => (raw72_eq x).trans h
theorem ok200 : FOk Tryz.prog 200 S200 := afun_ok (E := E200) (fn := Tryz.f200) tabOk (GOk.look (l := []) trivial) Tryz.checked.mixed Tryz.func200 (by kernel_rfl) (by kernel_rfl) (by kernel_rfl) (by kernel_rfl) (by kernel_rfl) (by kernel_rfl) (by kernel_rfl)
  fun x y h => (raw200_eq x).trans h
theorem ok153 : FOk Tryz.prog 153 S153 := afun_ok (E := E153) (fn := Tryz.f153) tabOk (GOk.look (l := [(200, [S200])]) ⟨⟨ok200, trivial⟩, trivial⟩) Tryz.checked.mixed Tryz.func153 (by kernel_rfl) (by kernel_rfl) (by kernel_rfl) (by kernel_rfl) (by kernel_rfl) (by kernel_rfl) (by kernel_rfl)
  fun x y h => (raw153_eq x).trans h
theorem ok152 : FOk Tryz.prog 152 S152 := afun_ok (E := E152) (fn := Tryz.f152) tabOk (GOk.look (l := [(153, [S153])]) ⟨⟨ok153, trivial⟩, trivial⟩) Tryz.checked.mixed Tryz.func152 (by kernel_rfl) (by kernel_rfl) (by kernel_rfl) (by kernel_rfl) (by kernel_rfl) (by kernel_rfl) (by kernel_rfl)
  fun x y h => (raw152_eq x).trans h
theorem ok176 : FOk Tryz.prog 176 S176 := afun_ok (E := E176) (fn := Tryz.f176) tabOk (GOk.look (l := []) trivial) Tryz.checked.mixed Tryz.func176 (by kernel_rfl) (by kernel_rfl) (by kernel_rfl) (by kernel_rfl) (by kernel_rfl) (by kernel_rfl) (by kernel_rfl)
  fun x y h => (raw176_eq x).trans h
theorem ok218 : FOk Tryz.prog 218 S218 := afun_ok (E := E218) (fn := Tryz.f218) tabOk (GOk.look (l := [(176, [S176])]) ⟨⟨ok176, trivial⟩, trivial⟩) Tryz.checked.mixed Tryz.func218 (by kernel_rfl) (by kernel_rfl) (by kernel_rfl) (by kernel_rfl) (by kernel_rfl) (by kernel_rfl) (by kernel_rfl)
  fun x y h => (raw218_eq x).trans h
theorem ok234a : FOk Tryz.prog 234 S234a := afun_ok (E := E234a) (fn := Tryz.f234) tabOk (GOk.look (l := [(218, [S218])]) ⟨⟨ok218, trivial⟩, trivial⟩) Tryz.checked.mixed Tryz.func234 (by kernel_rfl) (by kernel_rfl) (by kernel_rfl) (by kernel_rfl) (by kernel_rfl) (by kernel_rfl) (by kernel_rfl)
  fun x y h => (raw234a_eq x).trans h
theorem ok217a : FOk Tryz.prog 217 S217a := afun_ok (E := E217a) (fn := Tryz.f217) tabOk (GOk.look (l := [(218, [S218]), (234, [S234a])]) ⟨⟨ok218, trivial⟩, ⟨ok234a, trivial⟩, trivial⟩) Tryz.checked.mixed Tryz.func217 (by kernel_rfl) (by kernel_rfl) (by kernel_rfl) (by kernel_rfl) (by kernel_rfl) (by kernel_rfl) (by kernel_rfl)
  fun x y h => (raw217a_eq x).trans h
theorem ok177 : FOk Tryz.prog 177 S177 := afun_ok (E := E177) (fn := Tryz.f177) tabOk (GOk.look (l := [(217, [S217a]), (218, [S218])]) ⟨⟨ok217a, trivial⟩, ⟨ok218, trivial⟩, trivial⟩) Tryz.checked.mixed Tryz.func177 (by kernel_rfl) (by kernel_rfl) (by kernel_rfl) (by kernel_rfl) (by kernel_rfl) (by kernel_rfl) (by kernel_rfl)
  fun x y h => (raw177_eq x).trans h
theorem ok226 : FOk Tryz.prog 226 S226 := afun_ok (E := E226) (fn := Tryz.f226) tabOk (GOk.look (l := [(176, [S176])]) ⟨⟨ok176, trivial⟩, trivial⟩) Tryz.checked.mixed Tryz.func226 (by kernel_rfl) (by kernel_rfl) (by kernel_rfl) (by kernel_rfl) (by kernel_rfl) (by kernel_rfl) (by kernel_rfl)
  fun x y h => (raw226_eq x).trans h
theorem ok234b : FOk Tryz.prog 234 S234b := afun_ok (E := E234b) (fn := Tryz.f234) tabOk (GOk.look (l := [(226, [S226])]) ⟨⟨ok226, trivial⟩, trivial⟩) Tryz.checked.mixed Tryz.func234 (by kernel_rfl) (by kernel_rfl) (by kernel_rfl) (by kernel_rfl) (by kernel_rfl) (by kernel_rfl) (by kernel_rfl)
  fun x y h => (raw234b_eq x).trans h
theorem ok217b : FOk Tryz.prog 217 S217b := afun_ok (E := E217b) (fn := Tryz.f217) tabOk (GOk.look (l := [(226, [S226]), (234, [S234a, S234b])]) ⟨⟨ok226, trivial⟩, ⟨ok234a, ok234b, trivial⟩, trivial⟩) Tryz.checked.mixed Tryz.func217 (by kernel_rfl) (by kernel_rfl) (by kernel_rfl) (by kernel_rfl) (by kernel_rfl) (by kernel_rfl) (by kernel_rfl)
  fun x y h => (raw217b_eq x).trans h
theorem ok201 : FOk Tryz.prog 201 S201 := afun_ok (E := E201) (fn := Tryz.f201) tabOk (GOk.look (l := [(217, [S217a, S217b]), (226, [S226])]) ⟨⟨ok217a, ok217b, trivial⟩, ⟨ok226, trivial⟩, trivial⟩) Tryz.checked.mixed Tryz.func201 (by kernel_rfl) (by kernel_rfl) (by kernel_rfl) (by kernel_rfl) (by kernel_rfl) (by kernel_rfl) (by kernel_rfl)
  fun x y h => (raw201_eq x).trans h
theorem ok237 : FOk Tryz.prog 237 S237 := afun_ok (E := E237) (fn := Tryz.f237) tabOk (GOk.look (l := []) trivial) Tryz.checked.mixed Tryz.func237 (by kernel_rfl) (by kernel_rfl) (by kernel_rfl) (by kernel_rfl) (by kernel_rfl) (by kernel_rfl) (by kernel_rfl)
  fun x y h => (raw237_eq x).trans h
theorem ok228 : FOk Tryz.prog 228 S228 := afun_ok (E := E228) (fn := Tryz.f228) tabOk (GOk.look (l := [(237, [S237])]) ⟨⟨ok237, trivial⟩, trivial⟩) Tryz.checked.mixed Tryz.func228 (by kernel_rfl) (by kernel_rfl) (by kernel_rfl) (by kernel_rfl) (by kernel_rfl) (by kernel_rfl) (by kernel_rfl)
  fun x y h => (raw228_eq x).trans h
theorem ok206 : FOk Tryz.prog 206 S206 := afun_ok (E := E206) (fn := Tryz.f206) tabOk (GOk.look (l := [(228, [S228])]) ⟨⟨ok228, trivial⟩, trivial⟩) Tryz.checked.mixed Tryz.func206 (by kernel_rfl) (by kernel_rfl) (by kernel_rfl) (by kernel_rfl) (by kernel_rfl) (by kernel_rfl) (by kernel_rfl)
  fun x y h => (raw206_eq x).trans h
theorem ok204 : FOk Tryz.prog 204 S204 := afun_ok (E := E204) (fn := Tryz.f204) tabOk (GOk.look (l := [(206, [S206])]) ⟨⟨ok206, trivial⟩, trivial⟩) Tryz.checked.mixed Tryz.func204 (by kernel_rfl) (by kernel_rfl) (by kernel_rfl) (by kernel_rfl) (by kernel_rfl) (by kernel_rfl) (by kernel_rfl)
  fun x y h => (raw204_eq x).trans h
theorem ok203 : FOk Tryz.prog 203 S203 := afun_ok (E := E203) (fn := Tryz.f203) tabOk (GOk.look (l := [(153, [S153]), (204, [S204])]) ⟨⟨ok153, trivial⟩, ⟨ok204, trivial⟩, trivial⟩) Tryz.checked.mixed Tryz.func203 (by kernel_rfl) (by kernel_rfl) (by kernel_rfl) (by kernel_rfl) (by kernel_rfl) (by kernel_rfl) (by kernel_rfl)
  fun x y h => (raw203_eq x).trans h
theorem ok227a : FOk Tryz.prog 227 S227a := afun_ok (E := E227a) (fn := Tryz.f227) tabOk (GOk.look (l := [(203, [S203])]) ⟨⟨ok203, trivial⟩, trivial⟩) Tryz.checked.mixed Tryz.func227 (by kernel_rfl) (by kernel_rfl) (by kernel_rfl) (by kernel_rfl) (by kernel_rfl) (by kernel_rfl) (by kernel_rfl)
  fun x y h => (raw227a_eq x).trans h
theorem ok202a : FOk Tryz.prog 202 S202a := afun_ok (E := E202a) (fn := Tryz.f202) tabOk (GOk.look (l := [(203, [S203]), (227, [S227a])]) ⟨⟨ok203, trivial⟩, ⟨ok227a, trivial⟩, trivial⟩) Tryz.checked.mixed Tryz.func202 (by kernel_rfl) (by kernel_rfl) (by kernel_rfl) (by kernel_rfl) (by kernel_rfl) (by kernel_rfl) (by kernel_rfl)
  fun x y h => (raw202a_eq x).trans h
theorem ok154 : FOk Tryz.prog 154 S154 := afun_ok (E := E154) (fn := Tryz.f154) tabOk (GOk.look (l := [(201, [S201]), (202, [S202a]), (203, [S203])]) ⟨⟨ok201, trivial⟩, ⟨ok202a, trivial⟩, ⟨ok203, trivial⟩, trivial⟩) Tryz.checked.mixed Tryz.func154 (by kernel_rfl) (by kernel_rfl) (by kernel_rfl) (by kernel_rfl) (by kernel_rfl) (by kernel_rfl) (by kernel_rfl)
  fun x y h => (raw154_eq x).trans h
theorem ok229 : FOk Tryz.prog 229 S229 := afun_ok (E := E229) (fn := Tryz.f229) tabOk (GOk.look (l := [(154, [S154]), (176, [S176]), (177, [S177])]) ⟨⟨ok154, trivial⟩, ⟨ok176, trivial⟩, ⟨ok177, trivial⟩, trivial⟩) Tryz.checked.mixed Tryz.func229 (by kernel_rfl) (by kernel_rfl) (by kernel_rfl) (by kernel_rfl) (by kernel_rfl) (by kernel_rfl) (by kernel_rfl)
  fun x y h => (raw229_eq x).trans h
theorem ok230 : FOk Tryz.prog 230 S230 := afun_ok (E := E230) (fn := Tryz.f230) tabOk (GOk.look (l := [(176, [S176]), (177, [S177])]) ⟨⟨ok176, trivial⟩, ⟨ok177, trivial⟩, trivial⟩) Tryz.checked.mixed Tryz.func230 (by kernel_rfl) (by kernel_rfl) (by kernel_rfl) (by kernel_rfl) (by kernel_rfl) (by kernel_rfl) (by kernel_rfl)
  fun x y h => (raw230_eq x).trans h
theorem ok207 : FOk Tryz.prog 207 S207 := afun_ok (E := E207) (fn := Tryz.f207) tabOk (GOk.look (l := [(229, [S229]), (230, [S230])]) ⟨⟨ok229, trivial⟩, ⟨ok230, trivial⟩, trivial⟩) Tryz.checked.mixed Tryz.func207 (by kernel_rfl) (by kernel_rfl) (by kernel_rfl) (by kernel_rfl) (by kernel_rfl) (by kernel_rfl) (by kernel_rfl)
  fun x y h => (raw207_eq x).trans h
theorem ok231 : FOk Tryz.prog 231 S231 := afun_ok (E := E231) (fn := Tryz.f231) tabOk (GOk.look (l := []) trivial) Tryz.checked.mixed Tryz.func231 (by kernel_rfl) (by kernel_rfl) (by kernel_rfl) (by kernel_rfl) (by kernel_rfl) (by kernel_rfl) (by kernel_rfl)
  fun x y h => (raw231_eq x).trans h
theorem ok213 : FOk Tryz.prog 213 S213 := afun_ok (E := E213) (fn := Tryz.f213) tabOk (GOk.look (l := [(231, [S231])]) ⟨⟨ok231, trivial⟩, trivial⟩) Tryz.checked.mixed Tryz.func213 (by kernel_rfl) (by kernel_rfl) (by kernel_rfl) (by kernel_rfl) (by kernel_rfl) (by kernel_rfl) (by kernel_rfl)
  fun x y h => (raw213_eq x).trans h
theorem ok151 : FOk Tryz.prog 151 S151 := afun_ok (E := E151) (fn := Tryz.f151) tabOk (GOk.look (l := [(153, [S153]), (200, [S200])]) ⟨⟨ok153, trivial⟩, ⟨ok200, trivial⟩, trivial⟩) Tryz.checked.mixed Tryz.func151 (by kernel_rfl) (by kernel_rfl) (by kernel_rfl) (by kernel_rfl) (by kernel_rfl) (by kernel_rfl) (by kernel_rfl)
  fun x y h => (raw151_eq x).trans h
theorem ok232 : FOk Tryz.prog 232 S232 := afun_ok (E := E232) (fn := Tryz.f232) tabOk (GOk.look (l := [(153, [S153]), (201, [S201])]) ⟨⟨ok153, trivial⟩, ⟨ok201, trivial⟩, trivial⟩) Tryz.checked.mixed Tryz.func232 (by kernel_rfl) (by kernel_rfl) (by kernel_rfl) (by kernel_rfl) (by kernel_rfl) (by kernel_rfl) (by kernel_rfl)
  fun x y h => (raw232_eq x).trans h
theorem ok240 : FOk Tryz.prog 240 S240 := afun_ok (E := E240) (fn := Tryz.f240) tabOk (GOk.look (l := [(153, [S153]), (176, [S176])]) ⟨⟨ok153, trivial⟩, ⟨ok176, trivial⟩, trivial⟩) Tryz.checked.mixed Tryz.func240 (by kernel_rfl) (by kernel_rfl) (by kernel_rfl) (by kernel_rfl) (by kernel_rfl) (by kernel_rfl) (by kernel_rfl)
  fun x y h => (raw240_eq x).trans h
theorem ok239 : FOk Tryz.prog 239 S239 := afun_ok (E := E239) (fn := Tryz.f239) tabOk (GOk.look (l := [(240, [S240])]) ⟨⟨ok240, trivial⟩, trivial⟩) Tryz.checked.mixed Tryz.func239 (by kernel_rfl) (by kernel_rfl) (by kernel_rfl) (by kernel_rfl) (by kernel_rfl) (by kernel_rfl) (by kernel_rfl)
  fun x y h => (raw239_eq x).trans h
theorem ok242a : FOk Tryz.prog 242 S242a := afun_ok (E := E242a) (fn := Tryz.f242) tabOk (GOk.look (l := [(239, [S239])]) ⟨⟨ok239, trivial⟩, trivial⟩) Tryz.checked.mixed Tryz.func242 (by kernel_rfl) (by kernel_rfl) (by kernel_rfl) (by kernel_rfl) (by kernel_rfl) (by kernel_rfl) (by kernel_rfl)
  fun x y h => (raw242a_eq x).trans h
theorem ok238a : FOk Tryz.prog 238 S238a := afun_ok (E := E238a) (fn := Tryz.f238) tabOk (GOk.look (l := [(239, [S239]), (242, [S242a])]) ⟨⟨ok239, trivial⟩, ⟨ok242a, trivial⟩, trivial⟩) Tryz.checked.mixed Tryz.func238 (by kernel_rfl) (by kernel_rfl) (by kernel_rfl) (by kernel_rfl) (by kernel_rfl) (by kernel_rfl) (by kernel_rfl)
  fun x y h => (raw238a_eq x).trans h
theorem ok243 : FOk Tryz.prog 243 S243 := afun_ok (E := E243) (fn := Tryz.f243) tabOk (GOk.look (l := [(151, [S151]), (232, [S232])]) ⟨⟨ok151, trivial⟩, ⟨ok232, trivial⟩, trivial⟩) Tryz.checked.mixed Tryz.func243 (by kernel_rfl) (by kernel_rfl) (by kernel_rfl) (by kernel_rfl) (by kernel_rfl) (by kernel_rfl) (by kernel_rfl)
  fun x y h => (raw243_eq x).trans h
theorem ok248 : FOk Tryz.prog 248 S248 := afun_ok (E := E248) (fn := Tryz.f248) tabOk (GOk.look (l := [(151, [S151]), (153, [S153])]) ⟨⟨ok151, trivial⟩, ⟨ok153, trivial⟩, trivial⟩) Tryz.checked.mixed Tryz.func248 (by kernel_rfl) (by kernel_rfl) (by kernel_rfl) (by kernel_rfl) (by kernel_rfl) (by kernel_rfl) (by kernel_rfl)
  fun x y h => (raw248_eq x).trans h
theorem ok246 : FOk Tryz.prog 246 S246 := afun_ok (E := E246) (fn := Tryz.f246) tabOk (GOk.look (l := [(248, [S248])]) ⟨⟨ok248, trivial⟩, trivial⟩) Tryz.checked.mixed Tryz.func246 (by kernel_rfl) (by kernel_rfl) (by kernel_rfl) (by kernel_rfl) (by kernel_rfl) (by kernel_rfl) (by kernel_rfl)
  fun x y h => (raw246_eq x).trans h
theorem ok245 : FOk Tryz.prog 245 S245 := afun_ok (E := E245) (fn := Tryz.f245) tabOk (GOk.look (l := [(246, [S246])]) ⟨⟨ok246, trivial⟩, trivial⟩) Tryz.checked.mixed Tryz.func245 (by kernel_rfl) (by kernel_rfl) (by kernel_rfl) (by kernel_rfl) (by kernel_rfl) (by kernel_rfl) (by kernel_rfl)
  fun x y h => (raw245_eq x).trans h
theorem ok245a : FOk Tryz.prog 245 S245a := afun_ok (E := E245a) (fn := Tryz.f245) tabOk (GOk.look (l := [(246, [S246])]) ⟨⟨ok246, trivial⟩, trivial⟩) Tryz.checked.mixed Tryz.func245 (by kernel_rfl) (by kernel_rfl) (by kernel_rfl) (by kernel_rfl) (by kernel_rfl) (by kernel_rfl) (by kernel_rfl)
  fun x y h => (raw245a_eq x).trans h
theorem ok247a : FOk Tryz.prog 247 S247a := afun_ok (E := E247a) (fn := Tryz.f247) tabOk (GOk.look (l := [(245, [S245, S245a])]) ⟨⟨ok245, ok245a, trivial⟩, trivial⟩) Tryz.checked.mixed Tryz.func247 (by kernel_rfl) (by kernel_rfl) (by kernel_rfl) (by kernel_rfl) (by kernel_rfl) (by kernel_rfl) (by kernel_rfl)
  fun x y h => (raw247a_eq x).trans h
theorem ok244a : FOk Tryz.prog 244 S244a := afun_ok (E := E244a) (fn := Tryz.f244) tabOk (GOk.look (l := [(245, [S245, S245a]), (247, [S247a])]) ⟨⟨ok245, ok245a, trivial⟩, ⟨ok247a, trivial⟩, trivial⟩) Tryz.checked.mixed Tryz.func244 (by kernel_rfl) (by kernel_rfl) (by kernel_rfl) (by kernel_rfl) (by kernel_rfl) (by kernel_rfl) (by kernel_rfl)
  fun x y h => (raw244a_eq x).trans h
theorem ok241 : FOk Tryz.prog 241 S241 := afun_ok (E := E241) (fn := Tryz.f241) tabOk (GOk.look (l := [(243, [S243]), (244, [S244a]), (245, [S245, S245a])]) ⟨⟨ok243, trivial⟩, ⟨ok244a, trivial⟩, ⟨ok245, ok245a, trivial⟩, trivial⟩) Tryz.checked.mixed Tryz.func241 (by kernel_rfl) (by kernel_rfl) (by kernel_rfl) (by kernel_rfl) (by kernel_rfl) (by kernel_rfl) (by kernel_rfl)
  fun x y h => (raw241_eq x).trans h
theorem ok233 : FOk Tryz.prog 233 S233 := afun_ok (E := E233) (fn := Tryz.f233) tabOk (GOk.look (l := [(238, [S238a]), (239, [S239]), (241, [S241])]) ⟨⟨ok238a, trivial⟩, ⟨ok239, trivial⟩, ⟨ok241, trivial⟩, trivial⟩) Tryz.checked.mixed Tryz.func233 (by kernel_rfl) (by kernel_rfl) (by kernel_rfl) (by kernel_rfl) (by kernel_rfl) (by kernel_rfl) (by kernel_rfl)
  fun x y h => (raw233_eq x).trans h
theorem ok214 : FOk Tryz.prog 214 S214 := afun_ok (E := E214) (fn := Tryz.f214) tabOk (GOk.look (l := [(151, [S151]), (176, [S176]), (177, [S177]), (232, [S232]), (233, [S233])]) ⟨⟨ok151, trivial⟩, ⟨ok176, trivial⟩, ⟨ok177, trivial⟩, ⟨ok232, trivial⟩, ⟨ok233, trivial⟩, trivial⟩) Tryz.checked.mixed Tryz.func214 (by kernel_rfl) (by kernel_rfl) (by kernel_rfl) (by kernel_rfl) (by kernel_rfl) (by kernel_rfl) (by kernel_rfl)
  fun x y h => (raw214_eq x).trans h
theorem ok215 : FOk Tryz.prog 215 S215 := afun_ok (E := E215) (fn := Tryz.f215) tabOk (GOk.look (l := [(153, [S153]), (204, [S204])]) ⟨⟨ok153, trivial⟩, ⟨ok204, trivial⟩, trivial⟩) Tryz.checked.mixed Tryz.func215 (by kernel_rfl) (by kernel_rfl) (by kernel_rfl) (by kernel_rfl) (by kernel_rfl) (by kernel_rfl) (by kernel_rfl)
  fun x y h => (raw215_eq x).trans h
theorem ok216 : FOk Tryz.prog 216 S216 := afun_ok (E := E216) (fn := Tryz.f216) tabOk (GOk.look (l := [(153, [S153]), (177, [S177]), (204, [S204])]) ⟨⟨ok153, trivial⟩, ⟨ok177, trivial⟩, ⟨ok204, trivial⟩, trivial⟩) Tryz.checked.mixed Tryz.func216 (by kernel_rfl) (by kernel_rfl) (by kernel_rfl) (by kernel_rfl) (by kernel_rfl) (by kernel_rfl) (by kernel_rfl)
  fun x y h => (raw216_eq x).trans h
theorem ok175 : FOk Tryz.prog 175 S175 := afun_ok (E := E175) (fn := Tryz.f175) tabOk (GOk.look (l := [(76, [S76]), (152, [S152]), (177, [S177]), (207, [S207]), (213, [S213]), (214, [S214]), (215, [S215]), (216, [S216])]) ⟨⟨ok76, trivial⟩, ⟨ok152, trivial⟩, ⟨ok177, trivial⟩, ⟨ok207, trivial⟩, ⟨ok213, trivial⟩, ⟨ok214, trivial⟩, ⟨ok215, trivial⟩, ⟨ok216, trivial⟩, trivial⟩) Tryz.checked.mixed Tryz.func175 (by kernel_rfl) (by kernel_rfl) (by kernel_rfl) (by kernel_rfl) (by kernel_rfl) (by kernel_rfl) (by kernel_rfl)
  fun x y h => (raw175_eq x).trans h
theorem ok94 : FOk Tryz.prog 94 S94 := afun_ok (E := E94) (fn := Tryz.f94) tabOk (GOk.look (l := [(175, [S175]), (176, [S176]), (177, [S177])]) ⟨⟨ok175, trivial⟩, ⟨ok176, trivial⟩, ⟨ok177, trivial⟩, trivial⟩) Tryz.checked.mixed Tryz.func94 (by kernel_rfl) (by kernel_rfl) (by kernel_rfl) (by kernel_rfl) (by kernel_rfl) (by kernel_rfl) (by kernel_rfl)
  fun x y h => (raw94_eq x).trans h
theorem ok73 : FOk Tryz.prog 73 S73 := afun_ok (E := E73) (fn := Tryz.f73) tabOk (GOk.look (l := [(72, [S72]), (94, [S94]), (151, [S151]), (152, [S152]), (153, [S153])]) ⟨⟨ok72, trivial⟩, ⟨ok94, trivial⟩, ⟨ok151, trivial⟩, ⟨ok152, trivial⟩, ⟨ok153, trivial⟩, trivial⟩) Tryz.checked.mixed Tryz.func73 (by kernel_rfl) (by kernel_rfl) (by kernel_rfl) (by kernel_rfl) (by kernel_rfl) (by kernel_rfl) (by kernel_rfl)
  fun x y h => (raw73_eq x).trans h
theorem ok100 : FOk Tryz.prog 100 S100 := afun_ok (E := E100) (fn := Tryz.f100) tabOk (GOk.look (l := []) trivial) Tryz.checked.mixed Tryz.func100 (by kernel_rfl) (by kernel_rfl) (by kernel_rfl) (by kernel_rfl) (by kernel_rfl) (by kernel_rfl) (by kernel_rfl)
  fun x y h => (raw100_eq x).trans h
theorem ok205 : FOk Tryz.prog 205 S205 := afun_ok (E := E205) (fn := Tryz.f205) tabOk (GOk.look (l := [(153, [S153]), (206, [S206])]) ⟨⟨ok153, trivial⟩, ⟨ok206, trivial⟩, trivial⟩) Tryz.checked.mixed Tryz.func205 (by kernel_rfl) (by kernel_rfl) (by kernel_rfl) (by kernel_rfl) (by kernel_rfl) (by kernel_rfl) (by kernel_rfl)
  fun x y h => (raw205_eq x).trans h
theorem ok227b : FOk Tryz.prog 227 S227b := afun_ok (E := E227b) (fn := Tryz.f227) tabOk (GOk.look (l := [(205, [S205])]) ⟨⟨ok205, trivial⟩, trivial⟩) Tryz.checked.mixed Tryz.func227 (by kernel_rfl) (by kernel_rfl) (by kernel_rfl) (by kernel_rfl) (by kernel_rfl) (by kernel_rfl) (by kernel_rfl)
  fun x y h => (raw227b_eq x).trans h
theorem ok202b : FOk Tryz.prog 202 S202b := afun_ok (E := E202b) (fn := Tryz.f202) tabOk (GOk.look (l := [(205, [S205]), (227, [S227a, S227b])]) ⟨⟨ok205, trivial⟩, ⟨ok227a, ok227b, trivial⟩, trivial⟩) Tryz.checked.mixed Tryz.func202 (by kernel_rfl) (by kernel_rfl) (by kernel_rfl) (by kernel_rfl) (by kernel_rfl) (by kernel_rfl) (by kernel_rfl)
  fun x y h => (raw202b_eq x).trans h
theorem ok156 : FOk Tryz.prog 156 S156 := afun_ok (E := E156) (fn := Tryz.f156) tabOk (GOk.look (l := [(202, [S202a, S202b]), (205, [S205])]) ⟨⟨ok202a, ok202b, trivial⟩, ⟨ok205, trivial⟩, trivial⟩) Tryz.checked.mixed Tryz.func156 (by kernel_rfl) (by kernel_rfl) (by kernel_rfl) (by kernel_rfl) (by kernel_rfl) (by kernel_rfl) (by kernel_rfl)
  fun x y h => (raw156_eq x).trans h
theorem ok155 : FOk Tryz.prog 155 S155 := afun_ok (E := E155) (fn := Tryz.f155) tabOk (GOk.look (l := [(72, [S72]), (156, [S156])]) ⟨⟨ok72, trivial⟩, ⟨ok156, trivial⟩, trivial⟩) Tryz.checked.mixed Tryz.func155 (by kernel_rfl) (by kernel_rfl) (by kernel_rfl) (by kernel_rfl) (by kernel_rfl) (by kernel_rfl) (by kernel_rfl)
  fun x y h => (raw155_eq x).trans h
theorem ok157 : FOk Tryz.prog 157 S157 := afun_ok (E := E157) (fn := Tryz.f157) tabOk (GOk.look (l := [(177, [S177]), (201, [S201]), (207, [S207])]) ⟨⟨ok177, trivial⟩, ⟨ok201, trivial⟩, ⟨ok207, trivial⟩, trivial⟩) Tryz.checked.mixed Tryz.func157 (by kernel_rfl) (by kernel_rfl) (by kernel_rfl) (by kernel_rfl) (by kernel_rfl) (by kernel_rfl) (by kernel_rfl)
  fun x y h => (raw157_eq x).trans h
theorem ok208a : FOk Tryz.prog 208 S208a := afun_ok (E := E208a) (fn := Tryz.f208) tabOk (GOk.look (l := [(152, [S152])]) ⟨⟨ok152, trivial⟩, trivial⟩) Tryz.checked.mixed Tryz.func208 (by kernel_rfl) (by kernel_rfl) (by kernel_rfl) (by kernel_rfl) (by kernel_rfl) (by kernel_rfl) (by kernel_rfl)
  fun x y h => (raw208a_eq x).trans h
theorem ok208b : FOk Tryz.prog 208 S208b := afun_ok (E := E208b) (fn := Tryz.f208) tabOk (GOk.look (l := [(153, [S153])]) ⟨⟨ok153, trivial⟩, trivial⟩) Tryz.checked.mixed Tryz.func208 (by kernel_rfl) (by kernel_rfl) (by kernel_rfl) (by kernel_rfl) (by kernel_rfl) (by kernel_rfl) (by kernel_rfl)
  fun x y h => (raw208b_eq x).trans h
theorem ok158 : FOk Tryz.prog 158 S158 := afun_ok (E := E158) (fn := Tryz.f158) tabOk (GOk.look (l := [(152, [S152]), (153, [S153]), (201, [S201]), (208, [S208a, S208b])]) ⟨⟨ok152, trivial⟩, ⟨ok153, trivial⟩, ⟨ok201, trivial⟩, ⟨ok208a, ok208b, trivial⟩, trivial⟩) Tryz.checked.mixed Tryz.func158 (by kernel_rfl) (by kernel_rfl) (by kernel_rfl) (by kernel_rfl) (by kernel_rfl) (by kernel_rfl) (by kernel_rfl)
  fun x y h => (raw158_eq x).trans h
theorem ok74 : FOk Tryz.prog 74 S74 := afun_ok (E := E74) (fn := Tryz.f74) tabOk (GOk.look (l := [(72, [S72]), (100, [S100]), (154, [S154]), (155, [S155]), (156, [S156]), (157, [S157]), (158, [S158])]) ⟨⟨ok72, trivial⟩, ⟨ok100, trivial⟩, ⟨ok154, trivial⟩, ⟨ok155, trivial⟩, ⟨ok156, trivial⟩, ⟨ok157, trivial⟩, ⟨ok158, trivial⟩, trivial⟩) Tryz.checked.mixed Tryz.func74 (by kernel_rfl) (by kernel_rfl) (by kernel_rfl) (by kernel_rfl) (by kernel_rfl) (by kernel_rfl) (by kernel_rfl)
  fun x y h => (raw74_eq x).trans h
theorem ok17 : FOk Tryz.prog 17 S17 := afun_ok (E := E17) (fn := Tryz.f17) tabOk (GOk.look (l := [(18, [S18]), (70, [S70]), (71, [S71]), (72, [S72]), (73, [S73]), (74, [S74])]) ⟨⟨ok18, trivial⟩, ⟨ok70, trivial⟩, ⟨ok71, trivial⟩, ⟨ok72, trivial⟩, ⟨ok73, trivial⟩, ⟨ok74, trivial⟩, trivial⟩) Tryz.checked.mixed Tryz.func17 (by kernel_rfl) (by kernel_rfl) (by kernel_rfl) (by kernel_rfl) (by kernel_rfl) (by kernel_rfl) (by kernel_rfl)
  fun x y h => (raw17_eq x).trans h
theorem ok89 : FOk Tryz.prog 89 S89 := afun_ok (E := E89) (fn := Tryz.f89) tabOk (GOk.look (l := []) trivial) Tryz.checked.mixed Tryz.func89 (by kernel_rfl) (by kernel_rfl) (by kernel_rfl) (by kernel_rfl) (by kernel_rfl) (by kernel_rfl) (by kernel_rfl)
  fun x y h => (raw89_eq x).trans h
theorem ok25 : FOk Tryz.prog 25 S25 := afun_ok (E := E25) (fn := Tryz.f25) tabOk (GOk.look (l := [(89, [S89])]) ⟨⟨ok89, trivial⟩, trivial⟩) Tryz.checked.mixed Tryz.func25 (by kernel_rfl) (by kernel_rfl) (by kernel_rfl) (by kernel_rfl) (by kernel_rfl) (by kernel_rfl) (by kernel_rfl)
  fun x y h => (raw25_eq x).trans h
theorem ok28 : FOk Tryz.prog 28 S28 := afun_ok (E := E28) (fn := Tryz.f28) tabOk (GOk.look (l := [(89, [S89])]) ⟨⟨ok89, trivial⟩, trivial⟩) Tryz.checked.mixed Tryz.func28 (by kernel_rfl) (by kernel_rfl) (by kernel_rfl) (by kernel_rfl) (by kernel_rfl) (by kernel_rfl) (by kernel_rfl)
  fun x y h => (raw28_eq x).trans h
theorem ok90 : FOk Tryz.prog 90 S90 := afun_ok (E := E90) (fn := Tryz.f90) tabOk (GOk.look (l := [(25, [S25])]) ⟨⟨ok25, trivial⟩, trivial⟩) Tryz.checked.mixed Tryz.func90 (by kernel_rfl) (by kernel_rfl) (by kernel_rfl) (by kernel_rfl) (by kernel_rfl) (by kernel_rfl) (by kernel_rfl)
  fun x y h => (raw90_eq x).trans h
theorem ok91 : FOk Tryz.prog 91 S91 := afun_ok (E := E91) (fn := Tryz.f91) tabOk (GOk.look (l := [(89, [S89])]) ⟨⟨ok89, trivial⟩, trivial⟩) Tryz.checked.mixed Tryz.func91 (by kernel_rfl) (by kernel_rfl) (by kernel_rfl) (by kernel_rfl) (by kernel_rfl) (by kernel_rfl) (by kernel_rfl)
  fun x y h => (raw91_eq x).trans h
theorem ok29 : FOk Tryz.prog 29 S29 := afun_ok (E := E29) (fn := Tryz.f29) tabOk (GOk.look (l := [(91, [S91])]) ⟨⟨ok91, trivial⟩, trivial⟩) Tryz.checked.mixed Tryz.func29 (by kernel_rfl) (by kernel_rfl) (by kernel_rfl) (by kernel_rfl) (by kernel_rfl) (by kernel_rfl) (by kernel_rfl)
  fun x y h => (raw29_eq x).trans h
theorem ok174 : FOk Tryz.prog 174 S174 := afun_ok (E := E174) (fn := Tryz.f174) tabOk (GOk.look (l := [(28, [S28]), (29, [S29])]) ⟨⟨ok28, trivial⟩, ⟨ok29, trivial⟩, trivial⟩) Tryz.checked.mixed Tryz.func174 (by kernel_rfl) (by kernel_rfl) (by kernel_rfl) (by kernel_rfl) (by kernel_rfl) (by kernel_rfl) (by kernel_rfl)
  fun x y h => (raw174_eq x).trans h
theorem ok92 : FOk Tryz.prog 92 S92 := afun_ok (E := E92) (fn := Tryz.f92) tabOk (GOk.look (l := [(173, [S173]), (174, [S174])]) ⟨⟨ok173, trivial⟩, ⟨ok174, trivial⟩, trivial⟩) Tryz.checked.mixed Tryz.func92 (by kernel_rfl) (by kernel_rfl) (by kernel_rfl) (by kernel_rfl) (by kernel_rfl) (by kernel_rfl) (by kernel_rfl)
  fun x y h => (raw92_eq x).trans h
theorem ok93 : FOk Tryz.prog 93 S93 := afun_ok (E := E93) (fn := Tryz.f93) tabOk (GOk.look (l := [(150, [S150]), (174, [S174])]) ⟨⟨ok150, trivial⟩, ⟨ok174, trivial⟩, trivial⟩) Tryz.checked.mixed Tryz.func93 (by kernel_rfl) (by kernel_rfl) (by kernel_rfl) (by kernel_rfl) (by kernel_rfl) (by kernel_rfl) (by kernel_rfl)
  fun x y h => (raw93_eq x).trans h
theorem ok26 : FOk Tryz.prog 26 S26 := afun_ok (E := E26) (fn := Tryz.f26) tabOk (GOk.look (l := [(25, [S25]), (28, [S28]), (71, [S71]), (90, [S90]), (91, [S91]), (92, [S92]), (93, [S93])]) ⟨⟨ok25, trivial⟩, ⟨ok28, trivial⟩, ⟨ok71, trivial⟩, ⟨ok90, trivial⟩, ⟨ok91, trivial⟩, ⟨ok92, trivial⟩, ⟨ok93, trivial⟩, trivial⟩) Tryz.checked.mixed Tryz.func26 (by kernel_rfl) (by kernel_rfl) (by kernel_rfl) (by kernel_rfl) (by kernel_rfl) (by kernel_rfl) (by kernel_rfl)
  fun x y h => (raw26_eq x).trans h
theorem ok103 : FOk Tryz.prog 103 S103 := afun_ok (E := E103) (fn := Tryz.f103) tabOk (GOk.look (l := []) trivial) Tryz.checked.mixed Tryz.func103 (by kernel_rfl) (by kernel_rfl) (by kernel_rfl) (by kernel_rfl) (by kernel_rfl) (by kernel_rfl) (by kernel_rfl)
  fun x y h => (raw103_eq x).trans h
theorem ok31 : FOk Tryz.prog 31 S31 := afun_ok (E := E31) (fn := Tryz.f31) tabOk (GOk.look (l := [(103, [S103])]) ⟨⟨ok103, trivial⟩, trivial⟩) Tryz.checked.mixed Tryz.func31 (by kernel_rfl) (by kernel_rfl) (by kernel_rfl) (by kernel_rfl) (by kernel_rfl) (by kernel_rfl) (by kernel_rfl)
  fun x y h => (raw31_eq x).trans h
theorem ok97 : FOk Tryz.prog 97 S97 := afun_ok (E := E97) (fn := Tryz.f97) tabOk (GOk.look (l := [(91, [S91])]) ⟨⟨ok91, trivial⟩, trivial⟩) Tryz.checked.mixed Tryz.func97 (by kernel_rfl) (by kernel_rfl) (by kernel_rfl) (by kernel_rfl) (by kernel_rfl) (by kernel_rfl) (by kernel_rfl)
  fun x y h => (raw97_eq x).trans h
theorem ok178 : FOk Tryz.prog 178 S178 := afun_ok (E := E178) (fn := Tryz.f178) tabOk (GOk.look (l := [(25, [S25]), (28, [S28]), (91, [S91]), (97, [S97])]) ⟨⟨ok25, trivial⟩, ⟨ok28, trivial⟩, ⟨ok91, trivial⟩, ⟨ok97, trivial⟩, trivial⟩) Tryz.checked.mixed Tryz.func178 (by kernel_rfl) (by kernel_rfl) (by kernel_rfl) (by kernel_rfl) (by kernel_rfl) (by kernel_rfl) (by kernel_rfl)
  fun x y h => (raw178_eq x).trans h
theorem ok179 : FOk Tryz.prog 179 S179 := afun_ok (E := E179) (fn := Tryz.f179) tabOk (GOk.look (l := [(25, [S25]), (28, [S28]), (91, [S91]), (97, [S97])]) ⟨⟨ok25, trivial⟩, ⟨ok28, trivial⟩, ⟨ok91, trivial⟩, ⟨ok97, trivial⟩, trivial⟩) Tryz.checked.mixed Tryz.func179 (by kernel_rfl) (by kernel_rfl) (by kernel_rfl) (by kernel_rfl) (by kernel_rfl) (by kernel_rfl) (by kernel_rfl)
  fun x y h => (raw179_eq x).trans h
theorem ok235 : FOk Tryz.prog 235 S235 := afun_ok (E := E235) (fn := Tryz.f235) tabOk (GOk.look (l := [(204, [S204])]) ⟨⟨ok204, trivial⟩, trivial⟩) Tryz.checked.mixed Tryz.func235 (by kernel_rfl) (by kernel_rfl) (by kernel_rfl) (by kernel_rfl) (by kernel_rfl) (by kernel_rfl) (by kernel_rfl)
  fun x y h => (raw235_eq x).trans h
theorem ok219 : FOk Tryz.prog 219 S219 := afun_ok (E := E219) (fn := Tryz.f219) tabOk (GOk.look (l := [(153, [S153]), (235, [S235])]) ⟨⟨ok153, trivial⟩, ⟨ok235, trivial⟩, trivial⟩) Tryz.checked.mixed Tryz.func219 (by kernel_rfl) (by kernel_rfl) (by kernel_rfl) (by kernel_rfl) (by kernel_rfl) (by kernel_rfl) (by kernel_rfl)
  fun x y h => (raw219_eq x).trans h
theorem ok220 : FOk Tryz.prog 220 S220 := afun_ok (E := E220) (fn := Tryz.f220) tabOk (GOk.look (l := [(28, [S28]), (90, [S90]), (97, [S97]), (235, [S235])]) ⟨⟨ok28, trivial⟩, ⟨ok90, trivial⟩, ⟨ok97, trivial⟩, ⟨ok235, trivial⟩, trivial⟩) Tryz.checked.mixed Tryz.func220 (by kernel_rfl) (by kernel_rfl) (by kernel_rfl) (by kernel_rfl) (by kernel_rfl) (by kernel_rfl) (by kernel_rfl)
  fun x y h => (raw220_eq x).trans h
theorem ok182 : FOk Tryz.prog 182 S182 := afun_ok (E := E182) (fn := Tryz.f182) tabOk (GOk.look (l := [(97, [S97]), (219, [S219]), (220, [S220])]) ⟨⟨ok97, trivial⟩, ⟨ok219, trivial⟩, ⟨ok220, trivial⟩, trivial⟩) Tryz.checked.mixed Tryz.func182 (by kernel_rfl) (by kernel_rfl) (by kernel_rfl) (by kernel_rfl) (by kernel_rfl) (by kernel_rfl) (by kernel_rfl)
  fun x y h => (raw182_eq x).trans h
theorem ok180 : FOk Tryz.prog 180 S180 := afun_ok (E := E180) (fn := Tryz.f180) tabOk (GOk.look (l := [(91, [S91]), (182, [S182])]) ⟨⟨ok91, trivial⟩, ⟨ok182, trivial⟩, trivial⟩) Tryz.checked.mixed Tryz.func180 (by kernel_rfl) (by kernel_rfl) (by kernel_rfl) (by kernel_rfl) (by kernel_rfl) (by kernel_rfl) (by kernel_rfl)
  fun x y h => (raw180_eq x).trans h
theorem ok98 : FOk Tryz.prog 98 S98 := afun_ok (E := E98) (fn := Tryz.f98) tabOk (GOk.look (l := [(25, [S25]), (28, [S28]), (90, [S90]), (154, [S154]), (180, [S180])]) ⟨⟨ok25, trivial⟩, ⟨ok28, trivial⟩, ⟨ok90, trivial⟩, ⟨ok154, trivial⟩, ⟨ok180, trivial⟩, trivial⟩) Tryz.checked.mixed Tryz.func98 (by kernel_rfl) (by kernel_rfl) (by kernel_rfl) (by kernel_rfl) (by kernel_rfl) (by kernel_rfl) (by kernel_rfl)
  fun x y h => (raw98_eq x).trans h
theorem ok181 : FOk Tryz.prog 181 S181 := afun_ok (E := E181) (fn := Tryz.f181) tabOk (GOk.look (l := [(28, [S28]), (91, [S91]), (98, [S98])]) ⟨⟨ok28, trivial⟩, ⟨ok91, trivial⟩, ⟨ok98, trivial⟩, trivial⟩) Tryz.checked.mixed Tryz.func181 (by kernel_rfl) (by kernel_rfl) (by kernel_rfl) (by kernel_rfl) (by kernel_rfl) (by kernel_rfl) (by kernel_rfl)
  fun x y h => (raw181_eq x).trans h
theorem ok95 : FOk Tryz.prog 95 S95 := afun_ok (E := E95) (fn := Tryz.f95) tabOk (GOk.look (l := [(25, [S25]), (28, [S28]), (90, [S90]), (97, [S97]), (178, [S178]), (179, [S179]), (180, [S180]), (181, [S181])]) ⟨⟨ok25, trivial⟩, ⟨ok28, trivial⟩, ⟨ok90, trivial⟩, ⟨ok97, trivial⟩, ⟨ok178, trivial⟩, ⟨ok179, trivial⟩, ⟨ok180, trivial⟩, ⟨ok181, trivial⟩, trivial⟩) Tryz.checked.mixed Tryz.func95 (by kernel_rfl) (by kernel_rfl) (by kernel_rfl) (by kernel_rfl) (by kernel_rfl) (by kernel_rfl) (by kernel_rfl)
  fun x y h => (raw95_eq x).trans h
theorem ok27 : FOk Tryz.prog 27 S27 := afun_ok (E := E27) (fn := Tryz.f27) tabOk (GOk.look (l := [(28, [S28]), (31, [S31]), (94, [S94]), (95, [S95])]) ⟨⟨ok28, trivial⟩, ⟨ok31, trivial⟩, ⟨ok94, trivial⟩, ⟨ok95, trivial⟩, trivial⟩) Tryz.checked.mixed Tryz.func27 (by kernel_rfl) (by kernel_rfl) (by kernel_rfl) (by kernel_rfl) (by kernel_rfl) (by kernel_rfl) (by kernel_rfl)
  fun x y h => (raw27_eq x).trans h
theorem ok96 : FOk Tryz.prog 96 S96 := afun_ok (E := E96) (fn := Tryz.f96) tabOk (GOk.look (l := [(28, [S28])]) ⟨⟨ok28, trivial⟩, trivial⟩) Tryz.checked.mixed Tryz.func96 (by kernel_rfl) (by kernel_rfl) (by kernel_rfl) (by kernel_rfl) (by kernel_rfl) (by kernel_rfl) (by kernel_rfl)
  fun x y h => (raw96_eq x).trans h
theorem ok96a : FOk Tryz.prog 96 S96a := afun_ok (E := E96a) (fn := Tryz.f96) tabOk (GOk.look (l := [(28, [S28])]) ⟨⟨ok28, trivial⟩, trivial⟩) Tryz.checked.mixed Tryz.func96 (by kernel_rfl) (by kernel_rfl) (by kernel_rfl) (by kernel_rfl) (by kernel_rfl) (by kernel_rfl) (by kernel_rfl)
  fun x y h => (raw96a_eq x).trans h
theorem ok99 : FOk Tryz.prog 99 S99 := afun_ok (E := E99) (fn := Tryz.f99) tabOk (GOk.look (l := [(91, [S91]), (182, [S182])]) ⟨⟨ok91, trivial⟩, ⟨ok182, trivial⟩, trivial⟩) Tryz.checked.mixed Tryz.func99 (by kernel_rfl) (by kernel_rfl) (by kernel_rfl) (by kernel_rfl) (by kernel_rfl) (by kernel_rfl) (by kernel_rfl)
  fun x y h => (raw99_eq x).trans h
theorem ok101 : FOk Tryz.prog 101 S101 := afun_ok (E := E101) (fn := Tryz.f101) tabOk (GOk.look (l := [(28, [S28]), (157, [S157]), (181, [S181])]) ⟨⟨ok28, trivial⟩, ⟨ok157, trivial⟩, ⟨ok181, trivial⟩, trivial⟩) Tryz.checked.mixed Tryz.func101 (by kernel_rfl) (by kernel_rfl) (by kernel_rfl) (by kernel_rfl) (by kernel_rfl) (by kernel_rfl) (by kernel_rfl)
  fun x y h => (raw101_eq x).trans h
theorem ok102 : FOk Tryz.prog 102 S102 := afun_ok (E := E102) (fn := Tryz.f102) tabOk (GOk.look (l := [(25, [S25]), (28, [S28]), (97, [S97]), (158, [S158])]) ⟨⟨ok25, trivial⟩, ⟨ok28, trivial⟩, ⟨ok97, trivial⟩, ⟨ok158, trivial⟩, trivial⟩) Tryz.checked.mixed Tryz.func102 (by kernel_rfl) (by kernel_rfl) (by kernel_rfl) (by kernel_rfl) (by kernel_rfl) (by kernel_rfl) (by kernel_rfl)
  fun x y h => (raw102_eq x).trans h
theorem ok30 : FOk Tryz.prog 30 S30 := afun_ok (E := E30) (fn := Tryz.f30) tabOk (GOk.look (l := [(90, [S90]), (91, [S91]), (96, [S96, S96a]), (97, [S97]), (98, [S98]), (99, [S99]), (100, [S100]), (101, [S101]), (102, [S102])]) ⟨⟨ok90, trivial⟩, ⟨ok91, trivial⟩, ⟨ok96, ok96a, trivial⟩, ⟨ok97, trivial⟩, ⟨ok98, trivial⟩, ⟨ok99, trivial⟩, ⟨ok100, trivial⟩, ⟨ok101, trivial⟩, ⟨ok102, trivial⟩, trivial⟩) Tryz.checked.mixed Tryz.func30 (by kernel_rfl) (by kernel_rfl) (by kernel_rfl) (by kernel_rfl) (by kernel_rfl) (by kernel_rfl) (by kernel_rfl)
  fun x y h => (raw30_eq x).trans h
theorem ok9 : FOk Tryz.prog 9 S9 := afun_ok (E := E9) (fn := Tryz.f9) tabOk (GOk.look (l := [(17, [S17]), (25, [S25]), (26, [S26]), (27, [S27]), (28, [S28]), (29, [S29]), (30, [S30]), (31, [S31])]) ⟨⟨ok17, trivial⟩, ⟨ok25, trivial⟩, ⟨ok26, trivial⟩, ⟨ok27, trivial⟩, ⟨ok28, trivial⟩, ⟨ok29, trivial⟩, ⟨ok30, trivial⟩, ⟨ok31, trivial⟩, trivial⟩) Tryz.checked.mixed Tryz.func9 (by kernel_rfl) (by kernel_rfl) (by kernel_rfl) (by kernel_rfl) (by kernel_rfl) (by kernel_rfl) (by kernel_rfl)
  fun x y h => (raw9_eq x).trans h
theorem ok47 : FOk Tryz.prog 47 S47 := afun_ok (E := E47) (fn := Tryz.f47) tabOk (GOk.look (l := [(103, [S103])]) ⟨⟨ok103, trivial⟩, trivial⟩) Tryz.checked.mixed Tryz.func47 (by kernel_rfl) (by kernel_rfl) (by kernel_rfl) (by kernel_rfl) (by kernel_rfl) (by kernel_rfl) (by kernel_rfl)
  fun x y h => (raw47_eq x).trans h
theorem ok126 : FOk Tryz.prog 126 S126 := afun_ok (E := E126) (fn := Tryz.f126) tabOk (GOk.look (l := []) trivial) Tryz.checked.mixed Tryz.func126 (by kernel_rfl) (by kernel_rfl) (by kernel_rfl) (by kernel_rfl) (by kernel_rfl) (by kernel_rfl) (by kernel_rfl)
  fun x y h => (raw126_eq x).trans h
theorem ok190 : FOk Tryz.prog 190 S190 := afun_ok (E := E190) (fn := Tryz.f190) tabOk (GOk.look (l := [(126, [S126])]) ⟨⟨ok126, trivial⟩, trivial⟩) Tryz.checked.mixed Tryz.func190 (by kernel_rfl) (by kernel_rfl) (by kernel_rfl) (by kernel_rfl) (by kernel_rfl) (by kernel_rfl) (by kernel_rfl)
  fun x y h => (raw190_eq x).trans h
theorem ok120 : FOk Tryz.prog 120 S120 := afun_ok (E := E120) (fn := Tryz.f120) tabOk (GOk.look (l := [(190, [S190])]) ⟨⟨ok190, trivial⟩, trivial⟩) Tryz.checked.mixed Tryz.func120 (by kernel_rfl) (by kernel_rfl) (by kernel_rfl) (by kernel_rfl) (by kernel_rfl) (by kernel_rfl) (by kernel_rfl)
  fun x y h => (raw120_eq x).trans h
theorem ok48 : FOk Tryz.prog 48 S48 := afun_ok (E := E48) (fn := Tryz.f48) tabOk (GOk.look (l := [(120, [S120])]) ⟨⟨ok120, trivial⟩, trivial⟩) Tryz.checked.mixed Tryz.func48 (by kernel_rfl) (by kernel_rfl) (by kernel_rfl) (by kernel_rfl) (by kernel_rfl) (by kernel_rfl) (by kernel_rfl)
  fun x y h => (raw48_eq x).trans h
theorem ok50 : FOk Tryz.prog 50 S50 := afun_ok (E := E50) (fn := Tryz.f50) tabOk (GOk.look (l := [(120, [S120])]) ⟨⟨ok120, trivial⟩, trivial⟩) Tryz.checked.mixed Tryz.func50 (by kernel_rfl) (by kernel_rfl) (by kernel_rfl) (by kernel_rfl) (by kernel_rfl) (by kernel_rfl) (by kernel_rfl)
  fun x y h => (raw50_eq x).trans h
theorem ok121 : FOk Tryz.prog 121 S121 := afun_ok (E := E121) (fn := Tryz.f121) tabOk (GOk.look (l := [(48, [S48]), (126, [S126])]) ⟨⟨ok48, trivial⟩, ⟨ok126, trivial⟩, trivial⟩) Tryz.checked.mixed Tryz.func121 (by kernel_rfl) (by kernel_rfl) (by kernel_rfl) (by kernel_rfl) (by kernel_rfl) (by kernel_rfl) (by kernel_rfl)
  fun x y h => (raw121_eq x).trans h
theorem ok191 : FOk Tryz.prog 191 S191 := afun_ok (E := E191) (fn := Tryz.f191) tabOk (GOk.look (l := []) trivial) Tryz.checked.mixed Tryz.func191 (by kernel_rfl) (by kernel_rfl) (by kernel_rfl) (by kernel_rfl) (by kernel_rfl) (by kernel_rfl) (by kernel_rfl)
  fun x y h => (raw191_eq x).trans h
theorem ok122 : FOk Tryz.prog 122 S122 := afun_ok (E := E122) (fn := Tryz.f122) tabOk (GOk.look (l := [(120, [S120]), (126, [S126]), (191, [S191])]) ⟨⟨ok120, trivial⟩, ⟨ok126, trivial⟩, ⟨ok191, trivial⟩, trivial⟩) Tryz.checked.mixed Tryz.func122 (by kernel_rfl) (by kernel_rfl) (by kernel_rfl) (by kernel_rfl) (by kernel_rfl) (by kernel_rfl) (by kernel_rfl)
  fun x y h => (raw122_eq x).trans h
theorem ok125 : FOk Tryz.prog 125 S125 := afun_ok (E := E125) (fn := Tryz.f125) tabOk (GOk.look (l := []) trivial) Tryz.checked.mixed Tryz.func125 (by kernel_rfl) (by kernel_rfl) (by kernel_rfl) (by kernel_rfl) (by kernel_rfl) (by kernel_rfl) (by kernel_rfl)
  fun x y h => (raw125_eq x).trans h
theorem ok129 : FOk Tryz.prog 129 S129 := afun_ok (E := E129) (fn := Tryz.f129) tabOk (GOk.look (l := [(122, [S122]), (190, [S190])]) ⟨⟨ok122, trivial⟩, ⟨ok190, trivial⟩, trivial⟩) Tryz.checked.mixed Tryz.func129 (by kernel_rfl) (by kernel_rfl) (by kernel_rfl) (by kernel_rfl) (by kernel_rfl) (by kernel_rfl) (by kernel_rfl)
  fun x y h => (raw129_eq x).trans h
theorem ok123 : FOk Tryz.prog 123 S123 := afun_ok (E := E123) (fn := Tryz.f123) tabOk (GOk.look (l := [(50, [S50]), (125, [S125]), (126, [S126]), (129, [S129]), (173, [S173])]) ⟨⟨ok50, trivial⟩, ⟨ok125, trivial⟩, ⟨ok126, trivial⟩, ⟨ok129, trivial⟩, ⟨ok173, trivial⟩, trivial⟩) Tryz.checked.mixed Tryz.func123 (by kernel_rfl) (by kernel_rfl) (by kernel_rfl) (by kernel_rfl) (by kernel_rfl) (by kernel_rfl) (by kernel_rfl)
  fun x y h => (raw123_eq x).trans h
theorem ok124 : FOk Tryz.prog 124 S124 := afun_ok (E := E124) (fn := Tryz.f124) tabOk (GOk.look (l := [(50, [S50]), (125, [S125]), (126, [S126]), (129, [S129]), (150, [S150])]) ⟨⟨ok50, trivial⟩, ⟨ok125, trivial⟩, ⟨ok126, trivial⟩, ⟨ok129, trivial⟩, ⟨ok150, trivial⟩, trivial⟩) Tryz.checked.mixed Tryz.func124 (by kernel_rfl) (by kernel_rfl) (by kernel_rfl) (by kernel_rfl) (by kernel_rfl) (by kernel_rfl) (by kernel_rfl)
  fun x y h => (raw124_eq x).trans h
theorem ok49 : FOk Tryz.prog 49 S49 := afun_ok (E := E49) (fn := Tryz.f49) tabOk (GOk.look (l := [(48, [S48]), (50, [S50]), (71, [S71]), (121, [S121]), (122, [S122]), (123, [S123]), (124, [S124]), (125, [S125]), (126, [S126])]) ⟨⟨ok48, trivial⟩, ⟨ok50, trivial⟩, ⟨ok71, trivial⟩, ⟨ok121, trivial⟩, ⟨ok122, trivial⟩, ⟨ok123, trivial⟩, ⟨ok124, trivial⟩, ⟨ok125, trivial⟩, ⟨ok126, trivial⟩, trivial⟩) Tryz.checked.mixed Tryz.func49 (by kernel_rfl) (by kernel_rfl) (by kernel_rfl) (by kernel_rfl) (by kernel_rfl) (by kernel_rfl) (by kernel_rfl)
  fun x y h => (raw49_eq x).trans h
theorem ok127 : FOk Tryz.prog 127 S127 := afun_ok (E := E127) (fn := Tryz.f127) tabOk (GOk.look (l := [(50, [S50])]) ⟨⟨ok50, trivial⟩, trivial⟩) Tryz.checked.mixed Tryz.func127 (by kernel_rfl) (by kernel_rfl) (by kernel_rfl) (by kernel_rfl) (by kernel_rfl) (by kernel_rfl) (by kernel_rfl)
  fun x y h => (raw127_eq x).trans h
theorem ok127a : FOk Tryz.prog 127 S127a := afun_ok (E := E127a) (fn := Tryz.f127) tabOk (GOk.look (l := [(50, [S50])]) ⟨⟨ok50, trivial⟩, trivial⟩) Tryz.checked.mixed Tryz.func127 (by kernel_rfl) (by kernel_rfl) (by kernel_rfl) (by kernel_rfl) (by kernel_rfl) (by kernel_rfl) (by kernel_rfl)
  fun x y h => (raw127a_eq x).trans h
theorem ok52 : FOk Tryz.prog 52 S52 := afun_ok (E := E52) (fn := Tryz.f52) tabOk (GOk.look (l := []) trivial) Tryz.checked.mixed Tryz.func52 (by kernel_rfl) (by kernel_rfl) (by kernel_rfl) (by kernel_rfl) (by kernel_rfl) (by kernel_rfl) (by kernel_rfl)
  fun x y h => (raw52_eq x).trans h
theorem ok130 : FOk Tryz.prog 130 S130 := afun_ok (E := E130) (fn := Tryz.f130) tabOk (GOk.look (l := [(122, [S122]), (190, [S190])]) ⟨⟨ok122, trivial⟩, ⟨ok190, trivial⟩, trivial⟩) Tryz.checked.mixed Tryz.func130 (by kernel_rfl) (by kernel_rfl) (by kernel_rfl) (by kernel_rfl) (by kernel_rfl) (by kernel_rfl) (by kernel_rfl)
  fun x y h => (raw130_eq x).trans h
theorem ok225 : FOk Tryz.prog 225 S225 := afun_ok (E := E225) (fn := Tryz.f225) tabOk (GOk.look (l := [(50, [S50]), (121, [S121]), (125, [S125]), (126, [S126]), (130, [S130]), (235, [S235])]) ⟨⟨ok50, trivial⟩, ⟨ok121, trivial⟩, ⟨ok125, trivial⟩, ⟨ok126, trivial⟩, ⟨ok130, trivial⟩, ⟨ok235, trivial⟩, trivial⟩) Tryz.checked.mixed Tryz.func225 (by kernel_rfl) (by kernel_rfl) (by kernel_rfl) (by kernel_rfl) (by kernel_rfl) (by kernel_rfl) (by kernel_rfl)
  fun x y h => (raw225_eq x).trans h
theorem ok194 : FOk Tryz.prog 194 S194 := afun_ok (E := E194) (fn := Tryz.f194) tabOk (GOk.look (l := [(125, [S125]), (126, [S126]), (130, [S130]), (219, [S219]), (225, [S225])]) ⟨⟨ok125, trivial⟩, ⟨ok126, trivial⟩, ⟨ok130, trivial⟩, ⟨ok219, trivial⟩, ⟨ok225, trivial⟩, trivial⟩) Tryz.checked.mixed Tryz.func194 (by kernel_rfl) (by kernel_rfl) (by kernel_rfl) (by kernel_rfl) (by kernel_rfl) (by kernel_rfl) (by kernel_rfl)
  fun x y h => (raw194_eq x).trans h
theorem ok193 : FOk Tryz.prog 193 S193 := afun_ok (E := E193) (fn := Tryz.f193) tabOk (GOk.look (l := [(122, [S122]), (194, [S194])]) ⟨⟨ok122, trivial⟩, ⟨ok194, trivial⟩, trivial⟩) Tryz.checked.mixed Tryz.func193 (by kernel_rfl) (by kernel_rfl) (by kernel_rfl) (by kernel_rfl) (by kernel_rfl) (by kernel_rfl) (by kernel_rfl)
  fun x y h => (raw193_eq x).trans h
theorem ok131 : FOk Tryz.prog 131 S131 := afun_ok (E := E131) (fn := Tryz.f131) tabOk (GOk.look (l := [(48, [S48]), (50, [S50]), (121, [S121]), (125, [S125]), (126, [S126]), (154, [S154]), (193, [S193])]) ⟨⟨ok48, trivial⟩, ⟨ok50, trivial⟩, ⟨ok121, trivial⟩, ⟨ok125, trivial⟩, ⟨ok126, trivial⟩, ⟨ok154, trivial⟩, ⟨ok193, trivial⟩, trivial⟩) Tryz.checked.mixed Tryz.func131 (by kernel_rfl) (by kernel_rfl) (by kernel_rfl) (by kernel_rfl) (by kernel_rfl) (by kernel_rfl) (by kernel_rfl)
  fun x y h => (raw131_eq x).trans h
theorem ok195 : FOk Tryz.prog 195 S195 := afun_ok (E := E195) (fn := Tryz.f195) tabOk (GOk.look (l := [(50, [S50]), (122, [S122]), (131, [S131])]) ⟨⟨ok50, trivial⟩, ⟨ok122, trivial⟩, ⟨ok131, trivial⟩, trivial⟩) Tryz.checked.mixed Tryz.func195 (by kernel_rfl) (by kernel_rfl) (by kernel_rfl) (by kernel_rfl) (by kernel_rfl) (by kernel_rfl) (by kernel_rfl)
  fun x y h => (raw195_eq x).trans h
theorem ok223 : FOk Tryz.prog 223 S223 := afun_ok (E := E223) (fn := Tryz.f223) tabOk (GOk.look (l := [(48, [S48]), (50, [S50]), (122, [S122]), (130, [S130])]) ⟨⟨ok48, trivial⟩, ⟨ok50, trivial⟩, ⟨ok122, trivial⟩, ⟨ok130, trivial⟩, trivial⟩) Tryz.checked.mixed Tryz.func223 (by kernel_rfl) (by kernel_rfl) (by kernel_rfl) (by kernel_rfl) (by kernel_rfl) (by kernel_rfl) (by kernel_rfl)
  fun x y h => (raw223_eq x).trans h
theorem ok224 : FOk Tryz.prog 224 S224 := afun_ok (E := E224) (fn := Tryz.f224) tabOk (GOk.look (l := [(48, [S48]), (50, [S50]), (122, [S122]), (130, [S130])]) ⟨⟨ok48, trivial⟩, ⟨ok50, trivial⟩, ⟨ok122, trivial⟩, ⟨ok130, trivial⟩, trivial⟩) Tryz.checked.mixed Tryz.func224 (by kernel_rfl) (by kernel_rfl) (by kernel_rfl) (by kernel_rfl) (by kernel_rfl) (by kernel_rfl) (by kernel_rfl)
  fun x y h => (raw224_eq x).trans h
theorem ok192 : FOk Tryz.prog 192 S192 := afun_ok (E := E192) (fn := Tryz.f192) tabOk (GOk.look (l := [(48, [S48]), (50, [S50]), (121, [S121]), (130, [S130]), (193, [S193]), (195, [S195]), (223, [S223]), (224, [S224])]) ⟨⟨ok48, trivial⟩, ⟨ok50, trivial⟩, ⟨ok121, trivial⟩, ⟨ok130, trivial⟩, ⟨ok193, trivial⟩, ⟨ok195, trivial⟩, ⟨ok223, trivial⟩, ⟨ok224, trivial⟩, trivial⟩) Tryz.checked.mixed Tryz.func192 (by kernel_rfl) (by kernel_rfl) (by kernel_rfl) (by kernel_rfl) (by kernel_rfl) (by kernel_rfl) (by kernel_rfl)
  fun x y h => (raw192_eq x).trans h
theorem ok128 : FOk Tryz.prog 128 S128 := afun_ok (E := E128) (fn := Tryz.f128) tabOk (GOk.look (l := [(47, [S47]), (50, [S50]), (52, [S52]), (94, [S94]), (192, [S192])]) ⟨⟨ok47, trivial⟩, ⟨ok50, trivial⟩, ⟨ok52, trivial⟩, ⟨ok94, trivial⟩, ⟨ok192, trivial⟩, trivial⟩) Tryz.checked.mixed Tryz.func128 (by kernel_rfl) (by kernel_rfl) (by kernel_rfl) (by kernel_rfl) (by kernel_rfl) (by kernel_rfl) (by kernel_rfl)
  fun x y h => (raw128_eq x).trans h
theorem ok132 : FOk Tryz.prog 132 S132 := afun_ok (E := E132) (fn := Tryz.f132) tabOk (GOk.look (l := [(122, [S122]), (194, [S194])]) ⟨⟨ok122, trivial⟩, ⟨ok194, trivial⟩, trivial⟩) Tryz.checked.mixed Tryz.func132 (by kernel_rfl) (by kernel_rfl) (by kernel_rfl) (by kernel_rfl) (by kernel_rfl) (by kernel_rfl) (by kernel_rfl)
  fun x y h => (raw132_eq x).trans h
theorem ok133 : FOk Tryz.prog 133 S133 := afun_ok (E := E133) (fn := Tryz.f133) tabOk (GOk.look (l := [(50, [S50]), (125, [S125]), (126, [S126]), (157, [S157]), (195, [S195])]) ⟨⟨ok50, trivial⟩, ⟨ok125, trivial⟩, ⟨ok126, trivial⟩, ⟨ok157, trivial⟩, ⟨ok195, trivial⟩, trivial⟩) Tryz.checked.mixed Tryz.func133 (by kernel_rfl) (by kernel_rfl) (by kernel_rfl) (by kernel_rfl) (by kernel_rfl) (by kernel_rfl) (by kernel_rfl)
  fun x y h => (raw133_eq x).trans h
theorem ok134 : FOk Tryz.prog 134 S134 := afun_ok (E := E134) (fn := Tryz.f134) tabOk (GOk.look (l := [(48, [S48]), (50, [S50]), (125, [S125]), (126, [S126]), (130, [S130]), (158, [S158])]) ⟨⟨ok48, trivial⟩, ⟨ok50, trivial⟩, ⟨ok125, trivial⟩, ⟨ok126, trivial⟩, ⟨ok130, trivial⟩, ⟨ok158, trivial⟩, trivial⟩) Tryz.checked.mixed Tryz.func134 (by kernel_rfl) (by kernel_rfl) (by kernel_rfl) (by kernel_rfl) (by kernel_rfl) (by kernel_rfl) (by kernel_rfl)
  fun x y h => (raw134_eq x).trans h
theorem ok51 : FOk Tryz.prog 51 S51 := afun_ok (E := E51) (fn := Tryz.f51) tabOk (GOk.look (l := [(50, [S50]), (121, [S121]), (122, [S122]), (126, [S126]), (127, [S127, S127a]), (128, [S128]), (129, [S129]), (130, [S130]), (131, [S131]), (132, [S132]), (133, [S133]), (134, [S134])]) ⟨⟨ok50, trivial⟩, ⟨ok121, trivial⟩, ⟨ok122, trivial⟩, ⟨ok126, trivial⟩, ⟨ok127, ok127a, trivial⟩, ⟨ok128, trivial⟩, ⟨ok129, trivial⟩, ⟨ok130, trivial⟩, ⟨ok131, trivial⟩, ⟨ok132, trivial⟩, ⟨ok133, trivial⟩, ⟨ok134, trivial⟩, trivial⟩) Tryz.checked.mixed Tryz.func51 (by kernel_rfl) (by kernel_rfl) (by kernel_rfl) (by kernel_rfl) (by kernel_rfl) (by kernel_rfl) (by kernel_rfl)
  fun x y h => (raw51_eq x).trans h
theorem ok13 : FOk Tryz.prog 13 S13 := afun_ok (E := E13) (fn := Tryz.f13) tabOk (GOk.look (l := [(17, [S17]), (47, [S47]), (48, [S48]), (49, [S49]), (50, [S50]), (51, [S51]), (52, [S52])]) ⟨⟨ok17, trivial⟩, ⟨ok47, trivial⟩, ⟨ok48, trivial⟩, ⟨ok49, trivial⟩, ⟨ok50, trivial⟩, ⟨ok51, trivial⟩, ⟨ok52, trivial⟩, trivial⟩) Tryz.checked.mixed Tryz.func13 (by kernel_rfl) (by kernel_rfl) (by kernel_rfl) (by kernel_rfl) (by kernel_rfl) (by kernel_rfl) (by kernel_rfl)
  fun x y h => (raw13_eq x).trans h
theorem ok7 : FOk Tryz.prog 7 S7 := afun_ok (E := E7) (fn := Tryz.f7) tabOk (GOk.look (l := [(9, [S9]), (13, [S13]), (17, [S17]), (18, [S18])]) ⟨⟨ok9, trivial⟩, ⟨ok13, trivial⟩, ⟨ok17, trivial⟩, ⟨ok18, trivial⟩, trivial⟩) Tryz.checked.mixed Tryz.func7 (by kernel_rfl) (by kernel_rfl) (by kernel_rfl) (by kernel_rfl) (by kernel_rfl) (by kernel_rfl) (by kernel_rfl)
  fun x y h => (raw7_eq x).trans h
theorem ok198 : FOk Tryz.prog 198 S198 := afun_ok (E := E198) (fn := Tryz.f198) tabOk (GOk.look (l := []) trivial) Tryz.checked.mixed Tryz.func198 (by kernel_rfl) (by kernel_rfl) (by kernel_rfl) (by kernel_rfl) (by kernel_rfl) (by kernel_rfl) (by kernel_rfl)
  fun x y h => (raw198_eq x).trans h
theorem ok140 : FOk Tryz.prog 140 S140 := afun_ok (E := E140) (fn := Tryz.f140) tabOk (GOk.look (l := [(198, [S198])]) ⟨⟨ok198, trivial⟩, trivial⟩) Tryz.checked.mixed Tryz.func140 (by kernel_rfl) (by kernel_rfl) (by kernel_rfl) (by kernel_rfl) (by kernel_rfl) (by kernel_rfl) (by kernel_rfl)
  fun x y h => (raw140_eq x).trans h
theorem ok141 : FOk Tryz.prog 141 S141 := afun_ok (E := E141) (fn := Tryz.f141) tabOk (GOk.look (l := []) trivial) Tryz.checked.mixed Tryz.func141 (by kernel_rfl) (by kernel_rfl) (by kernel_rfl) (by kernel_rfl) (by kernel_rfl) (by kernel_rfl) (by kernel_rfl)
  fun x y h => (raw141_eq x).trans h
theorem ok63 : FOk Tryz.prog 63 S63 := afun_ok (E := E63) (fn := Tryz.f63) tabOk (GOk.look (l := [(140, [S140]), (141, [S141])]) ⟨⟨ok140, trivial⟩, ⟨ok141, trivial⟩, trivial⟩) Tryz.checked.mixed Tryz.func63 (by kernel_rfl) (by kernel_rfl) (by kernel_rfl) (by kernel_rfl) (by kernel_rfl) (by kernel_rfl) (by kernel_rfl)
  fun x y h => (raw63_eq x).trans h
theorem ok67 : FOk Tryz.prog 67 S67 := afun_ok (E := E67) (fn := Tryz.f67) tabOk (GOk.look (l := []) trivial) Tryz.checked.mixed Tryz.func67 (by kernel_rfl) (by kernel_rfl) (by kernel_rfl) (by kernel_rfl) (by kernel_rfl) (by kernel_rfl) (by kernel_rfl)
  fun x y h => (raw67_eq x).trans h
theorem ok142 : FOk Tryz.prog 142 S142 := afun_ok (E := E142) (fn := Tryz.f142) tabOk (GOk.look (l := []) trivial) Tryz.checked.mixed Tryz.func142 (by kernel_rfl) (by kernel_rfl) (by kernel_rfl) (by kernel_rfl) (by kernel_rfl) (by kernel_rfl) (by kernel_rfl)
  fun x y h => (raw142_eq x).trans h
theorem ok143 : FOk Tryz.prog 143 S143 := afun_ok (E := E143) (fn := Tryz.f143) tabOk (GOk.look (l := []) trivial) Tryz.checked.mixed Tryz.func143 (by kernel_rfl) (by kernel_rfl) (by kernel_rfl) (by kernel_rfl) (by kernel_rfl) (by kernel_rfl) (by kernel_rfl)
  fun x y h => (raw143_eq x).trans h
theorem ok65 : FOk Tryz.prog 65 S65 := afun_ok (E := E65) (fn := Tryz.f65) tabOk (GOk.look (l := [(67, [S67])]) ⟨⟨ok67, trivial⟩, trivial⟩) Tryz.checked.mixed Tryz.func65 (by kernel_rfl) (by kernel_rfl) (by kernel_rfl) (by kernel_rfl) (by kernel_rfl) (by kernel_rfl) (by kernel_rfl)
  fun x y h => (raw65_eq x).trans h
theorem ok144 : FOk Tryz.prog 144 S144 := afun_ok (E := E144) (fn := Tryz.f144) tabOk (GOk.look (l := [(65, [S65])]) ⟨⟨ok65, trivial⟩, trivial⟩) Tryz.checked.mixed Tryz.func144 (by kernel_rfl) (by kernel_rfl) (by kernel_rfl) (by kernel_rfl) (by kernel_rfl) (by kernel_rfl) (by kernel_rfl)
  fun x y h => (raw144_eq x).trans h
theorem ok145 : FOk Tryz.prog 145 S145 := afun_ok (E := E145) (fn := Tryz.f145) tabOk (GOk.look (l := []) trivial) Tryz.checked.mixed Tryz.func145 (by kernel_rfl) (by kernel_rfl) (by kernel_rfl) (by kernel_rfl) (by kernel_rfl) (by kernel_rfl) (by kernel_rfl)
  fun x y h => (raw145_eq x).trans h
theorem ok64 : FOk Tryz.prog 64 S64 := afun_ok (E := E64) (fn := Tryz.f64) tabOk (GOk.look (l := [(67, [S67]), (142, [S142]), (143, [S143]), (144, [S144]), (145, [S145])]) ⟨⟨ok67, trivial⟩, ⟨ok142, trivial⟩, ⟨ok143, trivial⟩, ⟨ok144, trivial⟩, ⟨ok145, trivial⟩, trivial⟩) Tryz.checked.mixed Tryz.func64 (by kernel_rfl) (by kernel_rfl) (by kernel_rfl) (by kernel_rfl) (by kernel_rfl) (by kernel_rfl) (by kernel_rfl)
  fun x y h => (raw64_eq x).trans h
theorem ok66 : FOk Tryz.prog 66 S66 := afun_ok (E := E66) (fn := Tryz.f66) tabOk (GOk.look (l := [(67, [S67])]) ⟨⟨ok67, trivial⟩, trivial⟩) Tryz.checked.mixed Tryz.func66 (by kernel_rfl) (by kernel_rfl) (by kernel_rfl) (by kernel_rfl) (by kernel_rfl) (by kernel_rfl) (by kernel_rfl)
  fun x y h => (raw66_eq x).trans h
theorem ok68 : FOk Tryz.prog 68 S68 := afun_ok (E := E68) (fn := Tryz.f68) tabOk (GOk.look (l := [(144, [S144]), (145, [S145])]) ⟨⟨ok144, trivial⟩, ⟨ok145, trivial⟩, trivial⟩) Tryz.checked.mixed Tryz.func68 (by kernel_rfl) (by kernel_rfl) (by kernel_rfl) (by kernel_rfl) (by kernel_rfl) (by kernel_rfl) (by kernel_rfl)
  fun x y h => (raw68_eq x).trans h
theorem ok15 : FOk Tryz.prog 15 S15 := afun_ok (E := E15) (fn := Tryz.f15) tabOk (GOk.look (l := [(63, [S63]), (64, [S64]), (65, [S65]), (66, [S66]), (67, [S67]), (68, [S68])]) ⟨⟨ok63, trivial⟩, ⟨ok64, trivial⟩, ⟨ok65, trivial⟩, ⟨ok66, trivial⟩, ⟨ok67, trivial⟩, ⟨ok68, trivial⟩, trivial⟩) Tryz.checked.mixed Tryz.func15 (by kernel_rfl) (by kernel_rfl) (by kernel_rfl) (by kernel_rfl) (by kernel_rfl) (by kernel_rfl) (by kernel_rfl)
  fun x y h => (raw15_eq x).trans h
theorem ok33 : FOk Tryz.prog 33 S33 := afun_ok (E := E33) (fn := Tryz.f33) tabOk (GOk.look (l := []) trivial) Tryz.checked.mixed Tryz.func33 (by kernel_rfl) (by kernel_rfl) (by kernel_rfl) (by kernel_rfl) (by kernel_rfl) (by kernel_rfl) (by kernel_rfl)
  fun x y h => (raw33_eq x).trans h
theorem ok104 : FOk Tryz.prog 104 S104 := afun_ok (E := E104) (fn := Tryz.f104) tabOk (GOk.look (l := []) trivial) Tryz.checked.mixed Tryz.func104 (by kernel_rfl) (by kernel_rfl) (by kernel_rfl) (by kernel_rfl) (by kernel_rfl) (by kernel_rfl) (by kernel_rfl)
  fun x y h => (raw104_eq x).trans h
theorem ok105 : FOk Tryz.prog 105 S105 := afun_ok (E := E105) (fn := Tryz.f105) tabOk (GOk.look (l := []) trivial) Tryz.checked.mixed Tryz.func105 (by kernel_rfl) (by kernel_rfl) (by kernel_rfl) (by kernel_rfl) (by kernel_rfl) (by kernel_rfl) (by kernel_rfl)
  fun x y h => hand105 x y h
theorem ok184 : FOk Tryz.prog 184 S184 := afun_ok (E := E184) (fn := Tryz.f184) tabOk (GOk.look (l := []) trivial) Tryz.checked.mixed Tryz.func184 (by kernel_rfl) (by kernel_rfl) (by kernel_rfl) (by kernel_rfl) (by kernel_rfl) (by kernel_rfl) (by kernel_rfl)
  fun x y h => (raw184_eq x).trans h
theorem ok183 : FOk Tryz.prog 183 S183 := afun_ok (E := E183) (fn := Tryz.f183) tabOk (GOk.look (l := [(184, [S184])]) ⟨⟨ok184, trivial⟩, trivial⟩) Tryz.checked.mixed Tryz.func183 (by kernel_rfl) (by kernel_rfl) (by kernel_rfl) (by kernel_rfl) (by kernel_rfl) (by kernel_rfl) (by kernel_rfl)
  fun x y h => (raw183_eq x).trans h
theorem ok106 : FOk Tryz.prog 106 S106 := afun_ok (E := E106) (fn := Tryz.f106) tabOk (GOk.look (l := [(183, [S183])]) ⟨⟨ok183, trivial⟩, trivial⟩) Tryz.checked.mixed Tryz.func106 (by kernel_rfl) (by kernel_rfl) (by kernel_rfl) (by kernel_rfl) (by kernel_rfl) (by kernel_rfl) (by kernel_rfl)
  fun x y h => (raw106_eq x).trans h
theorem ok107 : FOk Tryz.prog 107 S107 := afun_ok (E := E107) (fn := Tryz.f107) tabOk (GOk.look (l := [(184, [S184])]) ⟨⟨ok184, trivial⟩, trivial⟩) Tryz.checked.mixed Tryz.func107 (by kernel_rfl) (by kernel_rfl) (by kernel_rfl) (by kernel_rfl) (by kernel_rfl) (by kernel_rfl) (by kernel_rfl)
  fun x y h => (raw107_eq x).trans h
theorem ok34 : FOk Tryz.prog 34 S34 := afun_ok (E := E34) (fn := Tryz.f34) tabOk (GOk.look (l := [(104, [S104]), (105, [S105]), (106, [S106]), (107, [S107])]) ⟨⟨ok104, trivial⟩, ⟨ok105, trivial⟩, ⟨ok106, trivial⟩, ⟨ok107, trivial⟩, trivial⟩) Tryz.checked.mixed Tryz.func34 (by kernel_rfl) (by kernel_rfl) (by kernel_rfl) (by kernel_rfl) (by kernel_rfl) (by kernel_rfl) (by kernel_rfl)
  fun x y h => (raw34_eq x).trans h
theorem ok35 : FOk Tryz.prog 35 S35 := afun_ok (E := E35) (fn := Tryz.f35) tabOk (GOk.look (l := []) trivial) Tryz.checked.mixed Tryz.func35 (by kernel_rfl) (by kernel_rfl) (by kernel_rfl) (by kernel_rfl) (by kernel_rfl) (by kernel_rfl) (by kernel_rfl)
  fun x y h => (raw35_eq x).trans h
theorem ok111 : FOk Tryz.prog 111 S111 := afun_ok (E := E111) (fn := Tryz.f111) tabOk (GOk.look (l := []) trivial) Tryz.checked.mixed Tryz.func111 (by kernel_rfl) (by kernel_rfl) (by kernel_rfl) (by kernel_rfl) (by kernel_rfl) (by kernel_rfl) (by kernel_rfl)
  fun x y h => (raw111_eq x).trans h
theorem ok39 : FOk Tryz.prog 39 S39 := afun_ok (E := E39) (fn := Tryz.f39) tabOk (GOk.look (l := [(111, [S111])]) ⟨⟨ok111, trivial⟩, trivial⟩) Tryz.checked.mixed Tryz.func39 (by kernel_rfl) (by kernel_rfl) (by kernel_rfl) (by kernel_rfl) (by kernel_rfl) (by kernel_rfl) (by kernel_rfl)
  fun x y h => (raw39_eq x).trans h
theorem ok37 : FOk Tryz.prog 37 S37 := afun_ok (E := E37) (fn := Tryz.f37) tabOk (GOk.look (l := [(39, [S39]), (111, [S111])]) ⟨⟨ok39, trivial⟩, ⟨ok111, trivial⟩, trivial⟩) Tryz.checked.mixed Tryz.func37 (by kernel_rfl) (by kernel_rfl) (by kernel_rfl) (by kernel_rfl) (by kernel_rfl) (by kernel_rfl) (by kernel_rfl)
  fun x y h => (raw37_eq x).trans h
theorem ok38 : FOk Tryz.prog 38 S38 := afun_ok (E := E38) (fn := Tryz.f38) tabOk (GOk.look (l := [(39, [S39])]) ⟨⟨ok39, trivial⟩, trivial⟩) Tryz.checked.mixed Tryz.func38 (by kernel_rfl) (by kernel_rfl) (by kernel_rfl) (by kernel_rfl) (by kernel_rfl) (by kernel_rfl) (by kernel_rfl)
  fun x y h => (raw38_eq x).trans h
theorem ok109 : FOk Tryz.prog 109 S109 := afun_ok (E := E109) (fn := Tryz.f109) tabOk (GOk.look (l := []) trivial) Tryz.checked.mixed Tryz.func109 (by kernel_rfl) (by kernel_rfl) (by kernel_rfl) (by kernel_rfl) (by kernel_rfl) (by kernel_rfl) (by kernel_rfl)
  fun x y h => (raw109_eq x).trans h
theorem ok110 : FOk Tryz.prog 110 S110 := afun_ok (E := E110) (fn := Tryz.f110) tabOk (GOk.look (l := [(109, [S109])]) ⟨⟨ok109, trivial⟩, trivial⟩) Tryz.checked.mixed Tryz.func110 (by kernel_rfl) (by kernel_rfl) (by kernel_rfl) (by kernel_rfl) (by kernel_rfl) (by kernel_rfl) (by kernel_rfl)
  fun x y h => (raw110_eq x).trans h
theorem ok113 : FOk Tryz.prog 113 S113 := afun_ok (E := E113) (fn := Tryz.f113) tabOk (GOk.look (l := [(109, [S109])]) ⟨⟨ok109, trivial⟩, trivial⟩) Tryz.checked.mixed Tryz.func113 (by kernel_rfl) (by kernel_rfl) (by kernel_rfl) (by kernel_rfl) (by kernel_rfl) (by kernel_rfl) (by kernel_rfl)
  fun x y h => (raw113_eq x).trans h
theorem ok112 : FOk Tryz.prog 112 S112 := afun_ok (E := E112) (fn := Tryz.f112) tabOk (GOk.look (l := []) trivial) Tryz.checked.mixed Tryz.func112 (by kernel_rfl) (by kernel_rfl) (by kernel_rfl) (by kernel_rfl) (by kernel_rfl) (by kernel_rfl) (by kernel_rfl)
  fun x y h => (raw112_eq x).trans h
theorem ok40 : FOk Tryz.prog 40 S40 := afun_ok (E := E40) (fn := Tryz.f40) tabOk (GOk.look (l := [(39, [S39]), (109, [S109]), (112, [S112]), (113, [S113])]) ⟨⟨ok39, trivial⟩, ⟨ok109, trivial⟩, ⟨ok112, trivial⟩, ⟨ok113, trivial⟩, trivial⟩) Tryz.checked.mixed Tryz.func40 (by kernel_rfl) (by kernel_rfl) (by kernel_rfl) (by kernel_rfl) (by kernel_rfl) (by kernel_rfl) (by kernel_rfl)
  fun x y h => (raw40_eq x).trans h
theorem ok114 : FOk Tryz.prog 114 S114 := afun_ok (E := E114) (fn := Tryz.f114) tabOk (GOk.look (l := [(40, [S40]), (109, [S109]), (110, [S110])]) ⟨⟨ok40, trivial⟩, ⟨ok109, trivial⟩, ⟨ok110, trivial⟩, trivial⟩) Tryz.checked.mixed Tryz.func114 (by kernel_rfl) (by kernel_rfl) (by kernel_rfl) (by kernel_rfl) (by kernel_rfl) (by kernel_rfl) (by kernel_rfl)
  fun x y h => (raw114_eq x).trans h
theorem ok115 : FOk Tryz.prog 115 S115 := afun_ok (E := E115) (fn := Tryz.f115) tabOk (GOk.look (l := [(109, [S109]), (110, [S110])]) ⟨⟨ok109, trivial⟩, ⟨ok110, trivial⟩, trivial⟩) Tryz.checked.mixed Tryz.func115 (by kernel_rfl) (by kernel_rfl) (by kernel_rfl) (by kernel_rfl) (by kernel_rfl) (by kernel_rfl) (by kernel_rfl)
  fun x y h => (raw115_eq x).trans h
theorem ok185 : FOk Tryz.prog 185 S185 := afun_ok (E := E185) (fn := Tryz.f185) tabOk (GOk.look (l := []) trivial) Tryz.checked.mixed Tryz.func185 (by kernel_rfl) (by kernel_rfl) (by kernel_rfl) (by kernel_rfl) (by kernel_rfl) (by kernel_rfl) (by kernel_rfl)
  fun x y h => hand185 x y h
theorem ok186 : FOk Tryz.prog 186 S186 := afun_ok (E := E186) (fn := Tryz.f186) tabOk (GOk.look (l := [(39, [S39]), (109, [S109])]) ⟨⟨ok39, trivial⟩, ⟨ok109, trivial⟩, trivial⟩) Tryz.checked.mixed Tryz.func186 (by kernel_rfl) (by kernel_rfl) (by kernel_rfl) (by kernel_rfl) (by kernel_rfl) (by kernel_rfl) (by kernel_rfl)
  fun x y h => (raw186_eq x).trans h
theorem ok221 : FOk Tryz.prog 221 S221 := afun_ok (E := E221) (fn := Tryz.f221) tabOk (GOk.look (l := [(37, [S37]), (39, [S39]), (113, [S113])]) ⟨⟨ok37, trivial⟩, ⟨ok39, trivial⟩, ⟨ok113, trivial⟩, trivial⟩) Tryz.checked.mixed Tryz.func221 (by kernel_rfl) (by kernel_rfl) (by kernel_rfl) (by kernel_rfl) (by kernel_rfl) (by kernel_rfl) (by kernel_rfl)
  fun x y h => (raw221_eq x).trans h
theorem ok236 : FOk Tryz.prog 236 S236 := afun_ok (E := E236) (fn := Tryz.f236) tabOk (GOk.look (l := [(37, [S37]), (39, [S39])]) ⟨⟨ok37, trivial⟩, ⟨ok39, trivial⟩, trivial⟩) Tryz.checked.mixed Tryz.func236 (by kernel_rfl) (by kernel_rfl) (by kernel_rfl) (by kernel_rfl) (by kernel_rfl) (by kernel_rfl) (by kernel_rfl)
  fun x y h => (raw236_eq x).trans h
theorem ok222 : FOk Tryz.prog 222 S222 := afun_ok (E := E222) (fn := Tryz.f222) tabOk (GOk.look (l := [(236, [S236])]) ⟨⟨ok236, trivial⟩, trivial⟩) Tryz.checked.mixed Tryz.func222 (by kernel_rfl) (by kernel_rfl) (by kernel_rfl) (by kernel_rfl) (by kernel_rfl) (by kernel_rfl) (by kernel_rfl)
  fun x y h => (raw222_eq x).trans h
theorem ok187 : FOk Tryz.prog 187 S187 := afun_ok (E := E187) (fn := Tryz.f187) tabOk (GOk.look (l := [(221, [S221]), (222, [S222])]) ⟨⟨ok221, trivial⟩, ⟨ok222, trivial⟩, trivial⟩) Tryz.checked.mixed Tryz.func187 (by kernel_rfl) (by kernel_rfl) (by kernel_rfl) (by kernel_rfl) (by kernel_rfl) (by kernel_rfl) (by kernel_rfl)
  fun x y h => (raw187_eq x).trans h
theorem ok188 : FOk Tryz.prog 188 S188 := afun_ok (E := E188) (fn := Tryz.f188) tabOk (GOk.look (l := [(39, [S39]), (112, [S112])]) ⟨⟨ok39, trivial⟩, ⟨ok112, trivial⟩, trivial⟩) Tryz.checked.mixed Tryz.func188 (by kernel_rfl) (by kernel_rfl) (by kernel_rfl) (by kernel_rfl) (by kernel_rfl) (by kernel_rfl) (by kernel_rfl)
  fun x y h => (raw188_eq x).trans h
theorem ok189 : FOk Tryz.prog 189 S189 := afun_ok (E := E189) (fn := Tryz.f189) tabOk (GOk.look (l := [(39, [S39]), (110, [S110]), (112, [S112])]) ⟨⟨ok39, trivial⟩, ⟨ok110, trivial⟩, ⟨ok112, trivial⟩, trivial⟩) Tryz.checked.mixed Tryz.func189 (by kernel_rfl) (by kernel_rfl) (by kernel_rfl) (by kernel_rfl) (by kernel_rfl) (by kernel_rfl) (by kernel_rfl)
  fun x y h => (raw189_eq x).trans h
theorem ok108 : FOk Tryz.prog 108 S108 := afun_ok (E := E108) (fn := Tryz.f108) tabOk (GOk.look (l := [(37, [S37]), (38, [S38]), (39, [S39]), (109, [S109]), (110, [S110]), (113, [S113]), (114, [S114]), (115, [S115]), (185, [S185]), (186, [S186]), (187, [S187]), (188, [S188]), (189, [S189])]) ⟨⟨ok37, trivial⟩, ⟨ok38, trivial⟩, ⟨ok39, trivial⟩, ⟨ok109, trivial⟩, ⟨ok110, trivial⟩, ⟨ok113, trivial⟩, ⟨ok114, trivial⟩, ⟨ok115, trivial⟩, ⟨ok185, trivial⟩, ⟨ok186, trivial⟩, ⟨ok187, trivial⟩, ⟨ok188, trivial⟩, ⟨ok189, trivial⟩, trivial⟩) Tryz.checked.mixed Tryz.func108 (by kernel_rfl) (by kernel_rfl) (by kernel_rfl) (by kernel_rfl) (by kernel_rfl) (by kernel_rfl) (by kernel_rfl)
  fun x y h => (raw108_eq x).trans h
theorem ok36 : FOk Tryz.prog 36 S36 := afun_ok (E := E36) (fn := Tryz.f36) tabOk (GOk.look (l := [(108, [S108]), (109, [S109]), (110, [S110])]) ⟨⟨ok108, trivial⟩, ⟨ok109, trivial⟩, ⟨ok110, trivial⟩, trivial⟩) Tryz.checked.mixed Tryz.func36 (by kernel_rfl) (by kernel_rfl) (by kernel_rfl) (by kernel_rfl) (by kernel_rfl) (by kernel_rfl) (by kernel_rfl)
  fun x y h => (raw36_eq x).trans h
theorem ok42 : FOk Tryz.prog 42 S42 := afun_ok (E := E42) (fn := Tryz.f42) tabOk (GOk.look (l := [(39, [S39]), (112, [S112])]) ⟨⟨ok39, trivial⟩, ⟨ok112, trivial⟩, trivial⟩) Tryz.checked.mixed Tryz.func42 (by kernel_rfl) (by kernel_rfl) (by kernel_rfl) (by kernel_rfl) (by kernel_rfl) (by kernel_rfl) (by kernel_rfl)
  fun x y h => (raw42_eq x).trans h
theorem ok41 : FOk Tryz.prog 41 S41 := afun_ok (E := E41) (fn := Tryz.f41) tabOk (GOk.look (l := [(35, [S35]), (42, [S42])]) ⟨⟨ok35, trivial⟩, ⟨ok42, trivial⟩, trivial⟩) Tryz.checked.mixed Tryz.func41 (by kernel_rfl) (by kernel_rfl) (by kernel_rfl) (by kernel_rfl) (by kernel_rfl) (by kernel_rfl) (by kernel_rfl)
  fun x y h => (raw41_eq x).trans h
theorem ok43 : FOk Tryz.prog 43 S43 := afun_ok (E := E43) (fn := Tryz.f43) tabOk (GOk.look (l := [(68, [S68])]) ⟨⟨ok68, trivial⟩, trivial⟩) Tryz.checked.mixed Tryz.func43 (by kernel_rfl) (by kernel_rfl) (by kernel_rfl) (by kernel_rfl) (by kernel_rfl) (by kernel_rfl) (by kernel_rfl)
  fun x y h => (raw43_eq x).trans h
theorem ok44 : FOk Tryz.prog 44 S44 := afun_ok (E := E44) (fn := Tryz.f44) tabOk (GOk.look (l := [(110, [S110]), (113, [S113]), (114, [S114]), (115, [S115])]) ⟨⟨ok110, trivial⟩, ⟨ok113, trivial⟩, ⟨ok114, trivial⟩, ⟨ok115, trivial⟩, trivial⟩) Tryz.checked.mixed Tryz.func44 (by kernel_rfl) (by kernel_rfl) (by kernel_rfl) (by kernel_rfl) (by kernel_rfl) (by kernel_rfl) (by kernel_rfl)
  fun x y h => (raw44_eq x).trans h
theorem ok45 : FOk Tryz.prog 45 S45 := afun_ok (E := E45) (fn := Tryz.f45) tabOk (GOk.look (l := [(38, [S38]), (39, [S39]), (109, [S109]), (113, [S113])]) ⟨⟨ok38, trivial⟩, ⟨ok39, trivial⟩, ⟨ok109, trivial⟩, ⟨ok113, trivial⟩, trivial⟩) Tryz.checked.mixed Tryz.func45 (by kernel_rfl) (by kernel_rfl) (by kernel_rfl) (by kernel_rfl) (by kernel_rfl) (by kernel_rfl) (by kernel_rfl)
  fun x y h => (raw45_eq x).trans h
theorem ok11 : FOk Tryz.prog 11 S11 := afun_ok (E := E11) (fn := Tryz.f11) tabOk (GOk.look (l := [(15, [S15]), (33, [S33]), (34, [S34]), (35, [S35]), (36, [S36]), (37, [S37]), (38, [S38]), (39, [S39]), (40, [S40]), (41, [S41]), (42, [S42]), (43, [S43]), (44, [S44]), (45, [S45])]) ⟨⟨ok15, trivial⟩, ⟨ok33, trivial⟩, ⟨ok34, trivial⟩, ⟨ok35, trivial⟩, ⟨ok36, trivial⟩, ⟨ok37, trivial⟩, ⟨ok38, trivial⟩, ⟨ok39, trivial⟩, ⟨ok40, trivial⟩, ⟨ok41, trivial⟩, ⟨ok42, trivial⟩, ⟨ok43, trivial⟩, ⟨ok44, trivial⟩, ⟨ok45, trivial⟩, trivial⟩) Tryz.checked.mixed Tryz.func11 (by kernel_rfl) (by kernel_rfl) (by kernel_rfl) (by kernel_rfl) (by kernel_rfl) (by kernel_rfl) (by kernel_rfl)
  fun x y h => (raw11_eq x).trans h
theorem ok138 : FOk Tryz.prog 138 S138 := afun_ok (E := E138) (fn := Tryz.f138) tabOk (GOk.look (l := []) trivial) Tryz.checked.mixed Tryz.func138 (by kernel_rfl) (by kernel_rfl) (by kernel_rfl) (by kernel_rfl) (by kernel_rfl) (by kernel_rfl) (by kernel_rfl)
  fun x y h => (raw138_eq x).trans h
theorem ok135 : FOk Tryz.prog 135 S135 := afun_ok (E := E135) (fn := Tryz.f135) tabOk (GOk.look (l := [(138, [S138])]) ⟨⟨ok138, trivial⟩, trivial⟩) Tryz.checked.mixed Tryz.func135 (by kernel_rfl) (by kernel_rfl) (by kernel_rfl) (by kernel_rfl) (by kernel_rfl) (by kernel_rfl) (by kernel_rfl)
  fun x y h => (raw135_eq x).trans h
theorem ok55 : FOk Tryz.prog 55 S55 := afun_ok (E := E55) (fn := Tryz.f55) tabOk (GOk.look (l := [(135, [S135])]) ⟨⟨ok135, trivial⟩, trivial⟩) Tryz.checked.mixed Tryz.func55 (by kernel_rfl) (by kernel_rfl) (by kernel_rfl) (by kernel_rfl) (by kernel_rfl) (by kernel_rfl) (by kernel_rfl)
  fun x y h => (raw55_eq x).trans h
theorem ok58 : FOk Tryz.prog 58 S58 := afun_ok (E := E58) (fn := Tryz.f58) tabOk (GOk.look (l := [(138, [S138])]) ⟨⟨ok138, trivial⟩, trivial⟩) Tryz.checked.mixed Tryz.func58 (by kernel_rfl) (by kernel_rfl) (by kernel_rfl) (by kernel_rfl) (by kernel_rfl) (by kernel_rfl) (by kernel_rfl)
  fun x y h => (raw58_eq x).trans h
theorem ok56 : FOk Tryz.prog 56 S56 := afun_ok (E := E56) (fn := Tryz.f56) tabOk (GOk.look (l := [(58, [S58])]) ⟨⟨ok58, trivial⟩, trivial⟩) Tryz.checked.mixed Tryz.func56 (by kernel_rfl) (by kernel_rfl) (by kernel_rfl) (by kernel_rfl) (by kernel_rfl) (by kernel_rfl) (by kernel_rfl)
  fun x y h => (raw56_eq x).trans h
theorem ok60 : FOk Tryz.prog 60 S60 := afun_ok (E := E60) (fn := Tryz.f60) tabOk (GOk.look (l := []) trivial) Tryz.checked.mixed Tryz.func60 (by kernel_rfl) (by kernel_rfl) (by kernel_rfl) (by kernel_rfl) (by kernel_rfl) (by kernel_rfl) (by kernel_rfl)
  fun x y h => (raw60_eq x).trans h
theorem ok116 : FOk Tryz.prog 116 S116 := afun_ok (E := E116) (fn := Tryz.f116) tabOk (GOk.look (l := []) trivial) Tryz.checked.mixed Tryz.func116 (by kernel_rfl) (by kernel_rfl) (by kernel_rfl) (by kernel_rfl) (by kernel_rfl) (by kernel_rfl) (by kernel_rfl)
  fun x y h => (raw116_eq x).trans h
theorem ok117 : FOk Tryz.prog 117 S117 := afun_ok (E := E117) (fn := Tryz.f117) tabOk (GOk.look (l := [(55, [S55]), (56, [S56]), (58, [S58]), (116, [S116])]) ⟨⟨ok55, trivial⟩, ⟨ok56, trivial⟩, ⟨ok58, trivial⟩, ⟨ok116, trivial⟩, trivial⟩) Tryz.checked.mixed Tryz.func117 (by kernel_rfl) (by kernel_rfl) (by kernel_rfl) (by kernel_rfl) (by kernel_rfl) (by kernel_rfl) (by kernel_rfl)
  fun x y h => (raw117_eq x).trans h
theorem ok197 : FOk Tryz.prog 197 S197 := afun_ok (E := E197) (fn := Tryz.f197) tabOk (GOk.look (l := [(55, [S55]), (56, [S56]), (60, [S60]), (112, [S112]), (116, [S116])]) ⟨⟨ok55, trivial⟩, ⟨ok56, trivial⟩, ⟨ok60, trivial⟩, ⟨ok112, trivial⟩, ⟨ok116, trivial⟩, trivial⟩) Tryz.checked.mixed Tryz.func197 (by kernel_rfl) (by kernel_rfl) (by kernel_rfl) (by kernel_rfl) (by kernel_rfl) (by kernel_rfl) (by kernel_rfl)
  fun x y h => (raw197_eq x).trans h
theorem ok139 : FOk Tryz.prog 139 S139 := afun_ok (E := E139) (fn := Tryz.f139) tabOk (GOk.look (l := [(39, [S39]), (56, [S56]), (112, [S112]), (116, [S116]), (197, [S197])]) ⟨⟨ok39, trivial⟩, ⟨ok56, trivial⟩, ⟨ok112, trivial⟩, ⟨ok116, trivial⟩, ⟨ok197, trivial⟩, trivial⟩) Tryz.checked.mixed Tryz.func139 (by kernel_rfl) (by kernel_rfl) (by kernel_rfl) (by kernel_rfl) (by kernel_rfl) (by kernel_rfl) (by kernel_rfl)
  fun x y h => (raw139_eq x).trans h
theorem ok118 : FOk Tryz.prog 118 S118 := afun_ok (E := E118) (fn := Tryz.f118) tabOk (GOk.look (l := [(58, [S58]), (139, [S139])]) ⟨⟨ok58, trivial⟩, ⟨ok139, trivial⟩, trivial⟩) Tryz.checked.mixed Tryz.func118 (by kernel_rfl) (by kernel_rfl) (by kernel_rfl) (by kernel_rfl) (by kernel_rfl) (by kernel_rfl) (by kernel_rfl)
  fun x y h => (raw118_eq x).trans h
theorem ok57 : FOk Tryz.prog 57 S57 := afun_ok (E := E57) (fn := Tryz.f57) tabOk (GOk.look (l := [(40, [S40]), (55, [S55]), (60, [S60]), (116, [S116]), (118, [S118])]) ⟨⟨ok40, trivial⟩, ⟨ok55, trivial⟩, ⟨ok60, trivial⟩, ⟨ok116, trivial⟩, ⟨ok118, trivial⟩, trivial⟩) Tryz.checked.mixed Tryz.func57 (by kernel_rfl) (by kernel_rfl) (by kernel_rfl) (by kernel_rfl) (by kernel_rfl) (by kernel_rfl) (by kernel_rfl)
  fun x y h => (raw57_eq x).trans h
theorem ok119 : FOk Tryz.prog 119 S119 := afun_ok (E := E119) (fn := Tryz.f119) tabOk (GOk.look (l := [(55, [S55]), (57, [S57]), (58, [S58]), (116, [S116])]) ⟨⟨ok55, trivial⟩, ⟨ok57, trivial⟩, ⟨ok58, trivial⟩, ⟨ok116, trivial⟩, trivial⟩) Tryz.checked.mixed Tryz.func119 (by kernel_rfl) (by kernel_rfl) (by kernel_rfl) (by kernel_rfl) (by kernel_rfl) (by kernel_rfl) (by kernel_rfl)
  fun x y h => (raw119_eq x).trans h
theorem ok46 : FOk Tryz.prog 46 S46 := afun_ok (E := E46) (fn := Tryz.f46) tabOk (GOk.look (l := [(55, [S55]), (56, [S56]), (58, [S58]), (60, [S60]), (116, [S116]), (117, [S117]), (118, [S118]), (119, [S119])]) ⟨⟨ok55, trivial⟩, ⟨ok56, trivial⟩, ⟨ok58, trivial⟩, ⟨ok60, trivial⟩, ⟨ok116, trivial⟩, ⟨ok117, trivial⟩, ⟨ok118, trivial⟩, ⟨ok119, trivial⟩, trivial⟩) Tryz.checked.mixed Tryz.func46 (by kernel_rfl) (by kernel_rfl) (by kernel_rfl) (by kernel_rfl) (by kernel_rfl) (by kernel_rfl) (by kernel_rfl)
  fun x y h => (raw46_eq x).trans h
theorem ok53 : FOk Tryz.prog 53 S53 := afun_ok (E := E53) (fn := Tryz.f53) tabOk (GOk.look (l := []) trivial) Tryz.checked.mixed Tryz.func53 (by kernel_rfl) (by kernel_rfl) (by kernel_rfl) (by kernel_rfl) (by kernel_rfl) (by kernel_rfl) (by kernel_rfl)
  fun x y h => (raw53_eq x).trans h
theorem ok196 : FOk Tryz.prog 196 S196 := afun_ok (E := E196) (fn := Tryz.f196) tabOk (GOk.look (l := [(56, [S56]), (135, [S135])]) ⟨⟨ok56, trivial⟩, ⟨ok135, trivial⟩, trivial⟩) Tryz.checked.mixed Tryz.func196 (by kernel_rfl) (by kernel_rfl) (by kernel_rfl) (by kernel_rfl) (by kernel_rfl) (by kernel_rfl) (by kernel_rfl)
  fun x y h => (raw196_eq x).trans h
theorem ok136 : FOk Tryz.prog 136 S136 := afun_ok (E := E136) (fn := Tryz.f136) tabOk (GOk.look (l := [(183, [S183]), (196, [S196])]) ⟨⟨ok183, trivial⟩, ⟨ok196, trivial⟩, trivial⟩) Tryz.checked.mixed Tryz.func136 (by kernel_rfl) (by kernel_rfl) (by kernel_rfl) (by kernel_rfl) (by kernel_rfl) (by kernel_rfl) (by kernel_rfl)
  fun x y h => (raw136_eq x).trans h
theorem ok137 : FOk Tryz.prog 137 S137 := afun_ok (E := E137) (fn := Tryz.f137) tabOk (GOk.look (l := [(107, [S107]), (196, [S196])]) ⟨⟨ok107, trivial⟩, ⟨ok196, trivial⟩, trivial⟩) Tryz.checked.mixed Tryz.func137 (by kernel_rfl) (by kernel_rfl) (by kernel_rfl) (by kernel_rfl) (by kernel_rfl) (by kernel_rfl) (by kernel_rfl)
  fun x y h => (raw137_eq x).trans h
theorem ok54 : FOk Tryz.prog 54 S54 := afun_ok (E := E54) (fn := Tryz.f54) tabOk (GOk.look (l := [(34, [S34]), (58, [S58]), (60, [S60]), (135, [S135]), (136, [S136]), (137, [S137])]) ⟨⟨ok34, trivial⟩, ⟨ok58, trivial⟩, ⟨ok60, trivial⟩, ⟨ok135, trivial⟩, ⟨ok136, trivial⟩, ⟨ok137, trivial⟩, trivial⟩) Tryz.checked.mixed Tryz.func54 (by kernel_rfl) (by kernel_rfl) (by kernel_rfl) (by kernel_rfl) (by kernel_rfl) (by kernel_rfl) (by kernel_rfl)
  fun x y h => (raw54_eq x).trans h
theorem ok59 : FOk Tryz.prog 59 S59 := afun_ok (E := E59) (fn := Tryz.f59) tabOk (GOk.look (l := [(58, [S58]), (139, [S139])]) ⟨⟨ok58, trivial⟩, ⟨ok139, trivial⟩, trivial⟩) Tryz.checked.mixed Tryz.func59 (by kernel_rfl) (by kernel_rfl) (by kernel_rfl) (by kernel_rfl) (by kernel_rfl) (by kernel_rfl) (by kernel_rfl)
  fun x y h => (raw59_eq x).trans h
theorem ok61 : FOk Tryz.prog 61 S61 := afun_ok (E := E61) (fn := Tryz.f61) tabOk (GOk.look (l := [(44, [S44]), (55, [S55]), (116, [S116]), (119, [S119])]) ⟨⟨ok44, trivial⟩, ⟨ok55, trivial⟩, ⟨ok116, trivial⟩, ⟨ok119, trivial⟩, trivial⟩) Tryz.checked.mixed Tryz.func61 (by kernel_rfl) (by kernel_rfl) (by kernel_rfl) (by kernel_rfl) (by kernel_rfl) (by kernel_rfl) (by kernel_rfl)
  fun x y h => (raw61_eq x).trans h
theorem ok62 : FOk Tryz.prog 62 S62 := afun_ok (E := E62) (fn := Tryz.f62) tabOk (GOk.look (l := [(45, [S45]), (55, [S55]), (56, [S56]), (116, [S116])]) ⟨⟨ok45, trivial⟩, ⟨ok55, trivial⟩, ⟨ok56, trivial⟩, ⟨ok116, trivial⟩, trivial⟩) Tryz.checked.mixed Tryz.func62 (by kernel_rfl) (by kernel_rfl) (by kernel_rfl) (by kernel_rfl) (by kernel_rfl) (by kernel_rfl) (by kernel_rfl)
  fun x y h => (raw62_eq x).trans h
theorem ok14 : FOk Tryz.prog 14 S14 := afun_ok (E := E14) (fn := Tryz.f14) tabOk (GOk.look (l := [(43, [S43]), (46, [S46]), (53, [S53]), (54, [S54]), (55, [S55]), (56, [S56]), (57, [S57]), (58, [S58]), (59, [S59]), (60, [S60]), (61, [S61]), (62, [S62])]) ⟨⟨ok43, trivial⟩, ⟨ok46, trivial⟩, ⟨ok53, trivial⟩, ⟨ok54, trivial⟩, ⟨ok55, trivial⟩, ⟨ok56, trivial⟩, ⟨ok57, trivial⟩, ⟨ok58, trivial⟩, ⟨ok59, trivial⟩, ⟨ok60, trivial⟩, ⟨ok61, trivial⟩, ⟨ok62, trivial⟩, trivial⟩) Tryz.checked.mixed Tryz.func14 (by kernel_rfl) (by kernel_rfl) (by kernel_rfl) (by kernel_rfl) (by kernel_rfl) (by kernel_rfl) (by kernel_rfl)
  fun x y h => (raw14_eq x).trans h
theorem ok69 : FOk Tryz.prog 69 S69 := afun_ok (E := E69) (fn := Tryz.f69) tabOk (GOk.look (l := []) trivial) Tryz.checked.mixed Tryz.func69 (by kernel_rfl) (by kernel_rfl) (by kernel_rfl) (by kernel_rfl) (by kernel_rfl) (by kernel_rfl) (by kernel_rfl)
  fun x y h => (raw69_eq x).trans h
theorem ok16 : FOk Tryz.prog 16 S16 := afun_ok (E := E16) (fn := Tryz.f16) tabOk (GOk.look (l := [(69, [S69])]) ⟨⟨ok69, trivial⟩, trivial⟩) Tryz.checked.mixed Tryz.func16 (by kernel_rfl) (by kernel_rfl) (by kernel_rfl) (by kernel_rfl) (by kernel_rfl) (by kernel_rfl) (by kernel_rfl)
  fun x y h => (raw16_eq x).trans h
theorem ok4 : FOk Tryz.prog 4 S4 := afun_ok (E := E4) (fn := Tryz.f4) tabOk (GOk.look (l := [(7, [S7]), (11, [S11]), (13, [S13]), (14, [S14]), (15, [S15]), (16, [S16])]) ⟨⟨ok7, trivial⟩, ⟨ok11, trivial⟩, ⟨ok13, trivial⟩, ⟨ok14, trivial⟩, ⟨ok15, trivial⟩, ⟨ok16, trivial⟩, trivial⟩) Tryz.checked.mixed Tryz.func4 (by kernel_rfl) (by kernel_rfl) (by kernel_rfl) (by kernel_rfl) (by kernel_rfl) (by kernel_rfl) (by kernel_rfl)
  fun x y h => (raw4_eq x).trans h
end Go.Proofs.YteebpcpkhojfkaaGreat
