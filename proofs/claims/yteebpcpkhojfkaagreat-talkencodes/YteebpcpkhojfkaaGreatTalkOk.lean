/-
  Talk: by a program of the bench (seat.py).
-/
import Derived.Test.YteebpcpkhojfkaaGreatTalkHand
import Derived.Test.YteebpcpkhojfkaaGreatTalkRaw
namespace Go.Proofs.YteebpcpkhojfkaaGreat
open Go.Sx Go
def allB (E : Env) (fn : Func) (ps : List PS) (rs : List RS) : Bool := cond (Nat.beq E.nt fn.ntmps) (cond (fn.name == "runtime.NumGoroutine") false (cond fn.body.isNone false (cond (psOk 0 ps) (cond (Nat.ble ps.length 900) (cond (Nat.ble (slotN 0 ps) fn.ntmps) (Nat.ble rs.length 4) false) false) false))) false
theorem okB {E : Env} {f : FuncId} {fn : Func} {ps : List PS} {rs : List RS} {F : (argTy ps).den → Option (resTy rs ps).den} (hT : TabOk Tryz.prog E.tab) (hG : ∀ f sg, sg ∈ E.Γ f → FOk Tryz.prog f sg) (h1 : Tryz.prog.funcs[f]? = some fn) (h : allB E fn ps rs = true) (hF : ∀ x y, F x = some y → afun E fn ps rs x = some y) : FOk Tryz.prog f ⟨ps, rs, F⟩ := by
  unfold allB at h
  obtain ⟨a, h⟩ := cond_and h
  cases b : (fn.name == "runtime.NumGoroutine") with
  | true => rw [b] at h; exact Bool.noConfusion h
  | false =>
    rw [b] at h
    cases c : fn.body.isNone with
    | true => rw [c] at h; exact Bool.noConfusion h
    | false =>
      rw [c] at h
      obtain ⟨d, h⟩ := cond_and (show cond (psOk 0 ps) _ false = true from h)
      obtain ⟨e, h⟩ := cond_and h
      obtain ⟨g, h⟩ := cond_and h
      exact afun_ok hT hG Tryz.checked.mixed h1 a b c d e g h hF
theorem ok160 : FOk Tryz.prog 160 S160 := okB (E := E160) tabOk (GOk.look trivial) Tryz.func160 (by kernel_rfl)
  fun x y h => (raw160_eq x).trans h
theorem ok210 : FOk Tryz.prog 210 S210 := okB (E := E210) tabOk (GOk.look ⟨⟨ok160, trivial⟩, trivial⟩) Tryz.func210 (by kernel_rfl)
  fun x y h => (raw210_eq x).trans h
theorem ok209a : FOk Tryz.prog 209 S209a := okB (E := E209a) tabOk (GOk.look ⟨⟨ok210, trivial⟩, trivial⟩) Tryz.func209 (by kernel_rfl)
  fun x y h => (raw209a_eq x).trans h
theorem ok159 : FOk Tryz.prog 159 S159 := okB (E := E159) tabOk (GOk.look ⟨⟨ok209a, trivial⟩, ⟨ok210, trivial⟩, trivial⟩) Tryz.func159 (by kernel_rfl)
  fun x y h => (raw159_eq x).trans h
theorem ok75 : FOk Tryz.prog 75 S75 := okB (E := E75) tabOk (GOk.look ⟨⟨ok159, trivial⟩, ⟨ok160, trivial⟩, trivial⟩) Tryz.func75 (by kernel_rfl)
  fun x y h => (raw75_eq x).trans h
theorem ok161 : FOk Tryz.prog 161 S161 := okB (E := E161) tabOk (GOk.look trivial) Tryz.func161 (by kernel_rfl)
  fun x y h => (raw161_eq x).trans h
theorem ok162 : FOk Tryz.prog 162 S162 := okB (E := E162) tabOk (GOk.look trivial) Tryz.func162 (by kernel_rfl)
  fun x y h => (raw162_eq x).trans h
theorem ok79 : FOk Tryz.prog 79 S79 := okB (E := E79) tabOk (GOk.look trivial) Tryz.func79 (by kernel_rfl)
  fun x y h => (raw79_eq x).trans h
theorem ok163 : FOk Tryz.prog 163 S163 := okB (E := E163) tabOk (GOk.look ⟨⟨ok79, trivial⟩, trivial⟩) Tryz.func163 (by kernel_rfl)
  fun x y h => (raw163_eq x).trans h
theorem ok77 : FOk Tryz.prog 77 S77 := okB (E := E77) tabOk (GOk.look ⟨⟨ok163, trivial⟩, trivial⟩) Tryz.func77 (by kernel_rfl)
  fun x y h => (raw77_eq x).trans h
theorem ok212 : FOk Tryz.prog 212 S212 := okB (E := E212) tabOk (GOk.look ⟨⟨ok77, trivial⟩, trivial⟩) Tryz.func212 (by kernel_rfl)
  fun x y h => (raw212_eq x).trans h
theorem ok211a : FOk Tryz.prog 211 S211a := okB (E := E211a) tabOk (GOk.look ⟨⟨ok212, trivial⟩, trivial⟩) Tryz.func211 (by kernel_rfl)
  fun x y h => (raw211a_eq x).trans h
theorem ok164 : FOk Tryz.prog 164 S164 := okB (E := E164) tabOk (GOk.look ⟨⟨ok211a, trivial⟩, ⟨ok212, trivial⟩, trivial⟩) Tryz.func164 (by kernel_rfl)
  fun x y h => (raw164_eq x).trans h
theorem ok165 : FOk Tryz.prog 165 S165 := okB (E := E165) tabOk (GOk.look trivial) Tryz.func165 (by kernel_rfl)
  fun x y h => (raw165_eq x).trans h
theorem ok76 : FOk Tryz.prog 76 S76 := okB (E := E76) tabOk (GOk.look ⟨⟨ok161, trivial⟩, ⟨ok162, trivial⟩, ⟨ok163, trivial⟩, ⟨ok164, trivial⟩, ⟨ok165, trivial⟩, trivial⟩) Tryz.func76 (by kernel_rfl)
  fun x y h => (raw76_eq x).trans h
theorem ok167 : FOk Tryz.prog 167 S167 := okB (E := E167) tabOk (GOk.look ⟨⟨ok79, trivial⟩, trivial⟩) Tryz.func167 (by kernel_rfl)
  fun x y h => (raw167_eq x).trans h
theorem ok166a : FOk Tryz.prog 166 S166a := okB (E := E166a) tabOk (GOk.look ⟨⟨ok167, trivial⟩, trivial⟩) Tryz.func166 (by kernel_rfl)
  fun x y h => (raw166a_eq x).trans h
theorem ok78 : FOk Tryz.prog 78 S78 := okB (E := E78) tabOk (GOk.look ⟨⟨ok166a, trivial⟩, ⟨ok167, trivial⟩, trivial⟩) Tryz.func78 (by kernel_rfl)
  fun x y h => (raw78_eq x).trans h
theorem ok80 : FOk Tryz.prog 80 S80 := okB (E := E80) tabOk (GOk.look ⟨⟨ok76, trivial⟩, trivial⟩) Tryz.func80 (by kernel_rfl)
  fun x y h => (raw80_eq x).trans h
theorem ok18 : FOk Tryz.prog 18 S18 := okB (E := E18) tabOk (GOk.look ⟨⟨ok75, trivial⟩, ⟨ok76, trivial⟩, ⟨ok77, trivial⟩, ⟨ok78, trivial⟩, ⟨ok79, trivial⟩, ⟨ok80, trivial⟩, trivial⟩) Tryz.func18 (by kernel_rfl)
  fun x y h => (raw18_eq x).trans h
theorem ok70 : FOk Tryz.prog 70 S70 := okB (E := E70) tabOk (GOk.look trivial) Tryz.func70 (by kernel_rfl)
  fun x y h => (raw70_eq x).trans h
theorem ok146 : FOk Tryz.prog 146 S146 := okB (E := E146) tabOk (GOk.look trivial) Tryz.func146 (by kernel_rfl)
  fun x y h => (raw146_eq x).trans h
theorem ok147 : FOk Tryz.prog 147 S147 := okB (E := E147) tabOk (GOk.look trivial) Tryz.func147 (by kernel_rfl)
  fun x y h => (raw147_eq x).trans h
theorem ok148 : FOk Tryz.prog 148 S148 := okB (E := E148) tabOk (GOk.look trivial) Tryz.func148 (by kernel_rfl)
  fun x y h => (raw148_eq x).trans h
theorem ok199 : FOk Tryz.prog 199 S199 := okB (E := E199) tabOk (GOk.look trivial) Tryz.func199 (by kernel_rfl)
  fun x y h => (raw199_eq x).trans h
theorem ok173 : FOk Tryz.prog 173 S173 := okB (E := E173) tabOk (GOk.look ⟨⟨ok199, trivial⟩, trivial⟩) Tryz.func173 (by kernel_rfl)
  fun x y h => (raw173_eq x).trans h
theorem ok149 : FOk Tryz.prog 149 S149 := okB (E := E149) tabOk (GOk.look ⟨⟨ok173, trivial⟩, trivial⟩) Tryz.func149 (by kernel_rfl)
  fun x y h => (raw149_eq x).trans h
theorem ok150 : FOk Tryz.prog 150 S150 := okB (E := E150) tabOk (GOk.look ⟨⟨ok199, trivial⟩, trivial⟩) Tryz.func150 (by kernel_rfl)
  fun x y h => (raw150_eq x).trans h
theorem ok71 : FOk Tryz.prog 71 S71 := okB (E := E71) tabOk (GOk.look ⟨⟨ok75, trivial⟩, ⟨ok146, trivial⟩, ⟨ok147, trivial⟩, ⟨ok148, trivial⟩, ⟨ok149, trivial⟩, ⟨ok150, trivial⟩, trivial⟩) Tryz.func71 (by kernel_rfl)
  fun x y h => (raw71_eq x).trans h
theorem ok72 : FOk Tryz.prog 72 S72 := okB (E := E72) tabOk (GOk.look trivial) Tryz.func72 (by kernel_rfl)
  fun x y h => (raw72_eq x).trans h
theorem ok200 : FOk Tryz.prog 200 S200 := okB (E := E200) tabOk (GOk.look trivial) Tryz.func200 (by kernel_rfl)
  fun x y h => (raw200_eq x).trans h
theorem ok153 : FOk Tryz.prog 153 S153 := okB (E := E153) tabOk (GOk.look ⟨⟨ok200, trivial⟩, trivial⟩) Tryz.func153 (by kernel_rfl)
  fun x y h => (raw153_eq x).trans h
theorem ok152 : FOk Tryz.prog 152 S152 := okB (E := E152) tabOk (GOk.look ⟨⟨ok153, trivial⟩, trivial⟩) Tryz.func152 (by kernel_rfl)
  fun x y h => (raw152_eq x).trans h
theorem ok176 : FOk Tryz.prog 176 S176 := okB (E := E176) tabOk (GOk.look trivial) Tryz.func176 (by kernel_rfl)
  fun x y h => (raw176_eq x).trans h
theorem ok218 : FOk Tryz.prog 218 S218 := okB (E := E218) tabOk (GOk.look ⟨⟨ok176, trivial⟩, trivial⟩) Tryz.func218 (by kernel_rfl)
  fun x y h => (raw218_eq x).trans h
theorem ok234a : FOk Tryz.prog 234 S234a := okB (E := E234a) tabOk (GOk.look ⟨⟨ok218, trivial⟩, trivial⟩) Tryz.func234 (by kernel_rfl)
  fun x y h => (raw234a_eq x).trans h
theorem ok217a : FOk Tryz.prog 217 S217a := okB (E := E217a) tabOk (GOk.look ⟨⟨ok218, trivial⟩, ⟨ok234a, trivial⟩, trivial⟩) Tryz.func217 (by kernel_rfl)
  fun x y h => (raw217a_eq x).trans h
theorem ok177 : FOk Tryz.prog 177 S177 := okB (E := E177) tabOk (GOk.look ⟨⟨ok217a, trivial⟩, ⟨ok218, trivial⟩, trivial⟩) Tryz.func177 (by kernel_rfl)
  fun x y h => (raw177_eq x).trans h
theorem ok226 : FOk Tryz.prog 226 S226 := okB (E := E226) tabOk (GOk.look ⟨⟨ok176, trivial⟩, trivial⟩) Tryz.func226 (by kernel_rfl)
  fun x y h => (raw226_eq x).trans h
theorem ok234b : FOk Tryz.prog 234 S234b := okB (E := E234b) tabOk (GOk.look ⟨⟨ok226, trivial⟩, trivial⟩) Tryz.func234 (by kernel_rfl)
  fun x y h => (raw234b_eq x).trans h
theorem ok217b : FOk Tryz.prog 217 S217b := okB (E := E217b) tabOk (GOk.look ⟨⟨ok226, trivial⟩, ⟨ok234a, ok234b, trivial⟩, trivial⟩) Tryz.func217 (by kernel_rfl)
  fun x y h => (raw217b_eq x).trans h
theorem ok201 : FOk Tryz.prog 201 S201 := okB (E := E201) tabOk (GOk.look ⟨⟨ok217a, ok217b, trivial⟩, ⟨ok226, trivial⟩, trivial⟩) Tryz.func201 (by kernel_rfl)
  fun x y h => (raw201_eq x).trans h
theorem ok237 : FOk Tryz.prog 237 S237 := okB (E := E237) tabOk (GOk.look trivial) Tryz.func237 (by kernel_rfl)
  fun x y h => (raw237_eq x).trans h
theorem ok228 : FOk Tryz.prog 228 S228 := okB (E := E228) tabOk (GOk.look ⟨⟨ok237, trivial⟩, trivial⟩) Tryz.func228 (by kernel_rfl)
  fun x y h => (raw228_eq x).trans h
theorem ok206 : FOk Tryz.prog 206 S206 := okB (E := E206) tabOk (GOk.look ⟨⟨ok228, trivial⟩, trivial⟩) Tryz.func206 (by kernel_rfl)
  fun x y h => (raw206_eq x).trans h
theorem ok204 : FOk Tryz.prog 204 S204 := okB (E := E204) tabOk (GOk.look ⟨⟨ok206, trivial⟩, trivial⟩) Tryz.func204 (by kernel_rfl)
  fun x y h => (raw204_eq x).trans h
theorem ok203 : FOk Tryz.prog 203 S203 := okB (E := E203) tabOk (GOk.look ⟨⟨ok153, trivial⟩, ⟨ok204, trivial⟩, trivial⟩) Tryz.func203 (by kernel_rfl)
  fun x y h => (raw203_eq x).trans h
theorem ok227a : FOk Tryz.prog 227 S227a := okB (E := E227a) tabOk (GOk.look ⟨⟨ok203, trivial⟩, trivial⟩) Tryz.func227 (by kernel_rfl)
  fun x y h => (raw227a_eq x).trans h
theorem ok202a : FOk Tryz.prog 202 S202a := okB (E := E202a) tabOk (GOk.look ⟨⟨ok203, trivial⟩, ⟨ok227a, trivial⟩, trivial⟩) Tryz.func202 (by kernel_rfl)
  fun x y h => (raw202a_eq x).trans h
theorem ok154 : FOk Tryz.prog 154 S154 := okB (E := E154) tabOk (GOk.look ⟨⟨ok201, trivial⟩, ⟨ok202a, trivial⟩, ⟨ok203, trivial⟩, trivial⟩) Tryz.func154 (by kernel_rfl)
  fun x y h => (raw154_eq x).trans h
theorem ok229 : FOk Tryz.prog 229 S229 := okB (E := E229) tabOk (GOk.look ⟨⟨ok154, trivial⟩, ⟨ok176, trivial⟩, ⟨ok177, trivial⟩, trivial⟩) Tryz.func229 (by kernel_rfl)
  fun x y h => (raw229_eq x).trans h
theorem ok230 : FOk Tryz.prog 230 S230 := okB (E := E230) tabOk (GOk.look ⟨⟨ok176, trivial⟩, ⟨ok177, trivial⟩, trivial⟩) Tryz.func230 (by kernel_rfl)
  fun x y h => (raw230_eq x).trans h
theorem ok207 : FOk Tryz.prog 207 S207 := okB (E := E207) tabOk (GOk.look ⟨⟨ok229, trivial⟩, ⟨ok230, trivial⟩, trivial⟩) Tryz.func207 (by kernel_rfl)
  fun x y h => (raw207_eq x).trans h
theorem ok231 : FOk Tryz.prog 231 S231 := okB (E := E231) tabOk (GOk.look trivial) Tryz.func231 (by kernel_rfl)
  fun x y h => (raw231_eq x).trans h
theorem ok213 : FOk Tryz.prog 213 S213 := okB (E := E213) tabOk (GOk.look ⟨⟨ok231, trivial⟩, trivial⟩) Tryz.func213 (by kernel_rfl)
  fun x y h => (raw213_eq x).trans h
theorem ok151 : FOk Tryz.prog 151 S151 := okB (E := E151) tabOk (GOk.look ⟨⟨ok153, trivial⟩, ⟨ok200, trivial⟩, trivial⟩) Tryz.func151 (by kernel_rfl)
  fun x y h => (raw151_eq x).trans h
theorem ok232 : FOk Tryz.prog 232 S232 := okB (E := E232) tabOk (GOk.look ⟨⟨ok153, trivial⟩, ⟨ok201, trivial⟩, trivial⟩) Tryz.func232 (by kernel_rfl)
  fun x y h => (raw232_eq x).trans h
theorem ok240 : FOk Tryz.prog 240 S240 := okB (E := E240) tabOk (GOk.look ⟨⟨ok153, trivial⟩, ⟨ok176, trivial⟩, trivial⟩) Tryz.func240 (by kernel_rfl)
  fun x y h => (raw240_eq x).trans h
theorem ok239 : FOk Tryz.prog 239 S239 := okB (E := E239) tabOk (GOk.look ⟨⟨ok240, trivial⟩, trivial⟩) Tryz.func239 (by kernel_rfl)
  fun x y h => (raw239_eq x).trans h
theorem ok242a : FOk Tryz.prog 242 S242a := okB (E := E242a) tabOk (GOk.look ⟨⟨ok239, trivial⟩, trivial⟩) Tryz.func242 (by kernel_rfl)
  fun x y h => (raw242a_eq x).trans h
theorem ok238a : FOk Tryz.prog 238 S238a := okB (E := E238a) tabOk (GOk.look ⟨⟨ok239, trivial⟩, ⟨ok242a, trivial⟩, trivial⟩) Tryz.func238 (by kernel_rfl)
  fun x y h => (raw238a_eq x).trans h
theorem ok243 : FOk Tryz.prog 243 S243 := okB (E := E243) tabOk (GOk.look ⟨⟨ok151, trivial⟩, ⟨ok232, trivial⟩, trivial⟩) Tryz.func243 (by kernel_rfl)
  fun x y h => (raw243_eq x).trans h
theorem ok248 : FOk Tryz.prog 248 S248 := okB (E := E248) tabOk (GOk.look ⟨⟨ok151, trivial⟩, ⟨ok153, trivial⟩, trivial⟩) Tryz.func248 (by kernel_rfl)
  fun x y h => (raw248_eq x).trans h
theorem ok246 : FOk Tryz.prog 246 S246 := okB (E := E246) tabOk (GOk.look ⟨⟨ok248, trivial⟩, trivial⟩) Tryz.func246 (by kernel_rfl)
  fun x y h => (raw246_eq x).trans h
theorem ok245 : FOk Tryz.prog 245 S245 := okB (E := E245) tabOk (GOk.look ⟨⟨ok246, trivial⟩, trivial⟩) Tryz.func245 (by kernel_rfl)
  fun x y h => (raw245_eq x).trans h
theorem ok245a : FOk Tryz.prog 245 S245a := okB (E := E245a) tabOk (GOk.look ⟨⟨ok246, trivial⟩, trivial⟩) Tryz.func245 (by kernel_rfl)
  fun x y h => (raw245a_eq x).trans h
theorem ok247a : FOk Tryz.prog 247 S247a := okB (E := E247a) tabOk (GOk.look ⟨⟨ok245, ok245a, trivial⟩, trivial⟩) Tryz.func247 (by kernel_rfl)
  fun x y h => (raw247a_eq x).trans h
theorem ok244a : FOk Tryz.prog 244 S244a := okB (E := E244a) tabOk (GOk.look ⟨⟨ok245, ok245a, trivial⟩, ⟨ok247a, trivial⟩, trivial⟩) Tryz.func244 (by kernel_rfl)
  fun x y h => (raw244a_eq x).trans h
theorem ok241 : FOk Tryz.prog 241 S241 := okB (E := E241) tabOk (GOk.look ⟨⟨ok243, trivial⟩, ⟨ok244a, trivial⟩, ⟨ok245, ok245a, trivial⟩, trivial⟩) Tryz.func241 (by kernel_rfl)
  fun x y h => (raw241_eq x).trans h
theorem ok233 : FOk Tryz.prog 233 S233 := okB (E := E233) tabOk (GOk.look ⟨⟨ok238a, trivial⟩, ⟨ok239, trivial⟩, ⟨ok241, trivial⟩, trivial⟩) Tryz.func233 (by kernel_rfl)
  fun x y h => (raw233_eq x).trans h
theorem ok214 : FOk Tryz.prog 214 S214 := okB (E := E214) tabOk (GOk.look ⟨⟨ok151, trivial⟩, ⟨ok176, trivial⟩, ⟨ok177, trivial⟩, ⟨ok232, trivial⟩, ⟨ok233, trivial⟩, trivial⟩) Tryz.func214 (by kernel_rfl)
  fun x y h => (raw214_eq x).trans h
theorem ok215 : FOk Tryz.prog 215 S215 := okB (E := E215) tabOk (GOk.look ⟨⟨ok153, trivial⟩, ⟨ok204, trivial⟩, trivial⟩) Tryz.func215 (by kernel_rfl)
  fun x y h => (raw215_eq x).trans h
theorem ok216 : FOk Tryz.prog 216 S216 := okB (E := E216) tabOk (GOk.look ⟨⟨ok153, trivial⟩, ⟨ok177, trivial⟩, ⟨ok204, trivial⟩, trivial⟩) Tryz.func216 (by kernel_rfl)
  fun x y h => (raw216_eq x).trans h
theorem ok175 : FOk Tryz.prog 175 S175 := okB (E := E175) tabOk (GOk.look ⟨⟨ok76, trivial⟩, ⟨ok152, trivial⟩, ⟨ok177, trivial⟩, ⟨ok207, trivial⟩, ⟨ok213, trivial⟩, ⟨ok214, trivial⟩, ⟨ok215, trivial⟩, ⟨ok216, trivial⟩, trivial⟩) Tryz.func175 (by kernel_rfl)
  fun x y h => (raw175_eq x).trans h
theorem ok94 : FOk Tryz.prog 94 S94 := okB (E := E94) tabOk (GOk.look ⟨⟨ok175, trivial⟩, ⟨ok176, trivial⟩, ⟨ok177, trivial⟩, trivial⟩) Tryz.func94 (by kernel_rfl)
  fun x y h => (raw94_eq x).trans h
theorem ok73 : FOk Tryz.prog 73 S73 := okB (E := E73) tabOk (GOk.look ⟨⟨ok72, trivial⟩, ⟨ok94, trivial⟩, ⟨ok151, trivial⟩, ⟨ok152, trivial⟩, ⟨ok153, trivial⟩, trivial⟩) Tryz.func73 (by kernel_rfl)
  fun x y h => (raw73_eq x).trans h
theorem ok100 : FOk Tryz.prog 100 S100 := okB (E := E100) tabOk (GOk.look trivial) Tryz.func100 (by kernel_rfl)
  fun x y h => (raw100_eq x).trans h
theorem ok205 : FOk Tryz.prog 205 S205 := okB (E := E205) tabOk (GOk.look ⟨⟨ok153, trivial⟩, ⟨ok206, trivial⟩, trivial⟩) Tryz.func205 (by kernel_rfl)
  fun x y h => (raw205_eq x).trans h
theorem ok227b : FOk Tryz.prog 227 S227b := okB (E := E227b) tabOk (GOk.look ⟨⟨ok205, trivial⟩, trivial⟩) Tryz.func227 (by kernel_rfl)
  fun x y h => (raw227b_eq x).trans h
theorem ok202b : FOk Tryz.prog 202 S202b := okB (E := E202b) tabOk (GOk.look ⟨⟨ok205, trivial⟩, ⟨ok227a, ok227b, trivial⟩, trivial⟩) Tryz.func202 (by kernel_rfl)
  fun x y h => (raw202b_eq x).trans h
theorem ok156 : FOk Tryz.prog 156 S156 := okB (E := E156) tabOk (GOk.look ⟨⟨ok202a, ok202b, trivial⟩, ⟨ok205, trivial⟩, trivial⟩) Tryz.func156 (by kernel_rfl)
  fun x y h => (raw156_eq x).trans h
theorem ok155 : FOk Tryz.prog 155 S155 := okB (E := E155) tabOk (GOk.look ⟨⟨ok72, trivial⟩, ⟨ok156, trivial⟩, trivial⟩) Tryz.func155 (by kernel_rfl)
  fun x y h => (raw155_eq x).trans h
theorem ok157 : FOk Tryz.prog 157 S157 := okB (E := E157) tabOk (GOk.look ⟨⟨ok177, trivial⟩, ⟨ok201, trivial⟩, ⟨ok207, trivial⟩, trivial⟩) Tryz.func157 (by kernel_rfl)
  fun x y h => (raw157_eq x).trans h
theorem ok208a : FOk Tryz.prog 208 S208a := okB (E := E208a) tabOk (GOk.look ⟨⟨ok152, trivial⟩, trivial⟩) Tryz.func208 (by kernel_rfl)
  fun x y h => (raw208a_eq x).trans h
theorem ok208b : FOk Tryz.prog 208 S208b := okB (E := E208b) tabOk (GOk.look ⟨⟨ok153, trivial⟩, trivial⟩) Tryz.func208 (by kernel_rfl)
  fun x y h => (raw208b_eq x).trans h
theorem ok158 : FOk Tryz.prog 158 S158 := okB (E := E158) tabOk (GOk.look ⟨⟨ok152, trivial⟩, ⟨ok153, trivial⟩, ⟨ok201, trivial⟩, ⟨ok208a, ok208b, trivial⟩, trivial⟩) Tryz.func158 (by kernel_rfl)
  fun x y h => (raw158_eq x).trans h
theorem ok74 : FOk Tryz.prog 74 S74 := okB (E := E74) tabOk (GOk.look ⟨⟨ok72, trivial⟩, ⟨ok100, trivial⟩, ⟨ok154, trivial⟩, ⟨ok155, trivial⟩, ⟨ok156, trivial⟩, ⟨ok157, trivial⟩, ⟨ok158, trivial⟩, trivial⟩) Tryz.func74 (by kernel_rfl)
  fun x y h => (raw74_eq x).trans h
theorem ok17 : FOk Tryz.prog 17 S17 := okB (E := E17) tabOk (GOk.look ⟨⟨ok18, trivial⟩, ⟨ok70, trivial⟩, ⟨ok71, trivial⟩, ⟨ok72, trivial⟩, ⟨ok73, trivial⟩, ⟨ok74, trivial⟩, trivial⟩) Tryz.func17 (by kernel_rfl)
  fun x y h => (raw17_eq x).trans h
theorem ok89 : FOk Tryz.prog 89 S89 := okB (E := E89) tabOk (GOk.look trivial) Tryz.func89 (by kernel_rfl)
  fun x y h => (raw89_eq x).trans h
theorem ok25 : FOk Tryz.prog 25 S25 := okB (E := E25) tabOk (GOk.look ⟨⟨ok89, trivial⟩, trivial⟩) Tryz.func25 (by kernel_rfl)
  fun x y h => (raw25_eq x).trans h
theorem ok28 : FOk Tryz.prog 28 S28 := okB (E := E28) tabOk (GOk.look ⟨⟨ok89, trivial⟩, trivial⟩) Tryz.func28 (by kernel_rfl)
  fun x y h => (raw28_eq x).trans h
theorem ok90 : FOk Tryz.prog 90 S90 := okB (E := E90) tabOk (GOk.look ⟨⟨ok25, trivial⟩, trivial⟩) Tryz.func90 (by kernel_rfl)
  fun x y h => (raw90_eq x).trans h
theorem ok91 : FOk Tryz.prog 91 S91 := okB (E := E91) tabOk (GOk.look ⟨⟨ok89, trivial⟩, trivial⟩) Tryz.func91 (by kernel_rfl)
  fun x y h => (raw91_eq x).trans h
theorem ok29 : FOk Tryz.prog 29 S29 := okB (E := E29) tabOk (GOk.look ⟨⟨ok91, trivial⟩, trivial⟩) Tryz.func29 (by kernel_rfl)
  fun x y h => (raw29_eq x).trans h
theorem ok174 : FOk Tryz.prog 174 S174 := okB (E := E174) tabOk (GOk.look ⟨⟨ok28, trivial⟩, ⟨ok29, trivial⟩, trivial⟩) Tryz.func174 (by kernel_rfl)
  fun x y h => (raw174_eq x).trans h
theorem ok92 : FOk Tryz.prog 92 S92 := okB (E := E92) tabOk (GOk.look ⟨⟨ok173, trivial⟩, ⟨ok174, trivial⟩, trivial⟩) Tryz.func92 (by kernel_rfl)
  fun x y h => (raw92_eq x).trans h
theorem ok93 : FOk Tryz.prog 93 S93 := okB (E := E93) tabOk (GOk.look ⟨⟨ok150, trivial⟩, ⟨ok174, trivial⟩, trivial⟩) Tryz.func93 (by kernel_rfl)
  fun x y h => (raw93_eq x).trans h
theorem ok26 : FOk Tryz.prog 26 S26 := okB (E := E26) tabOk (GOk.look ⟨⟨ok25, trivial⟩, ⟨ok28, trivial⟩, ⟨ok71, trivial⟩, ⟨ok90, trivial⟩, ⟨ok91, trivial⟩, ⟨ok92, trivial⟩, ⟨ok93, trivial⟩, trivial⟩) Tryz.func26 (by kernel_rfl)
  fun x y h => (raw26_eq x).trans h
theorem ok103 : FOk Tryz.prog 103 S103 := okB (E := E103) tabOk (GOk.look trivial) Tryz.func103 (by kernel_rfl)
  fun x y h => (raw103_eq x).trans h
theorem ok31 : FOk Tryz.prog 31 S31 := okB (E := E31) tabOk (GOk.look ⟨⟨ok103, trivial⟩, trivial⟩) Tryz.func31 (by kernel_rfl)
  fun x y h => (raw31_eq x).trans h
theorem ok97 : FOk Tryz.prog 97 S97 := okB (E := E97) tabOk (GOk.look ⟨⟨ok91, trivial⟩, trivial⟩) Tryz.func97 (by kernel_rfl)
  fun x y h => (raw97_eq x).trans h
theorem ok178 : FOk Tryz.prog 178 S178 := okB (E := E178) tabOk (GOk.look ⟨⟨ok25, trivial⟩, ⟨ok28, trivial⟩, ⟨ok91, trivial⟩, ⟨ok97, trivial⟩, trivial⟩) Tryz.func178 (by kernel_rfl)
  fun x y h => (raw178_eq x).trans h
theorem ok179 : FOk Tryz.prog 179 S179 := okB (E := E179) tabOk (GOk.look ⟨⟨ok25, trivial⟩, ⟨ok28, trivial⟩, ⟨ok91, trivial⟩, ⟨ok97, trivial⟩, trivial⟩) Tryz.func179 (by kernel_rfl)
  fun x y h => (raw179_eq x).trans h
theorem ok235 : FOk Tryz.prog 235 S235 := okB (E := E235) tabOk (GOk.look ⟨⟨ok204, trivial⟩, trivial⟩) Tryz.func235 (by kernel_rfl)
  fun x y h => (raw235_eq x).trans h
theorem ok219 : FOk Tryz.prog 219 S219 := okB (E := E219) tabOk (GOk.look ⟨⟨ok153, trivial⟩, ⟨ok235, trivial⟩, trivial⟩) Tryz.func219 (by kernel_rfl)
  fun x y h => (raw219_eq x).trans h
theorem ok220 : FOk Tryz.prog 220 S220 := okB (E := E220) tabOk (GOk.look ⟨⟨ok28, trivial⟩, ⟨ok90, trivial⟩, ⟨ok97, trivial⟩, ⟨ok235, trivial⟩, trivial⟩) Tryz.func220 (by kernel_rfl)
  fun x y h => (raw220_eq x).trans h
theorem ok182 : FOk Tryz.prog 182 S182 := okB (E := E182) tabOk (GOk.look ⟨⟨ok97, trivial⟩, ⟨ok219, trivial⟩, ⟨ok220, trivial⟩, trivial⟩) Tryz.func182 (by kernel_rfl)
  fun x y h => (raw182_eq x).trans h
theorem ok180 : FOk Tryz.prog 180 S180 := okB (E := E180) tabOk (GOk.look ⟨⟨ok91, trivial⟩, ⟨ok182, trivial⟩, trivial⟩) Tryz.func180 (by kernel_rfl)
  fun x y h => (raw180_eq x).trans h
theorem ok98 : FOk Tryz.prog 98 S98 := okB (E := E98) tabOk (GOk.look ⟨⟨ok25, trivial⟩, ⟨ok28, trivial⟩, ⟨ok90, trivial⟩, ⟨ok154, trivial⟩, ⟨ok180, trivial⟩, trivial⟩) Tryz.func98 (by kernel_rfl)
  fun x y h => (raw98_eq x).trans h
theorem ok181 : FOk Tryz.prog 181 S181 := okB (E := E181) tabOk (GOk.look ⟨⟨ok28, trivial⟩, ⟨ok91, trivial⟩, ⟨ok98, trivial⟩, trivial⟩) Tryz.func181 (by kernel_rfl)
  fun x y h => (raw181_eq x).trans h
theorem ok95 : FOk Tryz.prog 95 S95 := okB (E := E95) tabOk (GOk.look ⟨⟨ok25, trivial⟩, ⟨ok28, trivial⟩, ⟨ok90, trivial⟩, ⟨ok97, trivial⟩, ⟨ok178, trivial⟩, ⟨ok179, trivial⟩, ⟨ok180, trivial⟩, ⟨ok181, trivial⟩, trivial⟩) Tryz.func95 (by kernel_rfl)
  fun x y h => (raw95_eq x).trans h
theorem ok27 : FOk Tryz.prog 27 S27 := okB (E := E27) tabOk (GOk.look ⟨⟨ok28, trivial⟩, ⟨ok31, trivial⟩, ⟨ok94, trivial⟩, ⟨ok95, trivial⟩, trivial⟩) Tryz.func27 (by kernel_rfl)
  fun x y h => (raw27_eq x).trans h
theorem ok96 : FOk Tryz.prog 96 S96 := okB (E := E96) tabOk (GOk.look ⟨⟨ok28, trivial⟩, trivial⟩) Tryz.func96 (by kernel_rfl)
  fun x y h => (raw96_eq x).trans h
theorem ok96a : FOk Tryz.prog 96 S96a := okB (E := E96a) tabOk (GOk.look ⟨⟨ok28, trivial⟩, trivial⟩) Tryz.func96 (by kernel_rfl)
  fun x y h => (raw96a_eq x).trans h
theorem ok99 : FOk Tryz.prog 99 S99 := okB (E := E99) tabOk (GOk.look ⟨⟨ok91, trivial⟩, ⟨ok182, trivial⟩, trivial⟩) Tryz.func99 (by kernel_rfl)
  fun x y h => (raw99_eq x).trans h
theorem ok101 : FOk Tryz.prog 101 S101 := okB (E := E101) tabOk (GOk.look ⟨⟨ok28, trivial⟩, ⟨ok157, trivial⟩, ⟨ok181, trivial⟩, trivial⟩) Tryz.func101 (by kernel_rfl)
  fun x y h => (raw101_eq x).trans h
theorem ok102 : FOk Tryz.prog 102 S102 := okB (E := E102) tabOk (GOk.look ⟨⟨ok25, trivial⟩, ⟨ok28, trivial⟩, ⟨ok97, trivial⟩, ⟨ok158, trivial⟩, trivial⟩) Tryz.func102 (by kernel_rfl)
  fun x y h => (raw102_eq x).trans h
theorem ok30 : FOk Tryz.prog 30 S30 := okB (E := E30) tabOk (GOk.look ⟨⟨ok90, trivial⟩, ⟨ok91, trivial⟩, ⟨ok96, ok96a, trivial⟩, ⟨ok97, trivial⟩, ⟨ok98, trivial⟩, ⟨ok99, trivial⟩, ⟨ok100, trivial⟩, ⟨ok101, trivial⟩, ⟨ok102, trivial⟩, trivial⟩) Tryz.func30 (by kernel_rfl)
  fun x y h => (raw30_eq x).trans h
theorem ok9 : FOk Tryz.prog 9 S9 := okB (E := E9) tabOk (GOk.look ⟨⟨ok17, trivial⟩, ⟨ok25, trivial⟩, ⟨ok26, trivial⟩, ⟨ok27, trivial⟩, ⟨ok28, trivial⟩, ⟨ok29, trivial⟩, ⟨ok30, trivial⟩, ⟨ok31, trivial⟩, trivial⟩) Tryz.func9 (by kernel_rfl)
  fun x y h => (raw9_eq x).trans h
theorem ok47 : FOk Tryz.prog 47 S47 := okB (E := E47) tabOk (GOk.look ⟨⟨ok103, trivial⟩, trivial⟩) Tryz.func47 (by kernel_rfl)
  fun x y h => (raw47_eq x).trans h
theorem ok126 : FOk Tryz.prog 126 S126 := okB (E := E126) tabOk (GOk.look trivial) Tryz.func126 (by kernel_rfl)
  fun x y h => (raw126_eq x).trans h
theorem ok190 : FOk Tryz.prog 190 S190 := okB (E := E190) tabOk (GOk.look ⟨⟨ok126, trivial⟩, trivial⟩) Tryz.func190 (by kernel_rfl)
  fun x y h => (raw190_eq x).trans h
theorem ok120 : FOk Tryz.prog 120 S120 := okB (E := E120) tabOk (GOk.look ⟨⟨ok190, trivial⟩, trivial⟩) Tryz.func120 (by kernel_rfl)
  fun x y h => (raw120_eq x).trans h
theorem ok48 : FOk Tryz.prog 48 S48 := okB (E := E48) tabOk (GOk.look ⟨⟨ok120, trivial⟩, trivial⟩) Tryz.func48 (by kernel_rfl)
  fun x y h => (raw48_eq x).trans h
theorem ok50 : FOk Tryz.prog 50 S50 := okB (E := E50) tabOk (GOk.look ⟨⟨ok120, trivial⟩, trivial⟩) Tryz.func50 (by kernel_rfl)
  fun x y h => (raw50_eq x).trans h
theorem ok121 : FOk Tryz.prog 121 S121 := okB (E := E121) tabOk (GOk.look ⟨⟨ok48, trivial⟩, ⟨ok126, trivial⟩, trivial⟩) Tryz.func121 (by kernel_rfl)
  fun x y h => (raw121_eq x).trans h
theorem ok191 : FOk Tryz.prog 191 S191 := okB (E := E191) tabOk (GOk.look trivial) Tryz.func191 (by kernel_rfl)
  fun x y h => (raw191_eq x).trans h
theorem ok122 : FOk Tryz.prog 122 S122 := okB (E := E122) tabOk (GOk.look ⟨⟨ok120, trivial⟩, ⟨ok126, trivial⟩, ⟨ok191, trivial⟩, trivial⟩) Tryz.func122 (by kernel_rfl)
  fun x y h => (raw122_eq x).trans h
theorem ok125 : FOk Tryz.prog 125 S125 := okB (E := E125) tabOk (GOk.look trivial) Tryz.func125 (by kernel_rfl)
  fun x y h => (raw125_eq x).trans h
theorem ok129 : FOk Tryz.prog 129 S129 := okB (E := E129) tabOk (GOk.look ⟨⟨ok122, trivial⟩, ⟨ok190, trivial⟩, trivial⟩) Tryz.func129 (by kernel_rfl)
  fun x y h => (raw129_eq x).trans h
theorem ok123 : FOk Tryz.prog 123 S123 := okB (E := E123) tabOk (GOk.look ⟨⟨ok50, trivial⟩, ⟨ok125, trivial⟩, ⟨ok126, trivial⟩, ⟨ok129, trivial⟩, ⟨ok173, trivial⟩, trivial⟩) Tryz.func123 (by kernel_rfl)
  fun x y h => (raw123_eq x).trans h
theorem ok124 : FOk Tryz.prog 124 S124 := okB (E := E124) tabOk (GOk.look ⟨⟨ok50, trivial⟩, ⟨ok125, trivial⟩, ⟨ok126, trivial⟩, ⟨ok129, trivial⟩, ⟨ok150, trivial⟩, trivial⟩) Tryz.func124 (by kernel_rfl)
  fun x y h => (raw124_eq x).trans h
theorem ok49 : FOk Tryz.prog 49 S49 := okB (E := E49) tabOk (GOk.look ⟨⟨ok48, trivial⟩, ⟨ok50, trivial⟩, ⟨ok71, trivial⟩, ⟨ok121, trivial⟩, ⟨ok122, trivial⟩, ⟨ok123, trivial⟩, ⟨ok124, trivial⟩, ⟨ok125, trivial⟩, ⟨ok126, trivial⟩, trivial⟩) Tryz.func49 (by kernel_rfl)
  fun x y h => (raw49_eq x).trans h
theorem ok127 : FOk Tryz.prog 127 S127 := okB (E := E127) tabOk (GOk.look ⟨⟨ok50, trivial⟩, trivial⟩) Tryz.func127 (by kernel_rfl)
  fun x y h => (raw127_eq x).trans h
theorem ok127a : FOk Tryz.prog 127 S127a := okB (E := E127a) tabOk (GOk.look ⟨⟨ok50, trivial⟩, trivial⟩) Tryz.func127 (by kernel_rfl)
  fun x y h => (raw127a_eq x).trans h
theorem ok52 : FOk Tryz.prog 52 S52 := okB (E := E52) tabOk (GOk.look trivial) Tryz.func52 (by kernel_rfl)
  fun x y h => (raw52_eq x).trans h
theorem ok130 : FOk Tryz.prog 130 S130 := okB (E := E130) tabOk (GOk.look ⟨⟨ok122, trivial⟩, ⟨ok190, trivial⟩, trivial⟩) Tryz.func130 (by kernel_rfl)
  fun x y h => (raw130_eq x).trans h
theorem ok225 : FOk Tryz.prog 225 S225 := okB (E := E225) tabOk (GOk.look ⟨⟨ok50, trivial⟩, ⟨ok121, trivial⟩, ⟨ok125, trivial⟩, ⟨ok126, trivial⟩, ⟨ok130, trivial⟩, ⟨ok235, trivial⟩, trivial⟩) Tryz.func225 (by kernel_rfl)
  fun x y h => (raw225_eq x).trans h
theorem ok194 : FOk Tryz.prog 194 S194 := okB (E := E194) tabOk (GOk.look ⟨⟨ok125, trivial⟩, ⟨ok126, trivial⟩, ⟨ok130, trivial⟩, ⟨ok219, trivial⟩, ⟨ok225, trivial⟩, trivial⟩) Tryz.func194 (by kernel_rfl)
  fun x y h => (raw194_eq x).trans h
theorem ok193 : FOk Tryz.prog 193 S193 := okB (E := E193) tabOk (GOk.look ⟨⟨ok122, trivial⟩, ⟨ok194, trivial⟩, trivial⟩) Tryz.func193 (by kernel_rfl)
  fun x y h => (raw193_eq x).trans h
theorem ok131 : FOk Tryz.prog 131 S131 := okB (E := E131) tabOk (GOk.look ⟨⟨ok48, trivial⟩, ⟨ok50, trivial⟩, ⟨ok121, trivial⟩, ⟨ok125, trivial⟩, ⟨ok126, trivial⟩, ⟨ok154, trivial⟩, ⟨ok193, trivial⟩, trivial⟩) Tryz.func131 (by kernel_rfl)
  fun x y h => (raw131_eq x).trans h
theorem ok195 : FOk Tryz.prog 195 S195 := okB (E := E195) tabOk (GOk.look ⟨⟨ok50, trivial⟩, ⟨ok122, trivial⟩, ⟨ok131, trivial⟩, trivial⟩) Tryz.func195 (by kernel_rfl)
  fun x y h => (raw195_eq x).trans h
theorem ok223 : FOk Tryz.prog 223 S223 := okB (E := E223) tabOk (GOk.look ⟨⟨ok48, trivial⟩, ⟨ok50, trivial⟩, ⟨ok122, trivial⟩, ⟨ok130, trivial⟩, trivial⟩) Tryz.func223 (by kernel_rfl)
  fun x y h => (raw223_eq x).trans h
theorem ok224 : FOk Tryz.prog 224 S224 := okB (E := E224) tabOk (GOk.look ⟨⟨ok48, trivial⟩, ⟨ok50, trivial⟩, ⟨ok122, trivial⟩, ⟨ok130, trivial⟩, trivial⟩) Tryz.func224 (by kernel_rfl)
  fun x y h => (raw224_eq x).trans h
theorem ok192 : FOk Tryz.prog 192 S192 := okB (E := E192) tabOk (GOk.look ⟨⟨ok48, trivial⟩, ⟨ok50, trivial⟩, ⟨ok121, trivial⟩, ⟨ok130, trivial⟩, ⟨ok193, trivial⟩, ⟨ok195, trivial⟩, ⟨ok223, trivial⟩, ⟨ok224, trivial⟩, trivial⟩) Tryz.func192 (by kernel_rfl)
  fun x y h => (raw192_eq x).trans h
theorem ok128 : FOk Tryz.prog 128 S128 := okB (E := E128) tabOk (GOk.look ⟨⟨ok47, trivial⟩, ⟨ok50, trivial⟩, ⟨ok52, trivial⟩, ⟨ok94, trivial⟩, ⟨ok192, trivial⟩, trivial⟩) Tryz.func128 (by kernel_rfl)
  fun x y h => (raw128_eq x).trans h
theorem ok132 : FOk Tryz.prog 132 S132 := okB (E := E132) tabOk (GOk.look ⟨⟨ok122, trivial⟩, ⟨ok194, trivial⟩, trivial⟩) Tryz.func132 (by kernel_rfl)
  fun x y h => (raw132_eq x).trans h
theorem ok133 : FOk Tryz.prog 133 S133 := okB (E := E133) tabOk (GOk.look ⟨⟨ok50, trivial⟩, ⟨ok125, trivial⟩, ⟨ok126, trivial⟩, ⟨ok157, trivial⟩, ⟨ok195, trivial⟩, trivial⟩) Tryz.func133 (by kernel_rfl)
  fun x y h => (raw133_eq x).trans h
theorem ok134 : FOk Tryz.prog 134 S134 := okB (E := E134) tabOk (GOk.look ⟨⟨ok48, trivial⟩, ⟨ok50, trivial⟩, ⟨ok125, trivial⟩, ⟨ok126, trivial⟩, ⟨ok130, trivial⟩, ⟨ok158, trivial⟩, trivial⟩) Tryz.func134 (by kernel_rfl)
  fun x y h => (raw134_eq x).trans h
theorem ok51 : FOk Tryz.prog 51 S51 := okB (E := E51) tabOk (GOk.look ⟨⟨ok50, trivial⟩, ⟨ok121, trivial⟩, ⟨ok122, trivial⟩, ⟨ok126, trivial⟩, ⟨ok127, ok127a, trivial⟩, ⟨ok128, trivial⟩, ⟨ok129, trivial⟩, ⟨ok130, trivial⟩, ⟨ok131, trivial⟩, ⟨ok132, trivial⟩, ⟨ok133, trivial⟩, ⟨ok134, trivial⟩, trivial⟩) Tryz.func51 (by kernel_rfl)
  fun x y h => (raw51_eq x).trans h
theorem ok13 : FOk Tryz.prog 13 S13 := okB (E := E13) tabOk (GOk.look ⟨⟨ok17, trivial⟩, ⟨ok47, trivial⟩, ⟨ok48, trivial⟩, ⟨ok49, trivial⟩, ⟨ok50, trivial⟩, ⟨ok51, trivial⟩, ⟨ok52, trivial⟩, trivial⟩) Tryz.func13 (by kernel_rfl)
  fun x y h => (raw13_eq x).trans h
theorem ok7 : FOk Tryz.prog 7 S7 := okB (E := E7) tabOk (GOk.look ⟨⟨ok9, trivial⟩, ⟨ok13, trivial⟩, ⟨ok17, trivial⟩, ⟨ok18, trivial⟩, trivial⟩) Tryz.func7 (by kernel_rfl)
  fun x y h => (raw7_eq x).trans h
theorem ok23 : FOk Tryz.prog 23 S23 := okB (E := E23) tabOk (GOk.look trivial) Tryz.func23 (by kernel_rfl)
  fun x y h => (raw23_eq x).trans h
theorem ok88 : FOk Tryz.prog 88 S88 := okB (E := E88) tabOk (GOk.look trivial) Tryz.func88 (by kernel_rfl)
  fun x y h => (raw88_eq x).trans h
theorem ok24 : FOk Tryz.prog 24 S24 := okB (E := E24) tabOk (GOk.look ⟨⟨ok88, trivial⟩, trivial⟩) Tryz.func24 (by kernel_rfl)
  fun x y h => (raw24_eq x).trans h
theorem ok8 : FOk Tryz.prog 8 S8 := okB (E := E8) tabOk (GOk.look ⟨⟨ok23, trivial⟩, ⟨ok24, trivial⟩, trivial⟩) Tryz.func8 (by kernel_rfl)
  fun x y h => (raw8_eq x).trans h
theorem ok32 : FOk Tryz.prog 32 S32 := okB (E := E32) tabOk (GOk.look trivial) Tryz.func32 (by kernel_rfl)
  fun x y h => (raw32_eq x).trans h
theorem ok10 : FOk Tryz.prog 10 S10 := okB (E := E10) tabOk (GOk.look ⟨⟨ok32, trivial⟩, trivial⟩) Tryz.func10 (by kernel_rfl)
  fun x y h => (raw10_eq x).trans h
theorem ok198 : FOk Tryz.prog 198 S198 := okB (E := E198) tabOk (GOk.look trivial) Tryz.func198 (by kernel_rfl)
  fun x y h => (raw198_eq x).trans h
theorem ok140 : FOk Tryz.prog 140 S140 := okB (E := E140) tabOk (GOk.look ⟨⟨ok198, trivial⟩, trivial⟩) Tryz.func140 (by kernel_rfl)
  fun x y h => (raw140_eq x).trans h
theorem ok141 : FOk Tryz.prog 141 S141 := okB (E := E141) tabOk (GOk.look trivial) Tryz.func141 (by kernel_rfl)
  fun x y h => (raw141_eq x).trans h
theorem ok63 : FOk Tryz.prog 63 S63 := okB (E := E63) tabOk (GOk.look ⟨⟨ok140, trivial⟩, ⟨ok141, trivial⟩, trivial⟩) Tryz.func63 (by kernel_rfl)
  fun x y h => (raw63_eq x).trans h
theorem ok67 : FOk Tryz.prog 67 S67 := okB (E := E67) tabOk (GOk.look trivial) Tryz.func67 (by kernel_rfl)
  fun x y h => (raw67_eq x).trans h
theorem ok142 : FOk Tryz.prog 142 S142 := okB (E := E142) tabOk (GOk.look trivial) Tryz.func142 (by kernel_rfl)
  fun x y h => (raw142_eq x).trans h
theorem ok143 : FOk Tryz.prog 143 S143 := okB (E := E143) tabOk (GOk.look trivial) Tryz.func143 (by kernel_rfl)
  fun x y h => (raw143_eq x).trans h
theorem ok65 : FOk Tryz.prog 65 S65 := okB (E := E65) tabOk (GOk.look ⟨⟨ok67, trivial⟩, trivial⟩) Tryz.func65 (by kernel_rfl)
  fun x y h => (raw65_eq x).trans h
theorem ok144 : FOk Tryz.prog 144 S144 := okB (E := E144) tabOk (GOk.look ⟨⟨ok65, trivial⟩, trivial⟩) Tryz.func144 (by kernel_rfl)
  fun x y h => (raw144_eq x).trans h
theorem ok145 : FOk Tryz.prog 145 S145 := okB (E := E145) tabOk (GOk.look trivial) Tryz.func145 (by kernel_rfl)
  fun x y h => (raw145_eq x).trans h
theorem ok64 : FOk Tryz.prog 64 S64 := okB (E := E64) tabOk (GOk.look ⟨⟨ok67, trivial⟩, ⟨ok142, trivial⟩, ⟨ok143, trivial⟩, ⟨ok144, trivial⟩, ⟨ok145, trivial⟩, trivial⟩) Tryz.func64 (by kernel_rfl)
  fun x y h => (raw64_eq x).trans h
theorem ok66 : FOk Tryz.prog 66 S66 := okB (E := E66) tabOk (GOk.look ⟨⟨ok67, trivial⟩, trivial⟩) Tryz.func66 (by kernel_rfl)
  fun x y h => (raw66_eq x).trans h
theorem ok68 : FOk Tryz.prog 68 S68 := okB (E := E68) tabOk (GOk.look ⟨⟨ok144, trivial⟩, ⟨ok145, trivial⟩, trivial⟩) Tryz.func68 (by kernel_rfl)
  fun x y h => (raw68_eq x).trans h
theorem ok15 : FOk Tryz.prog 15 S15 := okB (E := E15) tabOk (GOk.look ⟨⟨ok63, trivial⟩, ⟨ok64, trivial⟩, ⟨ok65, trivial⟩, ⟨ok66, trivial⟩, ⟨ok67, trivial⟩, ⟨ok68, trivial⟩, trivial⟩) Tryz.func15 (by kernel_rfl)
  fun x y h => (raw15_eq x).trans h
theorem ok33 : FOk Tryz.prog 33 S33 := okB (E := E33) tabOk (GOk.look trivial) Tryz.func33 (by kernel_rfl)
  fun x y h => (raw33_eq x).trans h
theorem ok104 : FOk Tryz.prog 104 S104 := okB (E := E104) tabOk (GOk.look trivial) Tryz.func104 (by kernel_rfl)
  fun x y h => (raw104_eq x).trans h
theorem ok105 : FOk Tryz.prog 105 S105 := okB (E := E105) tabOk (GOk.look trivial) Tryz.func105 (by kernel_rfl)
  fun x y h => hand105 x y h
theorem ok184 : FOk Tryz.prog 184 S184 := okB (E := E184) tabOk (GOk.look trivial) Tryz.func184 (by kernel_rfl)
  fun x y h => (raw184_eq x).trans h
theorem ok183 : FOk Tryz.prog 183 S183 := okB (E := E183) tabOk (GOk.look ⟨⟨ok184, trivial⟩, trivial⟩) Tryz.func183 (by kernel_rfl)
  fun x y h => (raw183_eq x).trans h
theorem ok106 : FOk Tryz.prog 106 S106 := okB (E := E106) tabOk (GOk.look ⟨⟨ok183, trivial⟩, trivial⟩) Tryz.func106 (by kernel_rfl)
  fun x y h => (raw106_eq x).trans h
theorem ok107 : FOk Tryz.prog 107 S107 := okB (E := E107) tabOk (GOk.look ⟨⟨ok184, trivial⟩, trivial⟩) Tryz.func107 (by kernel_rfl)
  fun x y h => (raw107_eq x).trans h
theorem ok34 : FOk Tryz.prog 34 S34 := okB (E := E34) tabOk (GOk.look ⟨⟨ok104, trivial⟩, ⟨ok105, trivial⟩, ⟨ok106, trivial⟩, ⟨ok107, trivial⟩, trivial⟩) Tryz.func34 (by kernel_rfl)
  fun x y h => (raw34_eq x).trans h
theorem ok35 : FOk Tryz.prog 35 S35 := okB (E := E35) tabOk (GOk.look trivial) Tryz.func35 (by kernel_rfl)
  fun x y h => (raw35_eq x).trans h
theorem ok111 : FOk Tryz.prog 111 S111 := okB (E := E111) tabOk (GOk.look trivial) Tryz.func111 (by kernel_rfl)
  fun x y h => (raw111_eq x).trans h
theorem ok39 : FOk Tryz.prog 39 S39 := okB (E := E39) tabOk (GOk.look ⟨⟨ok111, trivial⟩, trivial⟩) Tryz.func39 (by kernel_rfl)
  fun x y h => (raw39_eq x).trans h
theorem ok37 : FOk Tryz.prog 37 S37 := okB (E := E37) tabOk (GOk.look ⟨⟨ok39, trivial⟩, ⟨ok111, trivial⟩, trivial⟩) Tryz.func37 (by kernel_rfl)
  fun x y h => (raw37_eq x).trans h
theorem ok38 : FOk Tryz.prog 38 S38 := okB (E := E38) tabOk (GOk.look ⟨⟨ok39, trivial⟩, trivial⟩) Tryz.func38 (by kernel_rfl)
  fun x y h => (raw38_eq x).trans h
theorem ok109 : FOk Tryz.prog 109 S109 := okB (E := E109) tabOk (GOk.look trivial) Tryz.func109 (by kernel_rfl)
  fun x y h => (raw109_eq x).trans h
theorem ok110 : FOk Tryz.prog 110 S110 := okB (E := E110) tabOk (GOk.look ⟨⟨ok109, trivial⟩, trivial⟩) Tryz.func110 (by kernel_rfl)
  fun x y h => (raw110_eq x).trans h
theorem ok113 : FOk Tryz.prog 113 S113 := okB (E := E113) tabOk (GOk.look ⟨⟨ok109, trivial⟩, trivial⟩) Tryz.func113 (by kernel_rfl)
  fun x y h => (raw113_eq x).trans h
theorem ok112 : FOk Tryz.prog 112 S112 := okB (E := E112) tabOk (GOk.look trivial) Tryz.func112 (by kernel_rfl)
  fun x y h => (raw112_eq x).trans h
theorem ok40 : FOk Tryz.prog 40 S40 := okB (E := E40) tabOk (GOk.look ⟨⟨ok39, trivial⟩, ⟨ok109, trivial⟩, ⟨ok112, trivial⟩, ⟨ok113, trivial⟩, trivial⟩) Tryz.func40 (by kernel_rfl)
  fun x y h => (raw40_eq x).trans h
theorem ok114 : FOk Tryz.prog 114 S114 := okB (E := E114) tabOk (GOk.look ⟨⟨ok40, trivial⟩, ⟨ok109, trivial⟩, ⟨ok110, trivial⟩, trivial⟩) Tryz.func114 (by kernel_rfl)
  fun x y h => (raw114_eq x).trans h
theorem ok115 : FOk Tryz.prog 115 S115 := okB (E := E115) tabOk (GOk.look ⟨⟨ok109, trivial⟩, ⟨ok110, trivial⟩, trivial⟩) Tryz.func115 (by kernel_rfl)
  fun x y h => (raw115_eq x).trans h
theorem ok185 : FOk Tryz.prog 185 S185 := okB (E := E185) tabOk (GOk.look trivial) Tryz.func185 (by kernel_rfl)
  fun x y h => hand185 x y h
theorem ok186 : FOk Tryz.prog 186 S186 := okB (E := E186) tabOk (GOk.look ⟨⟨ok39, trivial⟩, ⟨ok109, trivial⟩, trivial⟩) Tryz.func186 (by kernel_rfl)
  fun x y h => (raw186_eq x).trans h
theorem ok221 : FOk Tryz.prog 221 S221 := okB (E := E221) tabOk (GOk.look ⟨⟨ok37, trivial⟩, ⟨ok39, trivial⟩, ⟨ok113, trivial⟩, trivial⟩) Tryz.func221 (by kernel_rfl)
  fun x y h => (raw221_eq x).trans h
theorem ok236 : FOk Tryz.prog 236 S236 := okB (E := E236) tabOk (GOk.look ⟨⟨ok37, trivial⟩, ⟨ok39, trivial⟩, trivial⟩) Tryz.func236 (by kernel_rfl)
  fun x y h => (raw236_eq x).trans h
theorem ok222 : FOk Tryz.prog 222 S222 := okB (E := E222) tabOk (GOk.look ⟨⟨ok236, trivial⟩, trivial⟩) Tryz.func222 (by kernel_rfl)
  fun x y h => (raw222_eq x).trans h
theorem ok187 : FOk Tryz.prog 187 S187 := okB (E := E187) tabOk (GOk.look ⟨⟨ok221, trivial⟩, ⟨ok222, trivial⟩, trivial⟩) Tryz.func187 (by kernel_rfl)
  fun x y h => (raw187_eq x).trans h
theorem ok188 : FOk Tryz.prog 188 S188 := okB (E := E188) tabOk (GOk.look ⟨⟨ok39, trivial⟩, ⟨ok112, trivial⟩, trivial⟩) Tryz.func188 (by kernel_rfl)
  fun x y h => (raw188_eq x).trans h
theorem ok189 : FOk Tryz.prog 189 S189 := okB (E := E189) tabOk (GOk.look ⟨⟨ok39, trivial⟩, ⟨ok110, trivial⟩, ⟨ok112, trivial⟩, trivial⟩) Tryz.func189 (by kernel_rfl)
  fun x y h => (raw189_eq x).trans h
theorem ok108 : FOk Tryz.prog 108 S108 := okB (E := E108) tabOk (GOk.look ⟨⟨ok37, trivial⟩, ⟨ok38, trivial⟩, ⟨ok39, trivial⟩, ⟨ok109, trivial⟩, ⟨ok110, trivial⟩, ⟨ok113, trivial⟩, ⟨ok114, trivial⟩, ⟨ok115, trivial⟩, ⟨ok185, trivial⟩, ⟨ok186, trivial⟩, ⟨ok187, trivial⟩, ⟨ok188, trivial⟩, ⟨ok189, trivial⟩, trivial⟩) Tryz.func108 (by kernel_rfl)
  fun x y h => (raw108_eq x).trans h
theorem ok36 : FOk Tryz.prog 36 S36 := okB (E := E36) tabOk (GOk.look ⟨⟨ok108, trivial⟩, ⟨ok109, trivial⟩, ⟨ok110, trivial⟩, trivial⟩) Tryz.func36 (by kernel_rfl)
  fun x y h => (raw36_eq x).trans h
theorem ok42 : FOk Tryz.prog 42 S42 := okB (E := E42) tabOk (GOk.look ⟨⟨ok39, trivial⟩, ⟨ok112, trivial⟩, trivial⟩) Tryz.func42 (by kernel_rfl)
  fun x y h => (raw42_eq x).trans h
theorem ok41 : FOk Tryz.prog 41 S41 := okB (E := E41) tabOk (GOk.look ⟨⟨ok35, trivial⟩, ⟨ok42, trivial⟩, trivial⟩) Tryz.func41 (by kernel_rfl)
  fun x y h => (raw41_eq x).trans h
theorem ok43 : FOk Tryz.prog 43 S43 := okB (E := E43) tabOk (GOk.look ⟨⟨ok68, trivial⟩, trivial⟩) Tryz.func43 (by kernel_rfl)
  fun x y h => (raw43_eq x).trans h
theorem ok44 : FOk Tryz.prog 44 S44 := okB (E := E44) tabOk (GOk.look ⟨⟨ok110, trivial⟩, ⟨ok113, trivial⟩, ⟨ok114, trivial⟩, ⟨ok115, trivial⟩, trivial⟩) Tryz.func44 (by kernel_rfl)
  fun x y h => (raw44_eq x).trans h
theorem ok45 : FOk Tryz.prog 45 S45 := okB (E := E45) tabOk (GOk.look ⟨⟨ok38, trivial⟩, ⟨ok39, trivial⟩, ⟨ok109, trivial⟩, ⟨ok113, trivial⟩, trivial⟩) Tryz.func45 (by kernel_rfl)
  fun x y h => (raw45_eq x).trans h
theorem ok11 : FOk Tryz.prog 11 S11 := okB (E := E11) tabOk (GOk.look ⟨⟨ok15, trivial⟩, ⟨ok33, trivial⟩, ⟨ok34, trivial⟩, ⟨ok35, trivial⟩, ⟨ok36, trivial⟩, ⟨ok37, trivial⟩, ⟨ok38, trivial⟩, ⟨ok39, trivial⟩, ⟨ok40, trivial⟩, ⟨ok41, trivial⟩, ⟨ok42, trivial⟩, ⟨ok43, trivial⟩, ⟨ok44, trivial⟩, ⟨ok45, trivial⟩, trivial⟩) Tryz.func11 (by kernel_rfl)
  fun x y h => (raw11_eq x).trans h
theorem ok138 : FOk Tryz.prog 138 S138 := okB (E := E138) tabOk (GOk.look trivial) Tryz.func138 (by kernel_rfl)
  fun x y h => (raw138_eq x).trans h
theorem ok135 : FOk Tryz.prog 135 S135 := okB (E := E135) tabOk (GOk.look ⟨⟨ok138, trivial⟩, trivial⟩) Tryz.func135 (by kernel_rfl)
  fun x y h => (raw135_eq x).trans h
theorem ok55 : FOk Tryz.prog 55 S55 := okB (E := E55) tabOk (GOk.look ⟨⟨ok135, trivial⟩, trivial⟩) Tryz.func55 (by kernel_rfl)
  fun x y h => (raw55_eq x).trans h
theorem ok58 : FOk Tryz.prog 58 S58 := okB (E := E58) tabOk (GOk.look ⟨⟨ok138, trivial⟩, trivial⟩) Tryz.func58 (by kernel_rfl)
  fun x y h => (raw58_eq x).trans h
theorem ok56 : FOk Tryz.prog 56 S56 := okB (E := E56) tabOk (GOk.look ⟨⟨ok58, trivial⟩, trivial⟩) Tryz.func56 (by kernel_rfl)
  fun x y h => (raw56_eq x).trans h
theorem ok60 : FOk Tryz.prog 60 S60 := okB (E := E60) tabOk (GOk.look trivial) Tryz.func60 (by kernel_rfl)
  fun x y h => (raw60_eq x).trans h
theorem ok116 : FOk Tryz.prog 116 S116 := okB (E := E116) tabOk (GOk.look trivial) Tryz.func116 (by kernel_rfl)
  fun x y h => (raw116_eq x).trans h
theorem ok117 : FOk Tryz.prog 117 S117 := okB (E := E117) tabOk (GOk.look ⟨⟨ok55, trivial⟩, ⟨ok56, trivial⟩, ⟨ok58, trivial⟩, ⟨ok116, trivial⟩, trivial⟩) Tryz.func117 (by kernel_rfl)
  fun x y h => (raw117_eq x).trans h
theorem ok197 : FOk Tryz.prog 197 S197 := okB (E := E197) tabOk (GOk.look ⟨⟨ok55, trivial⟩, ⟨ok56, trivial⟩, ⟨ok60, trivial⟩, ⟨ok112, trivial⟩, ⟨ok116, trivial⟩, trivial⟩) Tryz.func197 (by kernel_rfl)
  fun x y h => (raw197_eq x).trans h
theorem ok139 : FOk Tryz.prog 139 S139 := okB (E := E139) tabOk (GOk.look ⟨⟨ok39, trivial⟩, ⟨ok56, trivial⟩, ⟨ok112, trivial⟩, ⟨ok116, trivial⟩, ⟨ok197, trivial⟩, trivial⟩) Tryz.func139 (by kernel_rfl)
  fun x y h => (raw139_eq x).trans h
theorem ok118 : FOk Tryz.prog 118 S118 := okB (E := E118) tabOk (GOk.look ⟨⟨ok58, trivial⟩, ⟨ok139, trivial⟩, trivial⟩) Tryz.func118 (by kernel_rfl)
  fun x y h => (raw118_eq x).trans h
theorem ok57 : FOk Tryz.prog 57 S57 := okB (E := E57) tabOk (GOk.look ⟨⟨ok40, trivial⟩, ⟨ok55, trivial⟩, ⟨ok60, trivial⟩, ⟨ok116, trivial⟩, ⟨ok118, trivial⟩, trivial⟩) Tryz.func57 (by kernel_rfl)
  fun x y h => (raw57_eq x).trans h
theorem ok119 : FOk Tryz.prog 119 S119 := okB (E := E119) tabOk (GOk.look ⟨⟨ok55, trivial⟩, ⟨ok57, trivial⟩, ⟨ok58, trivial⟩, ⟨ok116, trivial⟩, trivial⟩) Tryz.func119 (by kernel_rfl)
  fun x y h => (raw119_eq x).trans h
theorem ok46 : FOk Tryz.prog 46 S46 := okB (E := E46) tabOk (GOk.look ⟨⟨ok55, trivial⟩, ⟨ok56, trivial⟩, ⟨ok58, trivial⟩, ⟨ok60, trivial⟩, ⟨ok116, trivial⟩, ⟨ok117, trivial⟩, ⟨ok118, trivial⟩, ⟨ok119, trivial⟩, trivial⟩) Tryz.func46 (by kernel_rfl)
  fun x y h => (raw46_eq x).trans h
theorem ok53 : FOk Tryz.prog 53 S53 := okB (E := E53) tabOk (GOk.look trivial) Tryz.func53 (by kernel_rfl)
  fun x y h => (raw53_eq x).trans h
theorem ok196 : FOk Tryz.prog 196 S196 := okB (E := E196) tabOk (GOk.look ⟨⟨ok56, trivial⟩, ⟨ok135, trivial⟩, trivial⟩) Tryz.func196 (by kernel_rfl)
  fun x y h => (raw196_eq x).trans h
theorem ok136 : FOk Tryz.prog 136 S136 := okB (E := E136) tabOk (GOk.look ⟨⟨ok183, trivial⟩, ⟨ok196, trivial⟩, trivial⟩) Tryz.func136 (by kernel_rfl)
  fun x y h => (raw136_eq x).trans h
theorem ok137 : FOk Tryz.prog 137 S137 := okB (E := E137) tabOk (GOk.look ⟨⟨ok107, trivial⟩, ⟨ok196, trivial⟩, trivial⟩) Tryz.func137 (by kernel_rfl)
  fun x y h => (raw137_eq x).trans h
theorem ok54 : FOk Tryz.prog 54 S54 := okB (E := E54) tabOk (GOk.look ⟨⟨ok34, trivial⟩, ⟨ok58, trivial⟩, ⟨ok60, trivial⟩, ⟨ok135, trivial⟩, ⟨ok136, trivial⟩, ⟨ok137, trivial⟩, trivial⟩) Tryz.func54 (by kernel_rfl)
  fun x y h => (raw54_eq x).trans h
theorem ok59 : FOk Tryz.prog 59 S59 := okB (E := E59) tabOk (GOk.look ⟨⟨ok58, trivial⟩, ⟨ok139, trivial⟩, trivial⟩) Tryz.func59 (by kernel_rfl)
  fun x y h => (raw59_eq x).trans h
theorem ok61 : FOk Tryz.prog 61 S61 := okB (E := E61) tabOk (GOk.look ⟨⟨ok44, trivial⟩, ⟨ok55, trivial⟩, ⟨ok116, trivial⟩, ⟨ok119, trivial⟩, trivial⟩) Tryz.func61 (by kernel_rfl)
  fun x y h => (raw61_eq x).trans h
theorem ok62 : FOk Tryz.prog 62 S62 := okB (E := E62) tabOk (GOk.look ⟨⟨ok45, trivial⟩, ⟨ok55, trivial⟩, ⟨ok56, trivial⟩, ⟨ok116, trivial⟩, trivial⟩) Tryz.func62 (by kernel_rfl)
  fun x y h => (raw62_eq x).trans h
theorem ok14 : FOk Tryz.prog 14 S14 := okB (E := E14) tabOk (GOk.look ⟨⟨ok43, trivial⟩, ⟨ok46, trivial⟩, ⟨ok53, trivial⟩, ⟨ok54, trivial⟩, ⟨ok55, trivial⟩, ⟨ok56, trivial⟩, ⟨ok57, trivial⟩, ⟨ok58, trivial⟩, ⟨ok59, trivial⟩, ⟨ok60, trivial⟩, ⟨ok61, trivial⟩, ⟨ok62, trivial⟩, trivial⟩) Tryz.func14 (by kernel_rfl)
  fun x y h => (raw14_eq x).trans h
theorem ok12 : FOk Tryz.prog 12 S12 := okB (E := E12) tabOk (GOk.look ⟨⟨ok14, trivial⟩, ⟨ok46, trivial⟩, trivial⟩) Tryz.func12 (by kernel_rfl)
  fun x y h => (raw12_eq x).trans h
theorem ok69 : FOk Tryz.prog 69 S69 := okB (E := E69) tabOk (GOk.look trivial) Tryz.func69 (by kernel_rfl)
  fun x y h => (raw69_eq x).trans h
theorem ok16 : FOk Tryz.prog 16 S16 := okB (E := E16) tabOk (GOk.look ⟨⟨ok69, trivial⟩, trivial⟩) Tryz.func16 (by kernel_rfl)
  fun x y h => (raw16_eq x).trans h
theorem ok3 : FOk Tryz.prog 3 S3 := okB (E := E3) tabOk (GOk.look ⟨⟨ok7, trivial⟩, ⟨ok8, trivial⟩, ⟨ok9, trivial⟩, ⟨ok10, trivial⟩, ⟨ok11, trivial⟩, ⟨ok12, trivial⟩, ⟨ok13, trivial⟩, ⟨ok14, trivial⟩, ⟨ok15, trivial⟩, ⟨ok16, trivial⟩, trivial⟩) Tryz.func3 (by kernel_rfl)
  fun x y h => (raw3_eq x).trans h
end Go.Proofs.YteebpcpkhojfkaaGreat
