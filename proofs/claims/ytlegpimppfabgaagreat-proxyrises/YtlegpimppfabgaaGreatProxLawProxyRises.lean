/- The law ProxyRises: for every input it returns true,and its arguments read as they did. -/
import Derived.Test.YtlegpimppfabgaaGreatProxLawI
namespace Go.Proofs.YtlegpimppfabgaaGreat
open Go.Sx Go Go.ChangeShapes Go.WideShapes Go.ChangeAt Go.RowKit
theorem proxyRises_own:ownKnob Tryz.prog.godebug=none:=by kernel_rfl
theorem proxyRises_laid:laidOutB Tryz.prog=true:=by kernel_rfl
set_option maxRecDepth 100000 in
theorem proxyRises_calls {H:Type} {enc:TypeId×Value→H} {W:World} {base:Nat} {args:Array Value} {ds gs:List (DataW H)} {before:List MemPlace} (hval:∀ (j:Nat) (t:TypeId) (v:Value),Tryz.f3.params[j]? = some t→args[j]? = some v→Value.okWide Tryz.prog W .any base t v)
  (hW:DataW.Whole enc Tryz.prog Tryz.f3.params.toList Rows.proxyRisesSpec.vars false W args.toList ds gs before) (hz:(DataW.weightsEach Tryz.prog (Tryz.f3.params.toList++Rows.proxyRisesSpec.plain.varTypes Tryz.prog) (ds++gs)).all (· ≤ reachBytes)=true) :
  Calls Tryz.prog 3 args W fun e W'=>∃ v,e=.returned v∧Rows.proxyRisesSpec.post enc Tryz.prog Tryz.f3 false true false false W args v W':=
 Z8 (s:=Rows.proxyRisesSpec) (tb:=4) (tys:=[Y24,(.int .i64),(.slice Y70)]) (F:=F3) zdu (by kernel_rfl) (by kernel_rfl) ok3 proxyRises_laid (by kernel_rfl) (by kernel_rfl) (by kernel_rfl) rfl (fun H ds h=>by
     match ds,h with
     | [d1,d2,d3],_=>rfl)
  (fun x hx hm=>⟨(),zbi x hx hm⟩) hval hW hz
set_option maxRecDepth 100000 in
theorem proxyRises_lifted (os:Os) (started:os.Started) (H:Type) (enc:TypeId×Value→H) :
  ReturnsInHanded {} Tryz.checked os 3 .any (Rows.proxyRisesSpec.pre6 enc Tryz.prog Tryz.f3 Rows.proxyRisesRow.domain false) (Rows.proxyRisesSpec.post enc Tryz.prog Tryz.f3 false true false false):=by
 refine returnsInHanded_of_change_sized (C:=Tryz.checked) proxyRises_own started (by kernel_rfl) Tryz.func3
  (ChangeSpec.witness6 (enc:=enc) (C:=Tryz.checked) false ⟨#[],#[.agg #[.int .i64 0,.string ByteArray.empty,.string ByteArray.empty,.int .i64 0,.int .i64 0],.int .i64 0,.slice none 0 0],[]⟩ 8 (by kernel_rfl) (by kernel_rfl) (by kernel_rfl) (by kernel_rfl)) ?_
 intro W base args ds gs before hval hW _ hz _;exact proxyRises_calls hval hW hz
theorem proxyRises_holds:Rows.ProxyRisesSaid:=
 OpenClaim.holds_of_wide 3 Tryz.f3 rfl rfl rfl rfl rfl rfl rfl ⟨rfl,rfl,rfl,rfl,rfl⟩ rfl rfl rfl rfl rfl (by kernel_rfl) Tryz.func3 (by kernel_rfl)
  (of_decide_eq_true (by kernel_rfl)) (by unfold Func.isWrapper;first|(rw[if_pos (by decide +kernel)];kernel_rfl)|(rw[if_neg (by decide +kernel)];exact⟨rfl,rfl⟩))
  (fun os started H enc _=>proxyRises_lifted os started H enc)
#print axioms proxyRises_holds
end Go.Proofs.YtlegpimppfabgaaGreat
