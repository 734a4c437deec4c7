/- The law ProxyOwn: for every input it returns true,and its arguments read as they did. -/
import Derived.Test.YtlegpimppfabgaaGreatProwLawD
namespace Go.Proofs.YtlegpimppfabgaaGreat
open Go.Sx Go Go.ChangeShapes Go.WideShapes Go.ChangeAt Go.RowKit
theorem proxyOwn_own:ownKnob Tryz.prog.godebug=none:=by kernel_rfl
theorem proxyOwn_laid:laidOutB Tryz.prog=true:=by kernel_rfl
set_option maxRecDepth 100000 in
theorem proxyOwn_calls {H:Type} {enc:TypeId×Value→H} {W:World} {base:Nat} {args:Array Value} {ds gs:List (DataW H)} {before:List MemPlace} (hval:∀ (j:Nat) (t:TypeId) (v:Value),Tryz.f5.params[j]? = some t→args[j]? = some v→Value.okWide Tryz.prog W .any base t v)
  (hW:DataW.Whole enc Tryz.prog Tryz.f5.params.toList Rows.proxyOwnSpec.vars false W args.toList ds gs before) (hz:(DataW.weightsEach Tryz.prog (Tryz.f5.params.toList++Rows.proxyOwnSpec.plain.varTypes Tryz.prog) (ds++gs)).all (· ≤ reachBytes)=true) :
  Calls Tryz.prog 5 args W fun e W'=>∃ v,e=.returned v∧Rows.proxyOwnSpec.post enc Tryz.prog Tryz.f5 false true false false W args v W':=
 zaA (s:=Rows.proxyOwnSpec) (tb:=4) (tys:=[Y24,(.slice Y70)]) (F:=F5) zdT (by kernel_rfl) (by kernel_rfl) ok5 proxyOwn_laid (by kernel_rfl) (by kernel_rfl) (by kernel_rfl) rfl (fun H ds h=>by
   match ds,h with
   | [d1,d2],_=>rfl)
  (fun x hx hm=>⟨(),zcE x hx hm⟩) hval hW hz
set_option maxRecDepth 100000 in
theorem proxyOwn_lifted (os:Os) (started:os.Started) (H:Type) (enc:TypeId×Value→H) :
  ReturnsInHanded {} Tryz.checked os 5 .any (Rows.proxyOwnSpec.pre6 enc Tryz.prog Tryz.f5 Rows.proxyOwnRow.domain false) (Rows.proxyOwnSpec.post enc Tryz.prog Tryz.f5 false true false false):=by
 refine returnsInHanded_of_change_sized (C:=Tryz.checked) proxyOwn_own started (by kernel_rfl) Tryz.func5
  (ChangeSpec.witness6 (enc:=enc) (C:=Tryz.checked) false ⟨#[],#[.agg #[.int .i64 0,.string ByteArray.empty,.string ByteArray.empty,.int .i64 0,.int .i64 0],.slice none 0 0],[]⟩ 8 (by kernel_rfl) (by kernel_rfl) (by kernel_rfl) (by kernel_rfl)) ?_
 intro W base args ds gs before hval hW _ hz _;exact proxyOwn_calls hval hW hz
theorem proxyOwn_holds:Rows.ProxyOwnSaid:=
 OpenClaim.holds_of_wide 5 Tryz.f5 rfl rfl rfl rfl rfl rfl rfl ⟨rfl,rfl,rfl,rfl,rfl⟩ rfl rfl rfl rfl rfl (by kernel_rfl) Tryz.func5 (by kernel_rfl)
  (of_decide_eq_true (by kernel_rfl)) (by unfold Func.isWrapper;first|(rw[if_pos (by decide +kernel)];kernel_rfl)|(rw[if_neg (by decide +kernel)];exact⟨rfl,rfl⟩))
  (fun os started H enc _=>proxyOwn_lifted os started H enc)
#print axioms proxyOwn_holds
end Go.Proofs.YtlegpimppfabgaaGreat
