/- The law CmdGets: for every input it returns true, and its arguments read as they did. -/
import Derived.Test.YthafmmjfijpalaaGreatCmdLawP
namespace Go.Proofs.YthafmmjfijpalaaGreat
open Go.Sx Go Go.ChangeShapes Go.WideShapes Go.ChangeAt Go.RowKit
theorem cmdGets_own : ownKnob Tryz.prog.godebug = none := by kernel_rfl
theorem cmdGets_laid : laidOutB Tryz.prog = true := by kernel_rfl
set_option maxRecDepth 100000 in
theorem cmdGets_calls {H : Type} {enc : TypeId × Value → H} {W : World} {base : Nat} {args : Array Value} {ds gs : List (DataW H)} {before : List MemPlace} (hval : ∀ (j : Nat) (t : TypeId) (v : Value), Tryz.f8.params[j]? = some t → args[j]? = some v → Value.okWide Tryz.prog W .any base t v)
    (hW : DataW.Whole enc Tryz.prog Tryz.f8.params.toList Rows.cmdGetsSpec.vars false W args.toList ds gs before) (hz : (DataW.weightsEach Tryz.prog (Tryz.f8.params.toList ++ Rows.cmdGetsSpec.plain.varTypes Tryz.prog) (ds ++ gs)).all (· ≤ reachBytes) = true) :
    Calls Tryz.prog 8 args W fun e W' => ∃ v, e = .returned v ∧ Rows.cmdGetsSpec.post enc Tryz.prog Tryz.f8 false true false false W args v W' :=
  law_post47 (s := Rows.cmdGetsSpec) (tb := 4) (tys := [(.slice .u8), (.slice .u8)]) (F := F8) tabOk (by kernel_rfl) ok8 cmdGets_laid (by kernel_rfl) (by kernel_rfl) (by kernel_rfl) rfl (fun H ds h => by
      match ds, h with
      | [d1, d2], _ => rfl)
    (fun x hx => ⟨(), law8 x hx⟩) hval hW hz
set_option maxRecDepth 100000 in
theorem cmdGets_lifted (os : Os) (started : os.Started) (H : Type) (enc : TypeId × Value → H) :
    ReturnsInHanded {} Tryz.checked os 8 .any (Rows.cmdGetsSpec.pre6 enc Tryz.prog Tryz.f8 Rows.cmdGetsRow.domain false) (Rows.cmdGetsSpec.post enc Tryz.prog Tryz.f8 false true false false) := by
  refine returnsInHanded_of_change_sized (C := Tryz.checked) cmdGets_own started (by kernel_rfl) Tryz.func8
    (ChangeSpec.witness6 (enc := enc) (C := Tryz.checked) false ⟨#[], #[.slice none 0 0, .slice none 0 0], []⟩ 8 (by kernel_rfl) (by kernel_rfl) (by kernel_rfl) (by kernel_rfl)) ?_
  intro W base args ds gs before hval hW _ hz _
  exact cmdGets_calls hval hW hz
theorem cmdGets_holds : Rows.CmdGetsSaid :=
  OpenClaim.holds_of_wide 8 Tryz.f8 rfl rfl rfl rfl rfl rfl rfl ⟨rfl, rfl, rfl, rfl, rfl⟩ rfl rfl rfl rfl rfl (by kernel_rfl) Tryz.func8 (by kernel_rfl)
    (of_decide_eq_true (by kernel_rfl)) (by unfold Func.isWrapper; first | (rw [if_pos (by decide +kernel)]; kernel_rfl) | (rw [if_neg (by decide +kernel)]; exact ⟨rfl, rfl⟩))
    (fun os started H enc _ => cmdGets_lifted os started H enc)
#print axioms cmdGets_holds
end Go.Proofs.YthafmmjfijpalaaGreat
