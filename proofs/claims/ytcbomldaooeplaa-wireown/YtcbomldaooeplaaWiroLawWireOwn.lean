/- The law WireOwn: for every input it returns true, and its arguments read as they did. -/
import Derived.Test.YtcbomldaooeplaaWiroLawA
namespace Go.Proofs.Ytcbomldaooeplaa
open Go.Sx Go Go.ChangeShapes Go.WideShapes Go.ChangeAt Go.RowKit
theorem wireOwn_own : ownKnob Try.prog.godebug = none := by kernel_rfl
theorem wireOwn_laid : laidOutB Try.prog = true := by kernel_rfl
set_option maxRecDepth 100000 in
theorem wireOwn_calls {H : Type} {enc : TypeId × Value → H} {W : World} {base : Nat} {args : Array Value} {ds gs : List (DataW H)} {before : List MemPlace} (hval : ∀ (j : Nat) (t : TypeId) (v : Value), Try.f4.params[j]? = some t → args[j]? = some v → Value.okWide Try.prog W .any base t v)
    (hW : DataW.Whole enc Try.prog Try.f4.params.toList Rows.wireOwnSpec.vars false W args.toList ds gs before) (hz : (DataW.weightsEach Try.prog (Try.f4.params.toList ++ Rows.wireOwnSpec.plain.varTypes Try.prog) (ds ++ gs)).all (· ≤ reachBytes) = true) :
    Calls Try.prog 4 args W fun e W' => ∃ v, e = .returned v ∧ Rows.wireOwnSpec.post enc Try.prog Try.f4 false true false false W args v W' :=
  law_post47 (s := Rows.wireOwnSpec) (tb := 4) (tys := [(.slice .u8), (.int .i64)]) (F := F4) tabOk (by kernel_rfl) ok4 wireOwn_laid (by kernel_rfl) (by kernel_rfl) (by kernel_rfl) rfl (fun H ds h => by
      match ds, h with
      | [d1, d2], _ => rfl)
    (fun x hx => ⟨(), lawOwn x hx⟩) hval hW hz
set_option maxRecDepth 100000 in
theorem wireOwn_lifted (os : Os) (started : os.Started) (H : Type) (enc : TypeId × Value → H) :
    ReturnsInHanded {} Try.checked os 4 .any (Rows.wireOwnSpec.pre6 enc Try.prog Try.f4 Rows.wireOwnRow.domain false) (Rows.wireOwnSpec.post enc Try.prog Try.f4 false true false false) := by
  refine returnsInHanded_of_change_sized (C := Try.checked) wireOwn_own started (by kernel_rfl) Try.func4
    (ChangeSpec.witness6 (enc := enc) (C := Try.checked) false ⟨#[], #[.slice none 0 0, .int .i64 0], []⟩ 8 (by kernel_rfl) (by kernel_rfl) (by kernel_rfl) (by kernel_rfl)) ?_
  intro W base args ds gs before hval hW _ hz _
  exact wireOwn_calls hval hW hz
theorem wireOwn_holds : Rows.WireOwnSaid :=
  OpenClaim.holds_of_wide 4 Try.f4 rfl rfl rfl rfl rfl rfl rfl ⟨rfl, rfl, rfl, rfl, rfl⟩ rfl rfl rfl rfl rfl (by kernel_rfl) Try.func4 (by kernel_rfl)
    (of_decide_eq_true (by kernel_rfl)) (by unfold Func.isWrapper; first | (rw [if_pos (by decide +kernel)]; kernel_rfl) | (rw [if_neg (by decide +kernel)]; exact ⟨rfl, rfl⟩))
    (fun os started H enc _ => wireOwn_lifted os started H enc)
#print axioms wireOwn_holds
end Go.Proofs.Ytcbomldaooeplaa
