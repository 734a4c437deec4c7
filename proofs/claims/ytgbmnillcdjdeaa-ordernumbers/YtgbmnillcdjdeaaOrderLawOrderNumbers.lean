/- The law OrderNumbers: for every input it returns true, and its arguments read as they did. -/
import Derived.Test.YtgbmnillcdjdeaaOrderLawC
namespace Go.Proofs.Ytgbmnillcdjdeaa
open Go.Sx Go Go.ChangeShapes Go.WideShapes Go.ChangeAt Go.RowKit
theorem orderNumbers_own : ownKnob Try.prog.godebug = none := by kernel_rfl
theorem orderNumbers_laid : laidOutB Try.prog = true := by kernel_rfl
set_option maxRecDepth 100000 in
theorem orderNumbers_calls {H : Type} {enc : TypeId × Value → H} {W : World} {base : Nat} {args : Array Value} {ds gs : List (DataW H)} {before : List MemPlace} (hval : ∀ (j : Nat) (t : TypeId) (v : Value), Try.f7.params[j]? = some t → args[j]? = some v → Value.okWide Try.prog W .any base t v)
    (hW : DataW.Whole enc Try.prog Try.f7.params.toList Rows.orderNumbersSpec.vars false W args.toList ds gs before) (hz : (DataW.weightsEach Try.prog (Try.f7.params.toList ++ Rows.orderNumbersSpec.plain.varTypes Try.prog) (ds ++ gs)).all (· ≤ reachBytes) = true) :
    Calls Try.prog 7 args W fun e W' => ∃ v, e = .returned v ∧ Rows.orderNumbersSpec.post enc Try.prog Try.f7 false true false false W args v W' :=
  law_post47 (s := Rows.orderNumbersSpec) (tb := 4) (tys := [(.slice (.int .i64)), (.int .i64)]) (F := F7) tabOk (by kernel_rfl) ok7 orderNumbers_laid (by kernel_rfl) (by kernel_rfl) (by kernel_rfl) rfl (fun H ds h => by
      match ds, h with
      | [d1, d2], _ => rfl)
    (fun x hx => ⟨(), law7 x⟩) hval hW hz
set_option maxRecDepth 100000 in
theorem orderNumbers_lifted (os : Os) (started : os.Started) (H : Type) (enc : TypeId × Value → H) :
    ReturnsInHanded {} Try.checked os 7 .any (Rows.orderNumbersSpec.pre6 enc Try.prog Try.f7 Rows.orderNumbersRow.domain false) (Rows.orderNumbersSpec.post enc Try.prog Try.f7 false true false false) := by
  refine returnsInHanded_of_change_sized (C := Try.checked) orderNumbers_own started (by kernel_rfl) Try.func7
    (ChangeSpec.witness6 (enc := enc) (C := Try.checked) false ⟨#[], #[.slice none 0 0, .int .i64 0], []⟩ 8 (by kernel_rfl) (by kernel_rfl) (by kernel_rfl) (by kernel_rfl)) ?_
  intro W base args ds gs before hval hW _ hz _
  exact orderNumbers_calls hval hW hz
theorem orderNumbers_holds : Rows.OrderNumbersSaid :=
  OpenClaim.holds_of_wide 7 Try.f7 rfl rfl rfl rfl rfl rfl rfl ⟨rfl, rfl, rfl, rfl, rfl⟩ rfl rfl rfl rfl rfl (by kernel_rfl) Try.func7 (by kernel_rfl)
    (of_decide_eq_true (by kernel_rfl)) (by unfold Func.isWrapper; first | (rw [if_pos (by decide +kernel)]; kernel_rfl) | (rw [if_neg (by decide +kernel)]; exact ⟨rfl, rfl⟩))
    (fun os started H enc _ => orderNumbers_lifted os started H enc)
#print axioms orderNumbers_holds
end Go.Proofs.Ytgbmnillcdjdeaa
