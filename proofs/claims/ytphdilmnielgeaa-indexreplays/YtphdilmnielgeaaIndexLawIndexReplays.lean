/- The law IndexReplays: for every input it returns true, and its arguments read as they did. -/
import Derived.Test.YtphdilmnielgeaaIndexLawM
namespace Go.Proofs.Ytphdilmnielgeaa
open Go.Sx Go Go.ChangeShapes Go.WideShapes Go.ChangeAt Go.RowKit
theorem indexReplays_own : ownKnob Try.prog.godebug = none := by kernel_rfl
theorem indexReplays_laid : laidOutB Try.prog = true := by kernel_rfl
set_option maxRecDepth 100000 in
theorem indexReplays_calls {H : Type} {enc : TypeId × Value → H} {W : World} {base : Nat} {args : Array Value} {ds gs : List (DataW H)} {before : List MemPlace} (hval : ∀ (j : Nat) (t : TypeId) (v : Value), Try.f10.params[j]? = some t → args[j]? = some v → Value.okWide Try.prog W .any base t v)
    (hW : DataW.Whole enc Try.prog Try.f10.params.toList Rows.indexReplaysSpec.vars false W args.toList ds gs before) (hz : (DataW.weightsEach Try.prog (Try.f10.params.toList ++ Rows.indexReplaysSpec.plain.varTypes Try.prog) (ds ++ gs)).all (· ≤ reachBytes) = true) :
    Calls Try.prog 10 args W fun e W' => ∃ v, e = .returned v ∧ Rows.indexReplaysSpec.post enc Try.prog Try.f10 false true false false W args v W' :=
  law_post47 (s := Rows.indexReplaysSpec) (tb := 4) (tys := [(.slice T39), .str, .str, (.int .i64)]) (F := F10) tabOk (by kernel_rfl) ok10 indexReplays_laid (by kernel_rfl) (by kernel_rfl) (by kernel_rfl) rfl (fun H ds h => by
      match ds, h with
      | [d1, d2, d3, d4], _ => rfl)
    (fun x hx => ⟨(), lawReplays batchesOk x hx⟩) hval hW hz
set_option maxRecDepth 100000 in
theorem indexReplays_lifted (os : Os) (started : os.Started) (H : Type) (enc : TypeId × Value → H) :
    ReturnsInHanded {} Try.checked os 10 .any (Rows.indexReplaysSpec.pre6 enc Try.prog Try.f10 Rows.indexReplaysRow.domain false) (Rows.indexReplaysSpec.post enc Try.prog Try.f10 false true false false) := by
  refine returnsInHanded_of_change_sized (C := Try.checked) indexReplays_own started (by kernel_rfl) Try.func10
    (ChangeSpec.witness6 (enc := enc) (C := Try.checked) false ⟨#[], #[.slice none 0 0, .string ByteArray.empty, .string ByteArray.empty, .int .i64 0], []⟩ 8 (by kernel_rfl) (by kernel_rfl) (by kernel_rfl) (by kernel_rfl)) ?_
  intro W base args ds gs before hval hW _ hz _
  exact indexReplays_calls hval hW hz
theorem indexReplays_holds : Rows.IndexReplaysSaid :=
  OpenClaim.holds_of_wide 10 Try.f10 rfl rfl rfl rfl rfl rfl rfl ⟨rfl, rfl, rfl, rfl, rfl⟩ rfl rfl rfl rfl rfl (by kernel_rfl) Try.func10 (by kernel_rfl)
    (of_decide_eq_true (by kernel_rfl)) (by unfold Func.isWrapper; first | (rw [if_pos (by decide +kernel)]; kernel_rfl) | (rw [if_neg (by decide +kernel)]; exact ⟨rfl, rfl⟩))
    (fun os started H enc _ => indexReplays_lifted os started H enc)
#print axioms indexReplays_holds
end Go.Proofs.Ytphdilmnielgeaa
