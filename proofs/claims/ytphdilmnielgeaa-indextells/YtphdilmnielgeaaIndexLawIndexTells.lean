/- The law IndexTells: for every input it returns true, and its arguments read as they did. -/
import Derived.Test.YtphdilmnielgeaaIndexLawM
namespace Go.Proofs.Ytphdilmnielgeaa
open Go.Sx Go Go.ChangeShapes Go.WideShapes Go.ChangeAt Go.RowKit
theorem indexTells_own : ownKnob Try.prog.godebug = none := by kernel_rfl
theorem indexTells_laid : laidOutB Try.prog = true := by kernel_rfl
set_option maxRecDepth 100000 in
theorem indexTells_calls {H : Type} {enc : TypeId × Value → H} {W : World} {base : Nat} {args : Array Value} {ds gs : List (DataW H)} {before : List MemPlace} (hval : ∀ (j : Nat) (t : TypeId) (v : Value), Try.f9.params[j]? = some t → args[j]? = some v → Value.okWide Try.prog W .any base t v)
    (hW : DataW.Whole enc Try.prog Try.f9.params.toList Rows.indexTellsSpec.vars false W args.toList ds gs before) (hz : (DataW.weightsEach Try.prog (Try.f9.params.toList ++ Rows.indexTellsSpec.plain.varTypes Try.prog) (ds ++ gs)).all (· ≤ reachBytes) = true) :
    Calls Try.prog 9 args W fun e W' => ∃ v, e = .returned v ∧ Rows.indexTellsSpec.post enc Try.prog Try.f9 false true false false W args v W' :=
  law_post47 (s := Rows.indexTellsSpec) (tb := 4) (tys := [(.slice T39), T69]) (F := F9) tabOk (by kernel_rfl) ok9 indexTells_laid (by kernel_rfl) (by kernel_rfl) (by kernel_rfl) rfl (fun H ds h => by
      match ds, h with
      | [d1, d2], _ => rfl)
    (fun x hx => ⟨(), lawTells batchesOk x hx⟩) hval hW hz
set_option maxRecDepth 100000 in
theorem indexTells_lifted (os : Os) (started : os.Started) (H : Type) (enc : TypeId × Value → H) :
    ReturnsInHanded {} Try.checked os 9 .any (Rows.indexTellsSpec.pre6 enc Try.prog Try.f9 Rows.indexTellsRow.domain false) (Rows.indexTellsSpec.post enc Try.prog Try.f9 false true false false) := by
  refine returnsInHanded_of_change_sized (C := Try.checked) indexTells_own started (by kernel_rfl) Try.func9
    (ChangeSpec.witness6 (enc := enc) (C := Try.checked) false ⟨#[], #[.slice none 0 0, .agg #[.string ByteArray.empty, .string ByteArray.empty, .string ByteArray.empty, .int .i64 0, .int .i64 0, .int .i64 0, .int .i64 0, .int .i64 0]], []⟩ 8 (by kernel_rfl) (by kernel_rfl) (by kernel_rfl) (by kernel_rfl)) ?_
  intro W base args ds gs before hval hW _ hz _
  exact indexTells_calls hval hW hz
theorem indexTells_holds : Rows.IndexTellsSaid :=
  OpenClaim.holds_of_wide 9 Try.f9 rfl rfl rfl rfl rfl rfl rfl ⟨rfl, rfl, rfl, rfl, rfl⟩ rfl rfl rfl rfl rfl (by kernel_rfl) Try.func9 (by kernel_rfl)
    (of_decide_eq_true (by kernel_rfl)) (by unfold Func.isWrapper; first | (rw [if_pos (by decide +kernel)]; kernel_rfl) | (rw [if_neg (by decide +kernel)]; exact ⟨rfl, rfl⟩))
    (fun os started H enc _ => indexTells_lifted os started H enc)
#print axioms indexTells_holds
end Go.Proofs.Ytphdilmnielgeaa
