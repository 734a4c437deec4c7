/- The law IndexPages: for every input it returns true, and its arguments read as they did. -/
import Derived.Test.YtphdilmnielgeaaIndexLawH
namespace Go.Proofs.Ytphdilmnielgeaa
open Go.Sx Go Go.ChangeShapes Go.WideShapes Go.ChangeAt Go.RowKit
theorem indexPages_own : ownKnob Try.prog.godebug = none := by kernel_rfl
theorem indexPages_laid : laidOutB Try.prog = true := by kernel_rfl
set_option maxRecDepth 100000 in
theorem indexPages_calls {H : Type} {enc : TypeId × Value → H} {W : World} {base : Nat} {args : Array Value} {ds gs : List (DataW H)} {before : List MemPlace} (hval : ∀ (j : Nat) (t : TypeId) (v : Value), Try.f7.params[j]? = some t → args[j]? = some v → Value.okWide Try.prog W .any base t v)
    (hW : DataW.Whole enc Try.prog Try.f7.params.toList Rows.indexPagesSpec.vars false W args.toList ds gs before) (hz : (DataW.weightsEach Try.prog (Try.f7.params.toList ++ Rows.indexPagesSpec.plain.varTypes Try.prog) (ds ++ gs)).all (· ≤ reachBytes) = true) :
    Calls Try.prog 7 args W fun e W' => ∃ v, e = .returned v ∧ Rows.indexPagesSpec.post enc Try.prog Try.f7 false true false false W args v W' :=
  law_post47 (s := Rows.indexPagesSpec) (tb := 4) (tys := [(.slice T39), (.slice T39), .str, .u8]) (F := F7) tabOk (by kernel_rfl) ok7 indexPages_laid (by kernel_rfl) (by kernel_rfl) (by kernel_rfl) rfl (fun H ds h => by
      match ds, h with
      | [d1, d2, d3, d4], _ => rfl)
    (fun x hx => ⟨(), law7 x hx⟩) hval hW hz
set_option maxRecDepth 100000 in
theorem indexPages_lifted (os : Os) (started : os.Started) (H : Type) (enc : TypeId × Value → H) :
    ReturnsInHanded {} Try.checked os 7 .any (Rows.indexPagesSpec.pre6 enc Try.prog Try.f7 Rows.indexPagesRow.domain false) (Rows.indexPagesSpec.post enc Try.prog Try.f7 false true false false) := by
  refine returnsInHanded_of_change_sized (C := Try.checked) indexPages_own started (by kernel_rfl) Try.func7
    (ChangeSpec.witness6 (enc := enc) (C := Try.checked) false ⟨#[], #[.slice none 0 0, .slice none 0 0, .string ByteArray.empty, .int .u8 0], []⟩ 8 (by kernel_rfl) (by kernel_rfl) (by kernel_rfl) (by kernel_rfl)) ?_
  intro W base args ds gs before hval hW _ hz _
  exact indexPages_calls hval hW hz
theorem indexPages_holds : Rows.IndexPagesSaid :=
  OpenClaim.holds_of_wide 7 Try.f7 rfl rfl rfl rfl rfl rfl rfl ⟨rfl, rfl, rfl, rfl, rfl⟩ rfl rfl rfl rfl rfl (by kernel_rfl) Try.func7 (by kernel_rfl)
    (of_decide_eq_true (by kernel_rfl)) (by unfold Func.isWrapper; first | (rw [if_pos (by decide +kernel)]; kernel_rfl) | (rw [if_neg (by decide +kernel)]; exact ⟨rfl, rfl⟩))
    (fun os started H enc _ => indexPages_lifted os started H enc)
#print axioms indexPages_holds
end Go.Proofs.Ytphdilmnielgeaa
