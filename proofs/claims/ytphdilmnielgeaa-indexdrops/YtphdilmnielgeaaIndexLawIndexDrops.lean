/- The law IndexDrops: for every input it returns true, and its arguments read as they did. -/
import Derived.Test.YtphdilmnielgeaaIndexLawI
namespace Go.Proofs.Ytphdilmnielgeaa
open Go.Sx Go Go.ChangeShapes Go.WideShapes Go.ChangeAt Go.RowKit
theorem indexDrops_own : ownKnob Try.prog.godebug = none := by kernel_rfl
theorem indexDrops_laid : laidOutB Try.prog = true := by kernel_rfl
set_option maxRecDepth 100000 in
theorem indexDrops_calls {H : Type} {enc : TypeId × Value → H} {W : World} {base : Nat} {args : Array Value} {ds gs : List (DataW H)} {before : List MemPlace} (hval : ∀ (j : Nat) (t : TypeId) (v : Value), Try.f12.params[j]? = some t → args[j]? = some v → Value.okWide Try.prog W .any base t v)
    (hW : DataW.Whole enc Try.prog Try.f12.params.toList Rows.indexDropsSpec.vars false W args.toList ds gs before) (hz : (DataW.weightsEach Try.prog (Try.f12.params.toList ++ Rows.indexDropsSpec.plain.varTypes Try.prog) (ds ++ gs)).all (· ≤ reachBytes) = true) :
    Calls Try.prog 12 args W fun e W' => ∃ v, e = .returned v ∧ Rows.indexDropsSpec.post enc Try.prog Try.f12 false true false false W args v W' :=
  law_post47 (s := Rows.indexDropsSpec) (tb := 4) (tys := [(.slice T39), .str, .str, T69]) (F := F12) tabOk (by kernel_rfl) ok12 indexDrops_laid (by kernel_rfl) (by kernel_rfl) (by kernel_rfl) rfl (fun H ds h => by
      match ds, h with
      | [d1, d2, d3, d4], _ => rfl)
    (fun x hx => ⟨(), lawDrops x hx⟩) hval hW hz
set_option maxRecDepth 100000 in
theorem indexDrops_lifted (os : Os) (started : os.Started) (H : Type) (enc : TypeId × Value → H) :
    ReturnsInHanded {} Try.checked os 12 .any (Rows.indexDropsSpec.pre6 enc Try.prog Try.f12 Rows.indexDropsRow.domain false) (Rows.indexDropsSpec.post enc Try.prog Try.f12 false true false false) := by
  refine returnsInHanded_of_change_sized (C := Try.checked) indexDrops_own started (by kernel_rfl) Try.func12
    (ChangeSpec.witness6 (enc := enc) (C := Try.checked) false ⟨#[], #[.slice none 0 0, .string ByteArray.empty, .string ByteArray.empty, .agg #[.string ByteArray.empty, .string ByteArray.empty, .string ByteArray.empty, .int .i64 0, .int .i64 0, .int .i64 0, .int .i64 0, .int .i64 0]], []⟩ 8 (by kernel_rfl) (by kernel_rfl) (by kernel_rfl) (by kernel_rfl)) ?_
  intro W base args ds gs before hval hW _ hz _
  exact indexDrops_calls hval hW hz
theorem indexDrops_holds : Rows.IndexDropsSaid :=
  OpenClaim.holds_of_wide 12 Try.f12 rfl rfl rfl rfl rfl rfl rfl ⟨rfl, rfl, rfl, rfl, rfl⟩ rfl rfl rfl rfl rfl (by kernel_rfl) Try.func12 (by kernel_rfl)
    (of_decide_eq_true (by kernel_rfl)) (by unfold Func.isWrapper; first | (rw [if_pos (by decide +kernel)]; kernel_rfl) | (rw [if_neg (by decide +kernel)]; exact ⟨rfl, rfl⟩))
    (fun os started H enc _ => indexDrops_lifted os started H enc)
#print axioms indexDrops_holds
end Go.Proofs.Ytphdilmnielgeaa
