/- The law WirePlays: for every input it returns true, and its arguments read as they did. -/
import Derived.Test.YtcbomldaooeplaaWireLawA
namespace Go.Proofs.Ytcbomldaooeplaa
open Go.Sx Go Go.ChangeShapes Go.WideShapes Go.ChangeAt Go.RowKit
theorem wirePlays_own : ownKnob Try.prog.godebug = none := by kernel_rfl
theorem wirePlays_laid : laidOutB Try.prog = true := by kernel_rfl
set_option maxRecDepth 100000 in
theorem wirePlays_calls {H : Type} {enc : TypeId × Value → H} {W : World} {base : Nat} {args : Array Value} {ds gs : List (DataW H)} {before : List MemPlace} (hval : ∀ (j : Nat) (t : TypeId) (v : Value), Try.f3.params[j]? = some t → args[j]? = some v → Value.okWide Try.prog W .any base t v)
    (hW : DataW.Whole enc Try.prog Try.f3.params.toList Rows.wirePlaysSpec.vars false W args.toList ds gs before) (hz : (DataW.weightsEach Try.prog (Try.f3.params.toList ++ Rows.wirePlaysSpec.plain.varTypes Try.prog) (ds ++ gs)).all (· ≤ reachBytes) = true) :
    Calls Try.prog 3 args W fun e W' => ∃ v, e = .returned v ∧ Rows.wirePlaysSpec.post enc Try.prog Try.f3 false true false false W args v W' :=
  law_post47 (s := Rows.wirePlaysSpec) (tb := 4) (tys := [(.int .i64), (.slice T34)]) (F := F3) tabOk (by kernel_rfl) ok3 wirePlays_laid (by kernel_rfl) (by kernel_rfl) (by kernel_rfl) rfl (fun H ds h => by
      match ds, h with
      | [d1, d2], _ => rfl)
    (fun x hx => ⟨(), lawPlays x hx⟩) hval hW hz
set_option maxRecDepth 100000 in
theorem wirePlays_lifted (os : Os) (started : os.Started) (H : Type) (enc : TypeId × Value → H) :
    ReturnsInHanded {} Try.checked os 3 .any (Rows.wirePlaysSpec.pre6 enc Try.prog Try.f3 Rows.wirePlaysRow.domain false) (Rows.wirePlaysSpec.post enc Try.prog Try.f3 false true false false) := by
  refine returnsInHanded_of_change_sized (C := Try.checked) wirePlays_own started (by kernel_rfl) Try.func3
    (ChangeSpec.witness6 (enc := enc) (C := Try.checked) false ⟨#[], #[.int .i64 0, .slice none 0 0], []⟩ 8 (by kernel_rfl) (by kernel_rfl) (by kernel_rfl) (by kernel_rfl)) ?_
  intro W base args ds gs before hval hW _ hz _
  exact wirePlays_calls hval hW hz
theorem wirePlays_holds : Rows.WirePlaysSaid :=
  OpenClaim.holds_of_wide 3 Try.f3 rfl rfl rfl rfl rfl rfl rfl ⟨rfl, rfl, rfl, rfl, rfl⟩ rfl rfl rfl rfl rfl (by kernel_rfl) Try.func3 (by kernel_rfl)
    (of_decide_eq_true (by kernel_rfl)) (by unfold Func.isWrapper; first | (rw [if_pos (by decide +kernel)]; kernel_rfl) | (rw [if_neg (by decide +kernel)]; exact ⟨rfl, rfl⟩))
    (fun os started H enc _ => wirePlays_lifted os started H enc)
#print axioms wirePlays_holds
end Go.Proofs.Ytcbomldaooeplaa
