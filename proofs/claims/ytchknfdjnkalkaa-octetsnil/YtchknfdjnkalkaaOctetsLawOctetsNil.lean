/- The law OctetsNil: for every input it returns true, and its arguments read as they did. -/
import Derived.Test.YtchknfdjnkalkaaOctetsLawE
namespace Go.Proofs.Ytchknfdjnkalkaa
open Go.Sx Go Go.ChangeShapes Go.WideShapes Go.ChangeAt Go.RowKit
theorem octetsNil_own : ownKnob Try.prog.godebug = none := by kernel_rfl
theorem octetsNil_laid : laidOutB Try.prog = true := by kernel_rfl
set_option maxRecDepth 100000 in
theorem octetsNil_calls {H : Type} {enc : TypeId × Value → H} {W : World} {base : Nat} {args : Array Value} {ds gs : List (DataW H)} {before : List MemPlace} (hval : ∀ (j : Nat) (t : TypeId) (v : Value), Try.f7.params[j]? = some t → args[j]? = some v → Value.okWide Try.prog W .any base t v)
    (hW : DataW.Whole enc Try.prog Try.f7.params.toList Rows.octetsNilSpec.vars false W args.toList ds gs before) (hz : (DataW.weightsEach Try.prog (Try.f7.params.toList ++ Rows.octetsNilSpec.plain.varTypes Try.prog) (ds ++ gs)).all (· ≤ reachBytes) = true) :
    Calls Try.prog 7 args W fun e W' => ∃ v, e = .returned v ∧ Rows.octetsNilSpec.post enc Try.prog Try.f7 false true false false W args v W' :=
  law_post47 (s := Rows.octetsNilSpec) (tb := 4) (tys := [(.slice T46), (.slice .u8), (.int .i64)]) (F := F7) tabOk (by kernel_rfl) ok7 octetsNil_laid (by kernel_rfl) (by kernel_rfl) (by kernel_rfl) rfl (fun H ds h => by
      match ds, h with
      | [d1, d2, d3], _ => rfl)
    (fun x hx => ⟨(), law7 x hx⟩) hval hW hz
set_option maxRecDepth 100000 in
theorem octetsNil_lifted (os : Os) (started : os.Started) (H : Type) (enc : TypeId × Value → H) :
    ReturnsInHanded {} Try.checked os 7 .any (Rows.octetsNilSpec.pre6 enc Try.prog Try.f7 Rows.octetsNilRow.domain false) (Rows.octetsNilSpec.post enc Try.prog Try.f7 false true false false) := by
  refine returnsInHanded_of_change_sized (C := Try.checked) octetsNil_own started (by kernel_rfl) Try.func7
    (ChangeSpec.witness6 (enc := enc) (C := Try.checked) false ⟨#[], #[.slice none 0 0, .slice none 0 0, .int .i64 0], []⟩ 8 (by kernel_rfl) (by kernel_rfl) (by kernel_rfl) (by kernel_rfl)) ?_
  intro W base args ds gs before hval hW _ hz _
  exact octetsNil_calls hval hW hz
theorem octetsNil_holds : Rows.OctetsNilSaid :=
  OpenClaim.holds_of_wide 7 Try.f7 rfl rfl rfl rfl rfl rfl rfl ⟨rfl, rfl, rfl, rfl, rfl⟩ rfl rfl rfl rfl rfl (by kernel_rfl) Try.func7 (by kernel_rfl)
    (of_decide_eq_true (by kernel_rfl)) (by unfold Func.isWrapper; first | (rw [if_pos (by decide +kernel)]; kernel_rfl) | (rw [if_neg (by decide +kernel)]; exact ⟨rfl, rfl⟩))
    (fun os started H enc _ => octetsNil_lifted os started H enc)
#print axioms octetsNil_holds
end Go.Proofs.Ytchknfdjnkalkaa
