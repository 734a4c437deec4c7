/- The law HistTrims: for every input it returns true, and its arguments read as they did. -/
import Derived.Test.YtmbofdkjeobhjaaHistPlainC
namespace Go.Proofs.Ytmbofdkjeobhjaa
open Go.Sx Go Go.ChangeShapes Go.WideShapes Go.ChangeAt Go.RowKit
theorem histTrims_own : ownKnob Try.prog.godebug = none := by kernel_rfl
theorem histTrims_laid : laidOutB Try.prog = true := by kernel_rfl
theorem histTrims_calls {H : Type} {enc : TypeId × Value → H} {W : World} {base : Nat} {args : Array Value} {ds gs : List (DataW H)} {before : List MemPlace} (hval : ∀ (j : Nat) (t : TypeId) (v : Value), Try.f7.params[j]? = some t → args[j]? = some v → Value.okWide Try.prog W .any base t v)
    (hW : DataW.Whole enc Try.prog Try.f7.params.toList Rows.histTrimsSpec.vars false W args.toList ds gs before) :
    Calls Try.prog 7 args W fun e W' => ∃ v, e = .returned v ∧ Rows.histTrimsSpec.post enc Try.prog Try.f7 false true false false W args v W' :=
  law_post (s := Rows.histTrimsSpec) (tb := 4) (tys := [(.slice Act), (.int .i64), (.int .i64), (.int .i64)]) (F := F7) (K := fun _ => True) tabOk ok7 histTrims_laid (by kernel_rfl) (by kernel_rfl) (by kernel_rfl) rfl (fun H ds h => by
      match ds, h with
      | [d1, d2, d3, d4], _ => rfl)
    (fun ds x hd hx hk => ⟨(), law7 x hx⟩) hval hW trivial
set_option maxRecDepth 100000 in
theorem histTrims_lifted (os : Os) (started : os.Started) (H : Type) (enc : TypeId × Value → H) :
    ReturnsInHanded {} Try.checked os 7 .any (Rows.histTrimsSpec.pre6 enc Try.prog Try.f7 Rows.histTrimsRow.domain false) (Rows.histTrimsSpec.post enc Try.prog Try.f7 false true false false) := by
  refine returnsInHanded_of_change (C := Try.checked) histTrims_own started (by kernel_rfl) Try.func7
    (ChangeSpec.witness6 (enc := enc) (C := Try.checked) false ⟨#[], #[.slice none 0 0, .int .i64 0, .int .i64 0, .int .i64 0], []⟩ 8 (by kernel_rfl) (by kernel_rfl) (by kernel_rfl) (by kernel_rfl)) ?_
  intro W base args ds gs before hval hW _ _
  exact histTrims_calls hval hW
theorem histTrims_holds : Rows.HistTrimsSaid :=
  OpenClaim.holds_of_wide 7 Try.f7 rfl rfl rfl rfl rfl rfl rfl ⟨rfl, rfl, rfl, rfl, rfl⟩ rfl rfl rfl rfl rfl (by kernel_rfl) Try.func7 (by kernel_rfl)
    (of_decide_eq_true (by kernel_rfl)) (by unfold Func.isWrapper; first | (rw [if_pos (by decide +kernel)]; kernel_rfl) | (rw [if_neg (by decide +kernel)]; exact ⟨rfl, rfl⟩))
    (fun os started H enc _ => histTrims_lifted os started H enc)
#print axioms histTrims_holds
end Go.Proofs.Ytmbofdkjeobhjaa
