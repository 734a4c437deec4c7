/- The law HistRight: for every input it returns true, and its arguments read as they did. -/
import Derived.Test.YtmbofdkjeobhjaaHistPlainC
namespace Go.Proofs.Ytmbofdkjeobhjaa
open Go.Sx Go Go.ChangeShapes Go.WideShapes Go.ChangeAt Go.RowKit
theorem histRight_own : ownKnob Try.prog.godebug = none := by kernel_rfl
theorem histRight_laid : laidOutB Try.prog = true := by kernel_rfl
theorem histRight_calls {H : Type} {enc : TypeId × Value → H} {W : World} {base : Nat} {args : Array Value} {ds gs : List (DataW H)} {before : List MemPlace} (hval : ∀ (j : Nat) (t : TypeId) (v : Value), Try.f8.params[j]? = some t → args[j]? = some v → Value.okWide Try.prog W .any base t v)
    (hW : DataW.Whole enc Try.prog Try.f8.params.toList Rows.histRightSpec.vars false W args.toList ds gs before) :
    Calls Try.prog 8 args W fun e W' => ∃ v, e = .returned v ∧ Rows.histRightSpec.post enc Try.prog Try.f8 false true false false W args v W' :=
  law_post (s := Rows.histRightSpec) (tb := 4) (tys := [(.slice Ver), (.int .i64)]) (F := F8) (K := fun _ => True) tabOk ok8 histRight_laid (by kernel_rfl) (by kernel_rfl) (by kernel_rfl) rfl (fun H ds h => by
      match ds, h with
      | [d1, d2], _ => rfl)
    (fun ds x hd hx hk => ⟨(), law8 x hx⟩) hval hW trivial
set_option maxRecDepth 100000 in
theorem histRight_lifted (os : Os) (started : os.Started) (H : Type) (enc : TypeId × Value → H) :
    ReturnsInHanded {} Try.checked os 8 .any (Rows.histRightSpec.pre6 enc Try.prog Try.f8 Rows.histRightRow.domain false) (Rows.histRightSpec.post enc Try.prog Try.f8 false true false false) := by
  refine returnsInHanded_of_change (C := Try.checked) histRight_own started (by kernel_rfl) Try.func8
    (ChangeSpec.witness6 (enc := enc) (C := Try.checked) false ⟨#[], #[.slice none 0 0, .int .i64 0], []⟩ 8 (by kernel_rfl) (by kernel_rfl) (by kernel_rfl) (by kernel_rfl)) ?_
  intro W base args ds gs before hval hW _ _
  exact histRight_calls hval hW
theorem histRight_holds : Rows.HistRightSaid :=
  OpenClaim.holds_of_wide 8 Try.f8 rfl rfl rfl rfl rfl rfl rfl ⟨rfl, rfl, rfl, rfl, rfl⟩ rfl rfl rfl rfl rfl (by kernel_rfl) Try.func8 (by kernel_rfl)
    (of_decide_eq_true (by kernel_rfl)) (by unfold Func.isWrapper; first | (rw [if_pos (by decide +kernel)]; kernel_rfl) | (rw [if_neg (by decide +kernel)]; exact ⟨rfl, rfl⟩))
    (fun os started H enc _ => histRight_lifted os started H enc)
#print axioms histRight_holds
end Go.Proofs.Ytmbofdkjeobhjaa
