/- The law HistGrows: for every input it returns true, and its arguments read as they did. -/
import Derived.Test.YtmbofdkjeobhjaaHistPlainB
namespace Go.Proofs.Ytmbofdkjeobhjaa
open Go.Sx Go Go.ChangeShapes Go.WideShapes Go.ChangeAt Go.RowKit
theorem histGrows_own : ownKnob Try.prog.godebug = none := by kernel_rfl
theorem histGrows_laid : laidOutB Try.prog = true := by kernel_rfl
theorem histGrows_calls {H : Type} {enc : TypeId × Value → H} {W : World} {base : Nat} {args : Array Value} {ds gs : List (DataW H)} {before : List MemPlace} (hval : ∀ (j : Nat) (t : TypeId) (v : Value), Try.f3.params[j]? = some t → args[j]? = some v → Value.okWide Try.prog W .any base t v)
    (hW : DataW.Whole enc Try.prog Try.f3.params.toList Rows.histGrowsSpec.vars false W args.toList ds gs before) :
    Calls Try.prog 3 args W fun e W' => ∃ v, e = .returned v ∧ Rows.histGrowsSpec.post enc Try.prog Try.f3 false true false false W args v W' :=
  law_post (s := Rows.histGrowsSpec) (tb := 4) (tys := [(.slice Act)]) (F := F3) (K := fun _ => True) tabOk ok3 histGrows_laid (by kernel_rfl) (by kernel_rfl) (by kernel_rfl) rfl (fun H ds h => by
      match ds, h with
      | [d1], _ => rfl)
    (fun ds x hd hx hk => ⟨(), law3 x hx⟩) hval hW trivial
set_option maxRecDepth 100000 in
theorem histGrows_lifted (os : Os) (started : os.Started) (H : Type) (enc : TypeId × Value → H) :
    ReturnsInHanded {} Try.checked os 3 .any (Rows.histGrowsSpec.pre6 enc Try.prog Try.f3 Rows.histGrowsRow.domain false) (Rows.histGrowsSpec.post enc Try.prog Try.f3 false true false false) := by
  refine returnsInHanded_of_change (C := Try.checked) histGrows_own started (by kernel_rfl) Try.func3
    (ChangeSpec.witness6 (enc := enc) (C := Try.checked) false ⟨#[], #[.slice none 0 0], []⟩ 8 (by kernel_rfl) (by kernel_rfl) (by kernel_rfl) (by kernel_rfl)) ?_
  intro W base args ds gs before hval hW _ _
  exact histGrows_calls hval hW
theorem histGrows_holds : Rows.HistGrowsSaid :=
  OpenClaim.holds_of_wide 3 Try.f3 rfl rfl rfl rfl rfl rfl rfl ⟨rfl, rfl, rfl, rfl, rfl⟩ rfl rfl rfl rfl rfl (by kernel_rfl) Try.func3 (by kernel_rfl)
    (of_decide_eq_true (by kernel_rfl)) (by unfold Func.isWrapper; first | (rw [if_pos (by decide +kernel)]; kernel_rfl) | (rw [if_neg (by decide +kernel)]; exact ⟨rfl, rfl⟩))
    (fun os started H enc _ => histGrows_lifted os started H enc)
#print axioms histGrows_holds
end Go.Proofs.Ytmbofdkjeobhjaa
