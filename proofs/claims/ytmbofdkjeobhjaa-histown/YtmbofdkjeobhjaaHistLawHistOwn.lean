/- The law HistOwn: for every input it returns true, and its arguments read as they did. -/
import Derived.Test.YtmbofdkjeobhjaaHistPlainB
namespace Go.Proofs.Ytmbofdkjeobhjaa
open Go.Sx Go Go.ChangeShapes Go.WideShapes Go.ChangeAt Go.RowKit
theorem histOwn_own : ownKnob Try.prog.godebug = none := by kernel_rfl
theorem histOwn_laid : laidOutB Try.prog = true := by kernel_rfl
theorem histOwn_calls {H : Type} {enc : TypeId × Value → H} {W : World} {base : Nat} {args : Array Value} {ds gs : List (DataW H)} {before : List MemPlace} (hval : ∀ (j : Nat) (t : TypeId) (v : Value), Try.f4.params[j]? = some t → args[j]? = some v → Value.okWide Try.prog W .any base t v)
    (hW : DataW.Whole enc Try.prog Try.f4.params.toList Rows.histOwnSpec.vars false W args.toList ds gs before) :
    Calls Try.prog 4 args W fun e W' => ∃ v, e = .returned v ∧ Rows.histOwnSpec.post enc Try.prog Try.f4 false true false false W args v W' :=
  law_post (s := Rows.histOwnSpec) (tb := 4) (tys := [(.slice Act), Act, Act]) (F := F4) (K := fun _ => True) tabOk ok4 histOwn_laid (by kernel_rfl) (by kernel_rfl) (by kernel_rfl) rfl (fun H ds h => by
      match ds, h with
      | [d1, d2, d3], _ => rfl)
    (fun ds x hd hx hk => ⟨(), law4 x hx⟩) hval hW trivial
set_option maxRecDepth 100000 in
theorem histOwn_lifted (os : Os) (started : os.Started) (H : Type) (enc : TypeId × Value → H) :
    ReturnsInHanded {} Try.checked os 4 .any (Rows.histOwnSpec.pre6 enc Try.prog Try.f4 Rows.histOwnRow.domain false) (Rows.histOwnSpec.post enc Try.prog Try.f4 false true false false) := by
  refine returnsInHanded_of_change (C := Try.checked) histOwn_own started (by kernel_rfl) Try.func4
    (ChangeSpec.witness6 (enc := enc) (C := Try.checked) false ⟨#[], #[.slice none 0 0, .agg #[.int .u8 0, .int .i64 0, .int .i64 0, .string ByteArray.empty, .int .i64 0, .int .i64 0, .int .i64 0, .int .i64 0, .int .i64 0, .string ByteArray.empty, .int .i64 0, .bool false], .agg #[.int .u8 0, .int .i64 0, .int .i64 0, .string ByteArray.empty, .int .i64 0, .int .i64 0, .int .i64 0, .int .i64 0, .int .i64 0, .string ByteArray.empty, .int .i64 0, .bool false]], []⟩ 8 (by kernel_rfl) (by kernel_rfl) (by kernel_rfl) (by kernel_rfl)) ?_
  intro W base args ds gs before hval hW _ _
  exact histOwn_calls hval hW
theorem histOwn_holds : Rows.HistOwnSaid :=
  OpenClaim.holds_of_wide 4 Try.f4 rfl rfl rfl rfl rfl rfl rfl ⟨rfl, rfl, rfl, rfl, rfl⟩ rfl rfl rfl rfl rfl (by kernel_rfl) Try.func4 (by kernel_rfl)
    (of_decide_eq_true (by kernel_rfl)) (by unfold Func.isWrapper; first | (rw [if_pos (by decide +kernel)]; kernel_rfl) | (rw [if_neg (by decide +kernel)]; exact ⟨rfl, rfl⟩))
    (fun os started H enc _ => histOwn_lifted os started H enc)
#print axioms histOwn_holds
end Go.Proofs.Ytmbofdkjeobhjaa
