/- The law CallerPlays: for every input it returns true, and its arguments read as they did. -/
import Derived.Test.YtkiakaokgoodhaaGreatCallLawD
namespace Go.Proofs.YtkiakaokgoodhaaGreat
open Go.Sx Go Go.ChangeShapes Go.WideShapes Go.ChangeAt Go.RowKit
theorem callerPlays_own : ownKnob Tryz.prog.godebug = none := by kernel_rfl
theorem callerPlays_laid : laidOutB Tryz.prog = true := by kernel_rfl
set_option maxRecDepth 100000 in
theorem callerPlays_calls {H : Type} {enc : TypeId × Value → H} {W : World} {base : Nat} {args : Array Value} {ds gs : List (DataW H)} {before : List MemPlace} (hval : ∀ (j : Nat) (t : TypeId) (v : Value), Tryz.f5.params[j]? = some t → args[j]? = some v → Value.okWide Tryz.prog W .any base t v)
    (hW : DataW.Whole enc Tryz.prog Tryz.f5.params.toList Rows.callerPlaysSpec.vars false W args.toList ds gs before) (hz : (DataW.weightsEach Tryz.prog (Tryz.f5.params.toList ++ Rows.callerPlaysSpec.plain.varTypes Tryz.prog) (ds ++ gs)).all (· ≤ reachBytes) = true) :
    Calls Tryz.prog 5 args W fun e W' => ∃ v, e = .returned v ∧ Rows.callerPlaysSpec.post enc Tryz.prog Tryz.f5 false true false false W args v W' :=
  law_postM (s := Rows.callerPlaysSpec) (tb := 4) (tys := [(.int .i64), (.int .i64), (.int .i64), (.int .i64), (.int .i64), (.slice Y78)]) (F := F5) tabOk (by kernel_rfl) (by kernel_rfl) ok5 callerPlays_laid (by kernel_rfl) (by kernel_rfl) (by kernel_rfl) rfl (fun H ds h => by
      match ds, h with
      | [d1, d2, d3, d4, d5, d6], _ => rfl)
    (fun x hx hm => ⟨(), lawPlays x hx hm⟩) hval hW hz
set_option maxRecDepth 100000 in
theorem callerPlays_lifted (os : Os) (started : os.Started) (H : Type) (enc : TypeId × Value → H) :
    ReturnsInHanded {} Tryz.checked os 5 .any (Rows.callerPlaysSpec.pre6 enc Tryz.prog Tryz.f5 Rows.callerPlaysRow.domain false) (Rows.callerPlaysSpec.post enc Tryz.prog Tryz.f5 false true false false) := by
  refine returnsInHanded_of_change_sized (C := Tryz.checked) callerPlays_own started (by kernel_rfl) Tryz.func5
    (ChangeSpec.witness6 (enc := enc) (C := Tryz.checked) false ⟨#[], #[.int .i64 0, .int .i64 0, .int .i64 0, .int .i64 0, .int .i64 0, .slice none 0 0], []⟩ 8 (by kernel_rfl) (by kernel_rfl) (by kernel_rfl) (by kernel_rfl)) ?_
  intro W base args ds gs before hval hW _ hz _
  exact callerPlays_calls hval hW hz
theorem callerPlays_holds : Rows.CallerPlaysSaid :=
  OpenClaim.holds_of_wide 5 Tryz.f5 rfl rfl rfl rfl rfl rfl rfl ⟨rfl, rfl, rfl, rfl, rfl⟩ rfl rfl rfl rfl rfl (by kernel_rfl) Tryz.func5 (by kernel_rfl)
    (of_decide_eq_true (by kernel_rfl)) (by unfold Func.isWrapper; first | (rw [if_pos (by decide +kernel)]; kernel_rfl) | (rw [if_neg (by decide +kernel)]; exact ⟨rfl, rfl⟩))
    (fun os started H enc _ => callerPlays_lifted os started H enc)
#print axioms callerPlays_holds
end Go.Proofs.YtkiakaokgoodhaaGreat
