/- The law RmsgPuts: for every input it returns true, and its arguments read as they did. -/
import Derived.Test.YtnlcgekolgldcaaRmsgLawF
namespace Go.Proofs.Ytnlcgekolgldcaa
open Go.Sx Go Go.ChangeShapes Go.WideShapes Go.ChangeAt Go.RowKit
theorem rmsgPuts_own : ownKnob Try.prog.godebug = none := by kernel_rfl
theorem rmsgPuts_laid : laidOutB Try.prog = true := by kernel_rfl
set_option maxRecDepth 100000 in
theorem rmsgPuts_calls {H : Type} {enc : TypeId × Value → H} {W : World} {base : Nat} {args : Array Value} {ds gs : List (DataW H)} {before : List MemPlace} (hval : ∀ (j : Nat) (t : TypeId) (v : Value), Try.f6.params[j]? = some t → args[j]? = some v → Value.okWide Try.prog W .any base t v)
    (hW : DataW.Whole enc Try.prog Try.f6.params.toList Rows.rmsgPutsSpec.vars false W args.toList ds gs before) (hz : (DataW.weightsEach Try.prog (Try.f6.params.toList ++ Rows.rmsgPutsSpec.plain.varTypes Try.prog) (ds ++ gs)).all (· ≤ reachBytes) = true) :
    Calls Try.prog 6 args W fun e W' => ∃ v, e = .returned v ∧ Rows.rmsgPutsSpec.post enc Try.prog Try.f6 false true false false W args v W' :=
  law_post47 (s := Rows.rmsgPutsSpec) (tb := 4) (tys := [T27]) (F := F6) tabOk (by kernel_rfl) ok6 rmsgPuts_laid (by kernel_rfl) (by kernel_rfl) (by kernel_rfl) rfl (fun H ds h => by
      match ds, h with
      | [d1], _ => rfl)
    (fun x hx => ⟨(), lawPuts x hx⟩) hval hW hz
set_option maxRecDepth 100000 in
theorem rmsgPuts_lifted (os : Os) (started : os.Started) (H : Type) (enc : TypeId × Value → H) :
    ReturnsInHanded {} Try.checked os 6 .any (Rows.rmsgPutsSpec.pre6 enc Try.prog Try.f6 Rows.rmsgPutsRow.domain false) (Rows.rmsgPutsSpec.post enc Try.prog Try.f6 false true false false) := by
  refine returnsInHanded_of_change_sized (C := Try.checked) rmsgPuts_own started (by kernel_rfl) Try.func6
    (ChangeSpec.witness6 (enc := enc) (C := Try.checked) false ⟨#[], #[.agg #[.int .i64 0, .int .i64 0, .int .i64 0, .int .i64 0, .int .i64 0, .int .i64 0, .int .i64 0, .int .i64 0, .bool false, .slice none 0 0, .int .i64 0, .int .i64 0, .slice none 0 0]], []⟩ 8 (by kernel_rfl) (by kernel_rfl) (by kernel_rfl) (by kernel_rfl)) ?_
  intro W base args ds gs before hval hW _ hz _
  exact rmsgPuts_calls hval hW hz
theorem rmsgPuts_holds : Rows.RmsgPutsSaid :=
  OpenClaim.holds_of_wide 6 Try.f6 rfl rfl rfl rfl rfl rfl rfl ⟨rfl, rfl, rfl, rfl, rfl⟩ rfl rfl rfl rfl rfl (by kernel_rfl) Try.func6 (by kernel_rfl)
    (of_decide_eq_true (by kernel_rfl)) (by unfold Func.isWrapper; first | (rw [if_pos (by decide +kernel)]; kernel_rfl) | (rw [if_neg (by decide +kernel)]; exact ⟨rfl, rfl⟩))
    (fun os started H enc _ => rmsgPuts_lifted os started H enc)
#print axioms rmsgPuts_holds
end Go.Proofs.Ytnlcgekolgldcaa
