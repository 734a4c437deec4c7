/- The law LeaseOwn: for every input it returns true, and its arguments read as they did. -/
import Derived.Test.YtmgniagajmfhaaaLeaseLawE
namespace Go.Proofs.Ytmgniagajmfhaaa
open Go.Sx Go Go.ChangeShapes Go.WideShapes Go.ChangeAt Go.RowKit
theorem leaseOwn_own : ownKnob Try.prog.godebug = none := by kernel_rfl
theorem leaseOwn_laid : laidOutB Try.prog = true := by kernel_rfl
set_option maxRecDepth 100000 in
theorem leaseOwn_calls {H : Type} {enc : TypeId × Value → H} {W : World} {base : Nat} {args : Array Value} {ds gs : List (DataW H)} {before : List MemPlace} (hval : ∀ (j : Nat) (t : TypeId) (v : Value), Try.f6.params[j]? = some t → args[j]? = some v → Value.okWide Try.prog W .any base t v)
    (hW : DataW.Whole enc Try.prog Try.f6.params.toList Rows.leaseOwnSpec.vars false W args.toList ds gs before) (hz : (DataW.weightsEach Try.prog (Try.f6.params.toList ++ Rows.leaseOwnSpec.plain.varTypes Try.prog) (ds ++ gs)).all (· ≤ reachBytes) = true) :
    Calls Try.prog 6 args W fun e W' => ∃ v, e = .returned v ∧ Rows.leaseOwnSpec.post enc Try.prog Try.f6 false true false false W args v W' :=
  law_post47 (s := Rows.leaseOwnSpec) (tb := 4) (tys := [(.slice T36), (.slice T36), (.int .i64)]) (F := F6) tabOk (by kernel_rfl) ok6 leaseOwn_laid (by kernel_rfl) (by kernel_rfl) (by kernel_rfl) rfl (fun H ds h => by
      match ds, h with
      | [d1, d2, d3], _ => rfl)
    (fun x hx => ⟨(), lawOwn x hx⟩) hval hW hz
set_option maxRecDepth 100000 in
theorem leaseOwn_lifted (os : Os) (started : os.Started) (H : Type) (enc : TypeId × Value → H) :
    ReturnsInHanded {} Try.checked os 6 .any (Rows.leaseOwnSpec.pre6 enc Try.prog Try.f6 Rows.leaseOwnRow.domain false) (Rows.leaseOwnSpec.post enc Try.prog Try.f6 false true false false) := by
  refine returnsInHanded_of_change_sized (C := Try.checked) leaseOwn_own started (by kernel_rfl) Try.func6
    (ChangeSpec.witness6 (enc := enc) (C := Try.checked) false ⟨#[], #[.slice none 0 0, .slice none 0 0, .int .i64 0], []⟩ 8 (by kernel_rfl) (by kernel_rfl) (by kernel_rfl) (by kernel_rfl)) ?_
  intro W base args ds gs before hval hW _ hz _
  exact leaseOwn_calls hval hW hz
theorem leaseOwn_holds : Rows.LeaseOwnSaid :=
  OpenClaim.holds_of_wide 6 Try.f6 rfl rfl rfl rfl rfl rfl rfl ⟨rfl, rfl, rfl, rfl, rfl⟩ rfl rfl rfl rfl rfl (by kernel_rfl) Try.func6 (by kernel_rfl)
    (of_decide_eq_true (by kernel_rfl)) (by unfold Func.isWrapper; first | (rw [if_pos (by decide +kernel)]; kernel_rfl) | (rw [if_neg (by decide +kernel)]; exact ⟨rfl, rfl⟩))
    (fun os started H enc _ => leaseOwn_lifted os started H enc)
#print axioms leaseOwn_holds
end Go.Proofs.Ytmgniagajmfhaaa
