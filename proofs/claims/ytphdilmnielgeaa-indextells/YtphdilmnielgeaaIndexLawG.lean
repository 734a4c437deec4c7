/-
  index: the laws of leases and of reading.
-/
import Derived.Test.YtphdilmnielgeaaIndexLawF
namespace Go.Proofs.Ytphdilmnielgeaa
open Go.Sx Go Classical
set_option maxRecDepth 10000
theorem items_self (l : List ItemD) (h : l.length ≤ 1000000) : F33 (l, l, ()) = some (true, ()) := by
  unfold F33
  simp only [decide_true, Bool.not_true, cond_false]
  refine loop_true (fun t => ∃ (k : Nat), k ≤ l.length ∧ t = ((k : Int), ())) (fun t => l.length - t.1.toNat) (fun t ht => ?_) ⟨0, Nat.zero_le _, rfl⟩ (by show l.length - 0 < _; omega)
  obtain ⟨k, hk, rfl⟩ := ht
  by_cases h : k < l.length
  · right
    simp only [lt_len, h, decide_true, cond_true, idx_nat, List.getElem?_eq_getElem h, Option.bind_some, BEq.rfl, Bool.and_self, Bool.not_true, cond_false, wrap64_nat (show k < 9223372036854775807 by omega)]
    exact ⟨_, rfl, ⟨k + 1, h, rfl⟩, by show l.length - (((k + 1 : Nat) : Int)).toNat < l.length - (k : Int).toNat; omega⟩
  · left
    have : k = l.length := by omega
    subst this
    simp only [lt_len, Nat.lt_irrefl, decide_false, cond_false]
end Go.Proofs.Ytphdilmnielgeaa
