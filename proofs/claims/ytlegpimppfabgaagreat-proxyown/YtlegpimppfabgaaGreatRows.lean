/-
  No cell of these rows narrows 'for every input' (looked for: loops, veiled, ifaces, maps, wideKeys, modest, calm, conditions, laid).
  DERIVED. THE GIVEN ROWS OF THIS SEAT. 3 by the template 'for every input the law returns true; each argument reads behind the call as it read before'; 0 by the template 'total and deterministic' (their statements: YtlegpimppfabgaaGreatTotals.lean).
  GIVEN WITH THE SEED: the statements are not yours to turn. If you find one false, say at which input.
  Laid BY PROGRAM, IN A SANDBOX (cutbox-rows.mjs): the forced cells as the released guide's own fill.sh prints them over the translation e7ddaa81d1b1f920… (all of the seat's roots in one cut). By AI agents, Wed Nov 11 2026. No macro, syntax, notation, axiom, sorry.
-/
import Derived.Test.YtlegpimppfabgaaGreatChecked
import GoSem.Claim
import GoSem.ClaimJoined
import GoSem.ClaimMapViews
import Derived.JoinedTies
import Derived.KernelRfl
namespace Go.Proofs.YtlegpimppfabgaaGreat
/- THE CELL 'sum', in the pinned program and in every row, IS THE sha256 OF THE DUMP (.gsa) THAT YtlegpimppfabgaaGreatProg.lean LOADS. Nothing in Lean hashes anything: it is a label: what it is worth is what the hold of that sum in a sandbox is worth. -/
noncomputable def Tryz.pinned : Pinned := { name := "ytlegpimppfabgaagreat", sum := "e7ddaa81d1b1f92065b2d7f09f729a65ffc697d34514e6e1dd45a13f6e86f3af", checked := Tryz.checked }
namespace Rows
def none {H : Type} : Left H := { results := [], args := [] }

/-- 'decamplaw26.ProxyRises': WHATEVER THE INPUT: true; the input reads as it did. -/
def proxyRisesSpec : ChangeSpec := { name := "proxyRises", fn := fun _ => fun
  | [d1, d2, d3] => { results := [.lit (.bool true)], args := [d1, d2, d3] }
  | _ => none }
def proxyRisesRow : OpenClaim := { program := "ytlegpimppfabgaagreat", sum := "e7ddaa81d1b1f92065b2d7f09f729a65ffc697d34514e6e1dd45a13f6e86f3af", func := "decamp/decamplaw26.ProxyRises", spec := "proxyRises", unfollowed := true, recurses := true, apart := false }
def ProxyRisesSaid : Prop := proxyRisesRow.holds Tryz.pinned (OpenSpec.ofChange proxyRisesSpec)

/-- ITS FALSE NEIGHBOUR: 'it returns false'. Refute it at one input. -/
def proxyRisesWrong : ChangeSpec := { name := "proxyRises", fn := fun _ => fun
  | [d1, d2, d3] => { results := [.lit (.bool false)], args := [d1, d2, d3] }
  | _ => none }
def ProxyRisesWrongFalsely : Prop := proxyRisesRow.holds Tryz.pinned (OpenSpec.ofChange proxyRisesWrong)

/-- 'decamplaw26.ProxyNil': WHATEVER THE INPUT: true; the input reads as it did. -/
def proxyNilSpec : ChangeSpec := { name := "proxyNil", fn := fun _ => fun
  | [d] => { results := [.lit (.bool true)], args := [d] }
  | _ => none }
def proxyNilRow : OpenClaim := { program := "ytlegpimppfabgaagreat", sum := "e7ddaa81d1b1f92065b2d7f09f729a65ffc697d34514e6e1dd45a13f6e86f3af", func := "decamp/decamplaw26.ProxyNil", spec := "proxyNil", unfollowed := true, recurses := true, apart := false }
def ProxyNilSaid : Prop := proxyNilRow.holds Tryz.pinned (OpenSpec.ofChange proxyNilSpec)

/-- ITS FALSE NEIGHBOUR: 'it returns false'. Refute it at one input. -/
def proxyNilWrong : ChangeSpec := { name := "proxyNil", fn := fun _ => fun
  | [d] => { results := [.lit (.bool false)], args := [d] }
  | _ => none }
def ProxyNilWrongFalsely : Prop := proxyNilRow.holds Tryz.pinned (OpenSpec.ofChange proxyNilWrong)

/-- 'decamplaw26.ProxyOwn': WHATEVER THE INPUT: true; the input reads as it did. -/
def proxyOwnSpec : ChangeSpec := { name := "proxyOwn", fn := fun _ => fun
  | [d1, d2] => { results := [.lit (.bool true)], args := [d1, d2] }
  | _ => none }
def proxyOwnRow : OpenClaim := { program := "ytlegpimppfabgaagreat", sum := "e7ddaa81d1b1f92065b2d7f09f729a65ffc697d34514e6e1dd45a13f6e86f3af", func := "decamp/decamplaw26.ProxyOwn", spec := "proxyOwn", unfollowed := true, recurses := true, apart := false }
def ProxyOwnSaid : Prop := proxyOwnRow.holds Tryz.pinned (OpenSpec.ofChange proxyOwnSpec)

/-- ITS FALSE NEIGHBOUR: 'it returns false'. Refute it at one input. -/
def proxyOwnWrong : ChangeSpec := { name := "proxyOwn", fn := fun _ => fun
  | [d1, d2] => { results := [.lit (.bool false)], args := [d1, d2] }
  | _ => none }
def ProxyOwnWrongFalsely : Prop := proxyOwnRow.holds Tryz.pinned (OpenSpec.ofChange proxyOwnWrong)

/- THE SECOND FORM. 'bulk': how many values and letters a reading holds, each counted each time it is reached (what is shared counts as often as it is met; a slice's spare places count too). A statement '..UptoSaid' is the law's where the arguments, and the package variables that the reading takes, are together of bulk at most 1048576: NARROWER than '..Said'. Prove '..Said' where nothing that the law and all that it calls make is longer than what came in: it says more and counts as full. Else prove '..UptoSaid'. A law counts once. -/
mutual
def uptoBulk {H : Type} : DataW H → Nat
  | .lit (.string bytes) => bytes.length + 1
  | .lit _ => 1
  | .nil => 1
  | .ptr d => uptoBulk d + 1
  | .slice elems spare => uptoBulkAll elems + uptoBulkAll spare + 1
  | .agg parts => uptoBulkAll parts + 1
  | .iface _ d => uptoBulk d + 1
  | .map entries => uptoBulkEntries entries + 1
  | .held _ => 1
def uptoBulkAll {H : Type} : List (DataW H) → Nat
  | [] => 0
  | d :: r => uptoBulk d + uptoBulkAll r
def uptoBulkEntries {H : Type} : List (Lit × DataW H) → Nat
  | [] => 0
  | x :: r => uptoBulkEntry x + uptoBulkEntries r
def uptoBulkEntry {H : Type} : Lit × DataW H → Nat
  | (.string bytes, d) => bytes.length + uptoBulk d + 1
  | (_, d) => uptoBulk d + 1
 end
def uptoSmall : (H : Type) → List (DataW H) → Bool := fun _ ds => decide (uptoBulkAll ds ≤ 1048576)
def OpenSpec.upto (s : _root_.Go.ChangeSpec) : _root_.Go.OpenSpec := { _root_.Go.OpenSpec.ofChange s with cond := some uptoSmall }

/-- 'decamplaw26.ProxyRises', WHERE WHAT IT READS IS OF BULK AT MOST 1048576: true; the input reads as it did. -/
def proxyRisesUptoRow : OpenClaim := { program := "ytlegpimppfabgaagreat", sum := "e7ddaa81d1b1f92065b2d7f09f729a65ffc697d34514e6e1dd45a13f6e86f3af", func := "decamp/decamplaw26.ProxyRises", spec := "proxyRises", unfollowed := true, recurses := true, apart := false, narrowed := true }
def ProxyRisesUptoSaid : Prop := proxyRisesUptoRow.holds Tryz.pinned (OpenSpec.upto proxyRisesSpec)

/-- 'decamplaw26.ProxyNil', WHERE WHAT IT READS IS OF BULK AT MOST 1048576: true; the input reads as it did. -/
def proxyNilUptoRow : OpenClaim := { program := "ytlegpimppfabgaagreat", sum := "e7ddaa81d1b1f92065b2d7f09f729a65ffc697d34514e6e1dd45a13f6e86f3af", func := "decamp/decamplaw26.ProxyNil", spec := "proxyNil", unfollowed := true, recurses := true, apart := false, narrowed := true }
def ProxyNilUptoSaid : Prop := proxyNilUptoRow.holds Tryz.pinned (OpenSpec.upto proxyNilSpec)

/-- 'decamplaw26.ProxyOwn', WHERE WHAT IT READS IS OF BULK AT MOST 1048576: true; the input reads as it did. -/
def proxyOwnUptoRow : OpenClaim := { program := "ytlegpimppfabgaagreat", sum := "e7ddaa81d1b1f92065b2d7f09f729a65ffc697d34514e6e1dd45a13f6e86f3af", func := "decamp/decamplaw26.ProxyOwn", spec := "proxyOwn", unfollowed := true, recurses := true, apart := false, narrowed := true }
def ProxyOwnUptoSaid : Prop := proxyOwnUptoRow.holds Tryz.pinned (OpenSpec.upto proxyOwnSpec)

end Rows
end Go.Proofs.YtlegpimppfabgaaGreat
