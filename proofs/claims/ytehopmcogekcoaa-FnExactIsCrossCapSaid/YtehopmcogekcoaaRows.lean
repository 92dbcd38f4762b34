/-
  No cell of these rows narrows 'for every input' (looked for: loops, veiled, ifaces, maps, wideKeys, modest, calm, conditions, laid).
  DERIVED. THE GIVEN ROWS OF THIS SEAT. 6 by the template 'for every input the law returns true; each argument reads behind the call as it read before'; 0 by the template 'total and deterministic' (their statements: YtehopmcogekcoaaTotals.lean).
  GIVEN WITH THE SEED: the statements are not yours to turn. If you find one false, say at which input.
  Laid BY PROGRAM, IN A SANDBOX (cutbox-rows.mjs): the forced cells as the released guide's own fill.sh prints them over the translation 5a722422b65bca1d… (all of the seat's roots in one cut). By AI agents, Wed Nov 11 2026. No macro, syntax, notation, axiom, sorry.
-/
import Derived.Test.YtehopmcogekcoaaChecked
import GoSem.Claim
import GoSem.ClaimJoined
import GoSem.ClaimMapViews
import Derived.JoinedTies
import Derived.KernelRfl
namespace Go.Proofs.Ytehopmcogekcoaa
/- THE CELL 'sum', in the pinned program and in every row, IS THE sha256 OF THE DUMP (.gsa) THAT YtehopmcogekcoaaProg.lean LOADS. Nothing in Lean hashes anything: it is a label: what it is worth is what the hold of that sum in a sandbox is worth. -/
noncomputable def Try.pinned : Pinned := { name := "ytehopmcogekcoaa", sum := "5a722422b65bca1d25dcfd7078b2bc2a89ad185858d0d03b3e6a561327c918da", checked := Try.checked }
namespace Rows
def none {H : Type} : Left H := { results := [], args := [] }

/-- 'laws.FnExactSandwichOf': WHATEVER THE INPUT: true; the input reads as it did. -/
def fnExactSandwichOfSpec : ChangeSpec := { name := "fnExactSandwichOf", fn := fun _ => fun
  | [d1, d2] => { results := [.lit (.bool true)], args := [d1, d2] }
  | _ => none }
def fnExactSandwichOfRow : OpenClaim := { program := "ytehopmcogekcoaa", sum := "5a722422b65bca1d25dcfd7078b2bc2a89ad185858d0d03b3e6a561327c918da", func := "loop.example/g01267/laws.FnExactSandwichOf", spec := "fnExactSandwichOf", unfollowed := true, recurses := true, apart := false }
def FnExactSandwichOfSaid : Prop := fnExactSandwichOfRow.holds Try.pinned (OpenSpec.ofChange fnExactSandwichOfSpec)

/-- ITS FALSE NEIGHBOUR: 'it returns false'. Refute it at one input. -/
def fnExactSandwichOfWrong : ChangeSpec := { name := "fnExactSandwichOf", fn := fun _ => fun
  | [d1, d2] => { results := [.lit (.bool false)], args := [d1, d2] }
  | _ => none }
def FnExactSandwichOfWrongFalsely : Prop := fnExactSandwichOfRow.holds Try.pinned (OpenSpec.ofChange fnExactSandwichOfWrong)

/-- 'laws.FnExactUnzipVector': WHATEVER THE INPUT: true; the input reads as it did. -/
def fnExactUnzipVectorSpec : ChangeSpec := { name := "fnExactUnzipVector", fn := fun _ => fun
  | [d1, d2] => { results := [.lit (.bool true)], args := [d1, d2] }
  | _ => none }
def fnExactUnzipVectorRow : OpenClaim := { program := "ytehopmcogekcoaa", sum := "5a722422b65bca1d25dcfd7078b2bc2a89ad185858d0d03b3e6a561327c918da", func := "loop.example/g01267/laws.FnExactUnzipVector", spec := "fnExactUnzipVector", unfollowed := true, recurses := true, apart := false }
def FnExactUnzipVectorSaid : Prop := fnExactUnzipVectorRow.holds Try.pinned (OpenSpec.ofChange fnExactUnzipVectorSpec)

/-- ITS FALSE NEIGHBOUR: 'it returns false'. Refute it at one input. -/
def fnExactUnzipVectorWrong : ChangeSpec := { name := "fnExactUnzipVector", fn := fun _ => fun
  | [d1, d2] => { results := [.lit (.bool false)], args := [d1, d2] }
  | _ => none }
def FnExactUnzipVectorWrongFalsely : Prop := fnExactUnzipVectorRow.holds Try.pinned (OpenSpec.ofChange fnExactUnzipVectorWrong)

/-- 'laws.FnExactGroupPair': WHATEVER THE INPUT: true; the input reads as it did. -/
def fnExactGroupPairSpec : ChangeSpec := { name := "fnExactGroupPair", fn := fun _ => fun
  | [d1, d2] => { results := [.lit (.bool true)], args := [d1, d2] }
  | _ => none }
def fnExactGroupPairRow : OpenClaim := { program := "ytehopmcogekcoaa", sum := "5a722422b65bca1d25dcfd7078b2bc2a89ad185858d0d03b3e6a561327c918da", func := "loop.example/g01267/laws.FnExactGroupPair", spec := "fnExactGroupPair", unfollowed := true, recurses := true, apart := false }
def FnExactGroupPairSaid : Prop := fnExactGroupPairRow.holds Try.pinned (OpenSpec.ofChange fnExactGroupPairSpec)

/-- ITS FALSE NEIGHBOUR: 'it returns false'. Refute it at one input. -/
def fnExactGroupPairWrong : ChangeSpec := { name := "fnExactGroupPair", fn := fun _ => fun
  | [d1, d2] => { results := [.lit (.bool false)], args := [d1, d2] }
  | _ => none }
def FnExactGroupPairWrongFalsely : Prop := fnExactGroupPairRow.holds Try.pinned (OpenSpec.ofChange fnExactGroupPairWrong)

/-- 'laws.FnExactIsCardyPair': WHATEVER THE INPUT: true; the input reads as it did. -/
def fnExactIsCardyPairSpec : ChangeSpec := { name := "fnExactIsCardyPair", fn := fun _ => fun
  | [d] => { results := [.lit (.bool true)], args := [d] }
  | _ => none }
def fnExactIsCardyPairRow : OpenClaim := { program := "ytehopmcogekcoaa", sum := "5a722422b65bca1d25dcfd7078b2bc2a89ad185858d0d03b3e6a561327c918da", func := "loop.example/g01267/laws.FnExactIsCardyPair", spec := "fnExactIsCardyPair", unfollowed := true, recurses := true, apart := false }
def FnExactIsCardyPairSaid : Prop := fnExactIsCardyPairRow.holds Try.pinned (OpenSpec.ofChange fnExactIsCardyPairSpec)

/-- ITS FALSE NEIGHBOUR: 'it returns false'. Refute it at one input. -/
def fnExactIsCardyPairWrong : ChangeSpec := { name := "fnExactIsCardyPair", fn := fun _ => fun
  | [d] => { results := [.lit (.bool false)], args := [d] }
  | _ => none }
def FnExactIsCardyPairWrongFalsely : Prop := fnExactIsCardyPairRow.holds Try.pinned (OpenSpec.ofChange fnExactIsCardyPairWrong)

/-- 'laws.FnExactIsCrossCap': WHATEVER THE INPUT: true; the input reads as it did. -/
def fnExactIsCrossCapSpec : ChangeSpec := { name := "fnExactIsCrossCap", fn := fun _ => fun
  | [d1, d2, d3] => { results := [.lit (.bool true)], args := [d1, d2, d3] }
  | _ => none }
def fnExactIsCrossCapRow : OpenClaim := { program := "ytehopmcogekcoaa", sum := "5a722422b65bca1d25dcfd7078b2bc2a89ad185858d0d03b3e6a561327c918da", func := "loop.example/g01267/laws.FnExactIsCrossCap", spec := "fnExactIsCrossCap", unfollowed := true, recurses := true, apart := false }
def FnExactIsCrossCapSaid : Prop := fnExactIsCrossCapRow.holds Try.pinned (OpenSpec.ofChange fnExactIsCrossCapSpec)

/-- ITS FALSE NEIGHBOUR: 'it returns false'. Refute it at one input. -/
def fnExactIsCrossCapWrong : ChangeSpec := { name := "fnExactIsCrossCap", fn := fun _ => fun
  | [d1, d2, d3] => { results := [.lit (.bool false)], args := [d1, d2, d3] }
  | _ => none }
def FnExactIsCrossCapWrongFalsely : Prop := fnExactIsCrossCapRow.holds Try.pinned (OpenSpec.ofChange fnExactIsCrossCapWrong)

/-- 'laws.FnExactBoundaryNumber': WHATEVER THE INPUT: true; the input reads as it did. -/
def fnExactBoundaryNumberSpec : ChangeSpec := { name := "fnExactBoundaryNumber", fn := fun _ => fun
  | [d1, d2, d3] => { results := [.lit (.bool true)], args := [d1, d2, d3] }
  | _ => none }
def fnExactBoundaryNumberRow : OpenClaim := { program := "ytehopmcogekcoaa", sum := "5a722422b65bca1d25dcfd7078b2bc2a89ad185858d0d03b3e6a561327c918da", func := "loop.example/g01267/laws.FnExactBoundaryNumber", spec := "fnExactBoundaryNumber", unfollowed := true, recurses := true, apart := false }
def FnExactBoundaryNumberSaid : Prop := fnExactBoundaryNumberRow.holds Try.pinned (OpenSpec.ofChange fnExactBoundaryNumberSpec)

/-- ITS FALSE NEIGHBOUR: 'it returns false'. Refute it at one input. -/
def fnExactBoundaryNumberWrong : ChangeSpec := { name := "fnExactBoundaryNumber", fn := fun _ => fun
  | [d1, d2, d3] => { results := [.lit (.bool false)], args := [d1, d2, d3] }
  | _ => none }
def FnExactBoundaryNumberWrongFalsely : Prop := fnExactBoundaryNumberRow.holds Try.pinned (OpenSpec.ofChange fnExactBoundaryNumberWrong)

/- THE SECOND FORM. 'bulk': how many values and letters a reading holds, each counted each time it is reached (what is shared counts as often as it is met; a slice's spare places count too). A statement '..UptoSaid' is the law's where the arguments, and the package variables that the reading takes, are together of bulk at most 1048576: NARROWER than '..Said'. Prove '..Said' where nothing that the law and all that it calls make is longer than what came in: it says more and counts as full. Else prove '..UptoSaid'. A law counts once. -/
mutual
def uptoBulk {H : Type} : DataW H → Nat
  | .lit (.string bytes) => bytes.length + 1
  | .lit _ => 1
  | .nil => 1
  | .ptr d => uptoBulk d + 1
  | .slice elems spare => uptoBulkAll elems + uptoBulkAll spare + 1
  | .agg parts => uptoBulkAll parts + 1
  | .iface _ d => uptoBulk d + 1
  | .map entries => uptoBulkEntries entries + 1
  | .held _ => 1
def uptoBulkAll {H : Type} : List (DataW H) → Nat
  | [] => 0
  | d :: r => uptoBulk d + uptoBulkAll r
def uptoBulkEntries {H : Type} : List (Lit × DataW H) → Nat
  | [] => 0
  | x :: r => uptoBulkEntry x + uptoBulkEntries r
def uptoBulkEntry {H : Type} : Lit × DataW H → Nat
  | (.string bytes, d) => bytes.length + uptoBulk d + 1
  | (_, d) => uptoBulk d + 1
 end
def uptoSmall : (H : Type) → List (DataW H) → Bool := fun _ ds => decide (uptoBulkAll ds ≤ 1048576)
def OpenSpec.upto (s : _root_.Go.ChangeSpec) : _root_.Go.OpenSpec := { _root_.Go.OpenSpec.ofChange s with cond := some uptoSmall }

/-- 'laws.FnExactSandwichOf', WHERE WHAT IT READS IS OF BULK AT MOST 1048576: true; the input reads as it did. -/
def fnExactSandwichOfUptoRow : OpenClaim := { program := "ytehopmcogekcoaa", sum := "5a722422b65bca1d25dcfd7078b2bc2a89ad185858d0d03b3e6a561327c918da", func := "loop.example/g01267/laws.FnExactSandwichOf", spec := "fnExactSandwichOf", unfollowed := true, recurses := true, apart := false, narrowed := true }
def FnExactSandwichOfUptoSaid : Prop := fnExactSandwichOfUptoRow.holds Try.pinned (OpenSpec.upto fnExactSandwichOfSpec)

/-- 'laws.FnExactUnzipVector', WHERE WHAT IT READS IS OF BULK AT MOST 1048576: true; the input reads as it did. -/
def fnExactUnzipVectorUptoRow : OpenClaim := { program := "ytehopmcogekcoaa", sum := "5a722422b65bca1d25dcfd7078b2bc2a89ad185858d0d03b3e6a561327c918da", func := "loop.example/g01267/laws.FnExactUnzipVector", spec := "fnExactUnzipVector", unfollowed := true, recurses := true, apart := false, narrowed := true }
def FnExactUnzipVectorUptoSaid : Prop := fnExactUnzipVectorUptoRow.holds Try.pinned (OpenSpec.upto fnExactUnzipVectorSpec)

/-- 'laws.FnExactGroupPair', WHERE WHAT IT READS IS OF BULK AT MOST 1048576: true; the input reads as it did. -/
def fnExactGroupPairUptoRow : OpenClaim := { program := "ytehopmcogekcoaa", sum := "5a722422b65bca1d25dcfd7078b2bc2a89ad185858d0d03b3e6a561327c918da", func := "loop.example/g01267/laws.FnExactGroupPair", spec := "fnExactGroupPair", unfollowed := true, recurses := true, apart := false, narrowed := true }
def FnExactGroupPairUptoSaid : Prop := fnExactGroupPairUptoRow.holds Try.pinned (OpenSpec.upto fnExactGroupPairSpec)

/-- 'laws.FnExactIsCardyPair', WHERE WHAT IT READS IS OF BULK AT MOST 1048576: true; the input reads as it did. -/
def fnExactIsCardyPairUptoRow : OpenClaim := { program := "ytehopmcogekcoaa", sum := "5a722422b65bca1d25dcfd7078b2bc2a89ad185858d0d03b3e6a561327c918da", func := "loop.example/g01267/laws.FnExactIsCardyPair", spec := "fnExactIsCardyPair", unfollowed := true, recurses := true, apart := false, narrowed := true }
def FnExactIsCardyPairUptoSaid : Prop := fnExactIsCardyPairUptoRow.holds Try.pinned (OpenSpec.upto fnExactIsCardyPairSpec)

/-- 'laws.FnExactIsCrossCap', WHERE WHAT IT READS IS OF BULK AT MOST 1048576: true; the input reads as it did. -/
def fnExactIsCrossCapUptoRow : OpenClaim := { program := "ytehopmcogekcoaa", sum := "5a722422b65bca1d25dcfd7078b2bc2a89ad185858d0d03b3e6a561327c918da", func := "loop.example/g01267/laws.FnExactIsCrossCap", spec := "fnExactIsCrossCap", unfollowed := true, recurses := true, apart := false, narrowed := true }
def FnExactIsCrossCapUptoSaid : Prop := fnExactIsCrossCapUptoRow.holds Try.pinned (OpenSpec.upto fnExactIsCrossCapSpec)

/-- 'laws.FnExactBoundaryNumber', WHERE WHAT IT READS IS OF BULK AT MOST 1048576: true; the input reads as it did. -/
def fnExactBoundaryNumberUptoRow : OpenClaim := { program := "ytehopmcogekcoaa", sum := "5a722422b65bca1d25dcfd7078b2bc2a89ad185858d0d03b3e6a561327c918da", func := "loop.example/g01267/laws.FnExactBoundaryNumber", spec := "fnExactBoundaryNumber", unfollowed := true, recurses := true, apart := false, narrowed := true }
def FnExactBoundaryNumberUptoSaid : Prop := fnExactBoundaryNumberUptoRow.holds Try.pinned (OpenSpec.upto fnExactBoundaryNumberSpec)

end Rows
end Go.Proofs.Ytehopmcogekcoaa
