/-
  No cell of these rows narrows 'for every input' (looked for: loops, veiled, ifaces, maps, wideKeys, modest, calm, conditions, laid).
  DERIVED. THE GIVEN ROWS OF THIS SEAT. 11 by the template 'for every input the law returns true; each argument reads behind the call as it read before'; 0 by the template 'total and deterministic' (their statements: YtckpoeaagbmlbaaGreatTotals.lean).
  GIVEN WITH THE SEED: the statements are not yours to turn. If you find one false, say at which input.
  Laid BY PROGRAM, IN A SANDBOX (cutbox-rows.mjs): the forced cells as the released guide's own fill.sh prints them over the translation e9ebeade0c766106… (all of the seat's roots in one cut). By AI agents, Wed Nov 11 2026. No macro, syntax, notation, axiom, sorry.
-/
import Derived.Test.YtckpoeaagbmlbaaGreatChecked
import GoSem.Claim
import GoSem.ClaimJoined
import GoSem.ClaimMapViews
import Derived.JoinedTies
import Derived.KernelRfl
namespace Go.Proofs.YtckpoeaagbmlbaaGreat
/- THE CELL 'sum', in the pinned program and in every row, IS THE sha256 OF THE DUMP (.gsa) THAT YtckpoeaagbmlbaaGreatProg.lean LOADS. Nothing in Lean hashes anything: it is a label: what it is worth is what the hold of that sum in a sandbox is worth. -/
noncomputable def Tryz.pinned : Pinned := { name := "ytckpoeaagbmlbaagreat", sum := "e9ebeade0c766106f7eccfbd238a1c201895789bd7152a33169311e9ba29dc79", checked := Tryz.checked }
namespace Rows
def none {H : Type} : Left H := { results := [], args := [] }

/-- 'laws.FnExactUnorientedNumber': WHATEVER THE INPUT: true; the input reads as it did. -/
def fnExactUnorientedNumberSpec : ChangeSpec := { name := "fnExactUnorientedNumber", fn := fun _ => fun
  | [d1, d2, d3, d4, d5] => { results := [.lit (.bool true)], args := [d1, d2, d3, d4, d5] }
  | _ => none }
def fnExactUnorientedNumberRow : OpenClaim := { program := "ytckpoeaagbmlbaagreat", sum := "e9ebeade0c766106f7eccfbd238a1c201895789bd7152a33169311e9ba29dc79", func := "loop.example/g01267/laws.FnExactUnorientedNumber", spec := "fnExactUnorientedNumber", unfollowed := true, recurses := true, apart := false }
def FnExactUnorientedNumberSaid : Prop := fnExactUnorientedNumberRow.holds Tryz.pinned (OpenSpec.ofChange fnExactUnorientedNumberSpec)

/-- ITS FALSE NEIGHBOUR: 'it returns false'. Refute it at one input. -/
def fnExactUnorientedNumberWrong : ChangeSpec := { name := "fnExactUnorientedNumber", fn := fun _ => fun
  | [d1, d2, d3, d4, d5] => { results := [.lit (.bool false)], args := [d1, d2, d3, d4, d5] }
  | _ => none }
def FnExactUnorientedNumberWrongFalsely : Prop := fnExactUnorientedNumberRow.holds Tryz.pinned (OpenSpec.ofChange fnExactUnorientedNumberWrong)

/-- 'laws.FnExactStateSum': WHATEVER THE INPUT: true; the input reads as it did. -/
def fnExactStateSumSpec : ChangeSpec := { name := "fnExactStateSum", fn := fun _ => fun
  | [d1, d2] => { results := [.lit (.bool true)], args := [d1, d2] }
  | _ => none }
def fnExactStateSumRow : OpenClaim := { program := "ytckpoeaagbmlbaagreat", sum := "e9ebeade0c766106f7eccfbd238a1c201895789bd7152a33169311e9ba29dc79", func := "loop.example/g01267/laws.FnExactStateSum", spec := "fnExactStateSum", unfollowed := true, recurses := true, apart := false }
def FnExactStateSumSaid : Prop := fnExactStateSumRow.holds Tryz.pinned (OpenSpec.ofChange fnExactStateSumSpec)

/-- ITS FALSE NEIGHBOUR: 'it returns false'. Refute it at one input. -/
def fnExactStateSumWrong : ChangeSpec := { name := "fnExactStateSum", fn := fun _ => fun
  | [d1, d2] => { results := [.lit (.bool false)], args := [d1, d2] }
  | _ => none }
def FnExactStateSumWrongFalsely : Prop := fnExactStateSumRow.holds Tryz.pinned (OpenSpec.ofChange fnExactStateSumWrong)

/-- 'laws.FnExactIsLocal': WHATEVER THE INPUT: true; the input reads as it did. -/
def fnExactIsLocalSpec : ChangeSpec := { name := "fnExactIsLocal", fn := fun _ => fun
  | [d] => { results := [.lit (.bool true)], args := [d] }
  | _ => none }
def fnExactIsLocalRow : OpenClaim := { program := "ytckpoeaagbmlbaagreat", sum := "e9ebeade0c766106f7eccfbd238a1c201895789bd7152a33169311e9ba29dc79", func := "loop.example/g01267/laws.FnExactIsLocal", spec := "fnExactIsLocal", inPlace := ["internal/bytealg.Compare"], unfollowed := true, recurses := true, apart := false }
def FnExactIsLocalSaid : Prop := fnExactIsLocalRow.holds Tryz.pinned (OpenSpec.ofChange fnExactIsLocalSpec)

/-- ITS FALSE NEIGHBOUR: 'it returns false'. Refute it at one input. -/
def fnExactIsLocalWrong : ChangeSpec := { name := "fnExactIsLocal", fn := fun _ => fun
  | [d] => { results := [.lit (.bool false)], args := [d] }
  | _ => none }
def FnExactIsLocalWrongFalsely : Prop := fnExactIsLocalRow.holds Tryz.pinned (OpenSpec.ofChange fnExactIsLocalWrong)

/-- 'laws.FnExactCountIdempotents': WHATEVER THE INPUT: true; the input reads as it did. -/
def fnExactCountIdempotentsSpec : ChangeSpec := { name := "fnExactCountIdempotents", fn := fun _ => fun
  | [d] => { results := [.lit (.bool true)], args := [d] }
  | _ => none }
def fnExactCountIdempotentsRow : OpenClaim := { program := "ytckpoeaagbmlbaagreat", sum := "e9ebeade0c766106f7eccfbd238a1c201895789bd7152a33169311e9ba29dc79", func := "loop.example/g01267/laws.FnExactCountIdempotents", spec := "fnExactCountIdempotents", inPlace := ["internal/bytealg.Compare"], unfollowed := true, recurses := true, apart := false }
def FnExactCountIdempotentsSaid : Prop := fnExactCountIdempotentsRow.holds Tryz.pinned (OpenSpec.ofChange fnExactCountIdempotentsSpec)

/-- ITS FALSE NEIGHBOUR: 'it returns false'. Refute it at one input. -/
def fnExactCountIdempotentsWrong : ChangeSpec := { name := "fnExactCountIdempotents", fn := fun _ => fun
  | [d] => { results := [.lit (.bool false)], args := [d] }
  | _ => none }
def FnExactCountIdempotentsWrongFalsely : Prop := fnExactCountIdempotentsRow.holds Tryz.pinned (OpenSpec.ofChange fnExactCountIdempotentsWrong)

/-- 'laws.FnExactIsPrimitive': WHATEVER THE INPUT: true; the input reads as it did. -/
def fnExactIsPrimitiveSpec : ChangeSpec := { name := "fnExactIsPrimitive", fn := fun _ => fun
  | [d1, d2] => { results := [.lit (.bool true)], args := [d1, d2] }
  | _ => none }
def fnExactIsPrimitiveRow : OpenClaim := { program := "ytckpoeaagbmlbaagreat", sum := "e9ebeade0c766106f7eccfbd238a1c201895789bd7152a33169311e9ba29dc79", func := "loop.example/g01267/laws.FnExactIsPrimitive", spec := "fnExactIsPrimitive", inPlace := ["internal/bytealg.Compare"], unfollowed := true, recurses := true, apart := false }
def FnExactIsPrimitiveSaid : Prop := fnExactIsPrimitiveRow.holds Tryz.pinned (OpenSpec.ofChange fnExactIsPrimitiveSpec)

/-- ITS FALSE NEIGHBOUR: 'it returns false'. Refute it at one input. -/
def fnExactIsPrimitiveWrong : ChangeSpec := { name := "fnExactIsPrimitive", fn := fun _ => fun
  | [d1, d2] => { results := [.lit (.bool false)], args := [d1, d2] }
  | _ => none }
def FnExactIsPrimitiveWrongFalsely : Prop := fnExactIsPrimitiveRow.holds Tryz.pinned (OpenSpec.ofChange fnExactIsPrimitiveWrong)

/-- 'laws.FnExactPrimitiveIdempotents': WHATEVER THE INPUT: true; the input reads as it did. -/
def fnExactPrimitiveIdempotentsSpec : ChangeSpec := { name := "fnExactPrimitiveIdempotents", fn := fun _ => fun
  | [d] => { results := [.lit (.bool true)], args := [d] }
  | _ => none }
def fnExactPrimitiveIdempotentsRow : OpenClaim := { program := "ytckpoeaagbmlbaagreat", sum := "e9ebeade0c766106f7eccfbd238a1c201895789bd7152a33169311e9ba29dc79", func := "loop.example/g01267/laws.FnExactPrimitiveIdempotents", spec := "fnExactPrimitiveIdempotents", inPlace := ["internal/bytealg.Compare"], unfollowed := true, recurses := true, apart := false }
def FnExactPrimitiveIdempotentsSaid : Prop := fnExactPrimitiveIdempotentsRow.holds Tryz.pinned (OpenSpec.ofChange fnExactPrimitiveIdempotentsSpec)

/-- ITS FALSE NEIGHBOUR: 'it returns false'. Refute it at one input. -/
def fnExactPrimitiveIdempotentsWrong : ChangeSpec := { name := "fnExactPrimitiveIdempotents", fn := fun _ => fun
  | [d] => { results := [.lit (.bool false)], args := [d] }
  | _ => none }
def FnExactPrimitiveIdempotentsWrongFalsely : Prop := fnExactPrimitiveIdempotentsRow.holds Tryz.pinned (OpenSpec.ofChange fnExactPrimitiveIdempotentsWrong)

/-- 'laws.FnExactIsSplit': WHATEVER THE INPUT: true; the input reads as it did. -/
def fnExactIsSplitSpec : ChangeSpec := { name := "fnExactIsSplit", fn := fun _ => fun
  | [d] => { results := [.lit (.bool true)], args := [d] }
  | _ => none }
def fnExactIsSplitRow : OpenClaim := { program := "ytckpoeaagbmlbaagreat", sum := "e9ebeade0c766106f7eccfbd238a1c201895789bd7152a33169311e9ba29dc79", func := "loop.example/g01267/laws.FnExactIsSplit", spec := "fnExactIsSplit", inPlace := ["internal/bytealg.Compare"], unfollowed := true, recurses := true, apart := false }
def FnExactIsSplitSaid : Prop := fnExactIsSplitRow.holds Tryz.pinned (OpenSpec.ofChange fnExactIsSplitSpec)

/-- ITS FALSE NEIGHBOUR: 'it returns false'. Refute it at one input. -/
def fnExactIsSplitWrong : ChangeSpec := { name := "fnExactIsSplit", fn := fun _ => fun
  | [d] => { results := [.lit (.bool false)], args := [d] }
  | _ => none }
def FnExactIsSplitWrongFalsely : Prop := fnExactIsSplitRow.holds Tryz.pinned (OpenSpec.ofChange fnExactIsSplitWrong)

/-- 'laws.FnExactSizesOfParts': WHATEVER THE INPUT: true; the input reads as it did. -/
def fnExactSizesOfPartsSpec : ChangeSpec := { name := "fnExactSizesOfParts", fn := fun _ => fun
  | [d] => { results := [.lit (.bool true)], args := [d] }
  | _ => none }
def fnExactSizesOfPartsRow : OpenClaim := { program := "ytckpoeaagbmlbaagreat", sum := "e9ebeade0c766106f7eccfbd238a1c201895789bd7152a33169311e9ba29dc79", func := "loop.example/g01267/laws.FnExactSizesOfParts", spec := "fnExactSizesOfParts", inPlace := ["internal/bytealg.Compare"], unfollowed := true, recurses := true, apart := false }
def FnExactSizesOfPartsSaid : Prop := fnExactSizesOfPartsRow.holds Tryz.pinned (OpenSpec.ofChange fnExactSizesOfPartsSpec)

/-- ITS FALSE NEIGHBOUR: 'it returns false'. Refute it at one input. -/
def fnExactSizesOfPartsWrong : ChangeSpec := { name := "fnExactSizesOfParts", fn := fun _ => fun
  | [d] => { results := [.lit (.bool false)], args := [d] }
  | _ => none }
def FnExactSizesOfPartsWrongFalsely : Prop := fnExactSizesOfPartsRow.holds Tryz.pinned (OpenSpec.ofChange fnExactSizesOfPartsWrong)

/-- 'laws.FnExactPartOf': WHATEVER THE INPUT: true; the input reads as it did. -/
def fnExactPartOfSpec : ChangeSpec := { name := "fnExactPartOf", fn := fun _ => fun
  | [d1, d2] => { results := [.lit (.bool true)], args := [d1, d2] }
  | _ => none }
def fnExactPartOfRow : OpenClaim := { program := "ytckpoeaagbmlbaagreat", sum := "e9ebeade0c766106f7eccfbd238a1c201895789bd7152a33169311e9ba29dc79", func := "loop.example/g01267/laws.FnExactPartOf", spec := "fnExactPartOf", inPlace := ["internal/bytealg.Compare"], unfollowed := true, recurses := true, apart := false }
def FnExactPartOfSaid : Prop := fnExactPartOfRow.holds Tryz.pinned (OpenSpec.ofChange fnExactPartOfSpec)

/-- ITS FALSE NEIGHBOUR: 'it returns false'. Refute it at one input. -/
def fnExactPartOfWrong : ChangeSpec := { name := "fnExactPartOf", fn := fun _ => fun
  | [d1, d2] => { results := [.lit (.bool false)], args := [d1, d2] }
  | _ => none }
def FnExactPartOfWrongFalsely : Prop := fnExactPartOfRow.holds Tryz.pinned (OpenSpec.ofChange fnExactPartOfWrong)

/-- 'laws.FnExactDegreesOfParts': WHATEVER THE INPUT: true; the input reads as it did. -/
def fnExactDegreesOfPartsSpec : ChangeSpec := { name := "fnExactDegreesOfParts", fn := fun _ => fun
  | [d] => { results := [.lit (.bool true)], args := [d] }
  | _ => none }
def fnExactDegreesOfPartsRow : OpenClaim := { program := "ytckpoeaagbmlbaagreat", sum := "e9ebeade0c766106f7eccfbd238a1c201895789bd7152a33169311e9ba29dc79", func := "loop.example/g01267/laws.FnExactDegreesOfParts", spec := "fnExactDegreesOfParts", inPlace := ["internal/bytealg.Compare"], unfollowed := true, recurses := true, apart := false }
def FnExactDegreesOfPartsSaid : Prop := fnExactDegreesOfPartsRow.holds Tryz.pinned (OpenSpec.ofChange fnExactDegreesOfPartsSpec)

/-- ITS FALSE NEIGHBOUR: 'it returns false'. Refute it at one input. -/
def fnExactDegreesOfPartsWrong : ChangeSpec := { name := "fnExactDegreesOfParts", fn := fun _ => fun
  | [d] => { results := [.lit (.bool false)], args := [d] }
  | _ => none }
def FnExactDegreesOfPartsWrongFalsely : Prop := fnExactDegreesOfPartsRow.holds Tryz.pinned (OpenSpec.ofChange fnExactDegreesOfPartsWrong)

/-- 'laws.FnExactPartNumber': WHATEVER THE INPUT: true; the input reads as it did. -/
def fnExactPartNumberSpec : ChangeSpec := { name := "fnExactPartNumber", fn := fun _ => fun
  | [d1, d2] => { results := [.lit (.bool true)], args := [d1, d2] }
  | _ => none }
def fnExactPartNumberRow : OpenClaim := { program := "ytckpoeaagbmlbaagreat", sum := "e9ebeade0c766106f7eccfbd238a1c201895789bd7152a33169311e9ba29dc79", func := "loop.example/g01267/laws.FnExactPartNumber", spec := "fnExactPartNumber", inPlace := ["internal/bytealg.Compare"], unfollowed := true, recurses := true, apart := false }
def FnExactPartNumberSaid : Prop := fnExactPartNumberRow.holds Tryz.pinned (OpenSpec.ofChange fnExactPartNumberSpec)

/-- ITS FALSE NEIGHBOUR: 'it returns false'. Refute it at one input. -/
def fnExactPartNumberWrong : ChangeSpec := { name := "fnExactPartNumber", fn := fun _ => fun
  | [d1, d2] => { results := [.lit (.bool false)], args := [d1, d2] }
  | _ => none }
def FnExactPartNumberWrongFalsely : Prop := fnExactPartNumberRow.holds Tryz.pinned (OpenSpec.ofChange fnExactPartNumberWrong)

/- THE SECOND FORM. 'bulk': how many values and letters a reading holds, each counted each time it is reached (what is shared counts as often as it is met; a slice's spare places count too). A statement '..UptoSaid' is the law's where the arguments, and the package variables that the reading takes, are together of bulk at most 1048576: NARROWER than '..Said'. Prove '..Said' where nothing that the law and all that it calls make is longer than what came in: it says more and counts as full. Else prove '..UptoSaid'. A law counts once. -/
mutual
def uptoBulk {H : Type} : DataW H → Nat
  | .lit (.string bytes) => bytes.length + 1
  | .lit _ => 1
  | .nil => 1
  | .ptr d => uptoBulk d + 1
  | .slice elems spare => uptoBulkAll elems + uptoBulkAll spare + 1
  | .agg parts => uptoBulkAll parts + 1
  | .iface _ d => uptoBulk d + 1
  | .map entries => uptoBulkEntries entries + 1
  | .held _ => 1
def uptoBulkAll {H : Type} : List (DataW H) → Nat
  | [] => 0
  | d :: r => uptoBulk d + uptoBulkAll r
def uptoBulkEntries {H : Type} : List (Lit × DataW H) → Nat
  | [] => 0
  | x :: r => uptoBulkEntry x + uptoBulkEntries r
def uptoBulkEntry {H : Type} : Lit × DataW H → Nat
  | (.string bytes, d) => bytes.length + uptoBulk d + 1
  | (_, d) => uptoBulk d + 1
 end
def uptoSmall : (H : Type) → List (DataW H) → Bool := fun _ ds => decide (uptoBulkAll ds ≤ 1048576)
def OpenSpec.upto (s : _root_.Go.ChangeSpec) : _root_.Go.OpenSpec := { _root_.Go.OpenSpec.ofChange s with cond := some uptoSmall }

/-- 'laws.FnExactUnorientedNumber', WHERE WHAT IT READS IS OF BULK AT MOST 1048576: true; the input reads as it did. -/
def fnExactUnorientedNumberUptoRow : OpenClaim := { program := "ytckpoeaagbmlbaagreat", sum := "e9ebeade0c766106f7eccfbd238a1c201895789bd7152a33169311e9ba29dc79", func := "loop.example/g01267/laws.FnExactUnorientedNumber", spec := "fnExactUnorientedNumber", unfollowed := true, recurses := true, apart := false, narrowed := true }
def FnExactUnorientedNumberUptoSaid : Prop := fnExactUnorientedNumberUptoRow.holds Tryz.pinned (OpenSpec.upto fnExactUnorientedNumberSpec)

/-- 'laws.FnExactStateSum', WHERE WHAT IT READS IS OF BULK AT MOST 1048576: true; the input reads as it did. -/
def fnExactStateSumUptoRow : OpenClaim := { program := "ytckpoeaagbmlbaagreat", sum := "e9ebeade0c766106f7eccfbd238a1c201895789bd7152a33169311e9ba29dc79", func := "loop.example/g01267/laws.FnExactStateSum", spec := "fnExactStateSum", unfollowed := true, recurses := true, apart := false, narrowed := true }
def FnExactStateSumUptoSaid : Prop := fnExactStateSumUptoRow.holds Tryz.pinned (OpenSpec.upto fnExactStateSumSpec)

/-- 'laws.FnExactIsLocal', WHERE WHAT IT READS IS OF BULK AT MOST 1048576: true; the input reads as it did. -/
def fnExactIsLocalUptoRow : OpenClaim := { program := "ytckpoeaagbmlbaagreat", sum := "e9ebeade0c766106f7eccfbd238a1c201895789bd7152a33169311e9ba29dc79", func := "loop.example/g01267/laws.FnExactIsLocal", spec := "fnExactIsLocal", inPlace := ["internal/bytealg.Compare"], unfollowed := true, recurses := true, apart := false, narrowed := true }
def FnExactIsLocalUptoSaid : Prop := fnExactIsLocalUptoRow.holds Tryz.pinned (OpenSpec.upto fnExactIsLocalSpec)

/-- 'laws.FnExactCountIdempotents', WHERE WHAT IT READS IS OF BULK AT MOST 1048576: true; the input reads as it did. -/
def fnExactCountIdempotentsUptoRow : OpenClaim := { program := "ytckpoeaagbmlbaagreat", sum := "e9ebeade0c766106f7eccfbd238a1c201895789bd7152a33169311e9ba29dc79", func := "loop.example/g01267/laws.FnExactCountIdempotents", spec := "fnExactCountIdempotents", inPlace := ["internal/bytealg.Compare"], unfollowed := true, recurses := true, apart := false, narrowed := true }
def FnExactCountIdempotentsUptoSaid : Prop := fnExactCountIdempotentsUptoRow.holds Tryz.pinned (OpenSpec.upto fnExactCountIdempotentsSpec)

/-- 'laws.FnExactIsPrimitive', WHERE WHAT IT READS IS OF BULK AT MOST 1048576: true; the input reads as it did. -/
def fnExactIsPrimitiveUptoRow : OpenClaim := { program := "ytckpoeaagbmlbaagreat", sum := "e9ebeade0c766106f7eccfbd238a1c201895789bd7152a33169311e9ba29dc79", func := "loop.example/g01267/laws.FnExactIsPrimitive", spec := "fnExactIsPrimitive", inPlace := ["internal/bytealg.Compare"], unfollowed := true, recurses := true, apart := false, narrowed := true }
def FnExactIsPrimitiveUptoSaid : Prop := fnExactIsPrimitiveUptoRow.holds Tryz.pinned (OpenSpec.upto fnExactIsPrimitiveSpec)

/-- 'laws.FnExactPrimitiveIdempotents', WHERE WHAT IT READS IS OF BULK AT MOST 1048576: true; the input reads as it did. -/
def fnExactPrimitiveIdempotentsUptoRow : OpenClaim := { program := "ytckpoeaagbmlbaagreat", sum := "e9ebeade0c766106f7eccfbd238a1c201895789bd7152a33169311e9ba29dc79", func := "loop.example/g01267/laws.FnExactPrimitiveIdempotents", spec := "fnExactPrimitiveIdempotents", inPlace := ["internal/bytealg.Compare"], unfollowed := true, recurses := true, apart := false, narrowed := true }
def FnExactPrimitiveIdempotentsUptoSaid : Prop := fnExactPrimitiveIdempotentsUptoRow.holds Tryz.pinned (OpenSpec.upto fnExactPrimitiveIdempotentsSpec)

/-- 'laws.FnExactIsSplit', WHERE WHAT IT READS IS OF BULK AT MOST 1048576: true; the input reads as it did. -/
def fnExactIsSplitUptoRow : OpenClaim := { program := "ytckpoeaagbmlbaagreat", sum := "e9ebeade0c766106f7eccfbd238a1c201895789bd7152a33169311e9ba29dc79", func := "loop.example/g01267/laws.FnExactIsSplit", spec := "fnExactIsSplit", inPlace := ["internal/bytealg.Compare"], unfollowed := true, recurses := true, apart := false, narrowed := true }
def FnExactIsSplitUptoSaid : Prop := fnExactIsSplitUptoRow.holds Tryz.pinned (OpenSpec.upto fnExactIsSplitSpec)

/-- 'laws.FnExactSizesOfParts', WHERE WHAT IT READS IS OF BULK AT MOST 1048576: true; the input reads as it did. -/
def fnExactSizesOfPartsUptoRow : OpenClaim := { program := "ytckpoeaagbmlbaagreat", sum := "e9ebeade0c766106f7eccfbd238a1c201895789bd7152a33169311e9ba29dc79", func := "loop.example/g01267/laws.FnExactSizesOfParts", spec := "fnExactSizesOfParts", inPlace := ["internal/bytealg.Compare"], unfollowed := true, recurses := true, apart := false, narrowed := true }
def FnExactSizesOfPartsUptoSaid : Prop := fnExactSizesOfPartsUptoRow.holds Tryz.pinned (OpenSpec.upto fnExactSizesOfPartsSpec)

/-- 'laws.FnExactPartOf', WHERE WHAT IT READS IS OF BULK AT MOST 1048576: true; the input reads as it did. -/
def fnExactPartOfUptoRow : OpenClaim := { program := "ytckpoeaagbmlbaagreat", sum := "e9ebeade0c766106f7eccfbd238a1c201895789bd7152a33169311e9ba29dc79", func := "loop.example/g01267/laws.FnExactPartOf", spec := "fnExactPartOf", inPlace := ["internal/bytealg.Compare"], unfollowed := true, recurses := true, apart := false, narrowed := true }
def FnExactPartOfUptoSaid : Prop := fnExactPartOfUptoRow.holds Tryz.pinned (OpenSpec.upto fnExactPartOfSpec)

/-- 'laws.FnExactDegreesOfParts', WHERE WHAT IT READS IS OF BULK AT MOST 1048576: true; the input reads as it did. -/
def fnExactDegreesOfPartsUptoRow : OpenClaim := { program := "ytckpoeaagbmlbaagreat", sum := "e9ebeade0c766106f7eccfbd238a1c201895789bd7152a33169311e9ba29dc79", func := "loop.example/g01267/laws.FnExactDegreesOfParts", spec := "fnExactDegreesOfParts", inPlace := ["internal/bytealg.Compare"], unfollowed := true, recurses := true, apart := false, narrowed := true }
def FnExactDegreesOfPartsUptoSaid : Prop := fnExactDegreesOfPartsUptoRow.holds Tryz.pinned (OpenSpec.upto fnExactDegreesOfPartsSpec)

/-- 'laws.FnExactPartNumber', WHERE WHAT IT READS IS OF BULK AT MOST 1048576: true; the input reads as it did. -/
def fnExactPartNumberUptoRow : OpenClaim := { program := "ytckpoeaagbmlbaagreat", sum := "e9ebeade0c766106f7eccfbd238a1c201895789bd7152a33169311e9ba29dc79", func := "loop.example/g01267/laws.FnExactPartNumber", spec := "fnExactPartNumber", inPlace := ["internal/bytealg.Compare"], unfollowed := true, recurses := true, apart := false, narrowed := true }
def FnExactPartNumberUptoSaid : Prop := fnExactPartNumberUptoRow.holds Tryz.pinned (OpenSpec.upto fnExactPartNumberSpec)

end Rows
end Go.Proofs.YtckpoeaagbmlbaaGreat
