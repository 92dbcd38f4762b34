/-
  DERIVED. GIVEN WITH THE SEED: THE CARDS: each row of YtiefibobgdbcdaaDoorRows.lean that lists a variable, with what it lists TIED to the program's text (the seventh form; the later family's looks); each row that meets fmt, with fmt's text TOLD by the authors' own Lean function (tested against real Go, not proved from fmt's source: count such statements apart). THE CARD IS WHAT COUNTS. Prove the row's statement (the work); the ties are given (YtiefibobgdbcdaaDoorTie.lean); close each card by the builder's one call (the guide's Derived/Test/ToyasCard.lean, 'card_holds'). Laid BY PROGRAM, IN A SANDBOX (cutbox-door.mjs). By AI agents, Wed Nov 11 2026. No macro, syntax, notation, axiom, sorry.
-/
import Derived.Test.YtiefibobgdbcdaaDoorRows
import GoSem.ClaimSeven
namespace Go.Proofs.YtiefibobgdbcdaaDoor
namespace Rows

/-- THE TIED CARD OF 'laws.FnExactAlgebraText'. -/
def fnExactAlgebraTextCard : Claim7 := { stood := { row := fnExactAlgebraTextRow, standIns := [], harness := (true, "ab9fbeb500a508e29cfd54e150d4d1233bf174704cfa35efd7b2635af3d3153d"), looks := false }, kinds := [], alts := [], laidByText := true, laidKinds := [.data, .data, .data], laidTests := true, laidLooks := .later }
def FnExactAlgebraTextCardSaid : Prop := Claim7.holds Tryd.pinned (.plain (OpenSpec.ofChange fnExactAlgebraTextSpec)) fnExactAlgebraTextCard

/-- THE SECOND FORM's CARD OF 'laws.FnExactAlgebraText'. -/
def fnExactAlgebraTextUptoCard : Claim7 := { stood := { row := fnExactAlgebraTextUptoRow, standIns := [], harness := (true, "ab9fbeb500a508e29cfd54e150d4d1233bf174704cfa35efd7b2635af3d3153d"), looks := false }, kinds := [], alts := [], laidByText := true, laidKinds := [.data, .data, .data], laidTests := true, laidLooks := .later }
def FnExactAlgebraTextUptoCardSaid : Prop := Claim7.holds Tryd.pinned (.plain (OpenSpec.upto fnExactAlgebraTextSpec)) fnExactAlgebraTextUptoCard
end Rows
end Go.Proofs.YtiefibobgdbcdaaDoor
