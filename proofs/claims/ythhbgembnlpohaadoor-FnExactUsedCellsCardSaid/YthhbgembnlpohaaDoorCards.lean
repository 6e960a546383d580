/-
  DERIVED. GIVEN WITH THE SEED: THE CARDS: each row of YthhbgembnlpohaaDoorRows.lean that lists a variable, with what it lists TIED to the program's text (the seventh form; the later family's looks); each row that meets fmt, with fmt's text TOLD by the authors' own Lean function (tested against real Go, not proved from fmt's source: count such statements apart). THE CARD IS WHAT COUNTS. Prove the row's statement (the work); the ties are given (YthhbgembnlpohaaDoorTie.lean); close each card by the builder's one call (the guide's Derived/Test/ToyasCard.lean, 'card_holds'). Laid BY PROGRAM, IN A SANDBOX (cutbox-door.mjs). By AI agents, Wed Nov 11 2026. No macro, syntax, notation, axiom, sorry.
-/
import Derived.Test.YthhbgembnlpohaaDoorRows
import GoSem.ClaimSeven
namespace Go.Proofs.YthhbgembnlpohaaDoor
namespace Rows

/-- THE TIED CARD OF 'laws.FnExactShowRule'. -/
def fnExactShowRuleCard : Claim7 := { stood := { row := fnExactShowRuleRow, standIns := [], harness := (true, "190b80388c2999db5d613a2be35e3073817684fcb14744d99dcc5e413041c31e"), looks := false }, kinds := [], alts := [], laidByText := true, laidKinds := [.data, .data, .data], laidTests := true, laidLooks := .later }
def FnExactShowRuleCardSaid : Prop := Claim7.holds Tryd.pinned (.plain (OpenSpec.ofChange fnExactShowRuleSpec)) fnExactShowRuleCard

/-- THE TIED CARD OF 'laws.FnExactShowOp'. -/
def fnExactShowOpCard : Claim7 := { stood := { row := fnExactShowOpRow, standIns := [], harness := (true, "190b80388c2999db5d613a2be35e3073817684fcb14744d99dcc5e413041c31e"), looks := false }, kinds := [], alts := [], laidByText := true, laidKinds := [.data, .data, .data], laidTests := true, laidLooks := .later }
def FnExactShowOpCardSaid : Prop := Claim7.holds Tryd.pinned (.plain (OpenSpec.ofChange fnExactShowOpSpec)) fnExactShowOpCard

/-- THE TIED CARD OF 'laws.FnExactUsedCells'. -/
def fnExactUsedCellsCard : Claim7 := { stood := { row := fnExactUsedCellsRow, standIns := [], harness := (true, "190b80388c2999db5d613a2be35e3073817684fcb14744d99dcc5e413041c31e"), looks := false }, kinds := [], alts := [], laidByText := true, laidKinds := [.data, .data, .data], laidTests := true, laidLooks := .later }
def FnExactUsedCellsCardSaid : Prop := Claim7.holds Tryd.pinned (.plain (OpenSpec.ofChange fnExactUsedCellsSpec)) fnExactUsedCellsCard

/-- THE SECOND FORM's CARD OF 'laws.FnExactShowRule'. -/
def fnExactShowRuleUptoCard : Claim7 := { stood := { row := fnExactShowRuleUptoRow, standIns := [], harness := (true, "190b80388c2999db5d613a2be35e3073817684fcb14744d99dcc5e413041c31e"), looks := false }, kinds := [], alts := [], laidByText := true, laidKinds := [.data, .data, .data], laidTests := true, laidLooks := .later }
def FnExactShowRuleUptoCardSaid : Prop := Claim7.holds Tryd.pinned (.plain (OpenSpec.upto fnExactShowRuleSpec)) fnExactShowRuleUptoCard

/-- THE SECOND FORM's CARD OF 'laws.FnExactShowOp'. -/
def fnExactShowOpUptoCard : Claim7 := { stood := { row := fnExactShowOpUptoRow, standIns := [], harness := (true, "190b80388c2999db5d613a2be35e3073817684fcb14744d99dcc5e413041c31e"), looks := false }, kinds := [], alts := [], laidByText := true, laidKinds := [.data, .data, .data], laidTests := true, laidLooks := .later }
def FnExactShowOpUptoCardSaid : Prop := Claim7.holds Tryd.pinned (.plain (OpenSpec.upto fnExactShowOpSpec)) fnExactShowOpUptoCard

/-- THE SECOND FORM's CARD OF 'laws.FnExactUsedCells'. -/
def fnExactUsedCellsUptoCard : Claim7 := { stood := { row := fnExactUsedCellsUptoRow, standIns := [], harness := (true, "190b80388c2999db5d613a2be35e3073817684fcb14744d99dcc5e413041c31e"), looks := false }, kinds := [], alts := [], laidByText := true, laidKinds := [.data, .data, .data], laidTests := true, laidLooks := .later }
def FnExactUsedCellsUptoCardSaid : Prop := Claim7.holds Tryd.pinned (.plain (OpenSpec.upto fnExactUsedCellsSpec)) fnExactUsedCellsUptoCard
end Rows
end Go.Proofs.YthhbgembnlpohaaDoor
