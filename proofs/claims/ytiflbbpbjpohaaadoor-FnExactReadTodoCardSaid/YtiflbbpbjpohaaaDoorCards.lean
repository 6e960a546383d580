/-
  DERIVED. GIVEN WITH THE SEED: THE CARDS: each row of YtiflbbpbjpohaaaDoorRows.lean that lists a variable, with what it lists TIED to the program's text (the seventh form; the later family's looks); each row that meets fmt, with fmt's text TOLD by the authors' own Lean function (tested against real Go, not proved from fmt's source: count such statements apart). THE CARD IS WHAT COUNTS. Prove the row's statement (the work); the ties are given (YtiflbbpbjpohaaaDoorTie.lean); close each card by the builder's one call (the guide's Derived/Test/ToyasCard.lean, 'card_holds'). Laid BY PROGRAM, IN A SANDBOX (cutbox-door.mjs). By AI agents, Wed Nov 11 2026. No macro, syntax, notation, axiom, sorry.
-/
import Derived.Test.YtiflbbpbjpohaaaDoorRows
import GoSem.ClaimSeven
namespace Go.Proofs.YtiflbbpbjpohaaaDoor
namespace Rows

/-- THE TIED CARD OF 'laws.FnExactReadTodo'. -/
def fnExactReadTodoCard : Claim7 := { stood := { row := fnExactReadTodoRow, standIns := [], harness := (true, "660f64d0279f0ef79c43040e5f0a42a472c285466b2e16511154ccac9b672b62"), looks := false }, kinds := [], alts := [], laidByText := true, laidKinds := [.data, .data, .data, .data, .pinned], laidTests := true, laidLooks := .later }
def FnExactReadTodoCardSaid : Prop := Claim7.holds Tryd.pinned (.plain (OpenSpec.ofChange fnExactReadTodoSpec)) fnExactReadTodoCard

/-- THE SECOND FORM's CARD OF 'laws.FnExactReadTodo'. -/
def fnExactReadTodoUptoCard : Claim7 := { stood := { row := fnExactReadTodoUptoRow, standIns := [], harness := (true, "660f64d0279f0ef79c43040e5f0a42a472c285466b2e16511154ccac9b672b62"), looks := false }, kinds := [], alts := [], laidByText := true, laidKinds := [.data, .data, .data, .data, .pinned], laidTests := true, laidLooks := .later }
def FnExactReadTodoUptoCardSaid : Prop := Claim7.holds Tryd.pinned (.plain (OpenSpec.upto fnExactReadTodoSpec)) fnExactReadTodoUptoCard
end Rows
end Go.Proofs.YtiflbbpbjpohaaaDoor
