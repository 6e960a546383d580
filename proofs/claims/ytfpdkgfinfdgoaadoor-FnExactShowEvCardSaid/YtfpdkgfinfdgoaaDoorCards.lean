/-
  DERIVED. GIVEN WITH THE SEED: THE CARDS: each row of YtfpdkgfinfdgoaaDoorRows.lean that lists a variable, with what it lists TIED to the program's text (the seventh form; the later family's looks); each row that meets fmt, with fmt's text TOLD by the authors' own Lean function (tested against real Go, not proved from fmt's source: count such statements apart). THE CARD IS WHAT COUNTS. Prove the row's statement (the work); the ties are given (YtfpdkgfinfdgoaaDoorTie.lean); close each card by the builder's one call (the guide's Derived/Test/ToyasCard.lean, 'card_holds'). Laid BY PROGRAM, IN A SANDBOX (cutbox-door.mjs). By AI agents, Wed Nov 11 2026. No macro, syntax, notation, axiom, sorry.
-/
import Derived.Test.YtfpdkgfinfdgoaaDoorRows
import GoSem.ClaimSeven
namespace Go.Proofs.YtfpdkgfinfdgoaaDoor
namespace Rows

/-- THE TIED CARD OF 'laws.FnExactShowTodo'. -/
def fnExactShowTodoCard : Claim7 := { stood := { row := fnExactShowTodoRow, standIns := [], harness := (true, "0a397741b9774021dc045dd63ab8dce9b4f302e2632b4d8bc3a9365eae0689ca"), looks := false }, kinds := [], alts := [], laidByText := true, laidKinds := [.data, .data, .data], laidTests := true, laidLooks := .later }
def FnExactShowTodoCardSaid : Prop := Claim7.holds Tryd.pinned (.plain (OpenSpec.ofChange fnExactShowTodoSpec)) fnExactShowTodoCard

/-- THE TIED CARD OF 'laws.FnExactShowEv'. -/
def fnExactShowEvCard : Claim7 := { stood := { row := fnExactShowEvRow, standIns := [], harness := (true, "0a397741b9774021dc045dd63ab8dce9b4f302e2632b4d8bc3a9365eae0689ca"), looks := false }, kinds := [], alts := [], laidByText := true, laidKinds := [.data, .data, .data], laidTests := true, laidLooks := .later }
def FnExactShowEvCardSaid : Prop := Claim7.holds Tryd.pinned (.plain (OpenSpec.ofChange fnExactShowEvSpec)) fnExactShowEvCard

/-- THE TIED CARD OF 'laws.FnExactReadRule'. -/
def fnExactReadRuleCard : Claim7 := { stood := { row := fnExactReadRuleRow, standIns := [], harness := (true, "0a397741b9774021dc045dd63ab8dce9b4f302e2632b4d8bc3a9365eae0689ca"), looks := false }, kinds := [], alts := [], laidByText := true, laidKinds := [.data, .data, .data], laidTests := true, laidLooks := .later }
def FnExactReadRuleCardSaid : Prop := Claim7.holds Tryd.pinned (.plain (OpenSpec.ofChange fnExactReadRuleSpec)) fnExactReadRuleCard

/-- THE TIED CARD OF 'laws.FnExactReadOp'. -/
def fnExactReadOpCard : Claim7 := { stood := { row := fnExactReadOpRow, standIns := [], harness := (true, "0a397741b9774021dc045dd63ab8dce9b4f302e2632b4d8bc3a9365eae0689ca"), looks := false }, kinds := [], alts := [], laidByText := true, laidKinds := [.data, .data, .data, .data, .pinned], laidTests := true, laidLooks := .later }
def FnExactReadOpCardSaid : Prop := Claim7.holds Tryd.pinned (.plain (OpenSpec.ofChange fnExactReadOpSpec)) fnExactReadOpCard

/-- THE SECOND FORM's CARD OF 'laws.FnExactShowTodo'. -/
def fnExactShowTodoUptoCard : Claim7 := { stood := { row := fnExactShowTodoUptoRow, standIns := [], harness := (true, "0a397741b9774021dc045dd63ab8dce9b4f302e2632b4d8bc3a9365eae0689ca"), looks := false }, kinds := [], alts := [], laidByText := true, laidKinds := [.data, .data, .data], laidTests := true, laidLooks := .later }
def FnExactShowTodoUptoCardSaid : Prop := Claim7.holds Tryd.pinned (.plain (OpenSpec.upto fnExactShowTodoSpec)) fnExactShowTodoUptoCard

/-- THE SECOND FORM's CARD OF 'laws.FnExactShowEv'. -/
def fnExactShowEvUptoCard : Claim7 := { stood := { row := fnExactShowEvUptoRow, standIns := [], harness := (true, "0a397741b9774021dc045dd63ab8dce9b4f302e2632b4d8bc3a9365eae0689ca"), looks := false }, kinds := [], alts := [], laidByText := true, laidKinds := [.data, .data, .data], laidTests := true, laidLooks := .later }
def FnExactShowEvUptoCardSaid : Prop := Claim7.holds Tryd.pinned (.plain (OpenSpec.upto fnExactShowEvSpec)) fnExactShowEvUptoCard

/-- THE SECOND FORM's CARD OF 'laws.FnExactReadRule'. -/
def fnExactReadRuleUptoCard : Claim7 := { stood := { row := fnExactReadRuleUptoRow, standIns := [], harness := (true, "0a397741b9774021dc045dd63ab8dce9b4f302e2632b4d8bc3a9365eae0689ca"), looks := false }, kinds := [], alts := [], laidByText := true, laidKinds := [.data, .data, .data], laidTests := true, laidLooks := .later }
def FnExactReadRuleUptoCardSaid : Prop := Claim7.holds Tryd.pinned (.plain (OpenSpec.upto fnExactReadRuleSpec)) fnExactReadRuleUptoCard

/-- THE SECOND FORM's CARD OF 'laws.FnExactReadOp'. -/
def fnExactReadOpUptoCard : Claim7 := { stood := { row := fnExactReadOpUptoRow, standIns := [], harness := (true, "0a397741b9774021dc045dd63ab8dce9b4f302e2632b4d8bc3a9365eae0689ca"), looks := false }, kinds := [], alts := [], laidByText := true, laidKinds := [.data, .data, .data, .data, .pinned], laidTests := true, laidLooks := .later }
def FnExactReadOpUptoCardSaid : Prop := Claim7.holds Tryd.pinned (.plain (OpenSpec.upto fnExactReadOpSpec)) fnExactReadOpUptoCard
end Rows
end Go.Proofs.YtfpdkgfinfdgoaaDoor
