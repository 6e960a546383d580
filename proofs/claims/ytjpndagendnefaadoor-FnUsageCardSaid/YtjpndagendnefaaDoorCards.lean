/-
  DERIVED. GIVEN WITH THE SEED: THE CARDS: each row of YtjpndagendnefaaDoorRows.lean that lists a variable, with what it lists TIED to the program's text (the seventh form; the later family's looks); each row that meets fmt, with fmt's text TOLD by the authors' own Lean function (tested against real Go, not proved from fmt's source: count such statements apart). THE CARD IS WHAT COUNTS. Prove the row's statement (the work); the ties are given (YtjpndagendnefaaDoorTie.lean); close each card by the builder's one call (the guide's Derived/Test/ToyasCard.lean, 'card_holds'). Laid BY PROGRAM, IN A SANDBOX (cutbox-door.mjs). By AI agents, Wed Nov 11 2026. No macro, syntax, notation, axiom, sorry.
-/
import Derived.Test.YtjpndagendnefaaDoorRows
import GoSem.ClaimSeven
namespace Go.Proofs.YtjpndagendnefaaDoor
namespace Rows

/-- THE TIED CARD OF 'laws.FnUsage'. -/
def fnUsageCard : Claim7 := { stood := { row := fnUsageRow, standIns := [], harness := (true, "66c0db01a0123266490102b7f5ea697af01018c7364b2f972f6b40c768163752"), looks := false }, kinds := [], alts := [], laidByText := true, laidKinds := [.data, .data, .data], laidTests := true, laidLooks := .later }
def FnUsageCardSaid : Prop := Claim7.holds Tryd.pinned (.plain (OpenSpec.ofChange fnUsageSpec)) fnUsageCard

/-- THE TIED CARD OF 'laws.FnAlerts'. -/
def fnAlertsCard : Claim7 := { stood := { row := fnAlertsRow, standIns := [], harness := (true, "66c0db01a0123266490102b7f5ea697af01018c7364b2f972f6b40c768163752"), looks := false }, kinds := [], alts := [], laidByText := true, laidKinds := [.data, .data, .data], laidTests := true, laidLooks := .later }
def FnAlertsCardSaid : Prop := Claim7.holds Tryd.pinned (.plain (OpenSpec.ofChange fnAlertsSpec)) fnAlertsCard

/-- THE TIED CARD OF 'laws.FnEff'. -/
def fnEffCard : Claim7 := { stood := { row := fnEffRow, standIns := [], harness := (true, "66c0db01a0123266490102b7f5ea697af01018c7364b2f972f6b40c768163752"), looks := false }, kinds := [], alts := [], laidByText := true, laidKinds := [.data, .data, .data], laidTests := true, laidLooks := .later }
def FnEffCardSaid : Prop := Claim7.holds Tryd.pinned (.plain (OpenSpec.ofChange fnEffSpec)) fnEffCard

/-- THE SECOND FORM's CARD OF 'laws.FnUsage'. -/
def fnUsageUptoCard : Claim7 := { stood := { row := fnUsageUptoRow, standIns := [], harness := (true, "66c0db01a0123266490102b7f5ea697af01018c7364b2f972f6b40c768163752"), looks := false }, kinds := [], alts := [], laidByText := true, laidKinds := [.data, .data, .data], laidTests := true, laidLooks := .later }
def FnUsageUptoCardSaid : Prop := Claim7.holds Tryd.pinned (.plain (OpenSpec.upto fnUsageSpec)) fnUsageUptoCard

/-- THE SECOND FORM's CARD OF 'laws.FnAlerts'. -/
def fnAlertsUptoCard : Claim7 := { stood := { row := fnAlertsUptoRow, standIns := [], harness := (true, "66c0db01a0123266490102b7f5ea697af01018c7364b2f972f6b40c768163752"), looks := false }, kinds := [], alts := [], laidByText := true, laidKinds := [.data, .data, .data], laidTests := true, laidLooks := .later }
def FnAlertsUptoCardSaid : Prop := Claim7.holds Tryd.pinned (.plain (OpenSpec.upto fnAlertsSpec)) fnAlertsUptoCard

/-- THE SECOND FORM's CARD OF 'laws.FnEff'. -/
def fnEffUptoCard : Claim7 := { stood := { row := fnEffUptoRow, standIns := [], harness := (true, "66c0db01a0123266490102b7f5ea697af01018c7364b2f972f6b40c768163752"), looks := false }, kinds := [], alts := [], laidByText := true, laidKinds := [.data, .data, .data], laidTests := true, laidLooks := .later }
def FnEffUptoCardSaid : Prop := Claim7.holds Tryd.pinned (.plain (OpenSpec.upto fnEffSpec)) fnEffUptoCard
end Rows
end Go.Proofs.YtjpndagendnefaaDoor
