/-
  No cell of these rows narrows 'for every input' (looked for: loops, veiled, ifaces, maps, wideKeys, modest, calm, conditions, laid).
  DERIVED. THE GIVEN ROWS OF THIS SEAT. 12 by the template 'for every input the law returns true; each argument reads behind the call as it read before'; 0 by the template 'total and deterministic' (their statements: YtkbhppjednooeaaTotals.lean).
  GIVEN WITH THE SEED: the statements are not yours to turn. If you find one false, say at which input.
  Laid BY PROGRAM, IN A SANDBOX (cutbox-rows.mjs): the forced cells as the released guide's own fill.sh prints them over the translation 4960cdd44329963b… (all of the seat's roots in one cut). By AI agents, Wed Nov 11 2026. No macro, syntax, notation, axiom, sorry.
-/
import Derived.Test.YtkbhppjednooeaaChecked
import GoSem.Claim
import GoSem.ClaimJoined
import GoSem.ClaimMapViews
import Derived.JoinedTies
import Derived.KernelRfl
namespace Go.Proofs.Ytkbhppjednooeaa
/- THE CELL 'sum', in the pinned program and in every row, IS THE sha256 OF THE DUMP (.gsa) THAT YtkbhppjednooeaaProg.lean LOADS. Nothing in Lean hashes anything: it is a label: what it is worth is what the hold of that sum in a sandbox is worth. -/
noncomputable def Try.pinned : Pinned := { name := "ytkbhppjednooeaa", sum := "4960cdd44329963be162414250077f81fd93d0324fba59e178c7800471b15301", checked := Try.checked }
namespace Rows
def none {H : Type} : Left H := { results := [], args := [] }

/-- 'laws.FnExactBreaks': WHATEVER THE INPUT: true; the input reads as it did. -/
def fnExactBreaksSpec : ChangeSpec := { name := "fnExactBreaks", fn := fun _ => fun
  | [d1, d2] => { results := [.lit (.bool true)], args := [d1, d2] }
  | _ => none }
def fnExactBreaksRow : OpenClaim := { program := "ytkbhppjednooeaa", sum := "4960cdd44329963be162414250077f81fd93d0324fba59e178c7800471b15301", func := "loop.example/g01608/laws.FnExactBreaks", spec := "fnExactBreaks", apart := false }
def FnExactBreaksSaid : Prop := fnExactBreaksRow.holds Try.pinned (OpenSpec.ofChange fnExactBreaksSpec)

/-- ITS FALSE NEIGHBOUR: 'it returns false'. Refute it at one input. -/
def fnExactBreaksWrong : ChangeSpec := { name := "fnExactBreaks", fn := fun _ => fun
  | [d1, d2] => { results := [.lit (.bool false)], args := [d1, d2] }
  | _ => none }
def FnExactBreaksWrongFalsely : Prop := fnExactBreaksRow.holds Try.pinned (OpenSpec.ofChange fnExactBreaksWrong)

/-- 'laws.FnExactWorstGap': WHATEVER THE INPUT: true; the input reads as it did. -/
def fnExactWorstGapSpec : ChangeSpec := { name := "fnExactWorstGap", fn := fun _ => fun
  | [d1, d2] => { results := [.lit (.bool true)], args := [d1, d2] }
  | _ => none }
def fnExactWorstGapRow : OpenClaim := { program := "ytkbhppjednooeaa", sum := "4960cdd44329963be162414250077f81fd93d0324fba59e178c7800471b15301", func := "loop.example/g01608/laws.FnExactWorstGap", spec := "fnExactWorstGap", apart := false }
def FnExactWorstGapSaid : Prop := fnExactWorstGapRow.holds Try.pinned (OpenSpec.ofChange fnExactWorstGapSpec)

/-- ITS FALSE NEIGHBOUR: 'it returns false'. Refute it at one input. -/
def fnExactWorstGapWrong : ChangeSpec := { name := "fnExactWorstGap", fn := fun _ => fun
  | [d1, d2] => { results := [.lit (.bool false)], args := [d1, d2] }
  | _ => none }
def FnExactWorstGapWrongFalsely : Prop := fnExactWorstGapRow.holds Try.pinned (OpenSpec.ofChange fnExactWorstGapWrong)

/-- 'laws.FnExactRoundRobin': WHATEVER THE INPUT: true; the input reads as it did. -/
def fnExactRoundRobinSpec : ChangeSpec := { name := "fnExactRoundRobin", fn := fun _ => fun
  | [d] => { results := [.lit (.bool true)], args := [d] }
  | _ => none }
def fnExactRoundRobinRow : OpenClaim := { program := "ytkbhppjednooeaa", sum := "4960cdd44329963be162414250077f81fd93d0324fba59e178c7800471b15301", func := "loop.example/g01608/laws.FnExactRoundRobin", spec := "fnExactRoundRobin", apart := false }
def FnExactRoundRobinSaid : Prop := fnExactRoundRobinRow.holds Try.pinned (OpenSpec.ofChange fnExactRoundRobinSpec)

/-- ITS FALSE NEIGHBOUR: 'it returns false'. Refute it at one input. -/
def fnExactRoundRobinWrong : ChangeSpec := { name := "fnExactRoundRobin", fn := fun _ => fun
  | [d] => { results := [.lit (.bool false)], args := [d] }
  | _ => none }
def FnExactRoundRobinWrongFalsely : Prop := fnExactRoundRobinRow.holds Try.pinned (OpenSpec.ofChange fnExactRoundRobinWrong)

/-- 'laws.FnExactRuleOk': WHATEVER THE INPUT: true; the input reads as it did. -/
def fnExactRuleOkSpec : ChangeSpec := { name := "fnExactRuleOk", fn := fun _ => fun
  | [d] => { results := [.lit (.bool true)], args := [d] }
  | _ => none }
def fnExactRuleOkRow : OpenClaim := { program := "ytkbhppjednooeaa", sum := "4960cdd44329963be162414250077f81fd93d0324fba59e178c7800471b15301", func := "loop.example/g01608/laws.FnExactRuleOk", spec := "fnExactRuleOk", apart := false }
def FnExactRuleOkSaid : Prop := fnExactRuleOkRow.holds Try.pinned (OpenSpec.ofChange fnExactRuleOkSpec)

/-- ITS FALSE NEIGHBOUR: 'it returns false'. Refute it at one input. -/
def fnExactRuleOkWrong : ChangeSpec := { name := "fnExactRuleOk", fn := fun _ => fun
  | [d] => { results := [.lit (.bool false)], args := [d] }
  | _ => none }
def FnExactRuleOkWrongFalsely : Prop := fnExactRuleOkRow.holds Try.pinned (OpenSpec.ofChange fnExactRuleOkWrong)

/-- 'laws.FnExactFair': WHATEVER THE INPUT: true; the input reads as it did. -/
def fnExactFairSpec : ChangeSpec := { name := "fnExactFair", fn := fun _ => fun
  | [d1, d2] => { results := [.lit (.bool true)], args := [d1, d2] }
  | _ => none }
def fnExactFairRow : OpenClaim := { program := "ytkbhppjednooeaa", sum := "4960cdd44329963be162414250077f81fd93d0324fba59e178c7800471b15301", func := "loop.example/g01608/laws.FnExactFair", spec := "fnExactFair", apart := false }
def FnExactFairSaid : Prop := fnExactFairRow.holds Try.pinned (OpenSpec.ofChange fnExactFairSpec)

/-- ITS FALSE NEIGHBOUR: 'it returns false'. Refute it at one input. -/
def fnExactFairWrong : ChangeSpec := { name := "fnExactFair", fn := fun _ => fun
  | [d1, d2] => { results := [.lit (.bool false)], args := [d1, d2] }
  | _ => none }
def FnExactFairWrongFalsely : Prop := fnExactFairRow.holds Try.pinned (OpenSpec.ofChange fnExactFairWrong)

/-- 'laws.FnExactReadCells': WHATEVER THE INPUT: true; the input reads as it did. -/
def fnExactReadCellsSpec : ChangeSpec := { name := "fnExactReadCells", fn := fun _ => fun
  | [d] => { results := [.lit (.bool true)], args := [d] }
  | _ => none }
def fnExactReadCellsRow : OpenClaim := { program := "ytkbhppjednooeaa", sum := "4960cdd44329963be162414250077f81fd93d0324fba59e178c7800471b15301", func := "loop.example/g01608/laws.FnExactReadCells", spec := "fnExactReadCells", apart := false }
def FnExactReadCellsSaid : Prop := fnExactReadCellsRow.holds Try.pinned (OpenSpec.ofChange fnExactReadCellsSpec)

/-- ITS FALSE NEIGHBOUR: 'it returns false'. Refute it at one input. -/
def fnExactReadCellsWrong : ChangeSpec := { name := "fnExactReadCells", fn := fun _ => fun
  | [d] => { results := [.lit (.bool false)], args := [d] }
  | _ => none }
def FnExactReadCellsWrongFalsely : Prop := fnExactReadCellsRow.holds Try.pinned (OpenSpec.ofChange fnExactReadCellsWrong)

/-- 'laws.FnExactFreeSlots': WHATEVER THE INPUT: true; the input reads as it did. -/
def fnExactFreeSlotsSpec : ChangeSpec := { name := "fnExactFreeSlots", fn := fun _ => fun
  | [d] => { results := [.lit (.bool true)], args := [d] }
  | _ => none }
def fnExactFreeSlotsRow : OpenClaim := { program := "ytkbhppjednooeaa", sum := "4960cdd44329963be162414250077f81fd93d0324fba59e178c7800471b15301", func := "loop.example/g01608/laws.FnExactFreeSlots", spec := "fnExactFreeSlots", unfollowed := true, recurses := true, apart := false }
def FnExactFreeSlotsSaid : Prop := fnExactFreeSlotsRow.holds Try.pinned (OpenSpec.ofChange fnExactFreeSlotsSpec)

/-- ITS FALSE NEIGHBOUR: 'it returns false'. Refute it at one input. -/
def fnExactFreeSlotsWrong : ChangeSpec := { name := "fnExactFreeSlots", fn := fun _ => fun
  | [d] => { results := [.lit (.bool false)], args := [d] }
  | _ => none }
def FnExactFreeSlotsWrongFalsely : Prop := fnExactFreeSlotsRow.holds Try.pinned (OpenSpec.ofChange fnExactFreeSlotsWrong)

/-- 'laws.FnExactShowCells': WHATEVER THE INPUT: true; the input reads as it did. -/
def fnExactShowCellsSpec : ChangeSpec := { name := "fnExactShowCells", fn := fun _ => fun
  | [d] => { results := [.lit (.bool true)], args := [d] }
  | _ => none }
def fnExactShowCellsRow : OpenClaim := { program := "ytkbhppjednooeaa", sum := "4960cdd44329963be162414250077f81fd93d0324fba59e178c7800471b15301", func := "loop.example/g01608/laws.FnExactShowCells", spec := "fnExactShowCells", unfollowed := true, recurses := true, apart := false }
def FnExactShowCellsSaid : Prop := fnExactShowCellsRow.holds Try.pinned (OpenSpec.ofChange fnExactShowCellsSpec)

/-- ITS FALSE NEIGHBOUR: 'it returns false'. Refute it at one input. -/
def fnExactShowCellsWrong : ChangeSpec := { name := "fnExactShowCells", fn := fun _ => fun
  | [d] => { results := [.lit (.bool false)], args := [d] }
  | _ => none }
def FnExactShowCellsWrongFalsely : Prop := fnExactShowCellsRow.holds Try.pinned (OpenSpec.ofChange fnExactShowCellsWrong)

/-- 'laws.FnFair': WHATEVER THE INPUT: true; the input reads as it did. -/
def fnFairSpec : ChangeSpec := { name := "fnFair", fn := fun _ => fun
  | [d] => { results := [.lit (.bool true)], args := [d] }
  | _ => none }
def fnFairRow : OpenClaim := { program := "ytkbhppjednooeaa", sum := "4960cdd44329963be162414250077f81fd93d0324fba59e178c7800471b15301", func := "loop.example/g01608/laws.FnFair", spec := "fnFair", apart := false }
def FnFairSaid : Prop := fnFairRow.holds Try.pinned (OpenSpec.ofChange fnFairSpec)

/-- ITS FALSE NEIGHBOUR: 'it returns false'. Refute it at one input. -/
def fnFairWrong : ChangeSpec := { name := "fnFair", fn := fun _ => fun
  | [d] => { results := [.lit (.bool false)], args := [d] }
  | _ => none }
def FnFairWrongFalsely : Prop := fnFairRow.holds Try.pinned (OpenSpec.ofChange fnFairWrong)

/-- 'laws.FnExactStoreNew': WHATEVER THE INPUT: true; the input reads as it did. -/
def fnExactStoreNewSpec : ChangeSpec := { name := "fnExactStoreNew", fn := fun _ => fun
  | [d] => { results := [.lit (.bool true)], args := [d] }
  | _ => none }
def fnExactStoreNewRow : OpenClaim := { program := "ytkbhppjednooeaa", sum := "4960cdd44329963be162414250077f81fd93d0324fba59e178c7800471b15301", func := "loop.example/g01608/laws.FnExactStoreNew", spec := "fnExactStoreNew", apart := false }
def FnExactStoreNewSaid : Prop := fnExactStoreNewRow.holds Try.pinned (OpenSpec.ofChange fnExactStoreNewSpec)

/-- ITS FALSE NEIGHBOUR: 'it returns false'. Refute it at one input. -/
def fnExactStoreNewWrong : ChangeSpec := { name := "fnExactStoreNew", fn := fun _ => fun
  | [d] => { results := [.lit (.bool false)], args := [d] }
  | _ => none }
def FnExactStoreNewWrongFalsely : Prop := fnExactStoreNewRow.holds Try.pinned (OpenSpec.ofChange fnExactStoreNewWrong)

/-- 'laws.FnExactStepsBy': WHATEVER THE INPUT: true; the input reads as it did. -/
def fnExactStepsBySpec : ChangeSpec := { name := "fnExactStepsBy", fn := fun _ => fun
  | [d1, d2] => { results := [.lit (.bool true)], args := [d1, d2] }
  | _ => none }
def fnExactStepsByRow : OpenClaim := { program := "ytkbhppjednooeaa", sum := "4960cdd44329963be162414250077f81fd93d0324fba59e178c7800471b15301", func := "loop.example/g01608/laws.FnExactStepsBy", spec := "fnExactStepsBy", apart := false }
def FnExactStepsBySaid : Prop := fnExactStepsByRow.holds Try.pinned (OpenSpec.ofChange fnExactStepsBySpec)

/-- ITS FALSE NEIGHBOUR: 'it returns false'. Refute it at one input. -/
def fnExactStepsByWrong : ChangeSpec := { name := "fnExactStepsBy", fn := fun _ => fun
  | [d1, d2] => { results := [.lit (.bool false)], args := [d1, d2] }
  | _ => none }
def FnExactStepsByWrongFalsely : Prop := fnExactStepsByRow.holds Try.pinned (OpenSpec.ofChange fnExactStepsByWrong)

/-- 'laws.FnExactSlowest': WHATEVER THE INPUT: true; the input reads as it did. -/
def fnExactSlowestSpec : ChangeSpec := { name := "fnExactSlowest", fn := fun _ => fun
  | [d] => { results := [.lit (.bool true)], args := [d] }
  | _ => none }
def fnExactSlowestRow : OpenClaim := { program := "ytkbhppjednooeaa", sum := "4960cdd44329963be162414250077f81fd93d0324fba59e178c7800471b15301", func := "loop.example/g01608/laws.FnExactSlowest", spec := "fnExactSlowest", apart := false }
def FnExactSlowestSaid : Prop := fnExactSlowestRow.holds Try.pinned (OpenSpec.ofChange fnExactSlowestSpec)

/-- ITS FALSE NEIGHBOUR: 'it returns false'. Refute it at one input. -/
def fnExactSlowestWrong : ChangeSpec := { name := "fnExactSlowest", fn := fun _ => fun
  | [d] => { results := [.lit (.bool false)], args := [d] }
  | _ => none }
def FnExactSlowestWrongFalsely : Prop := fnExactSlowestRow.holds Try.pinned (OpenSpec.ofChange fnExactSlowestWrong)

/- THE SECOND FORM. 'bulk': how many values and letters a reading holds, each counted each time it is reached (what is shared counts as often as it is met; a slice's spare places count too). A statement '..UptoSaid' is the law's where the arguments, and the package variables that the reading takes, are together of bulk at most 1048576: NARROWER than '..Said'. Prove '..Said' where nothing that the law and all that it calls make is longer than what came in: it says more and counts as full. Else prove '..UptoSaid'. A law counts once. -/
mutual
def uptoBulk {H : Type} : DataW H → Nat
  | .lit (.string bytes) => bytes.length + 1
  | .lit _ => 1
  | .nil => 1
  | .ptr d => uptoBulk d + 1
  | .slice elems spare => uptoBulkAll elems + uptoBulkAll spare + 1
  | .agg parts => uptoBulkAll parts + 1
  | .iface _ d => uptoBulk d + 1
  | .map entries => uptoBulkEntries entries + 1
  | .held _ => 1
def uptoBulkAll {H : Type} : List (DataW H) → Nat
  | [] => 0
  | d :: r => uptoBulk d + uptoBulkAll r
def uptoBulkEntries {H : Type} : List (Lit × DataW H) → Nat
  | [] => 0
  | x :: r => uptoBulkEntry x + uptoBulkEntries r
def uptoBulkEntry {H : Type} : Lit × DataW H → Nat
  | (.string bytes, d) => bytes.length + uptoBulk d + 1
  | (_, d) => uptoBulk d + 1
 end
def uptoSmall : (H : Type) → List (DataW H) → Bool := fun _ ds => decide (uptoBulkAll ds ≤ 1048576)
def OpenSpec.upto (s : _root_.Go.ChangeSpec) : _root_.Go.OpenSpec := { _root_.Go.OpenSpec.ofChange s with cond := some uptoSmall }

/-- 'laws.FnExactBreaks', WHERE WHAT IT READS IS OF BULK AT MOST 1048576: true; the input reads as it did. -/
def fnExactBreaksUptoRow : OpenClaim := { program := "ytkbhppjednooeaa", sum := "4960cdd44329963be162414250077f81fd93d0324fba59e178c7800471b15301", func := "loop.example/g01608/laws.FnExactBreaks", spec := "fnExactBreaks", apart := false, narrowed := true }
def FnExactBreaksUptoSaid : Prop := fnExactBreaksUptoRow.holds Try.pinned (OpenSpec.upto fnExactBreaksSpec)

/-- 'laws.FnExactWorstGap', WHERE WHAT IT READS IS OF BULK AT MOST 1048576: true; the input reads as it did. -/
def fnExactWorstGapUptoRow : OpenClaim := { program := "ytkbhppjednooeaa", sum := "4960cdd44329963be162414250077f81fd93d0324fba59e178c7800471b15301", func := "loop.example/g01608/laws.FnExactWorstGap", spec := "fnExactWorstGap", apart := false, narrowed := true }
def FnExactWorstGapUptoSaid : Prop := fnExactWorstGapUptoRow.holds Try.pinned (OpenSpec.upto fnExactWorstGapSpec)

/-- 'laws.FnExactRoundRobin', WHERE WHAT IT READS IS OF BULK AT MOST 1048576: true; the input reads as it did. -/
def fnExactRoundRobinUptoRow : OpenClaim := { program := "ytkbhppjednooeaa", sum := "4960cdd44329963be162414250077f81fd93d0324fba59e178c7800471b15301", func := "loop.example/g01608/laws.FnExactRoundRobin", spec := "fnExactRoundRobin", apart := false, narrowed := true }
def FnExactRoundRobinUptoSaid : Prop := fnExactRoundRobinUptoRow.holds Try.pinned (OpenSpec.upto fnExactRoundRobinSpec)

/-- 'laws.FnExactRuleOk', WHERE WHAT IT READS IS OF BULK AT MOST 1048576: true; the input reads as it did. -/
def fnExactRuleOkUptoRow : OpenClaim := { program := "ytkbhppjednooeaa", sum := "4960cdd44329963be162414250077f81fd93d0324fba59e178c7800471b15301", func := "loop.example/g01608/laws.FnExactRuleOk", spec := "fnExactRuleOk", apart := false, narrowed := true }
def FnExactRuleOkUptoSaid : Prop := fnExactRuleOkUptoRow.holds Try.pinned (OpenSpec.upto fnExactRuleOkSpec)

/-- 'laws.FnExactFair', WHERE WHAT IT READS IS OF BULK AT MOST 1048576: true; the input reads as it did. -/
def fnExactFairUptoRow : OpenClaim := { program := "ytkbhppjednooeaa", sum := "4960cdd44329963be162414250077f81fd93d0324fba59e178c7800471b15301", func := "loop.example/g01608/laws.FnExactFair", spec := "fnExactFair", apart := false, narrowed := true }
def FnExactFairUptoSaid : Prop := fnExactFairUptoRow.holds Try.pinned (OpenSpec.upto fnExactFairSpec)

/-- 'laws.FnExactReadCells', WHERE WHAT IT READS IS OF BULK AT MOST 1048576: true; the input reads as it did. -/
def fnExactReadCellsUptoRow : OpenClaim := { program := "ytkbhppjednooeaa", sum := "4960cdd44329963be162414250077f81fd93d0324fba59e178c7800471b15301", func := "loop.example/g01608/laws.FnExactReadCells", spec := "fnExactReadCells", apart := false, narrowed := true }
def FnExactReadCellsUptoSaid : Prop := fnExactReadCellsUptoRow.holds Try.pinned (OpenSpec.upto fnExactReadCellsSpec)

/-- 'laws.FnExactFreeSlots', WHERE WHAT IT READS IS OF BULK AT MOST 1048576: true; the input reads as it did. -/
def fnExactFreeSlotsUptoRow : OpenClaim := { program := "ytkbhppjednooeaa", sum := "4960cdd44329963be162414250077f81fd93d0324fba59e178c7800471b15301", func := "loop.example/g01608/laws.FnExactFreeSlots", spec := "fnExactFreeSlots", unfollowed := true, recurses := true, apart := false, narrowed := true }
def FnExactFreeSlotsUptoSaid : Prop := fnExactFreeSlotsUptoRow.holds Try.pinned (OpenSpec.upto fnExactFreeSlotsSpec)

/-- 'laws.FnExactShowCells', WHERE WHAT IT READS IS OF BULK AT MOST 1048576: true; the input reads as it did. -/
def fnExactShowCellsUptoRow : OpenClaim := { program := "ytkbhppjednooeaa", sum := "4960cdd44329963be162414250077f81fd93d0324fba59e178c7800471b15301", func := "loop.example/g01608/laws.FnExactShowCells", spec := "fnExactShowCells", unfollowed := true, recurses := true, apart := false, narrowed := true }
def FnExactShowCellsUptoSaid : Prop := fnExactShowCellsUptoRow.holds Try.pinned (OpenSpec.upto fnExactShowCellsSpec)

/-- 'laws.FnFair', WHERE WHAT IT READS IS OF BULK AT MOST 1048576: true; the input reads as it did. -/
def fnFairUptoRow : OpenClaim := { program := "ytkbhppjednooeaa", sum := "4960cdd44329963be162414250077f81fd93d0324fba59e178c7800471b15301", func := "loop.example/g01608/laws.FnFair", spec := "fnFair", apart := false, narrowed := true }
def FnFairUptoSaid : Prop := fnFairUptoRow.holds Try.pinned (OpenSpec.upto fnFairSpec)

/-- 'laws.FnExactStoreNew', WHERE WHAT IT READS IS OF BULK AT MOST 1048576: true; the input reads as it did. -/
def fnExactStoreNewUptoRow : OpenClaim := { program := "ytkbhppjednooeaa", sum := "4960cdd44329963be162414250077f81fd93d0324fba59e178c7800471b15301", func := "loop.example/g01608/laws.FnExactStoreNew", spec := "fnExactStoreNew", apart := false, narrowed := true }
def FnExactStoreNewUptoSaid : Prop := fnExactStoreNewUptoRow.holds Try.pinned (OpenSpec.upto fnExactStoreNewSpec)

/-- 'laws.FnExactStepsBy', WHERE WHAT IT READS IS OF BULK AT MOST 1048576: true; the input reads as it did. -/
def fnExactStepsByUptoRow : OpenClaim := { program := "ytkbhppjednooeaa", sum := "4960cdd44329963be162414250077f81fd93d0324fba59e178c7800471b15301", func := "loop.example/g01608/laws.FnExactStepsBy", spec := "fnExactStepsBy", apart := false, narrowed := true }
def FnExactStepsByUptoSaid : Prop := fnExactStepsByUptoRow.holds Try.pinned (OpenSpec.upto fnExactStepsBySpec)

/-- 'laws.FnExactSlowest', WHERE WHAT IT READS IS OF BULK AT MOST 1048576: true; the input reads as it did. -/
def fnExactSlowestUptoRow : OpenClaim := { program := "ytkbhppjednooeaa", sum := "4960cdd44329963be162414250077f81fd93d0324fba59e178c7800471b15301", func := "loop.example/g01608/laws.FnExactSlowest", spec := "fnExactSlowest", apart := false, narrowed := true }
def FnExactSlowestUptoSaid : Prop := fnExactSlowestUptoRow.holds Try.pinned (OpenSpec.upto fnExactSlowestSpec)

end Rows
end Go.Proofs.Ytkbhppjednooeaa
