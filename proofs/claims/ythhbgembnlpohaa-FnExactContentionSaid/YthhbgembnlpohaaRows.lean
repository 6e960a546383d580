/-
  No cell of these rows narrows 'for every input' (looked for: loops, veiled, ifaces, maps, wideKeys, modest, calm, conditions, laid).
  DERIVED. THE GIVEN ROWS OF THIS SEAT. 9 by the template 'for every input the law returns true; each argument reads behind the call as it read before'; 0 by the template 'total and deterministic' (their statements: YthhbgembnlpohaaTotals.lean).
  GIVEN WITH THE SEED: the statements are not yours to turn. If you find one false, say at which input.
  Laid BY PROGRAM, IN A SANDBOX (cutbox-rows.mjs): the forced cells as the released guide's own fill.sh prints them over the translation 64673abc25bf159a… (all of the seat's roots in one cut). By AI agents, Wed Nov 11 2026. No macro, syntax, notation, axiom, sorry.
-/
import Derived.Test.YthhbgembnlpohaaChecked
import GoSem.Claim
import GoSem.ClaimJoined
import GoSem.ClaimMapViews
import Derived.JoinedTies
import Derived.KernelRfl
namespace Go.Proofs.Ythhbgembnlpohaa
/- THE CELL 'sum', in the pinned program and in every row, IS THE sha256 OF THE DUMP (.gsa) THAT YthhbgembnlpohaaProg.lean LOADS. Nothing in Lean hashes anything: it is a label: what it is worth is what the hold of that sum in a sandbox is worth. -/
noncomputable def Try.pinned : Pinned := { name := "ythhbgembnlpohaa", sum := "64673abc25bf159aee6072c1ca584caec3bc09eb0bf15a09952076b7daadfc48", checked := Try.checked }
namespace Rows
def none {H : Type} : Left H := { results := [], args := [] }

/-- 'laws.FnExactProbeLen': WHATEVER THE INPUT: true; the input reads as it did. -/
def fnExactProbeLenSpec : ChangeSpec := { name := "fnExactProbeLen", fn := fun _ => fun
  | [d1, d2] => { results := [.lit (.bool true)], args := [d1, d2] }
  | _ => none }
def fnExactProbeLenRow : OpenClaim := { program := "ythhbgembnlpohaa", sum := "64673abc25bf159aee6072c1ca584caec3bc09eb0bf15a09952076b7daadfc48", func := "loop.example/g01608/laws.FnExactProbeLen", spec := "fnExactProbeLen", unfollowed := true, recurses := true, apart := false }
def FnExactProbeLenSaid : Prop := fnExactProbeLenRow.holds Try.pinned (OpenSpec.ofChange fnExactProbeLenSpec)

/-- ITS FALSE NEIGHBOUR: 'it returns false'. Refute it at one input. -/
def fnExactProbeLenWrong : ChangeSpec := { name := "fnExactProbeLen", fn := fun _ => fun
  | [d1, d2] => { results := [.lit (.bool false)], args := [d1, d2] }
  | _ => none }
def FnExactProbeLenWrongFalsely : Prop := fnExactProbeLenRow.holds Try.pinned (OpenSpec.ofChange fnExactProbeLenWrong)

/-- 'laws.FnExactOverlap': WHATEVER THE INPUT: true; the input reads as it did. -/
def fnExactOverlapSpec : ChangeSpec := { name := "fnExactOverlap", fn := fun _ => fun
  | [d1, d2, d3] => { results := [.lit (.bool true)], args := [d1, d2, d3] }
  | _ => none }
def fnExactOverlapRow : OpenClaim := { program := "ythhbgembnlpohaa", sum := "64673abc25bf159aee6072c1ca584caec3bc09eb0bf15a09952076b7daadfc48", func := "loop.example/g01608/laws.FnExactOverlap", spec := "fnExactOverlap", unfollowed := true, recurses := true, apart := false }
def FnExactOverlapSaid : Prop := fnExactOverlapRow.holds Try.pinned (OpenSpec.ofChange fnExactOverlapSpec)

/-- ITS FALSE NEIGHBOUR: 'it returns false'. Refute it at one input. -/
def fnExactOverlapWrong : ChangeSpec := { name := "fnExactOverlap", fn := fun _ => fun
  | [d1, d2, d3] => { results := [.lit (.bool false)], args := [d1, d2, d3] }
  | _ => none }
def FnExactOverlapWrongFalsely : Prop := fnExactOverlapRow.holds Try.pinned (OpenSpec.ofChange fnExactOverlapWrong)

/-- 'laws.FnExactFlushSpan': WHATEVER THE INPUT: true; the input reads as it did. -/
def fnExactFlushSpanSpec : ChangeSpec := { name := "fnExactFlushSpan", fn := fun _ => fun
  | [d1, d2] => { results := [.lit (.bool true)], args := [d1, d2] }
  | _ => none }
def fnExactFlushSpanRow : OpenClaim := { program := "ythhbgembnlpohaa", sum := "64673abc25bf159aee6072c1ca584caec3bc09eb0bf15a09952076b7daadfc48", func := "loop.example/g01608/laws.FnExactFlushSpan", spec := "fnExactFlushSpan", unfollowed := true, recurses := true, apart := false }
def FnExactFlushSpanSaid : Prop := fnExactFlushSpanRow.holds Try.pinned (OpenSpec.ofChange fnExactFlushSpanSpec)

/-- ITS FALSE NEIGHBOUR: 'it returns false'. Refute it at one input. -/
def fnExactFlushSpanWrong : ChangeSpec := { name := "fnExactFlushSpan", fn := fun _ => fun
  | [d1, d2] => { results := [.lit (.bool false)], args := [d1, d2] }
  | _ => none }
def FnExactFlushSpanWrongFalsely : Prop := fnExactFlushSpanRow.holds Try.pinned (OpenSpec.ofChange fnExactFlushSpanWrong)

/-- 'laws.FnExactLatency': WHATEVER THE INPUT: true; the input reads as it did. -/
def fnExactLatencySpec : ChangeSpec := { name := "fnExactLatency", fn := fun _ => fun
  | [d1, d2] => { results := [.lit (.bool true)], args := [d1, d2] }
  | _ => none }
def fnExactLatencyRow : OpenClaim := { program := "ythhbgembnlpohaa", sum := "64673abc25bf159aee6072c1ca584caec3bc09eb0bf15a09952076b7daadfc48", func := "loop.example/g01608/laws.FnExactLatency", spec := "fnExactLatency", unfollowed := true, recurses := true, apart := false }
def FnExactLatencySaid : Prop := fnExactLatencyRow.holds Try.pinned (OpenSpec.ofChange fnExactLatencySpec)

/-- ITS FALSE NEIGHBOUR: 'it returns false'. Refute it at one input. -/
def fnExactLatencyWrong : ChangeSpec := { name := "fnExactLatency", fn := fun _ => fun
  | [d1, d2] => { results := [.lit (.bool false)], args := [d1, d2] }
  | _ => none }
def FnExactLatencyWrongFalsely : Prop := fnExactLatencyRow.holds Try.pinned (OpenSpec.ofChange fnExactLatencyWrong)

/-- 'laws.FnExactStoreOk': WHATEVER THE INPUT: true; the input reads as it did. -/
def fnExactStoreOkSpec : ChangeSpec := { name := "fnExactStoreOk", fn := fun _ => fun
  | [d] => { results := [.lit (.bool true)], args := [d] }
  | _ => none }
def fnExactStoreOkRow : OpenClaim := { program := "ythhbgembnlpohaa", sum := "64673abc25bf159aee6072c1ca584caec3bc09eb0bf15a09952076b7daadfc48", func := "loop.example/g01608/laws.FnExactStoreOk", spec := "fnExactStoreOk", unfollowed := true, recurses := true, apart := false }
def FnExactStoreOkSaid : Prop := fnExactStoreOkRow.holds Try.pinned (OpenSpec.ofChange fnExactStoreOkSpec)

/-- ITS FALSE NEIGHBOUR: 'it returns false'. Refute it at one input. -/
def fnExactStoreOkWrong : ChangeSpec := { name := "fnExactStoreOk", fn := fun _ => fun
  | [d] => { results := [.lit (.bool false)], args := [d] }
  | _ => none }
def FnExactStoreOkWrongFalsely : Prop := fnExactStoreOkRow.holds Try.pinned (OpenSpec.ofChange fnExactStoreOkWrong)

/-- 'laws.FnExactContention': WHATEVER THE INPUT: true; the input reads as it did. -/
def fnExactContentionSpec : ChangeSpec := { name := "fnExactContention", fn := fun _ => fun
  | [d] => { results := [.lit (.bool true)], args := [d] }
  | _ => none }
def fnExactContentionRow : OpenClaim := { program := "ythhbgembnlpohaa", sum := "64673abc25bf159aee6072c1ca584caec3bc09eb0bf15a09952076b7daadfc48", func := "loop.example/g01608/laws.FnExactContention", spec := "fnExactContention", unfollowed := true, recurses := true, apart := false }
def FnExactContentionSaid : Prop := fnExactContentionRow.holds Try.pinned (OpenSpec.ofChange fnExactContentionSpec)

/-- ITS FALSE NEIGHBOUR: 'it returns false'. Refute it at one input. -/
def fnExactContentionWrong : ChangeSpec := { name := "fnExactContention", fn := fun _ => fun
  | [d] => { results := [.lit (.bool false)], args := [d] }
  | _ => none }
def FnExactContentionWrongFalsely : Prop := fnExactContentionRow.holds Try.pinned (OpenSpec.ofChange fnExactContentionWrong)

/-- 'laws.FnExactLongestProbe': WHATEVER THE INPUT: true; the input reads as it did. -/
def fnExactLongestProbeSpec : ChangeSpec := { name := "fnExactLongestProbe", fn := fun _ => fun
  | [d] => { results := [.lit (.bool true)], args := [d] }
  | _ => none }
def fnExactLongestProbeRow : OpenClaim := { program := "ythhbgembnlpohaa", sum := "64673abc25bf159aee6072c1ca584caec3bc09eb0bf15a09952076b7daadfc48", func := "loop.example/g01608/laws.FnExactLongestProbe", spec := "fnExactLongestProbe", unfollowed := true, recurses := true, apart := false }
def FnExactLongestProbeSaid : Prop := fnExactLongestProbeRow.holds Try.pinned (OpenSpec.ofChange fnExactLongestProbeSpec)

/-- ITS FALSE NEIGHBOUR: 'it returns false'. Refute it at one input. -/
def fnExactLongestProbeWrong : ChangeSpec := { name := "fnExactLongestProbe", fn := fun _ => fun
  | [d] => { results := [.lit (.bool false)], args := [d] }
  | _ => none }
def FnExactLongestProbeWrongFalsely : Prop := fnExactLongestProbeRow.holds Try.pinned (OpenSpec.ofChange fnExactLongestProbeWrong)

/-- 'laws.FnExactFires': WHATEVER THE INPUT: true; the input reads as it did. -/
def fnExactFiresSpec : ChangeSpec := { name := "fnExactFires", fn := fun _ => fun
  | [d1, d2] => { results := [.lit (.bool true)], args := [d1, d2] }
  | _ => none }
def fnExactFiresRow : OpenClaim := { program := "ythhbgembnlpohaa", sum := "64673abc25bf159aee6072c1ca584caec3bc09eb0bf15a09952076b7daadfc48", func := "loop.example/g01608/laws.FnExactFires", spec := "fnExactFires", unfollowed := true, recurses := true, apart := false }
def FnExactFiresSaid : Prop := fnExactFiresRow.holds Try.pinned (OpenSpec.ofChange fnExactFiresSpec)

/-- ITS FALSE NEIGHBOUR: 'it returns false'. Refute it at one input. -/
def fnExactFiresWrong : ChangeSpec := { name := "fnExactFires", fn := fun _ => fun
  | [d1, d2] => { results := [.lit (.bool false)], args := [d1, d2] }
  | _ => none }
def FnExactFiresWrongFalsely : Prop := fnExactFiresRow.holds Try.pinned (OpenSpec.ofChange fnExactFiresWrong)

/-- 'laws.FnExactWindow': WHATEVER THE INPUT: true; the input reads as it did. -/
def fnExactWindowSpec : ChangeSpec := { name := "fnExactWindow", fn := fun _ => fun
  | [d1, d2] => { results := [.lit (.bool true)], args := [d1, d2] }
  | _ => none }
def fnExactWindowRow : OpenClaim := { program := "ythhbgembnlpohaa", sum := "64673abc25bf159aee6072c1ca584caec3bc09eb0bf15a09952076b7daadfc48", func := "loop.example/g01608/laws.FnExactWindow", spec := "fnExactWindow", unfollowed := true, recurses := true, apart := false }
def FnExactWindowSaid : Prop := fnExactWindowRow.holds Try.pinned (OpenSpec.ofChange fnExactWindowSpec)

/-- ITS FALSE NEIGHBOUR: 'it returns false'. Refute it at one input. -/
def fnExactWindowWrong : ChangeSpec := { name := "fnExactWindow", fn := fun _ => fun
  | [d1, d2] => { results := [.lit (.bool false)], args := [d1, d2] }
  | _ => none }
def FnExactWindowWrongFalsely : Prop := fnExactWindowRow.holds Try.pinned (OpenSpec.ofChange fnExactWindowWrong)

/- THE SECOND FORM. 'bulk': how many values and letters a reading holds, each counted each time it is reached (what is shared counts as often as it is met; a slice's spare places count too). A statement '..UptoSaid' is the law's where the arguments, and the package variables that the reading takes, are together of bulk at most 1048576: NARROWER than '..Said'. Prove '..Said' where nothing that the law and all that it calls make is longer than what came in: it says more and counts as full. Else prove '..UptoSaid'. A law counts once. -/
mutual
def uptoBulk {H : Type} : DataW H → Nat
  | .lit (.string bytes) => bytes.length + 1
  | .lit _ => 1
  | .nil => 1
  | .ptr d => uptoBulk d + 1
  | .slice elems spare => uptoBulkAll elems + uptoBulkAll spare + 1
  | .agg parts => uptoBulkAll parts + 1
  | .iface _ d => uptoBulk d + 1
  | .map entries => uptoBulkEntries entries + 1
  | .held _ => 1
def uptoBulkAll {H : Type} : List (DataW H) → Nat
  | [] => 0
  | d :: r => uptoBulk d + uptoBulkAll r
def uptoBulkEntries {H : Type} : List (Lit × DataW H) → Nat
  | [] => 0
  | x :: r => uptoBulkEntry x + uptoBulkEntries r
def uptoBulkEntry {H : Type} : Lit × DataW H → Nat
  | (.string bytes, d) => bytes.length + uptoBulk d + 1
  | (_, d) => uptoBulk d + 1
 end
def uptoSmall : (H : Type) → List (DataW H) → Bool := fun _ ds => decide (uptoBulkAll ds ≤ 1048576)
def OpenSpec.upto (s : _root_.Go.ChangeSpec) : _root_.Go.OpenSpec := { _root_.Go.OpenSpec.ofChange s with cond := some uptoSmall }

/-- 'laws.FnExactProbeLen', WHERE WHAT IT READS IS OF BULK AT MOST 1048576: true; the input reads as it did. -/
def fnExactProbeLenUptoRow : OpenClaim := { program := "ythhbgembnlpohaa", sum := "64673abc25bf159aee6072c1ca584caec3bc09eb0bf15a09952076b7daadfc48", func := "loop.example/g01608/laws.FnExactProbeLen", spec := "fnExactProbeLen", unfollowed := true, recurses := true, apart := false, narrowed := true }
def FnExactProbeLenUptoSaid : Prop := fnExactProbeLenUptoRow.holds Try.pinned (OpenSpec.upto fnExactProbeLenSpec)

/-- 'laws.FnExactOverlap', WHERE WHAT IT READS IS OF BULK AT MOST 1048576: true; the input reads as it did. -/
def fnExactOverlapUptoRow : OpenClaim := { program := "ythhbgembnlpohaa", sum := "64673abc25bf159aee6072c1ca584caec3bc09eb0bf15a09952076b7daadfc48", func := "loop.example/g01608/laws.FnExactOverlap", spec := "fnExactOverlap", unfollowed := true, recurses := true, apart := false, narrowed := true }
def FnExactOverlapUptoSaid : Prop := fnExactOverlapUptoRow.holds Try.pinned (OpenSpec.upto fnExactOverlapSpec)

/-- 'laws.FnExactFlushSpan', WHERE WHAT IT READS IS OF BULK AT MOST 1048576: true; the input reads as it did. -/
def fnExactFlushSpanUptoRow : OpenClaim := { program := "ythhbgembnlpohaa", sum := "64673abc25bf159aee6072c1ca584caec3bc09eb0bf15a09952076b7daadfc48", func := "loop.example/g01608/laws.FnExactFlushSpan", spec := "fnExactFlushSpan", unfollowed := true, recurses := true, apart := false, narrowed := true }
def FnExactFlushSpanUptoSaid : Prop := fnExactFlushSpanUptoRow.holds Try.pinned (OpenSpec.upto fnExactFlushSpanSpec)

/-- 'laws.FnExactLatency', WHERE WHAT IT READS IS OF BULK AT MOST 1048576: true; the input reads as it did. -/
def fnExactLatencyUptoRow : OpenClaim := { program := "ythhbgembnlpohaa", sum := "64673abc25bf159aee6072c1ca584caec3bc09eb0bf15a09952076b7daadfc48", func := "loop.example/g01608/laws.FnExactLatency", spec := "fnExactLatency", unfollowed := true, recurses := true, apart := false, narrowed := true }
def FnExactLatencyUptoSaid : Prop := fnExactLatencyUptoRow.holds Try.pinned (OpenSpec.upto fnExactLatencySpec)

/-- 'laws.FnExactStoreOk', WHERE WHAT IT READS IS OF BULK AT MOST 1048576: true; the input reads as it did. -/
def fnExactStoreOkUptoRow : OpenClaim := { program := "ythhbgembnlpohaa", sum := "64673abc25bf159aee6072c1ca584caec3bc09eb0bf15a09952076b7daadfc48", func := "loop.example/g01608/laws.FnExactStoreOk", spec := "fnExactStoreOk", unfollowed := true, recurses := true, apart := false, narrowed := true }
def FnExactStoreOkUptoSaid : Prop := fnExactStoreOkUptoRow.holds Try.pinned (OpenSpec.upto fnExactStoreOkSpec)

/-- 'laws.FnExactContention', WHERE WHAT IT READS IS OF BULK AT MOST 1048576: true; the input reads as it did. -/
def fnExactContentionUptoRow : OpenClaim := { program := "ythhbgembnlpohaa", sum := "64673abc25bf159aee6072c1ca584caec3bc09eb0bf15a09952076b7daadfc48", func := "loop.example/g01608/laws.FnExactContention", spec := "fnExactContention", unfollowed := true, recurses := true, apart := false, narrowed := true }
def FnExactContentionUptoSaid : Prop := fnExactContentionUptoRow.holds Try.pinned (OpenSpec.upto fnExactContentionSpec)

/-- 'laws.FnExactLongestProbe', WHERE WHAT IT READS IS OF BULK AT MOST 1048576: true; the input reads as it did. -/
def fnExactLongestProbeUptoRow : OpenClaim := { program := "ythhbgembnlpohaa", sum := "64673abc25bf159aee6072c1ca584caec3bc09eb0bf15a09952076b7daadfc48", func := "loop.example/g01608/laws.FnExactLongestProbe", spec := "fnExactLongestProbe", unfollowed := true, recurses := true, apart := false, narrowed := true }
def FnExactLongestProbeUptoSaid : Prop := fnExactLongestProbeUptoRow.holds Try.pinned (OpenSpec.upto fnExactLongestProbeSpec)

/-- 'laws.FnExactFires', WHERE WHAT IT READS IS OF BULK AT MOST 1048576: true; the input reads as it did. -/
def fnExactFiresUptoRow : OpenClaim := { program := "ythhbgembnlpohaa", sum := "64673abc25bf159aee6072c1ca584caec3bc09eb0bf15a09952076b7daadfc48", func := "loop.example/g01608/laws.FnExactFires", spec := "fnExactFires", unfollowed := true, recurses := true, apart := false, narrowed := true }
def FnExactFiresUptoSaid : Prop := fnExactFiresUptoRow.holds Try.pinned (OpenSpec.upto fnExactFiresSpec)

/-- 'laws.FnExactWindow', WHERE WHAT IT READS IS OF BULK AT MOST 1048576: true; the input reads as it did. -/
def fnExactWindowUptoRow : OpenClaim := { program := "ythhbgembnlpohaa", sum := "64673abc25bf159aee6072c1ca584caec3bc09eb0bf15a09952076b7daadfc48", func := "loop.example/g01608/laws.FnExactWindow", spec := "fnExactWindow", unfollowed := true, recurses := true, apart := false, narrowed := true }
def FnExactWindowUptoSaid : Prop := fnExactWindowUptoRow.holds Try.pinned (OpenSpec.upto fnExactWindowSpec)

end Rows
end Go.Proofs.Ythhbgembnlpohaa
