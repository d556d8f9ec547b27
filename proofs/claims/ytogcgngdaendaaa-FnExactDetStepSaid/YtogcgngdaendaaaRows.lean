/-
  No cell of these rows narrows 'for every input' (looked for: loops, veiled, ifaces, maps, wideKeys, modest, calm, conditions, laid).
  DERIVED. THE GIVEN ROWS OF THIS SEAT. 11 by the template 'for every input the law returns true; each argument reads behind the call as it read before'; 0 by the template 'total and deterministic' (their statements: YtogcgngdaendaaaTotals.lean).
  GIVEN WITH THE SEED: the statements are not yours to turn. If you find one false, say at which input.
  Laid BY PROGRAM, IN A SANDBOX (cutbox-rows.mjs): the forced cells as the released guide's own fill.sh prints them over the translation 27bb0a896d645aef… (all of the seat's roots in one cut). By AI agents, Wed Nov 11 2026. No macro, syntax, notation, axiom, sorry.
-/
import Derived.Test.YtogcgngdaendaaaChecked
import GoSem.Claim
import GoSem.ClaimJoined
import GoSem.ClaimMapViews
import Derived.JoinedTies
import Derived.KernelRfl
namespace Go.Proofs.Ytogcgngdaendaaa
/- THE CELL 'sum', in the pinned program and in every row, IS THE sha256 OF THE DUMP (.gsa) THAT YtogcgngdaendaaaProg.lean LOADS. Nothing in Lean hashes anything: it is a label: what it is worth is what the hold of that sum in a sandbox is worth. -/
noncomputable def Try.pinned : Pinned := { name := "ytogcgngdaendaaa", sum := "27bb0a896d645aef9f38c00628535837bc92abac5bf5f08b916d6cf44260c676", checked := Try.checked }
namespace Rows
def none {H : Type} : Left H := { results := [], args := [] }

/-- 'laws.FnExactTally': WHATEVER THE INPUT: true; the input reads as it did. -/
def fnExactTallySpec : ChangeSpec := { name := "fnExactTally", fn := fun _ => fun
  | [d1, d2, d3] => { results := [.lit (.bool true)], args := [d1, d2, d3] }
  | _ => none }
def fnExactTallyRow : OpenClaim := { program := "ytogcgngdaendaaa", sum := "27bb0a896d645aef9f38c00628535837bc92abac5bf5f08b916d6cf44260c676", func := "loop.example/g00477/laws.FnExactTally", spec := "fnExactTally", apart := false }
def FnExactTallySaid : Prop := fnExactTallyRow.holds Try.pinned (OpenSpec.ofChange fnExactTallySpec)

/-- ITS FALSE NEIGHBOUR: 'it returns false'. Refute it at one input. -/
def fnExactTallyWrong : ChangeSpec := { name := "fnExactTally", fn := fun _ => fun
  | [d1, d2, d3] => { results := [.lit (.bool false)], args := [d1, d2, d3] }
  | _ => none }
def FnExactTallyWrongFalsely : Prop := fnExactTallyRow.holds Try.pinned (OpenSpec.ofChange fnExactTallyWrong)

/-- 'laws.FnExactScoreNew': WHATEVER THE INPUT: true; the input reads as it did. -/
def fnExactScoreNewSpec : ChangeSpec := { name := "fnExactScoreNew", fn := fun _ => fun
  | [d] => { results := [.lit (.bool true)], args := [d] }
  | _ => none }
def fnExactScoreNewRow : OpenClaim := { program := "ytogcgngdaendaaa", sum := "27bb0a896d645aef9f38c00628535837bc92abac5bf5f08b916d6cf44260c676", func := "loop.example/g00477/laws.FnExactScoreNew", spec := "fnExactScoreNew", apart := false }
def FnExactScoreNewSaid : Prop := fnExactScoreNewRow.holds Try.pinned (OpenSpec.ofChange fnExactScoreNewSpec)

/-- ITS FALSE NEIGHBOUR: 'it returns false'. Refute it at one input. -/
def fnExactScoreNewWrong : ChangeSpec := { name := "fnExactScoreNew", fn := fun _ => fun
  | [d] => { results := [.lit (.bool false)], args := [d] }
  | _ => none }
def FnExactScoreNewWrongFalsely : Prop := fnExactScoreNewRow.holds Try.pinned (OpenSpec.ofChange fnExactScoreNewWrong)

/-- 'laws.FnExactLeaves': WHATEVER THE INPUT: true; the input reads as it did. -/
def fnExactLeavesSpec : ChangeSpec := { name := "fnExactLeaves", fn := fun _ => fun
  | [d] => { results := [.lit (.bool true)], args := [d] }
  | _ => none }
def fnExactLeavesRow : OpenClaim := { program := "ytogcgngdaendaaa", sum := "27bb0a896d645aef9f38c00628535837bc92abac5bf5f08b916d6cf44260c676", func := "loop.example/g00477/laws.FnExactLeaves", spec := "fnExactLeaves", unfollowed := true, recurses := true, apart := false }
def FnExactLeavesSaid : Prop := fnExactLeavesRow.holds Try.pinned (OpenSpec.ofChange fnExactLeavesSpec)

/-- ITS FALSE NEIGHBOUR: 'it returns false'. Refute it at one input. -/
def fnExactLeavesWrong : ChangeSpec := { name := "fnExactLeaves", fn := fun _ => fun
  | [d] => { results := [.lit (.bool false)], args := [d] }
  | _ => none }
def FnExactLeavesWrongFalsely : Prop := fnExactLeavesRow.holds Try.pinned (OpenSpec.ofChange fnExactLeavesWrong)

/-- 'laws.FnExactActiveLeaves': WHATEVER THE INPUT: true; the input reads as it did. -/
def fnExactActiveLeavesSpec : ChangeSpec := { name := "fnExactActiveLeaves", fn := fun _ => fun
  | [d] => { results := [.lit (.bool true)], args := [d] }
  | _ => none }
def fnExactActiveLeavesRow : OpenClaim := { program := "ytogcgngdaendaaa", sum := "27bb0a896d645aef9f38c00628535837bc92abac5bf5f08b916d6cf44260c676", func := "loop.example/g00477/laws.FnExactActiveLeaves", spec := "fnExactActiveLeaves", unfollowed := true, recurses := true, apart := false }
def FnExactActiveLeavesSaid : Prop := fnExactActiveLeavesRow.holds Try.pinned (OpenSpec.ofChange fnExactActiveLeavesSpec)

/-- ITS FALSE NEIGHBOUR: 'it returns false'. Refute it at one input. -/
def fnExactActiveLeavesWrong : ChangeSpec := { name := "fnExactActiveLeaves", fn := fun _ => fun
  | [d] => { results := [.lit (.bool false)], args := [d] }
  | _ => none }
def FnExactActiveLeavesWrongFalsely : Prop := fnExactActiveLeavesRow.holds Try.pinned (OpenSpec.ofChange fnExactActiveLeavesWrong)

/-- 'laws.FnExactShrink': WHATEVER THE INPUT: true; the input reads as it did. -/
def fnExactShrinkSpec : ChangeSpec := { name := "fnExactShrink", fn := fun _ => fun
  | [d1, d2] => { results := [.lit (.bool true)], args := [d1, d2] }
  | _ => none }
def fnExactShrinkRow : OpenClaim := { program := "ytogcgngdaendaaa", sum := "27bb0a896d645aef9f38c00628535837bc92abac5bf5f08b916d6cf44260c676", func := "loop.example/g00477/laws.FnExactShrink", spec := "fnExactShrink", unfollowed := true, recurses := true, apart := false }
def FnExactShrinkSaid : Prop := fnExactShrinkRow.holds Try.pinned (OpenSpec.ofChange fnExactShrinkSpec)

/-- ITS FALSE NEIGHBOUR: 'it returns false'. Refute it at one input. -/
def fnExactShrinkWrong : ChangeSpec := { name := "fnExactShrink", fn := fun _ => fun
  | [d1, d2] => { results := [.lit (.bool false)], args := [d1, d2] }
  | _ => none }
def FnExactShrinkWrongFalsely : Prop := fnExactShrinkRow.holds Try.pinned (OpenSpec.ofChange fnExactShrinkWrong)

/-- 'laws.FnExactWindowStep': WHATEVER THE INPUT: true; the input reads as it did. -/
def fnExactWindowStepSpec : ChangeSpec := { name := "fnExactWindowStep", fn := fun _ => fun
  | [d1, d2, d3] => { results := [.lit (.bool true)], args := [d1, d2, d3] }
  | _ => none }
def fnExactWindowStepRow : OpenClaim := { program := "ytogcgngdaendaaa", sum := "27bb0a896d645aef9f38c00628535837bc92abac5bf5f08b916d6cf44260c676", func := "loop.example/g00477/laws.FnExactWindowStep", spec := "fnExactWindowStep", unfollowed := true, recurses := true, apart := false }
def FnExactWindowStepSaid : Prop := fnExactWindowStepRow.holds Try.pinned (OpenSpec.ofChange fnExactWindowStepSpec)

/-- ITS FALSE NEIGHBOUR: 'it returns false'. Refute it at one input. -/
def fnExactWindowStepWrong : ChangeSpec := { name := "fnExactWindowStep", fn := fun _ => fun
  | [d1, d2, d3] => { results := [.lit (.bool false)], args := [d1, d2, d3] }
  | _ => none }
def FnExactWindowStepWrongFalsely : Prop := fnExactWindowStepRow.holds Try.pinned (OpenSpec.ofChange fnExactWindowStepWrong)

/-- 'laws.FnExactDetRun': WHATEVER THE INPUT: true; the input reads as it did. -/
def fnExactDetRunSpec : ChangeSpec := { name := "fnExactDetRun", fn := fun _ => fun
  | [d1, d2, d3] => { results := [.lit (.bool true)], args := [d1, d2, d3] }
  | _ => none }
def fnExactDetRunRow : OpenClaim := { program := "ytogcgngdaendaaa", sum := "27bb0a896d645aef9f38c00628535837bc92abac5bf5f08b916d6cf44260c676", func := "loop.example/g00477/laws.FnExactDetRun", spec := "fnExactDetRun", unfollowed := true, recurses := true, apart := false }
def FnExactDetRunSaid : Prop := fnExactDetRunRow.holds Try.pinned (OpenSpec.ofChange fnExactDetRunSpec)

/-- ITS FALSE NEIGHBOUR: 'it returns false'. Refute it at one input. -/
def fnExactDetRunWrong : ChangeSpec := { name := "fnExactDetRun", fn := fun _ => fun
  | [d1, d2, d3] => { results := [.lit (.bool false)], args := [d1, d2, d3] }
  | _ => none }
def FnExactDetRunWrongFalsely : Prop := fnExactDetRunRow.holds Try.pinned (OpenSpec.ofChange fnExactDetRunWrong)

/-- 'laws.FnExactDetStep': WHATEVER THE INPUT: true; the input reads as it did. -/
def fnExactDetStepSpec : ChangeSpec := { name := "fnExactDetStep", fn := fun _ => fun
  | [d1, d2, d3, d4] => { results := [.lit (.bool true)], args := [d1, d2, d3, d4] }
  | _ => none }
def fnExactDetStepRow : OpenClaim := { program := "ytogcgngdaendaaa", sum := "27bb0a896d645aef9f38c00628535837bc92abac5bf5f08b916d6cf44260c676", func := "loop.example/g00477/laws.FnExactDetStep", spec := "fnExactDetStep", unfollowed := true, recurses := true, apart := false }
def FnExactDetStepSaid : Prop := fnExactDetStepRow.holds Try.pinned (OpenSpec.ofChange fnExactDetStepSpec)

/-- ITS FALSE NEIGHBOUR: 'it returns false'. Refute it at one input. -/
def fnExactDetStepWrong : ChangeSpec := { name := "fnExactDetStep", fn := fun _ => fun
  | [d1, d2, d3, d4] => { results := [.lit (.bool false)], args := [d1, d2, d3, d4] }
  | _ => none }
def FnExactDetStepWrongFalsely : Prop := fnExactDetStepRow.holds Try.pinned (OpenSpec.ofChange fnExactDetStepWrong)

/-- 'laws.FnExactTreeNew': WHATEVER THE INPUT: true; the input reads as it did. -/
def fnExactTreeNewSpec : ChangeSpec := { name := "fnExactTreeNew", fn := fun _ => fun
  | [d1, d2] => { results := [.lit (.bool true)], args := [d1, d2] }
  | _ => none }
def fnExactTreeNewRow : OpenClaim := { program := "ytogcgngdaendaaa", sum := "27bb0a896d645aef9f38c00628535837bc92abac5bf5f08b916d6cf44260c676", func := "loop.example/g00477/laws.FnExactTreeNew", spec := "fnExactTreeNew", unfollowed := true, recurses := true, apart := false }
def FnExactTreeNewSaid : Prop := fnExactTreeNewRow.holds Try.pinned (OpenSpec.ofChange fnExactTreeNewSpec)

/-- ITS FALSE NEIGHBOUR: 'it returns false'. Refute it at one input. -/
def fnExactTreeNewWrong : ChangeSpec := { name := "fnExactTreeNew", fn := fun _ => fun
  | [d1, d2] => { results := [.lit (.bool false)], args := [d1, d2] }
  | _ => none }
def FnExactTreeNewWrongFalsely : Prop := fnExactTreeNewRow.holds Try.pinned (OpenSpec.ofChange fnExactTreeNewWrong)

/-- 'laws.FnExactPathTo': WHATEVER THE INPUT: true; the input reads as it did. -/
def fnExactPathToSpec : ChangeSpec := { name := "fnExactPathTo", fn := fun _ => fun
  | [d1, d2, d3] => { results := [.lit (.bool true)], args := [d1, d2, d3] }
  | _ => none }
def fnExactPathToRow : OpenClaim := { program := "ytogcgngdaendaaa", sum := "27bb0a896d645aef9f38c00628535837bc92abac5bf5f08b916d6cf44260c676", func := "loop.example/g00477/laws.FnExactPathTo", spec := "fnExactPathTo", unfollowed := true, recurses := true, apart := false }
def FnExactPathToSaid : Prop := fnExactPathToRow.holds Try.pinned (OpenSpec.ofChange fnExactPathToSpec)

/-- ITS FALSE NEIGHBOUR: 'it returns false'. Refute it at one input. -/
def fnExactPathToWrong : ChangeSpec := { name := "fnExactPathTo", fn := fun _ => fun
  | [d1, d2, d3] => { results := [.lit (.bool false)], args := [d1, d2, d3] }
  | _ => none }
def FnExactPathToWrongFalsely : Prop := fnExactPathToRow.holds Try.pinned (OpenSpec.ofChange fnExactPathToWrong)

/-- 'laws.FnExactLeafVote': WHATEVER THE INPUT: true; the input reads as it did. -/
def fnExactLeafVoteSpec : ChangeSpec := { name := "fnExactLeafVote", fn := fun _ => fun
  | [d1, d2, d3] => { results := [.lit (.bool true)], args := [d1, d2, d3] }
  | _ => none }
def fnExactLeafVoteRow : OpenClaim := { program := "ytogcgngdaendaaa", sum := "27bb0a896d645aef9f38c00628535837bc92abac5bf5f08b916d6cf44260c676", func := "loop.example/g00477/laws.FnExactLeafVote", spec := "fnExactLeafVote", unfollowed := true, recurses := true, apart := false }
def FnExactLeafVoteSaid : Prop := fnExactLeafVoteRow.holds Try.pinned (OpenSpec.ofChange fnExactLeafVoteSpec)

/-- ITS FALSE NEIGHBOUR: 'it returns false'. Refute it at one input. -/
def fnExactLeafVoteWrong : ChangeSpec := { name := "fnExactLeafVote", fn := fun _ => fun
  | [d1, d2, d3] => { results := [.lit (.bool false)], args := [d1, d2, d3] }
  | _ => none }
def FnExactLeafVoteWrongFalsely : Prop := fnExactLeafVoteRow.holds Try.pinned (OpenSpec.ofChange fnExactLeafVoteWrong)

/- THE SECOND FORM. 'bulk': how many values and letters a reading holds, each counted each time it is reached (what is shared counts as often as it is met; a slice's spare places count too). A statement '..UptoSaid' is the law's where the arguments, and the package variables that the reading takes, are together of bulk at most 1048576: NARROWER than '..Said'. Prove '..Said' where nothing that the law and all that it calls make is longer than what came in: it says more and counts as full. Else prove '..UptoSaid'. A law counts once. -/
mutual
def uptoBulk {H : Type} : DataW H → Nat
  | .lit (.string bytes) => bytes.length + 1
  | .lit _ => 1
  | .nil => 1
  | .ptr d => uptoBulk d + 1
  | .slice elems spare => uptoBulkAll elems + uptoBulkAll spare + 1
  | .agg parts => uptoBulkAll parts + 1
  | .iface _ d => uptoBulk d + 1
  | .map entries => uptoBulkEntries entries + 1
  | .held _ => 1
def uptoBulkAll {H : Type} : List (DataW H) → Nat
  | [] => 0
  | d :: r => uptoBulk d + uptoBulkAll r
def uptoBulkEntries {H : Type} : List (Lit × DataW H) → Nat
  | [] => 0
  | x :: r => uptoBulkEntry x + uptoBulkEntries r
def uptoBulkEntry {H : Type} : Lit × DataW H → Nat
  | (.string bytes, d) => bytes.length + uptoBulk d + 1
  | (_, d) => uptoBulk d + 1
 end
def uptoSmall : (H : Type) → List (DataW H) → Bool := fun _ ds => decide (uptoBulkAll ds ≤ 1048576)
def OpenSpec.upto (s : _root_.Go.ChangeSpec) : _root_.Go.OpenSpec := { _root_.Go.OpenSpec.ofChange s with cond := some uptoSmall }

/-- 'laws.FnExactTally', WHERE WHAT IT READS IS OF BULK AT MOST 1048576: true; the input reads as it did. -/
def fnExactTallyUptoRow : OpenClaim := { program := "ytogcgngdaendaaa", sum := "27bb0a896d645aef9f38c00628535837bc92abac5bf5f08b916d6cf44260c676", func := "loop.example/g00477/laws.FnExactTally", spec := "fnExactTally", apart := false, narrowed := true }
def FnExactTallyUptoSaid : Prop := fnExactTallyUptoRow.holds Try.pinned (OpenSpec.upto fnExactTallySpec)

/-- 'laws.FnExactScoreNew', WHERE WHAT IT READS IS OF BULK AT MOST 1048576: true; the input reads as it did. -/
def fnExactScoreNewUptoRow : OpenClaim := { program := "ytogcgngdaendaaa", sum := "27bb0a896d645aef9f38c00628535837bc92abac5bf5f08b916d6cf44260c676", func := "loop.example/g00477/laws.FnExactScoreNew", spec := "fnExactScoreNew", apart := false, narrowed := true }
def FnExactScoreNewUptoSaid : Prop := fnExactScoreNewUptoRow.holds Try.pinned (OpenSpec.upto fnExactScoreNewSpec)

/-- 'laws.FnExactLeaves', WHERE WHAT IT READS IS OF BULK AT MOST 1048576: true; the input reads as it did. -/
def fnExactLeavesUptoRow : OpenClaim := { program := "ytogcgngdaendaaa", sum := "27bb0a896d645aef9f38c00628535837bc92abac5bf5f08b916d6cf44260c676", func := "loop.example/g00477/laws.FnExactLeaves", spec := "fnExactLeaves", unfollowed := true, recurses := true, apart := false, narrowed := true }
def FnExactLeavesUptoSaid : Prop := fnExactLeavesUptoRow.holds Try.pinned (OpenSpec.upto fnExactLeavesSpec)

/-- 'laws.FnExactActiveLeaves', WHERE WHAT IT READS IS OF BULK AT MOST 1048576: true; the input reads as it did. -/
def fnExactActiveLeavesUptoRow : OpenClaim := { program := "ytogcgngdaendaaa", sum := "27bb0a896d645aef9f38c00628535837bc92abac5bf5f08b916d6cf44260c676", func := "loop.example/g00477/laws.FnExactActiveLeaves", spec := "fnExactActiveLeaves", unfollowed := true, recurses := true, apart := false, narrowed := true }
def FnExactActiveLeavesUptoSaid : Prop := fnExactActiveLeavesUptoRow.holds Try.pinned (OpenSpec.upto fnExactActiveLeavesSpec)

/-- 'laws.FnExactShrink', WHERE WHAT IT READS IS OF BULK AT MOST 1048576: true; the input reads as it did. -/
def fnExactShrinkUptoRow : OpenClaim := { program := "ytogcgngdaendaaa", sum := "27bb0a896d645aef9f38c00628535837bc92abac5bf5f08b916d6cf44260c676", func := "loop.example/g00477/laws.FnExactShrink", spec := "fnExactShrink", unfollowed := true, recurses := true, apart := false, narrowed := true }
def FnExactShrinkUptoSaid : Prop := fnExactShrinkUptoRow.holds Try.pinned (OpenSpec.upto fnExactShrinkSpec)

/-- 'laws.FnExactWindowStep', WHERE WHAT IT READS IS OF BULK AT MOST 1048576: true; the input reads as it did. -/
def fnExactWindowStepUptoRow : OpenClaim := { program := "ytogcgngdaendaaa", sum := "27bb0a896d645aef9f38c00628535837bc92abac5bf5f08b916d6cf44260c676", func := "loop.example/g00477/laws.FnExactWindowStep", spec := "fnExactWindowStep", unfollowed := true, recurses := true, apart := false, narrowed := true }
def FnExactWindowStepUptoSaid : Prop := fnExactWindowStepUptoRow.holds Try.pinned (OpenSpec.upto fnExactWindowStepSpec)

/-- 'laws.FnExactDetRun', WHERE WHAT IT READS IS OF BULK AT MOST 1048576: true; the input reads as it did. -/
def fnExactDetRunUptoRow : OpenClaim := { program := "ytogcgngdaendaaa", sum := "27bb0a896d645aef9f38c00628535837bc92abac5bf5f08b916d6cf44260c676", func := "loop.example/g00477/laws.FnExactDetRun", spec := "fnExactDetRun", unfollowed := true, recurses := true, apart := false, narrowed := true }
def FnExactDetRunUptoSaid : Prop := fnExactDetRunUptoRow.holds Try.pinned (OpenSpec.upto fnExactDetRunSpec)

/-- 'laws.FnExactDetStep', WHERE WHAT IT READS IS OF BULK AT MOST 1048576: true; the input reads as it did. -/
def fnExactDetStepUptoRow : OpenClaim := { program := "ytogcgngdaendaaa", sum := "27bb0a896d645aef9f38c00628535837bc92abac5bf5f08b916d6cf44260c676", func := "loop.example/g00477/laws.FnExactDetStep", spec := "fnExactDetStep", unfollowed := true, recurses := true, apart := false, narrowed := true }
def FnExactDetStepUptoSaid : Prop := fnExactDetStepUptoRow.holds Try.pinned (OpenSpec.upto fnExactDetStepSpec)

/-- 'laws.FnExactTreeNew', WHERE WHAT IT READS IS OF BULK AT MOST 1048576: true; the input reads as it did. -/
def fnExactTreeNewUptoRow : OpenClaim := { program := "ytogcgngdaendaaa", sum := "27bb0a896d645aef9f38c00628535837bc92abac5bf5f08b916d6cf44260c676", func := "loop.example/g00477/laws.FnExactTreeNew", spec := "fnExactTreeNew", unfollowed := true, recurses := true, apart := false, narrowed := true }
def FnExactTreeNewUptoSaid : Prop := fnExactTreeNewUptoRow.holds Try.pinned (OpenSpec.upto fnExactTreeNewSpec)

/-- 'laws.FnExactPathTo', WHERE WHAT IT READS IS OF BULK AT MOST 1048576: true; the input reads as it did. -/
def fnExactPathToUptoRow : OpenClaim := { program := "ytogcgngdaendaaa", sum := "27bb0a896d645aef9f38c00628535837bc92abac5bf5f08b916d6cf44260c676", func := "loop.example/g00477/laws.FnExactPathTo", spec := "fnExactPathTo", unfollowed := true, recurses := true, apart := false, narrowed := true }
def FnExactPathToUptoSaid : Prop := fnExactPathToUptoRow.holds Try.pinned (OpenSpec.upto fnExactPathToSpec)

/-- 'laws.FnExactLeafVote', WHERE WHAT IT READS IS OF BULK AT MOST 1048576: true; the input reads as it did. -/
def fnExactLeafVoteUptoRow : OpenClaim := { program := "ytogcgngdaendaaa", sum := "27bb0a896d645aef9f38c00628535837bc92abac5bf5f08b916d6cf44260c676", func := "loop.example/g00477/laws.FnExactLeafVote", spec := "fnExactLeafVote", unfollowed := true, recurses := true, apart := false, narrowed := true }
def FnExactLeafVoteUptoSaid : Prop := fnExactLeafVoteUptoRow.holds Try.pinned (OpenSpec.upto fnExactLeafVoteSpec)

end Rows
end Go.Proofs.Ytogcgngdaendaaa
