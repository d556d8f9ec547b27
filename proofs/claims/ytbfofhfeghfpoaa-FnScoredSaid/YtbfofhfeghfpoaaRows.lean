/-
  No cell of these rows narrows 'for every input' (looked for: loops, veiled, ifaces, maps, wideKeys, modest, calm, conditions, laid).
  DERIVED. THE GIVEN ROWS OF THIS SEAT. 7 by the template 'for every input the law returns true; each argument reads behind the call as it read before'; 0 by the template 'total and deterministic' (their statements: YtbfofhfeghfpoaaTotals.lean).
  GIVEN WITH THE SEED: the statements are not yours to turn. If you find one false, say at which input.
  Laid BY PROGRAM, IN A SANDBOX (cutbox-rows.mjs): the forced cells as the released guide's own fill.sh prints them over the translation 9bc2c099092190a8… (all of the seat's roots in one cut). By AI agents, Wed Nov 11 2026. No macro, syntax, notation, axiom, sorry.
-/
import Derived.Test.YtbfofhfeghfpoaaChecked
import GoSem.Claim
import GoSem.ClaimJoined
import GoSem.ClaimMapViews
import Derived.JoinedTies
import Derived.KernelRfl
namespace Go.Proofs.Ytbfofhfeghfpoaa
/- THE CELL 'sum', in the pinned program and in every row, IS THE sha256 OF THE DUMP (.gsa) THAT YtbfofhfeghfpoaaProg.lean LOADS. Nothing in Lean hashes anything: it is a label: what it is worth is what the hold of that sum in a sandbox is worth. -/
noncomputable def Try.pinned : Pinned := { name := "ytbfofhfeghfpoaa", sum := "9bc2c099092190a864eaf0f5646692e40cfe69ad6e9d4526dbf09f2fa8d1dd6b", checked := Try.checked }
namespace Rows
def none {H : Type} : Left H := { results := [], args := [] }

/-- 'laws.FnTally': WHATEVER THE INPUT: true; the input reads as it did. -/
def fnTallySpec : ChangeSpec := { name := "fnTally", fn := fun _ => fun
  | [d] => { results := [.lit (.bool true)], args := [d] }
  | _ => none }
def fnTallyRow : OpenClaim := { program := "ytbfofhfeghfpoaa", sum := "9bc2c099092190a864eaf0f5646692e40cfe69ad6e9d4526dbf09f2fa8d1dd6b", func := "loop.example/g00477/laws.FnTally", spec := "fnTally", plainKeys := false, apart := false }
def FnTallySaid : Prop := fnTallyRow.holds Try.pinned (OpenSpec.ofChange fnTallySpec)

/-- ITS FALSE NEIGHBOUR: 'it returns false'. Refute it at one input. -/
def fnTallyWrong : ChangeSpec := { name := "fnTally", fn := fun _ => fun
  | [d] => { results := [.lit (.bool false)], args := [d] }
  | _ => none }
def FnTallyWrongFalsely : Prop := fnTallyRow.holds Try.pinned (OpenSpec.ofChange fnTallyWrong)

/-- 'laws.FnScored': WHATEVER THE INPUT: true; the input reads as it did. -/
def fnScoredSpec : ChangeSpec := { name := "fnScored", fn := fun _ => fun
  | [d] => { results := [.lit (.bool true)], args := [d] }
  | _ => none }
def fnScoredRow : OpenClaim := { program := "ytbfofhfeghfpoaa", sum := "9bc2c099092190a864eaf0f5646692e40cfe69ad6e9d4526dbf09f2fa8d1dd6b", func := "loop.example/g00477/laws.FnScored", spec := "fnScored", unfollowed := true, recurses := true, plainKeys := false, apart := false }
def FnScoredSaid : Prop := fnScoredRow.holds Try.pinned (OpenSpec.ofChange fnScoredSpec)

/-- ITS FALSE NEIGHBOUR: 'it returns false'. Refute it at one input. -/
def fnScoredWrong : ChangeSpec := { name := "fnScored", fn := fun _ => fun
  | [d] => { results := [.lit (.bool false)], args := [d] }
  | _ => none }
def FnScoredWrongFalsely : Prop := fnScoredRow.holds Try.pinned (OpenSpec.ofChange fnScoredWrong)

/-- 'laws.FnExactScoreOk': WHATEVER THE INPUT: true; the input reads as it did. -/
def fnExactScoreOkSpec : ChangeSpec := { name := "fnExactScoreOk", fn := fun _ => fun
  | [d1, d2] => { results := [.lit (.bool true)], args := [d1, d2] }
  | _ => none }
def fnExactScoreOkRow : OpenClaim := { program := "ytbfofhfeghfpoaa", sum := "9bc2c099092190a864eaf0f5646692e40cfe69ad6e9d4526dbf09f2fa8d1dd6b", func := "loop.example/g00477/laws.FnExactScoreOk", spec := "fnExactScoreOk", unfollowed := true, recurses := true, plainKeys := false, apart := false }
def FnExactScoreOkSaid : Prop := fnExactScoreOkRow.holds Try.pinned (OpenSpec.ofChange fnExactScoreOkSpec)

/-- ITS FALSE NEIGHBOUR: 'it returns false'. Refute it at one input. -/
def fnExactScoreOkWrong : ChangeSpec := { name := "fnExactScoreOk", fn := fun _ => fun
  | [d1, d2] => { results := [.lit (.bool false)], args := [d1, d2] }
  | _ => none }
def FnExactScoreOkWrongFalsely : Prop := fnExactScoreOkRow.holds Try.pinned (OpenSpec.ofChange fnExactScoreOkWrong)

/-- 'laws.FnShrunk': WHATEVER THE INPUT: true; the input reads as it did. -/
def fnShrunkSpec : ChangeSpec := { name := "fnShrunk", fn := fun _ => fun
  | [d] => { results := [.lit (.bool true)], args := [d] }
  | _ => none }
def fnShrunkRow : OpenClaim := { program := "ytbfofhfeghfpoaa", sum := "9bc2c099092190a864eaf0f5646692e40cfe69ad6e9d4526dbf09f2fa8d1dd6b", func := "loop.example/g00477/laws.FnShrunk", spec := "fnShrunk", unfollowed := true, recurses := true, plainKeys := false, apart := false }
def FnShrunkSaid : Prop := fnShrunkRow.holds Try.pinned (OpenSpec.ofChange fnShrunkSpec)

/-- ITS FALSE NEIGHBOUR: 'it returns false'. Refute it at one input. -/
def fnShrunkWrong : ChangeSpec := { name := "fnShrunk", fn := fun _ => fun
  | [d] => { results := [.lit (.bool false)], args := [d] }
  | _ => none }
def FnShrunkWrongFalsely : Prop := fnShrunkRow.holds Try.pinned (OpenSpec.ofChange fnShrunkWrong)

/-- 'laws.FnExactDetRun': WHATEVER THE INPUT: true; the input reads as it did. -/
def fnExactDetRunSpec : ChangeSpec := { name := "fnExactDetRun", fn := fun _ => fun
  | [d1, d2, d3] => { results := [.lit (.bool true)], args := [d1, d2, d3] }
  | _ => none }
def fnExactDetRunRow : OpenClaim := { program := "ytbfofhfeghfpoaa", sum := "9bc2c099092190a864eaf0f5646692e40cfe69ad6e9d4526dbf09f2fa8d1dd6b", func := "loop.example/g00477/laws.FnExactDetRun", spec := "fnExactDetRun", unfollowed := true, recurses := true, plainKeys := false, apart := false }
def FnExactDetRunSaid : Prop := fnExactDetRunRow.holds Try.pinned (OpenSpec.ofChange fnExactDetRunSpec)

/-- ITS FALSE NEIGHBOUR: 'it returns false'. Refute it at one input. -/
def fnExactDetRunWrong : ChangeSpec := { name := "fnExactDetRun", fn := fun _ => fun
  | [d1, d2, d3] => { results := [.lit (.bool false)], args := [d1, d2, d3] }
  | _ => none }
def FnExactDetRunWrongFalsely : Prop := fnExactDetRunRow.holds Try.pinned (OpenSpec.ofChange fnExactDetRunWrong)

/-- 'laws.FnSuffix': WHATEVER THE INPUT: true; the input reads as it did. -/
def fnSuffixSpec : ChangeSpec := { name := "fnSuffix", fn := fun _ => fun
  | [d] => { results := [.lit (.bool true)], args := [d] }
  | _ => none }
def fnSuffixRow : OpenClaim := { program := "ytbfofhfeghfpoaa", sum := "9bc2c099092190a864eaf0f5646692e40cfe69ad6e9d4526dbf09f2fa8d1dd6b", func := "loop.example/g00477/laws.FnSuffix", spec := "fnSuffix", unfollowed := true, recurses := true, plainKeys := false, apart := false }
def FnSuffixSaid : Prop := fnSuffixRow.holds Try.pinned (OpenSpec.ofChange fnSuffixSpec)

/-- ITS FALSE NEIGHBOUR: 'it returns false'. Refute it at one input. -/
def fnSuffixWrong : ChangeSpec := { name := "fnSuffix", fn := fun _ => fun
  | [d] => { results := [.lit (.bool false)], args := [d] }
  | _ => none }
def FnSuffixWrongFalsely : Prop := fnSuffixRow.holds Try.pinned (OpenSpec.ofChange fnSuffixWrong)

/-- 'laws.FnOneSure': WHATEVER THE INPUT: true; the input reads as it did. -/
def fnOneSureSpec : ChangeSpec := { name := "fnOneSure", fn := fun _ => fun
  | [d] => { results := [.lit (.bool true)], args := [d] }
  | _ => none }
def fnOneSureRow : OpenClaim := { program := "ytbfofhfeghfpoaa", sum := "9bc2c099092190a864eaf0f5646692e40cfe69ad6e9d4526dbf09f2fa8d1dd6b", func := "loop.example/g00477/laws.FnOneSure", spec := "fnOneSure", unfollowed := true, recurses := true, plainKeys := false, apart := false }
def FnOneSureSaid : Prop := fnOneSureRow.holds Try.pinned (OpenSpec.ofChange fnOneSureSpec)

/-- ITS FALSE NEIGHBOUR: 'it returns false'. Refute it at one input. -/
def fnOneSureWrong : ChangeSpec := { name := "fnOneSure", fn := fun _ => fun
  | [d] => { results := [.lit (.bool false)], args := [d] }
  | _ => none }
def FnOneSureWrongFalsely : Prop := fnOneSureRow.holds Try.pinned (OpenSpec.ofChange fnOneSureWrong)

/- THE SECOND FORM. 'bulk': how many values and letters a reading holds, each counted each time it is reached (what is shared counts as often as it is met; a slice's spare places count too). A statement '..UptoSaid' is the law's where the arguments, and the package variables that the reading takes, are together of bulk at most 1048576: NARROWER than '..Said'. Prove '..Said' where nothing that the law and all that it calls make is longer than what came in: it says more and counts as full. Else prove '..UptoSaid'. A law counts once. -/
mutual
def uptoBulk {H : Type} : DataW H → Nat
  | .lit (.string bytes) => bytes.length + 1
  | .lit _ => 1
  | .nil => 1
  | .ptr d => uptoBulk d + 1
  | .slice elems spare => uptoBulkAll elems + uptoBulkAll spare + 1
  | .agg parts => uptoBulkAll parts + 1
  | .iface _ d => uptoBulk d + 1
  | .map entries => uptoBulkEntries entries + 1
  | .held _ => 1
def uptoBulkAll {H : Type} : List (DataW H) → Nat
  | [] => 0
  | d :: r => uptoBulk d + uptoBulkAll r
def uptoBulkEntries {H : Type} : List (Lit × DataW H) → Nat
  | [] => 0
  | x :: r => uptoBulkEntry x + uptoBulkEntries r
def uptoBulkEntry {H : Type} : Lit × DataW H → Nat
  | (.string bytes, d) => bytes.length + uptoBulk d + 1
  | (_, d) => uptoBulk d + 1
 end
def uptoSmall : (H : Type) → List (DataW H) → Bool := fun _ ds => decide (uptoBulkAll ds ≤ 1048576)
def OpenSpec.upto (s : _root_.Go.ChangeSpec) : _root_.Go.OpenSpec := { _root_.Go.OpenSpec.ofChange s with cond := some uptoSmall }

/-- 'laws.FnTally', WHERE WHAT IT READS IS OF BULK AT MOST 1048576: true; the input reads as it did. -/
def fnTallyUptoRow : OpenClaim := { program := "ytbfofhfeghfpoaa", sum := "9bc2c099092190a864eaf0f5646692e40cfe69ad6e9d4526dbf09f2fa8d1dd6b", func := "loop.example/g00477/laws.FnTally", spec := "fnTally", plainKeys := false, apart := false, narrowed := true }
def FnTallyUptoSaid : Prop := fnTallyUptoRow.holds Try.pinned (OpenSpec.upto fnTallySpec)

/-- 'laws.FnScored', WHERE WHAT IT READS IS OF BULK AT MOST 1048576: true; the input reads as it did. -/
def fnScoredUptoRow : OpenClaim := { program := "ytbfofhfeghfpoaa", sum := "9bc2c099092190a864eaf0f5646692e40cfe69ad6e9d4526dbf09f2fa8d1dd6b", func := "loop.example/g00477/laws.FnScored", spec := "fnScored", unfollowed := true, recurses := true, plainKeys := false, apart := false, narrowed := true }
def FnScoredUptoSaid : Prop := fnScoredUptoRow.holds Try.pinned (OpenSpec.upto fnScoredSpec)

/-- 'laws.FnExactScoreOk', WHERE WHAT IT READS IS OF BULK AT MOST 1048576: true; the input reads as it did. -/
def fnExactScoreOkUptoRow : OpenClaim := { program := "ytbfofhfeghfpoaa", sum := "9bc2c099092190a864eaf0f5646692e40cfe69ad6e9d4526dbf09f2fa8d1dd6b", func := "loop.example/g00477/laws.FnExactScoreOk", spec := "fnExactScoreOk", unfollowed := true, recurses := true, plainKeys := false, apart := false, narrowed := true }
def FnExactScoreOkUptoSaid : Prop := fnExactScoreOkUptoRow.holds Try.pinned (OpenSpec.upto fnExactScoreOkSpec)

/-- 'laws.FnShrunk', WHERE WHAT IT READS IS OF BULK AT MOST 1048576: true; the input reads as it did. -/
def fnShrunkUptoRow : OpenClaim := { program := "ytbfofhfeghfpoaa", sum := "9bc2c099092190a864eaf0f5646692e40cfe69ad6e9d4526dbf09f2fa8d1dd6b", func := "loop.example/g00477/laws.FnShrunk", spec := "fnShrunk", unfollowed := true, recurses := true, plainKeys := false, apart := false, narrowed := true }
def FnShrunkUptoSaid : Prop := fnShrunkUptoRow.holds Try.pinned (OpenSpec.upto fnShrunkSpec)

/-- 'laws.FnExactDetRun', WHERE WHAT IT READS IS OF BULK AT MOST 1048576: true; the input reads as it did. -/
def fnExactDetRunUptoRow : OpenClaim := { program := "ytbfofhfeghfpoaa", sum := "9bc2c099092190a864eaf0f5646692e40cfe69ad6e9d4526dbf09f2fa8d1dd6b", func := "loop.example/g00477/laws.FnExactDetRun", spec := "fnExactDetRun", unfollowed := true, recurses := true, plainKeys := false, apart := false, narrowed := true }
def FnExactDetRunUptoSaid : Prop := fnExactDetRunUptoRow.holds Try.pinned (OpenSpec.upto fnExactDetRunSpec)

/-- 'laws.FnSuffix', WHERE WHAT IT READS IS OF BULK AT MOST 1048576: true; the input reads as it did. -/
def fnSuffixUptoRow : OpenClaim := { program := "ytbfofhfeghfpoaa", sum := "9bc2c099092190a864eaf0f5646692e40cfe69ad6e9d4526dbf09f2fa8d1dd6b", func := "loop.example/g00477/laws.FnSuffix", spec := "fnSuffix", unfollowed := true, recurses := true, plainKeys := false, apart := false, narrowed := true }
def FnSuffixUptoSaid : Prop := fnSuffixUptoRow.holds Try.pinned (OpenSpec.upto fnSuffixSpec)

/-- 'laws.FnOneSure', WHERE WHAT IT READS IS OF BULK AT MOST 1048576: true; the input reads as it did. -/
def fnOneSureUptoRow : OpenClaim := { program := "ytbfofhfeghfpoaa", sum := "9bc2c099092190a864eaf0f5646692e40cfe69ad6e9d4526dbf09f2fa8d1dd6b", func := "loop.example/g00477/laws.FnOneSure", spec := "fnOneSure", unfollowed := true, recurses := true, plainKeys := false, apart := false, narrowed := true }
def FnOneSureUptoSaid : Prop := fnOneSureUptoRow.holds Try.pinned (OpenSpec.upto fnOneSureSpec)

end Rows
end Go.Proofs.Ytbfofhfeghfpoaa
