/-
  No cell of these rows narrows 'for every input' (looked for: loops, veiled, ifaces, maps, wideKeys, modest, calm, conditions, laid).
  DERIVED. THE GIVEN ROWS OF THIS SEAT. 12 by the template 'for every input the law returns true; each argument reads behind the call as it read before'; 0 by the template 'total and deterministic' (their statements: YtbfpfjfhlfomoaaTotals.lean).
  GIVEN WITH THE SEED: the statements are not yours to turn. If you find one false, say at which input.
  Laid BY PROGRAM, IN A SANDBOX (cutbox-rows.mjs): the forced cells as the released guide's own fill.sh prints them over the translation ebb68fb2699f0766… (all of the seat's roots in one cut). By AI agents, Wed Nov 11 2026. No macro, syntax, notation, axiom, sorry.
-/
import Derived.Test.YtbfpfjfhlfomoaaChecked
import GoSem.Claim
import GoSem.ClaimJoined
import GoSem.ClaimMapViews
import Derived.JoinedTies
import Derived.KernelRfl
namespace Go.Proofs.Ytbfpfjfhlfomoaa
/- THE CELL 'sum', in the pinned program and in every row, IS THE sha256 OF THE DUMP (.gsa) THAT YtbfpfjfhlfomoaaProg.lean LOADS. Nothing in Lean hashes anything: it is a label: what it is worth is what the hold of that sum in a sandbox is worth. -/
noncomputable def Try.pinned : Pinned := { name := "ytbfpfjfhlfomoaa", sum := "ebb68fb2699f0766c7d1c9dc7160797bb5ed6f4052be2d19bef2e24ca3c224e6", checked := Try.checked }
namespace Rows
def none {H : Type} : Left H := { results := [], args := [] }

/-- 'laws.FnExactDetOk': WHATEVER THE INPUT: true; the input reads as it did. -/
def fnExactDetOkSpec : ChangeSpec := { name := "fnExactDetOk", fn := fun _ => fun
  | [d] => { results := [.lit (.bool true)], args := [d] }
  | _ => none }
def fnExactDetOkRow : OpenClaim := { program := "ytbfpfjfhlfomoaa", sum := "ebb68fb2699f0766c7d1c9dc7160797bb5ed6f4052be2d19bef2e24ca3c224e6", func := "loop.example/g00477/laws.FnExactDetOk", spec := "fnExactDetOk", unfollowed := true, recurses := true, plainKeys := false, apart := false }
def FnExactDetOkSaid : Prop := fnExactDetOkRow.holds Try.pinned (OpenSpec.ofChange fnExactDetOkSpec)

/-- ITS FALSE NEIGHBOUR: 'it returns false'. Refute it at one input. -/
def fnExactDetOkWrong : ChangeSpec := { name := "fnExactDetOk", fn := fun _ => fun
  | [d] => { results := [.lit (.bool false)], args := [d] }
  | _ => none }
def FnExactDetOkWrongFalsely : Prop := fnExactDetOkRow.holds Try.pinned (OpenSpec.ofChange fnExactDetOkWrong)

/-- 'laws.FnExactDetSame': WHATEVER THE INPUT: true; the input reads as it did. -/
def fnExactDetSameSpec : ChangeSpec := { name := "fnExactDetSame", fn := fun _ => fun
  | [d1, d2] => { results := [.lit (.bool true)], args := [d1, d2] }
  | _ => none }
def fnExactDetSameRow : OpenClaim := { program := "ytbfpfjfhlfomoaa", sum := "ebb68fb2699f0766c7d1c9dc7160797bb5ed6f4052be2d19bef2e24ca3c224e6", func := "loop.example/g00477/laws.FnExactDetSame", spec := "fnExactDetSame", unfollowed := true, recurses := true, plainKeys := false, apart := false }
def FnExactDetSameSaid : Prop := fnExactDetSameRow.holds Try.pinned (OpenSpec.ofChange fnExactDetSameSpec)

/-- ITS FALSE NEIGHBOUR: 'it returns false'. Refute it at one input. -/
def fnExactDetSameWrong : ChangeSpec := { name := "fnExactDetSame", fn := fun _ => fun
  | [d1, d2] => { results := [.lit (.bool false)], args := [d1, d2] }
  | _ => none }
def FnExactDetSameWrongFalsely : Prop := fnExactDetSameRow.holds Try.pinned (OpenSpec.ofChange fnExactDetSameWrong)

/-- 'laws.FnExactScoreSame': WHATEVER THE INPUT: true; the input reads as it did. -/
def fnExactScoreSameSpec : ChangeSpec := { name := "fnExactScoreSame", fn := fun _ => fun
  | [d1, d2] => { results := [.lit (.bool true)], args := [d1, d2] }
  | _ => none }
def fnExactScoreSameRow : OpenClaim := { program := "ytbfpfjfhlfomoaa", sum := "ebb68fb2699f0766c7d1c9dc7160797bb5ed6f4052be2d19bef2e24ca3c224e6", func := "loop.example/g00477/laws.FnExactScoreSame", spec := "fnExactScoreSame", unfollowed := true, recurses := true, plainKeys := false, apart := false }
def FnExactScoreSameSaid : Prop := fnExactScoreSameRow.holds Try.pinned (OpenSpec.ofChange fnExactScoreSameSpec)

/-- ITS FALSE NEIGHBOUR: 'it returns false'. Refute it at one input. -/
def fnExactScoreSameWrong : ChangeSpec := { name := "fnExactScoreSame", fn := fun _ => fun
  | [d1, d2] => { results := [.lit (.bool false)], args := [d1, d2] }
  | _ => none }
def FnExactScoreSameWrongFalsely : Prop := fnExactScoreSameRow.holds Try.pinned (OpenSpec.ofChange fnExactScoreSameWrong)

/-- 'laws.FnExactUnitsOf': WHATEVER THE INPUT: true; the input reads as it did. -/
def fnExactUnitsOfSpec : ChangeSpec := { name := "fnExactUnitsOf", fn := fun _ => fun
  | [d] => { results := [.lit (.bool true)], args := [d] }
  | _ => none }
def fnExactUnitsOfRow : OpenClaim := { program := "ytbfpfjfhlfomoaa", sum := "ebb68fb2699f0766c7d1c9dc7160797bb5ed6f4052be2d19bef2e24ca3c224e6", func := "loop.example/g00477/laws.FnExactUnitsOf", spec := "fnExactUnitsOf", plainKeys := false, apart := false }
def FnExactUnitsOfSaid : Prop := fnExactUnitsOfRow.holds Try.pinned (OpenSpec.ofChange fnExactUnitsOfSpec)

/-- ITS FALSE NEIGHBOUR: 'it returns false'. Refute it at one input. -/
def fnExactUnitsOfWrong : ChangeSpec := { name := "fnExactUnitsOf", fn := fun _ => fun
  | [d] => { results := [.lit (.bool false)], args := [d] }
  | _ => none }
def FnExactUnitsOfWrongFalsely : Prop := fnExactUnitsOfRow.holds Try.pinned (OpenSpec.ofChange fnExactUnitsOfWrong)

/-- 'laws.FnExactScoreOk': WHATEVER THE INPUT: true; the input reads as it did. -/
def fnExactScoreOkSpec : ChangeSpec := { name := "fnExactScoreOk", fn := fun _ => fun
  | [d1, d2] => { results := [.lit (.bool true)], args := [d1, d2] }
  | _ => none }
def fnExactScoreOkRow : OpenClaim := { program := "ytbfpfjfhlfomoaa", sum := "ebb68fb2699f0766c7d1c9dc7160797bb5ed6f4052be2d19bef2e24ca3c224e6", func := "loop.example/g00477/laws.FnExactScoreOk", spec := "fnExactScoreOk", unfollowed := true, recurses := true, plainKeys := false, apart := false }
def FnExactScoreOkSaid : Prop := fnExactScoreOkRow.holds Try.pinned (OpenSpec.ofChange fnExactScoreOkSpec)

/-- ITS FALSE NEIGHBOUR: 'it returns false'. Refute it at one input. -/
def fnExactScoreOkWrong : ChangeSpec := { name := "fnExactScoreOk", fn := fun _ => fun
  | [d1, d2] => { results := [.lit (.bool false)], args := [d1, d2] }
  | _ => none }
def FnExactScoreOkWrongFalsely : Prop := fnExactScoreOkRow.holds Try.pinned (OpenSpec.ofChange fnExactScoreOkWrong)

/-- 'laws.FnExactNodeSame': WHATEVER THE INPUT: true; the input reads as it did. -/
def fnExactNodeSameSpec : ChangeSpec := { name := "fnExactNodeSame", fn := fun _ => fun
  | [d1, d2] => { results := [.lit (.bool true)], args := [d1, d2] }
  | _ => none }
def fnExactNodeSameRow : OpenClaim := { program := "ytbfpfjfhlfomoaa", sum := "ebb68fb2699f0766c7d1c9dc7160797bb5ed6f4052be2d19bef2e24ca3c224e6", func := "loop.example/g00477/laws.FnExactNodeSame", spec := "fnExactNodeSame", unfollowed := true, recurses := true, plainKeys := false, apart := false }
def FnExactNodeSameSaid : Prop := fnExactNodeSameRow.holds Try.pinned (OpenSpec.ofChange fnExactNodeSameSpec)

/-- ITS FALSE NEIGHBOUR: 'it returns false'. Refute it at one input. -/
def fnExactNodeSameWrong : ChangeSpec := { name := "fnExactNodeSame", fn := fun _ => fun
  | [d1, d2] => { results := [.lit (.bool false)], args := [d1, d2] }
  | _ => none }
def FnExactNodeSameWrongFalsely : Prop := fnExactNodeSameRow.holds Try.pinned (OpenSpec.ofChange fnExactNodeSameWrong)

/-- 'laws.FnExactDetRate': WHATEVER THE INPUT: true; the input reads as it did. -/
def fnExactDetRateSpec : ChangeSpec := { name := "fnExactDetRate", fn := fun _ => fun
  | [d] => { results := [.lit (.bool true)], args := [d] }
  | _ => none }
def fnExactDetRateRow : OpenClaim := { program := "ytbfpfjfhlfomoaa", sum := "ebb68fb2699f0766c7d1c9dc7160797bb5ed6f4052be2d19bef2e24ca3c224e6", func := "loop.example/g00477/laws.FnExactDetRate", spec := "fnExactDetRate", unfollowed := true, recurses := true, plainKeys := false, apart := false }
def FnExactDetRateSaid : Prop := fnExactDetRateRow.holds Try.pinned (OpenSpec.ofChange fnExactDetRateSpec)

/-- ITS FALSE NEIGHBOUR: 'it returns false'. Refute it at one input. -/
def fnExactDetRateWrong : ChangeSpec := { name := "fnExactDetRate", fn := fun _ => fun
  | [d] => { results := [.lit (.bool false)], args := [d] }
  | _ => none }
def FnExactDetRateWrongFalsely : Prop := fnExactDetRateRow.holds Try.pinned (OpenSpec.ofChange fnExactDetRateWrong)

/-- 'laws.FnExactCutAt': WHATEVER THE INPUT: true; the input reads as it did. -/
def fnExactCutAtSpec : ChangeSpec := { name := "fnExactCutAt", fn := fun _ => fun
  | [d1, d2] => { results := [.lit (.bool true)], args := [d1, d2] }
  | _ => none }
def fnExactCutAtRow : OpenClaim := { program := "ytbfpfjfhlfomoaa", sum := "ebb68fb2699f0766c7d1c9dc7160797bb5ed6f4052be2d19bef2e24ca3c224e6", func := "loop.example/g00477/laws.FnExactCutAt", spec := "fnExactCutAt", unfollowed := true, recurses := true, plainKeys := false, apart := false }
def FnExactCutAtSaid : Prop := fnExactCutAtRow.holds Try.pinned (OpenSpec.ofChange fnExactCutAtSpec)

/-- ITS FALSE NEIGHBOUR: 'it returns false'. Refute it at one input. -/
def fnExactCutAtWrong : ChangeSpec := { name := "fnExactCutAt", fn := fun _ => fun
  | [d1, d2] => { results := [.lit (.bool false)], args := [d1, d2] }
  | _ => none }
def FnExactCutAtWrongFalsely : Prop := fnExactCutAtRow.holds Try.pinned (OpenSpec.ofChange fnExactCutAtWrong)

/-- 'laws.FnExactDepthOf': WHATEVER THE INPUT: true; the input reads as it did. -/
def fnExactDepthOfSpec : ChangeSpec := { name := "fnExactDepthOf", fn := fun _ => fun
  | [d] => { results := [.lit (.bool true)], args := [d] }
  | _ => none }
def fnExactDepthOfRow : OpenClaim := { program := "ytbfpfjfhlfomoaa", sum := "ebb68fb2699f0766c7d1c9dc7160797bb5ed6f4052be2d19bef2e24ca3c224e6", func := "loop.example/g00477/laws.FnExactDepthOf", spec := "fnExactDepthOf", plainKeys := false, apart := false }
def FnExactDepthOfSaid : Prop := fnExactDepthOfRow.holds Try.pinned (OpenSpec.ofChange fnExactDepthOfSpec)

/-- ITS FALSE NEIGHBOUR: 'it returns false'. Refute it at one input. -/
def fnExactDepthOfWrong : ChangeSpec := { name := "fnExactDepthOf", fn := fun _ => fun
  | [d] => { results := [.lit (.bool false)], args := [d] }
  | _ => none }
def FnExactDepthOfWrongFalsely : Prop := fnExactDepthOfRow.holds Try.pinned (OpenSpec.ofChange fnExactDepthOfWrong)

/-- 'laws.FnExactTreeUnits': WHATEVER THE INPUT: true; the input reads as it did. -/
def fnExactTreeUnitsSpec : ChangeSpec := { name := "fnExactTreeUnits", fn := fun _ => fun
  | [d] => { results := [.lit (.bool true)], args := [d] }
  | _ => none }
def fnExactTreeUnitsRow : OpenClaim := { program := "ytbfpfjfhlfomoaa", sum := "ebb68fb2699f0766c7d1c9dc7160797bb5ed6f4052be2d19bef2e24ca3c224e6", func := "loop.example/g00477/laws.FnExactTreeUnits", spec := "fnExactTreeUnits", plainKeys := false, apart := false }
def FnExactTreeUnitsSaid : Prop := fnExactTreeUnitsRow.holds Try.pinned (OpenSpec.ofChange fnExactTreeUnitsSpec)

/-- ITS FALSE NEIGHBOUR: 'it returns false'. Refute it at one input. -/
def fnExactTreeUnitsWrong : ChangeSpec := { name := "fnExactTreeUnits", fn := fun _ => fun
  | [d] => { results := [.lit (.bool false)], args := [d] }
  | _ => none }
def FnExactTreeUnitsWrongFalsely : Prop := fnExactTreeUnitsRow.holds Try.pinned (OpenSpec.ofChange fnExactTreeUnitsWrong)

/-- 'laws.FnExactTreeSame': WHATEVER THE INPUT: true; the input reads as it did. -/
def fnExactTreeSameSpec : ChangeSpec := { name := "fnExactTreeSame", fn := fun _ => fun
  | [d1, d2] => { results := [.lit (.bool true)], args := [d1, d2] }
  | _ => none }
def fnExactTreeSameRow : OpenClaim := { program := "ytbfpfjfhlfomoaa", sum := "ebb68fb2699f0766c7d1c9dc7160797bb5ed6f4052be2d19bef2e24ca3c224e6", func := "loop.example/g00477/laws.FnExactTreeSame", spec := "fnExactTreeSame", unfollowed := true, recurses := true, plainKeys := false, apart := false }
def FnExactTreeSameSaid : Prop := fnExactTreeSameRow.holds Try.pinned (OpenSpec.ofChange fnExactTreeSameSpec)

/-- ITS FALSE NEIGHBOUR: 'it returns false'. Refute it at one input. -/
def fnExactTreeSameWrong : ChangeSpec := { name := "fnExactTreeSame", fn := fun _ => fun
  | [d1, d2] => { results := [.lit (.bool false)], args := [d1, d2] }
  | _ => none }
def FnExactTreeSameWrongFalsely : Prop := fnExactTreeSameRow.holds Try.pinned (OpenSpec.ofChange fnExactTreeSameWrong)

/-- 'laws.FnExactConfSame': WHATEVER THE INPUT: true; the input reads as it did. -/
def fnExactConfSameSpec : ChangeSpec := { name := "fnExactConfSame", fn := fun _ => fun
  | [d1, d2] => { results := [.lit (.bool true)], args := [d1, d2] }
  | _ => none }
def fnExactConfSameRow : OpenClaim := { program := "ytbfpfjfhlfomoaa", sum := "ebb68fb2699f0766c7d1c9dc7160797bb5ed6f4052be2d19bef2e24ca3c224e6", func := "loop.example/g00477/laws.FnExactConfSame", spec := "fnExactConfSame", unfollowed := true, recurses := true, plainKeys := false, apart := false }
def FnExactConfSameSaid : Prop := fnExactConfSameRow.holds Try.pinned (OpenSpec.ofChange fnExactConfSameSpec)

/-- ITS FALSE NEIGHBOUR: 'it returns false'. Refute it at one input. -/
def fnExactConfSameWrong : ChangeSpec := { name := "fnExactConfSame", fn := fun _ => fun
  | [d1, d2] => { results := [.lit (.bool false)], args := [d1, d2] }
  | _ => none }
def FnExactConfSameWrongFalsely : Prop := fnExactConfSameRow.holds Try.pinned (OpenSpec.ofChange fnExactConfSameWrong)

/- THE SECOND FORM. 'bulk': how many values and letters a reading holds, each counted each time it is reached (what is shared counts as often as it is met; a slice's spare places count too). A statement '..UptoSaid' is the law's where the arguments, and the package variables that the reading takes, are together of bulk at most 1048576: NARROWER than '..Said'. Prove '..Said' where nothing that the law and all that it calls make is longer than what came in: it says more and counts as full. Else prove '..UptoSaid'. A law counts once. -/
mutual
def uptoBulk {H : Type} : DataW H → Nat
  | .lit (.string bytes) => bytes.length + 1
  | .lit _ => 1
  | .nil => 1
  | .ptr d => uptoBulk d + 1
  | .slice elems spare => uptoBulkAll elems + uptoBulkAll spare + 1
  | .agg parts => uptoBulkAll parts + 1
  | .iface _ d => uptoBulk d + 1
  | .map entries => uptoBulkEntries entries + 1
  | .held _ => 1
def uptoBulkAll {H : Type} : List (DataW H) → Nat
  | [] => 0
  | d :: r => uptoBulk d + uptoBulkAll r
def uptoBulkEntries {H : Type} : List (Lit × DataW H) → Nat
  | [] => 0
  | x :: r => uptoBulkEntry x + uptoBulkEntries r
def uptoBulkEntry {H : Type} : Lit × DataW H → Nat
  | (.string bytes, d) => bytes.length + uptoBulk d + 1
  | (_, d) => uptoBulk d + 1
 end
def uptoSmall : (H : Type) → List (DataW H) → Bool := fun _ ds => decide (uptoBulkAll ds ≤ 1048576)
def OpenSpec.upto (s : _root_.Go.ChangeSpec) : _root_.Go.OpenSpec := { _root_.Go.OpenSpec.ofChange s with cond := some uptoSmall }

/-- 'laws.FnExactDetOk', WHERE WHAT IT READS IS OF BULK AT MOST 1048576: true; the input reads as it did. -/
def fnExactDetOkUptoRow : OpenClaim := { program := "ytbfpfjfhlfomoaa", sum := "ebb68fb2699f0766c7d1c9dc7160797bb5ed6f4052be2d19bef2e24ca3c224e6", func := "loop.example/g00477/laws.FnExactDetOk", spec := "fnExactDetOk", unfollowed := true, recurses := true, plainKeys := false, apart := false, narrowed := true }
def FnExactDetOkUptoSaid : Prop := fnExactDetOkUptoRow.holds Try.pinned (OpenSpec.upto fnExactDetOkSpec)

/-- 'laws.FnExactDetSame', WHERE WHAT IT READS IS OF BULK AT MOST 1048576: true; the input reads as it did. -/
def fnExactDetSameUptoRow : OpenClaim := { program := "ytbfpfjfhlfomoaa", sum := "ebb68fb2699f0766c7d1c9dc7160797bb5ed6f4052be2d19bef2e24ca3c224e6", func := "loop.example/g00477/laws.FnExactDetSame", spec := "fnExactDetSame", unfollowed := true, recurses := true, plainKeys := false, apart := false, narrowed := true }
def FnExactDetSameUptoSaid : Prop := fnExactDetSameUptoRow.holds Try.pinned (OpenSpec.upto fnExactDetSameSpec)

/-- 'laws.FnExactScoreSame', WHERE WHAT IT READS IS OF BULK AT MOST 1048576: true; the input reads as it did. -/
def fnExactScoreSameUptoRow : OpenClaim := { program := "ytbfpfjfhlfomoaa", sum := "ebb68fb2699f0766c7d1c9dc7160797bb5ed6f4052be2d19bef2e24ca3c224e6", func := "loop.example/g00477/laws.FnExactScoreSame", spec := "fnExactScoreSame", unfollowed := true, recurses := true, plainKeys := false, apart := false, narrowed := true }
def FnExactScoreSameUptoSaid : Prop := fnExactScoreSameUptoRow.holds Try.pinned (OpenSpec.upto fnExactScoreSameSpec)

/-- 'laws.FnExactUnitsOf', WHERE WHAT IT READS IS OF BULK AT MOST 1048576: true; the input reads as it did. -/
def fnExactUnitsOfUptoRow : OpenClaim := { program := "ytbfpfjfhlfomoaa", sum := "ebb68fb2699f0766c7d1c9dc7160797bb5ed6f4052be2d19bef2e24ca3c224e6", func := "loop.example/g00477/laws.FnExactUnitsOf", spec := "fnExactUnitsOf", plainKeys := false, apart := false, narrowed := true }
def FnExactUnitsOfUptoSaid : Prop := fnExactUnitsOfUptoRow.holds Try.pinned (OpenSpec.upto fnExactUnitsOfSpec)

/-- 'laws.FnExactScoreOk', WHERE WHAT IT READS IS OF BULK AT MOST 1048576: true; the input reads as it did. -/
def fnExactScoreOkUptoRow : OpenClaim := { program := "ytbfpfjfhlfomoaa", sum := "ebb68fb2699f0766c7d1c9dc7160797bb5ed6f4052be2d19bef2e24ca3c224e6", func := "loop.example/g00477/laws.FnExactScoreOk", spec := "fnExactScoreOk", unfollowed := true, recurses := true, plainKeys := false, apart := false, narrowed := true }
def FnExactScoreOkUptoSaid : Prop := fnExactScoreOkUptoRow.holds Try.pinned (OpenSpec.upto fnExactScoreOkSpec)

/-- 'laws.FnExactNodeSame', WHERE WHAT IT READS IS OF BULK AT MOST 1048576: true; the input reads as it did. -/
def fnExactNodeSameUptoRow : OpenClaim := { program := "ytbfpfjfhlfomoaa", sum := "ebb68fb2699f0766c7d1c9dc7160797bb5ed6f4052be2d19bef2e24ca3c224e6", func := "loop.example/g00477/laws.FnExactNodeSame", spec := "fnExactNodeSame", unfollowed := true, recurses := true, plainKeys := false, apart := false, narrowed := true }
def FnExactNodeSameUptoSaid : Prop := fnExactNodeSameUptoRow.holds Try.pinned (OpenSpec.upto fnExactNodeSameSpec)

/-- 'laws.FnExactDetRate', WHERE WHAT IT READS IS OF BULK AT MOST 1048576: true; the input reads as it did. -/
def fnExactDetRateUptoRow : OpenClaim := { program := "ytbfpfjfhlfomoaa", sum := "ebb68fb2699f0766c7d1c9dc7160797bb5ed6f4052be2d19bef2e24ca3c224e6", func := "loop.example/g00477/laws.FnExactDetRate", spec := "fnExactDetRate", unfollowed := true, recurses := true, plainKeys := false, apart := false, narrowed := true }
def FnExactDetRateUptoSaid : Prop := fnExactDetRateUptoRow.holds Try.pinned (OpenSpec.upto fnExactDetRateSpec)

/-- 'laws.FnExactCutAt', WHERE WHAT IT READS IS OF BULK AT MOST 1048576: true; the input reads as it did. -/
def fnExactCutAtUptoRow : OpenClaim := { program := "ytbfpfjfhlfomoaa", sum := "ebb68fb2699f0766c7d1c9dc7160797bb5ed6f4052be2d19bef2e24ca3c224e6", func := "loop.example/g00477/laws.FnExactCutAt", spec := "fnExactCutAt", unfollowed := true, recurses := true, plainKeys := false, apart := false, narrowed := true }
def FnExactCutAtUptoSaid : Prop := fnExactCutAtUptoRow.holds Try.pinned (OpenSpec.upto fnExactCutAtSpec)

/-- 'laws.FnExactDepthOf', WHERE WHAT IT READS IS OF BULK AT MOST 1048576: true; the input reads as it did. -/
def fnExactDepthOfUptoRow : OpenClaim := { program := "ytbfpfjfhlfomoaa", sum := "ebb68fb2699f0766c7d1c9dc7160797bb5ed6f4052be2d19bef2e24ca3c224e6", func := "loop.example/g00477/laws.FnExactDepthOf", spec := "fnExactDepthOf", plainKeys := false, apart := false, narrowed := true }
def FnExactDepthOfUptoSaid : Prop := fnExactDepthOfUptoRow.holds Try.pinned (OpenSpec.upto fnExactDepthOfSpec)

/-- 'laws.FnExactTreeUnits', WHERE WHAT IT READS IS OF BULK AT MOST 1048576: true; the input reads as it did. -/
def fnExactTreeUnitsUptoRow : OpenClaim := { program := "ytbfpfjfhlfomoaa", sum := "ebb68fb2699f0766c7d1c9dc7160797bb5ed6f4052be2d19bef2e24ca3c224e6", func := "loop.example/g00477/laws.FnExactTreeUnits", spec := "fnExactTreeUnits", plainKeys := false, apart := false, narrowed := true }
def FnExactTreeUnitsUptoSaid : Prop := fnExactTreeUnitsUptoRow.holds Try.pinned (OpenSpec.upto fnExactTreeUnitsSpec)

/-- 'laws.FnExactTreeSame', WHERE WHAT IT READS IS OF BULK AT MOST 1048576: true; the input reads as it did. -/
def fnExactTreeSameUptoRow : OpenClaim := { program := "ytbfpfjfhlfomoaa", sum := "ebb68fb2699f0766c7d1c9dc7160797bb5ed6f4052be2d19bef2e24ca3c224e6", func := "loop.example/g00477/laws.FnExactTreeSame", spec := "fnExactTreeSame", unfollowed := true, recurses := true, plainKeys := false, apart := false, narrowed := true }
def FnExactTreeSameUptoSaid : Prop := fnExactTreeSameUptoRow.holds Try.pinned (OpenSpec.upto fnExactTreeSameSpec)

/-- 'laws.FnExactConfSame', WHERE WHAT IT READS IS OF BULK AT MOST 1048576: true; the input reads as it did. -/
def fnExactConfSameUptoRow : OpenClaim := { program := "ytbfpfjfhlfomoaa", sum := "ebb68fb2699f0766c7d1c9dc7160797bb5ed6f4052be2d19bef2e24ca3c224e6", func := "loop.example/g00477/laws.FnExactConfSame", spec := "fnExactConfSame", unfollowed := true, recurses := true, plainKeys := false, apart := false, narrowed := true }
def FnExactConfSameUptoSaid : Prop := fnExactConfSameUptoRow.holds Try.pinned (OpenSpec.upto fnExactConfSameSpec)

end Rows
end Go.Proofs.Ytbfpfjfhlfomoaa
