/-
  No cell of these rows narrows 'for every input' (looked for: loops, veiled, ifaces, maps, wideKeys, modest, calm, conditions, laid).
  DERIVED. THE GIVEN ROWS OF THIS SEAT. 6 by the template 'for every input the law returns true; each argument reads behind the call as it read before'; 0 by the template 'total and deterministic' (their statements: YteggckdmicnijaaGreatTotals.lean).
  GIVEN WITH THE SEED: the statements are not yours to turn. If you find one false, say at which input.
  Laid BY PROGRAM, IN A SANDBOX (cutbox-rows.mjs): the forced cells as the released guide's own fill.sh prints them over the translation 8234fcec8e949b6f… (all of the seat's roots in one cut). By AI agents, Wed Nov 11 2026. No macro, syntax, notation, axiom, sorry.
-/
import Derived.Test.YteggckdmicnijaaGreatChecked
import GoSem.Claim
import GoSem.ClaimJoined
import GoSem.ClaimMapViews
import Derived.JoinedTies
import Derived.KernelRfl
namespace Go.Proofs.YteggckdmicnijaaGreat
/- THE CELL 'sum', in the pinned program and in every row, IS THE sha256 OF THE DUMP (.gsa) THAT YteggckdmicnijaaGreatProg.lean LOADS. Nothing in Lean hashes anything: it is a label: what it is worth is what the hold of that sum in a sandbox is worth. -/
noncomputable def Tryz.pinned : Pinned := { name := "yteggckdmicnijaagreat", sum := "8234fcec8e949b6f5f07ee8c3dc1be624622a672d3a91e3f536557afe00f4da5", checked := Tryz.checked }
namespace Rows
def none {H : Type} : Left H := { results := [], args := [] }

/-- 'laws.FnExactMemberNew': WHATEVER THE INPUT: true; the input reads as it did. -/
def fnExactMemberNewSpec : ChangeSpec := { name := "fnExactMemberNew", fn := fun _ => fun
  | [d1, d2] => { results := [.lit (.bool true)], args := [d1, d2] }
  | _ => none }
def fnExactMemberNewRow : OpenClaim := { program := "yteggckdmicnijaagreat", sum := "8234fcec8e949b6f5f07ee8c3dc1be624622a672d3a91e3f536557afe00f4da5", func := "loop.example/g00477/laws.FnExactMemberNew", spec := "fnExactMemberNew", unfollowed := true, recurses := true, apart := false }
def FnExactMemberNewSaid : Prop := fnExactMemberNewRow.holds Tryz.pinned (OpenSpec.ofChange fnExactMemberNewSpec)

/-- ITS FALSE NEIGHBOUR: 'it returns false'. Refute it at one input. -/
def fnExactMemberNewWrong : ChangeSpec := { name := "fnExactMemberNew", fn := fun _ => fun
  | [d1, d2] => { results := [.lit (.bool false)], args := [d1, d2] }
  | _ => none }
def FnExactMemberNewWrongFalsely : Prop := fnExactMemberNewRow.holds Tryz.pinned (OpenSpec.ofChange fnExactMemberNewWrong)

/-- 'laws.FnExactForestNew': WHATEVER THE INPUT: true; the input reads as it did. -/
def fnExactForestNewSpec : ChangeSpec := { name := "fnExactForestNew", fn := fun _ => fun
  | [d1, d2] => { results := [.lit (.bool true)], args := [d1, d2] }
  | _ => none }
def fnExactForestNewRow : OpenClaim := { program := "yteggckdmicnijaagreat", sum := "8234fcec8e949b6f5f07ee8c3dc1be624622a672d3a91e3f536557afe00f4da5", func := "loop.example/g00477/laws.FnExactForestNew", spec := "fnExactForestNew", unfollowed := true, recurses := true, apart := false }
def FnExactForestNewSaid : Prop := fnExactForestNewRow.holds Tryz.pinned (OpenSpec.ofChange fnExactForestNewSpec)

/-- ITS FALSE NEIGHBOUR: 'it returns false'. Refute it at one input. -/
def fnExactForestNewWrong : ChangeSpec := { name := "fnExactForestNew", fn := fun _ => fun
  | [d1, d2] => { results := [.lit (.bool false)], args := [d1, d2] }
  | _ => none }
def FnExactForestNewWrongFalsely : Prop := fnExactForestNewRow.holds Tryz.pinned (OpenSpec.ofChange fnExactForestNewWrong)

/-- 'laws.FnExactEnforce': WHATEVER THE INPUT: true; the input reads as it did. -/
def fnExactEnforceSpec : ChangeSpec := { name := "fnExactEnforce", fn := fun _ => fun
  | [d1, d2, d3] => { results := [.lit (.bool true)], args := [d1, d2, d3] }
  | _ => none }
def fnExactEnforceRow : OpenClaim := { program := "yteggckdmicnijaagreat", sum := "8234fcec8e949b6f5f07ee8c3dc1be624622a672d3a91e3f536557afe00f4da5", func := "loop.example/g00477/laws.FnExactEnforce", spec := "fnExactEnforce", unfollowed := true, recurses := true, apart := false }
def FnExactEnforceSaid : Prop := fnExactEnforceRow.holds Tryz.pinned (OpenSpec.ofChange fnExactEnforceSpec)

/-- ITS FALSE NEIGHBOUR: 'it returns false'. Refute it at one input. -/
def fnExactEnforceWrong : ChangeSpec := { name := "fnExactEnforce", fn := fun _ => fun
  | [d1, d2, d3] => { results := [.lit (.bool false)], args := [d1, d2, d3] }
  | _ => none }
def FnExactEnforceWrongFalsely : Prop := fnExactEnforceRow.holds Tryz.pinned (OpenSpec.ofChange fnExactEnforceWrong)

/-- 'laws.FnExactSplitAt': WHATEVER THE INPUT: true; the input reads as it did. -/
def fnExactSplitAtSpec : ChangeSpec := { name := "fnExactSplitAt", fn := fun _ => fun
  | [d1, d2, d3, d4, d5] => { results := [.lit (.bool true)], args := [d1, d2, d3, d4, d5] }
  | _ => none }
def fnExactSplitAtRow : OpenClaim := { program := "yteggckdmicnijaagreat", sum := "8234fcec8e949b6f5f07ee8c3dc1be624622a672d3a91e3f536557afe00f4da5", func := "loop.example/g00477/laws.FnExactSplitAt", spec := "fnExactSplitAt", unfollowed := true, recurses := true, apart := false }
def FnExactSplitAtSaid : Prop := fnExactSplitAtRow.holds Tryz.pinned (OpenSpec.ofChange fnExactSplitAtSpec)

/-- ITS FALSE NEIGHBOUR: 'it returns false'. Refute it at one input. -/
def fnExactSplitAtWrong : ChangeSpec := { name := "fnExactSplitAt", fn := fun _ => fun
  | [d1, d2, d3, d4, d5] => { results := [.lit (.bool false)], args := [d1, d2, d3, d4, d5] }
  | _ => none }
def FnExactSplitAtWrongFalsely : Prop := fnExactSplitAtRow.holds Tryz.pinned (OpenSpec.ofChange fnExactSplitAtWrong)

/-- 'laws.FnExactVoices': WHATEVER THE INPUT: true; the input reads as it did. -/
def fnExactVoicesSpec : ChangeSpec := { name := "fnExactVoices", fn := fun _ => fun
  | [d1, d2] => { results := [.lit (.bool true)], args := [d1, d2] }
  | _ => none }
def fnExactVoicesRow : OpenClaim := { program := "yteggckdmicnijaagreat", sum := "8234fcec8e949b6f5f07ee8c3dc1be624622a672d3a91e3f536557afe00f4da5", func := "loop.example/g00477/laws.FnExactVoices", spec := "fnExactVoices", unfollowed := true, recurses := true, apart := false }
def FnExactVoicesSaid : Prop := fnExactVoicesRow.holds Tryz.pinned (OpenSpec.ofChange fnExactVoicesSpec)

/-- ITS FALSE NEIGHBOUR: 'it returns false'. Refute it at one input. -/
def fnExactVoicesWrong : ChangeSpec := { name := "fnExactVoices", fn := fun _ => fun
  | [d1, d2] => { results := [.lit (.bool false)], args := [d1, d2] }
  | _ => none }
def FnExactVoicesWrongFalsely : Prop := fnExactVoicesRow.holds Tryz.pinned (OpenSpec.ofChange fnExactVoicesWrong)

/-- 'laws.FnExactForestSays': WHATEVER THE INPUT: true; the input reads as it did. -/
def fnExactForestSaysSpec : ChangeSpec := { name := "fnExactForestSays", fn := fun _ => fun
  | [d1, d2, d3] => { results := [.lit (.bool true)], args := [d1, d2, d3] }
  | _ => none }
def fnExactForestSaysRow : OpenClaim := { program := "yteggckdmicnijaagreat", sum := "8234fcec8e949b6f5f07ee8c3dc1be624622a672d3a91e3f536557afe00f4da5", func := "loop.example/g00477/laws.FnExactForestSays", spec := "fnExactForestSays", unfollowed := true, recurses := true, apart := false }
def FnExactForestSaysSaid : Prop := fnExactForestSaysRow.holds Tryz.pinned (OpenSpec.ofChange fnExactForestSaysSpec)

/-- ITS FALSE NEIGHBOUR: 'it returns false'. Refute it at one input. -/
def fnExactForestSaysWrong : ChangeSpec := { name := "fnExactForestSays", fn := fun _ => fun
  | [d1, d2, d3] => { results := [.lit (.bool false)], args := [d1, d2, d3] }
  | _ => none }
def FnExactForestSaysWrongFalsely : Prop := fnExactForestSaysRow.holds Tryz.pinned (OpenSpec.ofChange fnExactForestSaysWrong)

/- THE SECOND FORM. 'bulk': how many values and letters a reading holds, each counted each time it is reached (what is shared counts as often as it is met; a slice's spare places count too). A statement '..UptoSaid' is the law's where the arguments, and the package variables that the reading takes, are together of bulk at most 1048576: NARROWER than '..Said'. Prove '..Said' where nothing that the law and all that it calls make is longer than what came in: it says more and counts as full. Else prove '..UptoSaid'. A law counts once. -/
mutual
def uptoBulk {H : Type} : DataW H → Nat
  | .lit (.string bytes) => bytes.length + 1
  | .lit _ => 1
  | .nil => 1
  | .ptr d => uptoBulk d + 1
  | .slice elems spare => uptoBulkAll elems + uptoBulkAll spare + 1
  | .agg parts => uptoBulkAll parts + 1
  | .iface _ d => uptoBulk d + 1
  | .map entries => uptoBulkEntries entries + 1
  | .held _ => 1
def uptoBulkAll {H : Type} : List (DataW H) → Nat
  | [] => 0
  | d :: r => uptoBulk d + uptoBulkAll r
def uptoBulkEntries {H : Type} : List (Lit × DataW H) → Nat
  | [] => 0
  | x :: r => uptoBulkEntry x + uptoBulkEntries r
def uptoBulkEntry {H : Type} : Lit × DataW H → Nat
  | (.string bytes, d) => bytes.length + uptoBulk d + 1
  | (_, d) => uptoBulk d + 1
 end
def uptoSmall : (H : Type) → List (DataW H) → Bool := fun _ ds => decide (uptoBulkAll ds ≤ 1048576)
def OpenSpec.upto (s : _root_.Go.ChangeSpec) : _root_.Go.OpenSpec := { _root_.Go.OpenSpec.ofChange s with cond := some uptoSmall }

/-- 'laws.FnExactMemberNew', WHERE WHAT IT READS IS OF BULK AT MOST 1048576: true; the input reads as it did. -/
def fnExactMemberNewUptoRow : OpenClaim := { program := "yteggckdmicnijaagreat", sum := "8234fcec8e949b6f5f07ee8c3dc1be624622a672d3a91e3f536557afe00f4da5", func := "loop.example/g00477/laws.FnExactMemberNew", spec := "fnExactMemberNew", unfollowed := true, recurses := true, apart := false, narrowed := true }
def FnExactMemberNewUptoSaid : Prop := fnExactMemberNewUptoRow.holds Tryz.pinned (OpenSpec.upto fnExactMemberNewSpec)

/-- 'laws.FnExactForestNew', WHERE WHAT IT READS IS OF BULK AT MOST 1048576: true; the input reads as it did. -/
def fnExactForestNewUptoRow : OpenClaim := { program := "yteggckdmicnijaagreat", sum := "8234fcec8e949b6f5f07ee8c3dc1be624622a672d3a91e3f536557afe00f4da5", func := "loop.example/g00477/laws.FnExactForestNew", spec := "fnExactForestNew", unfollowed := true, recurses := true, apart := false, narrowed := true }
def FnExactForestNewUptoSaid : Prop := fnExactForestNewUptoRow.holds Tryz.pinned (OpenSpec.upto fnExactForestNewSpec)

/-- 'laws.FnExactEnforce', WHERE WHAT IT READS IS OF BULK AT MOST 1048576: true; the input reads as it did. -/
def fnExactEnforceUptoRow : OpenClaim := { program := "yteggckdmicnijaagreat", sum := "8234fcec8e949b6f5f07ee8c3dc1be624622a672d3a91e3f536557afe00f4da5", func := "loop.example/g00477/laws.FnExactEnforce", spec := "fnExactEnforce", unfollowed := true, recurses := true, apart := false, narrowed := true }
def FnExactEnforceUptoSaid : Prop := fnExactEnforceUptoRow.holds Tryz.pinned (OpenSpec.upto fnExactEnforceSpec)

/-- 'laws.FnExactSplitAt', WHERE WHAT IT READS IS OF BULK AT MOST 1048576: true; the input reads as it did. -/
def fnExactSplitAtUptoRow : OpenClaim := { program := "yteggckdmicnijaagreat", sum := "8234fcec8e949b6f5f07ee8c3dc1be624622a672d3a91e3f536557afe00f4da5", func := "loop.example/g00477/laws.FnExactSplitAt", spec := "fnExactSplitAt", unfollowed := true, recurses := true, apart := false, narrowed := true }
def FnExactSplitAtUptoSaid : Prop := fnExactSplitAtUptoRow.holds Tryz.pinned (OpenSpec.upto fnExactSplitAtSpec)

/-- 'laws.FnExactVoices', WHERE WHAT IT READS IS OF BULK AT MOST 1048576: true; the input reads as it did. -/
def fnExactVoicesUptoRow : OpenClaim := { program := "yteggckdmicnijaagreat", sum := "8234fcec8e949b6f5f07ee8c3dc1be624622a672d3a91e3f536557afe00f4da5", func := "loop.example/g00477/laws.FnExactVoices", spec := "fnExactVoices", unfollowed := true, recurses := true, apart := false, narrowed := true }
def FnExactVoicesUptoSaid : Prop := fnExactVoicesUptoRow.holds Tryz.pinned (OpenSpec.upto fnExactVoicesSpec)

/-- 'laws.FnExactForestSays', WHERE WHAT IT READS IS OF BULK AT MOST 1048576: true; the input reads as it did. -/
def fnExactForestSaysUptoRow : OpenClaim := { program := "yteggckdmicnijaagreat", sum := "8234fcec8e949b6f5f07ee8c3dc1be624622a672d3a91e3f536557afe00f4da5", func := "loop.example/g00477/laws.FnExactForestSays", spec := "fnExactForestSays", unfollowed := true, recurses := true, apart := false, narrowed := true }
def FnExactForestSaysUptoSaid : Prop := fnExactForestSaysUptoRow.holds Tryz.pinned (OpenSpec.upto fnExactForestSaysSpec)

end Rows
end Go.Proofs.YteggckdmicnijaaGreat
