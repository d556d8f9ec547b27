/-
  No cell of these rows narrows 'for every input' (looked for: loops, veiled, ifaces, maps, wideKeys, modest, calm, conditions, laid).
  DERIVED. THE GIVEN ROWS OF THIS SEAT. 4 by the template 'for every input the law returns true; each argument reads behind the call as it read before'; 0 by the template 'total and deterministic' (their statements: YtpbahibieegbgaaGreatTotals.lean).
  GIVEN WITH THE SEED: the statements are not yours to turn. If you find one false, say at which input.
  Laid BY PROGRAM, IN A SANDBOX (cutbox-rows.mjs): the forced cells as the released guide's own fill.sh prints them over the translation 3628f25f91b12936… (all of the seat's roots in one cut). By AI agents, Wed Nov 11 2026. No macro, syntax, notation, axiom, sorry.
-/
import Derived.Test.YtpbahibieegbgaaGreatChecked
import GoSem.Claim
import GoSem.ClaimJoined
import GoSem.ClaimMapViews
import Derived.JoinedTies
import Derived.KernelRfl
namespace Go.Proofs.YtpbahibieegbgaaGreat
/- THE CELL 'sum', in the pinned program and in every row, IS THE sha256 OF THE DUMP (.gsa) THAT YtpbahibieegbgaaGreatProg.lean LOADS. Nothing in Lean hashes anything: it is a label: what it is worth is what the hold of that sum in a sandbox is worth. -/
noncomputable def Tryz.pinned : Pinned := { name := "ytpbahibieegbgaagreat", sum := "3628f25f91b129367a2d9d174d128357f392bb16b19ee1401852888b8af96b71", checked := Tryz.checked }
namespace Rows
def none {H : Type} : Left H := { results := [], args := [] }

/-- 'laws.FnEnforced': WHATEVER THE INPUT: true; the input reads as it did. -/
def fnEnforcedSpec : ChangeSpec := { name := "fnEnforced", fn := fun _ => fun
  | [d] => { results := [.lit (.bool true)], args := [d] }
  | _ => none }
def fnEnforcedRow : OpenClaim := { program := "ytpbahibieegbgaagreat", sum := "3628f25f91b129367a2d9d174d128357f392bb16b19ee1401852888b8af96b71", func := "loop.example/g00477/laws.FnEnforced", spec := "fnEnforced", unfollowed := true, recurses := true, apart := false }
def FnEnforcedSaid : Prop := fnEnforcedRow.holds Tryz.pinned (OpenSpec.ofChange fnEnforcedSpec)

/-- ITS FALSE NEIGHBOUR: 'it returns false'. Refute it at one input. -/
def fnEnforcedWrong : ChangeSpec := { name := "fnEnforced", fn := fun _ => fun
  | [d] => { results := [.lit (.bool false)], args := [d] }
  | _ => none }
def FnEnforcedWrongFalsely : Prop := fnEnforcedRow.holds Tryz.pinned (OpenSpec.ofChange fnEnforcedWrong)

/-- 'laws.FnSplitSays': WHATEVER THE INPUT: true; the input reads as it did. -/
def fnSplitSaysSpec : ChangeSpec := { name := "fnSplitSays", fn := fun _ => fun
  | [d] => { results := [.lit (.bool true)], args := [d] }
  | _ => none }
def fnSplitSaysRow : OpenClaim := { program := "ytpbahibieegbgaagreat", sum := "3628f25f91b129367a2d9d174d128357f392bb16b19ee1401852888b8af96b71", func := "loop.example/g00477/laws.FnSplitSays", spec := "fnSplitSays", unfollowed := true, recurses := true, apart := false }
def FnSplitSaysSaid : Prop := fnSplitSaysRow.holds Tryz.pinned (OpenSpec.ofChange fnSplitSaysSpec)

/-- ITS FALSE NEIGHBOUR: 'it returns false'. Refute it at one input. -/
def fnSplitSaysWrong : ChangeSpec := { name := "fnSplitSays", fn := fun _ => fun
  | [d] => { results := [.lit (.bool false)], args := [d] }
  | _ => none }
def FnSplitSaysWrongFalsely : Prop := fnSplitSaysRow.holds Tryz.pinned (OpenSpec.ofChange fnSplitSaysWrong)

/-- 'laws.FnPath': WHATEVER THE INPUT: true; the input reads as it did. -/
def fnPathSpec : ChangeSpec := { name := "fnPath", fn := fun _ => fun
  | [d] => { results := [.lit (.bool true)], args := [d] }
  | _ => none }
def fnPathRow : OpenClaim := { program := "ytpbahibieegbgaagreat", sum := "3628f25f91b129367a2d9d174d128357f392bb16b19ee1401852888b8af96b71", func := "loop.example/g00477/laws.FnPath", spec := "fnPath", unfollowed := true, recurses := true, apart := false }
def FnPathSaid : Prop := fnPathRow.holds Tryz.pinned (OpenSpec.ofChange fnPathSpec)

/-- ITS FALSE NEIGHBOUR: 'it returns false'. Refute it at one input. -/
def fnPathWrong : ChangeSpec := { name := "fnPath", fn := fun _ => fun
  | [d] => { results := [.lit (.bool false)], args := [d] }
  | _ => none }
def FnPathWrongFalsely : Prop := fnPathRow.holds Tryz.pinned (OpenSpec.ofChange fnPathWrong)

/-- 'laws.FnForestSays': WHATEVER THE INPUT: true; the input reads as it did. -/
def fnForestSaysSpec : ChangeSpec := { name := "fnForestSays", fn := fun _ => fun
  | [d] => { results := [.lit (.bool true)], args := [d] }
  | _ => none }
def fnForestSaysRow : OpenClaim := { program := "ytpbahibieegbgaagreat", sum := "3628f25f91b129367a2d9d174d128357f392bb16b19ee1401852888b8af96b71", func := "loop.example/g00477/laws.FnForestSays", spec := "fnForestSays", unfollowed := true, recurses := true, apart := false }
def FnForestSaysSaid : Prop := fnForestSaysRow.holds Tryz.pinned (OpenSpec.ofChange fnForestSaysSpec)

/-- ITS FALSE NEIGHBOUR: 'it returns false'. Refute it at one input. -/
def fnForestSaysWrong : ChangeSpec := { name := "fnForestSays", fn := fun _ => fun
  | [d] => { results := [.lit (.bool false)], args := [d] }
  | _ => none }
def FnForestSaysWrongFalsely : Prop := fnForestSaysRow.holds Tryz.pinned (OpenSpec.ofChange fnForestSaysWrong)

/- THE SECOND FORM. 'bulk': how many values and letters a reading holds, each counted each time it is reached (what is shared counts as often as it is met; a slice's spare places count too). A statement '..UptoSaid' is the law's where the arguments, and the package variables that the reading takes, are together of bulk at most 1048576: NARROWER than '..Said'. Prove '..Said' where nothing that the law and all that it calls make is longer than what came in: it says more and counts as full. Else prove '..UptoSaid'. A law counts once. -/
mutual
def uptoBulk {H : Type} : DataW H → Nat
  | .lit (.string bytes) => bytes.length + 1
  | .lit _ => 1
  | .nil => 1
  | .ptr d => uptoBulk d + 1
  | .slice elems spare => uptoBulkAll elems + uptoBulkAll spare + 1
  | .agg parts => uptoBulkAll parts + 1
  | .iface _ d => uptoBulk d + 1
  | .map entries => uptoBulkEntries entries + 1
  | .held _ => 1
def uptoBulkAll {H : Type} : List (DataW H) → Nat
  | [] => 0
  | d :: r => uptoBulk d + uptoBulkAll r
def uptoBulkEntries {H : Type} : List (Lit × DataW H) → Nat
  | [] => 0
  | x :: r => uptoBulkEntry x + uptoBulkEntries r
def uptoBulkEntry {H : Type} : Lit × DataW H → Nat
  | (.string bytes, d) => bytes.length + uptoBulk d + 1
  | (_, d) => uptoBulk d + 1
 end
def uptoSmall : (H : Type) → List (DataW H) → Bool := fun _ ds => decide (uptoBulkAll ds ≤ 1048576)
def OpenSpec.upto (s : _root_.Go.ChangeSpec) : _root_.Go.OpenSpec := { _root_.Go.OpenSpec.ofChange s with cond := some uptoSmall }

/-- 'laws.FnEnforced', WHERE WHAT IT READS IS OF BULK AT MOST 1048576: true; the input reads as it did. -/
def fnEnforcedUptoRow : OpenClaim := { program := "ytpbahibieegbgaagreat", sum := "3628f25f91b129367a2d9d174d128357f392bb16b19ee1401852888b8af96b71", func := "loop.example/g00477/laws.FnEnforced", spec := "fnEnforced", unfollowed := true, recurses := true, apart := false, narrowed := true }
def FnEnforcedUptoSaid : Prop := fnEnforcedUptoRow.holds Tryz.pinned (OpenSpec.upto fnEnforcedSpec)

/-- 'laws.FnSplitSays', WHERE WHAT IT READS IS OF BULK AT MOST 1048576: true; the input reads as it did. -/
def fnSplitSaysUptoRow : OpenClaim := { program := "ytpbahibieegbgaagreat", sum := "3628f25f91b129367a2d9d174d128357f392bb16b19ee1401852888b8af96b71", func := "loop.example/g00477/laws.FnSplitSays", spec := "fnSplitSays", unfollowed := true, recurses := true, apart := false, narrowed := true }
def FnSplitSaysUptoSaid : Prop := fnSplitSaysUptoRow.holds Tryz.pinned (OpenSpec.upto fnSplitSaysSpec)

/-- 'laws.FnPath', WHERE WHAT IT READS IS OF BULK AT MOST 1048576: true; the input reads as it did. -/
def fnPathUptoRow : OpenClaim := { program := "ytpbahibieegbgaagreat", sum := "3628f25f91b129367a2d9d174d128357f392bb16b19ee1401852888b8af96b71", func := "loop.example/g00477/laws.FnPath", spec := "fnPath", unfollowed := true, recurses := true, apart := false, narrowed := true }
def FnPathUptoSaid : Prop := fnPathUptoRow.holds Tryz.pinned (OpenSpec.upto fnPathSpec)

/-- 'laws.FnForestSays', WHERE WHAT IT READS IS OF BULK AT MOST 1048576: true; the input reads as it did. -/
def fnForestSaysUptoRow : OpenClaim := { program := "ytpbahibieegbgaagreat", sum := "3628f25f91b129367a2d9d174d128357f392bb16b19ee1401852888b8af96b71", func := "loop.example/g00477/laws.FnForestSays", spec := "fnForestSays", unfollowed := true, recurses := true, apart := false, narrowed := true }
def FnForestSaysUptoSaid : Prop := fnForestSaysUptoRow.holds Tryz.pinned (OpenSpec.upto fnForestSaysSpec)

end Rows
end Go.Proofs.YtpbahibieegbgaaGreat
