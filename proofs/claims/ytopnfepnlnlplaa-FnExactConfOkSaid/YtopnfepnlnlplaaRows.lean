/-
  No cell of these rows narrows 'for every input' (looked for: loops, veiled, ifaces, maps, wideKeys, modest, calm, conditions, laid).
  DERIVED. THE GIVEN ROWS OF THIS SEAT. 10 by the template 'for every input the law returns true; each argument reads behind the call as it read before'; 0 by the template 'total and deterministic' (their statements: YtopnfepnlnlplaaTotals.lean).
  GIVEN WITH THE SEED: the statements are not yours to turn. If you find one false, say at which input.
  Laid BY PROGRAM, IN A SANDBOX (cutbox-rows.mjs): the forced cells as the released guide's own fill.sh prints them over the translation 9f035c36e2b38ae4… (all of the seat's roots in one cut). By AI agents, Wed Nov 11 2026. No macro, syntax, notation, axiom, sorry.
-/
import Derived.Test.YtopnfepnlnlplaaChecked
import GoSem.Claim
import GoSem.ClaimJoined
import GoSem.ClaimMapViews
import Derived.JoinedTies
import Derived.KernelRfl
namespace Go.Proofs.Ytopnfepnlnlplaa
/- THE CELL 'sum', in the pinned program and in every row, IS THE sha256 OF THE DUMP (.gsa) THAT YtopnfepnlnlplaaProg.lean LOADS. Nothing in Lean hashes anything: it is a label: what it is worth is what the hold of that sum in a sandbox is worth. -/
noncomputable def Try.pinned : Pinned := { name := "ytopnfepnlnlplaa", sum := "9f035c36e2b38ae4837aa198441cd902b75ca4d048c38f4b4392f346811d81b5", checked := Try.checked }
namespace Rows
def none {H : Type} : Left H := { results := [], args := [] }

/-- 'laws.FnExactMemberSame': WHATEVER THE INPUT: true; the input reads as it did. -/
def fnExactMemberSameSpec : ChangeSpec := { name := "fnExactMemberSame", fn := fun _ => fun
  | [d1, d2] => { results := [.lit (.bool true)], args := [d1, d2] }
  | _ => none }
def fnExactMemberSameRow : OpenClaim := { program := "ytopnfepnlnlplaa", sum := "9f035c36e2b38ae4837aa198441cd902b75ca4d048c38f4b4392f346811d81b5", func := "loop.example/g00477/laws.FnExactMemberSame", spec := "fnExactMemberSame", unfollowed := true, recurses := true, apart := false }
def FnExactMemberSameSaid : Prop := fnExactMemberSameRow.holds Try.pinned (OpenSpec.ofChange fnExactMemberSameSpec)

/-- ITS FALSE NEIGHBOUR: 'it returns false'. Refute it at one input. -/
def fnExactMemberSameWrong : ChangeSpec := { name := "fnExactMemberSame", fn := fun _ => fun
  | [d1, d2] => { results := [.lit (.bool false)], args := [d1, d2] }
  | _ => none }
def FnExactMemberSameWrongFalsely : Prop := fnExactMemberSameRow.holds Try.pinned (OpenSpec.ofChange fnExactMemberSameWrong)

/-- 'laws.FnExactForestSame': WHATEVER THE INPUT: true; the input reads as it did. -/
def fnExactForestSameSpec : ChangeSpec := { name := "fnExactForestSame", fn := fun _ => fun
  | [d1, d2] => { results := [.lit (.bool true)], args := [d1, d2] }
  | _ => none }
def fnExactForestSameRow : OpenClaim := { program := "ytopnfepnlnlplaa", sum := "9f035c36e2b38ae4837aa198441cd902b75ca4d048c38f4b4392f346811d81b5", func := "loop.example/g00477/laws.FnExactForestSame", spec := "fnExactForestSame", unfollowed := true, recurses := true, apart := false }
def FnExactForestSameSaid : Prop := fnExactForestSameRow.holds Try.pinned (OpenSpec.ofChange fnExactForestSameSpec)

/-- ITS FALSE NEIGHBOUR: 'it returns false'. Refute it at one input. -/
def fnExactForestSameWrong : ChangeSpec := { name := "fnExactForestSame", fn := fun _ => fun
  | [d1, d2] => { results := [.lit (.bool false)], args := [d1, d2] }
  | _ => none }
def FnExactForestSameWrongFalsely : Prop := fnExactForestSameRow.holds Try.pinned (OpenSpec.ofChange fnExactForestSameWrong)

/-- 'laws.FnExactConfOk': WHATEVER THE INPUT: true; the input reads as it did. -/
def fnExactConfOkSpec : ChangeSpec := { name := "fnExactConfOk", fn := fun _ => fun
  | [d] => { results := [.lit (.bool true)], args := [d] }
  | _ => none }
def fnExactConfOkRow : OpenClaim := { program := "ytopnfepnlnlplaa", sum := "9f035c36e2b38ae4837aa198441cd902b75ca4d048c38f4b4392f346811d81b5", func := "loop.example/g00477/laws.FnExactConfOk", spec := "fnExactConfOk", unfollowed := true, recurses := true, apart := false }
def FnExactConfOkSaid : Prop := fnExactConfOkRow.holds Try.pinned (OpenSpec.ofChange fnExactConfOkSpec)

/-- ITS FALSE NEIGHBOUR: 'it returns false'. Refute it at one input. -/
def fnExactConfOkWrong : ChangeSpec := { name := "fnExactConfOk", fn := fun _ => fun
  | [d] => { results := [.lit (.bool false)], args := [d] }
  | _ => none }
def FnExactConfOkWrongFalsely : Prop := fnExactConfOkRow.holds Try.pinned (OpenSpec.ofChange fnExactConfOkWrong)

/-- 'laws.FnExactForestUnits': WHATEVER THE INPUT: true; the input reads as it did. -/
def fnExactForestUnitsSpec : ChangeSpec := { name := "fnExactForestUnits", fn := fun _ => fun
  | [d] => { results := [.lit (.bool true)], args := [d] }
  | _ => none }
def fnExactForestUnitsRow : OpenClaim := { program := "ytopnfepnlnlplaa", sum := "9f035c36e2b38ae4837aa198441cd902b75ca4d048c38f4b4392f346811d81b5", func := "loop.example/g00477/laws.FnExactForestUnits", spec := "fnExactForestUnits", apart := false }
def FnExactForestUnitsSaid : Prop := fnExactForestUnitsRow.holds Try.pinned (OpenSpec.ofChange fnExactForestUnitsSpec)

/-- ITS FALSE NEIGHBOUR: 'it returns false'. Refute it at one input. -/
def fnExactForestUnitsWrong : ChangeSpec := { name := "fnExactForestUnits", fn := fun _ => fun
  | [d] => { results := [.lit (.bool false)], args := [d] }
  | _ => none }
def FnExactForestUnitsWrongFalsely : Prop := fnExactForestUnitsRow.holds Try.pinned (OpenSpec.ofChange fnExactForestUnitsWrong)

/-- 'laws.FnExactHeaviest': WHATEVER THE INPUT: true; the input reads as it did. -/
def fnExactHeaviestSpec : ChangeSpec := { name := "fnExactHeaviest", fn := fun _ => fun
  | [d1, d2, d3] => { results := [.lit (.bool true)], args := [d1, d2, d3] }
  | _ => none }
def fnExactHeaviestRow : OpenClaim := { program := "ytopnfepnlnlplaa", sum := "9f035c36e2b38ae4837aa198441cd902b75ca4d048c38f4b4392f346811d81b5", func := "loop.example/g00477/laws.FnExactHeaviest", spec := "fnExactHeaviest", unfollowed := true, recurses := true, apart := false }
def FnExactHeaviestSaid : Prop := fnExactHeaviestRow.holds Try.pinned (OpenSpec.ofChange fnExactHeaviestSpec)

/-- ITS FALSE NEIGHBOUR: 'it returns false'. Refute it at one input. -/
def fnExactHeaviestWrong : ChangeSpec := { name := "fnExactHeaviest", fn := fun _ => fun
  | [d1, d2, d3] => { results := [.lit (.bool false)], args := [d1, d2, d3] }
  | _ => none }
def FnExactHeaviestWrongFalsely : Prop := fnExactHeaviestRow.holds Try.pinned (OpenSpec.ofChange fnExactHeaviestWrong)

/-- 'laws.FnExactTreeOk': WHATEVER THE INPUT: true; the input reads as it did. -/
def fnExactTreeOkSpec : ChangeSpec := { name := "fnExactTreeOk", fn := fun _ => fun
  | [d1, d2] => { results := [.lit (.bool true)], args := [d1, d2] }
  | _ => none }
def fnExactTreeOkRow : OpenClaim := { program := "ytopnfepnlnlplaa", sum := "9f035c36e2b38ae4837aa198441cd902b75ca4d048c38f4b4392f346811d81b5", func := "loop.example/g00477/laws.FnExactTreeOk", spec := "fnExactTreeOk", unfollowed := true, recurses := true, apart := false }
def FnExactTreeOkSaid : Prop := fnExactTreeOkRow.holds Try.pinned (OpenSpec.ofChange fnExactTreeOkSpec)

/-- ITS FALSE NEIGHBOUR: 'it returns false'. Refute it at one input. -/
def fnExactTreeOkWrong : ChangeSpec := { name := "fnExactTreeOk", fn := fun _ => fun
  | [d1, d2] => { results := [.lit (.bool false)], args := [d1, d2] }
  | _ => none }
def FnExactTreeOkWrongFalsely : Prop := fnExactTreeOkRow.holds Try.pinned (OpenSpec.ofChange fnExactTreeOkWrong)

/-- 'laws.FnExactPoorest': WHATEVER THE INPUT: true; the input reads as it did. -/
def fnExactPoorestSpec : ChangeSpec := { name := "fnExactPoorest", fn := fun _ => fun
  | [d1, d2] => { results := [.lit (.bool true)], args := [d1, d2] }
  | _ => none }
def fnExactPoorestRow : OpenClaim := { program := "ytopnfepnlnlplaa", sum := "9f035c36e2b38ae4837aa198441cd902b75ca4d048c38f4b4392f346811d81b5", func := "loop.example/g00477/laws.FnExactPoorest", spec := "fnExactPoorest", unfollowed := true, recurses := true, apart := false }
def FnExactPoorestSaid : Prop := fnExactPoorestRow.holds Try.pinned (OpenSpec.ofChange fnExactPoorestSpec)

/-- ITS FALSE NEIGHBOUR: 'it returns false'. Refute it at one input. -/
def fnExactPoorestWrong : ChangeSpec := { name := "fnExactPoorest", fn := fun _ => fun
  | [d1, d2] => { results := [.lit (.bool false)], args := [d1, d2] }
  | _ => none }
def FnExactPoorestWrongFalsely : Prop := fnExactPoorestRow.holds Try.pinned (OpenSpec.ofChange fnExactPoorestWrong)

/-- 'laws.FnExactFits': WHATEVER THE INPUT: true; the input reads as it did. -/
def fnExactFitsSpec : ChangeSpec := { name := "fnExactFits", fn := fun _ => fun
  | [d1, d2, d3] => { results := [.lit (.bool true)], args := [d1, d2, d3] }
  | _ => none }
def fnExactFitsRow : OpenClaim := { program := "ytopnfepnlnlplaa", sum := "9f035c36e2b38ae4837aa198441cd902b75ca4d048c38f4b4392f346811d81b5", func := "loop.example/g00477/laws.FnExactFits", spec := "fnExactFits", unfollowed := true, recurses := true, apart := false }
def FnExactFitsSaid : Prop := fnExactFitsRow.holds Try.pinned (OpenSpec.ofChange fnExactFitsSpec)

/-- ITS FALSE NEIGHBOUR: 'it returns false'. Refute it at one input. -/
def fnExactFitsWrong : ChangeSpec := { name := "fnExactFits", fn := fun _ => fun
  | [d1, d2, d3] => { results := [.lit (.bool false)], args := [d1, d2, d3] }
  | _ => none }
def FnExactFitsWrongFalsely : Prop := fnExactFitsRow.holds Try.pinned (OpenSpec.ofChange fnExactFitsWrong)

/-- 'laws.FnExactRouteTo': WHATEVER THE INPUT: true; the input reads as it did. -/
def fnExactRouteToSpec : ChangeSpec := { name := "fnExactRouteTo", fn := fun _ => fun
  | [d1, d2, d3] => { results := [.lit (.bool true)], args := [d1, d2, d3] }
  | _ => none }
def fnExactRouteToRow : OpenClaim := { program := "ytopnfepnlnlplaa", sum := "9f035c36e2b38ae4837aa198441cd902b75ca4d048c38f4b4392f346811d81b5", func := "loop.example/g00477/laws.FnExactRouteTo", spec := "fnExactRouteTo", unfollowed := true, recurses := true, apart := false }
def FnExactRouteToSaid : Prop := fnExactRouteToRow.holds Try.pinned (OpenSpec.ofChange fnExactRouteToSpec)

/-- ITS FALSE NEIGHBOUR: 'it returns false'. Refute it at one input. -/
def fnExactRouteToWrong : ChangeSpec := { name := "fnExactRouteTo", fn := fun _ => fun
  | [d1, d2, d3] => { results := [.lit (.bool false)], args := [d1, d2, d3] }
  | _ => none }
def FnExactRouteToWrongFalsely : Prop := fnExactRouteToRow.holds Try.pinned (OpenSpec.ofChange fnExactRouteToWrong)

/-- 'laws.FnExactTreeSays': WHATEVER THE INPUT: true; the input reads as it did. -/
def fnExactTreeSaysSpec : ChangeSpec := { name := "fnExactTreeSays", fn := fun _ => fun
  | [d1, d2, d3] => { results := [.lit (.bool true)], args := [d1, d2, d3] }
  | _ => none }
def fnExactTreeSaysRow : OpenClaim := { program := "ytopnfepnlnlplaa", sum := "9f035c36e2b38ae4837aa198441cd902b75ca4d048c38f4b4392f346811d81b5", func := "loop.example/g00477/laws.FnExactTreeSays", spec := "fnExactTreeSays", unfollowed := true, recurses := true, apart := false }
def FnExactTreeSaysSaid : Prop := fnExactTreeSaysRow.holds Try.pinned (OpenSpec.ofChange fnExactTreeSaysSpec)

/-- ITS FALSE NEIGHBOUR: 'it returns false'. Refute it at one input. -/
def fnExactTreeSaysWrong : ChangeSpec := { name := "fnExactTreeSays", fn := fun _ => fun
  | [d1, d2, d3] => { results := [.lit (.bool false)], args := [d1, d2, d3] }
  | _ => none }
def FnExactTreeSaysWrongFalsely : Prop := fnExactTreeSaysRow.holds Try.pinned (OpenSpec.ofChange fnExactTreeSaysWrong)

/- THE SECOND FORM. 'bulk': how many values and letters a reading holds, each counted each time it is reached (what is shared counts as often as it is met; a slice's spare places count too). A statement '..UptoSaid' is the law's where the arguments, and the package variables that the reading takes, are together of bulk at most 1048576: NARROWER than '..Said'. Prove '..Said' where nothing that the law and all that it calls make is longer than what came in: it says more and counts as full. Else prove '..UptoSaid'. A law counts once. -/
mutual
def uptoBulk {H : Type} : DataW H → Nat
  | .lit (.string bytes) => bytes.length + 1
  | .lit _ => 1
  | .nil => 1
  | .ptr d => uptoBulk d + 1
  | .slice elems spare => uptoBulkAll elems + uptoBulkAll spare + 1
  | .agg parts => uptoBulkAll parts + 1
  | .iface _ d => uptoBulk d + 1
  | .map entries => uptoBulkEntries entries + 1
  | .held _ => 1
def uptoBulkAll {H : Type} : List (DataW H) → Nat
  | [] => 0
  | d :: r => uptoBulk d + uptoBulkAll r
def uptoBulkEntries {H : Type} : List (Lit × DataW H) → Nat
  | [] => 0
  | x :: r => uptoBulkEntry x + uptoBulkEntries r
def uptoBulkEntry {H : Type} : Lit × DataW H → Nat
  | (.string bytes, d) => bytes.length + uptoBulk d + 1
  | (_, d) => uptoBulk d + 1
 end
def uptoSmall : (H : Type) → List (DataW H) → Bool := fun _ ds => decide (uptoBulkAll ds ≤ 1048576)
def OpenSpec.upto (s : _root_.Go.ChangeSpec) : _root_.Go.OpenSpec := { _root_.Go.OpenSpec.ofChange s with cond := some uptoSmall }

/-- 'laws.FnExactMemberSame', WHERE WHAT IT READS IS OF BULK AT MOST 1048576: true; the input reads as it did. -/
def fnExactMemberSameUptoRow : OpenClaim := { program := "ytopnfepnlnlplaa", sum := "9f035c36e2b38ae4837aa198441cd902b75ca4d048c38f4b4392f346811d81b5", func := "loop.example/g00477/laws.FnExactMemberSame", spec := "fnExactMemberSame", unfollowed := true, recurses := true, apart := false, narrowed := true }
def FnExactMemberSameUptoSaid : Prop := fnExactMemberSameUptoRow.holds Try.pinned (OpenSpec.upto fnExactMemberSameSpec)

/-- 'laws.FnExactForestSame', WHERE WHAT IT READS IS OF BULK AT MOST 1048576: true; the input reads as it did. -/
def fnExactForestSameUptoRow : OpenClaim := { program := "ytopnfepnlnlplaa", sum := "9f035c36e2b38ae4837aa198441cd902b75ca4d048c38f4b4392f346811d81b5", func := "loop.example/g00477/laws.FnExactForestSame", spec := "fnExactForestSame", unfollowed := true, recurses := true, apart := false, narrowed := true }
def FnExactForestSameUptoSaid : Prop := fnExactForestSameUptoRow.holds Try.pinned (OpenSpec.upto fnExactForestSameSpec)

/-- 'laws.FnExactConfOk', WHERE WHAT IT READS IS OF BULK AT MOST 1048576: true; the input reads as it did. -/
def fnExactConfOkUptoRow : OpenClaim := { program := "ytopnfepnlnlplaa", sum := "9f035c36e2b38ae4837aa198441cd902b75ca4d048c38f4b4392f346811d81b5", func := "loop.example/g00477/laws.FnExactConfOk", spec := "fnExactConfOk", unfollowed := true, recurses := true, apart := false, narrowed := true }
def FnExactConfOkUptoSaid : Prop := fnExactConfOkUptoRow.holds Try.pinned (OpenSpec.upto fnExactConfOkSpec)

/-- 'laws.FnExactForestUnits', WHERE WHAT IT READS IS OF BULK AT MOST 1048576: true; the input reads as it did. -/
def fnExactForestUnitsUptoRow : OpenClaim := { program := "ytopnfepnlnlplaa", sum := "9f035c36e2b38ae4837aa198441cd902b75ca4d048c38f4b4392f346811d81b5", func := "loop.example/g00477/laws.FnExactForestUnits", spec := "fnExactForestUnits", apart := false, narrowed := true }
def FnExactForestUnitsUptoSaid : Prop := fnExactForestUnitsUptoRow.holds Try.pinned (OpenSpec.upto fnExactForestUnitsSpec)

/-- 'laws.FnExactHeaviest', WHERE WHAT IT READS IS OF BULK AT MOST 1048576: true; the input reads as it did. -/
def fnExactHeaviestUptoRow : OpenClaim := { program := "ytopnfepnlnlplaa", sum := "9f035c36e2b38ae4837aa198441cd902b75ca4d048c38f4b4392f346811d81b5", func := "loop.example/g00477/laws.FnExactHeaviest", spec := "fnExactHeaviest", unfollowed := true, recurses := true, apart := false, narrowed := true }
def FnExactHeaviestUptoSaid : Prop := fnExactHeaviestUptoRow.holds Try.pinned (OpenSpec.upto fnExactHeaviestSpec)

/-- 'laws.FnExactTreeOk', WHERE WHAT IT READS IS OF BULK AT MOST 1048576: true; the input reads as it did. -/
def fnExactTreeOkUptoRow : OpenClaim := { program := "ytopnfepnlnlplaa", sum := "9f035c36e2b38ae4837aa198441cd902b75ca4d048c38f4b4392f346811d81b5", func := "loop.example/g00477/laws.FnExactTreeOk", spec := "fnExactTreeOk", unfollowed := true, recurses := true, apart := false, narrowed := true }
def FnExactTreeOkUptoSaid : Prop := fnExactTreeOkUptoRow.holds Try.pinned (OpenSpec.upto fnExactTreeOkSpec)

/-- 'laws.FnExactPoorest', WHERE WHAT IT READS IS OF BULK AT MOST 1048576: true; the input reads as it did. -/
def fnExactPoorestUptoRow : OpenClaim := { program := "ytopnfepnlnlplaa", sum := "9f035c36e2b38ae4837aa198441cd902b75ca4d048c38f4b4392f346811d81b5", func := "loop.example/g00477/laws.FnExactPoorest", spec := "fnExactPoorest", unfollowed := true, recurses := true, apart := false, narrowed := true }
def FnExactPoorestUptoSaid : Prop := fnExactPoorestUptoRow.holds Try.pinned (OpenSpec.upto fnExactPoorestSpec)

/-- 'laws.FnExactFits', WHERE WHAT IT READS IS OF BULK AT MOST 1048576: true; the input reads as it did. -/
def fnExactFitsUptoRow : OpenClaim := { program := "ytopnfepnlnlplaa", sum := "9f035c36e2b38ae4837aa198441cd902b75ca4d048c38f4b4392f346811d81b5", func := "loop.example/g00477/laws.FnExactFits", spec := "fnExactFits", unfollowed := true, recurses := true, apart := false, narrowed := true }
def FnExactFitsUptoSaid : Prop := fnExactFitsUptoRow.holds Try.pinned (OpenSpec.upto fnExactFitsSpec)

/-- 'laws.FnExactRouteTo', WHERE WHAT IT READS IS OF BULK AT MOST 1048576: true; the input reads as it did. -/
def fnExactRouteToUptoRow : OpenClaim := { program := "ytopnfepnlnlplaa", sum := "9f035c36e2b38ae4837aa198441cd902b75ca4d048c38f4b4392f346811d81b5", func := "loop.example/g00477/laws.FnExactRouteTo", spec := "fnExactRouteTo", unfollowed := true, recurses := true, apart := false, narrowed := true }
def FnExactRouteToUptoSaid : Prop := fnExactRouteToUptoRow.holds Try.pinned (OpenSpec.upto fnExactRouteToSpec)

/-- 'laws.FnExactTreeSays', WHERE WHAT IT READS IS OF BULK AT MOST 1048576: true; the input reads as it did. -/
def fnExactTreeSaysUptoRow : OpenClaim := { program := "ytopnfepnlnlplaa", sum := "9f035c36e2b38ae4837aa198441cd902b75ca4d048c38f4b4392f346811d81b5", func := "loop.example/g00477/laws.FnExactTreeSays", spec := "fnExactTreeSays", unfollowed := true, recurses := true, apart := false, narrowed := true }
def FnExactTreeSaysUptoSaid : Prop := fnExactTreeSaysUptoRow.holds Try.pinned (OpenSpec.upto fnExactTreeSaysSpec)

end Rows
end Go.Proofs.Ytopnfepnlnlplaa
