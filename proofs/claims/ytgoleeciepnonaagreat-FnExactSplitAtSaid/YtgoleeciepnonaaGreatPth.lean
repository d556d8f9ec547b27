/- Lemmas for the proof of this claim. -/
import Derived.Test.YtgoleeciepnonaaGreatTre
namespace Go.AM
open Go Go.Proofs
set_option maxRecDepth 100000
def exOk (s : DSchema) (e : DEx) : Prop := schemaOk s ∧ e.bins.length = s.attrs.length ∧ (-1 ≤ e.cls ∧ e.cls ≤ (s.classes.length : Int) - 1) ∧ ∀ i, i < e.bins.length → -1 ≤ e.bins.getD i 0 ∧ e.bins.getD i 0 ≤ (bins (s.attrs.getD i default) : Int) - 1
instance (s : DSchema) (e : DEx) : Decidable (exOk s e) := by unfold exOk; infer_instance
end Go.AM
namespace Go.AM
open Go Go.Proofs
set_option maxRecDepth 100000
end Go.AM
namespace Go.AM
open Go Go.Proofs
set_option maxRecDepth 100000
end Go.AM
