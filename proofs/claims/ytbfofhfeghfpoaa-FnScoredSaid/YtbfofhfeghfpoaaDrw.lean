/- Lemmas for the proof of this claim. -/
import Derived.Test.YtbfofhfeghfpoaaBas
namespace Go.AM
open Go Go.Proofs
set_option maxRecDepth 100000
end Go.AM
namespace Go.AM
open Go Go.Proofs
set_option maxRecDepth 100000
set_option maxHeartbeats 4000000 in
theorem lawsBig (code : List UInt8) (hc : code.length ≤ 2 ^ 47) (u : Bool) : ACalls Try.prog 10 [.one (aB u code)] (fun r => r = .val (.one (.bool (decide (1048576 < code.length))))) := by
  have nt : Try.f10.ntmps = 6 := rfl
  have rs : Try.f10.results = #[.tmp 2] := rfl
  refine ACalls.of_run (m := 400) mixed Try.func10 rfl rfl (Nat.le_of_ble_eq_true rfl) ?_
  simp only [nt, rs]
  clear nt rs
  (try refine am (h := ?_)); (try with_reducible apply True.intro)
  repeat' (first | (with_reducible refine And.intro ?_ ?_) | (with_reducible intro _))
  all_goals try (first | omega | with_reducible rfl | ((with_reducible refine eqId ?_); exact rfl) | with_reducible (first | assumption | exact pl ‹_› | exact pr ‹_› | exact plr ‹_› | exact pll ‹_› | exact prl ‹_› | exact plll ‹_› | exact prll ‹_›))
  refine FinK.val1 ?_ ?_
  all_goals (try refine amF (h := ?_))
  all_goals (try with_reducible apply True.intro)
  refine decide_eq_decide.2 ?_
  omega
end Go.AM
