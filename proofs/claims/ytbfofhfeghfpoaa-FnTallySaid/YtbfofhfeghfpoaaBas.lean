/- Lemmas for the proof of this claim. -/
import Derived.Test.YtbfofhfeghfpoaaFam
namespace Go.AM
open Go Go.Proofs
set_option maxRecDepth 100000
set_option maxHeartbeats 2000000 in
theorem within (n lo hi : Int) : ACalls Try.prog 51 [.one (.int .i64 n), .one (.int .i64 lo), .one (.int .i64 hi)] (fun r => r = .val (.one (.bool (decide (lo ≤ n ∧ n ≤ hi))))) := by
  have nt : Try.f51.ntmps = 15 := rfl
  have rs : Try.f51.results = #[.tmp 6] := rfl
  refine ACalls.of_run (m := 400) mixed Try.func51 rfl rfl (Nat.le_of_ble_eq_true rfl) ?_
  simp only [nt, rs]
  clear nt rs
  (try refine am (h := ?_)); (try with_reducible apply True.intro)
  refine FinK.val1 ?_ ?_
  all_goals (try refine amF (h := ?_))
  all_goals (try with_reducible apply True.intro)
set_option maxHeartbeats 2000000 in
theorem l1In (n lo hi : Int) : ACalls Try.prog 53 [.one (.int .i64 n), .one (.int .i64 lo), .one (.int .i64 hi)] (fun r => r = .val (.one (.bool (decide (lo ≤ n ∧ n ≤ hi))))) := by
  have nt : Try.f53.ntmps = 15 := rfl
  have rs : Try.f53.results = #[.tmp 6] := rfl
  refine ACalls.of_run (m := 400) mixed Try.func53 rfl rfl (Nat.le_of_ble_eq_true rfl) ?_
  simp only [nt, rs]
  clear nt rs
  (try refine am (h := ?_)); (try with_reducible apply True.intro)
  refine FinK.val1 ?_ ?_
  all_goals (try refine amF (h := ?_))
  all_goals (try with_reducible apply True.intro)
set_option maxHeartbeats 2000000 in
theorem zerosI (n : Nat) (hn : n ≤ 2 ^ 40) : ACalls Try.prog 52 [.one (.int .i64 n)] (fun r => r = .val (.one (.sl true (some false) 1 n (fI (List.replicate n 0))))) := by
  have nt : Try.f52.ntmps = 5 := rfl
  have rs : Try.f52.results = #[.tmp 2] := rfl
  refine ACalls.of_run (m := 400) mixed Try.func52 rfl rfl (Nat.le_of_ble_eq_true rfl) ?_
  simp only [nt, rs]
  clear nt rs
  (try refine am (h := ?_)); (try with_reducible apply True.intro)
  repeat' (first | (with_reducible refine And.intro ?_ ?_) | (with_reducible intro _))
  all_goals try (first | omega | with_reducible rfl | ((with_reducible refine eqId ?_); exact rfl) | with_reducible (first | assumption | exact pl ‹_› | exact pr ‹_› | exact plr ‹_› | exact pll ‹_› | exact prl ‹_› | exact plll ‹_› | exact prll ‹_›))
  refine FinK.val1 ?_ ?_
  all_goals (try refine amF (h := ?_))
  all_goals (try with_reducible apply True.intro)
  refine ALe.of (.inr rfl) rfl (fun i hi j hj => ?_)
  obtain rfl : j = 0 := by omega
  (try refine am (h := ?_)); (try with_reducible apply True.intro)
  simp [List.getD, hi]
end Go.AM
