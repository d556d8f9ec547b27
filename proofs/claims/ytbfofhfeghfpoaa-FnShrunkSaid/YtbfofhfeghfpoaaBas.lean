/- Lemmas for the proof of this claim. -/
import Derived.Test.YtbfofhfeghfpoaaFam
namespace Go.AM
open Go Go.Proofs
set_option maxRecDepth 100000
set_option maxHeartbeats 2000000 in
theorem within (n lo hi : Int) : ACalls Try.prog 51 [.one (.int .i64 n), .one (.int .i64 lo), .one (.int .i64 hi)] (fun r => r = .val (.one (.bool (decide (lo ≤ n ∧ n ≤ hi))))) := by
  have nt : Try.f51.ntmps = 15 := rfl
  have rs : Try.f51.results = #[.tmp 6] := rfl
  refine ACalls.of_run (m := 400) mixed Try.func51 rfl rfl (Nat.le_of_ble_eq_true rfl) ?_
  simp only [nt, rs]
  clear nt rs
  (try refine am (h := ?_)); (try with_reducible apply True.intro)
  refine FinK.val1 ?_ ?_
  all_goals (try refine amF (h := ?_))
  all_goals (try with_reducible apply True.intro)
set_option maxHeartbeats 2000000 in
theorem l1In (n lo hi : Int) : ACalls Try.prog 53 [.one (.int .i64 n), .one (.int .i64 lo), .one (.int .i64 hi)] (fun r => r = .val (.one (.bool (decide (lo ≤ n ∧ n ≤ hi))))) := by
  have nt : Try.f53.ntmps = 15 := rfl
  have rs : Try.f53.results = #[.tmp 6] := rfl
  refine ACalls.of_run (m := 400) mixed Try.func53 rfl rfl (Nat.le_of_ble_eq_true rfl) ?_
  simp only [nt, rs]
  clear nt rs
  (try refine am (h := ?_)); (try with_reducible apply True.intro)
  refine FinK.val1 ?_ ?_
  all_goals (try refine amF (h := ?_))
  all_goals (try with_reducible apply True.intro)
set_option maxHeartbeats 2000000 in
theorem cloneI (l : List Int) (u : Bool) (hl : l.length ≤ 2 ^ 43) : ACalls Try.prog 113 [.one (.sl u none 1 l.length (fI l))] (fun r => r = .val (.one (aI true l))) := by
  refine ACalls.nl1 (fun h0 => ?_) ?_
  · have nt : Try.f113.ntmps = 8 := rfl
    have rs : Try.f113.results = #[.tmp 2] := rfl
    refine ACalls.of_run (m := 400) mixed Try.func113 rfl rfl (Nat.le_of_ble_eq_true rfl) ?_
    simp only [nt, rs]
    clear nt rs
    (try refine am (h := ?_)); (try with_reducible apply True.intro)
    refine FinK.val1 ?_ ?_
    all_goals (try refine amF (h := ?_))
    all_goals (try with_reducible apply True.intro)
    rw [h0]
    exact ALe.nil _ _ _ _ _
  · have nt : Try.f113.ntmps = 8 := rfl
    have rs : Try.f113.results = #[.tmp 2] := rfl
    refine ACalls.of_run (m := 400) mixed Try.func113 rfl rfl (Nat.le_of_ble_eq_true rfl) ?_
    simp only [nt, rs]
    clear nt rs
    (try refine am (h := ?_)); (try with_reducible apply True.intro)
    repeat' (first | (with_reducible refine And.intro ?_ ?_) | (with_reducible intro _))
    all_goals try (first | omega | with_reducible rfl | ((with_reducible refine eqId ?_); exact rfl) | with_reducible (first | assumption | exact pl ‹_› | exact pr ‹_› | exact plr ‹_› | exact pll ‹_› | exact prl ‹_› | exact plll ‹_› | exact prll ‹_›))
    refine FinK.val1 ?_ ?_
    all_goals (try refine amF (h := ?_))
    all_goals (try with_reducible apply True.intro)
    refine ALe.of (.inl rfl) (by omega) (fun i hi j hj => ?_)
    obtain rfl : j = 0 := by omega
    simp only [apF, Nat.not_lt_zero, if_false, Nat.sub_zero]
    exact .refl _
end Go.AM
