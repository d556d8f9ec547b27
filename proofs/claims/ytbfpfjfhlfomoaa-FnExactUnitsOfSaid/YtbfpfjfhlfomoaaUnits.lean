/- Lemmas for the proof of this claim. -/
import Derived.Test.YtbfpfjfhlfomoaaFam
namespace Go.AM
open Go Go.Proofs
set_option maxRecDepth 100000
def units (x : DNode) : Nat := if x.leaf = true then 2 + sm List.length x.stats.cells else 1
theorem units_le (x : DNode) : units x ≤ 2 + zNode x := by
  unfold units zNode zStats szW tot
  split <;> omega
set_option maxHeartbeats 1000000 in
theorem implUnitsOf (x : DNode) (u v : Bool) (h : okNode (2 ^ 47) x) (hz : zNode x ≤ 2 ^ 40) : ACalls Try.prog 30 [.agg (cNode u v x)] (fun r => r = .val (.one (.int .i64 (units x)))) := by
  have hc : sm List.length x.stats.cells ≤ 2 ^ 40 := by unfold zNode zStats szW tot at hz; omega
  have hl := h.2.2.2.2.1.2.1
  have nt : Try.f30.ntmps = 23 := rfl
  have rs : Try.f30.results = #[.tmp 2] := rfl
  refine ACalls.of_run (m := 400) mixed Try.func30 rfl rfl (Nat.le_of_ble_eq_true rfl) ?_
  simp only [nt, rs]
  clear nt rs
  (try refine am (h := ?_)); (try exact True.intro)
  repeat' (first | (with_reducible refine And.intro ?_ ?_) | intro _)
  all_goals try (first | omega | rfl)
  · refine FinK.val1 ?_ ?_
    all_goals (try refine amF (h := ?_))
    all_goals (try exact True.intro)
    rename_i h2
    simp [units, h2]
  refine LoopK.intro (Nat) (fun i => [(3, .one (.av (.int .i64 (2 + sm List.length (x.stats.cells.take i) : Nat)))), (13, .one (.av (.int .i64 i)))]) (fun i => []) [11, 12] [] 400 (fun i => i ≤ x.stats.cells.length) (fun i => x.stats.cells.length - i) (0) ?_ ?_ ?_
  · exact Nat.zero_le _
  · refine Le.of [] [] rfl rfl rfl rfl ?_ ?_ ?_
    all_goals (try refine amL (h := ?_))
    all_goals (try exact True.intro)
    simp [sm]
  · intro i hi
    (try refine am (h := ?_)); (try exact True.intro)
    have ht2 := sm_le (f := List.length) (l := x.stats.cells) (i := i + 1)
    have ht3 := sm_le (f := List.length) (l := x.stats.cells) (i := i)
    repeat' (first | (with_reducible refine And.intro ?_ ?_) | intro _)
    all_goals try (first | omega | rfl)
    · have ht := sm_take (f := List.length) (d := []) (by assumption : i < x.stats.cells.length)
      omega
    · have ht := sm_take (f := List.length) (d := []) (by assumption : i < x.stats.cells.length)
      refine ⟨i + 1, ?_, by omega, by omega⟩
      refine Le.of [] [] rfl rfl rfl rfl ?_ ?_ ?_
      all_goals (try refine amL (h := ?_))
      all_goals (try exact True.intro)
      omega
    · refine FinK.val1 ?_ ?_
      all_goals (try refine amF (h := ?_))
      all_goals (try exact True.intro)
      have : i = x.stats.cells.length := by omega
      subst this
      rename_i h2 _
      simp [units, h2]
set_option maxHeartbeats 1000000 in
theorem specUnitsOf (x : DNode) (u v : Bool) (h : okNode (2 ^ 47) x) (hz : zNode x ≤ 2 ^ 40) : ACalls Try.prog 28 [.agg (cNode u v x)] (fun r => r = .val (.one (.int .i64 (units x)))) := by
  have hc : sm List.length x.stats.cells ≤ 2 ^ 40 := by unfold zNode zStats szW tot at hz; omega
  have hl := h.2.2.2.2.1.2.1
  have nt : Try.f28.ntmps = 26 := rfl
  have rs : Try.f28.results = #[.tmp 2] := rfl
  refine ACalls.of_run (m := 400) mixed Try.func28 rfl rfl (Nat.le_of_ble_eq_true rfl) ?_
  simp only [nt, rs]
  clear nt rs
  (try refine am (h := ?_)); (try exact True.intro)
  repeat' (first | (with_reducible refine And.intro ?_ ?_) | intro _)
  all_goals try (first | omega | rfl)
  · refine FinK.val1 ?_ ?_
    all_goals (try refine amF (h := ?_))
    all_goals (try exact True.intro)
    rename_i h2
    simp [units, h2]
  refine LoopK.intro (Nat) (fun i => [(3, .one (.av (.int .i64 (2 + sm List.length (x.stats.cells.take i) : Nat)))), (4, .one (.av (.int .i64 i)))]) (fun i => []) [1] [1] 400 (fun i => i ≤ x.stats.cells.length) (fun i => x.stats.cells.length - i) (0) ?_ ?_ ?_
  · exact Nat.zero_le _
  · refine Le.of [(1, 1)] [] rfl rfl rfl rfl ?_ ?_ ?_
    all_goals (try refine amL (h := ?_))
    all_goals (try exact True.intro)
    simp [sm]
  · intro i hi
    (try refine am (h := ?_)); (try exact True.intro)
    have ht2 := sm_le (f := List.length) (l := x.stats.cells) (i := i + 1)
    have ht3 := sm_le (f := List.length) (l := x.stats.cells) (i := i)
    repeat' (first | (with_reducible refine And.intro ?_ ?_) | intro _)
    all_goals try (first | omega | rfl)
    · have ht := sm_take (f := List.length) (d := []) (by assumption : i < x.stats.cells.length)
      omega
    · have ht := sm_take (f := List.length) (d := []) (by assumption : i < x.stats.cells.length)
      refine ⟨i + 1, ?_, by omega, by omega⟩
      refine Le.of [(1, 1)] [] rfl rfl rfl rfl ?_ ?_ ?_
      all_goals (try refine amL (h := ?_))
      all_goals (try exact True.intro)
      omega
    · refine FinK.val1 ?_ ?_
      all_goals (try refine amF (h := ?_))
      all_goals (try exact True.intro)
      have : i = x.stats.cells.length := by omega
      subst this
      rename_i h2 _
      simp [units, h2]
end Go.AM
