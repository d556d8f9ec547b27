/- Lemmas for the proof of this claim. -/
import Derived.Test.YtbfpfjfhlfomoaaUnits
namespace Go.AM
open Go Go.Proofs
set_option maxRecDepth 100000
set_option maxHeartbeats 8000000 in
theorem fnExactUnitsOf (x : DNode) (hx : okNode (2 ^ 47) x) : ACalls Try.prog 6 [.agg (cNode false false x)] (fun r => r = .val (.one (.bool true))) := by
  have nt : Try.f6.ntmps = 27 := rfl
  have rs : Try.f6.results = #[.tmp 2] := rfl
  refine ACalls.of_run (m := 400) mixed Try.func6 rfl rfl (Nat.le_of_ble_eq_true rfl) ?_
  simp only [nt, rs]
  clear nt rs
  (try refine am (h := ?_)); (try exact True.intro)
  first | refine CallK.one (szNode x 1048576 false false hx (by omega) (by omega)) (fun _ => amC) ?_ | refine CallE.one (szNode x 1048576 false false hx (by omega) (by omega)) (fun _ => amC) rfl ?_
  (try refine am (h := ?_)); (try exact True.intro)
  rcases less_cases 1048576 (zNode x) with ⟨hcx, e⟩ | ⟨hcx, e⟩
  · (try refine am (h := ?_)); (try simp only [e]); (try refine am (h := ?_)); (try exact True.intro)
    refine FinK.val1 ?_ ?_
    all_goals (try refine amF (h := ?_))
    all_goals (try exact True.intro)
  (try refine am (h := ?_)); (try simp only [e]); (try refine am (h := ?_)); (try exact True.intro)
  repeat' (first | (with_reducible refine And.intro ?_ ?_) | intro _)
  all_goals try (first | omega | rfl)
  have sx : zNode x ≤ 1048576 := by omega
  have hx2 : okNode (2 ^ 40) x := okNode_sz hx (by omega)
  first | refine CallK.one (toNode x false false hx2) (fun _ => amC) ?_ | refine CallE.one (toNode x false false hx2) (fun _ => amC) rfl ?_
  (try refine am (h := ?_)); (try exact True.intro)
  repeat' (first | (with_reducible refine And.intro ?_ ?_) | intro _)
  all_goals try (first | omega | rfl)
  first | refine CallK.one (specUnitsOf x _ _ hx (by omega)) (fun _ => amC) ?_ | refine CallE.one (specUnitsOf x _ _ hx (by omega)) (fun _ => amC) rfl ?_
  (try refine am (h := ?_)); (try exact True.intro)
  repeat' (first | (with_reducible refine And.intro ?_ ?_) | intro _)
  all_goals try (first | omega | rfl)
  first | refine CallK.one (toNode x false false hx2) (fun _ => amC) ?_ | refine CallE.one (toNode x false false hx2) (fun _ => amC) rfl ?_
  (try refine am (h := ?_)); (try exact True.intro)
  repeat' (first | (with_reducible refine And.intro ?_ ?_) | intro _)
  all_goals try (first | omega | rfl)
  first | refine CallK.one (implUnitsOf x _ _ hx (by omega)) (fun _ => amC) ?_ | refine CallE.one (implUnitsOf x _ _ hx (by omega)) (fun _ => amC) rfl ?_
  (try refine am (h := ?_)); (try exact True.intro)
  repeat' (first | (with_reducible refine And.intro ?_ ?_) | intro _)
  all_goals try (first | omega | rfl)
  first | refine CallK.one (toNode x false false hx2) (fun _ => amC) ?_ | refine CallE.one (toNode x false false hx2) (fun _ => amC) rfl ?_
  (try refine am (h := ?_)); (try exact True.intro)
  first | refine CallK.one (eqNode x x _ _ _ _ hx) (fun _ => amC) ?_ | refine CallE.one (eqNode x x _ _ _ _ hx) (fun _ => amC) rfl ?_
  (try refine am (h := ?_)); (try exact True.intro)
  repeat' (first | (with_reducible refine And.intro ?_ ?_) | intro _)
  all_goals try (first | omega | rfl)
  refine FinK.val1 ?_ ?_
  all_goals (try refine amF (h := ?_))
  all_goals (try exact True.intro)
end Go.AM
