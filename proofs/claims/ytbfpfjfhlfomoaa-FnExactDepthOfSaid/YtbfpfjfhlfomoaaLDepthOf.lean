/- Lemmas for the proof of this claim. -/
import Derived.Test.YtbfpfjfhlfomoaaUnits
namespace Go.AM
open Go Go.Proofs
set_option maxRecDepth 100000
set_option maxHeartbeats 8000000 in
theorem fnExactDepthOf (x : DTree) (hx : okTree (2 ^ 47) x) : ACalls Try.prog 11 [.agg (cTree false false x)] (fun r => r = .val (.one (.bool true))) := by
  have nt : Try.f11.ntmps = 27 := rfl
  have rs : Try.f11.results = #[.tmp 2] := rfl
  refine ACalls.of_run (m := 400) mixed Try.func11 rfl rfl (Nat.le_of_ble_eq_true rfl) ?_
  simp only [nt, rs]
  clear nt rs
  (try refine am (h := ?_)); (try exact True.intro)
  first | refine CallK.one (szTree x 1048576 false false hx (by omega) (by omega)) (fun _ => amC) ?_ | refine CallE.one (szTree x 1048576 false false hx (by omega) (by omega)) (fun _ => amC) rfl ?_
  (try refine am (h := ?_)); (try exact True.intro)
  rcases less_cases 1048576 (zTree x) with ⟨hcx, e⟩ | ⟨hcx, e⟩
  · (try refine am (h := ?_)); (try simp only [e]); (try refine am (h := ?_)); (try exact True.intro)
    refine FinK.val1 ?_ ?_
    all_goals (try refine amF (h := ?_))
    all_goals (try exact True.intro)
  (try refine am (h := ?_)); (try simp only [e]); (try refine am (h := ?_)); (try exact True.intro)
  repeat' (first | (with_reducible refine And.intro ?_ ?_) | intro _)
  all_goals try (first | omega | rfl)
  have sx : zTree x ≤ 1048576 := by omega
  have hx2 : okTree (2 ^ 40) x := okTree_sz hx (by omega)
  first | refine CallK.one (toTree x false false hx2) (fun _ => amC) ?_ | refine CallE.one (toTree x false false hx2) (fun _ => amC) rfl ?_
  (try refine am (h := ?_)); (try exact True.intro)
  repeat' (first | (with_reducible refine And.intro ?_ ?_) | intro _)
  all_goals try (first | omega | rfl)
  first | refine CallK.one (specDepthOf x _ _ hx) (fun _ => amC) ?_ | refine CallE.one (specDepthOf x _ _ hx) (fun _ => amC) rfl ?_
  (try refine am (h := ?_)); (try exact True.intro)
  repeat' (first | (with_reducible refine And.intro ?_ ?_) | intro _)
  all_goals try (first | omega | rfl)
  first | refine CallK.one (toTree x false false hx2) (fun _ => amC) ?_ | refine CallE.one (toTree x false false hx2) (fun _ => amC) rfl ?_
  (try refine am (h := ?_)); (try exact True.intro)
  repeat' (first | (with_reducible refine And.intro ?_ ?_) | intro _)
  all_goals try (first | omega | rfl)
  first | refine CallK.one (implDepthOf x _ _ hx) (fun _ => amC) ?_ | refine CallE.one (implDepthOf x _ _ hx) (fun _ => amC) rfl ?_
  (try refine am (h := ?_)); (try exact True.intro)
  repeat' (first | (with_reducible refine And.intro ?_ ?_) | intro _)
  all_goals try (first | omega | rfl)
  first | refine CallK.one (toTree x false false hx2) (fun _ => amC) ?_ | refine CallE.one (toTree x false false hx2) (fun _ => amC) rfl ?_
  (try refine am (h := ?_)); (try exact True.intro)
  first | refine CallK.one (eqTree x x _ _ _ _ hx) (fun _ => amC) ?_ | refine CallE.one (eqTree x x _ _ _ _ hx) (fun _ => amC) rfl ?_
  (try refine am (h := ?_)); (try exact True.intro)
  repeat' (first | (with_reducible refine And.intro ?_ ?_) | intro _)
  all_goals try (first | omega | rfl)
  refine FinK.val1 ?_ ?_
  all_goals (try refine amF (h := ?_))
  all_goals (try exact True.intro)
end Go.AM
