/- Lemmas for the proof of this claim. -/
import Derived.Test.YtbfpfjfhlfomoaaSame
namespace Go.AM
open Go Go.Proofs
set_option maxRecDepth 100000
set_option maxHeartbeats 8000000 in
theorem fnExactScoreSame (x y : DScore) (hx : okScore (2 ^ 47) x) (hy : okScore (2 ^ 47) y) : ACalls Try.prog 5 [.agg (cScore false false x), .agg (cScore false false y)] (fun r => r = .val (.one (.bool true))) := by
  have nt : Try.f5.ntmps = 45 := rfl
  have rs : Try.f5.results = #[.tmp 4] := rfl
  refine ACalls.of_run (m := 400) mixed Try.func5 rfl rfl (Nat.le_of_ble_eq_true rfl) ?_
  simp only [nt, rs]
  clear nt rs
  (try refine am (h := ?_)); (try exact True.intro)
  first | refine CallK.one (szScore x 1048576 false false hx (by omega) (by omega)) (fun _ => amC) ?_ | refine CallE.one (szScore x 1048576 false false hx (by omega) (by omega)) (fun _ => amC) rfl ?_
  (try refine am (h := ?_)); (try exact True.intro)
  rcases less_cases 1048576 (zScore x) with ⟨hc, e⟩ | ⟨hc, e⟩
  · (try refine am (h := ?_)); (try simp only [e]); (try refine am (h := ?_)); (try exact True.intro)
    refine FinK.val1 ?_ ?_
    all_goals (try refine amF (h := ?_))
    all_goals (try exact True.intro)
  (try refine am (h := ?_)); (try simp only [e]); (try refine am (h := ?_)); (try exact True.intro)
  repeat' (first | (with_reducible refine And.intro ?_ ?_) | intro _)
  all_goals try (first | omega | rfl | assumption | exact And.left (by assumption) | exact And.right (by assumption) | exact And.left (And.right (by assumption)))
  first | refine CallK.one (szScore y (1048576 - (zScore x : Nat)) false false hy (by omega) (by omega)) (fun _ => amC) ?_ | refine CallE.one (szScore y (1048576 - (zScore x : Nat)) false false hy (by omega) (by omega)) (fun _ => amC) rfl ?_
  (try refine am (h := ?_)); (try exact True.intro)
  rcases less_cases (1048576 - (zScore x : Nat)) (zScore y) with ⟨hd, e⟩ | ⟨hd, e⟩
  · (try refine am (h := ?_)); (try simp only [e]); (try refine am (h := ?_)); (try exact True.intro)
    refine FinK.val1 ?_ ?_
    all_goals (try refine amF (h := ?_))
    all_goals (try exact True.intro)
  (try refine am (h := ?_)); (try simp only [e]); (try refine am (h := ?_)); (try exact True.intro)
  repeat' (first | (with_reducible refine And.intro ?_ ?_) | intro _)
  all_goals try (first | omega | rfl | assumption | exact And.left (by assumption) | exact And.right (by assumption) | exact And.left (And.right (by assumption)))
  have hx2 : okScore (2 ^ 40) x := okScore_sz hx (by omega)
  have hy2 : okScore (2 ^ 40) y := okScore_sz hy (by omega)
  first | refine CallK.one (toScore x false false hx2) (fun _ => amC) ?_ | refine CallE.one (toScore x false false hx2) (fun _ => amC) rfl ?_
  (try refine am (h := ?_)); (try exact True.intro)
  repeat' (first | (with_reducible refine And.intro ?_ ?_) | intro _)
  all_goals try (first | omega | rfl | assumption | exact And.left (by assumption) | exact And.right (by assumption) | exact And.left (And.right (by assumption)))
  first | refine CallK.one (toScore y false false hy2) (fun _ => amC) ?_ | refine CallE.one (toScore y false false hy2) (fun _ => amC) rfl ?_
  (try refine am (h := ?_)); (try exact True.intro)
  repeat' (first | (with_reducible refine And.intro ?_ ?_) | intro _)
  all_goals try (first | omega | rfl | assumption | exact And.left (by assumption) | exact And.right (by assumption) | exact And.left (And.right (by assumption)))
  first | refine CallK.one (specScoreSame x y _ _ _ _ hx) (fun _ => amC) ?_ | refine CallE.one (specScoreSame x y _ _ _ _ hx) (fun _ => amC) rfl ?_
  (try refine am (h := ?_)); (try exact True.intro)
  repeat' (first | (with_reducible refine And.intro ?_ ?_) | intro _)
  all_goals try (first | omega | rfl | assumption | exact And.left (by assumption) | exact And.right (by assumption) | exact And.left (And.right (by assumption)))
  first | refine CallK.one (toScore x false false hx2) (fun _ => amC) ?_ | refine CallE.one (toScore x false false hx2) (fun _ => amC) rfl ?_
  (try refine am (h := ?_)); (try exact True.intro)
  repeat' (first | (with_reducible refine And.intro ?_ ?_) | intro _)
  all_goals try (first | omega | rfl | assumption | exact And.left (by assumption) | exact And.right (by assumption) | exact And.left (And.right (by assumption)))
  first | refine CallK.one (toScore y false false hy2) (fun _ => amC) ?_ | refine CallE.one (toScore y false false hy2) (fun _ => amC) rfl ?_
  (try refine am (h := ?_)); (try exact True.intro)
  repeat' (first | (with_reducible refine And.intro ?_ ?_) | intro _)
  all_goals try (first | omega | rfl | assumption | exact And.left (by assumption) | exact And.right (by assumption) | exact And.left (And.right (by assumption)))
  first | refine CallK.one (implScoreSame x y _ _ _ _ hx) (fun _ => amC) ?_ | refine CallE.one (implScoreSame x y _ _ _ _ hx) (fun _ => amC) rfl ?_
  (try refine am (h := ?_)); (try exact True.intro)
  repeat' (first | (with_reducible refine And.intro ?_ ?_) | intro _)
  all_goals try (first | omega | rfl | assumption | exact And.left (by assumption) | exact And.right (by assumption) | exact And.left (And.right (by assumption)))
  first | refine CallK.one (toScore x false false hx2) (fun _ => amC) ?_ | refine CallE.one (toScore x false false hx2) (fun _ => amC) rfl ?_
  (try refine am (h := ?_)); (try exact True.intro)
  repeat' (first | (with_reducible refine And.intro ?_ ?_) | intro _)
  all_goals try (first | omega | rfl | assumption | exact And.left (by assumption) | exact And.right (by assumption) | exact And.left (And.right (by assumption)))
  first | refine CallK.one (eqScore x x _ _ _ _ hx) (fun _ => amC) ?_ | refine CallE.one (eqScore x x _ _ _ _ hx) (fun _ => amC) rfl ?_
  (try refine am (h := ?_)); (try exact True.intro)
  repeat' (first | (with_reducible refine And.intro ?_ ?_) | intro _)
  all_goals try (first | omega | rfl | assumption | exact And.left (by assumption) | exact And.right (by assumption) | exact And.left (And.right (by assumption)))
  first | refine CallK.one (toScore y false false hy2) (fun _ => amC) ?_ | refine CallE.one (toScore y false false hy2) (fun _ => amC) rfl ?_
  (try refine am (h := ?_)); (try exact True.intro)
  repeat' (first | (with_reducible refine And.intro ?_ ?_) | intro _)
  all_goals try (first | omega | rfl | assumption | exact And.left (by assumption) | exact And.right (by assumption) | exact And.left (And.right (by assumption)))
  first | refine CallK.one (eqScore y y _ _ _ _ hy) (fun _ => amC) ?_ | refine CallE.one (eqScore y y _ _ _ _ hy) (fun _ => amC) rfl ?_
  (try refine am (h := ?_)); (try exact True.intro)
  repeat' (first | (with_reducible refine And.intro ?_ ?_) | intro _)
  all_goals try (first | omega | rfl | assumption | exact And.left (by assumption) | exact And.right (by assumption) | exact And.left (And.right (by assumption)))
  refine FinK.val1 ?_ ?_
  all_goals (try refine amF (h := ?_))
  all_goals (try exact True.intro)
end Go.AM
