/- Lemmas for the proof of this claim. -/
import Derived.Test.YtbfpfjfhlfomoaaSame
namespace Go.AM
open Go Go.Proofs
set_option maxRecDepth 100000
set_option maxHeartbeats 8000000 in
theorem fnExactConfSame (x y : DConf) (hx : okConf (2 ^ 47) x) (hy : okConf (2 ^ 47) y) : ACalls Try.prog 14 [.agg (cConf false false x), .agg (cConf false false y)] (fun r => r = .val (.one (.bool true))) := by
  have nt : Try.f14.ntmps = 45 := rfl
  have rs : Try.f14.results = #[.tmp 4] := rfl
  refine ACalls.of_run (m := 400) mixed Try.func14 rfl rfl (Nat.le_of_ble_eq_true rfl) ?_
  simp only [nt, rs]
  clear nt rs
  (try refine am (h := ?_)); (try exact True.intro)
  first | refine CallK.one (szConf x 1048576 false false hx (by omega) (by omega)) (fun _ => amC) ?_ | refine CallE.one (szConf x 1048576 false false hx (by omega) (by omega)) (fun _ => amC) rfl ?_
  (try refine am (h := ?_)); (try exact True.intro)
  rcases less_cases 1048576 (zConf x) with ⟨hc, e⟩ | ⟨hc, e⟩
  · (try refine am (h := ?_)); (try simp only [e]); (try refine am (h := ?_)); (try exact True.intro)
    refine FinK.val1 ?_ ?_
    all_goals (try refine amF (h := ?_))
    all_goals (try exact True.intro)
  (try refine am (h := ?_)); (try simp only [e]); (try refine am (h := ?_)); (try exact True.intro)
  repeat' (first | (with_reducible refine And.intro ?_ ?_) | intro _)
  all_goals try (first | omega | rfl | assumption | exact And.left (by assumption) | exact And.right (by assumption) | exact And.left (And.right (by assumption)))
  first | refine CallK.one (szConf y (1048576 - (zConf x : Nat)) false false hy (by omega) (by omega)) (fun _ => amC) ?_ | refine CallE.one (szConf y (1048576 - (zConf x : Nat)) false false hy (by omega) (by omega)) (fun _ => amC) rfl ?_
  (try refine am (h := ?_)); (try exact True.intro)
  rcases less_cases (1048576 - (zConf x : Nat)) (zConf y) with ⟨hd, e⟩ | ⟨hd, e⟩
  · (try refine am (h := ?_)); (try simp only [e]); (try refine am (h := ?_)); (try exact True.intro)
    refine FinK.val1 ?_ ?_
    all_goals (try refine amF (h := ?_))
    all_goals (try exact True.intro)
  (try refine am (h := ?_)); (try simp only [e]); (try refine am (h := ?_)); (try exact True.intro)
  repeat' (first | (with_reducible refine And.intro ?_ ?_) | intro _)
  all_goals try (first | omega | rfl | assumption | exact And.left (by assumption) | exact And.right (by assumption) | exact And.left (And.right (by assumption)))
  have hx2 : okConf (2 ^ 40) x := okConf_sz hx (by omega)
  have hy2 : okConf (2 ^ 40) y := okConf_sz hy (by omega)
  first | refine CallK.one (toConf x false false hx2) (fun _ => amC) ?_ | refine CallE.one (toConf x false false hx2) (fun _ => amC) rfl ?_
  (try refine am (h := ?_)); (try exact True.intro)
  repeat' (first | (with_reducible refine And.intro ?_ ?_) | intro _)
  all_goals try (first | omega | rfl | assumption | exact And.left (by assumption) | exact And.right (by assumption) | exact And.left (And.right (by assumption)))
  first | refine CallK.one (toConf y false false hy2) (fun _ => amC) ?_ | refine CallE.one (toConf y false false hy2) (fun _ => amC) rfl ?_
  (try refine am (h := ?_)); (try exact True.intro)
  repeat' (first | (with_reducible refine And.intro ?_ ?_) | intro _)
  all_goals try (first | omega | rfl | assumption | exact And.left (by assumption) | exact And.right (by assumption) | exact And.left (And.right (by assumption)))
  first | refine CallK.one (specConfSame x y _ _ _ _ hx) (fun _ => amC) ?_ | refine CallE.one (specConfSame x y _ _ _ _ hx) (fun _ => amC) rfl ?_
  (try refine am (h := ?_)); (try exact True.intro)
  repeat' (first | (with_reducible refine And.intro ?_ ?_) | intro _)
  all_goals try (first | omega | rfl | assumption | exact And.left (by assumption) | exact And.right (by assumption) | exact And.left (And.right (by assumption)))
  first | refine CallK.one (toConf x false false hx2) (fun _ => amC) ?_ | refine CallE.one (toConf x false false hx2) (fun _ => amC) rfl ?_
  (try refine am (h := ?_)); (try exact True.intro)
  repeat' (first | (with_reducible refine And.intro ?_ ?_) | intro _)
  all_goals try (first | omega | rfl | assumption | exact And.left (by assumption) | exact And.right (by assumption) | exact And.left (And.right (by assumption)))
  first | refine CallK.one (toConf y false false hy2) (fun _ => amC) ?_ | refine CallE.one (toConf y false false hy2) (fun _ => amC) rfl ?_
  (try refine am (h := ?_)); (try exact True.intro)
  repeat' (first | (with_reducible refine And.intro ?_ ?_) | intro _)
  all_goals try (first | omega | rfl | assumption | exact And.left (by assumption) | exact And.right (by assumption) | exact And.left (And.right (by assumption)))
  first | refine CallK.one (implConfSame x y _ _ _ _ hx) (fun _ => amC) ?_ | refine CallE.one (implConfSame x y _ _ _ _ hx) (fun _ => amC) rfl ?_
  (try refine am (h := ?_)); (try exact True.intro)
  repeat' (first | (with_reducible refine And.intro ?_ ?_) | intro _)
  all_goals try (first | omega | rfl | assumption | exact And.left (by assumption) | exact And.right (by assumption) | exact And.left (And.right (by assumption)))
  first | refine CallK.one (toConf x false false hx2) (fun _ => amC) ?_ | refine CallE.one (toConf x false false hx2) (fun _ => amC) rfl ?_
  (try refine am (h := ?_)); (try exact True.intro)
  repeat' (first | (with_reducible refine And.intro ?_ ?_) | intro _)
  all_goals try (first | omega | rfl | assumption | exact And.left (by assumption) | exact And.right (by assumption) | exact And.left (And.right (by assumption)))
  first | refine CallK.one (eqConf x x _ _ _ _ hx) (fun _ => amC) ?_ | refine CallE.one (eqConf x x _ _ _ _ hx) (fun _ => amC) rfl ?_
  (try refine am (h := ?_)); (try exact True.intro)
  repeat' (first | (with_reducible refine And.intro ?_ ?_) | intro _)
  all_goals try (first | omega | rfl | assumption | exact And.left (by assumption) | exact And.right (by assumption) | exact And.left (And.right (by assumption)))
  first | refine CallK.one (toConf y false false hy2) (fun _ => amC) ?_ | refine CallE.one (toConf y false false hy2) (fun _ => amC) rfl ?_
  (try refine am (h := ?_)); (try exact True.intro)
  repeat' (first | (with_reducible refine And.intro ?_ ?_) | intro _)
  all_goals try (first | omega | rfl | assumption | exact And.left (by assumption) | exact And.right (by assumption) | exact And.left (And.right (by assumption)))
  first | refine CallK.one (eqConf y y _ _ _ _ hy) (fun _ => amC) ?_ | refine CallE.one (eqConf y y _ _ _ _ hy) (fun _ => amC) rfl ?_
  (try refine am (h := ?_)); (try exact True.intro)
  repeat' (first | (with_reducible refine And.intro ?_ ?_) | intro _)
  all_goals try (first | omega | rfl | assumption | exact And.left (by assumption) | exact And.right (by assumption) | exact And.left (And.right (by assumption)))
  refine FinK.val1 ?_ ?_
  all_goals (try refine amF (h := ?_))
  all_goals (try exact True.intro)
end Go.AM
