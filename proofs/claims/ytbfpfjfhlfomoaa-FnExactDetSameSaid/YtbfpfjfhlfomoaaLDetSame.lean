/- Lemmas for the proof of this claim. -/
import Derived.Test.YtbfpfjfhlfomoaaSame
namespace Go.AM
open Go Go.Proofs
set_option maxRecDepth 100000
set_option maxHeartbeats 8000000 in
theorem fnExactDetSame (x y : DDet) (hx : okDet (2 ^ 47) x) (hy : okDet (2 ^ 47) y) : ACalls Try.prog 4 [.agg (cDet false false x), .agg (cDet false false y)] (fun r => r = .val (.one (.bool true))) := by
  have nt : Try.f4.ntmps = 45 := rfl
  have rs : Try.f4.results = #[.tmp 4] := rfl
  refine ACalls.of_run (m := 400) mixed Try.func4 rfl rfl (Nat.le_of_ble_eq_true rfl) ?_
  simp only [nt, rs]
  clear nt rs
  (try refine am (h := ?_)); (try exact True.intro)
  first | refine CallK.one (szDet x 1048576 false false hx (by omega) (by omega)) (fun _ => amC) ?_ | refine CallE.one (szDet x 1048576 false false hx (by omega) (by omega)) (fun _ => amC) rfl ?_
  (try refine am (h := ?_)); (try exact True.intro)
  rcases less_cases 1048576 (zDet x) with ⟨hc, e⟩ | ⟨hc, e⟩
  · (try refine am (h := ?_)); (try simp only [e]); (try refine am (h := ?_)); (try exact True.intro)
    refine FinK.val1 ?_ ?_
    all_goals (try refine amF (h := ?_))
    all_goals (try exact True.intro)
  (try refine am (h := ?_)); (try simp only [e]); (try refine am (h := ?_)); (try exact True.intro)
  repeat' (first | (with_reducible refine And.intro ?_ ?_) | intro _)
  all_goals try (first | omega | rfl)
  first | refine CallK.one (szDet y (1048576 - (zDet x : Nat)) false false hy (by omega) (by omega)) (fun _ => amC) ?_ | refine CallE.one (szDet y (1048576 - (zDet x : Nat)) false false hy (by omega) (by omega)) (fun _ => amC) rfl ?_
  (try refine am (h := ?_)); (try exact True.intro)
  rcases less_cases (1048576 - (zDet x : Nat)) (zDet y) with ⟨hd, e⟩ | ⟨hd, e⟩
  · (try refine am (h := ?_)); (try simp only [e]); (try refine am (h := ?_)); (try exact True.intro)
    refine FinK.val1 ?_ ?_
    all_goals (try refine amF (h := ?_))
    all_goals (try exact True.intro)
  (try refine am (h := ?_)); (try simp only [e]); (try refine am (h := ?_)); (try exact True.intro)
  repeat' (first | (with_reducible refine And.intro ?_ ?_) | intro _)
  all_goals try (first | omega | rfl)
  have hx2 : okDet (2 ^ 40) x := okDet_sz hx (by omega)
  have hy2 : okDet (2 ^ 40) y := okDet_sz hy (by omega)
  first | refine CallK.one (toDet x false false hx2) (fun _ => amC) ?_ | refine CallE.one (toDet x false false hx2) (fun _ => amC) rfl ?_
  (try refine am (h := ?_)); (try exact True.intro)
  repeat' (first | (with_reducible refine And.intro ?_ ?_) | intro _)
  all_goals try (first | omega | rfl)
  first | refine CallK.one (toDet y false false hy2) (fun _ => amC) ?_ | refine CallE.one (toDet y false false hy2) (fun _ => amC) rfl ?_
  (try refine am (h := ?_)); (try exact True.intro)
  repeat' (first | (with_reducible refine And.intro ?_ ?_) | intro _)
  all_goals try (first | omega | rfl)
  first | refine CallK.one (specDetSame x y _ _ _ _ hx) (fun _ => amC) ?_ | refine CallE.one (specDetSame x y _ _ _ _ hx) (fun _ => amC) rfl ?_
  (try refine am (h := ?_)); (try exact True.intro)
  repeat' (first | (with_reducible refine And.intro ?_ ?_) | intro _)
  all_goals try (first | omega | rfl)
  first | refine CallK.one (toDet x false false hx2) (fun _ => amC) ?_ | refine CallE.one (toDet x false false hx2) (fun _ => amC) rfl ?_
  (try refine am (h := ?_)); (try exact True.intro)
  repeat' (first | (with_reducible refine And.intro ?_ ?_) | intro _)
  all_goals try (first | omega | rfl)
  first | refine CallK.one (toDet y false false hy2) (fun _ => amC) ?_ | refine CallE.one (toDet y false false hy2) (fun _ => amC) rfl ?_
  (try refine am (h := ?_)); (try exact True.intro)
  repeat' (first | (with_reducible refine And.intro ?_ ?_) | intro _)
  all_goals try (first | omega | rfl)
  first | refine CallK.one (implDetSame x y _ _ _ _ hx) (fun _ => amC) ?_ | refine CallE.one (implDetSame x y _ _ _ _ hx) (fun _ => amC) rfl ?_
  (try refine am (h := ?_)); (try exact True.intro)
  repeat' (first | (with_reducible refine And.intro ?_ ?_) | intro _)
  all_goals try (first | omega | rfl)
  first | refine CallK.one (toDet x false false hx2) (fun _ => amC) ?_ | refine CallE.one (toDet x false false hx2) (fun _ => amC) rfl ?_
  (try refine am (h := ?_)); (try exact True.intro)
  repeat' (first | (with_reducible refine And.intro ?_ ?_) | intro _)
  all_goals try (first | omega | rfl)
  first | refine CallK.one (eqDet x x _ _ _ _ hx) (fun _ => amC) ?_ | refine CallE.one (eqDet x x _ _ _ _ hx) (fun _ => amC) rfl ?_
  (try refine am (h := ?_)); (try exact True.intro)
  repeat' (first | (with_reducible refine And.intro ?_ ?_) | intro _)
  all_goals try (first | omega | rfl)
  first | refine CallK.one (toDet y false false hy2) (fun _ => amC) ?_ | refine CallE.one (toDet y false false hy2) (fun _ => amC) rfl ?_
  (try refine am (h := ?_)); (try exact True.intro)
  repeat' (first | (with_reducible refine And.intro ?_ ?_) | intro _)
  all_goals try (first | omega | rfl)
  first | refine CallK.one (eqDet y y _ _ _ _ hy) (fun _ => amC) ?_ | refine CallE.one (eqDet y y _ _ _ _ hy) (fun _ => amC) rfl ?_
  (try refine am (h := ?_)); (try exact True.intro)
  repeat' (first | (with_reducible refine And.intro ?_ ?_) | intro _)
  all_goals try (first | omega | rfl)
  refine FinK.val1 ?_ ?_
  all_goals (try refine amF (h := ?_))
  all_goals (try exact True.intro)
end Go.AM
