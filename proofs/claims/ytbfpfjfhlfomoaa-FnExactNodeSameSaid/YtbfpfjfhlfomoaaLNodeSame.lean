/- Lemmas for the proof of this claim. -/
import Derived.Test.YtbfpfjfhlfomoaaSame
namespace Go.AM
open Go Go.Proofs
set_option maxRecDepth 100000
set_option maxHeartbeats 8000000 in
theorem fnExactNodeSame (x y : DNode) (hx : okNode (2 ^ 47) x) (hy : okNode (2 ^ 47) y) : ACalls Try.prog 8 [.agg (cNode false false x), .agg (cNode false false y)] (fun r => r = .val (.one (.bool true))) := by
  have nt : Try.f8.ntmps = 45 := rfl
  have rs : Try.f8.results = #[.tmp 4] := rfl
  refine ACalls.of_run (m := 400) mixed Try.func8 rfl rfl (Nat.le_of_ble_eq_true rfl) ?_
  simp only [nt, rs]
  clear nt rs
  (try refine am (h := ?_)); (try exact True.intro)
  first | refine CallK.one (szNode x 1048576 false false hx (by omega) (by omega)) (fun _ => amC) ?_ | refine CallE.one (szNode x 1048576 false false hx (by omega) (by omega)) (fun _ => amC) rfl ?_
  (try refine am (h := ?_)); (try exact True.intro)
  rcases less_cases 1048576 (zNode x) with ⟨hc, e⟩ | ⟨hc, e⟩
  · (try refine am (h := ?_)); (try simp only [e]); (try refine am (h := ?_)); (try exact True.intro)
    refine FinK.val1 ?_ ?_
    all_goals (try refine amF (h := ?_))
    all_goals (try exact True.intro)
  (try refine am (h := ?_)); (try simp only [e]); (try refine am (h := ?_)); (try exact True.intro)
  repeat' (first | (with_reducible refine And.intro ?_ ?_) | intro _)
  all_goals try (first | omega | rfl)
  first | refine CallK.one (szNode y (1048576 - (zNode x : Nat)) false false hy (by omega) (by omega)) (fun _ => amC) ?_ | refine CallE.one (szNode y (1048576 - (zNode x : Nat)) false false hy (by omega) (by omega)) (fun _ => amC) rfl ?_
  (try refine am (h := ?_)); (try exact True.intro)
  rcases less_cases (1048576 - (zNode x : Nat)) (zNode y) with ⟨hd, e⟩ | ⟨hd, e⟩
  · (try refine am (h := ?_)); (try simp only [e]); (try refine am (h := ?_)); (try exact True.intro)
    refine FinK.val1 ?_ ?_
    all_goals (try refine amF (h := ?_))
    all_goals (try exact True.intro)
  (try refine am (h := ?_)); (try simp only [e]); (try refine am (h := ?_)); (try exact True.intro)
  repeat' (first | (with_reducible refine And.intro ?_ ?_) | intro _)
  all_goals try (first | omega | rfl)
  have hx2 : okNode (2 ^ 40) x := okNode_sz hx (by omega)
  have hy2 : okNode (2 ^ 40) y := okNode_sz hy (by omega)
  first | refine CallK.one (toNode x false false hx2) (fun _ => amC) ?_ | refine CallE.one (toNode x false false hx2) (fun _ => amC) rfl ?_
  (try refine am (h := ?_)); (try exact True.intro)
  repeat' (first | (with_reducible refine And.intro ?_ ?_) | intro _)
  all_goals try (first | omega | rfl)
  first | refine CallK.one (toNode y false false hy2) (fun _ => amC) ?_ | refine CallE.one (toNode y false false hy2) (fun _ => amC) rfl ?_
  (try refine am (h := ?_)); (try exact True.intro)
  repeat' (first | (with_reducible refine And.intro ?_ ?_) | intro _)
  all_goals try (first | omega | rfl)
  first | refine CallK.one (specNodeSame x y _ _ _ _ hx) (fun _ => amC) ?_ | refine CallE.one (specNodeSame x y _ _ _ _ hx) (fun _ => amC) rfl ?_
  (try refine am (h := ?_)); (try exact True.intro)
  repeat' (first | (with_reducible refine And.intro ?_ ?_) | intro _)
  all_goals try (first | omega | rfl)
  first | refine CallK.one (toNode x false false hx2) (fun _ => amC) ?_ | refine CallE.one (toNode x false false hx2) (fun _ => amC) rfl ?_
  (try refine am (h := ?_)); (try exact True.intro)
  repeat' (first | (with_reducible refine And.intro ?_ ?_) | intro _)
  all_goals try (first | omega | rfl)
  first | refine CallK.one (toNode y false false hy2) (fun _ => amC) ?_ | refine CallE.one (toNode y false false hy2) (fun _ => amC) rfl ?_
  (try refine am (h := ?_)); (try exact True.intro)
  repeat' (first | (with_reducible refine And.intro ?_ ?_) | intro _)
  all_goals try (first | omega | rfl)
  first | refine CallK.one (implNodeSame x y _ _ _ _ hx) (fun _ => amC) ?_ | refine CallE.one (implNodeSame x y _ _ _ _ hx) (fun _ => amC) rfl ?_
  (try refine am (h := ?_)); (try exact True.intro)
  repeat' (first | (with_reducible refine And.intro ?_ ?_) | intro _)
  all_goals try (first | omega | rfl)
  first | refine CallK.one (toNode x false false hx2) (fun _ => amC) ?_ | refine CallE.one (toNode x false false hx2) (fun _ => amC) rfl ?_
  (try refine am (h := ?_)); (try exact True.intro)
  repeat' (first | (with_reducible refine And.intro ?_ ?_) | intro _)
  all_goals try (first | omega | rfl)
  first | refine CallK.one (eqNode x x _ _ _ _ hx) (fun _ => amC) ?_ | refine CallE.one (eqNode x x _ _ _ _ hx) (fun _ => amC) rfl ?_
  (try refine am (h := ?_)); (try exact True.intro)
  repeat' (first | (with_reducible refine And.intro ?_ ?_) | intro _)
  all_goals try (first | omega | rfl)
  first | refine CallK.one (toNode y false false hy2) (fun _ => amC) ?_ | refine CallE.one (toNode y false false hy2) (fun _ => amC) rfl ?_
  (try refine am (h := ?_)); (try exact True.intro)
  repeat' (first | (with_reducible refine And.intro ?_ ?_) | intro _)
  all_goals try (first | omega | rfl)
  first | refine CallK.one (eqNode y y _ _ _ _ hy) (fun _ => amC) ?_ | refine CallE.one (eqNode y y _ _ _ _ hy) (fun _ => amC) rfl ?_
  (try refine am (h := ?_)); (try exact True.intro)
  repeat' (first | (with_reducible refine And.intro ?_ ?_) | intro _)
  all_goals try (first | omega | rfl)
  refine FinK.val1 ?_ ?_
  all_goals (try refine amF (h := ?_))
  all_goals (try exact True.intro)
end Go.AM
