/- Lemmas for the proof of this claim. -/
import Derived.Test.YtbfofhfeghfpoaaSco
namespace Go.AM
open Go Go.Proofs
set_option maxRecDepth 100000
set_option maxHeartbeats 8000000 in
theorem fnExactScoreOk (n : Int) (x : DScore) (hn : inK .i64 n) (hx : okScore (2 ^ 47) x) : ACalls Try.prog 5 [.one (.int .i64 n), .agg (cScore false false x)] (fun r => r = .val (.one (.bool true))) := by
  have nt : Try.f5.ntmps = 31 := rfl
  have rs : Try.f5.results = #[.tmp 4] := rfl
  refine ACalls.of_run (m := 400) mixed Try.func5 rfl rfl (Nat.le_of_ble_eq_true rfl) ?_
  simp only [nt, rs]
  clear nt rs
  (try refine am (h := ?_)); (try with_reducible apply True.intro)
  first | refine CallK.one (szScore x 1048576 false false hx (by omega) (by omega)) (fun _ => amC) ?_ | refine CallE.one (szScore x 1048576 false false hx (by omega) (by omega)) (fun _ => amC) rfl ?_ | refine CallG.one rfl (fun hg => szScore x 1048576 false false hx (by omega) (by omega)) ?_ | refine CallEG.one rfl rfl (fun hg => szScore x 1048576 false false hx (by omega) (by omega)) ?_ | refine CallCE.one (szScore x 1048576 false false hx (by omega) (by omega)) (fun _ => amC) rfl ?_
  (try refine am (h := ?_)); (try with_reducible apply True.intro)
  rcases less_cases 1048576 (zScore x) with ⟨hcx, e⟩ | ⟨hcx, e⟩
  · (try refine am (h := ?_)); (try simp only [e]); (try refine am (h := ?_)); (try with_reducible apply True.intro)
    refine FinK.val1 ?_ ?_
    all_goals (try refine amF (h := ?_))
    all_goals (try with_reducible apply True.intro)
  (try refine am (h := ?_)); (try simp only [e]); (try refine am (h := ?_)); (try with_reducible apply True.intro)
  repeat' (first | (with_reducible refine And.intro ?_ ?_) | (with_reducible intro _))
  all_goals try (first | omega | with_reducible rfl | ((with_reducible refine eqId ?_); exact rfl) | with_reducible (first | assumption | exact pl ‹_› | exact pr ‹_› | exact plr ‹_› | exact pll ‹_› | exact prl ‹_› | exact plll ‹_› | exact prll ‹_›))
  have sx : zScore x ≤ 1048576 := by omega
  have hx2 : okScore (2 ^ 40) x := okScore_sz hx (by omega)
  first | refine CallK.one (toScore x false false hx2) (fun _ => amC) ?_ | refine CallE.one (toScore x false false hx2) (fun _ => amC) rfl ?_ | refine CallG.one rfl (fun hg => toScore x false false hx2) ?_ | refine CallEG.one rfl rfl (fun hg => toScore x false false hx2) ?_ | refine CallCE.one (toScore x false false hx2) (fun _ => amC) rfl ?_
  (try refine am (h := ?_)); (try with_reducible apply True.intro)
  repeat' (first | (with_reducible refine And.intro ?_ ?_) | (with_reducible intro _))
  all_goals try (first | omega | with_reducible rfl | ((with_reducible refine eqId ?_); exact rfl) | with_reducible (first | assumption | exact pl ‹_› | exact pr ‹_› | exact plr ‹_› | exact pll ‹_› | exact prl ‹_› | exact plll ‹_› | exact prll ‹_›))
  first | refine CallK.one (specScoreOk n x _ _ hx) (fun _ => amC) ?_ | refine CallE.one (specScoreOk n x _ _ hx) (fun _ => amC) rfl ?_ | refine CallG.one rfl (fun hg => specScoreOk n x _ _ hx) ?_ | refine CallEG.one rfl rfl (fun hg => specScoreOk n x _ _ hx) ?_ | refine CallCE.one (specScoreOk n x _ _ hx) (fun _ => amC) rfl ?_
  (try refine am (h := ?_)); (try with_reducible apply True.intro)
  repeat' (first | (with_reducible refine And.intro ?_ ?_) | (with_reducible intro _))
  all_goals try (first | omega | with_reducible rfl | ((with_reducible refine eqId ?_); exact rfl) | with_reducible (first | assumption | exact pl ‹_› | exact pr ‹_› | exact plr ‹_› | exact pll ‹_› | exact prl ‹_› | exact plll ‹_› | exact prll ‹_›))
  first | refine CallK.one (toScore x false false hx2) (fun _ => amC) ?_ | refine CallE.one (toScore x false false hx2) (fun _ => amC) rfl ?_ | refine CallG.one rfl (fun hg => toScore x false false hx2) ?_ | refine CallEG.one rfl rfl (fun hg => toScore x false false hx2) ?_ | refine CallCE.one (toScore x false false hx2) (fun _ => amC) rfl ?_
  (try refine am (h := ?_)); (try with_reducible apply True.intro)
  repeat' (first | (with_reducible refine And.intro ?_ ?_) | (with_reducible intro _))
  all_goals try (first | omega | with_reducible rfl | ((with_reducible refine eqId ?_); exact rfl) | with_reducible (first | assumption | exact pl ‹_› | exact pr ‹_› | exact plr ‹_› | exact pll ‹_› | exact prl ‹_› | exact plll ‹_› | exact prll ‹_›))
  first | refine CallK.one (implScoreOk n x _ _ hx) (fun _ => amC) ?_ | refine CallE.one (implScoreOk n x _ _ hx) (fun _ => amC) rfl ?_ | refine CallG.one rfl (fun hg => implScoreOk n x _ _ hx) ?_ | refine CallEG.one rfl rfl (fun hg => implScoreOk n x _ _ hx) ?_ | refine CallCE.one (implScoreOk n x _ _ hx) (fun _ => amC) rfl ?_
  (try refine am (h := ?_)); (try with_reducible apply True.intro)
  repeat' (first | (with_reducible refine And.intro ?_ ?_) | (with_reducible intro _))
  all_goals try (first | omega | with_reducible rfl | ((with_reducible refine eqId ?_); exact rfl) | with_reducible (first | assumption | exact pl ‹_› | exact pr ‹_› | exact plr ‹_› | exact pll ‹_› | exact prl ‹_› | exact plll ‹_› | exact prll ‹_›))
  first | refine CallK.one (toScore x false false hx2) (fun _ => amC) ?_ | refine CallE.one (toScore x false false hx2) (fun _ => amC) rfl ?_ | refine CallG.one rfl (fun hg => toScore x false false hx2) ?_ | refine CallEG.one rfl rfl (fun hg => toScore x false false hx2) ?_ | refine CallCE.one (toScore x false false hx2) (fun _ => amC) rfl ?_
  (try refine am (h := ?_)); (try with_reducible apply True.intro)
  first | refine CallK.one (eqScore x x _ _ _ _ hx) (fun _ => amC) ?_ | refine CallE.one (eqScore x x _ _ _ _ hx) (fun _ => amC) rfl ?_ | refine CallG.one rfl (fun hg => eqScore x x _ _ _ _ hx) ?_ | refine CallEG.one rfl rfl (fun hg => eqScore x x _ _ _ _ hx) ?_ | refine CallCE.one (eqScore x x _ _ _ _ hx) (fun _ => amC) rfl ?_
  (try refine am (h := ?_)); (try with_reducible apply True.intro)
  repeat' (first | (with_reducible refine And.intro ?_ ?_) | (with_reducible intro _))
  all_goals try (first | omega | with_reducible rfl | ((with_reducible refine eqId ?_); exact rfl) | with_reducible (first | assumption | exact pl ‹_› | exact pr ‹_› | exact plr ‹_› | exact pll ‹_› | exact prl ‹_› | exact plll ‹_› | exact prll ‹_›))
  refine FinK.val1 ?_ ?_
  all_goals (try refine amF (h := ?_))
  all_goals (try with_reducible apply True.intro)
end Go.AM
