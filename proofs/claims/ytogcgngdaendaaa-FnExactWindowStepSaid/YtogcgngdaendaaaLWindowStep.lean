/- Lemmas for the proof of this claim. -/
import Derived.Test.YtogcgngdaendaaaWinc
import Derived.Test.YtogcgngdaendaaaWlib
import Derived.Test.YtogcgngdaendaaaMrk2
namespace Go.AM
open Go Go.Proofs
set_option maxRecDepth 100000
set_option maxHeartbeats 8000000 in
theorem fnExactWindowStep (x : List (List Int)) (b : Int) (q : Int) (hx : okL (2 ^ 47) x) (hb : inK .i64 b) (hq : inK .i64 q) : ACalls Try.prog 8 [.agg [aL false false x], .one (.int .i64 b), .one (.int .i64 q)] (fun r => r = .val (.one (.bool true))) := by
  have nt : Try.f8.ntmps = 127 := rfl
  have rs : Try.f8.results = #[.tmp 6] := rfl
  refine ACalls.of_run (m := 400) mixed Try.func8 rfl rfl (Nat.le_of_ble_eq_true rfl) ?_
  simp only [nt, rs]
  clear nt rs
  (try refine am (h := ?_)); (try with_reducible apply True.intro)
  first | refine CallK.one (szWindow x 1048576 false false hx (by omega) (by omega)) (fun _ => amC) ?_ | refine CallE.one (szWindow x 1048576 false false hx (by omega) (by omega)) (fun _ => amC) rfl ?_ | refine CallG.one rfl (fun hg => szWindow x 1048576 false false hx (by omega) (by omega)) ?_ | refine CallEG.one rfl rfl (fun hg => szWindow x 1048576 false false hx (by omega) (by omega)) ?_
  (try refine am (h := ?_)); (try with_reducible apply True.intro)
  rcases less_cases 1048576 (szW x) with ⟨hcx, e⟩ | ⟨hcx, e⟩
  · (try refine am (h := ?_)); (try simp only [e]); (try refine am (h := ?_)); (try with_reducible apply True.intro)
    refine FinK.val1 ?_ ?_
    all_goals (try refine amF (h := ?_))
    all_goals (try with_reducible apply True.intro)
  (try refine am (h := ?_)); (try simp only [e]); (try refine am (h := ?_)); (try with_reducible apply True.intro)
  repeat' (first | (with_reducible refine And.intro ?_ ?_) | (with_reducible intro _))
  all_goals try (first | omega | with_reducible rfl | ((with_reducible refine eqId ?_); exact rfl) | with_reducible (first | assumption | exact pl ‹_› | exact pr ‹_› | exact plr ‹_› | exact pll ‹_› | exact prl ‹_› | exact plll ‹_› | exact prll ‹_›))
  have sx : szW x ≤ 1048576 := by omega
  have hx2 : okL (2 ^ 40) x := okL_sz hx (by omega)
  have fx : szW x = x.length + tot x := rfl
  have hr : okL (2 ^ 47) (wsWin x b q) := okL47 (wsWin_ok hx2)
  have ht := wsWin_tot (l := x) (b := b) (k := q)
  first | refine CallK.one (toWindow x false false hx2) (fun _ => amC) ?_ | refine CallE.one (toWindow x false false hx2) (fun _ => amC) rfl ?_ | refine CallG.one rfl (fun hg => toWindow x false false hx2) ?_ | refine CallEG.one rfl rfl (fun hg => toWindow x false false hx2) ?_
  (try refine am (h := ?_)); (try with_reducible apply True.intro)
  repeat' (first | (with_reducible refine And.intro ?_ ?_) | (with_reducible intro _))
  all_goals try (first | omega | with_reducible rfl | ((with_reducible refine eqId ?_); exact rfl) | with_reducible (first | assumption | exact pl ‹_› | exact pr ‹_› | exact plr ‹_› | exact pll ‹_› | exact prl ‹_› | exact plll ‹_› | exact prll ‹_›))
  first | refine CallK.one (specWindowStep x b q _ _ hx2 hb hq) (fun _ => amC) ?_ | refine CallE.one (specWindowStep x b q _ _ hx2 hb hq) (fun _ => amC) rfl ?_ | refine CallG.one rfl (fun hg => specWindowStep x b q _ _ hx2 hb hq) ?_ | refine CallEG.one rfl rfl (fun hg => specWindowStep x b q _ _ hx2 hb hq) ?_
  (try refine am (h := ?_)); (try with_reducible apply True.intro)
  repeat' (first | (with_reducible refine And.intro ?_ ?_) | (with_reducible intro _))
  all_goals try (first | omega | with_reducible rfl | ((with_reducible refine eqId ?_); exact rfl) | with_reducible (first | assumption | exact pl ‹_› | exact pr ‹_› | exact plr ‹_› | exact pll ‹_› | exact prl ‹_› | exact plll ‹_› | exact prll ‹_›))
  first | refine CallK.one (toWindow x false false hx2) (fun _ => amC) ?_ | refine CallE.one (toWindow x false false hx2) (fun _ => amC) rfl ?_ | refine CallG.one rfl (fun hg => toWindow x false false hx2) ?_ | refine CallEG.one rfl rfl (fun hg => toWindow x false false hx2) ?_
  (try refine am (h := ?_)); (try with_reducible apply True.intro)
  repeat' (first | (with_reducible refine And.intro ?_ ?_) | (with_reducible intro _))
  all_goals try (first | omega | with_reducible rfl | ((with_reducible refine eqId ?_); exact rfl) | with_reducible (first | assumption | exact pl ‹_› | exact pr ‹_› | exact plr ‹_› | exact pll ‹_› | exact prl ‹_› | exact plll ‹_› | exact prll ‹_›))
  first | refine CallK.one (implWindowStep x b q _ _ hx2 hb hq) (fun _ => amC) ?_ | refine CallE.one (implWindowStep x b q _ _ hx2 hb hq) (fun _ => amC) rfl ?_ | refine CallG.one rfl (fun hg => implWindowStep x b q _ _ hx2 hb hq) ?_ | refine CallEG.one rfl rfl (fun hg => implWindowStep x b q _ _ hx2 hb hq) ?_
  (try refine am (h := ?_)); (try with_reducible apply True.intro)
  repeat' (first | (with_reducible refine And.intro ?_ ?_) | (with_reducible intro _))
  all_goals try (first | omega | with_reducible rfl | ((with_reducible refine eqId ?_); exact rfl) | with_reducible (first | assumption | exact pl ‹_› | exact pr ‹_› | exact plr ‹_› | exact pll ‹_› | exact prl ‹_› | exact plll ‹_› | exact prll ‹_›))
  first | refine CallK.one (eqWindow (wsWin x b q) (wsWin x b q) _ _ _ _ hr) (fun _ => amC) ?_ | refine CallE.one (eqWindow (wsWin x b q) (wsWin x b q) _ _ _ _ hr) (fun _ => amC) rfl ?_ | refine CallG.one rfl (fun hg => eqWindow (wsWin x b q) (wsWin x b q) _ _ _ _ hr) ?_ | refine CallEG.one rfl rfl (fun hg => eqWindow (wsWin x b q) (wsWin x b q) _ _ _ _ hr) ?_
  (try refine am (h := ?_)); (try with_reducible apply True.intro)
  (try refine am (h := ?_)); (try simp only [eq_self]); (try refine am (h := ?_)); (try with_reducible apply True.intro)
  repeat' (first | (with_reducible refine And.intro ?_ ?_) | (with_reducible intro _))
  all_goals try (first | omega | with_reducible rfl | ((with_reducible refine eqId ?_); exact rfl) | with_reducible (first | assumption | exact pl ‹_› | exact pr ‹_› | exact plr ‹_› | exact pll ‹_› | exact prl ‹_› | exact plll ‹_› | exact prll ‹_›))
  first | refine CallK.one (toWindow x false false hx2) (fun _ => amC) ?_ | refine CallE.one (toWindow x false false hx2) (fun _ => amC) rfl ?_ | refine CallG.one rfl (fun hg => toWindow x false false hx2) ?_ | refine CallEG.one rfl rfl (fun hg => toWindow x false false hx2) ?_
  (try refine am (h := ?_)); (try with_reducible apply True.intro)
  first | refine CallK.one (eqWindow x x _ _ _ _ hx) (fun _ => amC) ?_ | refine CallE.one (eqWindow x x _ _ _ _ hx) (fun _ => amC) rfl ?_ | refine CallG.one rfl (fun hg => eqWindow x x _ _ _ _ hx) ?_ | refine CallEG.one rfl rfl (fun hg => eqWindow x x _ _ _ _ hx) ?_
  (try refine am (h := ?_)); (try with_reducible apply True.intro)
  repeat' (first | (with_reducible refine And.intro ?_ ?_) | (with_reducible intro _))
  all_goals try (first | omega | with_reducible rfl | ((with_reducible refine eqId ?_); exact rfl) | with_reducible (first | assumption | exact pl ‹_› | exact pr ‹_› | exact plr ‹_› | exact pll ‹_› | exact prl ‹_› | exact plll ‹_› | exact prll ‹_›))
  refine CallK.wrap w_markWindow rfl ?_
  refine partsM_one (markIntSS x (1 : Int) none hx (by omega) (by omega)) rfl ?wb1 ?wc1 ?wd1 ?we1
  case wb1 => (try refine am (h := ?_)); (try with_reducible apply True.intro)
  case wc1 => exact rfl
  case wd1 => exact rfl
  refine partsM_nil ?_
  (try refine am (h := ?_)); (try with_reducible apply True.intro)
  have hk : ¬ (((1 : Int) + tot x) < 0) := by omega
  (try refine am (h := ?_)); (try simp only [hk]); (try refine am (h := ?_)); (try with_reducible apply True.intro)
  first | refine CallK.one (eqWindow (wsWin x b q) (wsWin x b q) _ _ _ _ hr) (fun _ => amC) ?_ | refine CallE.one (eqWindow (wsWin x b q) (wsWin x b q) _ _ _ _ hr) (fun _ => amC) rfl ?_ | refine CallG.one rfl (fun hg => eqWindow (wsWin x b q) (wsWin x b q) _ _ _ _ hr) ?_ | refine CallEG.one rfl rfl (fun hg => eqWindow (wsWin x b q) (wsWin x b q) _ _ _ _ hr) ?_
  (try refine am (h := ?_)); (try with_reducible apply True.intro)
  (try refine am (h := ?_)); (try simp only [eq_self]); (try refine am (h := ?_)); (try with_reducible apply True.intro)
  repeat' (first | (with_reducible refine And.intro ?_ ?_) | (with_reducible intro _))
  all_goals try (first | omega | with_reducible rfl | ((with_reducible refine eqId ?_); exact rfl) | with_reducible (first | assumption | exact pl ‹_› | exact pr ‹_› | exact plr ‹_› | exact pll ‹_› | exact prl ‹_› | exact plll ‹_› | exact prll ‹_›))
  (try refine am (h := ?_)); (try simp only [hk]); (try refine am (h := ?_)); (try with_reducible apply True.intro)
  refine CallK.wrap w_markWindow rfl ?_
  refine partsM_one (markIntSS (wsWin x b q) (1 : Int) none hr (by omega) (by omega)) rfl ?wb2 ?wc2 ?wd2 ?we2
  case wb2 => (try refine am (h := ?_)); (try with_reducible apply True.intro)
  case wc2 => exact rfl
  case wd2 => exact rfl
  refine partsM_nil ?_
  (try refine am (h := ?_)); (try with_reducible apply True.intro)
  first | refine CallK.one (heldWindow (wsWin x b q) (1 : Int) _ _ hr (by omega) (by omega)) (fun _ => amC) ?_ | refine CallE.one (heldWindow (wsWin x b q) (1 : Int) _ _ hr (by omega) (by omega)) (fun _ => amC) rfl ?_ | refine CallG.one rfl (fun hg => heldWindow (wsWin x b q) (1 : Int) _ _ hr (by omega) (by omega)) ?_ | refine CallEG.one rfl rfl (fun hg => heldWindow (wsWin x b q) (1 : Int) _ _ hr (by omega) (by omega)) ?_
  (try refine am (h := ?_)); (try with_reducible apply True.intro)
  refine ⟨fun hh => absurd hh (by omega), fun _ => ?_⟩
  repeat' (first | (with_reducible refine And.intro ?_ ?_) | (with_reducible intro _))
  all_goals try (first | omega | with_reducible rfl | ((with_reducible refine eqId ?_); exact rfl) | with_reducible (first | assumption | exact pl ‹_› | exact pr ‹_› | exact plr ‹_› | exact pll ‹_› | exact prl ‹_› | exact plll ‹_› | exact prll ‹_›))
  first | refine CallK.one (toWindow x false false hx2) (fun _ => amC) ?_ | refine CallE.one (toWindow x false false hx2) (fun _ => amC) rfl ?_ | refine CallG.one rfl (fun hg => toWindow x false false hx2) ?_ | refine CallEG.one rfl rfl (fun hg => toWindow x false false hx2) ?_
  (try refine am (h := ?_)); (try with_reducible apply True.intro)
  repeat' (first | (with_reducible refine And.intro ?_ ?_) | (with_reducible intro _))
  all_goals try (first | omega | with_reducible rfl | ((with_reducible refine eqId ?_); exact rfl) | with_reducible (first | assumption | exact pl ‹_› | exact pr ‹_› | exact plr ‹_› | exact pll ‹_› | exact prl ‹_› | exact plll ‹_› | exact prll ‹_›))
  first | refine CallK.one (implWindowStep x b q _ _ hx2 hb hq) (fun _ => amC) ?_ | refine CallE.one (implWindowStep x b q _ _ hx2 hb hq) (fun _ => amC) rfl ?_ | refine CallG.one rfl (fun hg => implWindowStep x b q _ _ hx2 hb hq) ?_ | refine CallEG.one rfl rfl (fun hg => implWindowStep x b q _ _ hx2 hb hq) ?_
  (try refine am (h := ?_)); (try with_reducible apply True.intro)
  repeat' (first | (with_reducible refine And.intro ?_ ?_) | (with_reducible intro _))
  all_goals try (first | omega | with_reducible rfl | ((with_reducible refine eqId ?_); exact rfl) | with_reducible (first | assumption | exact pl ‹_› | exact pr ‹_› | exact plr ‹_› | exact pll ‹_› | exact prl ‹_› | exact plll ‹_› | exact prll ‹_›))
  first | refine CallK.one (eqWindow (wsWin x b q) (wsWin x b q) _ _ _ _ hr) (fun _ => amC) ?_ | refine CallE.one (eqWindow (wsWin x b q) (wsWin x b q) _ _ _ _ hr) (fun _ => amC) rfl ?_ | refine CallG.one rfl (fun hg => eqWindow (wsWin x b q) (wsWin x b q) _ _ _ _ hr) ?_ | refine CallEG.one rfl rfl (fun hg => eqWindow (wsWin x b q) (wsWin x b q) _ _ _ _ hr) ?_
  (try refine am (h := ?_)); (try with_reducible apply True.intro)
  (try refine am (h := ?_)); (try simp only [eq_self]); (try refine am (h := ?_)); (try with_reducible apply True.intro)
  repeat' (first | (with_reducible refine And.intro ?_ ?_) | (with_reducible intro _))
  all_goals try (first | omega | with_reducible rfl | ((with_reducible refine eqId ?_); exact rfl) | with_reducible (first | assumption | exact pl ‹_› | exact pr ‹_› | exact plr ‹_› | exact pll ‹_› | exact prl ‹_› | exact plll ‹_› | exact prll ‹_›))
  first | refine CallK.one (heldWindow (wsWin x b q) (1 : Int) _ _ hr (by omega) (by omega)) (fun _ => amC) ?_ | refine CallE.one (heldWindow (wsWin x b q) (1 : Int) _ _ hr (by omega) (by omega)) (fun _ => amC) rfl ?_ | refine CallG.one rfl (fun hg => heldWindow (wsWin x b q) (1 : Int) _ _ hr (by omega) (by omega)) ?_ | refine CallEG.one rfl rfl (fun hg => heldWindow (wsWin x b q) (1 : Int) _ _ hr (by omega) (by omega)) ?_
  (try refine am (h := ?_)); (try with_reducible apply True.intro)
  refine ⟨fun hh => absurd hh (by omega), fun _ => ?_⟩
  refine FinK.val1 ?_ ?_
  all_goals (try refine amF (h := ?_))
  all_goals (try with_reducible apply True.intro)
end Go.AM
