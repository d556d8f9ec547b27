/- Lemmas for the proof of this claim. -/
import Derived.Test.YtogcgngdaendaaaWinc
import Derived.Test.YtogcgngdaendaaaWlib
import Derived.Test.YtogcgngdaendaaaMrk2
namespace Go.AM
open Go Go.Proofs
set_option maxRecDepth 100000
set_option maxHeartbeats 8000000 in
theorem fnExactDetStep (x : DDet) (b : Int) (v : Int) (w : Int) (hx : okDet (2 ^ 47) x) (hb : inK .i64 b) (hv : inK .i64 v) (hw : inK .i64 w) : ACalls Try.prog 10 [.agg (cDet false false x), .one (.int .i64 b), .one (.int .i64 v), .one (.int .i64 w)] (fun r => r = .val (.one (.bool true))) := by
  have nt : Try.f10.ntmps = 111 := rfl
  have rs : Try.f10.results = #[.tmp 8] := rfl
  refine ACalls.of_run (m := 400) mixed Try.func10 rfl rfl (Nat.le_of_ble_eq_true rfl) ?_
  simp only [nt, rs]
  clear nt rs
  (try refine am (h := ?_)); (try with_reducible apply True.intro)
  first | refine CallK.one (szDet x 1048576 false false hx (by omega) (by omega)) (fun _ => amC) ?_ | refine CallE.one (szDet x 1048576 false false hx (by omega) (by omega)) (fun _ => amC) rfl ?_ | refine CallG.one rfl (fun hg => szDet x 1048576 false false hx (by omega) (by omega)) ?_ | refine CallEG.one rfl rfl (fun hg => szDet x 1048576 false false hx (by omega) (by omega)) ?_
  (try refine am (h := ?_)); (try with_reducible apply True.intro)
  rcases less_cases 1048576 (zDet x) with ⟨hcx, e⟩ | ⟨hcx, e⟩
  · (try refine am (h := ?_)); (try simp only [e]); (try refine am (h := ?_)); (try with_reducible apply True.intro)
    refine FinK.val1 ?_ ?_
    all_goals (try refine amF (h := ?_))
    all_goals (try with_reducible apply True.intro)
  (try refine am (h := ?_)); (try simp only [e]); (try refine am (h := ?_)); (try with_reducible apply True.intro)
  repeat' (first | (with_reducible refine And.intro ?_ ?_) | (with_reducible intro _))
  all_goals try (first | omega | with_reducible rfl | ((with_reducible refine eqId ?_); exact rfl) | with_reducible (first | assumption | exact pl ‹_› | exact pr ‹_› | exact plr ‹_› | exact pll ‹_› | exact prl ‹_› | exact plll ‹_› | exact prll ‹_›))
  have sx : zDet x ≤ 1048576 := by omega
  have hx2 : okDet (2 ^ 40) x := okDet_sz hx (by omega)
  have fx : zDet x = (x.warn.length + tot x.warn) + (x.drift.length + tot x.drift) := rfl
  have hr : okDet (2 ^ 47) (detStep x b v w).1 := okDet47 (detStep_ok hx2)
  have ht := detStep_tot (d := x) (b := b) (w := v) (r := w)
  first | refine CallK.one (toDet x false false hx2) (fun _ => amC) ?_ | refine CallE.one (toDet x false false hx2) (fun _ => amC) rfl ?_ | refine CallG.one rfl (fun hg => toDet x false false hx2) ?_ | refine CallEG.one rfl rfl (fun hg => toDet x false false hx2) ?_
  (try refine am (h := ?_)); (try with_reducible apply True.intro)
  repeat' (first | (with_reducible refine And.intro ?_ ?_) | (with_reducible intro _))
  all_goals try (first | omega | with_reducible rfl | ((with_reducible refine eqId ?_); exact rfl) | with_reducible (first | assumption | exact pl ‹_› | exact pr ‹_› | exact plr ‹_› | exact pll ‹_› | exact prl ‹_› | exact plll ‹_› | exact prll ‹_›))
  first | refine CallK.one (specDetStep x b v w _ _ hx2 hb hv hw) (fun _ => amC) ?_ | refine CallE.one (specDetStep x b v w _ _ hx2 hb hv hw) (fun _ => amC) rfl ?_ | refine CallG.one rfl (fun hg => specDetStep x b v w _ _ hx2 hb hv hw) ?_ | refine CallEG.one rfl rfl (fun hg => specDetStep x b v w _ _ hx2 hb hv hw) ?_
  (try refine am (h := ?_)); (try with_reducible apply True.intro)
  repeat' (first | (with_reducible refine And.intro ?_ ?_) | (with_reducible intro _))
  all_goals try (first | omega | with_reducible rfl | ((with_reducible refine eqId ?_); exact rfl) | with_reducible (first | assumption | exact pl ‹_› | exact pr ‹_› | exact plr ‹_› | exact pll ‹_› | exact prl ‹_› | exact plll ‹_› | exact prll ‹_›))
  first | refine CallK.one (toDet x false false hx2) (fun _ => amC) ?_ | refine CallE.one (toDet x false false hx2) (fun _ => amC) rfl ?_ | refine CallG.one rfl (fun hg => toDet x false false hx2) ?_ | refine CallEG.one rfl rfl (fun hg => toDet x false false hx2) ?_
  (try refine am (h := ?_)); (try with_reducible apply True.intro)
  repeat' (first | (with_reducible refine And.intro ?_ ?_) | (with_reducible intro _))
  all_goals try (first | omega | with_reducible rfl | ((with_reducible refine eqId ?_); exact rfl) | with_reducible (first | assumption | exact pl ‹_› | exact pr ‹_› | exact plr ‹_› | exact pll ‹_› | exact prl ‹_› | exact plll ‹_› | exact prll ‹_›))
  first | refine CallK.one (implDetStep x b v w _ _ hx2 hb hv hw) (fun _ => amC) ?_ | refine CallE.one (implDetStep x b v w _ _ hx2 hb hv hw) (fun _ => amC) rfl ?_ | refine CallG.one rfl (fun hg => implDetStep x b v w _ _ hx2 hb hv hw) ?_ | refine CallEG.one rfl rfl (fun hg => implDetStep x b v w _ _ hx2 hb hv hw) ?_
  (try refine am (h := ?_)); (try with_reducible apply True.intro)
  repeat' (first | (with_reducible refine And.intro ?_ ?_) | (with_reducible intro _))
  all_goals try (first | omega | with_reducible rfl | ((with_reducible refine eqId ?_); exact rfl) | with_reducible (first | assumption | exact pl ‹_› | exact pr ‹_› | exact plr ‹_› | exact pll ‹_› | exact prl ‹_› | exact plll ‹_› | exact prll ‹_›))
  first | refine CallK.one (eqDet (detStep x b v w).1 (detStep x b v w).1 _ _ _ _ hr) (fun _ => amC) ?_ | refine CallE.one (eqDet (detStep x b v w).1 (detStep x b v w).1 _ _ _ _ hr) (fun _ => amC) rfl ?_ | refine CallG.one rfl (fun hg => eqDet (detStep x b v w).1 (detStep x b v w).1 _ _ _ _ hr) ?_ | refine CallEG.one rfl rfl (fun hg => eqDet (detStep x b v w).1 (detStep x b v w).1 _ _ _ _ hr) ?_
  (try refine am (h := ?_)); (try with_reducible apply True.intro)
  (try refine am (h := ?_)); (try simp only [eq_self]); (try refine am (h := ?_)); (try with_reducible apply True.intro)
  repeat' (first | (with_reducible refine And.intro ?_ ?_) | (with_reducible intro _))
  all_goals try (first | omega | with_reducible rfl | ((with_reducible refine eqId ?_); exact rfl) | with_reducible (first | assumption | exact pl ‹_› | exact pr ‹_› | exact plr ‹_› | exact pll ‹_› | exact prl ‹_› | exact plll ‹_› | exact prll ‹_›))
  first | refine CallK.one (toDet x false false hx2) (fun _ => amC) ?_ | refine CallE.one (toDet x false false hx2) (fun _ => amC) rfl ?_ | refine CallG.one rfl (fun hg => toDet x false false hx2) ?_ | refine CallEG.one rfl rfl (fun hg => toDet x false false hx2) ?_
  (try refine am (h := ?_)); (try with_reducible apply True.intro)
  first | refine CallK.one (eqDet x x _ _ _ _ hx) (fun _ => amC) ?_ | refine CallE.one (eqDet x x _ _ _ _ hx) (fun _ => amC) rfl ?_ | refine CallG.one rfl (fun hg => eqDet x x _ _ _ _ hx) ?_ | refine CallEG.one rfl rfl (fun hg => eqDet x x _ _ _ _ hx) ?_
  (try refine am (h := ?_)); (try with_reducible apply True.intro)
  repeat' (first | (with_reducible refine And.intro ?_ ?_) | (with_reducible intro _))
  all_goals try (first | omega | with_reducible rfl | ((with_reducible refine eqId ?_); exact rfl) | with_reducible (first | assumption | exact pl ‹_› | exact pr ‹_› | exact plr ‹_› | exact pll ‹_› | exact prl ‹_› | exact plll ‹_› | exact prll ‹_›))
  refine CallK.wrap w_markDet rfl ?_
  refine partsM_one (markIntSS x.warn (1 : Int) none hx.1 (by omega) (by omega)) rfl ?wb1 ?wc1 ?wd1 ?we1
  case wb1 => (try refine am (h := ?_)); (try with_reducible apply True.intro)
  case wc1 => exact rfl
  case wd1 => exact rfl
  refine partsM_one (markIntSS x.drift ((1 : Int) + tot x.warn) none hx.2 (by omega) (by omega)) rfl ?wb2 ?wc2 ?wd2 ?we2
  case wb2 => (try refine am (h := ?_)); (try with_reducible apply True.intro)
  case wc2 => exact rfl
  case wd2 => exact rfl
  refine partsM_nil ?_
  (try refine am (h := ?_)); (try with_reducible apply True.intro)
  have hk : ¬ ((((1 : Int) + tot x.warn) + tot x.drift) < 0) := by omega
  (try refine am (h := ?_)); (try simp only [hk]); (try refine am (h := ?_)); (try with_reducible apply True.intro)
  first | refine CallK.one (eqDet (detStep x b v w).1 (detStep x b v w).1 _ _ _ _ hr) (fun _ => amC) ?_ | refine CallE.one (eqDet (detStep x b v w).1 (detStep x b v w).1 _ _ _ _ hr) (fun _ => amC) rfl ?_ | refine CallG.one rfl (fun hg => eqDet (detStep x b v w).1 (detStep x b v w).1 _ _ _ _ hr) ?_ | refine CallEG.one rfl rfl (fun hg => eqDet (detStep x b v w).1 (detStep x b v w).1 _ _ _ _ hr) ?_
  (try refine am (h := ?_)); (try with_reducible apply True.intro)
  (try refine am (h := ?_)); (try simp only [eq_self]); (try refine am (h := ?_)); (try with_reducible apply True.intro)
  repeat' (first | (with_reducible refine And.intro ?_ ?_) | (with_reducible intro _))
  all_goals try (first | omega | with_reducible rfl | ((with_reducible refine eqId ?_); exact rfl) | with_reducible (first | assumption | exact pl ‹_› | exact pr ‹_› | exact plr ‹_› | exact pll ‹_› | exact prl ‹_› | exact plll ‹_› | exact prll ‹_›))
  (try refine am (h := ?_)); (try simp only [hk]); (try refine am (h := ?_)); (try with_reducible apply True.intro)
  refine CallK.wrap w_markDet rfl ?_
  refine partsM_one (markIntSS (detStep x b v w).1.warn (1 : Int) none hr.1 (by omega) (by omega)) rfl ?wb3 ?wc3 ?wd3 ?we3
  case wb3 => (try refine am (h := ?_)); (try with_reducible apply True.intro)
  case wc3 => exact rfl
  case wd3 => exact rfl
  refine partsM_one (markIntSS (detStep x b v w).1.drift ((1 : Int) + tot (detStep x b v w).1.warn) none hr.2 (by omega) (by omega)) rfl ?wb4 ?wc4 ?wd4 ?we4
  case wb4 => (try refine am (h := ?_)); (try with_reducible apply True.intro)
  case wc4 => exact rfl
  case wd4 => exact rfl
  refine partsM_nil ?_
  (try refine am (h := ?_)); (try with_reducible apply True.intro)
  first | refine CallK.one (heldDet (detStep x b v w).1 (1 : Int) _ _ hr (by omega) (by omega)) (fun _ => amC) ?_ | refine CallE.one (heldDet (detStep x b v w).1 (1 : Int) _ _ hr (by omega) (by omega)) (fun _ => amC) rfl ?_ | refine CallG.one rfl (fun hg => heldDet (detStep x b v w).1 (1 : Int) _ _ hr (by omega) (by omega)) ?_ | refine CallEG.one rfl rfl (fun hg => heldDet (detStep x b v w).1 (1 : Int) _ _ hr (by omega) (by omega)) ?_
  (try refine am (h := ?_)); (try with_reducible apply True.intro)
  refine ⟨fun hh => absurd hh (by omega), fun _ => ?_⟩
  repeat' (first | (with_reducible refine And.intro ?_ ?_) | (with_reducible intro _))
  all_goals try (first | omega | with_reducible rfl | ((with_reducible refine eqId ?_); exact rfl) | with_reducible (first | assumption | exact pl ‹_› | exact pr ‹_› | exact plr ‹_› | exact pll ‹_› | exact prl ‹_› | exact plll ‹_› | exact prll ‹_›))
  first | refine CallK.one (toDet x false false hx2) (fun _ => amC) ?_ | refine CallE.one (toDet x false false hx2) (fun _ => amC) rfl ?_ | refine CallG.one rfl (fun hg => toDet x false false hx2) ?_ | refine CallEG.one rfl rfl (fun hg => toDet x false false hx2) ?_
  (try refine am (h := ?_)); (try with_reducible apply True.intro)
  repeat' (first | (with_reducible refine And.intro ?_ ?_) | (with_reducible intro _))
  all_goals try (first | omega | with_reducible rfl | ((with_reducible refine eqId ?_); exact rfl) | with_reducible (first | assumption | exact pl ‹_› | exact pr ‹_› | exact plr ‹_› | exact pll ‹_› | exact prl ‹_› | exact plll ‹_› | exact prll ‹_›))
  first | refine CallK.one (implDetStep x b v w _ _ hx2 hb hv hw) (fun _ => amC) ?_ | refine CallE.one (implDetStep x b v w _ _ hx2 hb hv hw) (fun _ => amC) rfl ?_ | refine CallG.one rfl (fun hg => implDetStep x b v w _ _ hx2 hb hv hw) ?_ | refine CallEG.one rfl rfl (fun hg => implDetStep x b v w _ _ hx2 hb hv hw) ?_
  (try refine am (h := ?_)); (try with_reducible apply True.intro)
  repeat' (first | (with_reducible refine And.intro ?_ ?_) | (with_reducible intro _))
  all_goals try (first | omega | with_reducible rfl | ((with_reducible refine eqId ?_); exact rfl) | with_reducible (first | assumption | exact pl ‹_› | exact pr ‹_› | exact plr ‹_› | exact pll ‹_› | exact prl ‹_› | exact plll ‹_› | exact prll ‹_›))
  first | refine CallK.one (eqDet (detStep x b v w).1 (detStep x b v w).1 _ _ _ _ hr) (fun _ => amC) ?_ | refine CallE.one (eqDet (detStep x b v w).1 (detStep x b v w).1 _ _ _ _ hr) (fun _ => amC) rfl ?_ | refine CallG.one rfl (fun hg => eqDet (detStep x b v w).1 (detStep x b v w).1 _ _ _ _ hr) ?_ | refine CallEG.one rfl rfl (fun hg => eqDet (detStep x b v w).1 (detStep x b v w).1 _ _ _ _ hr) ?_
  (try refine am (h := ?_)); (try with_reducible apply True.intro)
  (try refine am (h := ?_)); (try simp only [eq_self]); (try refine am (h := ?_)); (try with_reducible apply True.intro)
  repeat' (first | (with_reducible refine And.intro ?_ ?_) | (with_reducible intro _))
  all_goals try (first | omega | with_reducible rfl | ((with_reducible refine eqId ?_); exact rfl) | with_reducible (first | assumption | exact pl ‹_› | exact pr ‹_› | exact plr ‹_› | exact pll ‹_› | exact prl ‹_› | exact plll ‹_› | exact prll ‹_›))
  first | refine CallK.one (heldDet (detStep x b v w).1 (1 : Int) _ _ hr (by omega) (by omega)) (fun _ => amC) ?_ | refine CallE.one (heldDet (detStep x b v w).1 (1 : Int) _ _ hr (by omega) (by omega)) (fun _ => amC) rfl ?_ | refine CallG.one rfl (fun hg => heldDet (detStep x b v w).1 (1 : Int) _ _ hr (by omega) (by omega)) ?_ | refine CallEG.one rfl rfl (fun hg => heldDet (detStep x b v w).1 (1 : Int) _ _ hr (by omega) (by omega)) ?_
  (try refine am (h := ?_)); (try with_reducible apply True.intro)
  refine ⟨fun hh => absurd hh (by omega), fun _ => ?_⟩
  refine FinK.val1 ?_ ?_
  all_goals (try refine amF (h := ?_))
  all_goals (try with_reducible apply True.intro)
end Go.AM
