/- Lemmas for the proof of this claim. -/
import Derived.Test.YtbfofhfeghfpoaaWinc
import Derived.Test.YtbfofhfeghfpoaaWlib
import Derived.Test.YtbfofhfeghfpoaaMrk2
namespace Go.AM
open Go Go.Proofs
set_option maxRecDepth 100000
set_option maxHeartbeats 8000000 in
theorem fnExactDetRun (l : List (Int)) (v : Int) (w : Int) (hl : okI (2 ^ 47) l) (hv : inK .i64 v) (hw : inK .i64 w) : ACalls Try.prog 7 [.one (aI false l), .one (.int .i64 v), .one (.int .i64 w)] (fun r => r = .val (.one (.bool true))) := by
  have nt : Try.f7.ntmps = 119 := rfl
  have rs : Try.f7.results = #[.tmp 6] := rfl
  refine ACalls.of_run (m := 400) mixed Try.func7 rfl rfl (Nat.le_of_ble_eq_true rfl) ?_
  simp only [nt, rs]
  clear nt rs
  (try refine am (h := ?_)); (try with_reducible apply True.intro)
  repeat' (first | (with_reducible refine And.intro ?_ ?_) | (with_reducible intro _))
  all_goals try (first | omega | with_reducible rfl | ((with_reducible refine eqId ?_); exact rfl) | with_reducible (first | assumption | exact pl ‹_› | exact pr ‹_› | exact plr ‹_› | exact pll ‹_› | exact prl ‹_› | exact plll ‹_› | exact prll ‹_›))
  · refine FinK.val1 ?_ ?_
    all_goals (try refine amF (h := ?_))
    all_goals (try with_reducible apply True.intro)
  have sl : l.length ≤ 1048576 := by omega
  have hl2 : okI (2 ^ 40) l := okI_sz hl (by omega)
  have hr0 := detRunA_ok (l := l) (w := v) (r := w) (i := l.length)
  have hr : okDet (2 ^ 47) (detRunA l v w l.length).1 := okDet47 hr0.1
  have hlen := hr0.2.1
  have hr2 : okI (2 ^ 47) (detRunA l v w l.length).2 := ⟨by omega, hr0.2.2⟩
  have ht := detRunA_tot (l := l) (w := v) (r := w) (i := l.length)
  first | refine CallK.one (toIntS l _ _ hl2) (fun _ => amC) ?_ | refine CallE.one (toIntS l _ _ hl2) (fun _ => amC) rfl ?_ | refine CallG.one rfl (fun hg => toIntS l _ _ hl2) ?_ | refine CallEG.one rfl rfl (fun hg => toIntS l _ _ hl2) ?_
  (try refine am (h := ?_)); (try with_reducible apply True.intro)
  repeat' (first | (with_reducible refine And.intro ?_ ?_) | (with_reducible intro _))
  all_goals try (first | omega | with_reducible rfl | ((with_reducible refine eqId ?_); exact rfl) | with_reducible (first | assumption | exact pl ‹_› | exact pr ‹_› | exact plr ‹_› | exact pll ‹_› | exact prl ‹_› | exact plll ‹_› | exact prll ‹_›))
  first | refine CallK.one (specDetRun l v w _ hl2 hv hw) (fun _ => amC) ?_ | refine CallE.one (specDetRun l v w _ hl2 hv hw) (fun _ => amC) rfl ?_ | refine CallG.one rfl (fun hg => specDetRun l v w _ hl2 hv hw) ?_ | refine CallEG.one rfl rfl (fun hg => specDetRun l v w _ hl2 hv hw) ?_
  (try refine am (h := ?_)); (try with_reducible apply True.intro)
  repeat' (first | (with_reducible refine And.intro ?_ ?_) | (with_reducible intro _))
  all_goals try (first | omega | with_reducible rfl | ((with_reducible refine eqId ?_); exact rfl) | with_reducible (first | assumption | exact pl ‹_› | exact pr ‹_› | exact plr ‹_› | exact pll ‹_› | exact prl ‹_› | exact plll ‹_› | exact prll ‹_›))
  first | refine CallK.one (toIntS l _ _ hl2) (fun _ => amC) ?_ | refine CallE.one (toIntS l _ _ hl2) (fun _ => amC) rfl ?_ | refine CallG.one rfl (fun hg => toIntS l _ _ hl2) ?_ | refine CallEG.one rfl rfl (fun hg => toIntS l _ _ hl2) ?_
  (try refine am (h := ?_)); (try with_reducible apply True.intro)
  repeat' (first | (with_reducible refine And.intro ?_ ?_) | (with_reducible intro _))
  all_goals try (first | omega | with_reducible rfl | ((with_reducible refine eqId ?_); exact rfl) | with_reducible (first | assumption | exact pl ‹_› | exact pr ‹_› | exact plr ‹_› | exact pll ‹_› | exact prl ‹_› | exact plll ‹_› | exact prll ‹_›))
  first | refine CallK.one (implDetRun l v w _ hl2 hv hw) (fun _ => amC) ?_ | refine CallE.one (implDetRun l v w _ hl2 hv hw) (fun _ => amC) rfl ?_ | refine CallG.one rfl (fun hg => implDetRun l v w _ hl2 hv hw) ?_ | refine CallEG.one rfl rfl (fun hg => implDetRun l v w _ hl2 hv hw) ?_
  (try refine am (h := ?_)); (try with_reducible apply True.intro)
  repeat' (first | (with_reducible refine And.intro ?_ ?_) | (with_reducible intro _))
  all_goals try (first | omega | with_reducible rfl | ((with_reducible refine eqId ?_); exact rfl) | with_reducible (first | assumption | exact pl ‹_› | exact pr ‹_› | exact plr ‹_› | exact pll ‹_› | exact prl ‹_› | exact plll ‹_› | exact prll ‹_›))
  first | refine CallK.one (eqDet (detRunA l v w l.length).1 (detRunA l v w l.length).1 _ _ _ _ hr) (fun _ => amC) ?_ | refine CallE.one (eqDet (detRunA l v w l.length).1 (detRunA l v w l.length).1 _ _ _ _ hr) (fun _ => amC) rfl ?_ | refine CallG.one rfl (fun hg => eqDet (detRunA l v w l.length).1 (detRunA l v w l.length).1 _ _ _ _ hr) ?_ | refine CallEG.one rfl rfl (fun hg => eqDet (detRunA l v w l.length).1 (detRunA l v w l.length).1 _ _ _ _ hr) ?_
  (try refine am (h := ?_)); (try with_reducible apply True.intro)
  (try refine am (h := ?_)); (try simp only [eq_self]); (try refine am (h := ?_)); (try with_reducible apply True.intro)
  repeat' (first | (with_reducible refine And.intro ?_ ?_) | (with_reducible intro _))
  all_goals try (first | omega | with_reducible rfl | ((with_reducible refine eqId ?_); exact rfl) | with_reducible (first | assumption | exact pl ‹_› | exact pr ‹_› | exact plr ‹_› | exact pll ‹_› | exact prl ‹_› | exact plll ‹_› | exact prll ‹_›))
  first | refine CallK.one (eqIntS (detRunA l v w l.length).2 (detRunA l v w l.length).2 _ _ _ _ hr2) (fun _ => amC) ?_ | refine CallE.one (eqIntS (detRunA l v w l.length).2 (detRunA l v w l.length).2 _ _ _ _ hr2) (fun _ => amC) rfl ?_ | refine CallG.one rfl (fun hg => eqIntS (detRunA l v w l.length).2 (detRunA l v w l.length).2 _ _ _ _ hr2) ?_ | refine CallEG.one rfl rfl (fun hg => eqIntS (detRunA l v w l.length).2 (detRunA l v w l.length).2 _ _ _ _ hr2) ?_
  (try refine am (h := ?_)); (try with_reducible apply True.intro)
  (try refine am (h := ?_)); (try simp only [eq_self]); (try refine am (h := ?_)); (try with_reducible apply True.intro)
  repeat' (first | (with_reducible refine And.intro ?_ ?_) | (with_reducible intro _))
  all_goals try (first | omega | with_reducible rfl | ((with_reducible refine eqId ?_); exact rfl) | with_reducible (first | assumption | exact pl ‹_› | exact pr ‹_› | exact plr ‹_› | exact pll ‹_› | exact prl ‹_› | exact plll ‹_› | exact prll ‹_›))
  first | refine CallK.one (toIntS l _ _ hl2) (fun _ => amC) ?_ | refine CallE.one (toIntS l _ _ hl2) (fun _ => amC) rfl ?_ | refine CallG.one rfl (fun hg => toIntS l _ _ hl2) ?_ | refine CallEG.one rfl rfl (fun hg => toIntS l _ _ hl2) ?_
  (try refine am (h := ?_)); (try with_reducible apply True.intro)
  first | refine CallK.one (eqIntS l l _ _ _ _ hl) (fun _ => amC) ?_ | refine CallE.one (eqIntS l l _ _ _ _ hl) (fun _ => amC) rfl ?_ | refine CallG.one rfl (fun hg => eqIntS l l _ _ _ _ hl) ?_ | refine CallEG.one rfl rfl (fun hg => eqIntS l l _ _ _ _ hl) ?_
  (try refine am (h := ?_)); (try with_reducible apply True.intro)
  repeat' (first | (with_reducible refine And.intro ?_ ?_) | (with_reducible intro _))
  all_goals try (first | omega | with_reducible rfl | ((with_reducible refine eqId ?_); exact rfl) | with_reducible (first | assumption | exact pl ‹_› | exact pr ‹_› | exact plr ‹_› | exact pll ‹_› | exact prl ‹_› | exact plll ‹_› | exact prll ‹_›))
  refine CallK.mut (markIntS l (1 : Int) none hl (by omega) (by omega)) rfl rfl rfl ?_
  (try refine am (h := ?_)); (try with_reducible apply True.intro)
  have hk : ¬ (((1 : Int) + l.length) < 0) := by omega
  (try refine am (h := ?_)); (try simp only [hk]); (try refine am (h := ?_)); (try with_reducible apply True.intro)
  first | refine CallK.one (eqDet (detRunA l v w l.length).1 (detRunA l v w l.length).1 _ _ _ _ hr) (fun _ => amC) ?_ | refine CallE.one (eqDet (detRunA l v w l.length).1 (detRunA l v w l.length).1 _ _ _ _ hr) (fun _ => amC) rfl ?_ | refine CallG.one rfl (fun hg => eqDet (detRunA l v w l.length).1 (detRunA l v w l.length).1 _ _ _ _ hr) ?_ | refine CallEG.one rfl rfl (fun hg => eqDet (detRunA l v w l.length).1 (detRunA l v w l.length).1 _ _ _ _ hr) ?_
  (try refine am (h := ?_)); (try with_reducible apply True.intro)
  (try refine am (h := ?_)); (try simp only [eq_self]); (try refine am (h := ?_)); (try with_reducible apply True.intro)
  repeat' (first | (with_reducible refine And.intro ?_ ?_) | (with_reducible intro _))
  all_goals try (first | omega | with_reducible rfl | ((with_reducible refine eqId ?_); exact rfl) | with_reducible (first | assumption | exact pl ‹_› | exact pr ‹_› | exact plr ‹_› | exact pll ‹_› | exact prl ‹_› | exact plll ‹_› | exact prll ‹_›))
  first | refine CallK.one (eqIntS (detRunA l v w l.length).2 (detRunA l v w l.length).2 _ _ _ _ hr2) (fun _ => amC) ?_ | refine CallE.one (eqIntS (detRunA l v w l.length).2 (detRunA l v w l.length).2 _ _ _ _ hr2) (fun _ => amC) rfl ?_ | refine CallG.one rfl (fun hg => eqIntS (detRunA l v w l.length).2 (detRunA l v w l.length).2 _ _ _ _ hr2) ?_ | refine CallEG.one rfl rfl (fun hg => eqIntS (detRunA l v w l.length).2 (detRunA l v w l.length).2 _ _ _ _ hr2) ?_
  (try refine am (h := ?_)); (try with_reducible apply True.intro)
  (try refine am (h := ?_)); (try simp only [eq_self]); (try refine am (h := ?_)); (try with_reducible apply True.intro)
  repeat' (first | (with_reducible refine And.intro ?_ ?_) | (with_reducible intro _))
  all_goals try (first | omega | with_reducible rfl | ((with_reducible refine eqId ?_); exact rfl) | with_reducible (first | assumption | exact pl ‹_› | exact pr ‹_› | exact plr ‹_› | exact pll ‹_› | exact prl ‹_› | exact plll ‹_› | exact prll ‹_›))
  (try refine am (h := ?_)); (try simp only [hk]); (try refine am (h := ?_)); (try with_reducible apply True.intro)
  refine CallK.wrap w_markDet rfl ?_
  refine partsM_one (markIntSS (detRunA l v w l.length).1.warn (1 : Int) none hr.1 (by omega) (by omega)) rfl ?wb1 ?wc1 ?wd1 ?we1
  case wb1 => (try refine am (h := ?_)); (try with_reducible apply True.intro)
  case wc1 => exact rfl
  case wd1 => exact rfl
  refine partsM_one (markIntSS (detRunA l v w l.length).1.drift ((1 : Int) + tot (detRunA l v w l.length).1.warn) none hr.2 (by omega) (by omega)) rfl ?wb2 ?wc2 ?wd2 ?we2
  case wb2 => (try refine am (h := ?_)); (try with_reducible apply True.intro)
  case wc2 => exact rfl
  case wd2 => exact rfl
  refine partsM_nil ?_
  (try refine am (h := ?_)); (try with_reducible apply True.intro)
  refine CallK.mut (markIntS (detRunA l v w l.length).2 (((1 : Int) + tot (detRunA l v w l.length).1.warn) + tot (detRunA l v w l.length).1.drift) none hr2 (by omega) (by omega)) rfl rfl rfl ?_
  (try refine am (h := ?_)); (try with_reducible apply True.intro)
  first | refine CallK.one (heldDet (detRunA l v w l.length).1 (1 : Int) _ _ hr (by omega) (by omega)) (fun _ => amC) ?_ | refine CallE.one (heldDet (detRunA l v w l.length).1 (1 : Int) _ _ hr (by omega) (by omega)) (fun _ => amC) rfl ?_ | refine CallG.one rfl (fun hg => heldDet (detRunA l v w l.length).1 (1 : Int) _ _ hr (by omega) (by omega)) ?_ | refine CallEG.one rfl rfl (fun hg => heldDet (detRunA l v w l.length).1 (1 : Int) _ _ hr (by omega) (by omega)) ?_
  (try refine am (h := ?_)); (try with_reducible apply True.intro)
  refine ⟨fun hh => absurd hh (by omega), fun _ => ?_⟩
  first | refine CallK.one (heldI (detRunA l v w l.length).2 (((1 : Int) + tot (detRunA l v w l.length).1.warn) + tot (detRunA l v w l.length).1.drift) _ _ hr2 (by omega) (by omega)) (fun _ => amC) ?_ | refine CallE.one (heldI (detRunA l v w l.length).2 (((1 : Int) + tot (detRunA l v w l.length).1.warn) + tot (detRunA l v w l.length).1.drift) _ _ hr2 (by omega) (by omega)) (fun _ => amC) rfl ?_ | refine CallG.one rfl (fun hg => heldI (detRunA l v w l.length).2 (((1 : Int) + tot (detRunA l v w l.length).1.warn) + tot (detRunA l v w l.length).1.drift) _ _ hr2 (by omega) (by omega)) ?_ | refine CallEG.one rfl rfl (fun hg => heldI (detRunA l v w l.length).2 (((1 : Int) + tot (detRunA l v w l.length).1.warn) + tot (detRunA l v w l.length).1.drift) _ _ hr2 (by omega) (by omega)) ?_
  (try refine am (h := ?_)); (try with_reducible apply True.intro)
  refine ⟨fun hh => absurd hh (by omega), fun _ => ?_⟩
  repeat' (first | (with_reducible refine And.intro ?_ ?_) | (with_reducible intro _))
  all_goals try (first | omega | with_reducible rfl | ((with_reducible refine eqId ?_); exact rfl) | with_reducible (first | assumption | exact pl ‹_› | exact pr ‹_› | exact plr ‹_› | exact pll ‹_› | exact prl ‹_› | exact plll ‹_› | exact prll ‹_›))
  first | refine CallK.one (toIntS l _ _ hl2) (fun _ => amC) ?_ | refine CallE.one (toIntS l _ _ hl2) (fun _ => amC) rfl ?_ | refine CallG.one rfl (fun hg => toIntS l _ _ hl2) ?_ | refine CallEG.one rfl rfl (fun hg => toIntS l _ _ hl2) ?_
  (try refine am (h := ?_)); (try with_reducible apply True.intro)
  repeat' (first | (with_reducible refine And.intro ?_ ?_) | (with_reducible intro _))
  all_goals try (first | omega | with_reducible rfl | ((with_reducible refine eqId ?_); exact rfl) | with_reducible (first | assumption | exact pl ‹_› | exact pr ‹_› | exact plr ‹_› | exact pll ‹_› | exact prl ‹_› | exact plll ‹_› | exact prll ‹_›))
  first | refine CallK.one (implDetRun l v w _ hl2 hv hw) (fun _ => amC) ?_ | refine CallE.one (implDetRun l v w _ hl2 hv hw) (fun _ => amC) rfl ?_ | refine CallG.one rfl (fun hg => implDetRun l v w _ hl2 hv hw) ?_ | refine CallEG.one rfl rfl (fun hg => implDetRun l v w _ hl2 hv hw) ?_
  (try refine am (h := ?_)); (try with_reducible apply True.intro)
  repeat' (first | (with_reducible refine And.intro ?_ ?_) | (with_reducible intro _))
  all_goals try (first | omega | with_reducible rfl | ((with_reducible refine eqId ?_); exact rfl) | with_reducible (first | assumption | exact pl ‹_› | exact pr ‹_› | exact plr ‹_› | exact pll ‹_› | exact prl ‹_› | exact plll ‹_› | exact prll ‹_›))
  first | refine CallK.one (eqDet (detRunA l v w l.length).1 (detRunA l v w l.length).1 _ _ _ _ hr) (fun _ => amC) ?_ | refine CallE.one (eqDet (detRunA l v w l.length).1 (detRunA l v w l.length).1 _ _ _ _ hr) (fun _ => amC) rfl ?_ | refine CallG.one rfl (fun hg => eqDet (detRunA l v w l.length).1 (detRunA l v w l.length).1 _ _ _ _ hr) ?_ | refine CallEG.one rfl rfl (fun hg => eqDet (detRunA l v w l.length).1 (detRunA l v w l.length).1 _ _ _ _ hr) ?_
  (try refine am (h := ?_)); (try with_reducible apply True.intro)
  (try refine am (h := ?_)); (try simp only [eq_self]); (try refine am (h := ?_)); (try with_reducible apply True.intro)
  repeat' (first | (with_reducible refine And.intro ?_ ?_) | (with_reducible intro _))
  all_goals try (first | omega | with_reducible rfl | ((with_reducible refine eqId ?_); exact rfl) | with_reducible (first | assumption | exact pl ‹_› | exact pr ‹_› | exact plr ‹_› | exact pll ‹_› | exact prl ‹_› | exact plll ‹_› | exact prll ‹_›))
  first | refine CallK.one (eqIntS (detRunA l v w l.length).2 (detRunA l v w l.length).2 _ _ _ _ hr2) (fun _ => amC) ?_ | refine CallE.one (eqIntS (detRunA l v w l.length).2 (detRunA l v w l.length).2 _ _ _ _ hr2) (fun _ => amC) rfl ?_ | refine CallG.one rfl (fun hg => eqIntS (detRunA l v w l.length).2 (detRunA l v w l.length).2 _ _ _ _ hr2) ?_ | refine CallEG.one rfl rfl (fun hg => eqIntS (detRunA l v w l.length).2 (detRunA l v w l.length).2 _ _ _ _ hr2) ?_
  (try refine am (h := ?_)); (try with_reducible apply True.intro)
  (try refine am (h := ?_)); (try simp only [eq_self]); (try refine am (h := ?_)); (try with_reducible apply True.intro)
  repeat' (first | (with_reducible refine And.intro ?_ ?_) | (with_reducible intro _))
  all_goals try (first | omega | with_reducible rfl | ((with_reducible refine eqId ?_); exact rfl) | with_reducible (first | assumption | exact pl ‹_› | exact pr ‹_› | exact plr ‹_› | exact pll ‹_› | exact prl ‹_› | exact plll ‹_› | exact prll ‹_›))
  first | refine CallK.one (heldDet (detRunA l v w l.length).1 (1 : Int) _ _ hr (by omega) (by omega)) (fun _ => amC) ?_ | refine CallE.one (heldDet (detRunA l v w l.length).1 (1 : Int) _ _ hr (by omega) (by omega)) (fun _ => amC) rfl ?_ | refine CallG.one rfl (fun hg => heldDet (detRunA l v w l.length).1 (1 : Int) _ _ hr (by omega) (by omega)) ?_ | refine CallEG.one rfl rfl (fun hg => heldDet (detRunA l v w l.length).1 (1 : Int) _ _ hr (by omega) (by omega)) ?_
  (try refine am (h := ?_)); (try with_reducible apply True.intro)
  refine ⟨fun hh => absurd hh (by omega), fun _ => ?_⟩
  first | refine CallK.one (heldI (detRunA l v w l.length).2 (((1 : Int) + tot (detRunA l v w l.length).1.warn) + tot (detRunA l v w l.length).1.drift) _ _ hr2 (by omega) (by omega)) (fun _ => amC) ?_ | refine CallE.one (heldI (detRunA l v w l.length).2 (((1 : Int) + tot (detRunA l v w l.length).1.warn) + tot (detRunA l v w l.length).1.drift) _ _ hr2 (by omega) (by omega)) (fun _ => amC) rfl ?_ | refine CallG.one rfl (fun hg => heldI (detRunA l v w l.length).2 (((1 : Int) + tot (detRunA l v w l.length).1.warn) + tot (detRunA l v w l.length).1.drift) _ _ hr2 (by omega) (by omega)) ?_ | refine CallEG.one rfl rfl (fun hg => heldI (detRunA l v w l.length).2 (((1 : Int) + tot (detRunA l v w l.length).1.warn) + tot (detRunA l v w l.length).1.drift) _ _ hr2 (by omega) (by omega)) ?_
  (try refine am (h := ?_)); (try with_reducible apply True.intro)
  refine ⟨fun hh => absurd hh (by omega), fun _ => ?_⟩
  refine FinK.val1 ?_ ?_
  all_goals (try refine amF (h := ?_))
  all_goals (try with_reducible apply True.intro)
end Go.AM
