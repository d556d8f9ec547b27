/- Lemmas for the proof of this claim. -/
import Derived.Test.YteggckdmicnijaaGreatSay
import Derived.Test.YteggckdmicnijaaGreatMrk2
namespace Go.AM
open Go Go.Proofs
set_option maxRecDepth 100000
set_option maxHeartbeats 8000000 in
theorem fnExactForestSays (c : DConf) (f : DForest) (x : DEx) (hc : okConf (2 ^ 47) c) (hf : okForest (2 ^ 47) f) (hx : okEx (2 ^ 47) x) : ACalls Tryz.prog 8 [.agg (cConf false false c), .agg (cForest false false f), .agg (cEx false false x)] (fun r => r = .val (.one (.bool true))) := by
  have nt : Tryz.f8.ntmps = 142 := rfl
  have rs : Tryz.f8.results = #[.tmp 6] := rfl
  refine ACalls.of_run (m := 400) mixed Tryz.func8 rfl rfl (Nat.le_of_ble_eq_true rfl) ?_
  simp only [nt, rs]
  clear nt rs
  (try refine am (h := ?_)); (try with_reducible apply True.intro)
  first | refine CallK.one (szConf c 1048576 false false hc (by omega) (by omega)) (fun _ => amC) ?_ | refine CallE.one (szConf c 1048576 false false hc (by omega) (by omega)) (fun _ => amC) rfl ?_ | refine CallG.one rfl (fun hg => szConf c 1048576 false false hc (by omega) (by omega)) ?_ | refine CallEG.one rfl rfl (fun hg => szConf c 1048576 false false hc (by omega) (by omega)) ?_
  (try refine am (h := ?_)); (try with_reducible apply True.intro)
  rcases less_cases 1048576 (zConf c) with ⟨hcc, e⟩ | ⟨hcc, e⟩
  · (try refine am (h := ?_)); (try simp only [e]); (try refine am (h := ?_)); (try with_reducible apply True.intro)
    refine FinK.val1 ?_ ?_
    all_goals (try refine amF (h := ?_))
    all_goals (try with_reducible apply True.intro)
  (try refine am (h := ?_)); (try simp only [e]); (try refine am (h := ?_)); (try with_reducible apply True.intro)
  repeat' (first | (with_reducible refine And.intro ?_ ?_) | (with_reducible intro _))
  all_goals try (first | omega | with_reducible rfl | ((with_reducible refine eqId ?_); exact rfl) | with_reducible (first | assumption | exact pl ‹_› | exact pr ‹_› | exact plr ‹_› | exact pll ‹_› | exact prl ‹_› | exact plll ‹_› | exact prll ‹_›))
  first | refine CallK.one (szForest f (1048576 - (zConf c : Nat)) false false hf (by omega) (by omega)) (fun _ => amC) ?_ | refine CallE.one (szForest f (1048576 - (zConf c : Nat)) false false hf (by omega) (by omega)) (fun _ => amC) rfl ?_ | refine CallG.one rfl (fun hg => szForest f (1048576 - (zConf c : Nat)) false false hf (by omega) (by omega)) ?_ | refine CallEG.one rfl rfl (fun hg => szForest f (1048576 - (zConf c : Nat)) false false hf (by omega) (by omega)) ?_
  (try refine am (h := ?_)); (try with_reducible apply True.intro)
  rcases less_cases (1048576 - (zConf c : Nat)) (zForest f) with ⟨hcf, e⟩ | ⟨hcf, e⟩
  · (try refine am (h := ?_)); (try simp only [e]); (try refine am (h := ?_)); (try with_reducible apply True.intro)
    refine FinK.val1 ?_ ?_
    all_goals (try refine amF (h := ?_))
    all_goals (try with_reducible apply True.intro)
  (try refine am (h := ?_)); (try simp only [e]); (try refine am (h := ?_)); (try with_reducible apply True.intro)
  repeat' (first | (with_reducible refine And.intro ?_ ?_) | (with_reducible intro _))
  all_goals try (first | omega | with_reducible rfl | ((with_reducible refine eqId ?_); exact rfl) | with_reducible (first | assumption | exact pl ‹_› | exact pr ‹_› | exact plr ‹_› | exact pll ‹_› | exact prl ‹_› | exact plll ‹_› | exact prll ‹_›))
  first | refine CallK.one (szEx x ((1048576 - (zConf c : Nat)) - (zForest f : Nat)) false false hx (by omega) (by omega)) (fun _ => amC) ?_ | refine CallE.one (szEx x ((1048576 - (zConf c : Nat)) - (zForest f : Nat)) false false hx (by omega) (by omega)) (fun _ => amC) rfl ?_ | refine CallG.one rfl (fun hg => szEx x ((1048576 - (zConf c : Nat)) - (zForest f : Nat)) false false hx (by omega) (by omega)) ?_ | refine CallEG.one rfl rfl (fun hg => szEx x ((1048576 - (zConf c : Nat)) - (zForest f : Nat)) false false hx (by omega) (by omega)) ?_
  (try refine am (h := ?_)); (try with_reducible apply True.intro)
  rcases less_cases ((1048576 - (zConf c : Nat)) - (zForest f : Nat)) (zEx x) with ⟨hcx, e⟩ | ⟨hcx, e⟩
  · (try refine am (h := ?_)); (try simp only [e]); (try refine am (h := ?_)); (try with_reducible apply True.intro)
    refine FinK.val1 ?_ ?_
    all_goals (try refine amF (h := ?_))
    all_goals (try with_reducible apply True.intro)
  (try refine am (h := ?_)); (try simp only [e]); (try refine am (h := ?_)); (try with_reducible apply True.intro)
  repeat' (first | (with_reducible refine And.intro ?_ ?_) | (with_reducible intro _))
  all_goals try (first | omega | with_reducible rfl | ((with_reducible refine eqId ?_); exact rfl) | with_reducible (first | assumption | exact pl ‹_› | exact pr ‹_› | exact plr ‹_› | exact pll ‹_› | exact prl ‹_› | exact plll ‹_› | exact prll ‹_›))
  have sc : zConf c ≤ 1048576 := by omega
  have hc2 : okConf (2 ^ 40) c := okConf_sz hc (by omega)
  have sf : zForest f ≤ 1048576 := by omega
  have hf2 : okForest (2 ^ 40) f := okForest_sz hf (by omega)
  have sx : zEx x ≤ 1048576 := by omega
  have hx2 : okEx (2 ^ 40) x := okEx_sz hx (by omega)
  have fc := nAttr_z c.schema
  have fc2 : zConf c = zSchema c.schema := rfl
  have ff := nMember_z f
  have fx : zEx x = x.bins.length := rfl
  have fl : zForest f = f.members.length + sm zMember f.members := rfl
  have hr := votesA_ok c f x
  have hrl := hr.1
  first | refine CallK.one (toConf c false false hc2) (fun _ => amC) ?_ | refine CallE.one (toConf c false false hc2) (fun _ => amC) rfl ?_ | refine CallG.one rfl (fun hg => toConf c false false hc2) ?_ | refine CallEG.one rfl rfl (fun hg => toConf c false false hc2) ?_
  (try refine am (h := ?_)); (try with_reducible apply True.intro)
  repeat' (first | (with_reducible refine And.intro ?_ ?_) | (with_reducible intro _))
  all_goals try (first | omega | with_reducible rfl | ((with_reducible refine eqId ?_); exact rfl) | with_reducible (first | assumption | exact pl ‹_› | exact pr ‹_› | exact plr ‹_› | exact pll ‹_› | exact prl ‹_› | exact plll ‹_› | exact prll ‹_›))
  first | refine CallK.one (toForest f false false hf2) (fun _ => amC) ?_ | refine CallE.one (toForest f false false hf2) (fun _ => amC) rfl ?_ | refine CallG.one rfl (fun hg => toForest f false false hf2) ?_ | refine CallEG.one rfl rfl (fun hg => toForest f false false hf2) ?_
  (try refine am (h := ?_)); (try with_reducible apply True.intro)
  repeat' (first | (with_reducible refine And.intro ?_ ?_) | (with_reducible intro _))
  all_goals try (first | omega | with_reducible rfl | ((with_reducible refine eqId ?_); exact rfl) | with_reducible (first | assumption | exact pl ‹_› | exact pr ‹_› | exact plr ‹_› | exact pll ‹_› | exact prl ‹_› | exact plll ‹_› | exact prll ‹_›))
  first | refine CallK.one (toEx x false false hx2) (fun _ => amC) ?_ | refine CallE.one (toEx x false false hx2) (fun _ => amC) rfl ?_ | refine CallG.one rfl (fun hg => toEx x false false hx2) ?_ | refine CallEG.one rfl rfl (fun hg => toEx x false false hx2) ?_
  (try refine am (h := ?_)); (try with_reducible apply True.intro)
  repeat' (first | (with_reducible refine And.intro ?_ ?_) | (with_reducible intro _))
  all_goals try (first | omega | with_reducible rfl | ((with_reducible refine eqId ?_); exact rfl) | with_reducible (first | assumption | exact pl ‹_› | exact pr ‹_› | exact plr ‹_› | exact pll ‹_› | exact prl ‹_› | exact plll ‹_› | exact prll ‹_›))
  first | refine CallK.one (specForestSays c f x _ _ _ _ _ hc hf (by omega) hx) (fun _ => amC) ?_ | refine CallE.one (specForestSays c f x _ _ _ _ _ hc hf (by omega) hx) (fun _ => amC) rfl ?_ | refine CallG.one rfl (fun hg => specForestSays c f x _ _ _ _ _ hc hf (by omega) hx) ?_ | refine CallEG.one rfl rfl (fun hg => specForestSays c f x _ _ _ _ _ hc hf (by omega) hx) ?_
  (try refine am (h := ?_)); (try with_reducible apply True.intro)
  repeat' (first | (with_reducible refine And.intro ?_ ?_) | (with_reducible intro _))
  all_goals try (first | omega | with_reducible rfl | ((with_reducible refine eqId ?_); exact rfl) | with_reducible (first | assumption | exact pl ‹_› | exact pr ‹_› | exact plr ‹_› | exact pll ‹_› | exact prl ‹_› | exact plll ‹_› | exact prll ‹_›))
  first | refine CallK.one (toConf c false false hc2) (fun _ => amC) ?_ | refine CallE.one (toConf c false false hc2) (fun _ => amC) rfl ?_ | refine CallG.one rfl (fun hg => toConf c false false hc2) ?_ | refine CallEG.one rfl rfl (fun hg => toConf c false false hc2) ?_
  (try refine am (h := ?_)); (try with_reducible apply True.intro)
  repeat' (first | (with_reducible refine And.intro ?_ ?_) | (with_reducible intro _))
  all_goals try (first | omega | with_reducible rfl | ((with_reducible refine eqId ?_); exact rfl) | with_reducible (first | assumption | exact pl ‹_› | exact pr ‹_› | exact plr ‹_› | exact pll ‹_› | exact prl ‹_› | exact plll ‹_› | exact prll ‹_›))
  first | refine CallK.one (toForest f false false hf2) (fun _ => amC) ?_ | refine CallE.one (toForest f false false hf2) (fun _ => amC) rfl ?_ | refine CallG.one rfl (fun hg => toForest f false false hf2) ?_ | refine CallEG.one rfl rfl (fun hg => toForest f false false hf2) ?_
  (try refine am (h := ?_)); (try with_reducible apply True.intro)
  repeat' (first | (with_reducible refine And.intro ?_ ?_) | (with_reducible intro _))
  all_goals try (first | omega | with_reducible rfl | ((with_reducible refine eqId ?_); exact rfl) | with_reducible (first | assumption | exact pl ‹_› | exact pr ‹_› | exact plr ‹_› | exact pll ‹_› | exact prl ‹_› | exact plll ‹_› | exact prll ‹_›))
  first | refine CallK.one (toEx x false false hx2) (fun _ => amC) ?_ | refine CallE.one (toEx x false false hx2) (fun _ => amC) rfl ?_ | refine CallG.one rfl (fun hg => toEx x false false hx2) ?_ | refine CallEG.one rfl rfl (fun hg => toEx x false false hx2) ?_
  (try refine am (h := ?_)); (try with_reducible apply True.intro)
  repeat' (first | (with_reducible refine And.intro ?_ ?_) | (with_reducible intro _))
  all_goals try (first | omega | with_reducible rfl | ((with_reducible refine eqId ?_); exact rfl) | with_reducible (first | assumption | exact pl ‹_› | exact pr ‹_› | exact plr ‹_› | exact pll ‹_› | exact prl ‹_› | exact plll ‹_› | exact prll ‹_›))
  first | refine CallK.one (implForestSays c f x _ _ _ _ _ hc hf (by omega) hx) (fun _ => amC) ?_ | refine CallE.one (implForestSays c f x _ _ _ _ _ hc hf (by omega) hx) (fun _ => amC) rfl ?_ | refine CallG.one rfl (fun hg => implForestSays c f x _ _ _ _ _ hc hf (by omega) hx) ?_ | refine CallEG.one rfl rfl (fun hg => implForestSays c f x _ _ _ _ _ hc hf (by omega) hx) ?_
  (try refine am (h := ?_)); (try with_reducible apply True.intro)
  repeat' (first | (with_reducible refine And.intro ?_ ?_) | (with_reducible intro _))
  all_goals try (first | omega | with_reducible rfl | ((with_reducible refine eqId ?_); exact rfl) | with_reducible (first | assumption | exact pl ‹_› | exact pr ‹_› | exact plr ‹_› | exact pll ‹_› | exact prl ‹_› | exact plll ‹_› | exact prll ‹_›))
  first | refine CallK.one (eqIntS (votesA c f x) (votesA c f x) _ _ _ _ hr) (fun _ => amC) ?_ | refine CallE.one (eqIntS (votesA c f x) (votesA c f x) _ _ _ _ hr) (fun _ => amC) rfl ?_ | refine CallG.one rfl (fun hg => eqIntS (votesA c f x) (votesA c f x) _ _ _ _ hr) ?_ | refine CallEG.one rfl rfl (fun hg => eqIntS (votesA c f x) (votesA c f x) _ _ _ _ hr) ?_
  (try refine am (h := ?_)); (try with_reducible apply True.intro)
  (try refine am (h := ?_)); (try simp only [eq_self]); (try refine am (h := ?_)); (try with_reducible apply True.intro)
  repeat' (first | (with_reducible refine And.intro ?_ ?_) | (with_reducible intro _))
  all_goals try (first | omega | with_reducible rfl | ((with_reducible refine eqId ?_); exact rfl) | with_reducible (first | assumption | exact pl ‹_› | exact pr ‹_› | exact plr ‹_› | exact pll ‹_› | exact prl ‹_› | exact plll ‹_› | exact prll ‹_›))
  first | refine CallK.one (toConf c false false hc2) (fun _ => amC) ?_ | refine CallE.one (toConf c false false hc2) (fun _ => amC) rfl ?_ | refine CallG.one rfl (fun hg => toConf c false false hc2) ?_ | refine CallEG.one rfl rfl (fun hg => toConf c false false hc2) ?_
  (try refine am (h := ?_)); (try with_reducible apply True.intro)
  first | refine CallK.one (eqConf c c _ _ _ _ hc) (fun _ => amC) ?_ | refine CallE.one (eqConf c c _ _ _ _ hc) (fun _ => amC) rfl ?_ | refine CallG.one rfl (fun hg => eqConf c c _ _ _ _ hc) ?_ | refine CallEG.one rfl rfl (fun hg => eqConf c c _ _ _ _ hc) ?_
  (try refine am (h := ?_)); (try with_reducible apply True.intro)
  repeat' (first | (with_reducible refine And.intro ?_ ?_) | (with_reducible intro _))
  all_goals try (first | omega | with_reducible rfl | ((with_reducible refine eqId ?_); exact rfl) | with_reducible (first | assumption | exact pl ‹_› | exact pr ‹_› | exact plr ‹_› | exact pll ‹_› | exact prl ‹_› | exact plll ‹_› | exact prll ‹_›))
  first | refine CallK.one (toForest f false false hf2) (fun _ => amC) ?_ | refine CallE.one (toForest f false false hf2) (fun _ => amC) rfl ?_ | refine CallG.one rfl (fun hg => toForest f false false hf2) ?_ | refine CallEG.one rfl rfl (fun hg => toForest f false false hf2) ?_
  (try refine am (h := ?_)); (try with_reducible apply True.intro)
  first | refine CallK.one (eqForest f f _ _ _ _ hf) (fun _ => amC) ?_ | refine CallE.one (eqForest f f _ _ _ _ hf) (fun _ => amC) rfl ?_ | refine CallG.one rfl (fun hg => eqForest f f _ _ _ _ hf) ?_ | refine CallEG.one rfl rfl (fun hg => eqForest f f _ _ _ _ hf) ?_
  (try refine am (h := ?_)); (try with_reducible apply True.intro)
  repeat' (first | (with_reducible refine And.intro ?_ ?_) | (with_reducible intro _))
  all_goals try (first | omega | with_reducible rfl | ((with_reducible refine eqId ?_); exact rfl) | with_reducible (first | assumption | exact pl ‹_› | exact pr ‹_› | exact plr ‹_› | exact pll ‹_› | exact prl ‹_› | exact plll ‹_› | exact prll ‹_›))
  first | refine CallK.one (toEx x false false hx2) (fun _ => amC) ?_ | refine CallE.one (toEx x false false hx2) (fun _ => amC) rfl ?_ | refine CallG.one rfl (fun hg => toEx x false false hx2) ?_ | refine CallEG.one rfl rfl (fun hg => toEx x false false hx2) ?_
  (try refine am (h := ?_)); (try with_reducible apply True.intro)
  first | refine CallK.one (eqEx x x _ false _ false hx) (fun _ => amC) ?_ | refine CallE.one (eqEx x x _ false _ false hx) (fun _ => amC) rfl ?_ | refine CallG.one rfl (fun hg => eqEx x x _ false _ false hx) ?_ | refine CallEG.one rfl rfl (fun hg => eqEx x x _ false _ false hx) ?_
  (try refine am (h := ?_)); (try with_reducible apply True.intro)
  repeat' (first | (with_reducible refine And.intro ?_ ?_) | (with_reducible intro _))
  all_goals try (first | omega | with_reducible rfl | ((with_reducible refine eqId ?_); exact rfl) | with_reducible (first | assumption | exact pl ‹_› | exact pr ‹_› | exact plr ‹_› | exact pll ‹_› | exact prl ‹_› | exact plll ‹_› | exact prll ‹_›))
  refine CallK.wrap w_markConf rfl ?_
  refine partsM_one (markAttrS c.schema.attrs (1 : Int) none hc.1.1 (by omega) (by omega)) rfl ?wb1 ?wc1 ?wd1 ?we1
  case wb1 => (try refine am (h := ?_)); (try with_reducible apply True.intro)
  case wc1 => exact rfl
  case wd1 => exact rfl
  refine partsM_one (markStringS c.schema.classes ((1 : Int) + sm nAttr c.schema.attrs) none hc.1.2.1 (by omega) (by omega)) rfl ?wb2 ?wc2 ?wd2 ?we2
  case wb2 => (try refine am (h := ?_)); (try with_reducible apply True.intro)
  case wc2 => exact rfl
  case wd2 => exact rfl
  refine partsM_nil ?_
  (try refine am (h := ?_)); (try with_reducible apply True.intro)
  refine CallK.wrap w_markForest rfl ?_
  refine partsM_one (markMemberS f.members (((1 : Int) + sm nAttr c.schema.attrs) + c.schema.classes.length) none hf (by omega) (by omega)) rfl ?wb3 ?wc3 ?wd3 ?we3
  case wb3 => (try refine am (h := ?_)); (try with_reducible apply True.intro)
  case wc3 => exact rfl
  case wd3 => exact rfl
  refine partsM_nil ?_
  (try refine am (h := ?_)); (try with_reducible apply True.intro)
  refine CallK.wrap w_markEx rfl ?_
  refine partsM_one (markIntS x.bins ((((1 : Int) + sm nAttr c.schema.attrs) + c.schema.classes.length) + sm nMember f.members) none hx.1 (by omega) (by omega)) rfl ?wb4 ?wc4 ?wd4 ?we4
  case wb4 => (try refine am (h := ?_)); (try with_reducible apply True.intro)
  case wc4 => exact rfl
  case wd4 => exact rfl
  refine partsM_nil ?_
  (try refine am (h := ?_)); (try with_reducible apply True.intro)
  have hk : ¬ ((((((1 : Int) + sm nAttr c.schema.attrs) + c.schema.classes.length) + sm nMember f.members) + x.bins.length) < 0) := by omega
  (try refine am (h := ?_)); (try simp only [hk]); (try refine am (h := ?_)); (try with_reducible apply True.intro)
  first | refine CallK.one (eqIntS (votesA c f x) (votesA c f x) _ _ _ _ hr) (fun _ => amC) ?_ | refine CallE.one (eqIntS (votesA c f x) (votesA c f x) _ _ _ _ hr) (fun _ => amC) rfl ?_ | refine CallG.one rfl (fun hg => eqIntS (votesA c f x) (votesA c f x) _ _ _ _ hr) ?_ | refine CallEG.one rfl rfl (fun hg => eqIntS (votesA c f x) (votesA c f x) _ _ _ _ hr) ?_
  (try refine am (h := ?_)); (try with_reducible apply True.intro)
  (try refine am (h := ?_)); (try simp only [eq_self]); (try refine am (h := ?_)); (try with_reducible apply True.intro)
  repeat' (first | (with_reducible refine And.intro ?_ ?_) | (with_reducible intro _))
  all_goals try (first | omega | with_reducible rfl | ((with_reducible refine eqId ?_); exact rfl) | with_reducible (first | assumption | exact pl ‹_› | exact pr ‹_› | exact plr ‹_› | exact pll ‹_› | exact prl ‹_› | exact plll ‹_› | exact prll ‹_›))
  (try refine am (h := ?_)); (try simp only [hk]); (try refine am (h := ?_)); (try with_reducible apply True.intro)
  refine CallK.mut (markIntS (votesA c f x) (1 : Int) none hr (by omega) (by omega)) rfl rfl rfl ?_
  (try refine am (h := ?_)); (try with_reducible apply True.intro)
  first | refine CallK.one (heldI (votesA c f x) (1 : Int) _ _ hr (by omega) (by omega)) (fun _ => amC) ?_ | refine CallE.one (heldI (votesA c f x) (1 : Int) _ _ hr (by omega) (by omega)) (fun _ => amC) rfl ?_ | refine CallG.one rfl (fun hg => heldI (votesA c f x) (1 : Int) _ _ hr (by omega) (by omega)) ?_ | refine CallEG.one rfl rfl (fun hg => heldI (votesA c f x) (1 : Int) _ _ hr (by omega) (by omega)) ?_
  (try refine am (h := ?_)); (try with_reducible apply True.intro)
  refine ⟨fun hh => absurd hh (by omega), fun _ => ?_⟩
  repeat' (first | (with_reducible refine And.intro ?_ ?_) | (with_reducible intro _))
  all_goals try (first | omega | with_reducible rfl | ((with_reducible refine eqId ?_); exact rfl) | with_reducible (first | assumption | exact pl ‹_› | exact pr ‹_› | exact plr ‹_› | exact pll ‹_› | exact prl ‹_› | exact plll ‹_› | exact prll ‹_›))
  first | refine CallK.one (toConf c false false hc2) (fun _ => amC) ?_ | refine CallE.one (toConf c false false hc2) (fun _ => amC) rfl ?_ | refine CallG.one rfl (fun hg => toConf c false false hc2) ?_ | refine CallEG.one rfl rfl (fun hg => toConf c false false hc2) ?_
  (try refine am (h := ?_)); (try with_reducible apply True.intro)
  repeat' (first | (with_reducible refine And.intro ?_ ?_) | (with_reducible intro _))
  all_goals try (first | omega | with_reducible rfl | ((with_reducible refine eqId ?_); exact rfl) | with_reducible (first | assumption | exact pl ‹_› | exact pr ‹_› | exact plr ‹_› | exact pll ‹_› | exact prl ‹_› | exact plll ‹_› | exact prll ‹_›))
  first | refine CallK.one (toForest f false false hf2) (fun _ => amC) ?_ | refine CallE.one (toForest f false false hf2) (fun _ => amC) rfl ?_ | refine CallG.one rfl (fun hg => toForest f false false hf2) ?_ | refine CallEG.one rfl rfl (fun hg => toForest f false false hf2) ?_
  (try refine am (h := ?_)); (try with_reducible apply True.intro)
  repeat' (first | (with_reducible refine And.intro ?_ ?_) | (with_reducible intro _))
  all_goals try (first | omega | with_reducible rfl | ((with_reducible refine eqId ?_); exact rfl) | with_reducible (first | assumption | exact pl ‹_› | exact pr ‹_› | exact plr ‹_› | exact pll ‹_› | exact prl ‹_› | exact plll ‹_› | exact prll ‹_›))
  first | refine CallK.one (toEx x false false hx2) (fun _ => amC) ?_ | refine CallE.one (toEx x false false hx2) (fun _ => amC) rfl ?_ | refine CallG.one rfl (fun hg => toEx x false false hx2) ?_ | refine CallEG.one rfl rfl (fun hg => toEx x false false hx2) ?_
  (try refine am (h := ?_)); (try with_reducible apply True.intro)
  repeat' (first | (with_reducible refine And.intro ?_ ?_) | (with_reducible intro _))
  all_goals try (first | omega | with_reducible rfl | ((with_reducible refine eqId ?_); exact rfl) | with_reducible (first | assumption | exact pl ‹_› | exact pr ‹_› | exact plr ‹_› | exact pll ‹_› | exact prl ‹_› | exact plll ‹_› | exact prll ‹_›))
  first | refine CallK.one (implForestSays c f x _ _ _ _ _ hc hf (by omega) hx) (fun _ => amC) ?_ | refine CallE.one (implForestSays c f x _ _ _ _ _ hc hf (by omega) hx) (fun _ => amC) rfl ?_ | refine CallG.one rfl (fun hg => implForestSays c f x _ _ _ _ _ hc hf (by omega) hx) ?_ | refine CallEG.one rfl rfl (fun hg => implForestSays c f x _ _ _ _ _ hc hf (by omega) hx) ?_
  (try refine am (h := ?_)); (try with_reducible apply True.intro)
  repeat' (first | (with_reducible refine And.intro ?_ ?_) | (with_reducible intro _))
  all_goals try (first | omega | with_reducible rfl | ((with_reducible refine eqId ?_); exact rfl) | with_reducible (first | assumption | exact pl ‹_› | exact pr ‹_› | exact plr ‹_› | exact pll ‹_› | exact prl ‹_› | exact plll ‹_› | exact prll ‹_›))
  first | refine CallK.one (eqIntS (votesA c f x) (votesA c f x) _ _ _ _ hr) (fun _ => amC) ?_ | refine CallE.one (eqIntS (votesA c f x) (votesA c f x) _ _ _ _ hr) (fun _ => amC) rfl ?_ | refine CallG.one rfl (fun hg => eqIntS (votesA c f x) (votesA c f x) _ _ _ _ hr) ?_ | refine CallEG.one rfl rfl (fun hg => eqIntS (votesA c f x) (votesA c f x) _ _ _ _ hr) ?_
  (try refine am (h := ?_)); (try with_reducible apply True.intro)
  (try refine am (h := ?_)); (try simp only [eq_self]); (try refine am (h := ?_)); (try with_reducible apply True.intro)
  repeat' (first | (with_reducible refine And.intro ?_ ?_) | (with_reducible intro _))
  all_goals try (first | omega | with_reducible rfl | ((with_reducible refine eqId ?_); exact rfl) | with_reducible (first | assumption | exact pl ‹_› | exact pr ‹_› | exact plr ‹_› | exact pll ‹_› | exact prl ‹_› | exact plll ‹_› | exact prll ‹_›))
  first | refine CallK.one (heldI (votesA c f x) (1 : Int) _ _ hr (by omega) (by omega)) (fun _ => amC) ?_ | refine CallE.one (heldI (votesA c f x) (1 : Int) _ _ hr (by omega) (by omega)) (fun _ => amC) rfl ?_ | refine CallG.one rfl (fun hg => heldI (votesA c f x) (1 : Int) _ _ hr (by omega) (by omega)) ?_ | refine CallEG.one rfl rfl (fun hg => heldI (votesA c f x) (1 : Int) _ _ hr (by omega) (by omega)) ?_
  (try refine am (h := ?_)); (try with_reducible apply True.intro)
  refine ⟨fun hh => absurd hh (by omega), fun _ => ?_⟩
  refine FinK.val1 ?_ ?_
  all_goals (try refine amF (h := ?_))
  all_goals (try with_reducible apply True.intro)
end Go.AM
