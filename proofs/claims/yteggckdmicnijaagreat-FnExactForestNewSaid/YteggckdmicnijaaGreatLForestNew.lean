/- Lemmas for the proof of this claim. -/
import Derived.Test.YteggckdmicnijaaGreatTap
import Derived.Test.YteggckdmicnijaaGreatMrk3
import Derived.Test.YteggckdmicnijaaGreatMrk2
namespace Go.AM
open Go Go.Proofs
set_option maxRecDepth 100000
set_option maxHeartbeats 8000000 in
theorem fnExactForestNew (c : DConf) (x : DTape) (hc : okConf (2 ^ 47) c) (hx : okTape (2 ^ 47) x) : ACalls Tryz.prog 4 [.agg (cConf false false c), .agg (cTape false false x)] (fun r => r = .val (.one (.bool true))) := by
  have nt : Tryz.f4.ntmps = 156 := rfl
  have rs : Tryz.f4.results = #[.tmp 4] := rfl
  refine ACalls.of_run (m := 400) mixed Tryz.func4 rfl rfl (Nat.le_of_ble_eq_true rfl) ?_
  simp only [nt, rs]
  clear nt rs
  (try refine am (h := ?_)); (try with_reducible apply True.intro)
  first | refine CallK.one (szConf c 1048576 false false hc (by omega) (by omega)) (fun _ => amC) ?_ | refine CallE.one (szConf c 1048576 false false hc (by omega) (by omega)) (fun _ => amC) rfl ?_ | refine CallG.one rfl (fun hg => szConf c 1048576 false false hc (by omega) (by omega)) ?_ | refine CallEG.one rfl rfl (fun hg => szConf c 1048576 false false hc (by omega) (by omega)) ?_
  (try refine am (h := ?_)); (try with_reducible apply True.intro)
  rcases less_cases 1048576 (zConf c) with ⟨hcc, e⟩ | ⟨hcc, e⟩
  · (try refine am (h := ?_)); (try simp only [e]); (try refine am (h := ?_)); (try with_reducible apply True.intro)
    refine FinK.val1 ?_ ?_
    all_goals (try refine amF (h := ?_))
    all_goals (try with_reducible apply True.intro)
  (try refine am (h := ?_)); (try simp only [e]); (try refine am (h := ?_)); (try with_reducible apply True.intro)
  repeat' (first | (with_reducible refine And.intro ?_ ?_) | (with_reducible intro _))
  all_goals try (first | omega | with_reducible rfl | ((with_reducible refine eqId ?_); exact rfl) | with_reducible (first | assumption | exact pl ‹_› | exact pr ‹_› | exact plr ‹_› | exact pll ‹_› | exact prl ‹_› | exact plll ‹_› | exact prll ‹_›))
  first | refine CallK.one (szTape x (1048576 - (zConf c : Nat)) false false hx (by omega) (by omega)) (fun _ => amC) ?_ | refine CallE.one (szTape x (1048576 - (zConf c : Nat)) false false hx (by omega) (by omega)) (fun _ => amC) rfl ?_ | refine CallG.one rfl (fun hg => szTape x (1048576 - (zConf c : Nat)) false false hx (by omega) (by omega)) ?_ | refine CallEG.one rfl rfl (fun hg => szTape x (1048576 - (zConf c : Nat)) false false hx (by omega) (by omega)) ?_
  (try refine am (h := ?_)); (try with_reducible apply True.intro)
  rcases less_cases (1048576 - (zConf c : Nat)) (zTape x) with ⟨hcx, e⟩ | ⟨hcx, e⟩
  · (try refine am (h := ?_)); (try simp only [e]); (try refine am (h := ?_)); (try with_reducible apply True.intro)
    refine FinK.val1 ?_ ?_
    all_goals (try refine amF (h := ?_))
    all_goals (try with_reducible apply True.intro)
  (try refine am (h := ?_)); (try simp only [e]); (try refine am (h := ?_)); (try with_reducible apply True.intro)
  repeat' (first | (with_reducible refine And.intro ?_ ?_) | (with_reducible intro _))
  all_goals try (first | omega | with_reducible rfl | ((with_reducible refine eqId ?_); exact rfl) | with_reducible (first | assumption | exact pl ‹_› | exact pr ‹_› | exact plr ‹_› | exact pll ‹_› | exact prl ‹_› | exact plll ‹_› | exact prll ‹_›))
  have sc : zConf c ≤ 1048576 := by omega
  have hc2 : okConf (2 ^ 40) c := okConf_sz hc (by omega)
  have sx : zTape x ≤ 1048576 := by omega
  have hx2 : okTape (2 ^ 40) x := okTape_sz hx (by omega)
  have fc := nAttr_z c.schema
  have fc2 : zConf c = zSchema c.schema := rfl
  have fx : zTape x = x.bytes.length := rfl
  obtain ⟨hr, hrn⟩ := forNew_ok c x
  have hr2 := (forTape_ok (c := c) hx).1
  have hrb : (forTape c x).bytes.length = x.bytes.length := congrArg List.length (forTape_ok (c := c) hx).2
  first | refine CallK.one (toConf c false false hc2) (fun _ => amC) ?_ | refine CallE.one (toConf c false false hc2) (fun _ => amC) rfl ?_ | refine CallG.one rfl (fun hg => toConf c false false hc2) ?_ | refine CallEG.one rfl rfl (fun hg => toConf c false false hc2) ?_
  (try refine am (h := ?_)); (try with_reducible apply True.intro)
  repeat' (first | (with_reducible refine And.intro ?_ ?_) | (with_reducible intro _))
  all_goals try (first | omega | with_reducible rfl | ((with_reducible refine eqId ?_); exact rfl) | with_reducible (first | assumption | exact pl ‹_› | exact pr ‹_› | exact plr ‹_› | exact pll ‹_› | exact prl ‹_› | exact plll ‹_› | exact prll ‹_›))
  first | refine CallK.one (toTape x false false hx2) (fun _ => amC) ?_ | refine CallE.one (toTape x false false hx2) (fun _ => amC) rfl ?_ | refine CallG.one rfl (fun hg => toTape x false false hx2) ?_ | refine CallEG.one rfl rfl (fun hg => toTape x false false hx2) ?_
  (try refine am (h := ?_)); (try with_reducible apply True.intro)
  repeat' (first | (with_reducible refine And.intro ?_ ?_) | (with_reducible intro _))
  all_goals try (first | omega | with_reducible rfl | ((with_reducible refine eqId ?_); exact rfl) | with_reducible (first | assumption | exact pl ‹_› | exact pr ‹_› | exact plr ‹_› | exact pll ‹_› | exact prl ‹_› | exact plll ‹_› | exact prll ‹_›))
  first | refine CallK.one (specForestNew c x _ _ _ false hc hx2) (fun _ => amC) ?_ | refine CallE.one (specForestNew c x _ _ _ false hc hx2) (fun _ => amC) rfl ?_ | refine CallG.one rfl (fun hg => specForestNew c x _ _ _ false hc hx2) ?_ | refine CallEG.one rfl rfl (fun hg => specForestNew c x _ _ _ false hc hx2) ?_
  (try refine am (h := ?_)); (try with_reducible apply True.intro)
  repeat' (first | (with_reducible refine And.intro ?_ ?_) | (with_reducible intro _))
  all_goals try (first | omega | with_reducible rfl | ((with_reducible refine eqId ?_); exact rfl) | with_reducible (first | assumption | exact pl ‹_› | exact pr ‹_› | exact plr ‹_› | exact pll ‹_› | exact prl ‹_› | exact plll ‹_› | exact prll ‹_›))
  first | refine CallK.one (toConf c false false hc2) (fun _ => amC) ?_ | refine CallE.one (toConf c false false hc2) (fun _ => amC) rfl ?_ | refine CallG.one rfl (fun hg => toConf c false false hc2) ?_ | refine CallEG.one rfl rfl (fun hg => toConf c false false hc2) ?_
  (try refine am (h := ?_)); (try with_reducible apply True.intro)
  repeat' (first | (with_reducible refine And.intro ?_ ?_) | (with_reducible intro _))
  all_goals try (first | omega | with_reducible rfl | ((with_reducible refine eqId ?_); exact rfl) | with_reducible (first | assumption | exact pl ‹_› | exact pr ‹_› | exact plr ‹_› | exact pll ‹_› | exact prl ‹_› | exact plll ‹_› | exact prll ‹_›))
  first | refine CallK.one (toTape x false false hx2) (fun _ => amC) ?_ | refine CallE.one (toTape x false false hx2) (fun _ => amC) rfl ?_ | refine CallG.one rfl (fun hg => toTape x false false hx2) ?_ | refine CallEG.one rfl rfl (fun hg => toTape x false false hx2) ?_
  (try refine am (h := ?_)); (try with_reducible apply True.intro)
  repeat' (first | (with_reducible refine And.intro ?_ ?_) | (with_reducible intro _))
  all_goals try (first | omega | with_reducible rfl | ((with_reducible refine eqId ?_); exact rfl) | with_reducible (first | assumption | exact pl ‹_› | exact pr ‹_› | exact plr ‹_› | exact pll ‹_› | exact prl ‹_› | exact plll ‹_› | exact prll ‹_›))
  first | refine CallK.one (implForestNew c x _ _ _ false hc hx2) (fun _ => amC) ?_ | refine CallE.one (implForestNew c x _ _ _ false hc hx2) (fun _ => amC) rfl ?_ | refine CallG.one rfl (fun hg => implForestNew c x _ _ _ false hc hx2) ?_ | refine CallEG.one rfl rfl (fun hg => implForestNew c x _ _ _ false hc hx2) ?_
  (try refine am (h := ?_)); (try with_reducible apply True.intro)
  repeat' (first | (with_reducible refine And.intro ?_ ?_) | (with_reducible intro _))
  all_goals try (first | omega | with_reducible rfl | ((with_reducible refine eqId ?_); exact rfl) | with_reducible (first | assumption | exact pl ‹_› | exact pr ‹_› | exact plr ‹_› | exact pll ‹_› | exact prl ‹_› | exact plll ‹_› | exact prll ‹_›))
  first | refine CallK.one (eqForest (forNew c x) (forNew c x) _ _ _ _ hr) (fun _ => amC) ?_ | refine CallE.one (eqForest (forNew c x) (forNew c x) _ _ _ _ hr) (fun _ => amC) rfl ?_ | refine CallG.one rfl (fun hg => eqForest (forNew c x) (forNew c x) _ _ _ _ hr) ?_ | refine CallEG.one rfl rfl (fun hg => eqForest (forNew c x) (forNew c x) _ _ _ _ hr) ?_
  (try refine am (h := ?_)); (try with_reducible apply True.intro)
  (try refine am (h := ?_)); (try simp only [eq_self]); (try refine am (h := ?_)); (try with_reducible apply True.intro)
  repeat' (first | (with_reducible refine And.intro ?_ ?_) | (with_reducible intro _))
  all_goals try (first | omega | with_reducible rfl | ((with_reducible refine eqId ?_); exact rfl) | with_reducible (first | assumption | exact pl ‹_› | exact pr ‹_› | exact plr ‹_› | exact pll ‹_› | exact prl ‹_› | exact plll ‹_› | exact prll ‹_›))
  first | refine CallK.one (eqTape (forTape c x) (forTape c x) _ false _ false hr2) (fun _ => amC) ?_ | refine CallE.one (eqTape (forTape c x) (forTape c x) _ false _ false hr2) (fun _ => amC) rfl ?_ | refine CallG.one rfl (fun hg => eqTape (forTape c x) (forTape c x) _ false _ false hr2) ?_ | refine CallEG.one rfl rfl (fun hg => eqTape (forTape c x) (forTape c x) _ false _ false hr2) ?_
  (try refine am (h := ?_)); (try with_reducible apply True.intro)
  (try refine am (h := ?_)); (try simp only [eq_self]); (try refine am (h := ?_)); (try with_reducible apply True.intro)
  repeat' (first | (with_reducible refine And.intro ?_ ?_) | (with_reducible intro _))
  all_goals try (first | omega | with_reducible rfl | ((with_reducible refine eqId ?_); exact rfl) | with_reducible (first | assumption | exact pl ‹_› | exact pr ‹_› | exact plr ‹_› | exact pll ‹_› | exact prl ‹_› | exact plll ‹_› | exact prll ‹_›))
  first | refine CallK.one (toConf c false false hc2) (fun _ => amC) ?_ | refine CallE.one (toConf c false false hc2) (fun _ => amC) rfl ?_ | refine CallG.one rfl (fun hg => toConf c false false hc2) ?_ | refine CallEG.one rfl rfl (fun hg => toConf c false false hc2) ?_
  (try refine am (h := ?_)); (try with_reducible apply True.intro)
  first | refine CallK.one (eqConf c c _ _ _ _ hc) (fun _ => amC) ?_ | refine CallE.one (eqConf c c _ _ _ _ hc) (fun _ => amC) rfl ?_ | refine CallG.one rfl (fun hg => eqConf c c _ _ _ _ hc) ?_ | refine CallEG.one rfl rfl (fun hg => eqConf c c _ _ _ _ hc) ?_
  (try refine am (h := ?_)); (try with_reducible apply True.intro)
  repeat' (first | (with_reducible refine And.intro ?_ ?_) | (with_reducible intro _))
  all_goals try (first | omega | with_reducible rfl | ((with_reducible refine eqId ?_); exact rfl) | with_reducible (first | assumption | exact pl ‹_› | exact pr ‹_› | exact plr ‹_› | exact pll ‹_› | exact prl ‹_› | exact plll ‹_› | exact prll ‹_›))
  first | refine CallK.one (toTape x false false hx2) (fun _ => amC) ?_ | refine CallE.one (toTape x false false hx2) (fun _ => amC) rfl ?_ | refine CallG.one rfl (fun hg => toTape x false false hx2) ?_ | refine CallEG.one rfl rfl (fun hg => toTape x false false hx2) ?_
  (try refine am (h := ?_)); (try with_reducible apply True.intro)
  first | refine CallK.one (eqTape x x _ false _ false hx) (fun _ => amC) ?_ | refine CallE.one (eqTape x x _ false _ false hx) (fun _ => amC) rfl ?_ | refine CallG.one rfl (fun hg => eqTape x x _ false _ false hx) ?_ | refine CallEG.one rfl rfl (fun hg => eqTape x x _ false _ false hx) ?_
  (try refine am (h := ?_)); (try with_reducible apply True.intro)
  repeat' (first | (with_reducible refine And.intro ?_ ?_) | (with_reducible intro _))
  all_goals try (first | omega | with_reducible rfl | ((with_reducible refine eqId ?_); exact rfl) | with_reducible (first | assumption | exact pl ‹_› | exact pr ‹_› | exact plr ‹_› | exact pll ‹_› | exact prl ‹_› | exact plll ‹_› | exact prll ‹_›))
  refine CallK.wrap w_markConf rfl ?_
  refine partsM_one (markAttrS c.schema.attrs (1 : Int) none hc.1.1 (by omega) (by omega)) rfl ?wb1 ?wc1 ?wd1 ?we1
  case wb1 => (try refine am (h := ?_)); (try with_reducible apply True.intro)
  case wc1 => exact rfl
  case wd1 => exact rfl
  refine partsM_one (markStringS c.schema.classes ((1 : Int) + sm nAttr c.schema.attrs) none hc.1.2.1 (by omega) (by omega)) rfl ?wb2 ?wc2 ?wd2 ?we2
  case wb2 => (try refine am (h := ?_)); (try with_reducible apply True.intro)
  case wc2 => exact rfl
  case wd2 => exact rfl
  refine partsM_nil ?_
  (try refine am (h := ?_)); (try with_reducible apply True.intro)
  refine CallK.wrap w_markTape rfl ?_
  refine partsM_one (markByteS x.bytes (((1 : Int) + sm nAttr c.schema.attrs) + c.schema.classes.length) none hx.1 (by omega) (by omega)) rfl ?wb3 ?wc3 ?wd3 ?we3
  case wb3 => (try refine am (h := ?_)); (try with_reducible apply True.intro)
  case wc3 => exact rfl
  case wd3 => exact rfl
  refine partsM_nil ?_
  (try refine am (h := ?_)); (try with_reducible apply True.intro)
  have hk : ¬ (((((1 : Int) + sm nAttr c.schema.attrs) + c.schema.classes.length) + x.bytes.length) < 0) := by omega
  (try refine am (h := ?_)); (try simp only [hk]); (try refine am (h := ?_)); (try with_reducible apply True.intro)
  first | refine CallK.one (eqForest (forNew c x) (forNew c x) _ _ _ _ hr) (fun _ => amC) ?_ | refine CallE.one (eqForest (forNew c x) (forNew c x) _ _ _ _ hr) (fun _ => amC) rfl ?_ | refine CallG.one rfl (fun hg => eqForest (forNew c x) (forNew c x) _ _ _ _ hr) ?_ | refine CallEG.one rfl rfl (fun hg => eqForest (forNew c x) (forNew c x) _ _ _ _ hr) ?_
  (try refine am (h := ?_)); (try with_reducible apply True.intro)
  (try refine am (h := ?_)); (try simp only [eq_self]); (try refine am (h := ?_)); (try with_reducible apply True.intro)
  repeat' (first | (with_reducible refine And.intro ?_ ?_) | (with_reducible intro _))
  all_goals try (first | omega | with_reducible rfl | ((with_reducible refine eqId ?_); exact rfl) | with_reducible (first | assumption | exact pl ‹_› | exact pr ‹_› | exact plr ‹_› | exact pll ‹_› | exact prl ‹_› | exact plll ‹_› | exact prll ‹_›))
  first | refine CallK.one (eqTape (forTape c x) (forTape c x) _ false _ false hr2) (fun _ => amC) ?_ | refine CallE.one (eqTape (forTape c x) (forTape c x) _ false _ false hr2) (fun _ => amC) rfl ?_ | refine CallG.one rfl (fun hg => eqTape (forTape c x) (forTape c x) _ false _ false hr2) ?_ | refine CallEG.one rfl rfl (fun hg => eqTape (forTape c x) (forTape c x) _ false _ false hr2) ?_
  (try refine am (h := ?_)); (try with_reducible apply True.intro)
  (try refine am (h := ?_)); (try simp only [eq_self]); (try refine am (h := ?_)); (try with_reducible apply True.intro)
  repeat' (first | (with_reducible refine And.intro ?_ ?_) | (with_reducible intro _))
  all_goals try (first | omega | with_reducible rfl | ((with_reducible refine eqId ?_); exact rfl) | with_reducible (first | assumption | exact pl ‹_› | exact pr ‹_› | exact plr ‹_› | exact pll ‹_› | exact prl ‹_› | exact plll ‹_› | exact prll ‹_›))
  (try refine am (h := ?_)); (try simp only [hk]); (try refine am (h := ?_)); (try with_reducible apply True.intro)
  refine CallK.wrap w_markForest rfl ?_
  refine partsM_one (markMemberS (forNew c x).members (1 : Int) none hr (by omega) (by omega)) rfl ?wb4 ?wc4 ?wd4 ?we4
  case wb4 => (try refine am (h := ?_)); (try with_reducible apply True.intro)
  case wc4 => exact rfl
  case wd4 => exact rfl
  refine partsM_nil ?_
  (try refine am (h := ?_)); (try with_reducible apply True.intro)
  refine CallK.wrap w_markTape rfl ?_
  refine partsM_one (markByteS (forTape c x).bytes ((1 : Int) + sm nMember (forNew c x).members) none hr2.1 (by omega) (by omega)) rfl ?wb5 ?wc5 ?wd5 ?we5
  case wb5 => (try refine am (h := ?_)); (try with_reducible apply True.intro)
  case wc5 => exact rfl
  case wd5 => exact rfl
  refine partsM_nil ?_
  (try refine am (h := ?_)); (try with_reducible apply True.intro)
  first | refine CallK.one (heldForest (forNew c x) (1 : Int) _ _ hr (by omega) (by omega)) (fun _ => amC) ?_ | refine CallE.one (heldForest (forNew c x) (1 : Int) _ _ hr (by omega) (by omega)) (fun _ => amC) rfl ?_ | refine CallG.one rfl (fun hg => heldForest (forNew c x) (1 : Int) _ _ hr (by omega) (by omega)) ?_ | refine CallEG.one rfl rfl (fun hg => heldForest (forNew c x) (1 : Int) _ _ hr (by omega) (by omega)) ?_
  (try refine am (h := ?_)); (try with_reducible apply True.intro)
  refine ⟨fun hh => absurd hh (by omega), fun _ => ?_⟩
  first | refine CallK.one (heldTape (forTape c x) ((1 : Int) + sm nMember (forNew c x).members) _ false hr2.1 (by omega) (by omega)) (fun _ => amC) ?_ | refine CallE.one (heldTape (forTape c x) ((1 : Int) + sm nMember (forNew c x).members) _ false hr2.1 (by omega) (by omega)) (fun _ => amC) rfl ?_ | refine CallG.one rfl (fun hg => heldTape (forTape c x) ((1 : Int) + sm nMember (forNew c x).members) _ false hr2.1 (by omega) (by omega)) ?_ | refine CallEG.one rfl rfl (fun hg => heldTape (forTape c x) ((1 : Int) + sm nMember (forNew c x).members) _ false hr2.1 (by omega) (by omega)) ?_
  (try refine am (h := ?_)); (try with_reducible apply True.intro)
  refine ⟨fun hh => absurd hh (by omega), fun _ => ?_⟩
  repeat' (first | (with_reducible refine And.intro ?_ ?_) | (with_reducible intro _))
  all_goals try (first | omega | with_reducible rfl | ((with_reducible refine eqId ?_); exact rfl) | with_reducible (first | assumption | exact pl ‹_› | exact pr ‹_› | exact plr ‹_› | exact pll ‹_› | exact prl ‹_› | exact plll ‹_› | exact prll ‹_›))
  first | refine CallK.one (toConf c false false hc2) (fun _ => amC) ?_ | refine CallE.one (toConf c false false hc2) (fun _ => amC) rfl ?_ | refine CallG.one rfl (fun hg => toConf c false false hc2) ?_ | refine CallEG.one rfl rfl (fun hg => toConf c false false hc2) ?_
  (try refine am (h := ?_)); (try with_reducible apply True.intro)
  repeat' (first | (with_reducible refine And.intro ?_ ?_) | (with_reducible intro _))
  all_goals try (first | omega | with_reducible rfl | ((with_reducible refine eqId ?_); exact rfl) | with_reducible (first | assumption | exact pl ‹_› | exact pr ‹_› | exact plr ‹_› | exact pll ‹_› | exact prl ‹_› | exact plll ‹_› | exact prll ‹_›))
  first | refine CallK.one (toTape x false false hx2) (fun _ => amC) ?_ | refine CallE.one (toTape x false false hx2) (fun _ => amC) rfl ?_ | refine CallG.one rfl (fun hg => toTape x false false hx2) ?_ | refine CallEG.one rfl rfl (fun hg => toTape x false false hx2) ?_
  (try refine am (h := ?_)); (try with_reducible apply True.intro)
  repeat' (first | (with_reducible refine And.intro ?_ ?_) | (with_reducible intro _))
  all_goals try (first | omega | with_reducible rfl | ((with_reducible refine eqId ?_); exact rfl) | with_reducible (first | assumption | exact pl ‹_› | exact pr ‹_› | exact plr ‹_› | exact pll ‹_› | exact prl ‹_› | exact plll ‹_› | exact prll ‹_›))
  first | refine CallK.one (implForestNew c x _ _ _ false hc hx2) (fun _ => amC) ?_ | refine CallE.one (implForestNew c x _ _ _ false hc hx2) (fun _ => amC) rfl ?_ | refine CallG.one rfl (fun hg => implForestNew c x _ _ _ false hc hx2) ?_ | refine CallEG.one rfl rfl (fun hg => implForestNew c x _ _ _ false hc hx2) ?_
  (try refine am (h := ?_)); (try with_reducible apply True.intro)
  repeat' (first | (with_reducible refine And.intro ?_ ?_) | (with_reducible intro _))
  all_goals try (first | omega | with_reducible rfl | ((with_reducible refine eqId ?_); exact rfl) | with_reducible (first | assumption | exact pl ‹_› | exact pr ‹_› | exact plr ‹_› | exact pll ‹_› | exact prl ‹_› | exact plll ‹_› | exact prll ‹_›))
  first | refine CallK.one (eqForest (forNew c x) (forNew c x) _ _ _ _ hr) (fun _ => amC) ?_ | refine CallE.one (eqForest (forNew c x) (forNew c x) _ _ _ _ hr) (fun _ => amC) rfl ?_ | refine CallG.one rfl (fun hg => eqForest (forNew c x) (forNew c x) _ _ _ _ hr) ?_ | refine CallEG.one rfl rfl (fun hg => eqForest (forNew c x) (forNew c x) _ _ _ _ hr) ?_
  (try refine am (h := ?_)); (try with_reducible apply True.intro)
  (try refine am (h := ?_)); (try simp only [eq_self]); (try refine am (h := ?_)); (try with_reducible apply True.intro)
  repeat' (first | (with_reducible refine And.intro ?_ ?_) | (with_reducible intro _))
  all_goals try (first | omega | with_reducible rfl | ((with_reducible refine eqId ?_); exact rfl) | with_reducible (first | assumption | exact pl ‹_› | exact pr ‹_› | exact plr ‹_› | exact pll ‹_› | exact prl ‹_› | exact plll ‹_› | exact prll ‹_›))
  first | refine CallK.one (eqTape (forTape c x) (forTape c x) _ false _ false hr2) (fun _ => amC) ?_ | refine CallE.one (eqTape (forTape c x) (forTape c x) _ false _ false hr2) (fun _ => amC) rfl ?_ | refine CallG.one rfl (fun hg => eqTape (forTape c x) (forTape c x) _ false _ false hr2) ?_ | refine CallEG.one rfl rfl (fun hg => eqTape (forTape c x) (forTape c x) _ false _ false hr2) ?_
  (try refine am (h := ?_)); (try with_reducible apply True.intro)
  (try refine am (h := ?_)); (try simp only [eq_self]); (try refine am (h := ?_)); (try with_reducible apply True.intro)
  repeat' (first | (with_reducible refine And.intro ?_ ?_) | (with_reducible intro _))
  all_goals try (first | omega | with_reducible rfl | ((with_reducible refine eqId ?_); exact rfl) | with_reducible (first | assumption | exact pl ‹_› | exact pr ‹_› | exact plr ‹_› | exact pll ‹_› | exact prl ‹_› | exact plll ‹_› | exact prll ‹_›))
  first | refine CallK.one (heldForest (forNew c x) (1 : Int) _ _ hr (by omega) (by omega)) (fun _ => amC) ?_ | refine CallE.one (heldForest (forNew c x) (1 : Int) _ _ hr (by omega) (by omega)) (fun _ => amC) rfl ?_ | refine CallG.one rfl (fun hg => heldForest (forNew c x) (1 : Int) _ _ hr (by omega) (by omega)) ?_ | refine CallEG.one rfl rfl (fun hg => heldForest (forNew c x) (1 : Int) _ _ hr (by omega) (by omega)) ?_
  (try refine am (h := ?_)); (try with_reducible apply True.intro)
  refine ⟨fun hh => absurd hh (by omega), fun _ => ?_⟩
  first | refine CallK.one (heldTape (forTape c x) ((1 : Int) + sm nMember (forNew c x).members) _ false hr2.1 (by omega) (by omega)) (fun _ => amC) ?_ | refine CallE.one (heldTape (forTape c x) ((1 : Int) + sm nMember (forNew c x).members) _ false hr2.1 (by omega) (by omega)) (fun _ => amC) rfl ?_ | refine CallG.one rfl (fun hg => heldTape (forTape c x) ((1 : Int) + sm nMember (forNew c x).members) _ false hr2.1 (by omega) (by omega)) ?_ | refine CallEG.one rfl rfl (fun hg => heldTape (forTape c x) ((1 : Int) + sm nMember (forNew c x).members) _ false hr2.1 (by omega) (by omega)) ?_
  (try refine am (h := ?_)); (try with_reducible apply True.intro)
  refine ⟨fun hh => absurd hh (by omega), fun _ => ?_⟩
  refine FinK.val1 ?_ ?_
  all_goals (try refine amF (h := ?_))
  all_goals (try with_reducible apply True.intro)
end Go.AM
