/- Lemmas for the proof of this claim. -/
import Derived.Test.YteggckdmicnijaaGreatEnf
import Derived.Test.YteggckdmicnijaaGreatMrk2
namespace Go.AM
open Go Go.Proofs
set_option maxRecDepth 100000
set_option maxHeartbeats 8000000 in
theorem fnExactEnforce (s : DSchema) (t : DTree) (b : Int) (hs : okSchema (2 ^ 47) s) (ht : okTree (2 ^ 47) t) (hb : inK .i64 b) : ACalls Tryz.prog 5 [.agg (cSchema false false s), .agg (cTree false false t), .one (.int .i64 b)] (fun r => r = .val (.one (.bool true))) := by
  have nt : Tryz.f5.ntmps = 140 := rfl
  have rs : Tryz.f5.results = #[.tmp 6] := rfl
  refine ACalls.of_run (m := 400) mixed Tryz.func5 rfl rfl (Nat.le_of_ble_eq_true rfl) ?_
  simp only [nt, rs]
  clear nt rs
  (try refine am (h := ?_)); (try with_reducible apply True.intro)
  first | refine CallK.one (szSchema s 1048576 false false hs (by omega) (by omega)) (fun _ => amC) ?_ | refine CallE.one (szSchema s 1048576 false false hs (by omega) (by omega)) (fun _ => amC) rfl ?_ | refine CallG.one rfl (fun hg => szSchema s 1048576 false false hs (by omega) (by omega)) ?_ | refine CallEG.one rfl rfl (fun hg => szSchema s 1048576 false false hs (by omega) (by omega)) ?_
  (try refine am (h := ?_)); (try with_reducible apply True.intro)
  rcases less_cases 1048576 (zSchema s) with ⟨hcs, e⟩ | ⟨hcs, e⟩
  · (try refine am (h := ?_)); (try simp only [e]); (try refine am (h := ?_)); (try with_reducible apply True.intro)
    refine FinK.val1 ?_ ?_
    all_goals (try refine amF (h := ?_))
    all_goals (try with_reducible apply True.intro)
  (try refine am (h := ?_)); (try simp only [e]); (try refine am (h := ?_)); (try with_reducible apply True.intro)
  repeat' (first | (with_reducible refine And.intro ?_ ?_) | (with_reducible intro _))
  all_goals try (first | omega | with_reducible rfl | ((with_reducible refine eqId ?_); exact rfl) | with_reducible (first | assumption | exact pl ‹_› | exact pr ‹_› | exact plr ‹_› | exact pll ‹_› | exact prl ‹_› | exact plll ‹_› | exact prll ‹_›))
  first | refine CallK.one (szTree t (1048576 - (zSchema s : Nat)) false false ht (by omega) (by omega)) (fun _ => amC) ?_ | refine CallE.one (szTree t (1048576 - (zSchema s : Nat)) false false ht (by omega) (by omega)) (fun _ => amC) rfl ?_ | refine CallG.one rfl (fun hg => szTree t (1048576 - (zSchema s : Nat)) false false ht (by omega) (by omega)) ?_ | refine CallEG.one rfl rfl (fun hg => szTree t (1048576 - (zSchema s : Nat)) false false ht (by omega) (by omega)) ?_
  (try refine am (h := ?_)); (try with_reducible apply True.intro)
  rcases less_cases (1048576 - (zSchema s : Nat)) (zTree t) with ⟨hct, e⟩ | ⟨hct, e⟩
  · (try refine am (h := ?_)); (try simp only [e]); (try refine am (h := ?_)); (try with_reducible apply True.intro)
    refine FinK.val1 ?_ ?_
    all_goals (try refine amF (h := ?_))
    all_goals (try with_reducible apply True.intro)
  (try refine am (h := ?_)); (try simp only [e]); (try refine am (h := ?_)); (try with_reducible apply True.intro)
  repeat' (first | (with_reducible refine And.intro ?_ ?_) | (with_reducible intro _))
  all_goals try (first | omega | with_reducible rfl | ((with_reducible refine eqId ?_); exact rfl) | with_reducible (first | assumption | exact pl ‹_› | exact pr ‹_› | exact plr ‹_› | exact pll ‹_› | exact prl ‹_› | exact plll ‹_› | exact prll ‹_›))
  have ss : zSchema s ≤ 1048576 := by omega
  have hs2 : okSchema (2 ^ 40) s := okSchema_sz hs (by omega)
  have st : zTree t ≤ 1048576 := by omega
  have ht2 : okTree (2 ^ 40) t := okTree_sz ht (by omega)
  have fs := nAttr_z s
  have ft := sm_nNode_z t.nodes
  have ft2 : zTree t = zNodeS t.nodes := rfl
  have ft3 : zNodeS t.nodes = t.nodes.length + sm zNode t.nodes := rfl
  have hq := enforce_ok (s := s) (b := b) ht2 (by omega)
  have hlen := hq.2.2.1
  have hr : okTree (2 ^ 47) (enforce s t b).1 := okTree47 hq.1
  have hr1 := hq.2.1
  have hr2 : okI (2 ^ 47) (enforce s t b).2 := ⟨by omega, hq.2.2.2⟩
  first | refine CallK.one (toSchema s false false hs2) (fun _ => amC) ?_ | refine CallE.one (toSchema s false false hs2) (fun _ => amC) rfl ?_ | refine CallG.one rfl (fun hg => toSchema s false false hs2) ?_ | refine CallEG.one rfl rfl (fun hg => toSchema s false false hs2) ?_
  (try refine am (h := ?_)); (try with_reducible apply True.intro)
  repeat' (first | (with_reducible refine And.intro ?_ ?_) | (with_reducible intro _))
  all_goals try (first | omega | with_reducible rfl | ((with_reducible refine eqId ?_); exact rfl) | with_reducible (first | assumption | exact pl ‹_› | exact pr ‹_› | exact plr ‹_› | exact pll ‹_› | exact prl ‹_› | exact plll ‹_› | exact prll ‹_›))
  first | refine CallK.one (toTree t false false ht2) (fun _ => amC) ?_ | refine CallE.one (toTree t false false ht2) (fun _ => amC) rfl ?_ | refine CallG.one rfl (fun hg => toTree t false false ht2) ?_ | refine CallEG.one rfl rfl (fun hg => toTree t false false ht2) ?_
  (try refine am (h := ?_)); (try with_reducible apply True.intro)
  repeat' (first | (with_reducible refine And.intro ?_ ?_) | (with_reducible intro _))
  all_goals try (first | omega | with_reducible rfl | ((with_reducible refine eqId ?_); exact rfl) | with_reducible (first | assumption | exact pl ‹_› | exact pr ‹_› | exact plr ‹_› | exact pll ‹_› | exact prl ‹_› | exact plll ‹_› | exact prll ‹_›))
  first | refine CallK.one (specEnforce s t b _ _ _ _ hs ht2 (by omega) (by omega) hb) (fun _ => amC) ?_ | refine CallE.one (specEnforce s t b _ _ _ _ hs ht2 (by omega) (by omega) hb) (fun _ => amC) rfl ?_ | refine CallG.one rfl (fun hg => specEnforce s t b _ _ _ _ hs ht2 (by omega) (by omega) hb) ?_ | refine CallEG.one rfl rfl (fun hg => specEnforce s t b _ _ _ _ hs ht2 (by omega) (by omega) hb) ?_
  (try refine am (h := ?_)); (try with_reducible apply True.intro)
  repeat' (first | (with_reducible refine And.intro ?_ ?_) | (with_reducible intro _))
  all_goals try (first | omega | with_reducible rfl | ((with_reducible refine eqId ?_); exact rfl) | with_reducible (first | assumption | exact pl ‹_› | exact pr ‹_› | exact plr ‹_› | exact pll ‹_› | exact prl ‹_› | exact plll ‹_› | exact prll ‹_›))
  first | refine CallK.one (toSchema s false false hs2) (fun _ => amC) ?_ | refine CallE.one (toSchema s false false hs2) (fun _ => amC) rfl ?_ | refine CallG.one rfl (fun hg => toSchema s false false hs2) ?_ | refine CallEG.one rfl rfl (fun hg => toSchema s false false hs2) ?_
  (try refine am (h := ?_)); (try with_reducible apply True.intro)
  repeat' (first | (with_reducible refine And.intro ?_ ?_) | (with_reducible intro _))
  all_goals try (first | omega | with_reducible rfl | ((with_reducible refine eqId ?_); exact rfl) | with_reducible (first | assumption | exact pl ‹_› | exact pr ‹_› | exact plr ‹_› | exact pll ‹_› | exact prl ‹_› | exact plll ‹_› | exact prll ‹_›))
  first | refine CallK.one (toTree t false false ht2) (fun _ => amC) ?_ | refine CallE.one (toTree t false false ht2) (fun _ => amC) rfl ?_ | refine CallG.one rfl (fun hg => toTree t false false ht2) ?_ | refine CallEG.one rfl rfl (fun hg => toTree t false false ht2) ?_
  (try refine am (h := ?_)); (try with_reducible apply True.intro)
  repeat' (first | (with_reducible refine And.intro ?_ ?_) | (with_reducible intro _))
  all_goals try (first | omega | with_reducible rfl | ((with_reducible refine eqId ?_); exact rfl) | with_reducible (first | assumption | exact pl ‹_› | exact pr ‹_› | exact plr ‹_› | exact pll ‹_› | exact prl ‹_› | exact plll ‹_› | exact prll ‹_›))
  first | refine CallK.one (implEnforce s t b _ _ _ _ hs ht2 (by omega) (by omega) hb) (fun _ => amC) ?_ | refine CallE.one (implEnforce s t b _ _ _ _ hs ht2 (by omega) (by omega) hb) (fun _ => amC) rfl ?_ | refine CallG.one rfl (fun hg => implEnforce s t b _ _ _ _ hs ht2 (by omega) (by omega) hb) ?_ | refine CallEG.one rfl rfl (fun hg => implEnforce s t b _ _ _ _ hs ht2 (by omega) (by omega) hb) ?_
  (try refine am (h := ?_)); (try with_reducible apply True.intro)
  repeat' (first | (with_reducible refine And.intro ?_ ?_) | (with_reducible intro _))
  all_goals try (first | omega | with_reducible rfl | ((with_reducible refine eqId ?_); exact rfl) | with_reducible (first | assumption | exact pl ‹_› | exact pr ‹_› | exact plr ‹_› | exact pll ‹_› | exact prl ‹_› | exact plll ‹_› | exact prll ‹_›))
  first | refine CallK.one (eqTree (enforce s t b).1 (enforce s t b).1 _ _ _ _ hr) (fun _ => amC) ?_ | refine CallE.one (eqTree (enforce s t b).1 (enforce s t b).1 _ _ _ _ hr) (fun _ => amC) rfl ?_ | refine CallG.one rfl (fun hg => eqTree (enforce s t b).1 (enforce s t b).1 _ _ _ _ hr) ?_ | refine CallEG.one rfl rfl (fun hg => eqTree (enforce s t b).1 (enforce s t b).1 _ _ _ _ hr) ?_
  (try refine am (h := ?_)); (try with_reducible apply True.intro)
  (try refine am (h := ?_)); (try simp only [eq_self]); (try refine am (h := ?_)); (try with_reducible apply True.intro)
  repeat' (first | (with_reducible refine And.intro ?_ ?_) | (with_reducible intro _))
  all_goals try (first | omega | with_reducible rfl | ((with_reducible refine eqId ?_); exact rfl) | with_reducible (first | assumption | exact pl ‹_› | exact pr ‹_› | exact plr ‹_› | exact pll ‹_› | exact prl ‹_› | exact plll ‹_› | exact prll ‹_›))
  first | refine CallK.one (eqIntS (enforce s t b).2 (enforce s t b).2 _ _ _ _ hr2) (fun _ => amC) ?_ | refine CallE.one (eqIntS (enforce s t b).2 (enforce s t b).2 _ _ _ _ hr2) (fun _ => amC) rfl ?_ | refine CallG.one rfl (fun hg => eqIntS (enforce s t b).2 (enforce s t b).2 _ _ _ _ hr2) ?_ | refine CallEG.one rfl rfl (fun hg => eqIntS (enforce s t b).2 (enforce s t b).2 _ _ _ _ hr2) ?_
  (try refine am (h := ?_)); (try with_reducible apply True.intro)
  (try refine am (h := ?_)); (try simp only [eq_self]); (try refine am (h := ?_)); (try with_reducible apply True.intro)
  repeat' (first | (with_reducible refine And.intro ?_ ?_) | (with_reducible intro _))
  all_goals try (first | omega | with_reducible rfl | ((with_reducible refine eqId ?_); exact rfl) | with_reducible (first | assumption | exact pl ‹_› | exact pr ‹_› | exact plr ‹_› | exact pll ‹_› | exact prl ‹_› | exact plll ‹_› | exact prll ‹_›))
  first | refine CallK.one (toSchema s false false hs2) (fun _ => amC) ?_ | refine CallE.one (toSchema s false false hs2) (fun _ => amC) rfl ?_ | refine CallG.one rfl (fun hg => toSchema s false false hs2) ?_ | refine CallEG.one rfl rfl (fun hg => toSchema s false false hs2) ?_
  (try refine am (h := ?_)); (try with_reducible apply True.intro)
  first | refine CallK.one (eqSchema s s _ _ _ _ hs) (fun _ => amC) ?_ | refine CallE.one (eqSchema s s _ _ _ _ hs) (fun _ => amC) rfl ?_ | refine CallG.one rfl (fun hg => eqSchema s s _ _ _ _ hs) ?_ | refine CallEG.one rfl rfl (fun hg => eqSchema s s _ _ _ _ hs) ?_
  (try refine am (h := ?_)); (try with_reducible apply True.intro)
  repeat' (first | (with_reducible refine And.intro ?_ ?_) | (with_reducible intro _))
  all_goals try (first | omega | with_reducible rfl | ((with_reducible refine eqId ?_); exact rfl) | with_reducible (first | assumption | exact pl ‹_› | exact pr ‹_› | exact plr ‹_› | exact pll ‹_› | exact prl ‹_› | exact plll ‹_› | exact prll ‹_›))
  first | refine CallK.one (toTree t false false ht2) (fun _ => amC) ?_ | refine CallE.one (toTree t false false ht2) (fun _ => amC) rfl ?_ | refine CallG.one rfl (fun hg => toTree t false false ht2) ?_ | refine CallEG.one rfl rfl (fun hg => toTree t false false ht2) ?_
  (try refine am (h := ?_)); (try with_reducible apply True.intro)
  first | refine CallK.one (eqTree t t _ _ _ _ ht) (fun _ => amC) ?_ | refine CallE.one (eqTree t t _ _ _ _ ht) (fun _ => amC) rfl ?_ | refine CallG.one rfl (fun hg => eqTree t t _ _ _ _ ht) ?_ | refine CallEG.one rfl rfl (fun hg => eqTree t t _ _ _ _ ht) ?_
  (try refine am (h := ?_)); (try with_reducible apply True.intro)
  repeat' (first | (with_reducible refine And.intro ?_ ?_) | (with_reducible intro _))
  all_goals try (first | omega | with_reducible rfl | ((with_reducible refine eqId ?_); exact rfl) | with_reducible (first | assumption | exact pl ‹_› | exact pr ‹_› | exact plr ‹_› | exact pll ‹_› | exact prl ‹_› | exact plll ‹_› | exact prll ‹_›))
  refine CallK.wrap w_markSchema rfl ?_
  refine partsM_one (markAttrS s.attrs (1 : Int) none hs.1 (by omega) (by omega)) rfl ?wb1 ?wc1 ?wd1 ?we1
  case wb1 => (try refine am (h := ?_)); (try with_reducible apply True.intro)
  case wc1 => exact rfl
  case wd1 => exact rfl
  refine partsM_one (markStringS s.classes ((1 : Int) + sm nAttr s.attrs) none hs.2.1 (by omega) (by omega)) rfl ?wb2 ?wc2 ?wd2 ?we2
  case wb2 => (try refine am (h := ?_)); (try with_reducible apply True.intro)
  case wc2 => exact rfl
  case wd2 => exact rfl
  refine partsM_nil ?_
  (try refine am (h := ?_)); (try with_reducible apply True.intro)
  refine CallK.wrap w_markTree rfl ?_
  refine partsM_one (markNodeS t.nodes (((1 : Int) + sm nAttr s.attrs) + s.classes.length) none ht.1 (by omega) (by omega)) rfl ?wb3 ?wc3 ?wd3 ?we3
  case wb3 => (try refine am (h := ?_)); (try with_reducible apply True.intro)
  case wc3 => exact rfl
  case wd3 => exact rfl
  refine partsM_nil ?_
  (try refine am (h := ?_)); (try with_reducible apply True.intro)
  have hk : ¬ (((((1 : Int) + sm nAttr s.attrs) + s.classes.length) + sm nNode t.nodes) < 0) := by omega
  (try refine am (h := ?_)); (try simp only [hk]); (try refine am (h := ?_)); (try with_reducible apply True.intro)
  first | refine CallK.one (eqTree (enforce s t b).1 (enforce s t b).1 _ _ _ _ hr) (fun _ => amC) ?_ | refine CallE.one (eqTree (enforce s t b).1 (enforce s t b).1 _ _ _ _ hr) (fun _ => amC) rfl ?_ | refine CallG.one rfl (fun hg => eqTree (enforce s t b).1 (enforce s t b).1 _ _ _ _ hr) ?_ | refine CallEG.one rfl rfl (fun hg => eqTree (enforce s t b).1 (enforce s t b).1 _ _ _ _ hr) ?_
  (try refine am (h := ?_)); (try with_reducible apply True.intro)
  (try refine am (h := ?_)); (try simp only [eq_self]); (try refine am (h := ?_)); (try with_reducible apply True.intro)
  repeat' (first | (with_reducible refine And.intro ?_ ?_) | (with_reducible intro _))
  all_goals try (first | omega | with_reducible rfl | ((with_reducible refine eqId ?_); exact rfl) | with_reducible (first | assumption | exact pl ‹_› | exact pr ‹_› | exact plr ‹_› | exact pll ‹_› | exact prl ‹_› | exact plll ‹_› | exact prll ‹_›))
  first | refine CallK.one (eqIntS (enforce s t b).2 (enforce s t b).2 _ _ _ _ hr2) (fun _ => amC) ?_ | refine CallE.one (eqIntS (enforce s t b).2 (enforce s t b).2 _ _ _ _ hr2) (fun _ => amC) rfl ?_ | refine CallG.one rfl (fun hg => eqIntS (enforce s t b).2 (enforce s t b).2 _ _ _ _ hr2) ?_ | refine CallEG.one rfl rfl (fun hg => eqIntS (enforce s t b).2 (enforce s t b).2 _ _ _ _ hr2) ?_
  (try refine am (h := ?_)); (try with_reducible apply True.intro)
  (try refine am (h := ?_)); (try simp only [eq_self]); (try refine am (h := ?_)); (try with_reducible apply True.intro)
  repeat' (first | (with_reducible refine And.intro ?_ ?_) | (with_reducible intro _))
  all_goals try (first | omega | with_reducible rfl | ((with_reducible refine eqId ?_); exact rfl) | with_reducible (first | assumption | exact pl ‹_› | exact pr ‹_› | exact plr ‹_› | exact pll ‹_› | exact prl ‹_› | exact plll ‹_› | exact prll ‹_›))
  (try refine am (h := ?_)); (try simp only [hk]); (try refine am (h := ?_)); (try with_reducible apply True.intro)
  refine CallK.wrap w_markTree rfl ?_
  refine partsM_one (markNodeS (enforce s t b).1.nodes (1 : Int) none hr.1 (by omega) (by omega)) rfl ?wb4 ?wc4 ?wd4 ?we4
  case wb4 => (try refine am (h := ?_)); (try with_reducible apply True.intro)
  case wc4 => exact rfl
  case wd4 => exact rfl
  refine partsM_nil ?_
  (try refine am (h := ?_)); (try with_reducible apply True.intro)
  refine CallK.mut (markIntS (enforce s t b).2 ((1 : Int) + sm nNode (enforce s t b).1.nodes) none hr2 (by omega) (by omega)) rfl rfl rfl ?_
  (try refine am (h := ?_)); (try with_reducible apply True.intro)
  first | refine CallK.one (heldTree (enforce s t b).1 (1 : Int) _ _ hr.1 (by omega) (by omega)) (fun _ => amC) ?_ | refine CallE.one (heldTree (enforce s t b).1 (1 : Int) _ _ hr.1 (by omega) (by omega)) (fun _ => amC) rfl ?_ | refine CallG.one rfl (fun hg => heldTree (enforce s t b).1 (1 : Int) _ _ hr.1 (by omega) (by omega)) ?_ | refine CallEG.one rfl rfl (fun hg => heldTree (enforce s t b).1 (1 : Int) _ _ hr.1 (by omega) (by omega)) ?_
  (try refine am (h := ?_)); (try with_reducible apply True.intro)
  refine ⟨fun hh => absurd hh (by omega), fun _ => ?_⟩
  first | refine CallK.one (heldI (enforce s t b).2 ((1 : Int) + sm nNode (enforce s t b).1.nodes) _ _ hr2 (by omega) (by omega)) (fun _ => amC) ?_ | refine CallE.one (heldI (enforce s t b).2 ((1 : Int) + sm nNode (enforce s t b).1.nodes) _ _ hr2 (by omega) (by omega)) (fun _ => amC) rfl ?_ | refine CallG.one rfl (fun hg => heldI (enforce s t b).2 ((1 : Int) + sm nNode (enforce s t b).1.nodes) _ _ hr2 (by omega) (by omega)) ?_ | refine CallEG.one rfl rfl (fun hg => heldI (enforce s t b).2 ((1 : Int) + sm nNode (enforce s t b).1.nodes) _ _ hr2 (by omega) (by omega)) ?_
  (try refine am (h := ?_)); (try with_reducible apply True.intro)
  refine ⟨fun hh => absurd hh (by omega), fun _ => ?_⟩
  repeat' (first | (with_reducible refine And.intro ?_ ?_) | (with_reducible intro _))
  all_goals try (first | omega | with_reducible rfl | ((with_reducible refine eqId ?_); exact rfl) | with_reducible (first | assumption | exact pl ‹_› | exact pr ‹_› | exact plr ‹_› | exact pll ‹_› | exact prl ‹_› | exact plll ‹_› | exact prll ‹_›))
  first | refine CallK.one (toSchema s false false hs2) (fun _ => amC) ?_ | refine CallE.one (toSchema s false false hs2) (fun _ => amC) rfl ?_ | refine CallG.one rfl (fun hg => toSchema s false false hs2) ?_ | refine CallEG.one rfl rfl (fun hg => toSchema s false false hs2) ?_
  (try refine am (h := ?_)); (try with_reducible apply True.intro)
  repeat' (first | (with_reducible refine And.intro ?_ ?_) | (with_reducible intro _))
  all_goals try (first | omega | with_reducible rfl | ((with_reducible refine eqId ?_); exact rfl) | with_reducible (first | assumption | exact pl ‹_› | exact pr ‹_› | exact plr ‹_› | exact pll ‹_› | exact prl ‹_› | exact plll ‹_› | exact prll ‹_›))
  first | refine CallK.one (toTree t false false ht2) (fun _ => amC) ?_ | refine CallE.one (toTree t false false ht2) (fun _ => amC) rfl ?_ | refine CallG.one rfl (fun hg => toTree t false false ht2) ?_ | refine CallEG.one rfl rfl (fun hg => toTree t false false ht2) ?_
  (try refine am (h := ?_)); (try with_reducible apply True.intro)
  repeat' (first | (with_reducible refine And.intro ?_ ?_) | (with_reducible intro _))
  all_goals try (first | omega | with_reducible rfl | ((with_reducible refine eqId ?_); exact rfl) | with_reducible (first | assumption | exact pl ‹_› | exact pr ‹_› | exact plr ‹_› | exact pll ‹_› | exact prl ‹_› | exact plll ‹_› | exact prll ‹_›))
  first | refine CallK.one (implEnforce s t b _ _ _ _ hs ht2 (by omega) (by omega) hb) (fun _ => amC) ?_ | refine CallE.one (implEnforce s t b _ _ _ _ hs ht2 (by omega) (by omega) hb) (fun _ => amC) rfl ?_ | refine CallG.one rfl (fun hg => implEnforce s t b _ _ _ _ hs ht2 (by omega) (by omega) hb) ?_ | refine CallEG.one rfl rfl (fun hg => implEnforce s t b _ _ _ _ hs ht2 (by omega) (by omega) hb) ?_
  (try refine am (h := ?_)); (try with_reducible apply True.intro)
  repeat' (first | (with_reducible refine And.intro ?_ ?_) | (with_reducible intro _))
  all_goals try (first | omega | with_reducible rfl | ((with_reducible refine eqId ?_); exact rfl) | with_reducible (first | assumption | exact pl ‹_› | exact pr ‹_› | exact plr ‹_› | exact pll ‹_› | exact prl ‹_› | exact plll ‹_› | exact prll ‹_›))
  first | refine CallK.one (eqTree (enforce s t b).1 (enforce s t b).1 _ _ _ _ hr) (fun _ => amC) ?_ | refine CallE.one (eqTree (enforce s t b).1 (enforce s t b).1 _ _ _ _ hr) (fun _ => amC) rfl ?_ | refine CallG.one rfl (fun hg => eqTree (enforce s t b).1 (enforce s t b).1 _ _ _ _ hr) ?_ | refine CallEG.one rfl rfl (fun hg => eqTree (enforce s t b).1 (enforce s t b).1 _ _ _ _ hr) ?_
  (try refine am (h := ?_)); (try with_reducible apply True.intro)
  (try refine am (h := ?_)); (try simp only [eq_self]); (try refine am (h := ?_)); (try with_reducible apply True.intro)
  repeat' (first | (with_reducible refine And.intro ?_ ?_) | (with_reducible intro _))
  all_goals try (first | omega | with_reducible rfl | ((with_reducible refine eqId ?_); exact rfl) | with_reducible (first | assumption | exact pl ‹_› | exact pr ‹_› | exact plr ‹_› | exact pll ‹_› | exact prl ‹_› | exact plll ‹_› | exact prll ‹_›))
  first | refine CallK.one (eqIntS (enforce s t b).2 (enforce s t b).2 _ _ _ _ hr2) (fun _ => amC) ?_ | refine CallE.one (eqIntS (enforce s t b).2 (enforce s t b).2 _ _ _ _ hr2) (fun _ => amC) rfl ?_ | refine CallG.one rfl (fun hg => eqIntS (enforce s t b).2 (enforce s t b).2 _ _ _ _ hr2) ?_ | refine CallEG.one rfl rfl (fun hg => eqIntS (enforce s t b).2 (enforce s t b).2 _ _ _ _ hr2) ?_
  (try refine am (h := ?_)); (try with_reducible apply True.intro)
  (try refine am (h := ?_)); (try simp only [eq_self]); (try refine am (h := ?_)); (try with_reducible apply True.intro)
  repeat' (first | (with_reducible refine And.intro ?_ ?_) | (with_reducible intro _))
  all_goals try (first | omega | with_reducible rfl | ((with_reducible refine eqId ?_); exact rfl) | with_reducible (first | assumption | exact pl ‹_› | exact pr ‹_› | exact plr ‹_› | exact pll ‹_› | exact prl ‹_› | exact plll ‹_› | exact prll ‹_›))
  first | refine CallK.one (heldTree (enforce s t b).1 (1 : Int) _ _ hr.1 (by omega) (by omega)) (fun _ => amC) ?_ | refine CallE.one (heldTree (enforce s t b).1 (1 : Int) _ _ hr.1 (by omega) (by omega)) (fun _ => amC) rfl ?_ | refine CallG.one rfl (fun hg => heldTree (enforce s t b).1 (1 : Int) _ _ hr.1 (by omega) (by omega)) ?_ | refine CallEG.one rfl rfl (fun hg => heldTree (enforce s t b).1 (1 : Int) _ _ hr.1 (by omega) (by omega)) ?_
  (try refine am (h := ?_)); (try with_reducible apply True.intro)
  refine ⟨fun hh => absurd hh (by omega), fun _ => ?_⟩
  first | refine CallK.one (heldI (enforce s t b).2 ((1 : Int) + sm nNode (enforce s t b).1.nodes) _ _ hr2 (by omega) (by omega)) (fun _ => amC) ?_ | refine CallE.one (heldI (enforce s t b).2 ((1 : Int) + sm nNode (enforce s t b).1.nodes) _ _ hr2 (by omega) (by omega)) (fun _ => amC) rfl ?_ | refine CallG.one rfl (fun hg => heldI (enforce s t b).2 ((1 : Int) + sm nNode (enforce s t b).1.nodes) _ _ hr2 (by omega) (by omega)) ?_ | refine CallEG.one rfl rfl (fun hg => heldI (enforce s t b).2 ((1 : Int) + sm nNode (enforce s t b).1.nodes) _ _ hr2 (by omega) (by omega)) ?_
  (try refine am (h := ?_)); (try with_reducible apply True.intro)
  refine ⟨fun hh => absurd hh (by omega), fun _ => ?_⟩
  refine FinK.val1 ?_ ?_
  all_goals (try refine amF (h := ?_))
  all_goals (try with_reducible apply True.intro)
end Go.AM
