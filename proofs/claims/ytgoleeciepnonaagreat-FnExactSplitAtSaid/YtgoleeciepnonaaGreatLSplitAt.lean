/- Lemmas for the proof of this claim. -/
import Derived.Test.YtgoleeciepnonaaGreatSpl
import Derived.Test.YtgoleeciepnonaaGreatMrk2
namespace Go.AM
open Go Go.Proofs
set_option maxRecDepth 100000
set_option maxHeartbeats 8000000 in
theorem fnExactSplitAt (s : DSchema) (t : DTree) (i : Int) (f : DFork) (l : List (List (Int))) (hs : okSchema (2 ^ 47) s) (ht : okTree (2 ^ 47) t) (hi : inK .i64 i) (hf : okFork (2 ^ 47) f) (hl : okL (2 ^ 47) l) : ACalls Tryz.prog 3 [.agg (cSchema false false s), .agg (cTree false false t), .one (.int .i64 i), .agg (cFork f), .one (aL false false l)] (fun r => r = .val (.one (.bool true))) := by
  have nt : Tryz.f3.ntmps = 155 := rfl
  have rs : Tryz.f3.results = #[.tmp 10] := rfl
  refine ACalls.of_run (m := 400) mixed Tryz.func3 rfl rfl (Nat.le_of_ble_eq_true rfl) ?_
  simp only [nt, rs]
  clear nt rs
  (try refine am (h := ?_)); (try with_reducible apply True.intro)
  first | refine CallK.one (szSchema s 1048576 false false hs (by omega) (by omega)) (fun _ => amC) ?_ | refine CallE.one (szSchema s 1048576 false false hs (by omega) (by omega)) (fun _ => amC) rfl ?_ | refine CallG.one rfl (fun hg => szSchema s 1048576 false false hs (by omega) (by omega)) ?_ | refine CallEG.one rfl rfl (fun hg => szSchema s 1048576 false false hs (by omega) (by omega)) ?_
  (try refine am (h := ?_)); (try with_reducible apply True.intro)
  rcases less_cases 1048576 (zSchema s) with ⟨hcs, e⟩ | ⟨hcs, e⟩
  · (try refine am (h := ?_)); (try simp only [e]); (try refine am (h := ?_)); (try with_reducible apply True.intro)
    refine FinK.val1 ?_ ?_
    all_goals (try refine amF (h := ?_))
    all_goals (try with_reducible apply True.intro)
  (try refine am (h := ?_)); (try simp only [e]); (try refine am (h := ?_)); (try with_reducible apply True.intro)
  repeat' (first | (with_reducible refine And.intro ?_ ?_) | (with_reducible intro _))
  all_goals try (first | omega | with_reducible rfl | ((with_reducible refine eqId ?_); exact rfl) | with_reducible (first | assumption | exact pl ‹_› | exact pr ‹_› | exact plr ‹_› | exact pll ‹_› | exact prl ‹_› | exact plll ‹_› | exact prll ‹_›))
  first | refine CallK.one (szTree t (1048576 - (zSchema s : Nat)) false false ht (by omega) (by omega)) (fun _ => amC) ?_ | refine CallE.one (szTree t (1048576 - (zSchema s : Nat)) false false ht (by omega) (by omega)) (fun _ => amC) rfl ?_ | refine CallG.one rfl (fun hg => szTree t (1048576 - (zSchema s : Nat)) false false ht (by omega) (by omega)) ?_ | refine CallEG.one rfl rfl (fun hg => szTree t (1048576 - (zSchema s : Nat)) false false ht (by omega) (by omega)) ?_
  (try refine am (h := ?_)); (try with_reducible apply True.intro)
  rcases less_cases (1048576 - (zSchema s : Nat)) (zTree t) with ⟨hct, e⟩ | ⟨hct, e⟩
  · (try refine am (h := ?_)); (try simp only [e]); (try refine am (h := ?_)); (try with_reducible apply True.intro)
    refine FinK.val1 ?_ ?_
    all_goals (try refine amF (h := ?_))
    all_goals (try with_reducible apply True.intro)
  (try refine am (h := ?_)); (try simp only [e]); (try refine am (h := ?_)); (try with_reducible apply True.intro)
  repeat' (first | (with_reducible refine And.intro ?_ ?_) | (with_reducible intro _))
  all_goals try (first | omega | with_reducible rfl | ((with_reducible refine eqId ?_); exact rfl) | with_reducible (first | assumption | exact pl ‹_› | exact pr ‹_› | exact plr ‹_› | exact pll ‹_› | exact prl ‹_› | exact plll ‹_› | exact prll ‹_›))
  first | refine CallK.one (szIntSS l ((1048576 - (zSchema s : Nat)) - (zTree t : Nat)) _ _ _ hl (by omega) (by omega)) (fun _ => amC) ?_ | refine CallE.one (szIntSS l ((1048576 - (zSchema s : Nat)) - (zTree t : Nat)) _ _ _ hl (by omega) (by omega)) (fun _ => amC) rfl ?_ | refine CallG.one rfl (fun hg => szIntSS l ((1048576 - (zSchema s : Nat)) - (zTree t : Nat)) _ _ _ hl (by omega) (by omega)) ?_ | refine CallEG.one rfl rfl (fun hg => szIntSS l ((1048576 - (zSchema s : Nat)) - (zTree t : Nat)) _ _ _ hl (by omega) (by omega)) ?_
  (try refine am (h := ?_)); (try with_reducible apply True.intro)
  rcases less_cases ((1048576 - (zSchema s : Nat)) - (zTree t : Nat)) (szW l) with ⟨hcl, e⟩ | ⟨hcl, e⟩
  · (try refine am (h := ?_)); (try simp only [e]); (try refine am (h := ?_)); (try with_reducible apply True.intro)
    refine FinK.val1 ?_ ?_
    all_goals (try refine amF (h := ?_))
    all_goals (try with_reducible apply True.intro)
  (try refine am (h := ?_)); (try simp only [e]); (try refine am (h := ?_)); (try with_reducible apply True.intro)
  repeat' (first | (with_reducible refine And.intro ?_ ?_) | (with_reducible intro _))
  all_goals try (first | omega | with_reducible rfl | ((with_reducible refine eqId ?_); exact rfl) | with_reducible (first | assumption | exact pl ‹_› | exact pr ‹_› | exact plr ‹_› | exact pll ‹_› | exact prl ‹_› | exact plll ‹_› | exact prll ‹_›))
  have ss : zSchema s ≤ 1048576 := by omega
  have hs2 : okSchema (2 ^ 40) s := okSchema_sz hs (by omega)
  have st : zTree t ≤ 1048576 := by omega
  have ht2 : okTree (2 ^ 40) t := okTree_sz ht (by omega)
  have sl : szW l ≤ 1048576 := by omega
  have hl2 : okL (2 ^ 40) l := okL_sz hl (by omega)
  have fs := nAttr_z s
  have ft := sm_nNode_z t.nodes
  have ft2 : zTree t = zNodeS t.nodes := rfl
  have ft3 : zNodeS t.nodes = t.nodes.length + sm zNode t.nodes := rfl
  have fl : szW l = l.length + tot l := rfl
  obtain ⟨hr, hr1⟩ := splitA_ok (s := s) (i := i) (f := f) ht2 hf hl2
  first | refine CallK.one (toSchema s false false hs2) (fun _ => amC) ?_ | refine CallE.one (toSchema s false false hs2) (fun _ => amC) rfl ?_ | refine CallG.one rfl (fun hg => toSchema s false false hs2) ?_ | refine CallEG.one rfl rfl (fun hg => toSchema s false false hs2) ?_
  (try refine am (h := ?_)); (try with_reducible apply True.intro)
  repeat' (first | (with_reducible refine And.intro ?_ ?_) | (with_reducible intro _))
  all_goals try (first | omega | with_reducible rfl | ((with_reducible refine eqId ?_); exact rfl) | with_reducible (first | assumption | exact pl ‹_› | exact pr ‹_› | exact plr ‹_› | exact pll ‹_› | exact prl ‹_› | exact plll ‹_› | exact prll ‹_›))
  first | refine CallK.one (toTree t false false ht2) (fun _ => amC) ?_ | refine CallE.one (toTree t false false ht2) (fun _ => amC) rfl ?_ | refine CallG.one rfl (fun hg => toTree t false false ht2) ?_ | refine CallEG.one rfl rfl (fun hg => toTree t false false ht2) ?_
  (try refine am (h := ?_)); (try with_reducible apply True.intro)
  repeat' (first | (with_reducible refine And.intro ?_ ?_) | (with_reducible intro _))
  all_goals try (first | omega | with_reducible rfl | ((with_reducible refine eqId ?_); exact rfl) | with_reducible (first | assumption | exact pl ‹_› | exact pr ‹_› | exact plr ‹_› | exact pll ‹_› | exact prl ‹_› | exact plll ‹_› | exact prll ‹_›))
  first | refine CallK.one (toFork f) (fun _ => amC) ?_ | refine CallE.one (toFork f) (fun _ => amC) rfl ?_ | refine CallG.one rfl (fun hg => toFork f) ?_ | refine CallEG.one rfl rfl (fun hg => toFork f) ?_
  (try refine am (h := ?_)); (try with_reducible apply True.intro)
  repeat' (first | (with_reducible refine And.intro ?_ ?_) | (with_reducible intro _))
  all_goals try (first | omega | with_reducible rfl | ((with_reducible refine eqId ?_); exact rfl) | with_reducible (first | assumption | exact pl ‹_› | exact pr ‹_› | exact plr ‹_› | exact pll ‹_› | exact prl ‹_› | exact plll ‹_› | exact prll ‹_›))
  first | refine CallK.one (toIntSS l _ _ _ hl2) (fun _ => amC) ?_ | refine CallE.one (toIntSS l _ _ _ hl2) (fun _ => amC) rfl ?_ | refine CallG.one rfl (fun hg => toIntSS l _ _ _ hl2) ?_ | refine CallEG.one rfl rfl (fun hg => toIntSS l _ _ _ hl2) ?_
  (try refine am (h := ?_)); (try with_reducible apply True.intro)
  repeat' (first | (with_reducible refine And.intro ?_ ?_) | (with_reducible intro _))
  all_goals try (first | omega | with_reducible rfl | ((with_reducible refine eqId ?_); exact rfl) | with_reducible (first | assumption | exact pl ‹_› | exact pr ‹_› | exact plr ‹_› | exact pll ‹_› | exact prl ‹_› | exact plll ‹_› | exact prll ‹_›))
  first | refine CallK.one (specSplitAt s t i f l _ _ _ _ _ _ hs ht2 (by omega) hi hf hl2) (fun _ => amC) ?_ | refine CallE.one (specSplitAt s t i f l _ _ _ _ _ _ hs ht2 (by omega) hi hf hl2) (fun _ => amC) rfl ?_ | refine CallG.one rfl (fun hg => specSplitAt s t i f l _ _ _ _ _ _ hs ht2 (by omega) hi hf hl2) ?_ | refine CallEG.one rfl rfl (fun hg => specSplitAt s t i f l _ _ _ _ _ _ hs ht2 (by omega) hi hf hl2) ?_
  (try refine am (h := ?_)); (try with_reducible apply True.intro)
  repeat' (first | (with_reducible refine And.intro ?_ ?_) | (with_reducible intro _))
  all_goals try (first | omega | with_reducible rfl | ((with_reducible refine eqId ?_); exact rfl) | with_reducible (first | assumption | exact pl ‹_› | exact pr ‹_› | exact plr ‹_› | exact pll ‹_› | exact prl ‹_› | exact plll ‹_› | exact prll ‹_›))
  first | refine CallK.one (toSchema s false false hs2) (fun _ => amC) ?_ | refine CallE.one (toSchema s false false hs2) (fun _ => amC) rfl ?_ | refine CallG.one rfl (fun hg => toSchema s false false hs2) ?_ | refine CallEG.one rfl rfl (fun hg => toSchema s false false hs2) ?_
  (try refine am (h := ?_)); (try with_reducible apply True.intro)
  repeat' (first | (with_reducible refine And.intro ?_ ?_) | (with_reducible intro _))
  all_goals try (first | omega | with_reducible rfl | ((with_reducible refine eqId ?_); exact rfl) | with_reducible (first | assumption | exact pl ‹_› | exact pr ‹_› | exact plr ‹_› | exact pll ‹_› | exact prl ‹_› | exact plll ‹_› | exact prll ‹_›))
  first | refine CallK.one (toTree t false false ht2) (fun _ => amC) ?_ | refine CallE.one (toTree t false false ht2) (fun _ => amC) rfl ?_ | refine CallG.one rfl (fun hg => toTree t false false ht2) ?_ | refine CallEG.one rfl rfl (fun hg => toTree t false false ht2) ?_
  (try refine am (h := ?_)); (try with_reducible apply True.intro)
  repeat' (first | (with_reducible refine And.intro ?_ ?_) | (with_reducible intro _))
  all_goals try (first | omega | with_reducible rfl | ((with_reducible refine eqId ?_); exact rfl) | with_reducible (first | assumption | exact pl ‹_› | exact pr ‹_› | exact plr ‹_› | exact pll ‹_› | exact prl ‹_› | exact plll ‹_› | exact prll ‹_›))
  first | refine CallK.one (toIntSS l _ _ _ hl2) (fun _ => amC) ?_ | refine CallE.one (toIntSS l _ _ _ hl2) (fun _ => amC) rfl ?_ | refine CallG.one rfl (fun hg => toIntSS l _ _ _ hl2) ?_ | refine CallEG.one rfl rfl (fun hg => toIntSS l _ _ _ hl2) ?_
  (try refine am (h := ?_)); (try with_reducible apply True.intro)
  repeat' (first | (with_reducible refine And.intro ?_ ?_) | (with_reducible intro _))
  all_goals try (first | omega | with_reducible rfl | ((with_reducible refine eqId ?_); exact rfl) | with_reducible (first | assumption | exact pl ‹_› | exact pr ‹_› | exact plr ‹_› | exact pll ‹_› | exact prl ‹_› | exact plll ‹_› | exact prll ‹_›))
  first | refine CallK.one (toFork f) (fun _ => amC) ?_ | refine CallE.one (toFork f) (fun _ => amC) rfl ?_ | refine CallG.one rfl (fun hg => toFork f) ?_ | refine CallEG.one rfl rfl (fun hg => toFork f) ?_
  (try refine am (h := ?_)); (try with_reducible apply True.intro)
  repeat' (first | (with_reducible refine And.intro ?_ ?_) | (with_reducible intro _))
  all_goals try (first | omega | with_reducible rfl | ((with_reducible refine eqId ?_); exact rfl) | with_reducible (first | assumption | exact pl ‹_› | exact pr ‹_› | exact plr ‹_› | exact pll ‹_› | exact prl ‹_› | exact plll ‹_› | exact prll ‹_›))
  first | refine CallK.one (implSplitAt s t i f l _ _ _ _ _ _ hs ht2 (by omega) hi hf hl2) (fun _ => amC) ?_ | refine CallE.one (implSplitAt s t i f l _ _ _ _ _ _ hs ht2 (by omega) hi hf hl2) (fun _ => amC) rfl ?_ | refine CallG.one rfl (fun hg => implSplitAt s t i f l _ _ _ _ _ _ hs ht2 (by omega) hi hf hl2) ?_ | refine CallEG.one rfl rfl (fun hg => implSplitAt s t i f l _ _ _ _ _ _ hs ht2 (by omega) hi hf hl2) ?_
  (try refine am (h := ?_)); (try with_reducible apply True.intro)
  repeat' (first | (with_reducible refine And.intro ?_ ?_) | (with_reducible intro _))
  all_goals try (first | omega | with_reducible rfl | ((with_reducible refine eqId ?_); exact rfl) | with_reducible (first | assumption | exact pl ‹_› | exact pr ‹_› | exact plr ‹_› | exact pll ‹_› | exact prl ‹_› | exact plll ‹_› | exact prll ‹_›))
  first | refine CallK.one (eqTree (splitA s t i f l) (splitA s t i f l) _ _ _ _ hr) (fun _ => amC) ?_ | refine CallE.one (eqTree (splitA s t i f l) (splitA s t i f l) _ _ _ _ hr) (fun _ => amC) rfl ?_ | refine CallG.one rfl (fun hg => eqTree (splitA s t i f l) (splitA s t i f l) _ _ _ _ hr) ?_ | refine CallEG.one rfl rfl (fun hg => eqTree (splitA s t i f l) (splitA s t i f l) _ _ _ _ hr) ?_
  (try refine am (h := ?_)); (try with_reducible apply True.intro)
  (try refine am (h := ?_)); (try simp only [eq_self]); (try refine am (h := ?_)); (try with_reducible apply True.intro)
  repeat' (first | (with_reducible refine And.intro ?_ ?_) | (with_reducible intro _))
  all_goals try (first | omega | with_reducible rfl | ((with_reducible refine eqId ?_); exact rfl) | with_reducible (first | assumption | exact pl ‹_› | exact pr ‹_› | exact plr ‹_› | exact pll ‹_› | exact prl ‹_› | exact plll ‹_› | exact prll ‹_›))
  first | refine CallK.one (toSchema s false false hs2) (fun _ => amC) ?_ | refine CallE.one (toSchema s false false hs2) (fun _ => amC) rfl ?_ | refine CallG.one rfl (fun hg => toSchema s false false hs2) ?_ | refine CallEG.one rfl rfl (fun hg => toSchema s false false hs2) ?_
  (try refine am (h := ?_)); (try with_reducible apply True.intro)
  first | refine CallK.one (eqSchema s s _ _ _ _ hs) (fun _ => amC) ?_ | refine CallE.one (eqSchema s s _ _ _ _ hs) (fun _ => amC) rfl ?_ | refine CallG.one rfl (fun hg => eqSchema s s _ _ _ _ hs) ?_ | refine CallEG.one rfl rfl (fun hg => eqSchema s s _ _ _ _ hs) ?_
  (try refine am (h := ?_)); (try with_reducible apply True.intro)
  repeat' (first | (with_reducible refine And.intro ?_ ?_) | (with_reducible intro _))
  all_goals try (first | omega | with_reducible rfl | ((with_reducible refine eqId ?_); exact rfl) | with_reducible (first | assumption | exact pl ‹_› | exact pr ‹_› | exact plr ‹_› | exact pll ‹_› | exact prl ‹_› | exact plll ‹_› | exact prll ‹_›))
  first | refine CallK.one (toTree t false false ht2) (fun _ => amC) ?_ | refine CallE.one (toTree t false false ht2) (fun _ => amC) rfl ?_ | refine CallG.one rfl (fun hg => toTree t false false ht2) ?_ | refine CallEG.one rfl rfl (fun hg => toTree t false false ht2) ?_
  (try refine am (h := ?_)); (try with_reducible apply True.intro)
  first | refine CallK.one (eqTree t t _ _ _ _ ht) (fun _ => amC) ?_ | refine CallE.one (eqTree t t _ _ _ _ ht) (fun _ => amC) rfl ?_ | refine CallG.one rfl (fun hg => eqTree t t _ _ _ _ ht) ?_ | refine CallEG.one rfl rfl (fun hg => eqTree t t _ _ _ _ ht) ?_
  (try refine am (h := ?_)); (try with_reducible apply True.intro)
  repeat' (first | (with_reducible refine And.intro ?_ ?_) | (with_reducible intro _))
  all_goals try (first | omega | with_reducible rfl | ((with_reducible refine eqId ?_); exact rfl) | with_reducible (first | assumption | exact pl ‹_› | exact pr ‹_› | exact plr ‹_› | exact pll ‹_› | exact prl ‹_› | exact plll ‹_› | exact prll ‹_›))
  first | refine CallK.one (toIntSS l _ _ _ hl2) (fun _ => amC) ?_ | refine CallE.one (toIntSS l _ _ _ hl2) (fun _ => amC) rfl ?_ | refine CallG.one rfl (fun hg => toIntSS l _ _ _ hl2) ?_ | refine CallEG.one rfl rfl (fun hg => toIntSS l _ _ _ hl2) ?_
  (try refine am (h := ?_)); (try with_reducible apply True.intro)
  first | refine CallK.one (eqIntSS l l _ _ _ _ _ _ hl) (fun _ => amC) ?_ | refine CallE.one (eqIntSS l l _ _ _ _ _ _ hl) (fun _ => amC) rfl ?_ | refine CallG.one rfl (fun hg => eqIntSS l l _ _ _ _ _ _ hl) ?_ | refine CallEG.one rfl rfl (fun hg => eqIntSS l l _ _ _ _ _ _ hl) ?_
  (try refine am (h := ?_)); (try with_reducible apply True.intro)
  repeat' (first | (with_reducible refine And.intro ?_ ?_) | (with_reducible intro _))
  all_goals try (first | omega | with_reducible rfl | ((with_reducible refine eqId ?_); exact rfl) | with_reducible (first | assumption | exact pl ‹_› | exact pr ‹_› | exact plr ‹_› | exact pll ‹_› | exact prl ‹_› | exact plll ‹_› | exact prll ‹_›))
  refine CallK.wrap w_markSchema rfl ?_
  refine partsM_one (markAttrS s.attrs (1 : Int) none hs.1 (by omega) (by omega)) rfl ?wb1 ?wc1 ?wd1 ?we1
  case wb1 => (try refine am (h := ?_)); (try with_reducible apply True.intro)
  case wc1 => exact rfl
  case wd1 => exact rfl
  refine partsM_one (markStringS s.classes ((1 : Int) + sm nAttr s.attrs) none hs.2.1 (by omega) (by omega)) rfl ?wb2 ?wc2 ?wd2 ?we2
  case wb2 => (try refine am (h := ?_)); (try with_reducible apply True.intro)
  case wc2 => exact rfl
  case wd2 => exact rfl
  refine partsM_nil ?_
  (try refine am (h := ?_)); (try with_reducible apply True.intro)
  refine CallK.wrap w_markTree rfl ?_
  refine partsM_one (markNodeS t.nodes (((1 : Int) + sm nAttr s.attrs) + s.classes.length) none ht.1 (by omega) (by omega)) rfl ?wb3 ?wc3 ?wd3 ?we3
  case wb3 => (try refine am (h := ?_)); (try with_reducible apply True.intro)
  case wc3 => exact rfl
  case wd3 => exact rfl
  refine partsM_nil ?_
  (try refine am (h := ?_)); (try with_reducible apply True.intro)
  refine CallK.mut (markIntSS l ((((1 : Int) + sm nAttr s.attrs) + s.classes.length) + sm nNode t.nodes) none hl (by omega) (by omega)) rfl rfl rfl ?_
  (try refine am (h := ?_)); (try with_reducible apply True.intro)
  have hk : ¬ ((((((1 : Int) + sm nAttr s.attrs) + s.classes.length) + sm nNode t.nodes) + tot l) < 0) := by omega
  (try refine am (h := ?_)); (try simp only [hk]); (try refine am (h := ?_)); (try with_reducible apply True.intro)
  first | refine CallK.one (eqTree (splitA s t i f l) (splitA s t i f l) _ _ _ _ hr) (fun _ => amC) ?_ | refine CallE.one (eqTree (splitA s t i f l) (splitA s t i f l) _ _ _ _ hr) (fun _ => amC) rfl ?_ | refine CallG.one rfl (fun hg => eqTree (splitA s t i f l) (splitA s t i f l) _ _ _ _ hr) ?_ | refine CallEG.one rfl rfl (fun hg => eqTree (splitA s t i f l) (splitA s t i f l) _ _ _ _ hr) ?_
  (try refine am (h := ?_)); (try with_reducible apply True.intro)
  (try refine am (h := ?_)); (try simp only [eq_self]); (try refine am (h := ?_)); (try with_reducible apply True.intro)
  repeat' (first | (with_reducible refine And.intro ?_ ?_) | (with_reducible intro _))
  all_goals try (first | omega | with_reducible rfl | ((with_reducible refine eqId ?_); exact rfl) | with_reducible (first | assumption | exact pl ‹_› | exact pr ‹_› | exact plr ‹_› | exact pll ‹_› | exact prl ‹_› | exact plll ‹_› | exact prll ‹_›))
  (try refine am (h := ?_)); (try simp only [hk]); (try refine am (h := ?_)); (try with_reducible apply True.intro)
  refine CallK.wrap w_markTree rfl ?_
  refine partsM_one (markNodeS (splitA s t i f l).nodes (1 : Int) none hr.1 (by omega) (by omega)) rfl ?wb4 ?wc4 ?wd4 ?we4
  case wb4 => (try refine am (h := ?_)); (try with_reducible apply True.intro)
  case wc4 => exact rfl
  case wd4 => exact rfl
  refine partsM_nil ?_
  (try refine am (h := ?_)); (try with_reducible apply True.intro)
  first | refine CallK.one (heldTree (splitA s t i f l) (1 : Int) _ _ hr.1 (by omega) (by omega)) (fun _ => amC) ?_ | refine CallE.one (heldTree (splitA s t i f l) (1 : Int) _ _ hr.1 (by omega) (by omega)) (fun _ => amC) rfl ?_ | refine CallG.one rfl (fun hg => heldTree (splitA s t i f l) (1 : Int) _ _ hr.1 (by omega) (by omega)) ?_ | refine CallEG.one rfl rfl (fun hg => heldTree (splitA s t i f l) (1 : Int) _ _ hr.1 (by omega) (by omega)) ?_
  (try refine am (h := ?_)); (try with_reducible apply True.intro)
  refine ⟨fun hh => absurd hh (by omega), fun _ => ?_⟩
  repeat' (first | (with_reducible refine And.intro ?_ ?_) | (with_reducible intro _))
  all_goals try (first | omega | with_reducible rfl | ((with_reducible refine eqId ?_); exact rfl) | with_reducible (first | assumption | exact pl ‹_› | exact pr ‹_› | exact plr ‹_› | exact pll ‹_› | exact prl ‹_› | exact plll ‹_› | exact prll ‹_›))
  first | refine CallK.one (toSchema s false false hs2) (fun _ => amC) ?_ | refine CallE.one (toSchema s false false hs2) (fun _ => amC) rfl ?_ | refine CallG.one rfl (fun hg => toSchema s false false hs2) ?_ | refine CallEG.one rfl rfl (fun hg => toSchema s false false hs2) ?_
  (try refine am (h := ?_)); (try with_reducible apply True.intro)
  repeat' (first | (with_reducible refine And.intro ?_ ?_) | (with_reducible intro _))
  all_goals try (first | omega | with_reducible rfl | ((with_reducible refine eqId ?_); exact rfl) | with_reducible (first | assumption | exact pl ‹_› | exact pr ‹_› | exact plr ‹_› | exact pll ‹_› | exact prl ‹_› | exact plll ‹_› | exact prll ‹_›))
  first | refine CallK.one (toTree t false false ht2) (fun _ => amC) ?_ | refine CallE.one (toTree t false false ht2) (fun _ => amC) rfl ?_ | refine CallG.one rfl (fun hg => toTree t false false ht2) ?_ | refine CallEG.one rfl rfl (fun hg => toTree t false false ht2) ?_
  (try refine am (h := ?_)); (try with_reducible apply True.intro)
  repeat' (first | (with_reducible refine And.intro ?_ ?_) | (with_reducible intro _))
  all_goals try (first | omega | with_reducible rfl | ((with_reducible refine eqId ?_); exact rfl) | with_reducible (first | assumption | exact pl ‹_› | exact pr ‹_› | exact plr ‹_› | exact pll ‹_› | exact prl ‹_› | exact plll ‹_› | exact prll ‹_›))
  first | refine CallK.one (toFork f) (fun _ => amC) ?_ | refine CallE.one (toFork f) (fun _ => amC) rfl ?_ | refine CallG.one rfl (fun hg => toFork f) ?_ | refine CallEG.one rfl rfl (fun hg => toFork f) ?_
  (try refine am (h := ?_)); (try with_reducible apply True.intro)
  repeat' (first | (with_reducible refine And.intro ?_ ?_) | (with_reducible intro _))
  all_goals try (first | omega | with_reducible rfl | ((with_reducible refine eqId ?_); exact rfl) | with_reducible (first | assumption | exact pl ‹_› | exact pr ‹_› | exact plr ‹_› | exact pll ‹_› | exact prl ‹_› | exact plll ‹_› | exact prll ‹_›))
  first | refine CallK.one (toIntSS l _ _ _ hl2) (fun _ => amC) ?_ | refine CallE.one (toIntSS l _ _ _ hl2) (fun _ => amC) rfl ?_ | refine CallG.one rfl (fun hg => toIntSS l _ _ _ hl2) ?_ | refine CallEG.one rfl rfl (fun hg => toIntSS l _ _ _ hl2) ?_
  (try refine am (h := ?_)); (try with_reducible apply True.intro)
  repeat' (first | (with_reducible refine And.intro ?_ ?_) | (with_reducible intro _))
  all_goals try (first | omega | with_reducible rfl | ((with_reducible refine eqId ?_); exact rfl) | with_reducible (first | assumption | exact pl ‹_› | exact pr ‹_› | exact plr ‹_› | exact pll ‹_› | exact prl ‹_› | exact plll ‹_› | exact prll ‹_›))
  first | refine CallK.one (implSplitAt s t i f l _ _ _ _ _ _ hs ht2 (by omega) hi hf hl2) (fun _ => amC) ?_ | refine CallE.one (implSplitAt s t i f l _ _ _ _ _ _ hs ht2 (by omega) hi hf hl2) (fun _ => amC) rfl ?_ | refine CallG.one rfl (fun hg => implSplitAt s t i f l _ _ _ _ _ _ hs ht2 (by omega) hi hf hl2) ?_ | refine CallEG.one rfl rfl (fun hg => implSplitAt s t i f l _ _ _ _ _ _ hs ht2 (by omega) hi hf hl2) ?_
  (try refine am (h := ?_)); (try with_reducible apply True.intro)
  repeat' (first | (with_reducible refine And.intro ?_ ?_) | (with_reducible intro _))
  all_goals try (first | omega | with_reducible rfl | ((with_reducible refine eqId ?_); exact rfl) | with_reducible (first | assumption | exact pl ‹_› | exact pr ‹_› | exact plr ‹_› | exact pll ‹_› | exact prl ‹_› | exact plll ‹_› | exact prll ‹_›))
  first | refine CallK.one (eqTree (splitA s t i f l) (splitA s t i f l) _ _ _ _ hr) (fun _ => amC) ?_ | refine CallE.one (eqTree (splitA s t i f l) (splitA s t i f l) _ _ _ _ hr) (fun _ => amC) rfl ?_ | refine CallG.one rfl (fun hg => eqTree (splitA s t i f l) (splitA s t i f l) _ _ _ _ hr) ?_ | refine CallEG.one rfl rfl (fun hg => eqTree (splitA s t i f l) (splitA s t i f l) _ _ _ _ hr) ?_
  (try refine am (h := ?_)); (try with_reducible apply True.intro)
  (try refine am (h := ?_)); (try simp only [eq_self]); (try refine am (h := ?_)); (try with_reducible apply True.intro)
  repeat' (first | (with_reducible refine And.intro ?_ ?_) | (with_reducible intro _))
  all_goals try (first | omega | with_reducible rfl | ((with_reducible refine eqId ?_); exact rfl) | with_reducible (first | assumption | exact pl ‹_› | exact pr ‹_› | exact plr ‹_› | exact pll ‹_› | exact prl ‹_› | exact plll ‹_› | exact prll ‹_›))
  first | refine CallK.one (heldTree (splitA s t i f l) (1 : Int) _ _ hr.1 (by omega) (by omega)) (fun _ => amC) ?_ | refine CallE.one (heldTree (splitA s t i f l) (1 : Int) _ _ hr.1 (by omega) (by omega)) (fun _ => amC) rfl ?_ | refine CallG.one rfl (fun hg => heldTree (splitA s t i f l) (1 : Int) _ _ hr.1 (by omega) (by omega)) ?_ | refine CallEG.one rfl rfl (fun hg => heldTree (splitA s t i f l) (1 : Int) _ _ hr.1 (by omega) (by omega)) ?_
  (try refine am (h := ?_)); (try with_reducible apply True.intro)
  refine ⟨fun hh => absurd hh (by omega), fun _ => ?_⟩
  refine FinK.val1 ?_ ?_
  all_goals (try refine amF (h := ?_))
  all_goals (try with_reducible apply True.intro)
end Go.AM
