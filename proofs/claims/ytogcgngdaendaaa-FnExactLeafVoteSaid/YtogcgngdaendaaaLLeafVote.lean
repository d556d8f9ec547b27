/- Lemmas for the proof of this claim. -/
import Derived.Test.YtogcgngdaendaaaPth
import Derived.Test.YtogcgngdaendaaaMrk2
namespace Go.AM
open Go Go.Proofs
set_option maxRecDepth 100000
set_option maxHeartbeats 8000000 in
theorem fnExactLeafVote (s : DSchema) (t : DTree) (x : DEx) (hs : okSchema (2 ^ 47) s) (ht : okTree (2 ^ 47) t) (hx : okEx (2 ^ 47) x) : ACalls Try.prog 13 [.agg (cSchema false false s), .agg (cTree false false t), .agg (cEx false false x)] (fun r => r = .val (.one (.bool true))) := by
  have nt : Try.f13.ntmps = 115 := rfl
  have rs : Try.f13.results = #[.tmp 6] := rfl
  refine ACalls.of_run (m := 400) mixed Try.func13 rfl rfl (Nat.le_of_ble_eq_true rfl) ?_
  simp only [nt, rs]
  clear nt rs
  (try refine am (h := ?_)); (try with_reducible apply True.intro)
  first | refine CallK.one (szSchema s 1048576 false false hs (by omega) (by omega)) (fun _ => amC) ?_ | refine CallE.one (szSchema s 1048576 false false hs (by omega) (by omega)) (fun _ => amC) rfl ?_ | refine CallG.one rfl (fun hg => szSchema s 1048576 false false hs (by omega) (by omega)) ?_ | refine CallEG.one rfl rfl (fun hg => szSchema s 1048576 false false hs (by omega) (by omega)) ?_
  (try refine am (h := ?_)); (try with_reducible apply True.intro)
  rcases less_cases 1048576 (zSchema s) with ⟨hcs, e⟩ | ⟨hcs, e⟩
  · (try refine am (h := ?_)); (try simp only [e]); (try refine am (h := ?_)); (try with_reducible apply True.intro)
    refine FinK.val1 ?_ ?_
    all_goals (try refine amF (h := ?_))
    all_goals (try with_reducible apply True.intro)
  (try refine am (h := ?_)); (try simp only [e]); (try refine am (h := ?_)); (try with_reducible apply True.intro)
  repeat' (first | (with_reducible refine And.intro ?_ ?_) | (with_reducible intro _))
  all_goals try (first | omega | with_reducible rfl | ((with_reducible refine eqId ?_); exact rfl) | with_reducible assumption | (with_reducible exact And.left (by assumption)) | (with_reducible exact And.right (by assumption)) | (with_reducible exact And.left (And.right (by assumption))) | (with_reducible exact And.left (And.left (by assumption))) | (with_reducible exact And.right (And.left (by assumption))) | (with_reducible exact And.left (And.left (And.left (by assumption)))) | (with_reducible exact And.right (And.left (And.left (by assumption)))))
  first | refine CallK.one (szTree t (1048576 - (zSchema s : Nat)) false false ht (by omega) (by omega)) (fun _ => amC) ?_ | refine CallE.one (szTree t (1048576 - (zSchema s : Nat)) false false ht (by omega) (by omega)) (fun _ => amC) rfl ?_ | refine CallG.one rfl (fun hg => szTree t (1048576 - (zSchema s : Nat)) false false ht (by omega) (by omega)) ?_ | refine CallEG.one rfl rfl (fun hg => szTree t (1048576 - (zSchema s : Nat)) false false ht (by omega) (by omega)) ?_
  (try refine am (h := ?_)); (try with_reducible apply True.intro)
  rcases less_cases (1048576 - (zSchema s : Nat)) (zTree t) with ⟨hct, e⟩ | ⟨hct, e⟩
  · (try refine am (h := ?_)); (try simp only [e]); (try refine am (h := ?_)); (try with_reducible apply True.intro)
    refine FinK.val1 ?_ ?_
    all_goals (try refine amF (h := ?_))
    all_goals (try with_reducible apply True.intro)
  (try refine am (h := ?_)); (try simp only [e]); (try refine am (h := ?_)); (try with_reducible apply True.intro)
  repeat' (first | (with_reducible refine And.intro ?_ ?_) | (with_reducible intro _))
  all_goals try (first | omega | with_reducible rfl | ((with_reducible refine eqId ?_); exact rfl) | with_reducible assumption | (with_reducible exact And.left (by assumption)) | (with_reducible exact And.right (by assumption)) | (with_reducible exact And.left (And.right (by assumption))) | (with_reducible exact And.left (And.left (by assumption))) | (with_reducible exact And.right (And.left (by assumption))) | (with_reducible exact And.left (And.left (And.left (by assumption)))) | (with_reducible exact And.right (And.left (And.left (by assumption)))))
  first | refine CallK.one (szEx x ((1048576 - (zSchema s : Nat)) - (zTree t : Nat)) false false hx (by omega) (by omega)) (fun _ => amC) ?_ | refine CallE.one (szEx x ((1048576 - (zSchema s : Nat)) - (zTree t : Nat)) false false hx (by omega) (by omega)) (fun _ => amC) rfl ?_ | refine CallG.one rfl (fun hg => szEx x ((1048576 - (zSchema s : Nat)) - (zTree t : Nat)) false false hx (by omega) (by omega)) ?_ | refine CallEG.one rfl rfl (fun hg => szEx x ((1048576 - (zSchema s : Nat)) - (zTree t : Nat)) false false hx (by omega) (by omega)) ?_
  (try refine am (h := ?_)); (try with_reducible apply True.intro)
  rcases less_cases ((1048576 - (zSchema s : Nat)) - (zTree t : Nat)) (zEx x) with ⟨hcx, e⟩ | ⟨hcx, e⟩
  · (try refine am (h := ?_)); (try simp only [e]); (try refine am (h := ?_)); (try with_reducible apply True.intro)
    refine FinK.val1 ?_ ?_
    all_goals (try refine amF (h := ?_))
    all_goals (try with_reducible apply True.intro)
  (try refine am (h := ?_)); (try simp only [e]); (try refine am (h := ?_)); (try with_reducible apply True.intro)
  repeat' (first | (with_reducible refine And.intro ?_ ?_) | (with_reducible intro _))
  all_goals try (first | omega | with_reducible rfl | ((with_reducible refine eqId ?_); exact rfl) | with_reducible assumption | (with_reducible exact And.left (by assumption)) | (with_reducible exact And.right (by assumption)) | (with_reducible exact And.left (And.right (by assumption))) | (with_reducible exact And.left (And.left (by assumption))) | (with_reducible exact And.right (And.left (by assumption))) | (with_reducible exact And.left (And.left (And.left (by assumption)))) | (with_reducible exact And.right (And.left (And.left (by assumption)))))
  have ss : zSchema s ≤ 1048576 := by omega
  have hs2 : okSchema (2 ^ 40) s := okSchema_sz hs (by omega)
  have st : zTree t ≤ 1048576 := by omega
  have ht2 : okTree (2 ^ 40) t := okTree_sz ht (by omega)
  have sx : zEx x ≤ 1048576 := by omega
  have hx2 : okEx (2 ^ 40) x := okEx_sz hx (by omega)
  have fs := nAttr_z s
  have ft := sm_nNode_z t.nodes
  have ft2 : zTree t = zNodeS t.nodes := rfl
  have ft3 : zNodeS t.nodes = t.nodes.length + sm zNode t.nodes := rfl
  have fx : zEx x = x.bins.length := rfl
  have hr : okI (2 ^ 47) (leafVote s t x) := leafVote_ok hs.2.1 ht
  have hrl := hr.1
  first | refine CallK.one (toSchema s false false hs2) (fun _ => amC) ?_ | refine CallE.one (toSchema s false false hs2) (fun _ => amC) rfl ?_ | refine CallG.one rfl (fun hg => toSchema s false false hs2) ?_ | refine CallEG.one rfl rfl (fun hg => toSchema s false false hs2) ?_
  (try refine am (h := ?_)); (try with_reducible apply True.intro)
  repeat' (first | (with_reducible refine And.intro ?_ ?_) | (with_reducible intro _))
  all_goals try (first | omega | with_reducible rfl | ((with_reducible refine eqId ?_); exact rfl) | with_reducible assumption | (with_reducible exact And.left (by assumption)) | (with_reducible exact And.right (by assumption)) | (with_reducible exact And.left (And.right (by assumption))) | (with_reducible exact And.left (And.left (by assumption))) | (with_reducible exact And.right (And.left (by assumption))) | (with_reducible exact And.left (And.left (And.left (by assumption)))) | (with_reducible exact And.right (And.left (And.left (by assumption)))))
  first | refine CallK.one (toTree t false false ht2) (fun _ => amC) ?_ | refine CallE.one (toTree t false false ht2) (fun _ => amC) rfl ?_ | refine CallG.one rfl (fun hg => toTree t false false ht2) ?_ | refine CallEG.one rfl rfl (fun hg => toTree t false false ht2) ?_
  (try refine am (h := ?_)); (try with_reducible apply True.intro)
  repeat' (first | (with_reducible refine And.intro ?_ ?_) | (with_reducible intro _))
  all_goals try (first | omega | with_reducible rfl | ((with_reducible refine eqId ?_); exact rfl) | with_reducible assumption | (with_reducible exact And.left (by assumption)) | (with_reducible exact And.right (by assumption)) | (with_reducible exact And.left (And.right (by assumption))) | (with_reducible exact And.left (And.left (by assumption))) | (with_reducible exact And.right (And.left (by assumption))) | (with_reducible exact And.left (And.left (And.left (by assumption)))) | (with_reducible exact And.right (And.left (And.left (by assumption)))))
  first | refine CallK.one (toEx x false false hx2) (fun _ => amC) ?_ | refine CallE.one (toEx x false false hx2) (fun _ => amC) rfl ?_ | refine CallG.one rfl (fun hg => toEx x false false hx2) ?_ | refine CallEG.one rfl rfl (fun hg => toEx x false false hx2) ?_
  (try refine am (h := ?_)); (try with_reducible apply True.intro)
  repeat' (first | (with_reducible refine And.intro ?_ ?_) | (with_reducible intro _))
  all_goals try (first | omega | with_reducible rfl | ((with_reducible refine eqId ?_); exact rfl) | with_reducible assumption | (with_reducible exact And.left (by assumption)) | (with_reducible exact And.right (by assumption)) | (with_reducible exact And.left (And.right (by assumption))) | (with_reducible exact And.left (And.left (by assumption))) | (with_reducible exact And.right (And.left (by assumption))) | (with_reducible exact And.left (And.left (And.left (by assumption)))) | (with_reducible exact And.right (And.left (And.left (by assumption)))))
  first | refine CallK.one (specLeafVoteA s t x _ _ _ _ _ hs ht hx) (fun _ => amC) ?_ | refine CallE.one (specLeafVoteA s t x _ _ _ _ _ hs ht hx) (fun _ => amC) rfl ?_ | refine CallG.one rfl (fun hg => specLeafVoteA s t x _ _ _ _ _ hs ht hx) ?_ | refine CallEG.one rfl rfl (fun hg => specLeafVoteA s t x _ _ _ _ _ hs ht hx) ?_
  (try refine am (h := ?_)); (try with_reducible apply True.intro)
  repeat' (first | (with_reducible refine And.intro ?_ ?_) | (with_reducible intro _))
  all_goals try (first | omega | with_reducible rfl | ((with_reducible refine eqId ?_); exact rfl) | with_reducible assumption | (with_reducible exact And.left (by assumption)) | (with_reducible exact And.right (by assumption)) | (with_reducible exact And.left (And.right (by assumption))) | (with_reducible exact And.left (And.left (by assumption))) | (with_reducible exact And.right (And.left (by assumption))) | (with_reducible exact And.left (And.left (And.left (by assumption)))) | (with_reducible exact And.right (And.left (And.left (by assumption)))))
  first | refine CallK.one (toSchema s false false hs2) (fun _ => amC) ?_ | refine CallE.one (toSchema s false false hs2) (fun _ => amC) rfl ?_ | refine CallG.one rfl (fun hg => toSchema s false false hs2) ?_ | refine CallEG.one rfl rfl (fun hg => toSchema s false false hs2) ?_
  (try refine am (h := ?_)); (try with_reducible apply True.intro)
  repeat' (first | (with_reducible refine And.intro ?_ ?_) | (with_reducible intro _))
  all_goals try (first | omega | with_reducible rfl | ((with_reducible refine eqId ?_); exact rfl) | with_reducible assumption | (with_reducible exact And.left (by assumption)) | (with_reducible exact And.right (by assumption)) | (with_reducible exact And.left (And.right (by assumption))) | (with_reducible exact And.left (And.left (by assumption))) | (with_reducible exact And.right (And.left (by assumption))) | (with_reducible exact And.left (And.left (And.left (by assumption)))) | (with_reducible exact And.right (And.left (And.left (by assumption)))))
  first | refine CallK.one (toTree t false false ht2) (fun _ => amC) ?_ | refine CallE.one (toTree t false false ht2) (fun _ => amC) rfl ?_ | refine CallG.one rfl (fun hg => toTree t false false ht2) ?_ | refine CallEG.one rfl rfl (fun hg => toTree t false false ht2) ?_
  (try refine am (h := ?_)); (try with_reducible apply True.intro)
  repeat' (first | (with_reducible refine And.intro ?_ ?_) | (with_reducible intro _))
  all_goals try (first | omega | with_reducible rfl | ((with_reducible refine eqId ?_); exact rfl) | with_reducible assumption | (with_reducible exact And.left (by assumption)) | (with_reducible exact And.right (by assumption)) | (with_reducible exact And.left (And.right (by assumption))) | (with_reducible exact And.left (And.left (by assumption))) | (with_reducible exact And.right (And.left (by assumption))) | (with_reducible exact And.left (And.left (And.left (by assumption)))) | (with_reducible exact And.right (And.left (And.left (by assumption)))))
  first | refine CallK.one (toEx x false false hx2) (fun _ => amC) ?_ | refine CallE.one (toEx x false false hx2) (fun _ => amC) rfl ?_ | refine CallG.one rfl (fun hg => toEx x false false hx2) ?_ | refine CallEG.one rfl rfl (fun hg => toEx x false false hx2) ?_
  (try refine am (h := ?_)); (try with_reducible apply True.intro)
  repeat' (first | (with_reducible refine And.intro ?_ ?_) | (with_reducible intro _))
  all_goals try (first | omega | with_reducible rfl | ((with_reducible refine eqId ?_); exact rfl) | with_reducible assumption | (with_reducible exact And.left (by assumption)) | (with_reducible exact And.right (by assumption)) | (with_reducible exact And.left (And.right (by assumption))) | (with_reducible exact And.left (And.left (by assumption))) | (with_reducible exact And.right (And.left (by assumption))) | (with_reducible exact And.left (And.left (And.left (by assumption)))) | (with_reducible exact And.right (And.left (And.left (by assumption)))))
  first | refine CallK.one (implLeafVoteA s t x _ _ _ _ _ hs ht hx) (fun _ => amC) ?_ | refine CallE.one (implLeafVoteA s t x _ _ _ _ _ hs ht hx) (fun _ => amC) rfl ?_ | refine CallG.one rfl (fun hg => implLeafVoteA s t x _ _ _ _ _ hs ht hx) ?_ | refine CallEG.one rfl rfl (fun hg => implLeafVoteA s t x _ _ _ _ _ hs ht hx) ?_
  (try refine am (h := ?_)); (try with_reducible apply True.intro)
  repeat' (first | (with_reducible refine And.intro ?_ ?_) | (with_reducible intro _))
  all_goals try (first | omega | with_reducible rfl | ((with_reducible refine eqId ?_); exact rfl) | with_reducible assumption | (with_reducible exact And.left (by assumption)) | (with_reducible exact And.right (by assumption)) | (with_reducible exact And.left (And.right (by assumption))) | (with_reducible exact And.left (And.left (by assumption))) | (with_reducible exact And.right (And.left (by assumption))) | (with_reducible exact And.left (And.left (And.left (by assumption)))) | (with_reducible exact And.right (And.left (And.left (by assumption)))))
  first | refine CallK.one (eqIntS (leafVote s t x) (leafVote s t x) _ _ _ _ hr) (fun _ => amC) ?_ | refine CallE.one (eqIntS (leafVote s t x) (leafVote s t x) _ _ _ _ hr) (fun _ => amC) rfl ?_ | refine CallG.one rfl (fun hg => eqIntS (leafVote s t x) (leafVote s t x) _ _ _ _ hr) ?_ | refine CallEG.one rfl rfl (fun hg => eqIntS (leafVote s t x) (leafVote s t x) _ _ _ _ hr) ?_
  (try refine am (h := ?_)); (try with_reducible apply True.intro)
  (try refine am (h := ?_)); (try simp only [eq_self]); (try refine am (h := ?_)); (try with_reducible apply True.intro)
  repeat' (first | (with_reducible refine And.intro ?_ ?_) | (with_reducible intro _))
  all_goals try (first | omega | with_reducible rfl | ((with_reducible refine eqId ?_); exact rfl) | with_reducible assumption | (with_reducible exact And.left (by assumption)) | (with_reducible exact And.right (by assumption)) | (with_reducible exact And.left (And.right (by assumption))) | (with_reducible exact And.left (And.left (by assumption))) | (with_reducible exact And.right (And.left (by assumption))) | (with_reducible exact And.left (And.left (And.left (by assumption)))) | (with_reducible exact And.right (And.left (And.left (by assumption)))))
  first | refine CallK.one (toSchema s false false hs2) (fun _ => amC) ?_ | refine CallE.one (toSchema s false false hs2) (fun _ => amC) rfl ?_ | refine CallG.one rfl (fun hg => toSchema s false false hs2) ?_ | refine CallEG.one rfl rfl (fun hg => toSchema s false false hs2) ?_
  (try refine am (h := ?_)); (try with_reducible apply True.intro)
  first | refine CallK.one (eqSchema s s _ _ _ _ hs) (fun _ => amC) ?_ | refine CallE.one (eqSchema s s _ _ _ _ hs) (fun _ => amC) rfl ?_ | refine CallG.one rfl (fun hg => eqSchema s s _ _ _ _ hs) ?_ | refine CallEG.one rfl rfl (fun hg => eqSchema s s _ _ _ _ hs) ?_
  (try refine am (h := ?_)); (try with_reducible apply True.intro)
  repeat' (first | (with_reducible refine And.intro ?_ ?_) | (with_reducible intro _))
  all_goals try (first | omega | with_reducible rfl | ((with_reducible refine eqId ?_); exact rfl) | with_reducible assumption | (with_reducible exact And.left (by assumption)) | (with_reducible exact And.right (by assumption)) | (with_reducible exact And.left (And.right (by assumption))) | (with_reducible exact And.left (And.left (by assumption))) | (with_reducible exact And.right (And.left (by assumption))) | (with_reducible exact And.left (And.left (And.left (by assumption)))) | (with_reducible exact And.right (And.left (And.left (by assumption)))))
  first | refine CallK.one (toTree t false false ht2) (fun _ => amC) ?_ | refine CallE.one (toTree t false false ht2) (fun _ => amC) rfl ?_ | refine CallG.one rfl (fun hg => toTree t false false ht2) ?_ | refine CallEG.one rfl rfl (fun hg => toTree t false false ht2) ?_
  (try refine am (h := ?_)); (try with_reducible apply True.intro)
  first | refine CallK.one (eqTree t t _ _ _ _ ht) (fun _ => amC) ?_ | refine CallE.one (eqTree t t _ _ _ _ ht) (fun _ => amC) rfl ?_ | refine CallG.one rfl (fun hg => eqTree t t _ _ _ _ ht) ?_ | refine CallEG.one rfl rfl (fun hg => eqTree t t _ _ _ _ ht) ?_
  (try refine am (h := ?_)); (try with_reducible apply True.intro)
  repeat' (first | (with_reducible refine And.intro ?_ ?_) | (with_reducible intro _))
  all_goals try (first | omega | with_reducible rfl | ((with_reducible refine eqId ?_); exact rfl) | with_reducible assumption | (with_reducible exact And.left (by assumption)) | (with_reducible exact And.right (by assumption)) | (with_reducible exact And.left (And.right (by assumption))) | (with_reducible exact And.left (And.left (by assumption))) | (with_reducible exact And.right (And.left (by assumption))) | (with_reducible exact And.left (And.left (And.left (by assumption)))) | (with_reducible exact And.right (And.left (And.left (by assumption)))))
  first | refine CallK.one (toEx x false false hx2) (fun _ => amC) ?_ | refine CallE.one (toEx x false false hx2) (fun _ => amC) rfl ?_ | refine CallG.one rfl (fun hg => toEx x false false hx2) ?_ | refine CallEG.one rfl rfl (fun hg => toEx x false false hx2) ?_
  (try refine am (h := ?_)); (try with_reducible apply True.intro)
  first | refine CallK.one (eqEx x x _ false _ false hx) (fun _ => amC) ?_ | refine CallE.one (eqEx x x _ false _ false hx) (fun _ => amC) rfl ?_ | refine CallG.one rfl (fun hg => eqEx x x _ false _ false hx) ?_ | refine CallEG.one rfl rfl (fun hg => eqEx x x _ false _ false hx) ?_
  (try refine am (h := ?_)); (try with_reducible apply True.intro)
  repeat' (first | (with_reducible refine And.intro ?_ ?_) | (with_reducible intro _))
  all_goals try (first | omega | with_reducible rfl | ((with_reducible refine eqId ?_); exact rfl) | with_reducible assumption | (with_reducible exact And.left (by assumption)) | (with_reducible exact And.right (by assumption)) | (with_reducible exact And.left (And.right (by assumption))) | (with_reducible exact And.left (And.left (by assumption))) | (with_reducible exact And.right (And.left (by assumption))) | (with_reducible exact And.left (And.left (And.left (by assumption)))) | (with_reducible exact And.right (And.left (And.left (by assumption)))))
  refine CallK.wrap w_markSchema rfl ?_
  refine partsM_one (markAttrS s.attrs (1 : Int) none hs.1 (by omega) (by omega)) rfl ?wb1 ?wc1 ?wd1 ?we1
  case wb1 => (try refine am (h := ?_)); (try with_reducible apply True.intro)
  case wc1 => exact rfl
  case wd1 => exact rfl
  refine partsM_one (markStringS s.classes ((1 : Int) + sm nAttr s.attrs) none hs.2.1 (by omega) (by omega)) rfl ?wb2 ?wc2 ?wd2 ?we2
  case wb2 => (try refine am (h := ?_)); (try with_reducible apply True.intro)
  case wc2 => exact rfl
  case wd2 => exact rfl
  refine partsM_nil ?_
  (try refine am (h := ?_)); (try with_reducible apply True.intro)
  refine CallK.wrap w_markTree rfl ?_
  refine partsM_one (markNodeS t.nodes (((1 : Int) + sm nAttr s.attrs) + s.classes.length) none ht.1 (by omega) (by omega)) rfl ?wb3 ?wc3 ?wd3 ?we3
  case wb3 => (try refine am (h := ?_)); (try with_reducible apply True.intro)
  case wc3 => exact rfl
  case wd3 => exact rfl
  refine partsM_nil ?_
  (try refine am (h := ?_)); (try with_reducible apply True.intro)
  refine CallK.wrap w_markEx rfl ?_
  refine partsM_one (markIntS x.bins ((((1 : Int) + sm nAttr s.attrs) + s.classes.length) + sm nNode t.nodes) none hx.1 (by omega) (by omega)) rfl ?wb4 ?wc4 ?wd4 ?we4
  case wb4 => (try refine am (h := ?_)); (try with_reducible apply True.intro)
  case wc4 => exact rfl
  case wd4 => exact rfl
  refine partsM_nil ?_
  (try refine am (h := ?_)); (try with_reducible apply True.intro)
  have hk : ¬ ((((((1 : Int) + sm nAttr s.attrs) + s.classes.length) + sm nNode t.nodes) + x.bins.length) < 0) := by omega
  (try refine am (h := ?_)); (try simp only [hk]); (try refine am (h := ?_)); (try with_reducible apply True.intro)
  first | refine CallK.one (eqIntS (leafVote s t x) (leafVote s t x) _ _ _ _ hr) (fun _ => amC) ?_ | refine CallE.one (eqIntS (leafVote s t x) (leafVote s t x) _ _ _ _ hr) (fun _ => amC) rfl ?_ | refine CallG.one rfl (fun hg => eqIntS (leafVote s t x) (leafVote s t x) _ _ _ _ hr) ?_ | refine CallEG.one rfl rfl (fun hg => eqIntS (leafVote s t x) (leafVote s t x) _ _ _ _ hr) ?_
  (try refine am (h := ?_)); (try with_reducible apply True.intro)
  (try refine am (h := ?_)); (try simp only [eq_self]); (try refine am (h := ?_)); (try with_reducible apply True.intro)
  repeat' (first | (with_reducible refine And.intro ?_ ?_) | (with_reducible intro _))
  all_goals try (first | omega | with_reducible rfl | ((with_reducible refine eqId ?_); exact rfl) | with_reducible assumption | (with_reducible exact And.left (by assumption)) | (with_reducible exact And.right (by assumption)) | (with_reducible exact And.left (And.right (by assumption))) | (with_reducible exact And.left (And.left (by assumption))) | (with_reducible exact And.right (And.left (by assumption))) | (with_reducible exact And.left (And.left (And.left (by assumption)))) | (with_reducible exact And.right (And.left (And.left (by assumption)))))
  (try refine am (h := ?_)); (try simp only [hk]); (try refine am (h := ?_)); (try with_reducible apply True.intro)
  refine CallK.mut (markIntS (leafVote s t x) (1 : Int) none hr (by omega) (by omega)) rfl rfl rfl ?_
  (try refine am (h := ?_)); (try with_reducible apply True.intro)
  first | refine CallK.one (heldI (leafVote s t x) (1 : Int) _ _ hr (by omega) (by omega)) (fun _ => amC) ?_ | refine CallE.one (heldI (leafVote s t x) (1 : Int) _ _ hr (by omega) (by omega)) (fun _ => amC) rfl ?_ | refine CallG.one rfl (fun hg => heldI (leafVote s t x) (1 : Int) _ _ hr (by omega) (by omega)) ?_ | refine CallEG.one rfl rfl (fun hg => heldI (leafVote s t x) (1 : Int) _ _ hr (by omega) (by omega)) ?_
  (try refine am (h := ?_)); (try with_reducible apply True.intro)
  refine ⟨fun hh => absurd hh (by omega), fun _ => ?_⟩
  repeat' (first | (with_reducible refine And.intro ?_ ?_) | (with_reducible intro _))
  all_goals try (first | omega | with_reducible rfl | ((with_reducible refine eqId ?_); exact rfl) | with_reducible assumption | (with_reducible exact And.left (by assumption)) | (with_reducible exact And.right (by assumption)) | (with_reducible exact And.left (And.right (by assumption))) | (with_reducible exact And.left (And.left (by assumption))) | (with_reducible exact And.right (And.left (by assumption))) | (with_reducible exact And.left (And.left (And.left (by assumption)))) | (with_reducible exact And.right (And.left (And.left (by assumption)))))
  first | refine CallK.one (toSchema s false false hs2) (fun _ => amC) ?_ | refine CallE.one (toSchema s false false hs2) (fun _ => amC) rfl ?_ | refine CallG.one rfl (fun hg => toSchema s false false hs2) ?_ | refine CallEG.one rfl rfl (fun hg => toSchema s false false hs2) ?_
  (try refine am (h := ?_)); (try with_reducible apply True.intro)
  repeat' (first | (with_reducible refine And.intro ?_ ?_) | (with_reducible intro _))
  all_goals try (first | omega | with_reducible rfl | ((with_reducible refine eqId ?_); exact rfl) | with_reducible assumption | (with_reducible exact And.left (by assumption)) | (with_reducible exact And.right (by assumption)) | (with_reducible exact And.left (And.right (by assumption))) | (with_reducible exact And.left (And.left (by assumption))) | (with_reducible exact And.right (And.left (by assumption))) | (with_reducible exact And.left (And.left (And.left (by assumption)))) | (with_reducible exact And.right (And.left (And.left (by assumption)))))
  first | refine CallK.one (toTree t false false ht2) (fun _ => amC) ?_ | refine CallE.one (toTree t false false ht2) (fun _ => amC) rfl ?_ | refine CallG.one rfl (fun hg => toTree t false false ht2) ?_ | refine CallEG.one rfl rfl (fun hg => toTree t false false ht2) ?_
  (try refine am (h := ?_)); (try with_reducible apply True.intro)
  repeat' (first | (with_reducible refine And.intro ?_ ?_) | (with_reducible intro _))
  all_goals try (first | omega | with_reducible rfl | ((with_reducible refine eqId ?_); exact rfl) | with_reducible assumption | (with_reducible exact And.left (by assumption)) | (with_reducible exact And.right (by assumption)) | (with_reducible exact And.left (And.right (by assumption))) | (with_reducible exact And.left (And.left (by assumption))) | (with_reducible exact And.right (And.left (by assumption))) | (with_reducible exact And.left (And.left (And.left (by assumption)))) | (with_reducible exact And.right (And.left (And.left (by assumption)))))
  first | refine CallK.one (toEx x false false hx2) (fun _ => amC) ?_ | refine CallE.one (toEx x false false hx2) (fun _ => amC) rfl ?_ | refine CallG.one rfl (fun hg => toEx x false false hx2) ?_ | refine CallEG.one rfl rfl (fun hg => toEx x false false hx2) ?_
  (try refine am (h := ?_)); (try with_reducible apply True.intro)
  repeat' (first | (with_reducible refine And.intro ?_ ?_) | (with_reducible intro _))
  all_goals try (first | omega | with_reducible rfl | ((with_reducible refine eqId ?_); exact rfl) | with_reducible assumption | (with_reducible exact And.left (by assumption)) | (with_reducible exact And.right (by assumption)) | (with_reducible exact And.left (And.right (by assumption))) | (with_reducible exact And.left (And.left (by assumption))) | (with_reducible exact And.right (And.left (by assumption))) | (with_reducible exact And.left (And.left (And.left (by assumption)))) | (with_reducible exact And.right (And.left (And.left (by assumption)))))
  first | refine CallK.one (implLeafVoteA s t x _ _ _ _ _ hs ht hx) (fun _ => amC) ?_ | refine CallE.one (implLeafVoteA s t x _ _ _ _ _ hs ht hx) (fun _ => amC) rfl ?_ | refine CallG.one rfl (fun hg => implLeafVoteA s t x _ _ _ _ _ hs ht hx) ?_ | refine CallEG.one rfl rfl (fun hg => implLeafVoteA s t x _ _ _ _ _ hs ht hx) ?_
  (try refine am (h := ?_)); (try with_reducible apply True.intro)
  repeat' (first | (with_reducible refine And.intro ?_ ?_) | (with_reducible intro _))
  all_goals try (first | omega | with_reducible rfl | ((with_reducible refine eqId ?_); exact rfl) | with_reducible assumption | (with_reducible exact And.left (by assumption)) | (with_reducible exact And.right (by assumption)) | (with_reducible exact And.left (And.right (by assumption))) | (with_reducible exact And.left (And.left (by assumption))) | (with_reducible exact And.right (And.left (by assumption))) | (with_reducible exact And.left (And.left (And.left (by assumption)))) | (with_reducible exact And.right (And.left (And.left (by assumption)))))
  first | refine CallK.one (eqIntS (leafVote s t x) (leafVote s t x) _ _ _ _ hr) (fun _ => amC) ?_ | refine CallE.one (eqIntS (leafVote s t x) (leafVote s t x) _ _ _ _ hr) (fun _ => amC) rfl ?_ | refine CallG.one rfl (fun hg => eqIntS (leafVote s t x) (leafVote s t x) _ _ _ _ hr) ?_ | refine CallEG.one rfl rfl (fun hg => eqIntS (leafVote s t x) (leafVote s t x) _ _ _ _ hr) ?_
  (try refine am (h := ?_)); (try with_reducible apply True.intro)
  (try refine am (h := ?_)); (try simp only [eq_self]); (try refine am (h := ?_)); (try with_reducible apply True.intro)
  repeat' (first | (with_reducible refine And.intro ?_ ?_) | (with_reducible intro _))
  all_goals try (first | omega | with_reducible rfl | ((with_reducible refine eqId ?_); exact rfl) | with_reducible assumption | (with_reducible exact And.left (by assumption)) | (with_reducible exact And.right (by assumption)) | (with_reducible exact And.left (And.right (by assumption))) | (with_reducible exact And.left (And.left (by assumption))) | (with_reducible exact And.right (And.left (by assumption))) | (with_reducible exact And.left (And.left (And.left (by assumption)))) | (with_reducible exact And.right (And.left (And.left (by assumption)))))
  first | refine CallK.one (heldI (leafVote s t x) (1 : Int) _ _ hr (by omega) (by omega)) (fun _ => amC) ?_ | refine CallE.one (heldI (leafVote s t x) (1 : Int) _ _ hr (by omega) (by omega)) (fun _ => amC) rfl ?_ | refine CallG.one rfl (fun hg => heldI (leafVote s t x) (1 : Int) _ _ hr (by omega) (by omega)) ?_ | refine CallEG.one rfl rfl (fun hg => heldI (leafVote s t x) (1 : Int) _ _ hr (by omega) (by omega)) ?_
  (try refine am (h := ?_)); (try with_reducible apply True.intro)
  refine ⟨fun hh => absurd hh (by omega), fun _ => ?_⟩
  refine FinK.val1 ?_ ?_
  all_goals (try refine amF (h := ?_))
  all_goals (try with_reducible apply True.intro)
end Go.AM
