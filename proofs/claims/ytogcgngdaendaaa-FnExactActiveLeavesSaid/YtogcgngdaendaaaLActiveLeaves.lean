/- Lemmas for the proof of this claim. -/
import Derived.Test.YtogcgngdaendaaaNod
import Derived.Test.YtogcgngdaendaaaMrk2
namespace Go.AM
open Go Go.Proofs
set_option maxRecDepth 100000
set_option maxHeartbeats 8000000 in
theorem fnExactActiveLeaves (x : DTree) (hx : okTree (2 ^ 47) x) : ACalls Try.prog 6 [.agg (cTree false false x)] (fun r => r = .val (.one (.bool true))) := by
  have nt : Try.f6.ntmps = 69 := rfl
  have rs : Try.f6.results = #[.tmp 2] := rfl
  refine ACalls.of_run (m := 400) mixed Try.func6 rfl rfl (Nat.le_of_ble_eq_true rfl) ?_
  simp only [nt, rs]
  clear nt rs
  (try refine am (h := ?_)); (try with_reducible apply True.intro)
  first | refine CallK.one (szTree x 1048576 false false hx (by omega) (by omega)) (fun _ => amC) ?_ | refine CallE.one (szTree x 1048576 false false hx (by omega) (by omega)) (fun _ => amC) rfl ?_ | refine CallG.one rfl (fun hg => szTree x 1048576 false false hx (by omega) (by omega)) ?_ | refine CallEG.one rfl rfl (fun hg => szTree x 1048576 false false hx (by omega) (by omega)) ?_
  (try refine am (h := ?_)); (try with_reducible apply True.intro)
  rcases less_cases 1048576 (zTree x) with ⟨hcx, e⟩ | ⟨hcx, e⟩
  · (try refine am (h := ?_)); (try simp only [e]); (try refine am (h := ?_)); (try with_reducible apply True.intro)
    refine FinK.val1 ?_ ?_
    all_goals (try refine amF (h := ?_))
    all_goals (try with_reducible apply True.intro)
  (try refine am (h := ?_)); (try simp only [e]); (try refine am (h := ?_)); (try with_reducible apply True.intro)
  repeat' (first | (with_reducible refine And.intro ?_ ?_) | (with_reducible intro _))
  all_goals try (first | omega | with_reducible rfl | ((with_reducible refine eqId ?_); exact rfl) | with_reducible assumption | (with_reducible exact And.left (by assumption)) | (with_reducible exact And.right (by assumption)) | (with_reducible exact And.left (And.right (by assumption))) | (with_reducible exact And.left (And.left (by assumption))) | (with_reducible exact And.right (And.left (by assumption))) | (with_reducible exact And.left (And.left (And.left (by assumption)))) | (with_reducible exact And.right (And.left (And.left (by assumption)))))
  have sx : zTree x ≤ 1048576 := by omega
  have hx2 : okTree (2 ^ 40) x := okTree_sz hx (by omega)
  have fx := sm_nNode_z x.nodes
  have fx2 : zTree x = zNodeS x.nodes := rfl
  have fx3 : zNodeS x.nodes = x.nodes.length + sm zNode x.nodes := rfl
  have hr : okI (2 ^ 47) (activeL x) := ixs_ok (by omega)
  have hrl := ixs_len actB x.nodes x.nodes.length
  have hrl2 : (activeL x).length = (ixs actB x.nodes x.nodes.length).length := rfl
  first | refine CallK.one (toTree x false false hx2) (fun _ => amC) ?_ | refine CallE.one (toTree x false false hx2) (fun _ => amC) rfl ?_ | refine CallG.one rfl (fun hg => toTree x false false hx2) ?_ | refine CallEG.one rfl rfl (fun hg => toTree x false false hx2) ?_
  (try refine am (h := ?_)); (try with_reducible apply True.intro)
  repeat' (first | (with_reducible refine And.intro ?_ ?_) | (with_reducible intro _))
  all_goals try (first | omega | with_reducible rfl | ((with_reducible refine eqId ?_); exact rfl) | with_reducible assumption | (with_reducible exact And.left (by assumption)) | (with_reducible exact And.right (by assumption)) | (with_reducible exact And.left (And.right (by assumption))) | (with_reducible exact And.left (And.left (by assumption))) | (with_reducible exact And.right (And.left (by assumption))) | (with_reducible exact And.left (And.left (And.left (by assumption)))) | (with_reducible exact And.right (And.left (And.left (by assumption)))))
  first | refine CallK.one (specActiveLeaves x _ _ (by omega) hx) (fun _ => amC) ?_ | refine CallE.one (specActiveLeaves x _ _ (by omega) hx) (fun _ => amC) rfl ?_ | refine CallG.one rfl (fun hg => specActiveLeaves x _ _ (by omega) hx) ?_ | refine CallEG.one rfl rfl (fun hg => specActiveLeaves x _ _ (by omega) hx) ?_
  (try refine am (h := ?_)); (try with_reducible apply True.intro)
  repeat' (first | (with_reducible refine And.intro ?_ ?_) | (with_reducible intro _))
  all_goals try (first | omega | with_reducible rfl | ((with_reducible refine eqId ?_); exact rfl) | with_reducible assumption | (with_reducible exact And.left (by assumption)) | (with_reducible exact And.right (by assumption)) | (with_reducible exact And.left (And.right (by assumption))) | (with_reducible exact And.left (And.left (by assumption))) | (with_reducible exact And.right (And.left (by assumption))) | (with_reducible exact And.left (And.left (And.left (by assumption)))) | (with_reducible exact And.right (And.left (And.left (by assumption)))))
  first | refine CallK.one (toTree x false false hx2) (fun _ => amC) ?_ | refine CallE.one (toTree x false false hx2) (fun _ => amC) rfl ?_ | refine CallG.one rfl (fun hg => toTree x false false hx2) ?_ | refine CallEG.one rfl rfl (fun hg => toTree x false false hx2) ?_
  (try refine am (h := ?_)); (try with_reducible apply True.intro)
  repeat' (first | (with_reducible refine And.intro ?_ ?_) | (with_reducible intro _))
  all_goals try (first | omega | with_reducible rfl | ((with_reducible refine eqId ?_); exact rfl) | with_reducible assumption | (with_reducible exact And.left (by assumption)) | (with_reducible exact And.right (by assumption)) | (with_reducible exact And.left (And.right (by assumption))) | (with_reducible exact And.left (And.left (by assumption))) | (with_reducible exact And.right (And.left (by assumption))) | (with_reducible exact And.left (And.left (And.left (by assumption)))) | (with_reducible exact And.right (And.left (And.left (by assumption)))))
  first | refine CallK.one (implActiveLeaves x _ _ (by omega) hx) (fun _ => amC) ?_ | refine CallE.one (implActiveLeaves x _ _ (by omega) hx) (fun _ => amC) rfl ?_ | refine CallG.one rfl (fun hg => implActiveLeaves x _ _ (by omega) hx) ?_ | refine CallEG.one rfl rfl (fun hg => implActiveLeaves x _ _ (by omega) hx) ?_
  (try refine am (h := ?_)); (try with_reducible apply True.intro)
  repeat' (first | (with_reducible refine And.intro ?_ ?_) | (with_reducible intro _))
  all_goals try (first | omega | with_reducible rfl | ((with_reducible refine eqId ?_); exact rfl) | with_reducible assumption | (with_reducible exact And.left (by assumption)) | (with_reducible exact And.right (by assumption)) | (with_reducible exact And.left (And.right (by assumption))) | (with_reducible exact And.left (And.left (by assumption))) | (with_reducible exact And.right (And.left (by assumption))) | (with_reducible exact And.left (And.left (And.left (by assumption)))) | (with_reducible exact And.right (And.left (And.left (by assumption)))))
  first | refine CallK.one (eqIntS (activeL x) (activeL x) _ _ _ _ hr) (fun _ => amC) ?_ | refine CallE.one (eqIntS (activeL x) (activeL x) _ _ _ _ hr) (fun _ => amC) rfl ?_ | refine CallG.one rfl (fun hg => eqIntS (activeL x) (activeL x) _ _ _ _ hr) ?_ | refine CallEG.one rfl rfl (fun hg => eqIntS (activeL x) (activeL x) _ _ _ _ hr) ?_
  (try refine am (h := ?_)); (try with_reducible apply True.intro)
  (try refine am (h := ?_)); (try simp only [eq_self]); (try refine am (h := ?_)); (try with_reducible apply True.intro)
  repeat' (first | (with_reducible refine And.intro ?_ ?_) | (with_reducible intro _))
  all_goals try (first | omega | with_reducible rfl | ((with_reducible refine eqId ?_); exact rfl) | with_reducible assumption | (with_reducible exact And.left (by assumption)) | (with_reducible exact And.right (by assumption)) | (with_reducible exact And.left (And.right (by assumption))) | (with_reducible exact And.left (And.left (by assumption))) | (with_reducible exact And.right (And.left (by assumption))) | (with_reducible exact And.left (And.left (And.left (by assumption)))) | (with_reducible exact And.right (And.left (And.left (by assumption)))))
  first | refine CallK.one (toTree x false false hx2) (fun _ => amC) ?_ | refine CallE.one (toTree x false false hx2) (fun _ => amC) rfl ?_ | refine CallG.one rfl (fun hg => toTree x false false hx2) ?_ | refine CallEG.one rfl rfl (fun hg => toTree x false false hx2) ?_
  (try refine am (h := ?_)); (try with_reducible apply True.intro)
  first | refine CallK.one (eqTree x x _ _ _ _ hx) (fun _ => amC) ?_ | refine CallE.one (eqTree x x _ _ _ _ hx) (fun _ => amC) rfl ?_ | refine CallG.one rfl (fun hg => eqTree x x _ _ _ _ hx) ?_ | refine CallEG.one rfl rfl (fun hg => eqTree x x _ _ _ _ hx) ?_
  (try refine am (h := ?_)); (try with_reducible apply True.intro)
  repeat' (first | (with_reducible refine And.intro ?_ ?_) | (with_reducible intro _))
  all_goals try (first | omega | with_reducible rfl | ((with_reducible refine eqId ?_); exact rfl) | with_reducible assumption | (with_reducible exact And.left (by assumption)) | (with_reducible exact And.right (by assumption)) | (with_reducible exact And.left (And.right (by assumption))) | (with_reducible exact And.left (And.left (by assumption))) | (with_reducible exact And.right (And.left (by assumption))) | (with_reducible exact And.left (And.left (And.left (by assumption)))) | (with_reducible exact And.right (And.left (And.left (by assumption)))))
  refine CallK.wrap w_markTree rfl ?_
  refine partsM_one (markNodeS x.nodes (1 : Int) none hx.1 (by omega) (by omega)) rfl ?wb1 ?wc1 ?wd1 ?we1
  case wb1 => (try refine am (h := ?_)); (try with_reducible apply True.intro)
  case wc1 => exact rfl
  case wd1 => exact rfl
  refine partsM_nil ?_
  (try refine am (h := ?_)); (try with_reducible apply True.intro)
  have hk : ¬ (((1 : Int) + sm nNode x.nodes) < 0) := by omega
  (try refine am (h := ?_)); (try simp only [hk]); (try refine am (h := ?_)); (try with_reducible apply True.intro)
  first | refine CallK.one (eqIntS (activeL x) (activeL x) _ _ _ _ hr) (fun _ => amC) ?_ | refine CallE.one (eqIntS (activeL x) (activeL x) _ _ _ _ hr) (fun _ => amC) rfl ?_ | refine CallG.one rfl (fun hg => eqIntS (activeL x) (activeL x) _ _ _ _ hr) ?_ | refine CallEG.one rfl rfl (fun hg => eqIntS (activeL x) (activeL x) _ _ _ _ hr) ?_
  (try refine am (h := ?_)); (try with_reducible apply True.intro)
  (try refine am (h := ?_)); (try simp only [eq_self]); (try refine am (h := ?_)); (try with_reducible apply True.intro)
  repeat' (first | (with_reducible refine And.intro ?_ ?_) | (with_reducible intro _))
  all_goals try (first | omega | with_reducible rfl | ((with_reducible refine eqId ?_); exact rfl) | with_reducible assumption | (with_reducible exact And.left (by assumption)) | (with_reducible exact And.right (by assumption)) | (with_reducible exact And.left (And.right (by assumption))) | (with_reducible exact And.left (And.left (by assumption))) | (with_reducible exact And.right (And.left (by assumption))) | (with_reducible exact And.left (And.left (And.left (by assumption)))) | (with_reducible exact And.right (And.left (And.left (by assumption)))))
  (try refine am (h := ?_)); (try simp only [hk]); (try refine am (h := ?_)); (try with_reducible apply True.intro)
  refine CallK.mut (markIntS (activeL x) (1 : Int) none hr (by omega) (by omega)) rfl rfl rfl ?_
  (try refine am (h := ?_)); (try with_reducible apply True.intro)
  first | refine CallK.one (heldI (activeL x) (1 : Int) _ _ hr (by omega) (by omega)) (fun _ => amC) ?_ | refine CallE.one (heldI (activeL x) (1 : Int) _ _ hr (by omega) (by omega)) (fun _ => amC) rfl ?_ | refine CallG.one rfl (fun hg => heldI (activeL x) (1 : Int) _ _ hr (by omega) (by omega)) ?_ | refine CallEG.one rfl rfl (fun hg => heldI (activeL x) (1 : Int) _ _ hr (by omega) (by omega)) ?_
  (try refine am (h := ?_)); (try with_reducible apply True.intro)
  refine ⟨fun hh => absurd hh (by omega), fun _ => ?_⟩
  first | refine CallK.one (toTree x false false hx2) (fun _ => amC) ?_ | refine CallE.one (toTree x false false hx2) (fun _ => amC) rfl ?_ | refine CallG.one rfl (fun hg => toTree x false false hx2) ?_ | refine CallEG.one rfl rfl (fun hg => toTree x false false hx2) ?_
  (try refine am (h := ?_)); (try with_reducible apply True.intro)
  repeat' (first | (with_reducible refine And.intro ?_ ?_) | (with_reducible intro _))
  all_goals try (first | omega | with_reducible rfl | ((with_reducible refine eqId ?_); exact rfl) | with_reducible assumption | (with_reducible exact And.left (by assumption)) | (with_reducible exact And.right (by assumption)) | (with_reducible exact And.left (And.right (by assumption))) | (with_reducible exact And.left (And.left (by assumption))) | (with_reducible exact And.right (And.left (by assumption))) | (with_reducible exact And.left (And.left (And.left (by assumption)))) | (with_reducible exact And.right (And.left (And.left (by assumption)))))
  first | refine CallK.one (implActiveLeaves x _ _ (by omega) hx) (fun _ => amC) ?_ | refine CallE.one (implActiveLeaves x _ _ (by omega) hx) (fun _ => amC) rfl ?_ | refine CallG.one rfl (fun hg => implActiveLeaves x _ _ (by omega) hx) ?_ | refine CallEG.one rfl rfl (fun hg => implActiveLeaves x _ _ (by omega) hx) ?_
  (try refine am (h := ?_)); (try with_reducible apply True.intro)
  repeat' (first | (with_reducible refine And.intro ?_ ?_) | (with_reducible intro _))
  all_goals try (first | omega | with_reducible rfl | ((with_reducible refine eqId ?_); exact rfl) | with_reducible assumption | (with_reducible exact And.left (by assumption)) | (with_reducible exact And.right (by assumption)) | (with_reducible exact And.left (And.right (by assumption))) | (with_reducible exact And.left (And.left (by assumption))) | (with_reducible exact And.right (And.left (by assumption))) | (with_reducible exact And.left (And.left (And.left (by assumption)))) | (with_reducible exact And.right (And.left (And.left (by assumption)))))
  first | refine CallK.one (eqIntS (activeL x) (activeL x) _ _ _ _ hr) (fun _ => amC) ?_ | refine CallE.one (eqIntS (activeL x) (activeL x) _ _ _ _ hr) (fun _ => amC) rfl ?_ | refine CallG.one rfl (fun hg => eqIntS (activeL x) (activeL x) _ _ _ _ hr) ?_ | refine CallEG.one rfl rfl (fun hg => eqIntS (activeL x) (activeL x) _ _ _ _ hr) ?_
  (try refine am (h := ?_)); (try with_reducible apply True.intro)
  (try refine am (h := ?_)); (try simp only [eq_self]); (try refine am (h := ?_)); (try with_reducible apply True.intro)
  repeat' (first | (with_reducible refine And.intro ?_ ?_) | (with_reducible intro _))
  all_goals try (first | omega | with_reducible rfl | ((with_reducible refine eqId ?_); exact rfl) | with_reducible assumption | (with_reducible exact And.left (by assumption)) | (with_reducible exact And.right (by assumption)) | (with_reducible exact And.left (And.right (by assumption))) | (with_reducible exact And.left (And.left (by assumption))) | (with_reducible exact And.right (And.left (by assumption))) | (with_reducible exact And.left (And.left (And.left (by assumption)))) | (with_reducible exact And.right (And.left (And.left (by assumption)))))
  first | refine CallK.one (heldI (activeL x) (1 : Int) _ _ hr (by omega) (by omega)) (fun _ => amC) ?_ | refine CallE.one (heldI (activeL x) (1 : Int) _ _ hr (by omega) (by omega)) (fun _ => amC) rfl ?_ | refine CallG.one rfl (fun hg => heldI (activeL x) (1 : Int) _ _ hr (by omega) (by omega)) ?_ | refine CallEG.one rfl rfl (fun hg => heldI (activeL x) (1 : Int) _ _ hr (by omega) (by omega)) ?_
  (try refine am (h := ?_)); (try with_reducible apply True.intro)
  refine ⟨fun hh => absurd hh (by omega), fun _ => ?_⟩
  refine FinK.val1 ?_ ?_
  all_goals (try refine amF (h := ?_))
  all_goals (try with_reducible apply True.intro)
end Go.AM
