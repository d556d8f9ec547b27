/- Lemmas for the proof of this claim. -/
import Derived.Test.YtogcgngdaendaaaTNw
import Derived.Test.YtogcgngdaendaaaMrk2
namespace Go.AM
open Go Go.Proofs
set_option maxRecDepth 100000
set_option maxHeartbeats 8000000 in
theorem fnExactTreeNew (s : DSchema) (l : List (Int)) (hs : okSchema (2 ^ 47) s) (hl : okI (2 ^ 47) l) : ACalls Try.prog 11 [.agg (cSchema false false s), .one (aI false l)] (fun r => r = .val (.one (.bool true))) := by
  have nt : Try.f11.ntmps = 90 := rfl
  have rs : Try.f11.results = #[.tmp 4] := rfl
  refine ACalls.of_run (m := 400) mixed Try.func11 rfl rfl (Nat.le_of_ble_eq_true rfl) ?_
  simp only [nt, rs]
  clear nt rs
  (try refine am (h := ?_)); (try with_reducible apply True.intro)
  repeat' (first | (with_reducible refine And.intro ?_ ?_) | (with_reducible intro _))
  all_goals try (first | omega | with_reducible rfl | ((with_reducible refine eqId ?_); exact rfl) | with_reducible assumption | (with_reducible exact And.left (by assumption)) | (with_reducible exact And.right (by assumption)) | (with_reducible exact And.left (And.right (by assumption))) | (with_reducible exact And.left (And.left (by assumption))) | (with_reducible exact And.right (And.left (by assumption))) | (with_reducible exact And.left (And.left (And.left (by assumption)))) | (with_reducible exact And.right (And.left (And.left (by assumption)))))
  · refine FinK.val1 ?_ ?_
    all_goals (try refine amF (h := ?_))
    all_goals (try with_reducible apply True.intro)
  have sl : l.length ≤ 1048576 := by omega
  first | refine CallK.one (szSchema s 1048576 false false hs (by omega) (by omega)) (fun _ => amC) ?_ | refine CallE.one (szSchema s 1048576 false false hs (by omega) (by omega)) (fun _ => amC) rfl ?_ | refine CallG.one rfl (fun hg => szSchema s 1048576 false false hs (by omega) (by omega)) ?_ | refine CallEG.one rfl rfl (fun hg => szSchema s 1048576 false false hs (by omega) (by omega)) ?_
  (try refine am (h := ?_)); (try with_reducible apply True.intro)
  rcases less_cases 1048576 (zSchema s) with ⟨hcs, e⟩ | ⟨hcs, e⟩
  · (try refine am (h := ?_)); (try simp only [e]); (try refine am (h := ?_)); (try with_reducible apply True.intro)
    refine FinK.val1 ?_ ?_
    all_goals (try refine amF (h := ?_))
    all_goals (try with_reducible apply True.intro)
  (try refine am (h := ?_)); (try simp only [e]); (try refine am (h := ?_)); (try with_reducible apply True.intro)
  repeat' (first | (with_reducible refine And.intro ?_ ?_) | (with_reducible intro _))
  all_goals try (first | omega | with_reducible rfl | ((with_reducible refine eqId ?_); exact rfl) | with_reducible assumption | (with_reducible exact And.left (by assumption)) | (with_reducible exact And.right (by assumption)) | (with_reducible exact And.left (And.right (by assumption))) | (with_reducible exact And.left (And.left (by assumption))) | (with_reducible exact And.right (And.left (by assumption))) | (with_reducible exact And.left (And.left (And.left (by assumption)))) | (with_reducible exact And.right (And.left (And.left (by assumption)))))
  have ss : zSchema s ≤ 1048576 := by omega
  have hs2 : okSchema (2 ^ 40) s := okSchema_sz hs (by omega)
  have hl2 : okI (2 ^ 40) l := okI_sz hl (by omega)
  have fs := nAttr_z s
  obtain ⟨hr, hr1⟩ := treeNew_ok s l hl
  first | refine CallK.one (toSchema s false false hs2) (fun _ => amC) ?_ | refine CallE.one (toSchema s false false hs2) (fun _ => amC) rfl ?_ | refine CallG.one rfl (fun hg => toSchema s false false hs2) ?_ | refine CallEG.one rfl rfl (fun hg => toSchema s false false hs2) ?_
  (try refine am (h := ?_)); (try with_reducible apply True.intro)
  repeat' (first | (with_reducible refine And.intro ?_ ?_) | (with_reducible intro _))
  all_goals try (first | omega | with_reducible rfl | ((with_reducible refine eqId ?_); exact rfl) | with_reducible assumption | (with_reducible exact And.left (by assumption)) | (with_reducible exact And.right (by assumption)) | (with_reducible exact And.left (And.right (by assumption))) | (with_reducible exact And.left (And.left (by assumption))) | (with_reducible exact And.right (And.left (by assumption))) | (with_reducible exact And.left (And.left (And.left (by assumption)))) | (with_reducible exact And.right (And.left (And.left (by assumption)))))
  first | refine CallK.one (toIntS l _ _ hl2) (fun _ => amC) ?_ | refine CallE.one (toIntS l _ _ hl2) (fun _ => amC) rfl ?_ | refine CallG.one rfl (fun hg => toIntS l _ _ hl2) ?_ | refine CallEG.one rfl rfl (fun hg => toIntS l _ _ hl2) ?_
  (try refine am (h := ?_)); (try with_reducible apply True.intro)
  repeat' (first | (with_reducible refine And.intro ?_ ?_) | (with_reducible intro _))
  all_goals try (first | omega | with_reducible rfl | ((with_reducible refine eqId ?_); exact rfl) | with_reducible assumption | (with_reducible exact And.left (by assumption)) | (with_reducible exact And.right (by assumption)) | (with_reducible exact And.left (And.right (by assumption))) | (with_reducible exact And.left (And.left (by assumption))) | (with_reducible exact And.right (And.left (by assumption))) | (with_reducible exact And.left (And.left (And.left (by assumption)))) | (with_reducible exact And.right (And.left (And.left (by assumption)))))
  first | refine CallK.one (specTreeNew s l _ _ _ _ hs (by omega)) (fun _ => amC) ?_ | refine CallE.one (specTreeNew s l _ _ _ _ hs (by omega)) (fun _ => amC) rfl ?_ | refine CallG.one rfl (fun hg => specTreeNew s l _ _ _ _ hs (by omega)) ?_ | refine CallEG.one rfl rfl (fun hg => specTreeNew s l _ _ _ _ hs (by omega)) ?_
  (try refine am (h := ?_)); (try with_reducible apply True.intro)
  repeat' (first | (with_reducible refine And.intro ?_ ?_) | (with_reducible intro _))
  all_goals try (first | omega | with_reducible rfl | ((with_reducible refine eqId ?_); exact rfl) | with_reducible assumption | (with_reducible exact And.left (by assumption)) | (with_reducible exact And.right (by assumption)) | (with_reducible exact And.left (And.right (by assumption))) | (with_reducible exact And.left (And.left (by assumption))) | (with_reducible exact And.right (And.left (by assumption))) | (with_reducible exact And.left (And.left (And.left (by assumption)))) | (with_reducible exact And.right (And.left (And.left (by assumption)))))
  first | refine CallK.one (toSchema s false false hs2) (fun _ => amC) ?_ | refine CallE.one (toSchema s false false hs2) (fun _ => amC) rfl ?_ | refine CallG.one rfl (fun hg => toSchema s false false hs2) ?_ | refine CallEG.one rfl rfl (fun hg => toSchema s false false hs2) ?_
  (try refine am (h := ?_)); (try with_reducible apply True.intro)
  repeat' (first | (with_reducible refine And.intro ?_ ?_) | (with_reducible intro _))
  all_goals try (first | omega | with_reducible rfl | ((with_reducible refine eqId ?_); exact rfl) | with_reducible assumption | (with_reducible exact And.left (by assumption)) | (with_reducible exact And.right (by assumption)) | (with_reducible exact And.left (And.right (by assumption))) | (with_reducible exact And.left (And.left (by assumption))) | (with_reducible exact And.right (And.left (by assumption))) | (with_reducible exact And.left (And.left (And.left (by assumption)))) | (with_reducible exact And.right (And.left (And.left (by assumption)))))
  first | refine CallK.one (toIntS l _ _ hl2) (fun _ => amC) ?_ | refine CallE.one (toIntS l _ _ hl2) (fun _ => amC) rfl ?_ | refine CallG.one rfl (fun hg => toIntS l _ _ hl2) ?_ | refine CallEG.one rfl rfl (fun hg => toIntS l _ _ hl2) ?_
  (try refine am (h := ?_)); (try with_reducible apply True.intro)
  repeat' (first | (with_reducible refine And.intro ?_ ?_) | (with_reducible intro _))
  all_goals try (first | omega | with_reducible rfl | ((with_reducible refine eqId ?_); exact rfl) | with_reducible assumption | (with_reducible exact And.left (by assumption)) | (with_reducible exact And.right (by assumption)) | (with_reducible exact And.left (And.right (by assumption))) | (with_reducible exact And.left (And.left (by assumption))) | (with_reducible exact And.right (And.left (by assumption))) | (with_reducible exact And.left (And.left (And.left (by assumption)))) | (with_reducible exact And.right (And.left (And.left (by assumption)))))
  first | refine CallK.one (implTreeNew s l _ _ _ hs (by omega)) (fun _ => amC) ?_ | refine CallE.one (implTreeNew s l _ _ _ hs (by omega)) (fun _ => amC) rfl ?_ | refine CallG.one rfl (fun hg => implTreeNew s l _ _ _ hs (by omega)) ?_ | refine CallEG.one rfl rfl (fun hg => implTreeNew s l _ _ _ hs (by omega)) ?_
  (try refine am (h := ?_)); (try with_reducible apply True.intro)
  repeat' (first | (with_reducible refine And.intro ?_ ?_) | (with_reducible intro _))
  all_goals try (first | omega | with_reducible rfl | ((with_reducible refine eqId ?_); exact rfl) | with_reducible assumption | (with_reducible exact And.left (by assumption)) | (with_reducible exact And.right (by assumption)) | (with_reducible exact And.left (And.right (by assumption))) | (with_reducible exact And.left (And.left (by assumption))) | (with_reducible exact And.right (And.left (by assumption))) | (with_reducible exact And.left (And.left (And.left (by assumption)))) | (with_reducible exact And.right (And.left (And.left (by assumption)))))
  first | refine CallK.one (eqTree (treeNew s l) (treeNew s l) _ _ _ _ hr) (fun _ => amC) ?_ | refine CallE.one (eqTree (treeNew s l) (treeNew s l) _ _ _ _ hr) (fun _ => amC) rfl ?_ | refine CallG.one rfl (fun hg => eqTree (treeNew s l) (treeNew s l) _ _ _ _ hr) ?_ | refine CallEG.one rfl rfl (fun hg => eqTree (treeNew s l) (treeNew s l) _ _ _ _ hr) ?_
  (try refine am (h := ?_)); (try with_reducible apply True.intro)
  (try refine am (h := ?_)); (try simp only [eq_self]); (try refine am (h := ?_)); (try with_reducible apply True.intro)
  repeat' (first | (with_reducible refine And.intro ?_ ?_) | (with_reducible intro _))
  all_goals try (first | omega | with_reducible rfl | ((with_reducible refine eqId ?_); exact rfl) | with_reducible assumption | (with_reducible exact And.left (by assumption)) | (with_reducible exact And.right (by assumption)) | (with_reducible exact And.left (And.right (by assumption))) | (with_reducible exact And.left (And.left (by assumption))) | (with_reducible exact And.right (And.left (by assumption))) | (with_reducible exact And.left (And.left (And.left (by assumption)))) | (with_reducible exact And.right (And.left (And.left (by assumption)))))
  first | refine CallK.one (toSchema s false false hs2) (fun _ => amC) ?_ | refine CallE.one (toSchema s false false hs2) (fun _ => amC) rfl ?_ | refine CallG.one rfl (fun hg => toSchema s false false hs2) ?_ | refine CallEG.one rfl rfl (fun hg => toSchema s false false hs2) ?_
  (try refine am (h := ?_)); (try with_reducible apply True.intro)
  first | refine CallK.one (eqSchema s s _ _ _ _ hs) (fun _ => amC) ?_ | refine CallE.one (eqSchema s s _ _ _ _ hs) (fun _ => amC) rfl ?_ | refine CallG.one rfl (fun hg => eqSchema s s _ _ _ _ hs) ?_ | refine CallEG.one rfl rfl (fun hg => eqSchema s s _ _ _ _ hs) ?_
  (try refine am (h := ?_)); (try with_reducible apply True.intro)
  repeat' (first | (with_reducible refine And.intro ?_ ?_) | (with_reducible intro _))
  all_goals try (first | omega | with_reducible rfl | ((with_reducible refine eqId ?_); exact rfl) | with_reducible assumption | (with_reducible exact And.left (by assumption)) | (with_reducible exact And.right (by assumption)) | (with_reducible exact And.left (And.right (by assumption))) | (with_reducible exact And.left (And.left (by assumption))) | (with_reducible exact And.right (And.left (by assumption))) | (with_reducible exact And.left (And.left (And.left (by assumption)))) | (with_reducible exact And.right (And.left (And.left (by assumption)))))
  first | refine CallK.one (toIntS l _ _ hl2) (fun _ => amC) ?_ | refine CallE.one (toIntS l _ _ hl2) (fun _ => amC) rfl ?_ | refine CallG.one rfl (fun hg => toIntS l _ _ hl2) ?_ | refine CallEG.one rfl rfl (fun hg => toIntS l _ _ hl2) ?_
  (try refine am (h := ?_)); (try with_reducible apply True.intro)
  first | refine CallK.one (eqIntS l l _ _ _ _ hl) (fun _ => amC) ?_ | refine CallE.one (eqIntS l l _ _ _ _ hl) (fun _ => amC) rfl ?_ | refine CallG.one rfl (fun hg => eqIntS l l _ _ _ _ hl) ?_ | refine CallEG.one rfl rfl (fun hg => eqIntS l l _ _ _ _ hl) ?_
  (try refine am (h := ?_)); (try with_reducible apply True.intro)
  repeat' (first | (with_reducible refine And.intro ?_ ?_) | (with_reducible intro _))
  all_goals try (first | omega | with_reducible rfl | ((with_reducible refine eqId ?_); exact rfl) | with_reducible assumption | (with_reducible exact And.left (by assumption)) | (with_reducible exact And.right (by assumption)) | (with_reducible exact And.left (And.right (by assumption))) | (with_reducible exact And.left (And.left (by assumption))) | (with_reducible exact And.right (And.left (by assumption))) | (with_reducible exact And.left (And.left (And.left (by assumption)))) | (with_reducible exact And.right (And.left (And.left (by assumption)))))
  refine CallK.wrap w_markSchema rfl ?_
  refine partsM_one (markAttrS s.attrs (1 : Int) none hs.1 (by omega) (by omega)) rfl ?wb1 ?wc1 ?wd1 ?we1
  case wb1 => (try refine am (h := ?_)); (try with_reducible apply True.intro)
  case wc1 => exact rfl
  case wd1 => exact rfl
  refine partsM_one (markStringS s.classes ((1 : Int) + sm nAttr s.attrs) none hs.2.1 (by omega) (by omega)) rfl ?wb2 ?wc2 ?wd2 ?we2
  case wb2 => (try refine am (h := ?_)); (try with_reducible apply True.intro)
  case wc2 => exact rfl
  case wd2 => exact rfl
  refine partsM_nil ?_
  (try refine am (h := ?_)); (try with_reducible apply True.intro)
  refine CallK.mut (markIntS l (((1 : Int) + sm nAttr s.attrs) + s.classes.length) none hl (by omega) (by omega)) rfl rfl rfl ?_
  (try refine am (h := ?_)); (try with_reducible apply True.intro)
  have hk : ¬ (((((1 : Int) + sm nAttr s.attrs) + s.classes.length) + l.length) < 0) := by omega
  (try refine am (h := ?_)); (try simp only [hk]); (try refine am (h := ?_)); (try with_reducible apply True.intro)
  first | refine CallK.one (eqTree (treeNew s l) (treeNew s l) _ _ _ _ hr) (fun _ => amC) ?_ | refine CallE.one (eqTree (treeNew s l) (treeNew s l) _ _ _ _ hr) (fun _ => amC) rfl ?_ | refine CallG.one rfl (fun hg => eqTree (treeNew s l) (treeNew s l) _ _ _ _ hr) ?_ | refine CallEG.one rfl rfl (fun hg => eqTree (treeNew s l) (treeNew s l) _ _ _ _ hr) ?_
  (try refine am (h := ?_)); (try with_reducible apply True.intro)
  (try refine am (h := ?_)); (try simp only [eq_self]); (try refine am (h := ?_)); (try with_reducible apply True.intro)
  repeat' (first | (with_reducible refine And.intro ?_ ?_) | (with_reducible intro _))
  all_goals try (first | omega | with_reducible rfl | ((with_reducible refine eqId ?_); exact rfl) | with_reducible assumption | (with_reducible exact And.left (by assumption)) | (with_reducible exact And.right (by assumption)) | (with_reducible exact And.left (And.right (by assumption))) | (with_reducible exact And.left (And.left (by assumption))) | (with_reducible exact And.right (And.left (by assumption))) | (with_reducible exact And.left (And.left (And.left (by assumption)))) | (with_reducible exact And.right (And.left (And.left (by assumption)))))
  (try refine am (h := ?_)); (try simp only [hk]); (try refine am (h := ?_)); (try with_reducible apply True.intro)
  refine CallK.wrap w_markTree rfl ?_
  refine partsM_one (markNodeS (treeNew s l).nodes (1 : Int) none hr.1 (by omega) (by omega)) rfl ?wb3 ?wc3 ?wd3 ?we3
  case wb3 => (try refine am (h := ?_)); (try with_reducible apply True.intro)
  case wc3 => exact rfl
  case wd3 => exact rfl
  refine partsM_nil ?_
  (try refine am (h := ?_)); (try with_reducible apply True.intro)
  first | refine CallK.one (heldTree (treeNew s l) (1 : Int) _ _ hr.1 (by omega) (by omega)) (fun _ => amC) ?_ | refine CallE.one (heldTree (treeNew s l) (1 : Int) _ _ hr.1 (by omega) (by omega)) (fun _ => amC) rfl ?_ | refine CallG.one rfl (fun hg => heldTree (treeNew s l) (1 : Int) _ _ hr.1 (by omega) (by omega)) ?_ | refine CallEG.one rfl rfl (fun hg => heldTree (treeNew s l) (1 : Int) _ _ hr.1 (by omega) (by omega)) ?_
  (try refine am (h := ?_)); (try with_reducible apply True.intro)
  refine ⟨fun hh => absurd hh (by omega), fun _ => ?_⟩
  repeat' (first | (with_reducible refine And.intro ?_ ?_) | (with_reducible intro _))
  all_goals try (first | omega | with_reducible rfl | ((with_reducible refine eqId ?_); exact rfl) | with_reducible assumption | (with_reducible exact And.left (by assumption)) | (with_reducible exact And.right (by assumption)) | (with_reducible exact And.left (And.right (by assumption))) | (with_reducible exact And.left (And.left (by assumption))) | (with_reducible exact And.right (And.left (by assumption))) | (with_reducible exact And.left (And.left (And.left (by assumption)))) | (with_reducible exact And.right (And.left (And.left (by assumption)))))
  first | refine CallK.one (toSchema s false false hs2) (fun _ => amC) ?_ | refine CallE.one (toSchema s false false hs2) (fun _ => amC) rfl ?_ | refine CallG.one rfl (fun hg => toSchema s false false hs2) ?_ | refine CallEG.one rfl rfl (fun hg => toSchema s false false hs2) ?_
  (try refine am (h := ?_)); (try with_reducible apply True.intro)
  repeat' (first | (with_reducible refine And.intro ?_ ?_) | (with_reducible intro _))
  all_goals try (first | omega | with_reducible rfl | ((with_reducible refine eqId ?_); exact rfl) | with_reducible assumption | (with_reducible exact And.left (by assumption)) | (with_reducible exact And.right (by assumption)) | (with_reducible exact And.left (And.right (by assumption))) | (with_reducible exact And.left (And.left (by assumption))) | (with_reducible exact And.right (And.left (by assumption))) | (with_reducible exact And.left (And.left (And.left (by assumption)))) | (with_reducible exact And.right (And.left (And.left (by assumption)))))
  first | refine CallK.one (toIntS l _ _ hl2) (fun _ => amC) ?_ | refine CallE.one (toIntS l _ _ hl2) (fun _ => amC) rfl ?_ | refine CallG.one rfl (fun hg => toIntS l _ _ hl2) ?_ | refine CallEG.one rfl rfl (fun hg => toIntS l _ _ hl2) ?_
  (try refine am (h := ?_)); (try with_reducible apply True.intro)
  repeat' (first | (with_reducible refine And.intro ?_ ?_) | (with_reducible intro _))
  all_goals try (first | omega | with_reducible rfl | ((with_reducible refine eqId ?_); exact rfl) | with_reducible assumption | (with_reducible exact And.left (by assumption)) | (with_reducible exact And.right (by assumption)) | (with_reducible exact And.left (And.right (by assumption))) | (with_reducible exact And.left (And.left (by assumption))) | (with_reducible exact And.right (And.left (by assumption))) | (with_reducible exact And.left (And.left (And.left (by assumption)))) | (with_reducible exact And.right (And.left (And.left (by assumption)))))
  first | refine CallK.one (implTreeNew s l _ _ _ hs (by omega)) (fun _ => amC) ?_ | refine CallE.one (implTreeNew s l _ _ _ hs (by omega)) (fun _ => amC) rfl ?_ | refine CallG.one rfl (fun hg => implTreeNew s l _ _ _ hs (by omega)) ?_ | refine CallEG.one rfl rfl (fun hg => implTreeNew s l _ _ _ hs (by omega)) ?_
  (try refine am (h := ?_)); (try with_reducible apply True.intro)
  repeat' (first | (with_reducible refine And.intro ?_ ?_) | (with_reducible intro _))
  all_goals try (first | omega | with_reducible rfl | ((with_reducible refine eqId ?_); exact rfl) | with_reducible assumption | (with_reducible exact And.left (by assumption)) | (with_reducible exact And.right (by assumption)) | (with_reducible exact And.left (And.right (by assumption))) | (with_reducible exact And.left (And.left (by assumption))) | (with_reducible exact And.right (And.left (by assumption))) | (with_reducible exact And.left (And.left (And.left (by assumption)))) | (with_reducible exact And.right (And.left (And.left (by assumption)))))
  first | refine CallK.one (eqTree (treeNew s l) (treeNew s l) _ _ _ _ hr) (fun _ => amC) ?_ | refine CallE.one (eqTree (treeNew s l) (treeNew s l) _ _ _ _ hr) (fun _ => amC) rfl ?_ | refine CallG.one rfl (fun hg => eqTree (treeNew s l) (treeNew s l) _ _ _ _ hr) ?_ | refine CallEG.one rfl rfl (fun hg => eqTree (treeNew s l) (treeNew s l) _ _ _ _ hr) ?_
  (try refine am (h := ?_)); (try with_reducible apply True.intro)
  (try refine am (h := ?_)); (try simp only [eq_self]); (try refine am (h := ?_)); (try with_reducible apply True.intro)
  repeat' (first | (with_reducible refine And.intro ?_ ?_) | (with_reducible intro _))
  all_goals try (first | omega | with_reducible rfl | ((with_reducible refine eqId ?_); exact rfl) | with_reducible assumption | (with_reducible exact And.left (by assumption)) | (with_reducible exact And.right (by assumption)) | (with_reducible exact And.left (And.right (by assumption))) | (with_reducible exact And.left (And.left (by assumption))) | (with_reducible exact And.right (And.left (by assumption))) | (with_reducible exact And.left (And.left (And.left (by assumption)))) | (with_reducible exact And.right (And.left (And.left (by assumption)))))
  first | refine CallK.one (heldTree (treeNew s l) (1 : Int) _ _ hr.1 (by omega) (by omega)) (fun _ => amC) ?_ | refine CallE.one (heldTree (treeNew s l) (1 : Int) _ _ hr.1 (by omega) (by omega)) (fun _ => amC) rfl ?_ | refine CallG.one rfl (fun hg => heldTree (treeNew s l) (1 : Int) _ _ hr.1 (by omega) (by omega)) ?_ | refine CallEG.one rfl rfl (fun hg => heldTree (treeNew s l) (1 : Int) _ _ hr.1 (by omega) (by omega)) ?_
  (try refine am (h := ?_)); (try with_reducible apply True.intro)
  refine ⟨fun hh => absurd hh (by omega), fun _ => ?_⟩
  refine FinK.val1 ?_ ?_
  all_goals (try refine amF (h := ?_))
  all_goals (try with_reducible apply True.intro)
end Go.AM
