/- Lemmas for the proof of this claim. -/
import Derived.Test.YtopnfepnlnlplaaCnf
namespace Go.AM
open Go Go.Proofs
set_option maxRecDepth 100000
set_option maxHeartbeats 8000000 in
theorem fnExactConfOk (c : DConf) (hc : okConf (2 ^ 47) c) : ACalls Try.prog 5 [.agg (cConf false false c)] (fun r => r = .val (.one (.bool true))) := by
  have nt : Try.f5.ntmps = 27 := rfl
  have rs : Try.f5.results = #[.tmp 2] := rfl
  refine ACalls.of_run (m := 400) mixed Try.func5 rfl rfl (Nat.le_of_ble_eq_true rfl) ?_
  simp only [nt, rs]
  clear nt rs
  (try refine am (h := ?_)); (try with_reducible apply True.intro)
  first | refine CallK.one (szConf c 1048576 false false hc (by omega) (by omega)) (fun _ => amC) ?_ | refine CallE.one (szConf c 1048576 false false hc (by omega) (by omega)) (fun _ => amC) rfl ?_ | refine CallG.one rfl (fun hg => szConf c 1048576 false false hc (by omega) (by omega)) ?_ | refine CallEG.one rfl rfl (fun hg => szConf c 1048576 false false hc (by omega) (by omega)) ?_
  (try refine am (h := ?_)); (try with_reducible apply True.intro)
  rcases less_cases 1048576 (zConf c) with ⟨hcc, e⟩ | ⟨hcc, e⟩
  · (try refine am (h := ?_)); (try simp only [e]); (try refine am (h := ?_)); (try with_reducible apply True.intro)
    refine FinK.val1 ?_ ?_
    all_goals (try refine amF (h := ?_))
    all_goals (try with_reducible apply True.intro)
  (try refine am (h := ?_)); (try simp only [e]); (try refine am (h := ?_)); (try with_reducible apply True.intro)
  repeat' (first | (with_reducible refine And.intro ?_ ?_) | (with_reducible intro _))
  all_goals try (first | omega | with_reducible rfl | ((with_reducible refine eqId ?_); exact rfl) | with_reducible assumption | (with_reducible exact And.left (by assumption)) | (with_reducible exact And.right (by assumption)) | (with_reducible exact And.left (And.right (by assumption))) | (with_reducible exact And.left (And.left (by assumption))) | (with_reducible exact And.right (And.left (by assumption))) | (with_reducible exact And.left (And.left (And.left (by assumption)))) | (with_reducible exact And.right (And.left (And.left (by assumption)))))
  have sc : zConf c ≤ 1048576 := by omega
  have hc2 : okConf (2 ^ 40) c := okConf_sz hc (by omega)
  first | refine CallK.one (toConf c false false hc2) (fun _ => amC) ?_ | refine CallE.one (toConf c false false hc2) (fun _ => amC) rfl ?_ | refine CallG.one rfl (fun hg => toConf c false false hc2) ?_ | refine CallEG.one rfl rfl (fun hg => toConf c false false hc2) ?_
  (try refine am (h := ?_)); (try with_reducible apply True.intro)
  repeat' (first | (with_reducible refine And.intro ?_ ?_) | (with_reducible intro _))
  all_goals try (first | omega | with_reducible rfl | ((with_reducible refine eqId ?_); exact rfl) | with_reducible assumption | (with_reducible exact And.left (by assumption)) | (with_reducible exact And.right (by assumption)) | (with_reducible exact And.left (And.right (by assumption))) | (with_reducible exact And.left (And.left (by assumption))) | (with_reducible exact And.right (And.left (by assumption))) | (with_reducible exact And.left (And.left (And.left (by assumption)))) | (with_reducible exact And.right (And.left (And.left (by assumption)))))
  first | refine CallK.one (specConfOk c _ _ hc) (fun _ => amC) ?_ | refine CallE.one (specConfOk c _ _ hc) (fun _ => amC) rfl ?_ | refine CallG.one rfl (fun hg => specConfOk c _ _ hc) ?_ | refine CallEG.one rfl rfl (fun hg => specConfOk c _ _ hc) ?_
  (try refine am (h := ?_)); (try with_reducible apply True.intro)
  repeat' (first | (with_reducible refine And.intro ?_ ?_) | (with_reducible intro _))
  all_goals try (first | omega | with_reducible rfl | ((with_reducible refine eqId ?_); exact rfl) | with_reducible assumption | (with_reducible exact And.left (by assumption)) | (with_reducible exact And.right (by assumption)) | (with_reducible exact And.left (And.right (by assumption))) | (with_reducible exact And.left (And.left (by assumption))) | (with_reducible exact And.right (And.left (by assumption))) | (with_reducible exact And.left (And.left (And.left (by assumption)))) | (with_reducible exact And.right (And.left (And.left (by assumption)))))
  first | refine CallK.one (toConf c false false hc2) (fun _ => amC) ?_ | refine CallE.one (toConf c false false hc2) (fun _ => amC) rfl ?_ | refine CallG.one rfl (fun hg => toConf c false false hc2) ?_ | refine CallEG.one rfl rfl (fun hg => toConf c false false hc2) ?_
  (try refine am (h := ?_)); (try with_reducible apply True.intro)
  repeat' (first | (with_reducible refine And.intro ?_ ?_) | (with_reducible intro _))
  all_goals try (first | omega | with_reducible rfl | ((with_reducible refine eqId ?_); exact rfl) | with_reducible assumption | (with_reducible exact And.left (by assumption)) | (with_reducible exact And.right (by assumption)) | (with_reducible exact And.left (And.right (by assumption))) | (with_reducible exact And.left (And.left (by assumption))) | (with_reducible exact And.right (And.left (by assumption))) | (with_reducible exact And.left (And.left (And.left (by assumption)))) | (with_reducible exact And.right (And.left (And.left (by assumption)))))
  first | refine CallK.one (implConfOk c _ _ hc) (fun _ => amC) ?_ | refine CallE.one (implConfOk c _ _ hc) (fun _ => amC) rfl ?_ | refine CallG.one rfl (fun hg => implConfOk c _ _ hc) ?_ | refine CallEG.one rfl rfl (fun hg => implConfOk c _ _ hc) ?_
  (try refine am (h := ?_)); (try with_reducible apply True.intro)
  repeat' (first | (with_reducible refine And.intro ?_ ?_) | (with_reducible intro _))
  all_goals try (first | omega | with_reducible rfl | ((with_reducible refine eqId ?_); exact rfl) | with_reducible assumption | (with_reducible exact And.left (by assumption)) | (with_reducible exact And.right (by assumption)) | (with_reducible exact And.left (And.right (by assumption))) | (with_reducible exact And.left (And.left (by assumption))) | (with_reducible exact And.right (And.left (by assumption))) | (with_reducible exact And.left (And.left (And.left (by assumption)))) | (with_reducible exact And.right (And.left (And.left (by assumption)))))
  first | refine CallK.one (toConf c false false hc2) (fun _ => amC) ?_ | refine CallE.one (toConf c false false hc2) (fun _ => amC) rfl ?_ | refine CallG.one rfl (fun hg => toConf c false false hc2) ?_ | refine CallEG.one rfl rfl (fun hg => toConf c false false hc2) ?_
  (try refine am (h := ?_)); (try with_reducible apply True.intro)
  first | refine CallK.one (eqConf c c _ _ _ _ hc) (fun _ => amC) ?_ | refine CallE.one (eqConf c c _ _ _ _ hc) (fun _ => amC) rfl ?_ | refine CallG.one rfl (fun hg => eqConf c c _ _ _ _ hc) ?_ | refine CallEG.one rfl rfl (fun hg => eqConf c c _ _ _ _ hc) ?_
  (try refine am (h := ?_)); (try with_reducible apply True.intro)
  repeat' (first | (with_reducible refine And.intro ?_ ?_) | (with_reducible intro _))
  all_goals try (first | omega | with_reducible rfl | ((with_reducible refine eqId ?_); exact rfl) | with_reducible assumption | (with_reducible exact And.left (by assumption)) | (with_reducible exact And.right (by assumption)) | (with_reducible exact And.left (And.right (by assumption))) | (with_reducible exact And.left (And.left (by assumption))) | (with_reducible exact And.right (And.left (by assumption))) | (with_reducible exact And.left (And.left (And.left (by assumption)))) | (with_reducible exact And.right (And.left (And.left (by assumption)))))
  refine FinK.val1 ?_ ?_
  all_goals (try refine amF (h := ?_))
  all_goals (try with_reducible apply True.intro)
end Go.AM
