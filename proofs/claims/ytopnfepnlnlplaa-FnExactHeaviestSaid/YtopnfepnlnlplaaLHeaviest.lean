/- Lemmas for the proof of this claim. -/
import Derived.Test.YtopnfepnlnlplaaFrk
namespace Go.AM
open Go Go.Proofs
set_option maxRecDepth 100000
set_option maxHeartbeats 8000000 in
theorem fnExactHeaviest (s : DSchema) (t : DStats) (f : DFork) (hs : okSchema (2 ^ 47) s) (ht : okStats (2 ^ 47) t) (hf : okFork (2 ^ 47) f) : ACalls Try.prog 7 [.agg (cSchema false false s), .agg (cStats false false t), .agg (cFork f)] (fun r => r = .val (.one (.bool true))) := by
  have nt : Try.f7.ntmps = 51 := rfl
  have rs : Try.f7.results = #[.tmp 6] := rfl
  refine ACalls.of_run (m := 400) mixed Try.func7 rfl rfl (Nat.le_of_ble_eq_true rfl) ?_
  simp only [nt, rs]
  clear nt rs
  (try refine am (h := ?_)); (try with_reducible apply True.intro)
  first | refine CallK.one (szSchema s 1048576 false false hs (by omega) (by omega)) (fun _ => amC) ?_ | refine CallE.one (szSchema s 1048576 false false hs (by omega) (by omega)) (fun _ => amC) rfl ?_
  (try refine am (h := ?_)); (try with_reducible apply True.intro)
  rcases less_cases 1048576 (zSchema s) with ⟨hcs, e⟩ | ⟨hcs, e⟩
  · (try refine am (h := ?_)); (try simp only [e]); (try refine am (h := ?_)); (try with_reducible apply True.intro)
    refine FinK.val1 ?_ ?_
    all_goals (try refine amF (h := ?_))
    all_goals (try with_reducible apply True.intro)
  (try refine am (h := ?_)); (try simp only [e]); (try refine am (h := ?_)); (try with_reducible apply True.intro)
  repeat' (first | (with_reducible refine And.intro ?_ ?_) | (with_reducible intro _))
  all_goals try (first | omega | with_reducible rfl | ((with_reducible refine eqId ?_); exact rfl) | with_reducible assumption | (with_reducible exact And.left (by assumption)) | (with_reducible exact And.right (by assumption)) | (with_reducible exact And.left (And.right (by assumption))) | (with_reducible exact And.left (And.left (by assumption))) | (with_reducible exact And.right (And.left (by assumption))) | (with_reducible exact And.left (And.left (And.left (by assumption)))) | (with_reducible exact And.right (And.left (And.left (by assumption)))))
  first | refine CallK.one (szStats t (1048576 - (zSchema s : Nat)) false false ht (by omega) (by omega)) (fun _ => amC) ?_ | refine CallE.one (szStats t (1048576 - (zSchema s : Nat)) false false ht (by omega) (by omega)) (fun _ => amC) rfl ?_
  (try refine am (h := ?_)); (try with_reducible apply True.intro)
  rcases less_cases (1048576 - (zSchema s : Nat)) (zStats t) with ⟨hct, e⟩ | ⟨hct, e⟩
  · (try refine am (h := ?_)); (try simp only [e]); (try refine am (h := ?_)); (try with_reducible apply True.intro)
    refine FinK.val1 ?_ ?_
    all_goals (try refine amF (h := ?_))
    all_goals (try with_reducible apply True.intro)
  (try refine am (h := ?_)); (try simp only [e]); (try refine am (h := ?_)); (try with_reducible apply True.intro)
  repeat' (first | (with_reducible refine And.intro ?_ ?_) | (with_reducible intro _))
  all_goals try (first | omega | with_reducible rfl | ((with_reducible refine eqId ?_); exact rfl) | with_reducible assumption | (with_reducible exact And.left (by assumption)) | (with_reducible exact And.right (by assumption)) | (with_reducible exact And.left (And.right (by assumption))) | (with_reducible exact And.left (And.left (by assumption))) | (with_reducible exact And.right (And.left (by assumption))) | (with_reducible exact And.left (And.left (And.left (by assumption)))) | (with_reducible exact And.right (And.left (And.left (by assumption)))))
  have ss : zSchema s ≤ 1048576 := by omega
  have hs2 : okSchema (2 ^ 40) s := okSchema_sz hs (by omega)
  have st : zStats t ≤ 1048576 := by omega
  have ht2 : okStats (2 ^ 40) t := okStats_sz ht (by omega)
  first | refine CallK.one (toSchema s false false hs2) (fun _ => amC) ?_ | refine CallE.one (toSchema s false false hs2) (fun _ => amC) rfl ?_
  (try refine am (h := ?_)); (try with_reducible apply True.intro)
  repeat' (first | (with_reducible refine And.intro ?_ ?_) | (with_reducible intro _))
  all_goals try (first | omega | with_reducible rfl | ((with_reducible refine eqId ?_); exact rfl) | with_reducible assumption | (with_reducible exact And.left (by assumption)) | (with_reducible exact And.right (by assumption)) | (with_reducible exact And.left (And.right (by assumption))) | (with_reducible exact And.left (And.left (by assumption))) | (with_reducible exact And.right (And.left (by assumption))) | (with_reducible exact And.left (And.left (And.left (by assumption)))) | (with_reducible exact And.right (And.left (And.left (by assumption)))))
  first | refine CallK.one (toStats t false false ht2) (fun _ => amC) ?_ | refine CallE.one (toStats t false false ht2) (fun _ => amC) rfl ?_
  (try refine am (h := ?_)); (try with_reducible apply True.intro)
  repeat' (first | (with_reducible refine And.intro ?_ ?_) | (with_reducible intro _))
  all_goals try (first | omega | with_reducible rfl | ((with_reducible refine eqId ?_); exact rfl) | with_reducible assumption | (with_reducible exact And.left (by assumption)) | (with_reducible exact And.right (by assumption)) | (with_reducible exact And.left (And.right (by assumption))) | (with_reducible exact And.left (And.left (by assumption))) | (with_reducible exact And.right (And.left (by assumption))) | (with_reducible exact And.left (And.left (And.left (by assumption)))) | (with_reducible exact And.right (And.left (And.left (by assumption)))))
  first | refine CallK.one (toFork f) (fun _ => amC) ?_ | refine CallE.one (toFork f) (fun _ => amC) rfl ?_
  (try refine am (h := ?_)); (try with_reducible apply True.intro)
  repeat' (first | (with_reducible refine And.intro ?_ ?_) | (with_reducible intro _))
  all_goals try (first | omega | with_reducible rfl | ((with_reducible refine eqId ?_); exact rfl) | with_reducible assumption | (with_reducible exact And.left (by assumption)) | (with_reducible exact And.right (by assumption)) | (with_reducible exact And.left (And.right (by assumption))) | (with_reducible exact And.left (And.left (by assumption))) | (with_reducible exact And.right (And.left (by assumption))) | (with_reducible exact And.left (And.left (And.left (by assumption)))) | (with_reducible exact And.right (And.left (And.left (by assumption)))))
  first | refine CallK.one (specHeaviest s t f _ _ _ _ hs ht hf) (fun _ => amC) ?_ | refine CallE.one (specHeaviest s t f _ _ _ _ hs ht hf) (fun _ => amC) rfl ?_
  (try refine am (h := ?_)); (try with_reducible apply True.intro)
  repeat' (first | (with_reducible refine And.intro ?_ ?_) | (with_reducible intro _))
  all_goals try (first | omega | with_reducible rfl | ((with_reducible refine eqId ?_); exact rfl) | with_reducible assumption | (with_reducible exact And.left (by assumption)) | (with_reducible exact And.right (by assumption)) | (with_reducible exact And.left (And.right (by assumption))) | (with_reducible exact And.left (And.left (by assumption))) | (with_reducible exact And.right (And.left (by assumption))) | (with_reducible exact And.left (And.left (And.left (by assumption)))) | (with_reducible exact And.right (And.left (And.left (by assumption)))))
  first | refine CallK.one (toSchema s false false hs2) (fun _ => amC) ?_ | refine CallE.one (toSchema s false false hs2) (fun _ => amC) rfl ?_
  (try refine am (h := ?_)); (try with_reducible apply True.intro)
  repeat' (first | (with_reducible refine And.intro ?_ ?_) | (with_reducible intro _))
  all_goals try (first | omega | with_reducible rfl | ((with_reducible refine eqId ?_); exact rfl) | with_reducible assumption | (with_reducible exact And.left (by assumption)) | (with_reducible exact And.right (by assumption)) | (with_reducible exact And.left (And.right (by assumption))) | (with_reducible exact And.left (And.left (by assumption))) | (with_reducible exact And.right (And.left (by assumption))) | (with_reducible exact And.left (And.left (And.left (by assumption)))) | (with_reducible exact And.right (And.left (And.left (by assumption)))))
  first | refine CallK.one (toStats t false false ht2) (fun _ => amC) ?_ | refine CallE.one (toStats t false false ht2) (fun _ => amC) rfl ?_
  (try refine am (h := ?_)); (try with_reducible apply True.intro)
  repeat' (first | (with_reducible refine And.intro ?_ ?_) | (with_reducible intro _))
  all_goals try (first | omega | with_reducible rfl | ((with_reducible refine eqId ?_); exact rfl) | with_reducible assumption | (with_reducible exact And.left (by assumption)) | (with_reducible exact And.right (by assumption)) | (with_reducible exact And.left (And.right (by assumption))) | (with_reducible exact And.left (And.left (by assumption))) | (with_reducible exact And.right (And.left (by assumption))) | (with_reducible exact And.left (And.left (And.left (by assumption)))) | (with_reducible exact And.right (And.left (And.left (by assumption)))))
  first | refine CallK.one (toFork f) (fun _ => amC) ?_ | refine CallE.one (toFork f) (fun _ => amC) rfl ?_
  (try refine am (h := ?_)); (try with_reducible apply True.intro)
  repeat' (first | (with_reducible refine And.intro ?_ ?_) | (with_reducible intro _))
  all_goals try (first | omega | with_reducible rfl | ((with_reducible refine eqId ?_); exact rfl) | with_reducible assumption | (with_reducible exact And.left (by assumption)) | (with_reducible exact And.right (by assumption)) | (with_reducible exact And.left (And.right (by assumption))) | (with_reducible exact And.left (And.left (by assumption))) | (with_reducible exact And.right (And.left (by assumption))) | (with_reducible exact And.left (And.left (And.left (by assumption)))) | (with_reducible exact And.right (And.left (And.left (by assumption)))))
  first | refine CallK.one (implHeaviest s t f _ _ _ _ hs ht hf) (fun _ => amC) ?_ | refine CallE.one (implHeaviest s t f _ _ _ _ hs ht hf) (fun _ => amC) rfl ?_
  (try refine am (h := ?_)); (try with_reducible apply True.intro)
  repeat' (first | (with_reducible refine And.intro ?_ ?_) | (with_reducible intro _))
  all_goals try (first | omega | with_reducible rfl | ((with_reducible refine eqId ?_); exact rfl) | with_reducible assumption | (with_reducible exact And.left (by assumption)) | (with_reducible exact And.right (by assumption)) | (with_reducible exact And.left (And.right (by assumption))) | (with_reducible exact And.left (And.left (by assumption))) | (with_reducible exact And.right (And.left (by assumption))) | (with_reducible exact And.left (And.left (And.left (by assumption)))) | (with_reducible exact And.right (And.left (And.left (by assumption)))))
  first | refine CallK.one (toSchema s false false hs2) (fun _ => amC) ?_ | refine CallE.one (toSchema s false false hs2) (fun _ => amC) rfl ?_
  (try refine am (h := ?_)); (try with_reducible apply True.intro)
  first | refine CallK.one (eqSchema s s _ _ _ _ hs) (fun _ => amC) ?_ | refine CallE.one (eqSchema s s _ _ _ _ hs) (fun _ => amC) rfl ?_
  (try refine am (h := ?_)); (try with_reducible apply True.intro)
  repeat' (first | (with_reducible refine And.intro ?_ ?_) | (with_reducible intro _))
  all_goals try (first | omega | with_reducible rfl | ((with_reducible refine eqId ?_); exact rfl) | with_reducible assumption | (with_reducible exact And.left (by assumption)) | (with_reducible exact And.right (by assumption)) | (with_reducible exact And.left (And.right (by assumption))) | (with_reducible exact And.left (And.left (by assumption))) | (with_reducible exact And.right (And.left (by assumption))) | (with_reducible exact And.left (And.left (And.left (by assumption)))) | (with_reducible exact And.right (And.left (And.left (by assumption)))))
  first | refine CallK.one (toStats t false false ht2) (fun _ => amC) ?_ | refine CallE.one (toStats t false false ht2) (fun _ => amC) rfl ?_
  (try refine am (h := ?_)); (try with_reducible apply True.intro)
  first | refine CallK.one (eqStats t t _ _ _ _ ht) (fun _ => amC) ?_ | refine CallE.one (eqStats t t _ _ _ _ ht) (fun _ => amC) rfl ?_
  (try refine am (h := ?_)); (try with_reducible apply True.intro)
  repeat' (first | (with_reducible refine And.intro ?_ ?_) | (with_reducible intro _))
  all_goals try (first | omega | with_reducible rfl | ((with_reducible refine eqId ?_); exact rfl) | with_reducible assumption | (with_reducible exact And.left (by assumption)) | (with_reducible exact And.right (by assumption)) | (with_reducible exact And.left (And.right (by assumption))) | (with_reducible exact And.left (And.left (by assumption))) | (with_reducible exact And.right (And.left (by assumption))) | (with_reducible exact And.left (And.left (And.left (by assumption)))) | (with_reducible exact And.right (And.left (And.left (by assumption)))))
  refine FinK.val1 ?_ ?_
  all_goals (try refine amF (h := ?_))
  all_goals (try with_reducible apply True.intro)
end Go.AM
