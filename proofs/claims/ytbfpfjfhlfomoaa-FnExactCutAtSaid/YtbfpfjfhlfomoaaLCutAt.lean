/- Lemmas for the proof of this claim. -/
import Derived.Test.YtbfpfjfhlfomoaaWin
namespace Go.AM
open Go Go.Proofs
set_option maxRecDepth 100000
set_option maxHeartbeats 8000000 in
theorem fnExactCutAt (x : List (List Int)) (k : Int) (hx : okL (2 ^ 47) x) (hk : inK .i64 k) : ACalls Try.prog 10 [.agg [aL false false x], .one (.int .i64 k)] (fun r => r = .val (.one (.bool true))) := by
  have nt : Try.f10.ntmps = 31 := rfl
  have rs : Try.f10.results = #[.tmp 4] := rfl
  refine ACalls.of_run (m := 400) mixed Try.func10 rfl rfl (Nat.le_of_ble_eq_true rfl) ?_
  simp only [nt, rs]
  clear nt rs
  (try refine am (h := ?_)); (try with_reducible apply True.intro)
  first | refine CallK.one (szWindow x 1048576 false false hx (by omega) (by omega)) (fun _ => amC) ?_ | refine CallE.one (szWindow x 1048576 false false hx (by omega) (by omega)) (fun _ => amC) rfl ?_
  (try refine am (h := ?_)); (try with_reducible apply True.intro)
  rcases less_cases 1048576 (szW x) with ⟨hcx, e⟩ | ⟨hcx, e⟩
  · (try refine am (h := ?_)); (try simp only [e]); (try refine am (h := ?_)); (try with_reducible apply True.intro)
    refine FinK.val1 ?_ ?_
    all_goals (try refine amF (h := ?_))
    all_goals (try with_reducible apply True.intro)
  (try refine am (h := ?_)); (try simp only [e]); (try refine am (h := ?_)); (try with_reducible apply True.intro)
  repeat' (first | (with_reducible refine And.intro ?_ ?_) | intro _)
  all_goals try (first | omega | with_reducible rfl | ((with_reducible refine eqId ?_); exact rfl) | with_reducible assumption | (with_reducible exact And.left (by assumption)) | (with_reducible exact And.right (by assumption)) | (with_reducible exact And.left (And.right (by assumption))))
  have sx : szW x ≤ 1048576 := by omega
  have hx2 : okL (2 ^ 40) x := okL_sz hx (by omega)
  first | refine CallK.one (toWindow x false false hx2) (fun _ => amC) ?_ | refine CallE.one (toWindow x false false hx2) (fun _ => amC) rfl ?_
  (try refine am (h := ?_)); (try with_reducible apply True.intro)
  repeat' (first | (with_reducible refine And.intro ?_ ?_) | intro _)
  all_goals try (first | omega | with_reducible rfl | ((with_reducible refine eqId ?_); exact rfl) | with_reducible assumption | (with_reducible exact And.left (by assumption)) | (with_reducible exact And.right (by assumption)) | (with_reducible exact And.left (And.right (by assumption))))
  first | refine CallK.one (specCutAt x k _ _ hx hk) (fun _ => amC) ?_ | refine CallE.one (specCutAt x k _ _ hx hk) (fun _ => amC) rfl ?_
  (try refine am (h := ?_)); (try with_reducible apply True.intro)
  repeat' (first | (with_reducible refine And.intro ?_ ?_) | intro _)
  all_goals try (first | omega | with_reducible rfl | ((with_reducible refine eqId ?_); exact rfl) | with_reducible assumption | (with_reducible exact And.left (by assumption)) | (with_reducible exact And.right (by assumption)) | (with_reducible exact And.left (And.right (by assumption))))
  first | refine CallK.one (toWindow x false false hx2) (fun _ => amC) ?_ | refine CallE.one (toWindow x false false hx2) (fun _ => amC) rfl ?_
  (try refine am (h := ?_)); (try with_reducible apply True.intro)
  repeat' (first | (with_reducible refine And.intro ?_ ?_) | intro _)
  all_goals try (first | omega | with_reducible rfl | ((with_reducible refine eqId ?_); exact rfl) | with_reducible assumption | (with_reducible exact And.left (by assumption)) | (with_reducible exact And.right (by assumption)) | (with_reducible exact And.left (And.right (by assumption))))
  first | refine CallK.one (implCutAt x k _ _ hx hk) (fun _ => amC) ?_ | refine CallE.one (implCutAt x k _ _ hx hk) (fun _ => amC) rfl ?_
  (try refine am (h := ?_)); (try with_reducible apply True.intro)
  repeat' (first | (with_reducible refine And.intro ?_ ?_) | intro _)
  all_goals try (first | omega | with_reducible rfl | ((with_reducible refine eqId ?_); exact rfl) | with_reducible assumption | (with_reducible exact And.left (by assumption)) | (with_reducible exact And.right (by assumption)) | (with_reducible exact And.left (And.right (by assumption))))
  first | refine CallK.one (toWindow x false false hx2) (fun _ => amC) ?_ | refine CallE.one (toWindow x false false hx2) (fun _ => amC) rfl ?_
  (try refine am (h := ?_)); (try with_reducible apply True.intro)
  first | refine CallK.one (eqWindow x x _ _ _ _ hx) (fun _ => amC) ?_ | refine CallE.one (eqWindow x x _ _ _ _ hx) (fun _ => amC) rfl ?_
  (try refine am (h := ?_)); (try with_reducible apply True.intro)
  repeat' (first | (with_reducible refine And.intro ?_ ?_) | intro _)
  all_goals try (first | omega | with_reducible rfl | ((with_reducible refine eqId ?_); exact rfl) | with_reducible assumption | (with_reducible exact And.left (by assumption)) | (with_reducible exact And.right (by assumption)) | (with_reducible exact And.left (And.right (by assumption))))
  refine FinK.val1 ?_ ?_
  all_goals (try refine amF (h := ?_))
  all_goals (try with_reducible apply True.intro)
end Go.AM
