/- Lemmas for the proof of this claim. -/
import Derived.Test.YtopnfepnlnlplaaSame
namespace Go.AM
open Go Go.Proofs
set_option maxRecDepth 100000
set_option maxHeartbeats 8000000 in
theorem fnExactMemberSame (x y : DMember) (hx : okMember (2 ^ 47) x) (hy : okMember (2 ^ 47) y) : ACalls Try.prog 3 [.agg (cMember false false x), .agg (cMember false false y)] (fun r => r = .val (.one (.bool true))) := by
  have nt : Try.f3.ntmps = 45 := rfl
  have rs : Try.f3.results = #[.tmp 4] := rfl
  refine ACalls.of_run (m := 400) mixed Try.func3 rfl rfl (Nat.le_of_ble_eq_true rfl) ?_
  simp only [nt, rs]
  clear nt rs
  (try refine am (h := ?_)); (try with_reducible apply True.intro)
  first | refine CallK.one (szMember x 1048576 false false hx (by omega) (by omega)) (fun _ => amC) ?_ | refine CallE.one (szMember x 1048576 false false hx (by omega) (by omega)) (fun _ => amC) rfl ?_
  (try refine am (h := ?_)); (try with_reducible apply True.intro)
  rcases less_cases 1048576 (zMember x) with ⟨hc, e⟩ | ⟨hc, e⟩
  · (try refine am (h := ?_)); (try simp only [e]); (try refine am (h := ?_)); (try with_reducible apply True.intro)
    refine FinK.val1 ?_ ?_
    all_goals (try refine amF (h := ?_))
    all_goals (try with_reducible apply True.intro)
  (try refine am (h := ?_)); (try simp only [e]); (try refine am (h := ?_)); (try with_reducible apply True.intro)
  repeat' (first | (with_reducible refine And.intro ?_ ?_) | intro _)
  all_goals try (first | omega | with_reducible rfl | ((with_reducible refine eqId ?_); exact rfl) | with_reducible assumption | (with_reducible exact And.left (by assumption)) | (with_reducible exact And.right (by assumption)) | (with_reducible exact And.left (And.right (by assumption))))
  first | refine CallK.one (szMember y (1048576 - (zMember x : Nat)) false false hy (by omega) (by omega)) (fun _ => amC) ?_ | refine CallE.one (szMember y (1048576 - (zMember x : Nat)) false false hy (by omega) (by omega)) (fun _ => amC) rfl ?_
  (try refine am (h := ?_)); (try with_reducible apply True.intro)
  rcases less_cases (1048576 - (zMember x : Nat)) (zMember y) with ⟨hd, e⟩ | ⟨hd, e⟩
  · (try refine am (h := ?_)); (try simp only [e]); (try refine am (h := ?_)); (try with_reducible apply True.intro)
    refine FinK.val1 ?_ ?_
    all_goals (try refine amF (h := ?_))
    all_goals (try with_reducible apply True.intro)
  (try refine am (h := ?_)); (try simp only [e]); (try refine am (h := ?_)); (try with_reducible apply True.intro)
  repeat' (first | (with_reducible refine And.intro ?_ ?_) | intro _)
  all_goals try (first | omega | with_reducible rfl | ((with_reducible refine eqId ?_); exact rfl) | with_reducible assumption | (with_reducible exact And.left (by assumption)) | (with_reducible exact And.right (by assumption)) | (with_reducible exact And.left (And.right (by assumption))))
  have hx2 : okMember (2 ^ 40) x := okMember_sz hx (by omega)
  have hy2 : okMember (2 ^ 40) y := okMember_sz hy (by omega)
  first | refine CallK.one (toMember x false false hx2) (fun _ => amC) ?_ | refine CallE.one (toMember x false false hx2) (fun _ => amC) rfl ?_
  (try refine am (h := ?_)); (try with_reducible apply True.intro)
  repeat' (first | (with_reducible refine And.intro ?_ ?_) | intro _)
  all_goals try (first | omega | with_reducible rfl | ((with_reducible refine eqId ?_); exact rfl) | with_reducible assumption | (with_reducible exact And.left (by assumption)) | (with_reducible exact And.right (by assumption)) | (with_reducible exact And.left (And.right (by assumption))))
  first | refine CallK.one (toMember y false false hy2) (fun _ => amC) ?_ | refine CallE.one (toMember y false false hy2) (fun _ => amC) rfl ?_
  (try refine am (h := ?_)); (try with_reducible apply True.intro)
  repeat' (first | (with_reducible refine And.intro ?_ ?_) | intro _)
  all_goals try (first | omega | with_reducible rfl | ((with_reducible refine eqId ?_); exact rfl) | with_reducible assumption | (with_reducible exact And.left (by assumption)) | (with_reducible exact And.right (by assumption)) | (with_reducible exact And.left (And.right (by assumption))))
  first | refine CallK.one (specMemberSame x y _ _ _ _ hx) (fun _ => amC) ?_ | refine CallE.one (specMemberSame x y _ _ _ _ hx) (fun _ => amC) rfl ?_
  (try refine am (h := ?_)); (try with_reducible apply True.intro)
  repeat' (first | (with_reducible refine And.intro ?_ ?_) | intro _)
  all_goals try (first | omega | with_reducible rfl | ((with_reducible refine eqId ?_); exact rfl) | with_reducible assumption | (with_reducible exact And.left (by assumption)) | (with_reducible exact And.right (by assumption)) | (with_reducible exact And.left (And.right (by assumption))))
  first | refine CallK.one (toMember x false false hx2) (fun _ => amC) ?_ | refine CallE.one (toMember x false false hx2) (fun _ => amC) rfl ?_
  (try refine am (h := ?_)); (try with_reducible apply True.intro)
  repeat' (first | (with_reducible refine And.intro ?_ ?_) | intro _)
  all_goals try (first | omega | with_reducible rfl | ((with_reducible refine eqId ?_); exact rfl) | with_reducible assumption | (with_reducible exact And.left (by assumption)) | (with_reducible exact And.right (by assumption)) | (with_reducible exact And.left (And.right (by assumption))))
  first | refine CallK.one (toMember y false false hy2) (fun _ => amC) ?_ | refine CallE.one (toMember y false false hy2) (fun _ => amC) rfl ?_
  (try refine am (h := ?_)); (try with_reducible apply True.intro)
  repeat' (first | (with_reducible refine And.intro ?_ ?_) | intro _)
  all_goals try (first | omega | with_reducible rfl | ((with_reducible refine eqId ?_); exact rfl) | with_reducible assumption | (with_reducible exact And.left (by assumption)) | (with_reducible exact And.right (by assumption)) | (with_reducible exact And.left (And.right (by assumption))))
  first | refine CallK.one (implMemberSame x y _ _ _ _ hx) (fun _ => amC) ?_ | refine CallE.one (implMemberSame x y _ _ _ _ hx) (fun _ => amC) rfl ?_
  (try refine am (h := ?_)); (try with_reducible apply True.intro)
  repeat' (first | (with_reducible refine And.intro ?_ ?_) | intro _)
  all_goals try (first | omega | with_reducible rfl | ((with_reducible refine eqId ?_); exact rfl) | with_reducible assumption | (with_reducible exact And.left (by assumption)) | (with_reducible exact And.right (by assumption)) | (with_reducible exact And.left (And.right (by assumption))))
  first | refine CallK.one (toMember x false false hx2) (fun _ => amC) ?_ | refine CallE.one (toMember x false false hx2) (fun _ => amC) rfl ?_
  (try refine am (h := ?_)); (try with_reducible apply True.intro)
  repeat' (first | (with_reducible refine And.intro ?_ ?_) | intro _)
  all_goals try (first | omega | with_reducible rfl | ((with_reducible refine eqId ?_); exact rfl) | with_reducible assumption | (with_reducible exact And.left (by assumption)) | (with_reducible exact And.right (by assumption)) | (with_reducible exact And.left (And.right (by assumption))))
  first | refine CallK.one (eqMember x x _ _ _ _ hx) (fun _ => amC) ?_ | refine CallE.one (eqMember x x _ _ _ _ hx) (fun _ => amC) rfl ?_
  (try refine am (h := ?_)); (try with_reducible apply True.intro)
  repeat' (first | (with_reducible refine And.intro ?_ ?_) | intro _)
  all_goals try (first | omega | with_reducible rfl | ((with_reducible refine eqId ?_); exact rfl) | with_reducible assumption | (with_reducible exact And.left (by assumption)) | (with_reducible exact And.right (by assumption)) | (with_reducible exact And.left (And.right (by assumption))))
  first | refine CallK.one (toMember y false false hy2) (fun _ => amC) ?_ | refine CallE.one (toMember y false false hy2) (fun _ => amC) rfl ?_
  (try refine am (h := ?_)); (try with_reducible apply True.intro)
  repeat' (first | (with_reducible refine And.intro ?_ ?_) | intro _)
  all_goals try (first | omega | with_reducible rfl | ((with_reducible refine eqId ?_); exact rfl) | with_reducible assumption | (with_reducible exact And.left (by assumption)) | (with_reducible exact And.right (by assumption)) | (with_reducible exact And.left (And.right (by assumption))))
  first | refine CallK.one (eqMember y y _ _ _ _ hy) (fun _ => amC) ?_ | refine CallE.one (eqMember y y _ _ _ _ hy) (fun _ => amC) rfl ?_
  (try refine am (h := ?_)); (try with_reducible apply True.intro)
  repeat' (first | (with_reducible refine And.intro ?_ ?_) | intro _)
  all_goals try (first | omega | with_reducible rfl | ((with_reducible refine eqId ?_); exact rfl) | with_reducible assumption | (with_reducible exact And.left (by assumption)) | (with_reducible exact And.right (by assumption)) | (with_reducible exact And.left (And.right (by assumption))))
  refine FinK.val1 ?_ ?_
  all_goals (try refine amF (h := ?_))
  all_goals (try with_reducible apply True.intro)
end Go.AM
