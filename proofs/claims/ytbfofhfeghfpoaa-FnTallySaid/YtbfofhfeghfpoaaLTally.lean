/- Lemmas for the proof of this claim. -/
import Derived.Test.YtbfofhfeghfpoaaTal
namespace Go.AM
open Go Go.Proofs
set_option maxRecDepth 100000
set_option maxHeartbeats 8000000 in
theorem fnTally (code : List UInt8) (h : code.length ≤ 2 ^ 47 ∧ ∀ x ∈ code, True) : ACalls Try.prog 3 [.one (aB false code)] (fun r => r = .val (.one (.bool true))) := by
  obtain ⟨h, _⟩ := h
  have nt : Try.f3.ntmps = 89 := rfl
  have rs : Try.f3.results = #[.tmp 2] := rfl
  refine ACalls.of_runC (m := 400) mixed Try.func3 rfl rfl (Nat.le_of_ble_eq_true rfl) ?_
  simp only [nt, rs]
  clear nt rs
  (try refine am (h := ?_)); (try with_reducible apply True.intro)
  first | refine CallK.one (lawsBig code h _) (fun _ => amC) ?_ | refine CallE.one (lawsBig code h _) (fun _ => amC) rfl ?_ | refine CallG.one rfl (fun hg => lawsBig code h _) ?_ | refine CallEG.one rfl rfl (fun hg => lawsBig code h _) ?_ | refine CallCE.one (lawsBig code h _) (fun _ => amC) rfl ?_
  (try refine am (h := ?_)); (try with_reducible apply True.intro)
  repeat' (first | (with_reducible refine And.intro ?_ ?_) | (with_reducible intro _))
  all_goals try (first | omega | with_reducible rfl | ((with_reducible refine eqId ?_); exact rfl) | with_reducible (first | assumption | exact pl ‹_› | exact pr ‹_› | exact plr ‹_› | exact pll ‹_› | exact prl ‹_› | exact plll ‹_› | exact prll ‹_›))
  · refine FinK.val1 ?_ ?_
    all_goals (try refine amF (h := ?_))
    all_goals (try with_reducible apply True.intro)
  have hc : code.length ≤ 2 ^ 40 := by omega
  refine CallK.ex (spec_DrawTally code hc) (fun _ _ _ => amC) ?_
  rintro ⟨n, s, w⟩ ⟨hs, hw⟩
  (try refine am (h := ?_)); (try with_reducible apply True.intro)
  repeat' (first | (with_reducible refine And.intro ?_ ?_) | (with_reducible intro _))
  all_goals try (first | omega | with_reducible rfl | ((with_reducible refine eqId ?_); exact rfl) | with_reducible (first | assumption | exact pl ‹_› | exact pr ‹_› | exact plr ‹_› | exact pll ‹_› | exact prl ‹_› | exact plll ‹_› | exact prll ‹_›))
  first | refine CallK.one (iTallyN n s w _ _ _ _ (okI_up hs (by decide)) (okI_up hw (by decide))) (fun _ => amC) ?_ | refine CallE.one (iTallyN n s w _ _ _ _ (okI_up hs (by decide)) (okI_up hw (by decide))) (fun _ => amC) rfl ?_ | refine CallG.one rfl (fun hg => iTallyN n s w _ _ _ _ (okI_up hs (by decide)) (okI_up hw (by decide))) ?_ | refine CallEG.one rfl rfl (fun hg => iTallyN n s w _ _ _ _ (okI_up hs (by decide)) (okI_up hw (by decide))) ?_ | refine CallCE.one (iTallyN n s w _ _ _ _ (okI_up hs (by decide)) (okI_up hw (by decide))) (fun _ => amC) rfl ?_
  (try refine am (h := ?_)); (try with_reducible apply True.intro)
  repeat' (first | (with_reducible refine And.intro ?_ ?_) | (with_reducible intro _))
  all_goals try (first | omega | with_reducible rfl | ((with_reducible refine eqId ?_); exact rfl) | with_reducible (first | assumption | exact pl ‹_› | exact pr ‹_› | exact plr ‹_› | exact pll ‹_› | exact prl ‹_› | exact plll ‹_› | exact prll ‹_›))
  dsimp only at hs hw
  by_cases hsw : s.length = w.length
  · simp only [decide_eq_true hsw]
    refine CallG.own (sTallyN n s w _ _ _ _ (okI_up hs (by decide)) (okI_up hw (by decide))) (fun _ => amC) ?_
    (try refine am (h := ?_)); (try with_reducible apply True.intro)
    repeat' (first | (with_reducible refine And.intro ?_ ?_) | (with_reducible intro _))
    all_goals try (first | omega | with_reducible rfl | ((with_reducible refine eqId ?_); exact rfl) | with_reducible (first | assumption | exact pl ‹_› | exact pr ‹_› | exact plr ‹_› | exact pll ‹_› | exact prl ‹_› | exact plll ‹_› | exact prll ‹_›))
    · refine FinK.val1 ?_ ?_
      all_goals (try refine amF (h := ?_))
      all_goals (try with_reducible apply True.intro)
      simp_all
    rename_i hne
    have hne : (tly n s w).length ≠ 0 := by omega
    obtain ⟨q1, q2, q3⟩ := tly_rv hne
    have q0 := tly_cond hne
    refine LoopK.auto (Nat) (fun i => [(9, .one (.av (.int .i64 i))), (7, .one (.own 302 [] [0])), (8, .one (.own 303 [] [0]))]) (fun i => [(302, ⟨.sl true none 1 i (fI (rvI s i)), []⟩), (303, ⟨.sl true none 1 i (fI (rvI w i)), []⟩)]) [3, 4, 5, 6] (k0 := ?k01) (keepH := ?kh1) 500 (fun i => i ≤ s.length) (fun i => s.length - i) (0) ?kea1 ?keb1 ?_ ?_ ?_
    case kea1 => exact amN
    case keb1 => exact amN
    · exact Nat.zero_le _
    · refine Le.auto [] (r0 := ?r01) (ren := ?ren1) ?ea1 ?eb1 ?a1 ?b1 ?c1 ?d1 ?ho1 ?hn1 ?ht1
      case ea1 => exact amR
      case eb1 => exact amR
      case a1 => exact rfl
      case b1 => exact rfl
      case c1 => exact rfl
      case d1 => exact rfl
      all_goals (try refine amL (h := ?_))
      all_goals (try with_reducible apply True.intro)
      exact ⟨ALe.of (.inl rfl) rfl (fun i hi => by omega), ALe.of (.inl rfl) rfl (fun i hi => by omega)⟩
    · intro i hi
      (try refine am (h := ?_)); (try with_reducible apply True.intro)
      repeat' (first | (with_reducible refine And.intro ?_ ?_) | (with_reducible intro _))
      all_goals try (first | omega | with_reducible rfl | ((with_reducible refine eqId ?_); exact rfl) | with_reducible (first | assumption | exact pl ‹_› | exact pr ‹_› | exact plr ‹_› | exact pll ‹_› | exact prl ‹_› | exact plll ‹_› | exact prll ‹_›))
      · have e : ((s.length : Int) - 1 - (i : Int)).toNat = s.length - 1 - i := by omega
        refine ⟨i + 1, ?_, by omega, by omega⟩
        refine Le.auto [] (r0 := ?r02) (ren := ?ren2) ?ea2 ?eb2 ?a2 ?b2 ?c2 ?d2 ?ho2 ?hn2 ?ht2
        case ea2 => exact amR
        case eb2 => exact amR
        case a2 => exact rfl
        case b2 => exact rfl
        case c2 => exact rfl
        case d2 => exact rfl
        all_goals (try refine amL (h := ?_))
        all_goals (try with_reducible apply True.intro)
        exact ⟨appRv (by rw [e, hsw]), appRv (by rw [e])⟩
      · have ei : i = s.length := by omega
        subst ei
        have q4 : s.length < 64 := by omega
        simp only [decide_eq_true (show ((tly n s w).length : Int) = n by omega)]
        have oS : okI (2 ^ 47) (rvI s s.length ++ [-1]) := okI_app1 (A := 2 ^ 20) (rvI_ok hs (Nat.le_refl _) (by decide)) (by omega) (by decide)
        have oW : okI (2 ^ 47) (rvI w s.length ++ [1000]) := okI_app1 (A := 2 ^ 20) (rvI_ok hw (by omega) (by decide)) (by omega) (by decide)
        have a1 := appIntD (row := rvI s s.length) (x := -1) (nl := none) rfl
        have a2 := appIntD (row := rvI w s.length) (x := 1000) (nl := none) rfl
        rw [rvI_len] at a1 a2
        refine CallG.own (ACalls.argLe (iTallyN n (rvI s s.length ++ [-1]) (rvI w s.length ++ [1000]) true true none none oS oW) ⟨.refl _, a1, a2, trivial⟩) (fun _ => amC) ?_
        (try refine am (h := ?_)); (try with_reducible apply True.intro)
        rw [q3 q4]
        first | refine CallG.one rfl (fun hg => lawsSameInts (tly n s w) (tly n s w) _ _ _ _ (by omega) (by omega)) ?_ | refine CallEG.one rfl rfl (fun hg => lawsSameInts (tly n s w) (tly n s w) _ _ _ _ (by omega) (by omega)) ?_
        (try refine am (h := ?_)); (try with_reducible apply True.intro)
        repeat' (first | (with_reducible refine And.intro ?_ ?_) | (with_reducible intro _))
        all_goals try (first | omega | with_reducible rfl | ((with_reducible refine eqId ?_); exact rfl) | with_reducible (first | assumption | exact pl ‹_› | exact pr ‹_› | exact plr ‹_› | exact pll ‹_› | exact prl ‹_› | exact plll ‹_› | exact prll ‹_›))
        refine FinK.val1 ?_ ?_
        all_goals (try refine amF (h := ?_))
        all_goals (try with_reducible apply True.intro)
      · have ei : i = s.length := by omega
        subst ei
        simp only [decide_eq_true (show ((tly n s w).length : Int) = n by omega)]
        have oS : okI (2 ^ 47) (rvI s s.length) := okI_up (A := 2 ^ 20) (rvI_ok hs (Nat.le_refl _) (by decide)) (by decide)
        have oW : okI (2 ^ 47) (rvI w s.length) := okI_up (A := 2 ^ 20) (rvI_ok hw (by omega) (by decide)) (by decide)
        have k1 := iTallyN n (rvI s s.length) (rvI w s.length) true true none none oS oW
        rw [rvI_len, rvI_len, q2] at k1
        refine CallG.own (k1) (fun _ => amC) ?_
        (try refine am (h := ?_)); (try with_reducible apply True.intro)
        first | refine CallG.one rfl (fun hg => lawsSameInts (tly n s w) (tly n s w) _ _ _ _ (by omega) (by omega)) ?_ | refine CallEG.one rfl rfl (fun hg => lawsSameInts (tly n s w) (tly n s w) _ _ _ _ (by omega) (by omega)) ?_
        (try refine am (h := ?_)); (try with_reducible apply True.intro)
        repeat' (first | (with_reducible refine And.intro ?_ ?_) | (with_reducible intro _))
        all_goals try (first | omega | with_reducible rfl | ((with_reducible refine eqId ?_); exact rfl) | with_reducible (first | assumption | exact pl ‹_› | exact pr ‹_› | exact plr ‹_› | exact pll ‹_› | exact prl ‹_› | exact plll ‹_› | exact prll ‹_›))
        refine FinK.val1 ?_ ?_
        all_goals (try refine amF (h := ?_))
        all_goals (try with_reducible apply True.intro)
  · simp only [decide_eq_false hsw]
    refine CallG.skip (AT.one (aI false [])) ?_
    (try refine am (h := ?_)); (try with_reducible apply True.intro)
    repeat' (first | (with_reducible refine And.intro ?_ ?_) | (with_reducible intro _))
    all_goals try (first | omega | with_reducible rfl | ((with_reducible refine eqId ?_); exact rfl) | with_reducible (first | assumption | exact pl ‹_› | exact pr ‹_› | exact plr ‹_› | exact pll ‹_› | exact prl ‹_› | exact plll ‹_› | exact prll ‹_›))
    refine FinK.val1 ?_ ?_
    all_goals (try refine amF (h := ?_))
    all_goals (try with_reducible apply True.intro)
    have : (tly n s w).length = 0 := by
      cases e : (tly n s w).length with
      | zero => rfl
      | succ k => exact absurd (tly_cond (n := n) (s := s) (w := w) (by omega)).2.1 hsw
    simp [this]
end Go.AM
