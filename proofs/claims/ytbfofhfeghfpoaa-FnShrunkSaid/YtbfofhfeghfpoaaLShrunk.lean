/- Lemmas for the proof of this claim. -/
import Derived.Test.YtbfofhfeghfpoaaWinc
import Derived.Test.YtbfofhfeghfpoaaWina
import Derived.Test.YtbfofhfeghfpoaaSam
import Derived.Test.YtbfofhfeghfpoaaDrw
import Derived.Test.YtbfofhfeghfpoaaWlib
namespace Go.AM
open Go Go.Proofs
set_option maxRecDepth 100000
set_option maxHeartbeats 8000000 in
theorem fnShrunk (code : List UInt8) (h : code.length ≤ 2 ^ 47 ∧ ∀ x ∈ code, True) : ACalls Try.prog 6 [.one (aB false code)] (fun r => r = .val (.one (.bool true))) := by
  obtain ⟨h, _⟩ := h
  have nt : Try.f6.ntmps = 87 := rfl
  have rs : Try.f6.results = #[.tmp 2] := rfl
  refine ACalls.of_runC (m := 400) mixed Try.func6 rfl rfl (Nat.le_of_ble_eq_true rfl) ?_
  simp only [nt, rs]
  clear nt rs
  (try refine am (h := ?_)); (try with_reducible apply True.intro)
  first | refine CallK.one (lawsBig code h _) (fun _ => amC) ?_ | refine CallE.one (lawsBig code h _) (fun _ => amC) rfl ?_ | refine CallG.one rfl (fun hg => lawsBig code h _) ?_ | refine CallEG.one rfl rfl (fun hg => lawsBig code h _) ?_ | refine CallCE.one (lawsBig code h _) (fun _ => amC) rfl ?_
  (try refine am (h := ?_)); (try with_reducible apply True.intro)
  repeat' (first | (with_reducible refine And.intro ?_ ?_) | (with_reducible intro _))
  all_goals try (first | omega | with_reducible rfl | ((with_reducible refine eqId ?_); exact rfl) | with_reducible (first | assumption | exact pl ‹_› | exact pr ‹_› | exact plr ‹_› | exact pll ‹_› | exact prl ‹_› | exact plll ‹_› | exact prll ‹_›))
  · refine FinK.val1 ?_ ?_
    all_goals (try refine amF (h := ?_))
    all_goals (try with_reducible apply True.intro)
  have hc : code.length ≤ 2 ^ 40 := by omega
  refine CallK.ex (spec_DrawShrink code hc) (fun _ _ _ => amC) ?_
  rintro ⟨l, k⟩ ⟨hl, hk⟩
  (try refine am (h := ?_)); (try with_reducible apply True.intro)
  dsimp only at hl hk
  repeat' (first | (with_reducible refine And.intro ?_ ?_) | (with_reducible intro _))
  all_goals try (first | omega | with_reducible rfl | ((with_reducible refine eqId ?_); exact rfl) | with_reducible (first | assumption | exact pl ‹_› | exact pr ‹_› | exact plr ‹_› | exact pll ‹_› | exact prl ‹_› | exact plll ‹_› | exact prll ‹_›))
  have hki : inK .i64 k := ⟨by show (-9223372036854775808 : Int) ≤ k; omega, by show k ≤ (9223372036854775807 : Int); omega⟩
  have hl40 : okL (2 ^ 40) l := okL_up hl
  first | refine CallK.one (implShrink l k _ _ hl40 hki) (fun _ => amC) ?_ | refine CallE.one (implShrink l k _ _ hl40 hki) (fun _ => amC) rfl ?_ | refine CallG.one rfl (fun hg => implShrink l k _ _ hl40 hki) ?_ | refine CallEG.one rfl rfl (fun hg => implShrink l k _ _ hl40 hki) ?_ | refine CallCE.one (implShrink l k _ _ hl40 hki) (fun _ => amC) rfl ?_
  (try refine am (h := ?_)); (try with_reducible apply True.intro)
  repeat' (first | (with_reducible refine And.intro ?_ ?_) | (with_reducible intro _))
  all_goals try (first | omega | with_reducible rfl | ((with_reducible refine eqId ?_); exact rfl) | with_reducible (first | assumption | exact pl ‹_› | exact pr ‹_› | exact plr ‹_› | exact pll ‹_› | exact prl ‹_› | exact plll ‹_› | exact prll ‹_›))
  first | refine CallK.one (specShrink l k _ _ hl40 hki) (fun _ => amC) ?_ | refine CallE.one (specShrink l k _ _ hl40 hki) (fun _ => amC) rfl ?_ | refine CallG.one rfl (fun hg => specShrink l k _ _ hl40 hki) ?_ | refine CallEG.one rfl rfl (fun hg => specShrink l k _ _ hl40 hki) ?_ | refine CallCE.one (specShrink l k _ _ hl40 hki) (fun _ => amC) rfl ?_
  (try refine am (h := ?_)); (try with_reducible apply True.intro)
  have hs := shrink_left l k
  have hsk := shrink_ok (k := k) hl40
  have hbk := bkts_len (l := l)
  generalize shrink l k = s at *
  obtain ⟨v, n⟩ := s
  obtain ⟨h1, _, h3, h4, h5, _⟩ := hs
  dsimp only at h1 h3 h4 h5 hsk ⊢
  rw [Nat.sub_zero] at h3 h4
  repeat' (first | (with_reducible refine And.intro ?_ ?_) | (with_reducible intro _))
  all_goals try (first | omega | with_reducible rfl | ((with_reducible refine eqId ?_); exact rfl) | with_reducible (first | assumption | exact pl ‹_› | exact pr ‹_› | exact plr ‹_› | exact pll ‹_› | exact prl ‹_› | exact plll ‹_› | exact prll ‹_›))
  first | refine CallG.one rfl (fun hg => implCutAt v k _ _ (okL47 hsk) hki) ?_ | refine CallEG.one rfl rfl (fun hg => implCutAt v k _ _ (okL47 hsk) hki) ?_
  (try refine am (h := ?_)); (try with_reducible apply True.intro)
  repeat' (first | (with_reducible refine And.intro ?_ ?_) | (with_reducible intro _))
  all_goals try (first | omega | with_reducible rfl | ((with_reducible refine eqId ?_); exact rfl) | with_reducible (first | assumption | exact pl ‹_› | exact pr ‹_› | exact plr ‹_› | exact pll ‹_› | exact prl ‹_› | exact plll ‹_› | exact prll ‹_›))
  rw [decide_eq_true h1]
  have h5' : decide ((n : Int) = 0) = decide (v = l) := decide_eq_decide.2 (by rw [← h5]; omega)
  first | refine CallG.one rfl (fun hg => specWindowSame v l _ _ _ _ (okL47 hsk)) ?_ | refine CallEG.one rfl rfl (fun hg => specWindowSame v l _ _ _ _ (okL47 hsk)) ?_
  (try refine am (h := ?_)); (try with_reducible apply True.intro)
  repeat' (first | (with_reducible refine And.intro ?_ ?_) | (with_reducible intro _))
  all_goals try (first | omega | with_reducible rfl | ((with_reducible refine eqId ?_); exact rfl) | with_reducible (first | assumption | exact pl ‹_› | exact pr ‹_› | exact plr ‹_› | exact pll ‹_› | exact prl ‹_› | exact plll ‹_› | exact prll ‹_›))
  · exfalso
    rename_i hh
    exact hh h5'
  first | refine CallK.one (implBuckets l _ _ (okL47 hl40)) (fun _ => amC) ?_ | refine CallE.one (implBuckets l _ _ (okL47 hl40)) (fun _ => amC) rfl ?_ | refine CallG.one rfl (fun hg => implBuckets l _ _ (okL47 hl40)) ?_ | refine CallEG.one rfl rfl (fun hg => implBuckets l _ _ (okL47 hl40)) ?_ | refine CallCE.one (implBuckets l _ _ (okL47 hl40)) (fun _ => amC) rfl ?_
  (try refine am (h := ?_)); (try with_reducible apply True.intro)
  repeat' (first | (with_reducible refine And.intro ?_ ?_) | (with_reducible intro _))
  all_goals try (first | omega | with_reducible rfl | ((with_reducible refine eqId ?_); exact rfl) | with_reducible (first | assumption | exact pl ‹_› | exact pr ‹_› | exact plr ‹_› | exact pll ‹_› | exact prl ‹_› | exact plll ‹_› | exact prll ‹_›))
  first | refine CallK.one (implBuckets v _ _ (okL47 hsk)) (fun _ => amC) ?_ | refine CallE.one (implBuckets v _ _ (okL47 hsk)) (fun _ => amC) rfl ?_ | refine CallG.one rfl (fun hg => implBuckets v _ _ (okL47 hsk)) ?_ | refine CallEG.one rfl rfl (fun hg => implBuckets v _ _ (okL47 hsk)) ?_ | refine CallCE.one (implBuckets v _ _ (okL47 hsk)) (fun _ => amC) rfl ?_
  (try refine am (h := ?_)); (try with_reducible apply True.intro)
  have hvl : (bkts v).length = (bkts l).length - n := by rw [h4, List.length_drop]
  have hget : ∀ i, (bkts v).getD i default = (bkts l).getD (i + n) default := fun i => by
    rw [h4, List.getD_eq_getElem?_getD, List.getElem?_drop, List.getD_eq_getElem?_getD, Nat.add_comm]
  repeat' (first | (with_reducible refine And.intro ?_ ?_) | (with_reducible intro _))
  all_goals try (first | omega | with_reducible rfl | ((with_reducible refine eqId ?_); exact rfl) | with_reducible (first | assumption | exact pl ‹_› | exact pr ‹_› | exact plr ‹_› | exact pll ‹_› | exact prl ‹_› | exact plll ‹_› | exact prll ‹_›))
  refine LoopK.auto (Nat) (fun i => [(11, .one (.av (.int .i64 i)))]) (fun i => []) [4, 5, 6, 9, 10] (k0 := ?k01) (keepH := ?kh1) 500 (fun i => i ≤ (bkts v).length) (fun i => (bkts v).length - i) (0) ?kea1 ?keb1 ?_ ?_ ?_
  case kea1 => exact amN
  case keb1 => exact amN
  · exact Nat.zero_le _
  · refine Le.auto [] (r0 := ?r01) (ren := ?ren1) ?ea1 ?eb1 ?a1 ?b1 ?c1 ?d1 ?ho1 ?hn1 ?ht1
    case ea1 => exact amR
    case eb1 => exact amR
    case a1 => exact rfl
    case b1 => exact rfl
    case c1 => exact rfl
    case d1 => exact rfl
    all_goals (try refine amL (h := ?_))
    all_goals (try with_reducible apply True.intro)
  · intro i hi
    have hg := hget i
    have hn : ((i : Int) + (n : Int)).toNat = i + n := by omega
    (try refine am (h := ?_)); (try with_reducible apply True.intro)
    repeat' (first | (with_reducible refine And.intro ?_ ?_) | (with_reducible intro _))
    all_goals try (first | omega | with_reducible rfl | ((with_reducible refine eqId ?_); exact rfl) | with_reducible (first | assumption | exact pl ‹_› | exact pr ‹_› | exact plr ‹_› | exact pll ‹_› | exact prl ‹_› | exact plll ‹_› | exact prll ‹_›))
    · exfalso
      rename_i hh
      rw [hn, ← hg] at hh
      exact hh ⟨rfl, rfl⟩
    · refine ⟨i + 1, ?_, by omega, by omega⟩
      refine Le.auto [] (r0 := ?r02) (ren := ?ren2) ?ea2 ?eb2 ?a2 ?b2 ?c2 ?d2 ?ho2 ?hn2 ?ht2
      case ea2 => exact amR
      case eb2 => exact amR
      case a2 => exact rfl
      case b2 => exact rfl
      case c2 => exact rfl
      case d2 => exact rfl
      all_goals (try refine amL (h := ?_))
      all_goals (try with_reducible apply True.intro)
      all_goals rfl
    · first | refine CallK.one (implShrink v k _ _ hsk hki) (fun _ => amC) ?_ | refine CallE.one (implShrink v k _ _ hsk hki) (fun _ => amC) rfl ?_ | refine CallG.one rfl (fun hg => implShrink v k _ _ hsk hki) ?_ | refine CallEG.one rfl rfl (fun hg => implShrink v k _ _ hsk hki) ?_ | refine CallCE.one (implShrink v k _ _ hsk hki) (fun _ => amC) rfl ?_
      (try refine am (h := ?_)); (try with_reducible apply True.intro)
      have e2 : shrink v k = (v, 0) := wShr_end h1
      rw [e2]
      repeat' (first | (with_reducible refine And.intro ?_ ?_) | (with_reducible intro _))
      all_goals try (first | omega | with_reducible rfl | ((with_reducible refine eqId ?_); exact rfl) | with_reducible (first | assumption | exact pl ‹_› | exact pr ‹_› | exact plr ‹_› | exact pll ‹_› | exact prl ‹_› | exact plll ‹_› | exact prll ‹_›))
      first | refine CallK.one (specWindowSame v v _ _ _ _ (okL47 hsk)) (fun _ => amC) ?_ | refine CallE.one (specWindowSame v v _ _ _ _ (okL47 hsk)) (fun _ => amC) rfl ?_ | refine CallG.one rfl (fun hg => specWindowSame v v _ _ _ _ (okL47 hsk)) ?_ | refine CallEG.one rfl rfl (fun hg => specWindowSame v v _ _ _ _ (okL47 hsk)) ?_ | refine CallCE.one (specWindowSame v v _ _ _ _ (okL47 hsk)) (fun _ => amC) rfl ?_
      (try refine am (h := ?_)); (try with_reducible apply True.intro)
      repeat' (first | (with_reducible refine And.intro ?_ ?_) | (with_reducible intro _))
      all_goals try (first | omega | with_reducible rfl | ((with_reducible refine eqId ?_); exact rfl) | with_reducible (first | assumption | exact pl ‹_› | exact pr ‹_› | exact plr ‹_› | exact pll ‹_› | exact prl ‹_› | exact plll ‹_› | exact prll ‹_›))
      refine FinK.val1 ?_ ?_
      all_goals (try refine amF (h := ?_))
      all_goals (try with_reducible apply True.intro)
end Go.AM
