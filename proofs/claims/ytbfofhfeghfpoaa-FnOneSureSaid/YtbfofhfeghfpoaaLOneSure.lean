/- Lemmas for the proof of this claim. -/
import Derived.Test.YtbfofhfeghfpoaaWinc
import Derived.Test.YtbfofhfeghfpoaaWina
import Derived.Test.YtbfofhfeghfpoaaSam
import Derived.Test.YtbfofhfeghfpoaaDrw
import Derived.Test.YtbfofhfeghfpoaaWlib
namespace Go.AM
open Go Go.Proofs
set_option maxRecDepth 100000
set_option maxHeartbeats 8000000 in
theorem fnOneSure (code : List UInt8) (h : code.length ≤ 2 ^ 47 ∧ ∀ x ∈ code, True) : ACalls Try.prog 9 [.one (aB false code)] (fun r => r = .val (.one (.bool true))) := by
  obtain ⟨h, _⟩ := h
  have nt : Try.f9.ntmps = 56 := rfl
  have rs : Try.f9.results = #[.tmp 2] := rfl
  refine ACalls.of_runC (m := 400) mixed Try.func9 rfl rfl (Nat.le_of_ble_eq_true rfl) ?_
  simp only [nt, rs]
  clear nt rs
  (try refine am (h := ?_)); (try with_reducible apply True.intro)
  first | refine CallK.one (lawsBig code h _) (fun _ => amC) ?_ | refine CallE.one (lawsBig code h _) (fun _ => amC) rfl ?_ | refine CallG.one rfl (fun hg => lawsBig code h _) ?_ | refine CallEG.one rfl rfl (fun hg => lawsBig code h _) ?_ | refine CallCE.one (lawsBig code h _) (fun _ => amC) rfl ?_
  (try refine am (h := ?_)); (try with_reducible apply True.intro)
  repeat' (first | (with_reducible refine And.intro ?_ ?_) | (with_reducible intro _))
  all_goals try (first | omega | with_reducible rfl | ((with_reducible refine eqId ?_); exact rfl) | with_reducible (first | assumption | exact pl ‹_› | exact pr ‹_› | exact plr ‹_› | exact pll ‹_› | exact prl ‹_› | exact plll ‹_› | exact prll ‹_›))
  · refine FinK.val1 ?_ ?_
    all_goals (try refine amF (h := ?_))
    all_goals (try with_reducible apply True.intro)
  have hc : code.length ≤ 2 ^ 40 := by omega
  refine CallK.ex (spec_DrawDetRun code hc) (fun _ _ _ => amC) ?_
  rintro ⟨l, w, v⟩ ⟨hl, hw, hv⟩
  (try refine am (h := ?_)); (try with_reducible apply True.intro)
  dsimp only at hl hw hv
  repeat' (first | (with_reducible refine And.intro ?_ ?_) | (with_reducible intro _))
  all_goals try (first | omega | with_reducible rfl | ((with_reducible refine eqId ?_); exact rfl) | with_reducible (first | assumption | exact pl ‹_› | exact pr ‹_› | exact plr ‹_› | exact pll ‹_› | exact prl ‹_› | exact plll ‹_› | exact prll ‹_›))
  have hwi : inK .i64 w := ⟨by show (-9223372036854775808 : Int) ≤ w; omega, by show w ≤ (9223372036854775807 : Int); omega⟩
  first | refine CallK.one (implDetRun l w w _ (okI_up hl.1 (by decide)) hwi hwi) (fun _ => amC) ?_ | refine CallE.one (implDetRun l w w _ (okI_up hl.1 (by decide)) hwi hwi) (fun _ => amC) rfl ?_ | refine CallG.one rfl (fun hg => implDetRun l w w _ (okI_up hl.1 (by decide)) hwi hwi) ?_ | refine CallEG.one rfl rfl (fun hg => implDetRun l w w _ (okI_up hl.1 (by decide)) hwi hwi) ?_ | refine CallCE.one (implDetRun l w w _ (okI_up hl.1 (by decide)) hwi hwi) (fun _ => amC) rfl ?_
  (try refine am (h := ?_)); (try with_reducible apply True.intro)
  have hlen := (detRunA_ok (l := l) (w := w) (r := w) (i := l.length)).2.1
  have hwok := detRunA_wok (l := l) (w := w) (r := w) (i := l.length)
  have hok := detRunA_ok (l := l) (w := w) (r := w) (i := l.length)
  obtain ⟨hsame, hne⟩ := detRunA_same l w l.length
  have hll := hl.1.1
  generalize detRunA l w w l.length = D at *
  repeat' (first | (with_reducible refine And.intro ?_ ?_) | (with_reducible intro _))
  all_goals try (first | omega | with_reducible rfl | ((with_reducible refine eqId ?_); exact rfl) | with_reducible (first | assumption | exact pl ‹_› | exact pr ‹_› | exact plr ‹_› | exact pll ‹_› | exact prl ‹_› | exact plll ‹_› | exact prll ‹_›))
  first | refine CallG.one rfl (fun hg => specWindowSame D.1.warn D.1.drift _ _ _ _ (okL_up hok.1.1)) ?_ | refine CallEG.one rfl rfl (fun hg => specWindowSame D.1.warn D.1.drift _ _ _ _ (okL_up hok.1.1)) ?_
  (try refine am (h := ?_)); (try with_reducible apply True.intro)
  repeat' (first | (with_reducible refine And.intro ?_ ?_) | (with_reducible intro _))
  all_goals try (first | omega | with_reducible rfl | ((with_reducible refine eqId ?_); exact rfl) | with_reducible (first | assumption | exact pl ‹_› | exact pr ‹_› | exact plr ‹_› | exact pll ‹_› | exact prl ‹_› | exact plll ‹_› | exact prll ‹_›))
  · rename_i hx
    exact (hx.elim (fun h => h hlen) (fun h => h hsame)).elim
  refine LoopK.auto (Nat) (fun i => [(8, .one (.av (.int .i64 i)))]) (fun i => []) [6, 7] (k0 := ?k01) (keepH := ?kh1) 500 (fun i => i ≤ D.2.length) (fun i => D.2.length - i) (0) ?kea1 ?keb1 ?_ ?_ ?_
  case kea1 => exact amN
  case keb1 => exact amN
  · exact Nat.zero_le _
  · refine Le.auto [] (r0 := ?r01) (ren := ?ren1) ?ea1 ?eb1 ?a1 ?b1 ?c1 ?d1 ?ho1 ?hn1 ?ht1
    case ea1 => exact amR
    case eb1 => exact amR
    case a1 => exact rfl
    case b1 => exact rfl
    case c1 => exact rfl
    case d1 => exact rfl
    all_goals (try refine amL (h := ?_))
    all_goals (try with_reducible apply True.intro)
  · intro i hi
    (try refine am (h := ?_)); (try with_reducible apply True.intro)
    repeat' (first | (with_reducible refine And.intro ?_ ?_) | (with_reducible intro _))
    all_goals try (first | omega | with_reducible rfl | ((with_reducible refine eqId ?_); exact rfl) | with_reducible (first | assumption | exact pl ‹_› | exact pr ‹_› | exact plr ‹_› | exact pll ‹_› | exact prl ‹_› | exact plll ‹_› | exact prll ‹_›))
    · rename_i hlt h1
      exact (hne _ (getD_mem (d := 0) hlt) h1).elim
    · refine ⟨i + 1, ?_, by omega, by omega⟩
      refine Le.auto [] (r0 := ?r02) (ren := ?ren2) ?ea2 ?eb2 ?a2 ?b2 ?c2 ?d2 ?ho2 ?hn2 ?ht2
      case ea2 => exact amR
      case eb2 => exact amR
      case a2 => exact rfl
      case b2 => exact rfl
      case c2 => exact rfl
      case d2 => exact rfl
      all_goals (try refine amL (h := ?_))
      all_goals (try with_reducible apply True.intro)
      all_goals rfl
    · first | refine CallK.one (implDetRate D.1 _ _ (okDet47 hok.1)) (fun _ => amC) ?_ | refine CallE.one (implDetRate D.1 _ _ (okDet47 hok.1)) (fun _ => amC) rfl ?_ | refine CallG.one rfl (fun hg => implDetRate D.1 _ _ (okDet47 hok.1)) ?_ | refine CallEG.one rfl rfl (fun hg => implDetRate D.1 _ _ (okDet47 hok.1)) ?_ | refine CallCE.one (implDetRate D.1 _ _ (okDet47 hok.1)) (fun _ => amC) rfl ?_
      (try refine am (h := ?_)); (try with_reducible apply True.intro)
      repeat' (first | (with_reducible refine And.intro ?_ ?_) | (with_reducible intro _))
      all_goals try (first | omega | with_reducible rfl | ((with_reducible refine eqId ?_); exact rfl) | with_reducible (first | assumption | exact pl ‹_› | exact pr ‹_› | exact plr ‹_› | exact pll ‹_› | exact prl ‹_› | exact plll ‹_› | exact prll ‹_›))
      first | refine CallK.one (implWindowTotal D.1.drift _ _ (okL_up hok.1.2)) (fun _ => amC) ?_ | refine CallE.one (implWindowTotal D.1.drift _ _ (okL_up hok.1.2)) (fun _ => amC) rfl ?_ | refine CallG.one rfl (fun hg => implWindowTotal D.1.drift _ _ (okL_up hok.1.2)) ?_ | refine CallEG.one rfl rfl (fun hg => implWindowTotal D.1.drift _ _ (okL_up hok.1.2)) ?_ | refine CallCE.one (implWindowTotal D.1.drift _ _ (okL_up hok.1.2)) (fun _ => amC) rfl ?_
      (try refine am (h := ?_)); (try with_reducible apply True.intro)
      have hbd := bk_bd (bkts_ok (l := D.1.drift))
      have hbl := bkts_len (l := D.1.drift)
      repeat' (first | (with_reducible refine And.intro ?_ ?_) | (with_reducible intro _))
      all_goals try (first | omega | with_reducible rfl | ((with_reducible refine eqId ?_); exact rfl) | with_reducible (first | assumption | exact pl ‹_› | exact pr ‹_› | exact plr ‹_› | exact pll ‹_› | exact prl ‹_› | exact plll ‹_› | exact prll ‹_›))
      refine FinK.val1 ?_ ?_
      all_goals (try refine amF (h := ?_))
      all_goals (try with_reducible apply True.intro)
      have e : (detRate D.1).den = bSize (bkts D.1.drift) + 2 := by
        unfold detRate
        rw [if_pos hwok]
        show 2 + bSize (bkts D.1.drift) = _
        omega
      simp [e]
end Go.AM
