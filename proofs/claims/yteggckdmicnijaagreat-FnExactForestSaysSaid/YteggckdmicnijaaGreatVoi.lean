/- Lemmas for the proof of this claim. -/
import Derived.Test.YteggckdmicnijaaGreatMem
namespace Go.AM
open Go Go.Proofs
set_option maxRecDepth 100000
set_option maxHeartbeats 2000000 in
theorem implFracOk (a : DFrac) : ACalls Tryz.prog 190 [.agg (cFrac a)] (fun r => r = .val (.one (.bool (decide ((0 ≤ a.num ∧ a.num ≤ 4000000000000000) ∧ 1 ≤ a.den ∧ a.den ≤ 4000000000000000))))) := by
  have nt : Tryz.f190.ntmps = 11 := rfl
  have rs : Tryz.f190.results = #[.tmp 2] := rfl
  refine ACalls.of_run (m := 400) mixed Tryz.func190 rfl rfl (Nat.le_of_ble_eq_true rfl) ?_
  simp only [nt, rs]
  clear nt rs
  (try refine am (h := ?_)); (try with_reducible apply True.intro)
  repeat' (first | (with_reducible refine And.intro ?_ ?_) | (with_reducible intro _))
  all_goals try (first | omega | with_reducible rfl | ((with_reducible refine eqId ?_); exact rfl) | with_reducible (first | assumption | exact pl ‹_› | exact pr ‹_› | exact plr ‹_› | exact pll ‹_› | exact prl ‹_› | exact plll ‹_› | exact prll ‹_›))
  first | refine CallK.one (within a.num 0 4000000000000000) (fun _ => amC) ?_ | refine CallE.one (within a.num 0 4000000000000000) (fun _ => amC) rfl ?_ | refine CallG.one rfl (fun hg => within a.num 0 4000000000000000) ?_ | refine CallEG.one rfl rfl (fun hg => within a.num 0 4000000000000000) ?_
  (try refine am (h := ?_)); (try with_reducible apply True.intro)
  repeat' (first | (with_reducible refine And.intro ?_ ?_) | (with_reducible intro _))
  all_goals try (first | omega | with_reducible rfl | ((with_reducible refine eqId ?_); exact rfl) | with_reducible (first | assumption | exact pl ‹_› | exact pr ‹_› | exact plr ‹_› | exact pll ‹_› | exact prl ‹_› | exact plll ‹_› | exact prll ‹_›))
  first | refine CallG.one rfl (fun hg => within a.den 1 4000000000000000) ?_ | refine CallEG.one rfl rfl (fun hg => within a.den 1 4000000000000000) ?_
  (try refine am (h := ?_)); (try with_reducible apply True.intro)
  repeat' (first | (with_reducible refine And.intro ?_ ?_) | (with_reducible intro _))
  all_goals try (first | omega | with_reducible rfl | ((with_reducible refine eqId ?_); exact rfl) | with_reducible (first | assumption | exact pl ‹_› | exact pr ‹_› | exact plr ‹_› | exact pll ‹_› | exact prl ‹_› | exact plll ‹_› | exact prll ‹_›))
  refine FinK.val1 ?_ ?_
  all_goals (try refine amF (h := ?_))
  all_goals (try with_reducible apply True.intro)
set_option maxHeartbeats 2000000 in
theorem specFracOk (a : DFrac) : ACalls Tryz.prog 183 [.agg (cFrac a)] (fun r => r = .val (.one (.bool (decide ((0 ≤ a.num ∧ a.num ≤ 4000000000000000) ∧ 1 ≤ a.den ∧ a.den ≤ 4000000000000000))))) := by
  have nt : Tryz.f183.ntmps = 11 := rfl
  have rs : Tryz.f183.results = #[.tmp 2] := rfl
  refine ACalls.of_run (m := 400) mixed Tryz.func183 rfl rfl (Nat.le_of_ble_eq_true rfl) ?_
  simp only [nt, rs]
  clear nt rs
  (try refine am (h := ?_)); (try with_reducible apply True.intro)
  repeat' (first | (with_reducible refine And.intro ?_ ?_) | (with_reducible intro _))
  all_goals try (first | omega | with_reducible rfl | ((with_reducible refine eqId ?_); exact rfl) | with_reducible (first | assumption | exact pl ‹_› | exact pr ‹_› | exact plr ‹_› | exact pll ‹_› | exact prl ‹_› | exact plll ‹_› | exact prll ‹_›))
  first | refine CallK.one (l1In a.num 0 4000000000000000) (fun _ => amC) ?_ | refine CallE.one (l1In a.num 0 4000000000000000) (fun _ => amC) rfl ?_ | refine CallG.one rfl (fun hg => l1In a.num 0 4000000000000000) ?_ | refine CallEG.one rfl rfl (fun hg => l1In a.num 0 4000000000000000) ?_
  (try refine am (h := ?_)); (try with_reducible apply True.intro)
  repeat' (first | (with_reducible refine And.intro ?_ ?_) | (with_reducible intro _))
  all_goals try (first | omega | with_reducible rfl | ((with_reducible refine eqId ?_); exact rfl) | with_reducible (first | assumption | exact pl ‹_› | exact pr ‹_› | exact plr ‹_› | exact pll ‹_› | exact prl ‹_› | exact plll ‹_› | exact prll ‹_›))
  first | refine CallG.one rfl (fun hg => l1In a.den 1 4000000000000000) ?_ | refine CallEG.one rfl rfl (fun hg => l1In a.den 1 4000000000000000) ?_
  (try refine am (h := ?_)); (try with_reducible apply True.intro)
  repeat' (first | (with_reducible refine And.intro ?_ ?_) | (with_reducible intro _))
  all_goals try (first | omega | with_reducible rfl | ((with_reducible refine eqId ?_); exact rfl) | with_reducible (first | assumption | exact pl ‹_› | exact pr ‹_› | exact plr ‹_› | exact pll ‹_› | exact prl ‹_› | exact plll ‹_› | exact prll ‹_›))
  refine FinK.val1 ?_ ?_
  all_goals (try refine amF (h := ?_))
  all_goals (try with_reducible apply True.intro)
theorem thou_bd {a : DFrac} (h1 : 0 ≤ a.num ∧ a.num ≤ a.den) (h2 : 1 ≤ a.den ∧ a.den ≤ 100000) : 0 ≤ (1000 * a.num).tdiv a.den ∧ (1000 * a.num).tdiv a.den ≤ 100000000 := by
  have e : (1000 * a.num).tdiv a.den = (1000 * a.num) / a.den := Int.tdiv_eq_ediv_of_nonneg (by omega)
  have hb := Int.ediv_nonneg (a := 1000 * a.num) (b := a.den) (by omega) (by omega)
  have hc : (1000 * a.num) / a.den ≤ 1000 * a.num := Int.ediv_le_self _ (by omega)
  omega
set_option maxHeartbeats 2000000 in
theorem implThousandths (a : DFrac) (h1 : 0 ≤ a.num ∧ a.num ≤ a.den) (h2 : 1 ≤ a.den ∧ a.den ≤ 100000) : ACalls Tryz.prog 126 [.agg (cFrac a)] (fun r => r = .val (.one (.int .i64 ((1000 * a.num).tdiv a.den)))) := by
  have hb := thou_bd h1 h2
  have nt : Tryz.f126.ntmps = 19 := rfl
  have rs : Tryz.f126.results = #[.tmp 2] := rfl
  refine ACalls.of_run (m := 400) mixed Tryz.func126 rfl rfl (Nat.le_of_ble_eq_true rfl) ?_
  simp only [nt, rs]
  clear nt rs
  (try refine am (h := ?_)); (try with_reducible apply True.intro)
  repeat' (first | (with_reducible refine And.intro ?_ ?_) | (with_reducible intro _))
  all_goals try (first | omega | with_reducible rfl | ((with_reducible refine eqId ?_); exact rfl) | with_reducible (first | assumption | exact pl ‹_› | exact pr ‹_› | exact plr ‹_› | exact pll ‹_› | exact prl ‹_› | exact plll ‹_› | exact prll ‹_›))
  first | refine CallK.one (implFracOk a) (fun _ => amC) ?_ | refine CallE.one (implFracOk a) (fun _ => amC) rfl ?_ | refine CallG.one rfl (fun hg => implFracOk a) ?_ | refine CallEG.one rfl rfl (fun hg => implFracOk a) ?_
  (try refine am (h := ?_)); (try with_reducible apply True.intro)
  repeat' (first | (with_reducible refine And.intro ?_ ?_) | (with_reducible intro _))
  all_goals try (first | omega | with_reducible rfl | ((with_reducible refine eqId ?_); exact rfl) | with_reducible (first | assumption | exact pl ‹_› | exact pr ‹_› | exact plr ‹_› | exact pll ‹_› | exact prl ‹_› | exact plll ‹_› | exact prll ‹_›))
  refine FinK.val1 ?_ ?_
  all_goals (try refine amF (h := ?_))
  all_goals (try with_reducible apply True.intro)
set_option maxHeartbeats 2000000 in
theorem specThousandths (a : DFrac) (h1 : 0 ≤ a.num ∧ a.num ≤ a.den) (h2 : 1 ≤ a.den ∧ a.den ≤ 100000) : ACalls Tryz.prog 120 [.agg (cFrac a)] (fun r => r = .val (.one (.int .i64 ((1000 * a.num).tdiv a.den)))) := by
  have hb := thou_bd h1 h2
  have e : a.num * 1000 = 1000 * a.num := Int.mul_comm _ _
  have nt : Tryz.f120.ntmps = 19 := rfl
  have rs : Tryz.f120.results = #[.tmp 2] := rfl
  refine ACalls.of_run (m := 400) mixed Tryz.func120 rfl rfl (Nat.le_of_ble_eq_true rfl) ?_
  simp only [nt, rs]
  clear nt rs
  (try refine am (h := ?_)); (try with_reducible apply True.intro)
  repeat' (first | (with_reducible refine And.intro ?_ ?_) | (with_reducible intro _))
  all_goals try (first | omega | with_reducible rfl | ((with_reducible refine eqId ?_); exact rfl) | with_reducible (first | assumption | exact pl ‹_› | exact pr ‹_› | exact plr ‹_› | exact pll ‹_› | exact prl ‹_› | exact plll ‹_› | exact prll ‹_›))
  first | refine CallK.one (specFracOk a) (fun _ => amC) ?_ | refine CallE.one (specFracOk a) (fun _ => amC) rfl ?_ | refine CallG.one rfl (fun hg => specFracOk a) ?_ | refine CallEG.one rfl rfl (fun hg => specFracOk a) ?_
  (try refine am (h := ?_)); (try with_reducible apply True.intro)
  (try refine am (h := ?_)); (try simp only [e]); (try refine am (h := ?_)); (try with_reducible apply True.intro)
  repeat' (first | (with_reducible refine And.intro ?_ ?_) | (with_reducible intro _))
  all_goals try (first | omega | with_reducible rfl | ((with_reducible refine eqId ?_); exact rfl) | with_reducible (first | assumption | exact pl ‹_› | exact pr ‹_› | exact plr ‹_› | exact pll ‹_› | exact prl ‹_› | exact plll ‹_› | exact prll ‹_›))
  refine FinK.val1 ?_ ?_
  all_goals (try refine amF (h := ?_))
  all_goals (try with_reducible apply True.intro)
def voice (w : List (List Int)) : Int := (1000 * (1 + bSize (bkts w) - bOnes (bkts w))).tdiv (2 + bSize (bkts w))
def voicesL (f : DForest) : List Int := f.members.map fun m => voice m.det.drift
def voicesA (c : DConf) (f : DForest) : List Int := if forestOk c f then voicesL f else []
theorem voicesL_get (f : DForest) {i : Nat} (h : i < f.members.length) : (voicesL f).getD i 0 = voice (f.members.getD i default).det.drift := by
  rw [List.getD_eq_getElem?_getD]
  simp [voicesL, h, List.getD]
theorem voicesL_len (f : DForest) : (voicesL f).length = f.members.length := by simp [voicesL]
theorem voicesL_take (f : DForest) {i : Nat} (h : i < f.members.length) : (voicesL f).take (i + 1) = (voicesL f).take i ++ [voice (f.members.getD i default).det.drift] := by
  rw [take_succ (d := (0 : Int)) (by rw [voicesL_len]; exact h), voicesL_get f h]
theorem bk_facts (w : List (List Int)) : 0 ≤ bOnes (bkts w) ∧ bOnes (bkts w) ≤ bSize (bkts w) ∧ bSize (bkts w) ≤ 3072 := by
  have h := bk_bd (bkts_ok (l := w))
  have hl := bkts_len (l := w)
  refine ⟨h.1, h.2.1, ?_⟩
  have := h.2.2
  omega
set_option maxHeartbeats 4000000 in
theorem implVoices (c : DConf) (f : DForest) (u v u' v' : Bool) (h : okConf (2 ^ 47) c) (hf : okForest (2 ^ 47) f) (hz : zForest f ≤ 2 ^ 40) : ACalls Tryz.prog 52 [.agg (cConf u v c), .agg (cForest u' v' f)] (fun r => r = .val (.one (aI true (voicesA c f)))) := by
  have hlen : f.members.length ≤ 2 ^ 40 := by unfold zForest zMemberS at hz; omega
  have nt : Tryz.f52.ntmps = 41 := rfl
  have rs : Tryz.f52.results = #[.tmp 4] := rfl
  refine ACalls.of_run (m := 400) mixed Tryz.func52 rfl rfl (Nat.le_of_ble_eq_true rfl) ?_
  simp only [nt, rs]
  clear nt rs
  (try refine am (h := ?_)); (try with_reducible apply True.intro)
  repeat' (first | (with_reducible refine And.intro ?_ ?_) | (with_reducible intro _))
  all_goals try (first | omega | with_reducible rfl | ((with_reducible refine eqId ?_); exact rfl) | with_reducible (first | assumption | exact pl ‹_› | exact pr ‹_› | exact plr ‹_› | exact pll ‹_› | exact prl ‹_› | exact plll ‹_› | exact prll ‹_›))
  first | refine CallK.one (implForestOk c f _ _ _ _ h hf hz) (fun _ => amC) ?_ | refine CallE.one (implForestOk c f _ _ _ _ h hf hz) (fun _ => amC) rfl ?_ | refine CallG.one rfl (fun hg => implForestOk c f _ _ _ _ h hf hz) ?_ | refine CallEG.one rfl rfl (fun hg => implForestOk c f _ _ _ _ h hf hz) ?_
  (try refine am (h := ?_)); (try with_reducible apply True.intro)
  refine ⟨fun hs => ?_, fun hs => ?_⟩
  · have e : voicesA c f = [] := if_neg hs
    rw [e]
    repeat' (first | (with_reducible refine And.intro ?_ ?_) | (with_reducible intro _))
    all_goals try (first | omega | with_reducible rfl | ((with_reducible refine eqId ?_); exact rfl) | with_reducible (first | assumption | exact pl ‹_› | exact pr ‹_› | exact plr ‹_› | exact pll ‹_› | exact prl ‹_› | exact plll ‹_› | exact prll ‹_›))
    refine FinK.val1 ?_ ?_
    all_goals (try refine amF (h := ?_))
    all_goals (try with_reducible apply True.intro)
    exact .nil _ _ _ _ _
  have e : voicesA c f = voicesL f := if_pos hs
  rw [e]
  repeat' (first | (with_reducible refine And.intro ?_ ?_) | (with_reducible intro _))
  all_goals try (first | omega | with_reducible rfl | ((with_reducible refine eqId ?_); exact rfl) | with_reducible (first | assumption | exact pl ‹_› | exact pr ‹_› | exact plr ‹_› | exact pll ‹_› | exact prl ‹_› | exact plll ‹_› | exact prll ‹_›))
  refine LoopK.auto (Nat) (fun i => [(17, .one (.av (.int .i64 i))), (5, .one (.own 302 [] [0]))]) (fun i => [(302, ⟨.sl true none 1 ((voicesL f).take i).length (fI ((voicesL f).take i)), []⟩)]) [15, 16] (k0 := ?k01) (keepH := ?kh1) 400 (fun i => i ≤ f.members.length) (fun i => f.members.length - i) (0) ?kea1 ?keb1 ?_ ?_ ?_
  case kea1 => exact amN
  case keb1 => exact amN
  · exact Nat.zero_le _
  · refine Le.auto [] (r0 := ?r01) (ren := ?ren1) ?ea1 ?eb1 ?a1 ?b1 ?c1 ?d1 ?ho1 ?hn1 ?ht1
    case ea1 => exact amR
    case eb1 => exact amR
    case a1 => exact rfl
    case b1 => exact rfl
    case c1 => exact rfl
    case d1 => exact rfl
    all_goals (try refine amL (h := ?_))
    all_goals (try with_reducible apply True.intro)
    exact ALe.of (.inl rfl) rfl (fun i hi => by simp at hi)
  · intro i hi
    have hL : ((voicesL f).take i).length = i := by rw [List.length_take, voicesL_len]; omega
    (try refine am (h := ?_)); (try with_reducible apply True.intro)
    refine ⟨fun hlt => ?_, fun hlt => ?_⟩
    · obtain ⟨hb1, hb2, hb3⟩ := bk_facts (f.members.getD i default).det.drift
      have hw := (hf.2 _ (getD_mem (d := default) hlt)).2.2.2.2
      repeat' (first | (with_reducible refine And.intro ?_ ?_) | (with_reducible intro _))
      all_goals try (first | omega | with_reducible rfl | ((with_reducible refine eqId ?_); exact rfl) | with_reducible (first | assumption | exact pl ‹_› | exact pr ‹_› | exact plr ‹_› | exact pll ‹_› | exact prl ‹_› | exact plll ‹_› | exact prll ‹_›))
      first | refine CallK.one (implWindowTotal (f.members.getD i default).det.drift _ _ hw) (fun _ => amC) ?_ | refine CallE.one (implWindowTotal (f.members.getD i default).det.drift _ _ hw) (fun _ => amC) rfl ?_ | refine CallG.one rfl (fun hg => implWindowTotal (f.members.getD i default).det.drift _ _ hw) ?_ | refine CallEG.one rfl rfl (fun hg => implWindowTotal (f.members.getD i default).det.drift _ _ hw) ?_
      (try refine am (h := ?_)); (try with_reducible apply True.intro)
      repeat' (first | (with_reducible refine And.intro ?_ ?_) | (with_reducible intro _))
      all_goals try (first | omega | with_reducible rfl | ((with_reducible refine eqId ?_); exact rfl) | with_reducible (first | assumption | exact pl ‹_› | exact pr ‹_› | exact plr ‹_› | exact pll ‹_› | exact prl ‹_› | exact plll ‹_› | exact prll ‹_›))
      first | refine CallK.one (implWindowOnes (f.members.getD i default).det.drift _ _ hw) (fun _ => amC) ?_ | refine CallE.one (implWindowOnes (f.members.getD i default).det.drift _ _ hw) (fun _ => amC) rfl ?_ | refine CallG.one rfl (fun hg => implWindowOnes (f.members.getD i default).det.drift _ _ hw) ?_ | refine CallEG.one rfl rfl (fun hg => implWindowOnes (f.members.getD i default).det.drift _ _ hw) ?_
      (try refine am (h := ?_)); (try with_reducible apply True.intro)
      repeat' (first | (with_reducible refine And.intro ?_ ?_) | (with_reducible intro _))
      all_goals try (first | omega | with_reducible rfl | ((with_reducible refine eqId ?_); exact rfl) | with_reducible (first | assumption | exact pl ‹_› | exact pr ‹_› | exact plr ‹_› | exact pll ‹_› | exact prl ‹_› | exact plll ‹_› | exact prll ‹_›))
      first | refine CallK.one (implThousandths ⟨1 + bSize (bkts (f.members.getD i default).det.drift) - bOnes (bkts (f.members.getD i default).det.drift), 2 + bSize (bkts (f.members.getD i default).det.drift)⟩ (by dsimp only; omega) (by dsimp only; omega)) (fun _ => amC) ?_ | refine CallE.one (implThousandths ⟨1 + bSize (bkts (f.members.getD i default).det.drift) - bOnes (bkts (f.members.getD i default).det.drift), 2 + bSize (bkts (f.members.getD i default).det.drift)⟩ (by dsimp only; omega) (by dsimp only; omega)) (fun _ => amC) rfl ?_ | refine CallG.one rfl (fun hg => implThousandths ⟨1 + bSize (bkts (f.members.getD i default).det.drift) - bOnes (bkts (f.members.getD i default).det.drift), 2 + bSize (bkts (f.members.getD i default).det.drift)⟩ (by dsimp only; omega) (by dsimp only; omega)) ?_ | refine CallEG.one rfl rfl (fun hg => implThousandths ⟨1 + bSize (bkts (f.members.getD i default).det.drift) - bOnes (bkts (f.members.getD i default).det.drift), 2 + bSize (bkts (f.members.getD i default).det.drift)⟩ (by dsimp only; omega) (by dsimp only; omega)) ?_
      (try refine am (h := ?_)); (try with_reducible apply True.intro)
      repeat' (first | (with_reducible refine And.intro ?_ ?_) | (with_reducible intro _))
      all_goals try (first | omega | with_reducible rfl | ((with_reducible refine eqId ?_); exact rfl) | with_reducible (first | assumption | exact pl ‹_› | exact pr ‹_› | exact plr ‹_› | exact pll ‹_› | exact prl ‹_› | exact plll ‹_› | exact prll ‹_›))
      refine ⟨i + 1, ?_, by omega, by omega⟩
      refine Le.auto [] (r0 := ?r02) (ren := ?ren2) ?ea2 ?eb2 ?a2 ?b2 ?c2 ?d2 ?ho2 ?hn2 ?ht2
      case ea2 => exact amR
      case eb2 => exact amR
      case a2 => exact rfl
      case b2 => exact rfl
      case c2 => exact rfl
      case d2 => exact rfl
      all_goals (try refine amL (h := ?_))
      all_goals (try with_reducible apply True.intro)
      exact appLe1 (x := voice (f.members.getD i default).det.drift) (voicesL_take f hlt) rfl (.inl rfl)
    · have ei : (voicesL f).take i = voicesL f := List.take_of_length_le (by rw [voicesL_len]; omega)
      refine FinK.val1 ?_ ?_
      all_goals (try refine amF (h := ?_))
      all_goals (try with_reducible apply True.intro)
      rw [ei]
      exact .refl _
set_option maxHeartbeats 4000000 in
theorem specVoices (c : DConf) (f : DForest) (u v u' v' : Bool) (h : okConf (2 ^ 47) c) (hf : okForest (2 ^ 47) f) (hz : zForest f ≤ 2 ^ 40) : ACalls Tryz.prog 50 [.agg (cConf u v c), .agg (cForest u' v' f)] (fun r => r = .val (.one (aI true (voicesA c f)))) := by
  have hlen : f.members.length ≤ 2 ^ 40 := by unfold zForest zMemberS at hz; omega
  have nt : Tryz.f50.ntmps = 43 := rfl
  have rs : Tryz.f50.results = #[.tmp 4] := rfl
  refine ACalls.of_run (m := 400) mixed Tryz.func50 rfl rfl (Nat.le_of_ble_eq_true rfl) ?_
  simp only [nt, rs]
  clear nt rs
  (try refine am (h := ?_)); (try with_reducible apply True.intro)
  repeat' (first | (with_reducible refine And.intro ?_ ?_) | (with_reducible intro _))
  all_goals try (first | omega | with_reducible rfl | ((with_reducible refine eqId ?_); exact rfl) | with_reducible (first | assumption | exact pl ‹_› | exact pr ‹_› | exact plr ‹_› | exact pll ‹_› | exact prl ‹_› | exact plll ‹_› | exact prll ‹_›))
  first | refine CallK.one (specForestOk c f _ _ _ _ h hf hz) (fun _ => amC) ?_ | refine CallE.one (specForestOk c f _ _ _ _ h hf hz) (fun _ => amC) rfl ?_ | refine CallG.one rfl (fun hg => specForestOk c f _ _ _ _ h hf hz) ?_ | refine CallEG.one rfl rfl (fun hg => specForestOk c f _ _ _ _ h hf hz) ?_
  (try refine am (h := ?_)); (try with_reducible apply True.intro)
  refine ⟨fun hs => ?_, fun hs => ?_⟩
  · have e : voicesA c f = [] := if_neg hs
    rw [e]
    repeat' (first | (with_reducible refine And.intro ?_ ?_) | (with_reducible intro _))
    all_goals try (first | omega | with_reducible rfl | ((with_reducible refine eqId ?_); exact rfl) | with_reducible (first | assumption | exact pl ‹_› | exact pr ‹_› | exact plr ‹_› | exact pll ‹_› | exact prl ‹_› | exact plll ‹_› | exact prll ‹_›))
    refine FinK.val1 ?_ ?_
    all_goals (try refine amF (h := ?_))
    all_goals (try with_reducible apply True.intro)
    exact ALe.of (.inl rfl) rfl (fun i hi => by simp at hi)
  have e : voicesA c f = voicesL f := if_pos hs
  rw [e]
  repeat' (first | (with_reducible refine And.intro ?_ ?_) | (with_reducible intro _))
  all_goals try (first | omega | with_reducible rfl | ((with_reducible refine eqId ?_); exact rfl) | with_reducible (first | assumption | exact pl ‹_› | exact pr ‹_› | exact plr ‹_› | exact pll ‹_› | exact prl ‹_› | exact plll ‹_› | exact prll ‹_›))
  refine LoopK.auto (Nat) (fun i => [(6, .one (.av (.int .i64 i))), (5, .one (.own 302 [] [0]))]) (fun i => [(302, ⟨.sl true none 1 ((voicesL f).take i).length (fI ((voicesL f).take i)), []⟩)]) [3] (k0 := ?k02) (keepH := ?kh2) 400 (fun i => i ≤ f.members.length) (fun i => f.members.length - i) (0) ?kea2 ?keb2 ?_ ?_ ?_
  case kea2 => exact amN
  case keb2 => exact amN
  · exact Nat.zero_le _
  · refine Le.auto [] (r0 := ?r03) (ren := ?ren3) ?ea3 ?eb3 ?a3 ?b3 ?c3 ?d3 ?ho3 ?hn3 ?ht3
    case ea3 => exact amR
    case eb3 => exact amR
    case a3 => exact rfl
    case b3 => exact rfl
    case c3 => exact rfl
    case d3 => exact rfl
    all_goals (try refine amL (h := ?_))
    all_goals (try with_reducible apply True.intro)
    exact ALe.of (.inl rfl) rfl (fun i hi => by simp at hi)
  · intro i hi
    have hL : ((voicesL f).take i).length = i := by rw [List.length_take, voicesL_len]; omega
    (try refine am (h := ?_)); (try with_reducible apply True.intro)
    refine ⟨fun hlt => ?_, fun hlt => ?_⟩
    · obtain ⟨hb1, hb2, hb3⟩ := bk_facts (f.members.getD i default).det.drift
      have hw := (hf.2 _ (getD_mem (d := default) hlt)).2.2.2.2
      have e1 : bSize (bkts (f.members.getD i default).det.drift) - bOnes (bkts (f.members.getD i default).det.drift) + 1 = 1 + bSize (bkts (f.members.getD i default).det.drift) - bOnes (bkts (f.members.getD i default).det.drift) := by omega
      have e2 : bSize (bkts (f.members.getD i default).det.drift) + 2 = 2 + bSize (bkts (f.members.getD i default).det.drift) := by omega
      repeat' (first | (with_reducible refine And.intro ?_ ?_) | (with_reducible intro _))
      all_goals try (first | omega | with_reducible rfl | ((with_reducible refine eqId ?_); exact rfl) | with_reducible (first | assumption | exact pl ‹_› | exact pr ‹_› | exact plr ‹_› | exact pll ‹_› | exact prl ‹_› | exact plll ‹_› | exact prll ‹_›))
      first | refine CallK.one (specWindowTotal (f.members.getD i default).det.drift _ _ hw) (fun _ => amC) ?_ | refine CallE.one (specWindowTotal (f.members.getD i default).det.drift _ _ hw) (fun _ => amC) rfl ?_ | refine CallG.one rfl (fun hg => specWindowTotal (f.members.getD i default).det.drift _ _ hw) ?_ | refine CallEG.one rfl rfl (fun hg => specWindowTotal (f.members.getD i default).det.drift _ _ hw) ?_
      (try refine am (h := ?_)); (try with_reducible apply True.intro)
      repeat' (first | (with_reducible refine And.intro ?_ ?_) | (with_reducible intro _))
      all_goals try (first | omega | with_reducible rfl | ((with_reducible refine eqId ?_); exact rfl) | with_reducible (first | assumption | exact pl ‹_› | exact pr ‹_› | exact plr ‹_› | exact pll ‹_› | exact prl ‹_› | exact plll ‹_› | exact prll ‹_›))
      first | refine CallK.one (specWindowOnes (f.members.getD i default).det.drift _ _ hw) (fun _ => amC) ?_ | refine CallE.one (specWindowOnes (f.members.getD i default).det.drift _ _ hw) (fun _ => amC) rfl ?_ | refine CallG.one rfl (fun hg => specWindowOnes (f.members.getD i default).det.drift _ _ hw) ?_ | refine CallEG.one rfl rfl (fun hg => specWindowOnes (f.members.getD i default).det.drift _ _ hw) ?_
      (try refine am (h := ?_)); (try with_reducible apply True.intro)
      repeat' (first | (with_reducible refine And.intro ?_ ?_) | (with_reducible intro _))
      all_goals try (first | omega | with_reducible rfl | ((with_reducible refine eqId ?_); exact rfl) | with_reducible (first | assumption | exact pl ‹_› | exact pr ‹_› | exact plr ‹_› | exact pll ‹_› | exact prl ‹_› | exact plll ‹_› | exact prll ‹_›))
      first | refine CallK.one (specWindowTotal (f.members.getD i default).det.drift _ _ hw) (fun _ => amC) ?_ | refine CallE.one (specWindowTotal (f.members.getD i default).det.drift _ _ hw) (fun _ => amC) rfl ?_ | refine CallG.one rfl (fun hg => specWindowTotal (f.members.getD i default).det.drift _ _ hw) ?_ | refine CallEG.one rfl rfl (fun hg => specWindowTotal (f.members.getD i default).det.drift _ _ hw) ?_
      (try refine am (h := ?_)); (try with_reducible apply True.intro)
      (try refine am (h := ?_)); (try simp only [e1, e2]); (try refine am (h := ?_)); (try with_reducible apply True.intro)
      repeat' (first | (with_reducible refine And.intro ?_ ?_) | (with_reducible intro _))
      all_goals try (first | omega | with_reducible rfl | ((with_reducible refine eqId ?_); exact rfl) | with_reducible (first | assumption | exact pl ‹_› | exact pr ‹_› | exact plr ‹_› | exact pll ‹_› | exact prl ‹_› | exact plll ‹_› | exact prll ‹_›))
      first | refine CallK.one (specThousandths ⟨1 + bSize (bkts (f.members.getD i default).det.drift) - bOnes (bkts (f.members.getD i default).det.drift), 2 + bSize (bkts (f.members.getD i default).det.drift)⟩ (by dsimp only; omega) (by dsimp only; omega)) (fun _ => amC) ?_ | refine CallE.one (specThousandths ⟨1 + bSize (bkts (f.members.getD i default).det.drift) - bOnes (bkts (f.members.getD i default).det.drift), 2 + bSize (bkts (f.members.getD i default).det.drift)⟩ (by dsimp only; omega) (by dsimp only; omega)) (fun _ => amC) rfl ?_ | refine CallG.one rfl (fun hg => specThousandths ⟨1 + bSize (bkts (f.members.getD i default).det.drift) - bOnes (bkts (f.members.getD i default).det.drift), 2 + bSize (bkts (f.members.getD i default).det.drift)⟩ (by dsimp only; omega) (by dsimp only; omega)) ?_ | refine CallEG.one rfl rfl (fun hg => specThousandths ⟨1 + bSize (bkts (f.members.getD i default).det.drift) - bOnes (bkts (f.members.getD i default).det.drift), 2 + bSize (bkts (f.members.getD i default).det.drift)⟩ (by dsimp only; omega) (by dsimp only; omega)) ?_
      (try refine am (h := ?_)); (try with_reducible apply True.intro)
      repeat' (first | (with_reducible refine And.intro ?_ ?_) | (with_reducible intro _))
      all_goals try (first | omega | with_reducible rfl | ((with_reducible refine eqId ?_); exact rfl) | with_reducible (first | assumption | exact pl ‹_› | exact pr ‹_› | exact plr ‹_› | exact pll ‹_› | exact prl ‹_› | exact plll ‹_› | exact prll ‹_›))
      refine ⟨i + 1, ?_, by omega, by omega⟩
      refine Le.auto [] (r0 := ?r04) (ren := ?ren4) ?ea4 ?eb4 ?a4 ?b4 ?c4 ?d4 ?ho4 ?hn4 ?ht4
      case ea4 => exact amR
      case eb4 => exact amR
      case a4 => exact rfl
      case b4 => exact rfl
      case c4 => exact rfl
      case d4 => exact rfl
      all_goals (try refine amL (h := ?_))
      all_goals (try with_reducible apply True.intro)
      exact appLe1 (x := voice (f.members.getD i default).det.drift) (voicesL_take f hlt) rfl (.inl rfl)
    · have ei : (voicesL f).take i = voicesL f := List.take_of_length_le (by rw [voicesL_len]; omega)
      refine FinK.val1 ?_ ?_
      all_goals (try refine amF (h := ?_))
      all_goals (try with_reducible apply True.intro)
      rw [ei]
      exact .refl _
theorem voicesA_ok (c : DConf) (f : DForest) (hl : f.members.length ≤ 2 ^ 40) : okI (2 ^ 47) (voicesA c f) := by
  unfold voicesA
  split
  · refine ⟨by rw [voicesL_len]; omega, fun x hx => ?_⟩
    unfold voicesL at hx
    obtain ⟨m, _, rfl⟩ := List.mem_map.1 hx
    obtain ⟨hb1, hb2, hb3⟩ := bk_facts m.det.drift
    have := thou_bd (a := ⟨1 + bSize (bkts m.det.drift) - bOnes (bkts m.det.drift), 2 + bSize (bkts m.det.drift)⟩) (by dsimp only; omega) (by dsimp only; omega)
    unfold voice
    rw [inKi]
    dsimp only at this
    omega
  · exact ⟨Nat.zero_le _, fun x hx => by simp at hx⟩
end Go.AM
