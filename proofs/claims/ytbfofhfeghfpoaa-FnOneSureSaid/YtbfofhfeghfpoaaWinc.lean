/- Lemmas for the proof of this claim. -/
import Derived.Test.YtbfofhfeghfpoaaWinb
import Derived.Test.YtbfofhfeghfpoaaWina
import Derived.Test.YtbfofhfeghfpoaaWlib
namespace Go.AM
open Go Go.Proofs
set_option maxRecDepth 100000
end Go.AM
namespace Go.AM
open Go Go.Proofs
set_option maxRecDepth 100000
theorem okL47 {m : List (List Int)} (hm : okL (2 ^ 40) m) : okL (2 ^ 47) m := ⟨by have := hm.1; omega, fun r hr => ⟨by have := (hm.2 r hr).1; omega, (hm.2 r hr).2⟩⟩
theorem bk3072 (m : List (List Int)) : (0 ≤ bOnes (bkts m) ∧ bOnes (bkts m) ≤ 3072) ∧ (0 ≤ bSize (bkts m) ∧ bSize (bkts m) ≤ 3072) := by
  have h1 := bkts_len (l := m)
  have h2 := bk_bd (bkts_ok (l := m))
  omega
set_option maxHeartbeats 8000000 in
theorem implShrink (l : List (List Int)) (k : Int) (u v : Bool) (h : okL (2 ^ 40) l) (hk : inK .i64 k) : ACalls Try.prog 28 [.agg [aL u v l], .one (.int .i64 k)] (fun r => r = .tup [.agg [aL true true (shrink l k).1], .one (.int .i64 (shrink l k).2)]) := by
  have hl := h.1
  have nt : Try.f28.ntmps = 23 := rfl
  have rs : Try.f28.results = #[.cell 4 50, .tmp 5] := rfl
  refine ACalls.of_run (m := 400) mixed Try.func28 rfl rfl (Nat.le_of_ble_eq_true rfl) ?_
  simp only [nt, rs]
  clear nt rs
  (try refine am (h := ?_)); (try with_reducible apply True.intro)
  first | refine CallK.one (cloneWindowI l _ _ h) (fun _ => amC) ?_ | refine CallE.one (cloneWindowI l _ _ h) (fun _ => amC) rfl ?_ | refine CallG.one rfl (fun hg => cloneWindowI l _ _ h) ?_ | refine CallEG.one rfl rfl (fun hg => cloneWindowI l _ _ h) ?_ | refine CallCE.one (cloneWindowI l _ _ h) (fun _ => amC) rfl ?_
  (try refine am (h := ?_)); (try with_reducible apply True.intro)
  repeat' (first | (with_reducible refine And.intro ?_ ?_) | (with_reducible intro _))
  all_goals try (first | omega | with_reducible rfl | ((with_reducible refine eqId ?_); exact rfl) | with_reducible (first | assumption | exact pl ‹_› | exact pr ‹_› | exact plr ‹_› | exact pll ‹_› | exact prl ‹_› | exact plll ‹_› | exact prll ‹_›))
  refine LoopK.auto ((List (List Int) × Nat)) (fun p => [(7, .one (.av (.int .i64 p.2))), (6, .one (.ref 302 [] [0] 0 0))]) (fun p => [(302, ⟨.sl true none 1 1 (fun _ _ => .sl true none 1 p.1.length (fL true p.1)), []⟩)]) [1, 4] (k0 := ?k01) (keepH := ?kh1) 400 (fun p => shInv l k p) (fun p => wMu p.1) ((l, 0)) ?kea1 ?keb1 ?_ ?_ ?_
  case kea1 => exact amN
  case keb1 => exact amN
  · exact shInv_start h
  · refine Le.auto [] (r0 := ?r01) (ren := ?ren1) ?ea1 ?eb1 ?a1 ?b1 ?c1 ?d1 ?ho1 ?hn1 ?ht1
    case ea1 => exact amR
    case eb1 => exact amR
    case a1 => exact rfl
    case b1 => exact rfl
    case c1 => exact rfl
    case d1 => exact rfl
    all_goals (try refine amL (h := ?_))
    all_goals (try with_reducible apply True.intro)
    exact boxLe (.refl _)
  · rintro ⟨m, n⟩ hinv
    have hm : okL (2 ^ 40) m := hinv.1
    have hn : n ≤ 24 := by
      rcases hinv.2.1 with h0 | h0
      · have : n = 0 := h0
        omega
      · have : n + wMu m ≤ 24 := h0.2
        omega
    have hnn := cutAt_nn (l := m) (k := k)
    (try refine am (h := ?_)); (try with_reducible apply True.intro)
    first | refine CallK.one (implCutAt m k _ _ (okL47 hm) hk) (fun _ => amC) ?_ | refine CallE.one (implCutAt m k _ _ (okL47 hm) hk) (fun _ => amC) rfl ?_ | refine CallG.one rfl (fun hg => implCutAt m k _ _ (okL47 hm) hk) ?_ | refine CallEG.one rfl rfl (fun hg => implCutAt m k _ _ (okL47 hm) hk) ?_ | refine CallCE.one (implCutAt m k _ _ (okL47 hm) hk) (fun _ => amC) rfl ?_
    (try refine am (h := ?_)); (try with_reducible apply True.intro)
    repeat' (first | (with_reducible refine And.intro ?_ ?_) | (with_reducible intro _))
    all_goals try (first | omega | with_reducible rfl | ((with_reducible refine eqId ?_); exact rfl) | with_reducible (first | assumption | exact pl ‹_› | exact pr ‹_› | exact plr ‹_› | exact pll ‹_› | exact prl ‹_› | exact plll ‹_› | exact prll ‹_›))
    · have hc : cutAt m k ≠ 0 := by omega
      first | refine CallK.one (implWindowDrop m _ _ hm) (fun _ => amC) ?_ | refine CallE.one (implWindowDrop m _ _ hm) (fun _ => amC) rfl ?_ | refine CallG.one rfl (fun hg => implWindowDrop m _ _ hm) ?_ | refine CallEG.one rfl rfl (fun hg => implWindowDrop m _ _ hm) ?_ | refine CallCE.one (implWindowDrop m _ _ hm) (fun _ => amC) rfl ?_
      (try refine am (h := ?_)); (try with_reducible apply True.intro)
      repeat' (first | (with_reducible refine And.intro ?_ ?_) | (with_reducible intro _))
      all_goals try (first | omega | with_reducible rfl | ((with_reducible refine eqId ?_); exact rfl) | with_reducible (first | assumption | exact pl ‹_› | exact pr ‹_› | exact plr ‹_› | exact pll ‹_› | exact prl ‹_› | exact plll ‹_› | exact prll ‹_›))
      refine ⟨(wDropA m, n + 1), ?_, shInv_step hinv hc, (wDropA_cut hc).2.2⟩
      refine Le.auto [] (r0 := ?r02) (ren := ?ren2) ?ea2 ?eb2 ?a2 ?b2 ?c2 ?d2 ?ho2 ?hn2 ?ht2
      case ea2 => exact amR
      case eb2 => exact amR
      case a2 => exact rfl
      case b2 => exact rfl
      case c2 => exact rfl
      case d2 => exact rfl
      all_goals (try refine amL (h := ?_))
      all_goals (try with_reducible apply True.intro)
      all_goals (first | exact boxLe (.refl _))
    · have hc : cutAt m k = 0 := by omega
      have he := shInv_end hinv hc
      rw [he.1]
      refine FinK.tup ?_ ?_
      all_goals (try refine amF (h := ?_))
      all_goals (try with_reducible apply True.intro)
set_option maxHeartbeats 8000000 in
theorem implWindowStep (l : List (List Int)) (bit k : Int) (u v : Bool) (h : okL (2 ^ 40) l) (hbit : inK .i64 bit) (hk : inK .i64 k) : ACalls Try.prog 107 [.agg [aL u v l], .one (.int .i64 bit), .one (.int .i64 k)] (fun r => r = .tup [.agg [aL true true (wsWin l bit k)], .one (.bool (wsRose l bit k)), .one (.bool (wsOk l bit k))]) := by
  have hl := h.1
  have ha := wAddA_ok (bit := bit) h
  have hs := shrink_ok (k := k) ha
  have b1 := bk3072 (wAddA l bit)
  have b2 := bk3072 (shrink (wAddA l bit) k).1
  have b3 := mul_bd b2.1 b1.2
  have b4 := mul_bd b1.1 b2.2
  have nt : Try.f107.ntmps = 52 := rfl
  have rs : Try.f107.results = #[.cell 6 50, .tmp 7, .tmp 8] := rfl
  refine ACalls.of_run (m := 400) mixed Try.func107 rfl rfl (Nat.le_of_ble_eq_true rfl) ?_
  simp only [nt, rs]
  clear nt rs
  (try refine am (h := ?_)); (try with_reducible apply True.intro)
  first | refine CallK.one (implWindowAdd l bit _ _ h hbit) (fun _ => amC) ?_ | refine CallE.one (implWindowAdd l bit _ _ h hbit) (fun _ => amC) rfl ?_ | refine CallG.one rfl (fun hg => implWindowAdd l bit _ _ h hbit) ?_ | refine CallEG.one rfl rfl (fun hg => implWindowAdd l bit _ _ h hbit) ?_ | refine CallCE.one (implWindowAdd l bit _ _ h hbit) (fun _ => amC) rfl ?_
  (try refine am (h := ?_)); (try with_reducible apply True.intro)
  repeat' (first | (with_reducible refine And.intro ?_ ?_) | (with_reducible intro _))
  all_goals try (first | omega | with_reducible rfl | ((with_reducible refine eqId ?_); exact rfl) | with_reducible (first | assumption | exact pl ‹_› | exact pr ‹_› | exact plr ‹_› | exact pll ‹_› | exact prl ‹_› | exact plll ‹_› | exact prll ‹_›))
  first | refine CallG.one rfl (fun hg => within k 1 9) ?_ | refine CallEG.one rfl rfl (fun hg => within k 1 9) ?_
  (try refine am (h := ?_)); (try with_reducible apply True.intro)
  repeat' (first | (with_reducible refine And.intro ?_ ?_) | (with_reducible intro _))
  all_goals try (first | omega | with_reducible rfl | ((with_reducible refine eqId ?_); exact rfl) | with_reducible (first | assumption | exact pl ‹_› | exact pr ‹_› | exact plr ‹_› | exact pll ‹_› | exact prl ‹_› | exact plll ‹_› | exact prll ‹_›))
  · rename_i hc
    have e : wsOk l bit k = false := by
      unfold wsOk
      rcases hc with hc | hc
      · rw [hc]; rfl
      · rw [decide_eq_false hc, Bool.and_false]
    have e2 : wsWin l bit k = l := by unfold wsWin; rw [e]; rfl
    have e3 : wsRose l bit k = false := by unfold wsRose; rw [e]; rfl
    rw [e, e2, e3]
    first | refine CallK.one (cloneWindowI l _ _ h) (fun _ => amC) ?_ | refine CallE.one (cloneWindowI l _ _ h) (fun _ => amC) rfl ?_ | refine CallG.one rfl (fun hg => cloneWindowI l _ _ h) ?_ | refine CallEG.one rfl rfl (fun hg => cloneWindowI l _ _ h) ?_ | refine CallCE.one (cloneWindowI l _ _ h) (fun _ => amC) rfl ?_
    (try refine am (h := ?_)); (try with_reducible apply True.intro)
    repeat' (first | (with_reducible refine And.intro ?_ ?_) | (with_reducible intro _))
    all_goals try (first | omega | with_reducible rfl | ((with_reducible refine eqId ?_); exact rfl) | with_reducible (first | assumption | exact pl ‹_› | exact pr ‹_› | exact plr ‹_› | exact pll ‹_› | exact prl ‹_› | exact plll ‹_› | exact prll ‹_›))
    refine FinK.tup ?_ ?_
    all_goals (try refine amF (h := ?_))
    all_goals (try with_reducible apply True.intro)
  · rename_i hc
    have e : wsOk l bit k = true := by unfold wsOk; rw [hc.1, decide_eq_true hc.2]; rfl
    have e2 : wsWin l bit k = (shrink (wAddA l bit) k).1 := by unfold wsWin; rw [e]; rfl
    have e3 : wsRose l bit k = wsRoseA (wAddA l bit) (shrink (wAddA l bit) k) := by unfold wsRose; rw [e]; rfl
    rw [e, e2, e3]
    first | refine CallK.one (implShrink (wAddA l bit) k _ _ ha hk) (fun _ => amC) ?_ | refine CallE.one (implShrink (wAddA l bit) k _ _ ha hk) (fun _ => amC) rfl ?_ | refine CallG.one rfl (fun hg => implShrink (wAddA l bit) k _ _ ha hk) ?_ | refine CallEG.one rfl rfl (fun hg => implShrink (wAddA l bit) k _ _ ha hk) ?_ | refine CallCE.one (implShrink (wAddA l bit) k _ _ ha hk) (fun _ => amC) rfl ?_
    (try refine am (h := ?_)); (try with_reducible apply True.intro)
    repeat' (first | (with_reducible refine And.intro ?_ ?_) | (with_reducible intro _))
    all_goals try (first | omega | with_reducible rfl | ((with_reducible refine eqId ?_); exact rfl) | with_reducible (first | assumption | exact pl ‹_› | exact pr ‹_› | exact plr ‹_› | exact pll ‹_› | exact prl ‹_› | exact plll ‹_› | exact prll ‹_›))
    refine CallEG.one rfl rfl (fun hg => implWindowOnes (shrink (wAddA l bit) k).1 _ _ (okL47 hs)) ?_
    (try refine am (h := ?_)); (try with_reducible apply True.intro)
    repeat' (first | (with_reducible refine And.intro ?_ ?_) | (with_reducible intro _))
    all_goals try (first | omega | with_reducible rfl | ((with_reducible refine eqId ?_); exact rfl) | with_reducible (first | assumption | exact pl ‹_› | exact pr ‹_› | exact plr ‹_› | exact pll ‹_› | exact prl ‹_› | exact plll ‹_› | exact prll ‹_›))
    refine CallEG.one rfl rfl (fun hg => implWindowTotal (wAddA l bit) _ _ (okL47 ha)) ?_
    (try refine am (h := ?_)); (try with_reducible apply True.intro)
    repeat' (first | (with_reducible refine And.intro ?_ ?_) | (with_reducible intro _))
    all_goals try (first | omega | with_reducible rfl | ((with_reducible refine eqId ?_); exact rfl) | with_reducible (first | assumption | exact pl ‹_› | exact pr ‹_› | exact plr ‹_› | exact pll ‹_› | exact prl ‹_› | exact plll ‹_› | exact prll ‹_›))
    refine CallEG.one rfl rfl (fun hg => implWindowOnes (wAddA l bit) _ _ (okL47 ha)) ?_
    (try refine am (h := ?_)); (try with_reducible apply True.intro)
    repeat' (first | (with_reducible refine And.intro ?_ ?_) | (with_reducible intro _))
    all_goals try (first | omega | with_reducible rfl | ((with_reducible refine eqId ?_); exact rfl) | with_reducible (first | assumption | exact pl ‹_› | exact pr ‹_› | exact plr ‹_› | exact pll ‹_› | exact prl ‹_› | exact plll ‹_› | exact prll ‹_›))
    refine CallEG.one rfl rfl (fun hg => implWindowTotal (shrink (wAddA l bit) k).1 _ _ (okL47 hs)) ?_
    (try refine am (h := ?_)); (try with_reducible apply True.intro)
    repeat' (first | (with_reducible refine And.intro ?_ ?_) | (with_reducible intro _))
    all_goals try (first | omega | with_reducible rfl | ((with_reducible refine eqId ?_); exact rfl) | with_reducible (first | assumption | exact pl ‹_› | exact pr ‹_› | exact plr ‹_› | exact pll ‹_› | exact prl ‹_› | exact plll ‹_› | exact prll ‹_›))
    refine FinK.tup ?_ ?_
    all_goals (try refine amF (h := ?_))
    all_goals (try with_reducible apply True.intro)
    unfold wsRoseA
    rw [← Bool.decide_and]
    exact decide_eq_decide.2 ⟨fun hh => ⟨by omega, hh.2⟩, fun hh => ⟨by omega, hh.2⟩⟩
end Go.AM
namespace Go.AM
open Go Go.Proofs
set_option maxRecDepth 100000
theorem detLe {nl : Option Bool} {F : Nat → Nat → AV} {d : DDet} (h0 : ALe (F 0 0) (aL true true d.warn)) (h1 : ALe (F 0 1) (aL true true d.drift)) : ALe (.sl true nl 2 1 F) (.sl true none 2 1 (fun _ j => gl .junk (cDet true true d) j)) := by
  refine ALe.of (.inl rfl) rfl (fun a ha j hj => ?_)
  obtain rfl : a = 0 := by omega
  rcases (by omega : j = 0 ∨ j = 1) with rfl | rfl
  · exact h0
  · exact h1
set_option maxHeartbeats 8000000 in
theorem cloneDetI (d : DDet) (u v : Bool) (h : okDet (2 ^ 40) d) : ACalls Try.prog 108 [.agg (cDet u v d)] (fun r => r = .val (.agg (cDet true true d))) := by
  have nt : Try.f108.ntmps = 10 := rfl
  have rs : Try.f108.results = #[.cell 2 61] := rfl
  refine ACalls.of_run (m := 400) mixed Try.func108 rfl rfl (Nat.le_of_ble_eq_true rfl) ?_
  simp only [nt, rs]
  clear nt rs
  (try refine am (h := ?_)); (try with_reducible apply True.intro)
  repeat' (first | (with_reducible refine And.intro ?_ ?_) | (with_reducible intro _))
  all_goals try (first | omega | with_reducible rfl | ((with_reducible refine eqId ?_); exact rfl) | with_reducible (first | assumption | exact pl ‹_› | exact pr ‹_› | exact plr ‹_› | exact pll ‹_› | exact prl ‹_› | exact plll ‹_› | exact prll ‹_›))
  refine CallE.one (cloneWindowI d.warn _ _ h.1) (fun _ => amC) rfl ?_
  (try refine am (h := ?_)); (try with_reducible apply True.intro)
  repeat' (first | (with_reducible refine And.intro ?_ ?_) | (with_reducible intro _))
  all_goals try (first | omega | with_reducible rfl | ((with_reducible refine eqId ?_); exact rfl) | with_reducible (first | assumption | exact pl ‹_› | exact pr ‹_› | exact plr ‹_› | exact pll ‹_› | exact prl ‹_› | exact plll ‹_› | exact prll ‹_›))
  refine CallE.one (cloneWindowI d.drift _ _ h.2) (fun _ => amC) rfl ?_
  (try refine am (h := ?_)); (try with_reducible apply True.intro)
  repeat' (first | (with_reducible refine And.intro ?_ ?_) | (with_reducible intro _))
  all_goals try (first | omega | with_reducible rfl | ((with_reducible refine eqId ?_); exact rfl) | with_reducible (first | assumption | exact pl ‹_› | exact pr ‹_› | exact plr ‹_› | exact pll ‹_› | exact prl ‹_› | exact plll ‹_› | exact prll ‹_›))
  refine FinK.cell1 ?_ ?_ ?_
  all_goals (try refine amF (h := ?_))
  all_goals (try with_reducible apply True.intro)
set_option maxHeartbeats 8000000 in
theorem implDetStep (d : DDet) (bit w r : Int) (u v : Bool) (h : okDet (2 ^ 40) d) (hbit : inK .i64 bit) (hw : inK .i64 w) (hr : inK .i64 r) : ACalls Try.prog 79 [.agg (cDet u v d), .one (.int .i64 bit), .one (.int .i64 w), .one (.int .i64 r)] (fun q => q = .tup [.agg (cDet true true (detStep d bit w r).1), .one (.int .i64 (detStep d bit w r).2)]) := by
  have nt : Try.f79.ntmps = 54 := rfl
  have rs : Try.f79.results = #[.cell 8 61, .tmp 9] := rfl
  refine ACalls.of_run (m := 400) mixed Try.func79 rfl rfl (Nat.le_of_ble_eq_true rfl) ?_
  simp only [nt, rs]
  clear nt rs
  (try refine am (h := ?_)); (try with_reducible apply True.intro)
  first | refine CallK.one (implWindowStep d.warn bit w _ _ h.1 hbit hw) (fun _ => amC) ?_ | refine CallE.one (implWindowStep d.warn bit w _ _ h.1 hbit hw) (fun _ => amC) rfl ?_ | refine CallG.one rfl (fun hg => implWindowStep d.warn bit w _ _ h.1 hbit hw) ?_ | refine CallEG.one rfl rfl (fun hg => implWindowStep d.warn bit w _ _ h.1 hbit hw) ?_ | refine CallCE.one (implWindowStep d.warn bit w _ _ h.1 hbit hw) (fun _ => amC) rfl ?_
  (try refine am (h := ?_)); (try with_reducible apply True.intro)
  repeat' (first | (with_reducible refine And.intro ?_ ?_) | (with_reducible intro _))
  all_goals try (first | omega | with_reducible rfl | ((with_reducible refine eqId ?_); exact rfl) | with_reducible (first | assumption | exact pl ‹_› | exact pr ‹_› | exact plr ‹_› | exact pll ‹_› | exact prl ‹_› | exact plll ‹_› | exact prll ‹_›))
  first | refine CallK.one (implWindowStep d.drift bit r _ _ h.2 hbit hr) (fun _ => amC) ?_ | refine CallE.one (implWindowStep d.drift bit r _ _ h.2 hbit hr) (fun _ => amC) rfl ?_ | refine CallG.one rfl (fun hg => implWindowStep d.drift bit r _ _ h.2 hbit hr) ?_ | refine CallEG.one rfl rfl (fun hg => implWindowStep d.drift bit r _ _ h.2 hbit hr) ?_ | refine CallCE.one (implWindowStep d.drift bit r _ _ h.2 hbit hr) (fun _ => amC) rfl ?_
  (try refine am (h := ?_)); (try with_reducible apply True.intro)
  repeat' (first | (with_reducible refine And.intro ?_ ?_) | (with_reducible intro _))
  all_goals try (first | omega | with_reducible rfl | ((with_reducible refine eqId ?_); exact rfl) | with_reducible (first | assumption | exact pl ‹_› | exact pr ‹_› | exact plr ‹_› | exact pll ‹_› | exact prl ‹_› | exact plll ‹_› | exact prll ‹_›))
  · rename_i hc
    have e : (wsOk d.warn bit w && wsOk d.drift bit r) = false := by
      rcases hc with hc | hc
      · rw [hc]; rfl
      · rw [hc, Bool.and_false]
    have e2 : detStep d bit w r = (d, 3) := by unfold detStep; rw [e]; rfl
    rw [e2]
    first | refine CallK.one (cloneDetI d _ _ h) (fun _ => amC) ?_ | refine CallE.one (cloneDetI d _ _ h) (fun _ => amC) rfl ?_ | refine CallG.one rfl (fun hg => cloneDetI d _ _ h) ?_ | refine CallEG.one rfl rfl (fun hg => cloneDetI d _ _ h) ?_ | refine CallCE.one (cloneDetI d _ _ h) (fun _ => amC) rfl ?_
    (try refine am (h := ?_)); (try with_reducible apply True.intro)
    repeat' (first | (with_reducible refine And.intro ?_ ?_) | (with_reducible intro _))
    all_goals try (first | omega | with_reducible rfl | ((with_reducible refine eqId ?_); exact rfl) | with_reducible (first | assumption | exact pl ‹_› | exact pr ‹_› | exact plr ‹_› | exact pll ‹_› | exact prl ‹_› | exact plll ‹_› | exact prll ‹_›))
    refine FinK.tup ?_ ?_
    all_goals (try refine amF (h := ?_))
    all_goals (try with_reducible apply True.intro)
  · rename_i hc h1
    have e : (wsOk d.warn bit w && wsOk d.drift bit r) = true := by rw [hc.1, hc.2]; rfl
    have e2 : detStep d bit w r = (⟨[], []⟩, 2) := by unfold detStep; rw [e, h1]; rfl
    rw [e2]
    refine FinK.tup ?_ ?_
    all_goals (try refine amF (h := ?_))
    all_goals (try with_reducible apply True.intro)
    all_goals (first | exact ⟨.nil _ _ _ _ _, .nil _ _ _ _ _⟩ | exact .nil _ _ _ _ _)
  · rename_i hc h1 h2
    have e : (wsOk d.warn bit w && wsOk d.drift bit r) = true := by rw [hc.1, hc.2]; rfl
    have e2 : detStep d bit w r = (⟨wsWin d.warn bit w, wsWin d.drift bit r⟩, 1) := by unfold detStep; rw [e, h1, h2]; rfl
    rw [e2]
    refine FinK.tup ?_ ?_
    all_goals (try refine amF (h := ?_))
    all_goals (try with_reducible apply True.intro)
  · rename_i hc h1 h2
    have e : (wsOk d.warn bit w && wsOk d.drift bit r) = true := by rw [hc.1, hc.2]; rfl
    have e2 : detStep d bit w r = (⟨wsWin d.warn bit w, wsWin d.drift bit r⟩, 0) := by unfold detStep; rw [e, h1, h2]; rfl
    rw [e2]
    refine FinK.tup ?_ ?_
    all_goals (try refine amF (h := ?_))
    all_goals (try with_reducible apply True.intro)
set_option maxHeartbeats 8000000 in
theorem implDetRun (l : List Int) (w r : Int) (u : Bool) (h : okI (2 ^ 40) l) (hw : inK .i64 w) (hr : inK .i64 r) : ACalls Try.prog 35 [.one (aI u l), .one (.int .i64 w), .one (.int .i64 r)] (fun q => q = .tup [.agg (cDet true true (detRunA l w r l.length).1), .one (aI true (detRunA l w r l.length).2)]) := by
  have hl := h.1
  have nt : Try.f35.ntmps = 38 := rfl
  have rs : Try.f35.results = #[.cell 6 61, .tmp 7] := rfl
  refine ACalls.of_run (m := 400) mixed Try.func35 rfl rfl (Nat.le_of_ble_eq_true rfl) ?_
  simp only [nt, rs]
  clear nt rs
  (try refine am (h := ?_)); (try with_reducible apply True.intro)
  repeat' (first | (with_reducible refine And.intro ?_ ?_) | (with_reducible intro _))
  all_goals try (first | omega | with_reducible rfl | ((with_reducible refine eqId ?_); exact rfl) | with_reducible (first | assumption | exact pl ‹_› | exact pr ‹_› | exact plr ‹_› | exact pll ‹_› | exact prl ‹_› | exact plll ‹_› | exact prll ‹_›))
  refine LoopK.auto (Nat) (fun i => [(18, .one (.av (.int .i64 i))), (8, .one (.ref 302 [] [0] 0 0)), (9, .one (.own 303 [] [0]))]) (fun i => [(302, ⟨.sl true none 2 1 (fun _ j => gl .junk (cDet true true (detRunA l w r i).1) j), []⟩), (303, ⟨.sl true none 1 (detRunA l w r i).2.length (fI (detRunA l w r i).2), []⟩)]) [1, 2, 6, 16, 17] (k0 := ?k01) (keepH := ?kh1) 400 (fun i => i ≤ l.length) (fun i => l.length - i) (0) ?kea1 ?keb1 ?_ ?_ ?_
  case kea1 => exact amN
  case keb1 => exact amN
  · exact Nat.zero_le _
  · refine Le.auto [] (r0 := ?r01) (ren := ?ren1) ?ea1 ?eb1 ?a1 ?b1 ?c1 ?d1 ?ho1 ?hn1 ?ht1
    case ea1 => exact amR
    case eb1 => exact amR
    case a1 => exact rfl
    case b1 => exact rfl
    case c1 => exact rfl
    case d1 => exact rfl
    all_goals (try refine amL (h := ?_))
    all_goals (try with_reducible apply True.intro)
    exact ⟨ALe.of (.inl rfl) rfl (fun i hi => by omega), detLe (.nil _ _ _ _ _) (.nil _ _ _ _ _)⟩
  · intro i hi
    have hrun := detRunA_ok (l := l) (w := w) (r := r) (i := i)
    have hlen := hrun.2.1
    (try refine am (h := ?_)); (try with_reducible apply True.intro)
    repeat' (first | (with_reducible refine And.intro ?_ ?_) | (with_reducible intro _))
    all_goals try (first | omega | with_reducible rfl | ((with_reducible refine eqId ?_); exact rfl) | with_reducible (first | assumption | exact pl ‹_› | exact pr ‹_› | exact plr ‹_› | exact pll ‹_› | exact prl ‹_› | exact plll ‹_› | exact prll ‹_›))
    · have hlt : i < l.length := by assumption
      have hbit := h.2 _ (getD_mem (d := 0) hlt)
      first | refine CallK.one (implDetStep (detRunA l w r i).1 (l.getD i 0) w r _ _ hrun.1 hbit hw hr) (fun _ => amC) ?_ | refine CallE.one (implDetStep (detRunA l w r i).1 (l.getD i 0) w r _ _ hrun.1 hbit hw hr) (fun _ => amC) rfl ?_ | refine CallG.one rfl (fun hg => implDetStep (detRunA l w r i).1 (l.getD i 0) w r _ _ hrun.1 hbit hw hr) ?_ | refine CallEG.one rfl rfl (fun hg => implDetStep (detRunA l w r i).1 (l.getD i 0) w r _ _ hrun.1 hbit hw hr) ?_ | refine CallCE.one (implDetStep (detRunA l w r i).1 (l.getD i 0) w r _ _ hrun.1 hbit hw hr) (fun _ => amC) rfl ?_
      (try refine am (h := ?_)); (try with_reducible apply True.intro)
      repeat' (first | (with_reducible refine And.intro ?_ ?_) | (with_reducible intro _))
      all_goals try (first | omega | with_reducible rfl | ((with_reducible refine eqId ?_); exact rfl) | with_reducible (first | assumption | exact pl ‹_› | exact pr ‹_› | exact plr ‹_› | exact pll ‹_› | exact prl ‹_› | exact plll ‹_› | exact prll ‹_›))
      refine ⟨i + 1, ?_, by omega, by omega⟩
      refine Le.auto [] (r0 := ?r02) (ren := ?ren2) ?ea2 ?eb2 ?a2 ?b2 ?c2 ?d2 ?ho2 ?hn2 ?ht2
      case ea2 => exact amR
      case eb2 => exact amR
      case a2 => exact rfl
      case b2 => exact rfl
      case c2 => exact rfl
      case d2 => exact rfl
      all_goals (try refine amL (h := ?_))
      all_goals (try with_reducible apply True.intro)
      exact ⟨appInt rfl, detLe (.refl _) (.refl _)⟩
    · have ei : i = l.length := by omega
      subst ei
      refine FinK.tup ?_ ?_
      all_goals (try refine amF (h := ?_))
      all_goals (try with_reducible apply True.intro)
end Go.AM
