/- Lemmas for the proof of this claim. -/
import Derived.Test.YtogcgngdaendaaaWinb
import Derived.Test.YtogcgngdaendaaaWina
import Derived.Test.YtogcgngdaendaaaWlib
namespace Go.AM
open Go Go.Proofs
set_option maxRecDepth 100000
end Go.AM
namespace Go.AM
open Go Go.Proofs
set_option maxRecDepth 100000
theorem okL47 {m : List (List Int)} (hm : okL (2 ^ 40) m) : okL (2 ^ 47) m := ⟨by have := hm.1; omega, fun r hr => ⟨by have := (hm.2 r hr).1; omega, (hm.2 r hr).2⟩⟩
set_option maxHeartbeats 8000000 in
theorem implShrink (l : List (List Int)) (k : Int) (u v : Bool) (h : okL (2 ^ 40) l) (hk : inK .i64 k) : ACalls Try.prog 36 [.agg [aL u v l], .one (.int .i64 k)] (fun r => r = .tup [.agg [aL true true (shrink l k).1], .one (.int .i64 (shrink l k).2)]) := by
  have hl := h.1
  have nt : Try.f36.ntmps = 23 := rfl
  have rs : Try.f36.results = #[.cell 4 51, .tmp 5] := rfl
  refine ACalls.of_run (m := 400) mixed Try.func36 rfl rfl (Nat.le_of_ble_eq_true rfl) ?_
  simp only [nt, rs]
  clear nt rs
  (try refine am (h := ?_)); (try with_reducible apply True.intro)
  first | refine CallK.one (cloneWindowI l _ _ h) (fun _ => amC) ?_ | refine CallE.one (cloneWindowI l _ _ h) (fun _ => amC) rfl ?_ | refine CallG.one rfl (fun hg => cloneWindowI l _ _ h) ?_ | refine CallEG.one rfl rfl (fun hg => cloneWindowI l _ _ h) ?_
  (try refine am (h := ?_)); (try with_reducible apply True.intro)
  repeat' (first | (with_reducible refine And.intro ?_ ?_) | (with_reducible intro _))
  all_goals try (first | omega | with_reducible rfl | ((with_reducible refine eqId ?_); exact rfl) | with_reducible (first | assumption | exact pl ‹_› | exact pr ‹_› | exact plr ‹_› | exact pll ‹_› | exact prl ‹_› | exact plll ‹_› | exact prll ‹_›))
  refine LoopK.auto ((List (List Int) × Nat)) (fun p => [(7, .one (.av (.int .i64 p.2))), (6, .one (.ref 302 [] [0] 0 0))]) (fun p => [(302, ⟨.sl true none 1 1 (fun _ _ => .sl true none 1 p.1.length (fL true p.1)), []⟩)]) [1, 4] (k0 := ?k01) (keepH := ?kh1) 400 (fun p => shInv l k p) (fun p => wMu p.1) ((l, 0)) ?kea1 ?keb1 ?_ ?_ ?_
  case kea1 => exact amN
  case keb1 => exact amN
  · exact shInv_start h
  · refine Le.auto [] (r0 := ?r01) (ren := ?ren1) ?ea1 ?eb1 ?a1 ?b1 ?c1 ?d1 ?ho1 ?hn1 ?ht1
    case ea1 => exact amR
    case eb1 => exact amR
    case a1 => exact rfl
    case b1 => exact rfl
    case c1 => exact rfl
    case d1 => exact rfl
    all_goals (try refine amL (h := ?_))
    all_goals (try with_reducible apply True.intro)
    exact boxLe (.refl _)
  · rintro ⟨m, n⟩ hinv
    have hm : okL (2 ^ 40) m := hinv.1
    have hn : n ≤ 24 := by
      rcases hinv.2.1 with h0 | h0
      · have : n = 0 := h0
        omega
      · have : n + wMu m ≤ 24 := h0.2
        omega
    have hnn := cutAt_nn (l := m) (k := k)
    (try refine am (h := ?_)); (try with_reducible apply True.intro)
    first | refine CallK.one (implCutAt m k _ _ (okL47 hm) hk) (fun _ => amC) ?_ | refine CallE.one (implCutAt m k _ _ (okL47 hm) hk) (fun _ => amC) rfl ?_ | refine CallG.one rfl (fun hg => implCutAt m k _ _ (okL47 hm) hk) ?_ | refine CallEG.one rfl rfl (fun hg => implCutAt m k _ _ (okL47 hm) hk) ?_
    (try refine am (h := ?_)); (try with_reducible apply True.intro)
    repeat' (first | (with_reducible refine And.intro ?_ ?_) | (with_reducible intro _))
    all_goals try (first | omega | with_reducible rfl | ((with_reducible refine eqId ?_); exact rfl) | with_reducible (first | assumption | exact pl ‹_› | exact pr ‹_› | exact plr ‹_› | exact pll ‹_› | exact prl ‹_› | exact plll ‹_› | exact prll ‹_›))
    · have hc : cutAt m k ≠ 0 := by omega
      first | refine CallK.one (implWindowDrop m _ _ hm) (fun _ => amC) ?_ | refine CallE.one (implWindowDrop m _ _ hm) (fun _ => amC) rfl ?_ | refine CallG.one rfl (fun hg => implWindowDrop m _ _ hm) ?_ | refine CallEG.one rfl rfl (fun hg => implWindowDrop m _ _ hm) ?_
      (try refine am (h := ?_)); (try with_reducible apply True.intro)
      repeat' (first | (with_reducible refine And.intro ?_ ?_) | (with_reducible intro _))
      all_goals try (first | omega | with_reducible rfl | ((with_reducible refine eqId ?_); exact rfl) | with_reducible (first | assumption | exact pl ‹_› | exact pr ‹_› | exact plr ‹_› | exact pll ‹_› | exact prl ‹_› | exact plll ‹_› | exact prll ‹_›))
      refine ⟨(wDropA m, n + 1), ?_, shInv_step hinv hc, (wDropA_cut hc).2.2⟩
      refine Le.auto [] (r0 := ?r02) (ren := ?ren2) ?ea2 ?eb2 ?a2 ?b2 ?c2 ?d2 ?ho2 ?hn2 ?ht2
      case ea2 => exact amR
      case eb2 => exact amR
      case a2 => exact rfl
      case b2 => exact rfl
      case c2 => exact rfl
      case d2 => exact rfl
      all_goals (try refine amL (h := ?_))
      all_goals (try with_reducible apply True.intro)
      all_goals (first | exact boxLe (.refl _))
    · have hc : cutAt m k = 0 := by omega
      have he := shInv_end hinv hc
      rw [he.1]
      refine FinK.tup ?_ ?_
      all_goals (try refine amF (h := ?_))
      all_goals (try with_reducible apply True.intro)
set_option maxHeartbeats 8000000 in
theorem specShrink (l : List (List Int)) (k : Int) (u v : Bool) (h : okL (2 ^ 40) l) (hk : inK .i64 k) : ACalls Try.prog 34 [.agg [aL u v l], .one (.int .i64 k)] (fun r => r = .tup [.agg [aL true true (shrink l k).1], .one (.int .i64 (shrink l k).2)]) := by
  have hl := h.1
  have nt : Try.f34.ntmps = 23 := rfl
  have rs : Try.f34.results = #[.cell 4 51, .tmp 5] := rfl
  refine ACalls.of_run (m := 400) mixed Try.func34 rfl rfl (Nat.le_of_ble_eq_true rfl) ?_
  simp only [nt, rs]
  clear nt rs
  (try refine am (h := ?_)); (try with_reducible apply True.intro)
  first | refine CallK.one (l16CopyI l _ _ h) (fun _ => amC) ?_ | refine CallE.one (l16CopyI l _ _ h) (fun _ => amC) rfl ?_ | refine CallG.one rfl (fun hg => l16CopyI l _ _ h) ?_ | refine CallEG.one rfl rfl (fun hg => l16CopyI l _ _ h) ?_
  (try refine am (h := ?_)); (try with_reducible apply True.intro)
  repeat' (first | (with_reducible refine And.intro ?_ ?_) | (with_reducible intro _))
  all_goals try (first | omega | with_reducible rfl | ((with_reducible refine eqId ?_); exact rfl) | with_reducible (first | assumption | exact pl ‹_› | exact pr ‹_› | exact plr ‹_› | exact pll ‹_› | exact prl ‹_› | exact plll ‹_› | exact prll ‹_›))
  refine LoopK.auto ((List (List Int) × Nat)) (fun p => [(7, .one (.av (.int .i64 p.2))), (6, .one (.ref 302 [] [0] 0 0))]) (fun p => [(302, ⟨.sl true none 1 1 (fun _ _ => .sl true none 1 p.1.length (fL true p.1)), []⟩)]) [1, 4] (k0 := ?k02) (keepH := ?kh2) 400 (fun p => shInv l k p) (fun p => wMu p.1) ((l, 0)) ?kea2 ?keb2 ?_ ?_ ?_
  case kea2 => exact amN
  case keb2 => exact amN
  · exact shInv_start h
  · refine Le.auto [] (r0 := ?r03) (ren := ?ren3) ?ea3 ?eb3 ?a3 ?b3 ?c3 ?d3 ?ho3 ?hn3 ?ht3
    case ea3 => exact amR
    case eb3 => exact amR
    case a3 => exact rfl
    case b3 => exact rfl
    case c3 => exact rfl
    case d3 => exact rfl
    all_goals (try refine amL (h := ?_))
    all_goals (try with_reducible apply True.intro)
    exact boxLe (.refl _)
  · rintro ⟨m, n⟩ hinv
    have hm : okL (2 ^ 40) m := hinv.1
    have hn : n ≤ 24 := by
      rcases hinv.2.1 with h0 | h0
      · have : n = 0 := h0
        omega
      · have : n + wMu m ≤ 24 := h0.2
        omega
    have hnn := cutAt_nn (l := m) (k := k)
    (try refine am (h := ?_)); (try with_reducible apply True.intro)
    first | refine CallK.one (specCutAt m k _ _ (okL47 hm) hk) (fun _ => amC) ?_ | refine CallE.one (specCutAt m k _ _ (okL47 hm) hk) (fun _ => amC) rfl ?_ | refine CallG.one rfl (fun hg => specCutAt m k _ _ (okL47 hm) hk) ?_ | refine CallEG.one rfl rfl (fun hg => specCutAt m k _ _ (okL47 hm) hk) ?_
    (try refine am (h := ?_)); (try with_reducible apply True.intro)
    repeat' (first | (with_reducible refine And.intro ?_ ?_) | (with_reducible intro _))
    all_goals try (first | omega | with_reducible rfl | ((with_reducible refine eqId ?_); exact rfl) | with_reducible (first | assumption | exact pl ‹_› | exact pr ‹_› | exact plr ‹_› | exact pll ‹_› | exact prl ‹_› | exact plll ‹_› | exact prll ‹_›))
    · have hc : cutAt m k ≠ 0 := by omega
      first | refine CallK.one (specWindowDrop m _ _ hm) (fun _ => amC) ?_ | refine CallE.one (specWindowDrop m _ _ hm) (fun _ => amC) rfl ?_ | refine CallG.one rfl (fun hg => specWindowDrop m _ _ hm) ?_ | refine CallEG.one rfl rfl (fun hg => specWindowDrop m _ _ hm) ?_
      (try refine am (h := ?_)); (try with_reducible apply True.intro)
      repeat' (first | (with_reducible refine And.intro ?_ ?_) | (with_reducible intro _))
      all_goals try (first | omega | with_reducible rfl | ((with_reducible refine eqId ?_); exact rfl) | with_reducible (first | assumption | exact pl ‹_› | exact pr ‹_› | exact plr ‹_› | exact pll ‹_› | exact prl ‹_› | exact plll ‹_› | exact prll ‹_›))
      refine ⟨(wDropA m, n + 1), ?_, shInv_step hinv hc, (wDropA_cut hc).2.2⟩
      refine Le.auto [] (r0 := ?r04) (ren := ?ren4) ?ea4 ?eb4 ?a4 ?b4 ?c4 ?d4 ?ho4 ?hn4 ?ht4
      case ea4 => exact amR
      case eb4 => exact amR
      case a4 => exact rfl
      case b4 => exact rfl
      case c4 => exact rfl
      case d4 => exact rfl
      all_goals (try refine amL (h := ?_))
      all_goals (try with_reducible apply True.intro)
      all_goals (first | exact boxLe (.refl _))
    · have hc : cutAt m k = 0 := by omega
      have he := shInv_end hinv hc
      rw [he.1]
      refine FinK.tup ?_ ?_
      all_goals (try refine amF (h := ?_))
      all_goals (try with_reducible apply True.intro)
end Go.AM
namespace Go.AM
open Go Go.Proofs
set_option maxRecDepth 100000
end Go.AM
