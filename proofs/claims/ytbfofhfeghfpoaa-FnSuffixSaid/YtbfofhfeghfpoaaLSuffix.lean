/- Lemmas for the proof of this claim. -/
import Derived.Test.YtbfofhfeghfpoaaWinc
import Derived.Test.YtbfofhfeghfpoaaWina
import Derived.Test.YtbfofhfeghfpoaaDrw
namespace Go.AM
open Go Go.Proofs
set_option maxRecDepth 100000
theorem detRunA_at {l : List Int} {w r : Int} : ∀ {n i : Nat}, i < n → (detRunA l w r n).2.getD i 0 = (detStep (detRunA l w r i).1 (l.getD i 0) w r).2
  | n + 1, i, h => by
    have hlen := (detRunA_ok (l := l) (w := w) (r := r) (i := n)).2.1
    simp only [detRunA]
    by_cases e : i < n
    · rw [getD_app, if_pos (by omega)]; exact detRunA_at e
    · obtain rfl : i = n := by omega
      rw [getD_app, if_neg (by omega), hlen]
      simp
set_option maxHeartbeats 8000000 in
theorem fnSuffix (code : List UInt8) (h : code.length ≤ 2 ^ 47 ∧ ∀ x ∈ code, True) : ACalls Try.prog 8 [.one (aB false code)] (fun r => r = .val (.one (.bool true))) := by
  obtain ⟨h, _⟩ := h
  have nt : Try.f8.ntmps = 78 := rfl
  have rs : Try.f8.results = #[.tmp 2] := rfl
  refine ACalls.of_runC (m := 400) mixed Try.func8 rfl rfl (Nat.le_of_ble_eq_true rfl) ?_
  simp only [nt, rs]
  clear nt rs
  (try refine am (h := ?_)); (try with_reducible apply True.intro)
  first | refine CallK.one (lawsBig code h _) (fun _ => amC) ?_ | refine CallE.one (lawsBig code h _) (fun _ => amC) rfl ?_ | refine CallG.one rfl (fun hg => lawsBig code h _) ?_ | refine CallEG.one rfl rfl (fun hg => lawsBig code h _) ?_ | refine CallCE.one (lawsBig code h _) (fun _ => amC) rfl ?_
  (try refine am (h := ?_)); (try with_reducible apply True.intro)
  repeat' (first | (with_reducible refine And.intro ?_ ?_) | (with_reducible intro _))
  all_goals try (first | omega | with_reducible rfl | ((with_reducible refine eqId ?_); exact rfl) | with_reducible (first | assumption | exact pl ‹_› | exact pr ‹_› | exact plr ‹_› | exact pll ‹_› | exact prl ‹_› | exact plll ‹_› | exact prll ‹_›))
  · refine FinK.val1 ?_ ?_
    all_goals (try refine amF (h := ?_))
    all_goals (try with_reducible apply True.intro)
  have hc : code.length ≤ 2 ^ 40 := by omega
  refine CallK.ex (spec_DrawDetRun code hc) (fun _ _ _ => amC) ?_
  rintro ⟨l, w, v⟩ ⟨hl, hw, hv⟩
  (try refine am (h := ?_)); (try with_reducible apply True.intro)
  dsimp only at hl hw hv
  repeat' (first | (with_reducible refine And.intro ?_ ?_) | (with_reducible intro _))
  all_goals try (first | omega | with_reducible rfl | ((with_reducible refine eqId ?_); exact rfl) | with_reducible (first | assumption | exact pl ‹_› | exact pr ‹_› | exact plr ‹_› | exact pll ‹_› | exact prl ‹_› | exact plll ‹_› | exact prll ‹_›))
  have hwi : inK .i64 w := ⟨by show (-9223372036854775808 : Int) ≤ w; omega, by show w ≤ (9223372036854775807 : Int); omega⟩
  have hvi : inK .i64 v := ⟨by show (-9223372036854775808 : Int) ≤ v; omega, by show v ≤ (9223372036854775807 : Int); omega⟩
  first | refine CallK.one (implDetRun l w v _ (okI_up hl.1 (by decide)) hwi hvi) (fun _ => amC) ?_ | refine CallE.one (implDetRun l w v _ (okI_up hl.1 (by decide)) hwi hvi) (fun _ => amC) rfl ?_ | refine CallG.one rfl (fun hg => implDetRun l w v _ (okI_up hl.1 (by decide)) hwi hvi) ?_ | refine CallEG.one rfl rfl (fun hg => implDetRun l w v _ (okI_up hl.1 (by decide)) hwi hvi) ?_ | refine CallCE.one (implDetRun l w v _ (okI_up hl.1 (by decide)) hwi hvi) (fun _ => amC) rfl ?_
  (try refine am (h := ?_)); (try with_reducible apply True.intro)
  repeat' (first | (with_reducible refine And.intro ?_ ?_) | (with_reducible intro _))
  all_goals try (first | omega | with_reducible rfl | ((with_reducible refine eqId ?_); exact rfl) | with_reducible (first | assumption | exact pl ‹_› | exact pr ‹_› | exact plr ‹_› | exact pll ‹_› | exact prl ‹_› | exact plll ‹_› | exact prll ‹_›))
  first | refine CallK.one (specDetRun l w v _ (okI_up hl.1 (by decide)) hwi hvi) (fun _ => amC) ?_ | refine CallE.one (specDetRun l w v _ (okI_up hl.1 (by decide)) hwi hvi) (fun _ => amC) rfl ?_ | refine CallG.one rfl (fun hg => specDetRun l w v _ (okI_up hl.1 (by decide)) hwi hvi) ?_ | refine CallEG.one rfl rfl (fun hg => specDetRun l w v _ (okI_up hl.1 (by decide)) hwi hvi) ?_ | refine CallCE.one (specDetRun l w v _ (okI_up hl.1 (by decide)) hwi hvi) (fun _ => amC) rfl ?_
  (try refine am (h := ?_)); (try with_reducible apply True.intro)
  have hok := detRunA_ok (l := l) (w := w) (r := v) (i := l.length)
  have hlen := hok.2.1
  have hwok := detRunA_wok (l := l) (w := w) (r := v) (i := l.length)
  have hsuf := detRunA_suf l w v l.length
  have hll := hl.1.1
  have hat : ∀ i, i < l.length → (detRunA l w v l.length).2.getD i 0 = (detStep (detRunA l w v i).1 (l.getD i 0) w v).2 := fun i hi => detRunA_at hi
  generalize detRunA l w v l.length = D at *
  repeat' (first | (with_reducible refine And.intro ?_ ?_) | (with_reducible intro _))
  all_goals try (first | omega | with_reducible rfl | ((with_reducible refine eqId ?_); exact rfl) | with_reducible (first | assumption | exact pl ‹_› | exact pr ‹_› | exact plr ‹_› | exact pll ‹_› | exact prl ‹_› | exact plll ‹_› | exact prll ‹_›))
  first | refine CallK.one (lawsSameInts D.2 D.2 _ _ _ _ (by omega) (by omega)) (fun _ => amC) ?_ | refine CallE.one (lawsSameInts D.2 D.2 _ _ _ _ (by omega) (by omega)) (fun _ => amC) rfl ?_ | refine CallG.one rfl (fun hg => lawsSameInts D.2 D.2 _ _ _ _ (by omega) (by omega)) ?_ | refine CallEG.one rfl rfl (fun hg => lawsSameInts D.2 D.2 _ _ _ _ (by omega) (by omega)) ?_ | refine CallCE.one (lawsSameInts D.2 D.2 _ _ _ _ (by omega) (by omega)) (fun _ => amC) rfl ?_
  (try refine am (h := ?_)); (try with_reducible apply True.intro)
  repeat' (first | (with_reducible refine And.intro ?_ ?_) | (with_reducible intro _))
  all_goals try (first | omega | with_reducible rfl | ((with_reducible refine eqId ?_); exact rfl) | with_reducible (first | assumption | exact pl ‹_› | exact pr ‹_› | exact plr ‹_› | exact pll ‹_› | exact prl ‹_› | exact plll ‹_› | exact prll ‹_›))
  first | refine CallG.one rfl (fun hg => implDetOk D.1 _ _ (okDet47 hok.1)) ?_ | refine CallEG.one rfl rfl (fun hg => implDetOk D.1 _ _ (okDet47 hok.1)) ?_
  (try refine am (h := ?_)); (try with_reducible apply True.intro)
  rw [wokB_true hwok.1, wokB_true hwok.2]
  repeat' (first | (with_reducible refine And.intro ?_ ?_) | (with_reducible intro _))
  all_goals try (first | omega | with_reducible rfl | ((with_reducible refine eqId ?_); exact rfl) | with_reducible (first | assumption | exact pl ‹_› | exact pr ‹_› | exact plr ‹_› | exact pll ‹_› | exact prl ‹_› | exact plll ‹_› | exact prll ‹_›))
  · exfalso
    rename_i h
    rcases h with h | h <;> cases h
  refine LoopK.auto (Nat) (fun i => [(11, .one (.av (.int .i64 i))), (10, .one (.own 302 [] [0]))]) (fun i => [(302, ⟨.sl true none 1 (sinceA l w v i).length (fI (sinceA l w v i)), []⟩)]) [3, 6, 7] (k0 := ?k01) (keepH := ?kh1) 500 (fun i => i ≤ l.length) (fun i => l.length - i) (0) ?kea1 ?keb1 ?_ ?_ ?_
  case kea1 => exact amN
  case keb1 => exact amN
  · exact Nat.zero_le _
  · refine Le.auto [] (r0 := ?r01) (ren := ?ren1) ?ea1 ?eb1 ?a1 ?b1 ?c1 ?d1 ?ho1 ?hn1 ?ht1
    case ea1 => exact amR
    case eb1 => exact amR
    case a1 => exact rfl
    case b1 => exact rfl
    case c1 => exact rfl
    case d1 => exact rfl
    all_goals (try refine amL (h := ?_))
    all_goals (try with_reducible apply True.intro)
    exact ALe.of (.inl rfl) rfl (fun i hi => by omega)
  · intro i hi
    have hsl := sinceA_len l w v i
    (try refine am (h := ?_)); (try with_reducible apply True.intro)
    repeat' (first | (with_reducible refine And.intro ?_ ?_) | (with_reducible intro _))
    all_goals try (first | omega | with_reducible rfl | ((with_reducible refine eqId ?_); exact rfl) | with_reducible (first | assumption | exact pl ‹_› | exact pr ‹_› | exact plr ‹_› | exact pll ‹_› | exact prl ‹_› | exact plll ‹_› | exact prll ‹_›))
    · rename_i hlt h2
      rw [hat i (by omega)] at h2
      refine ⟨i + 1, ?_, by omega, by omega⟩
      have e : sinceA l w v (i + 1) = [] := by simp only [sinceA]; rw [if_pos h2]
      refine Le.auto [] (r0 := ?r02) (ren := ?ren2) ?ea2 ?eb2 ?a2 ?b2 ?c2 ?d2 ?ho2 ?hn2 ?ht2
      case ea2 => exact amR
      case eb2 => exact amR
      case a2 => exact rfl
      case b2 => exact rfl
      case c2 => exact rfl
      case d2 => exact rfl
      all_goals (try refine amL (h := ?_))
      all_goals (try with_reducible apply True.intro)
      rw [e]
      exact ALe.of (.inl rfl) rfl (fun i hi => by omega)
    · rename_i hlt h2 h3
      rw [hat i (by omega)] at h2 h3
      refine ⟨i + 1, ?_, by omega, by omega⟩
      have e : sinceA l w v (i + 1) = sinceA l w v i ++ [l.getD i 0] := by simp only [sinceA]; rw [if_neg h2, if_neg h3]
      refine Le.auto [] (r0 := ?r03) (ren := ?ren3) ?ea3 ?eb3 ?a3 ?b3 ?c3 ?d3 ?ho3 ?hn3 ?ht3
      case ea3 => exact amR
      case eb3 => exact amR
      case a3 => exact rfl
      case b3 => exact rfl
      case c3 => exact rfl
      case d3 => exact rfl
      all_goals (try refine amL (h := ?_))
      all_goals (try with_reducible apply True.intro)
      rw [e]
      exact appIntD rfl
    · rename_i hlt h2 h3
      rw [hat i (by omega)] at h2 h3
      refine ⟨i + 1, ?_, by omega, by omega⟩
      have e : sinceA l w v (i + 1) = sinceA l w v i := by simp only [sinceA]; rw [if_neg h2, if_pos h3]
      refine Le.auto [] (r0 := ?r04) (ren := ?ren4) ?ea4 ?eb4 ?a4 ?b4 ?c4 ?d4 ?ho4 ?hn4 ?ht4
      case ea4 => exact amR
      case eb4 => exact amR
      case a4 => exact rfl
      case b4 => exact rfl
      case c4 => exact rfl
      case d4 => exact rfl
      all_goals (try refine amL (h := ?_))
      all_goals (try with_reducible apply True.intro)
      rw [e]
      exact ALe.refl _
    · have ei : i = l.length := by omega
      subst ei
      have hb : ∀ x ∈ sinceA l w v l.length, 0 ≤ x ∧ x ≤ 2 := fun x hx => hl.2 x (sinceA_mem (Nat.le_refl _) hx)
      first | refine CallK.one (lawsSuffix D.1.warn (sinceA l w v l.length) _ _ _ hok.1.1 hwok.1 hsuf.1 hb (by omega)) (fun _ => amC) ?_ | refine CallE.one (lawsSuffix D.1.warn (sinceA l w v l.length) _ _ _ hok.1.1 hwok.1 hsuf.1 hb (by omega)) (fun _ => amC) rfl ?_ | refine CallG.one rfl (fun hg => lawsSuffix D.1.warn (sinceA l w v l.length) _ _ _ hok.1.1 hwok.1 hsuf.1 hb (by omega)) ?_ | refine CallEG.one rfl rfl (fun hg => lawsSuffix D.1.warn (sinceA l w v l.length) _ _ _ hok.1.1 hwok.1 hsuf.1 hb (by omega)) ?_ | refine CallCE.one (lawsSuffix D.1.warn (sinceA l w v l.length) _ _ _ hok.1.1 hwok.1 hsuf.1 hb (by omega)) (fun _ => amC) rfl ?_
      (try refine am (h := ?_)); (try with_reducible apply True.intro)
      repeat' (first | (with_reducible refine And.intro ?_ ?_) | (with_reducible intro _))
      all_goals try (first | omega | with_reducible rfl | ((with_reducible refine eqId ?_); exact rfl) | with_reducible (first | assumption | exact pl ‹_› | exact pr ‹_› | exact plr ‹_› | exact pll ‹_› | exact prl ‹_› | exact plll ‹_› | exact prll ‹_›))
      first | refine CallG.one rfl (fun hg => lawsSuffix D.1.drift (sinceA l w v l.length) _ _ _ hok.1.2 hwok.2 hsuf.2 hb (by omega)) ?_ | refine CallEG.one rfl rfl (fun hg => lawsSuffix D.1.drift (sinceA l w v l.length) _ _ _ hok.1.2 hwok.2 hsuf.2 hb (by omega)) ?_
      (try refine am (h := ?_)); (try with_reducible apply True.intro)
      repeat' (first | (with_reducible refine And.intro ?_ ?_) | (with_reducible intro _))
      all_goals try (first | omega | with_reducible rfl | ((with_reducible refine eqId ?_); exact rfl) | with_reducible (first | assumption | exact pl ‹_› | exact pr ‹_› | exact plr ‹_› | exact pll ‹_› | exact prl ‹_› | exact plll ‹_› | exact prll ‹_›))
      refine FinK.val1 ?_ ?_
      all_goals (try refine amF (h := ?_))
      all_goals (try with_reducible apply True.intro)
end Go.AM
