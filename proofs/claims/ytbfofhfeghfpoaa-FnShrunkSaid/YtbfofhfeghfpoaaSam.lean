/- Lemmas for the proof of this claim. -/
import Derived.Test.YtbfofhfeghfpoaaFam
namespace Go.AM
open Go Go.Proofs
set_option maxRecDepth 100000
set_option maxHeartbeats 4000000 in
theorem l5SameInts (l m : List (Int)) (u u' : Bool) (nl ml : Option Bool) (hl : l.length ≤ 2 ^ 47) : ACalls Try.prog 76 [.one (.sl u nl 1 l.length (fI l)), .one (.sl u' ml 1 m.length (fI m))] (fun r => r = .val (.one (.bool (decide (l = m))))) := by
  have nt : Try.f76.ntmps = 26 := rfl
  have rs : Try.f76.results = #[.tmp 4] := rfl
  refine ACalls.of_run (m := 400) mixed Try.func76 rfl rfl (Nat.le_of_ble_eq_true rfl) ?_
  simp only [nt, rs]
  clear nt rs
  (try refine am (h := ?_)); (try with_reducible apply True.intro)
  refine ⟨fun h => ?_, fun hlen => ?_⟩
  · refine FinK.val1 ?_ ?_
    all_goals (try refine amF (h := ?_))
    all_goals (try with_reducible apply True.intro)
    exact (decide_eq_false (fun e => h (by rw [e]))).symm
  refine LoopK.auto (Nat) (fun i => [(5, .one (.av (.int .i64 i)))]) (fun i => []) [0, 1] (k0 := ?k01) (keepH := ?kh1) 400 (fun i => i ≤ l.length ∧ ∀ j, j < i → l.getD j 0 = m.getD j 0) (fun i => l.length - i) (0) ?kea1 ?keb1 ?_ ?_ ?_
  case kea1 => exact amN
  case keb1 => exact amN
  · exact ⟨Nat.zero_le _, fun j hj => by omega⟩
  · refine Le.of [] [] rfl rfl rfl rfl ?_ ?_ ?_
    all_goals (try refine amL (h := ?_))
    all_goals (try with_reducible apply True.intro)
  · intro i hi
    (try refine am (h := ?_)); (try with_reducible apply True.intro)
    repeat' (first | (with_reducible refine And.intro ?_ ?_) | (with_reducible intro _))
    all_goals try (first | omega | with_reducible rfl | ((with_reducible refine eqId ?_); exact rfl) | with_reducible (first | assumption | exact pl ‹_› | exact pr ‹_› | exact plr ‹_› | exact pll ‹_› | exact prl ‹_› | exact plll ‹_› | exact prll ‹_›))
    · refine FinK.val1 ?_ ?_
      all_goals (try refine amF (h := ?_))
      all_goals (try with_reducible apply True.intro)
      rename_i h2
      exact (decide_eq_false (fun e => h2 (by rw [e]))).symm
    · rename_i h2
      refine ⟨i + 1, ?_, ⟨by omega, fun j hj => ?_⟩, by omega⟩
      · refine Le.of [] [] rfl rfl rfl rfl ?_ ?_ ?_
        all_goals (try refine amL (h := ?_))
        all_goals (try with_reducible apply True.intro)
      · by_cases h3 : j = i
        · rw [h3]; exact h2
        · exact hi.2 j (by omega)
    · refine FinK.val1 ?_ ?_
      all_goals (try refine amF (h := ?_))
      all_goals (try with_reducible apply True.intro)
      exact (decide_eq_true (getD_ext hlen (fun j hj => hi.2 j (by omega)))).symm
set_option maxHeartbeats 4000000 in
theorem specWindowSame (l m : List (List Int)) (u v u' v' : Bool) (h : okL (2 ^ 47) l) : ACalls Try.prog 31 [.agg [aL u v l], .agg [aL u' v' m]] (fun r => r = .val (.one (.bool (decide (l = m))))) := by
  have hl := h.1
  have nt : Try.f31.ntmps = 32 := rfl
  have rs : Try.f31.results = #[.tmp 4] := rfl
  refine ACalls.of_run (m := 400) mixed Try.func31 rfl rfl (Nat.le_of_ble_eq_true rfl) ?_
  simp only [nt, rs]
  clear nt rs
  (try refine am (h := ?_)); (try with_reducible apply True.intro)
  refine ⟨fun h => ?_, fun hlen => ?_⟩
  · refine FinK.val1 ?_ ?_
    all_goals (try refine amF (h := ?_))
    all_goals (try with_reducible apply True.intro)
    exact (decide_eq_false (fun e => h (by rw [e]))).symm
  refine LoopK.intro (Nat) (fun i => [(5, .one (.av (.int .i64 i)))]) (fun i => []) [2, 3] [1, 2] 400 (fun i => i ≤ l.length ∧ ∀ j, j < i → l.getD j [] = m.getD j []) (fun i => l.length - i) (0) ?_ ?_ ?_
  · exact ⟨Nat.zero_le _, fun j hj => by omega⟩
  · refine Le.of [(1, 1), (2, 2)] [] rfl rfl rfl rfl ?_ ?_ ?_
    all_goals (try refine amL (h := ?_))
    all_goals (try with_reducible apply True.intro)
  · intro i hi
    (try refine am (h := ?_)); (try with_reducible apply True.intro)
    repeat' (first | (with_reducible refine And.intro ?_ ?_) | (with_reducible intro _))
    all_goals try (first | omega | with_reducible rfl | ((with_reducible refine eqId ?_); exact rfl) | with_reducible (first | assumption | exact pl ‹_› | exact pr ‹_› | exact plr ‹_› | exact pll ‹_› | exact prl ‹_› | exact plll ‹_› | exact prll ‹_›))
    · have hlt : i < l.length := by assumption
      refine CallE.one (l5SameInts _ _ _ _ _ _ (h.2 _ (getD_mem hlt)).1) (fun _ => amC) rfl ?_
      (try refine am (h := ?_)); (try with_reducible apply True.intro)
      repeat' (first | (with_reducible refine And.intro ?_ ?_) | (with_reducible intro _))
      all_goals try (first | omega | with_reducible rfl | ((with_reducible refine eqId ?_); exact rfl) | with_reducible (first | assumption | exact pl ‹_› | exact pr ‹_› | exact plr ‹_› | exact pll ‹_› | exact prl ‹_› | exact plll ‹_› | exact prll ‹_›))
      · refine FinK.val1 ?_ ?_
        all_goals (try refine amF (h := ?_))
        all_goals (try with_reducible apply True.intro)
        rename_i h2
        exact (decide_eq_false (fun e => h2 (by rw [e]))).symm
      · rename_i h2
        refine ⟨i + 1, ?_, ⟨by omega, fun j hj => ?_⟩, by omega⟩
        · refine Le.of [(1, 1), (2, 2)] [] rfl rfl rfl rfl ?_ ?_ ?_
          all_goals (try refine amL (h := ?_))
          all_goals (try with_reducible apply True.intro)
        · by_cases h3 : j = i
          · rw [h3]; exact h2
          · exact hi.2 j (by omega)
    · refine FinK.val1 ?_ ?_
      all_goals (try refine amF (h := ?_))
      all_goals (try with_reducible apply True.intro)
      exact (decide_eq_true (getD_ext hlen (fun j hj => hi.2 j (by omega)))).symm
end Go.AM
