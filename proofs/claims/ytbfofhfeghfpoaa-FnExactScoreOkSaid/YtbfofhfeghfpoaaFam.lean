/- Lemmas for the proof of this claim. -/
import Derived.Test.YtbfofhfeghfpoaaTy
namespace Go.AM
open Go Go.Proofs
set_option maxRecDepth 100000
set_option maxHeartbeats 2000000 in
theorem szIntS (l : List (Int)) (left : Int) (u  : Bool) (nl : Option Bool) (h : okI (2 ^ 47) l) (h0 : 0 ≤ left) (h1 : left ≤ 2 ^ 40) : ACalls Try.prog 96 [.one (.sl u nl 1 l.length (fI l)), .one (.int .i64 left)] (fun r => r = .val (.one (.int .i64 (less left (l.length))))) := by
  have hl := h.1
  have nt : Try.f96.ntmps = 12 := rfl
  have rs : Try.f96.results = #[.tmp 4] := rfl
  refine ACalls.of_run (m := 400) mixed Try.func96 rfl rfl (Nat.le_of_ble_eq_true rfl) ?_
  simp only [nt, rs]
  clear nt rs
  (try refine am (h := ?_)); (try with_reducible apply True.intro)
  repeat' (first | (with_reducible refine And.intro ?_ ?_) | (with_reducible intro _))
  all_goals try (first | omega | with_reducible rfl | ((with_reducible refine eqId ?_); exact rfl) | with_reducible (first | assumption | exact pl ‹_› | exact pr ‹_› | exact plr ‹_› | exact pll ‹_› | exact prl ‹_› | exact plll ‹_› | exact prll ‹_›))
  · refine FinK.val1 ?_ ?_
    all_goals (try refine amF (h := ?_))
    all_goals (try with_reducible apply True.intro)
    exact (if_pos (by omega)).symm
  refine FinK.val1 ?_ ?_
  all_goals (try refine amF (h := ?_))
  all_goals (try with_reducible apply True.intro)
  exact (if_neg (by omega)).symm
set_option maxHeartbeats 2000000 in
theorem toIntS (l : List (Int)) (u  : Bool) (nl : Option Bool) (h : okI (2 ^ 40) l) : ACalls Try.prog 34 [.one (.sl u nl 1 l.length (fI l))] (fun r => r = .val (.one (aI true l))) := by
  have hl := h.1
  have nt : Try.f34.ntmps = 22 := rfl
  have rs : Try.f34.results = #[.tmp 2] := rfl
  refine ACalls.of_run (m := 400) mixed Try.func34 rfl rfl (Nat.le_of_ble_eq_true rfl) ?_
  simp only [nt, rs]
  clear nt rs
  (try refine am (h := ?_)); (try with_reducible apply True.intro)
  repeat' (first | (with_reducible refine And.intro ?_ ?_) | (with_reducible intro _))
  all_goals try (first | omega | with_reducible rfl | ((with_reducible refine eqId ?_); exact rfl) | with_reducible (first | assumption | exact pl ‹_› | exact pr ‹_› | exact plr ‹_› | exact pll ‹_› | exact prl ‹_› | exact plll ‹_› | exact prll ‹_›))
  refine LoopK.auto (Nat) (fun i => [(4, .one (.av (.int .i64 i)))]) (fun i => [(4, ⟨.sl true none 1 l.length (fun i' j => gl .junk (if i' < i then [.int .i64 (l.getD i' 0)] else [.int .i64 0]) j), []⟩)]) [0, 3] (k0 := ?k01) (keepH := ?kh1) 7 (fun i => i ≤ l.length) (fun i => l.length - i) (0) ?kea1 ?keb1 ?_ ?_ ?_
  case kea1 => exact amN
  case keb1 => exact amN
  · exact Nat.zero_le _
  · refine Le.of [(4, 4)] [] rfl rfl rfl rfl ?_ ?_ ?_
    all_goals (try refine amL (h := ?_))
    all_goals (try with_reducible apply True.intro)
    exact ALe.of (.inl rfl) rfl (fun i hi j hj => by rw [if_neg (by omega)]; exact .refl _)
  · intro i hi
    (try refine am (h := ?_)); (try with_reducible apply True.intro)
    repeat' (first | (with_reducible refine And.intro ?_ ?_) | (with_reducible intro _))
    all_goals try (first | omega | with_reducible rfl | ((with_reducible refine eqId ?_); exact rfl) | with_reducible (first | assumption | exact pl ‹_› | exact pr ‹_› | exact plr ‹_› | exact pll ‹_› | exact prl ‹_› | exact plll ‹_› | exact prll ‹_›))
    · have hlt : i < l.length := by assumption
      refine ⟨i + 1, ?_, by omega, by omega⟩
      refine Le.of [(4, 4)] [] rfl rfl rfl rfl ?_ ?_ ?_
      all_goals (try refine amL (h := ?_))
      all_goals (try with_reducible apply True.intro)
      refine ALe.of (.inl rfl) rfl (fun i' hi j hj => ?_)
      exact rowsLe (E := fun i' => [.int .i64 (l.getD i' 0)]) hj rfl
    · refine FinK.val1 ?_ ?_
      all_goals (try refine amF (h := ?_))
      all_goals (try with_reducible apply True.intro)
      refine ALe.of (.inl rfl) rfl (fun i' hi j hj => ?_)
      rw [if_pos (by omega)]
      exact .refl _
set_option maxHeartbeats 2000000 in
theorem eqIntS (l m : List (Int)) (u u' : Bool) (nl ml : Option Bool) (h : okI (2 ^ 47) l) : ACalls Try.prog 37 [.one (.sl u nl 1 l.length (fI l)), .one (.sl u' ml 1 m.length (fI m))] (fun r => r = .val (.one (.bool (decide (l = m))))) := by
  have hl := h.1
  have nt : Try.f37.ntmps = 26 := rfl
  have rs : Try.f37.results = #[.tmp 4] := rfl
  refine ACalls.of_run (m := 400) mixed Try.func37 rfl rfl (Nat.le_of_ble_eq_true rfl) ?_
  simp only [nt, rs]
  clear nt rs
  (try refine am (h := ?_)); (try with_reducible apply True.intro)
  refine ⟨fun h => ?_, fun hlen => ?_⟩
  · refine FinK.val1 ?_ ?_
    all_goals (try refine amF (h := ?_))
    all_goals (try with_reducible apply True.intro)
    exact (decide_eq_false (fun e => h (by rw [e]))).symm
  refine LoopK.auto (Nat) (fun i => [(5, .one (.av (.int .i64 i)))]) (fun i => []) [0, 1] (k0 := ?k02) (keepH := ?kh2) 7 (fun i => i ≤ l.length ∧ ∀ j, j < i → l.getD j 0 = m.getD j 0) (fun i => l.length - i) (0) ?kea2 ?keb2 ?_ ?_ ?_
  case kea2 => exact amN
  case keb2 => exact amN
  · exact ⟨Nat.zero_le _, fun j hj => by omega⟩
  · refine Le.of [] [] rfl rfl rfl rfl ?_ ?_ ?_
    all_goals (try refine amL (h := ?_))
    all_goals (try with_reducible apply True.intro)
  · intro i hi
    (try refine am (h := ?_)); (try with_reducible apply True.intro)
    repeat' (first | (with_reducible refine And.intro ?_ ?_) | (with_reducible intro _))
    all_goals try (first | omega | with_reducible rfl | ((with_reducible refine eqId ?_); exact rfl) | with_reducible (first | assumption | exact pl ‹_› | exact pr ‹_› | exact plr ‹_› | exact pll ‹_› | exact prl ‹_› | exact plll ‹_› | exact prll ‹_›))
    · refine FinK.val1 ?_ ?_
      all_goals (try refine amF (h := ?_))
      all_goals (try with_reducible apply True.intro)
      rename_i h2
      exact (decide_eq_false (fun e => h2 (by rw [e]))).symm
    · rename_i h2
      refine ⟨i + 1, ?_, ⟨by omega, fun j hj => ?_⟩, by omega⟩
      · refine Le.of [] [] rfl rfl rfl rfl ?_ ?_ ?_
        all_goals (try refine amL (h := ?_))
        all_goals (try with_reducible apply True.intro)
      · by_cases h3 : j = i
        · rw [h3]; first | exact h2 | exact UInt8.toNat_inj.1 (by omega) | exact UInt8.toNat_inj.1 (by exact_mod_cast h2)
        · exact hi.2 j (by omega)
    · refine FinK.val1 ?_ ?_
      all_goals (try refine amF (h := ?_))
      all_goals (try with_reducible apply True.intro)
      exact (decide_eq_true (getD_ext hlen (fun j hj => hi.2 j (by omega)))).symm
set_option maxHeartbeats 2000000 in
theorem szIntSS (l : List (List (Int))) (left : Int) (u v : Bool) (nl : Option Bool) (h : okL (2 ^ 47) l) (h0 : 0 ≤ left) (h1 : left ≤ 2 ^ 40) : ACalls Try.prog 60 [.one (.sl u nl 1 l.length (fL v l)), .one (.int .i64 left)] (fun r => r = .val (.one (.int .i64 (less left (szW l))))) := by
  have hl := h.1
  have nt : Try.f60.ntmps = 27 := rfl
  have rs : Try.f60.results = #[.tmp 4] := rfl
  refine ACalls.of_run (m := 400) mixed Try.func60 rfl rfl (Nat.le_of_ble_eq_true rfl) ?_
  simp only [nt, rs]
  clear nt rs
  (try refine am (h := ?_)); (try with_reducible apply True.intro)
  repeat' (first | (with_reducible refine And.intro ?_ ?_) | (with_reducible intro _))
  all_goals try (first | omega | with_reducible rfl | ((with_reducible refine eqId ?_); exact rfl) | with_reducible (first | assumption | exact pl ‹_› | exact pr ‹_› | exact plr ‹_› | exact pll ‹_› | exact prl ‹_› | exact plll ‹_› | exact prll ‹_›))
  · refine FinK.val1 ?_ ?_
    all_goals (try refine amF (h := ?_))
    all_goals (try with_reducible apply True.intro)
    unfold szW
    exact (if_pos (by omega)).symm
  refine LoopK.auto (Nat) (fun i => [(1, .one (.av (.int .i64 (left - l.length - sm List.length (l.take i))))), (5, .one (.av (.int .i64 i)))]) (fun i => []) [0] (k0 := ?k03) (keepH := ?kh3) 7 (fun i => i ≤ l.length ∧ 0 ≤ left - l.length - sm List.length (l.take i)) (fun i => l.length - i) (0) ?kea3 ?keb3 ?_ ?_ ?_
  case kea3 => exact amN
  case keb3 => exact amN
  · exact ⟨Nat.zero_le _, by simp [sm]; omega⟩
  · refine Le.of [] [] rfl rfl rfl rfl ?_ ?_ ?_
    all_goals (try refine amL (h := ?_))
    all_goals (try with_reducible apply True.intro)
    simp [sm]
  · rintro i ⟨hi, hs⟩
    (try refine am (h := ?_)); (try with_reducible apply True.intro)
    skip
    repeat' (first | (with_reducible refine And.intro ?_ ?_) | (with_reducible intro _))
    all_goals try (first | omega | with_reducible rfl | ((with_reducible refine eqId ?_); exact rfl) | with_reducible (first | assumption | exact pl ‹_› | exact pr ‹_› | exact plr ‹_› | exact pll ‹_› | exact prl ‹_› | exact plll ‹_› | exact prll ‹_›))
    · have hlt : i < l.length := by assumption
      have ht := sm_take (f := List.length) (d := []) hlt
      have hm := h.2 _ (getD_mem (d := []) hlt)
      have ht2 := sm_le (f := List.length) (l := l) (i := i + 1)
      first | refine CallK.one (szIntS _ _ _ _ hm hs (by omega)) (fun _ => amC) ?_ | refine CallE.one (szIntS _ _ _ _ hm hs (by omega)) (fun _ => amC) rfl ?_ | refine CallG.one rfl (fun hg => szIntS _ _ _ _ hm hs (by omega)) ?_ | refine CallEG.one rfl rfl (fun hg => szIntS _ _ _ _ hm hs (by omega)) ?_ | refine CallCE.one (szIntS _ _ _ _ hm hs (by omega)) (fun _ => amC) rfl ?_
      (try refine am (h := ?_)); (try with_reducible apply True.intro)
      rcases less_cases (left - l.length - sm List.length (l.take i)) (List.length (l.getD i [])) with ⟨hc, e⟩ | ⟨hc, e⟩
      · (try refine am (h := ?_)); (try simp only [e]); (try refine am (h := ?_)); (try with_reducible apply True.intro)
        refine FinK.val1 ?_ ?_
        all_goals (try refine amF (h := ?_))
        all_goals (try with_reducible apply True.intro)
        unfold szW tot
        exact (if_pos (by omega)).symm
      · (try refine am (h := ?_)); (try simp only [e]); (try refine am (h := ?_)); (try with_reducible apply True.intro)
        repeat' (first | (with_reducible refine And.intro ?_ ?_) | (with_reducible intro _))
        all_goals try (first | omega | with_reducible rfl | ((with_reducible refine eqId ?_); exact rfl) | with_reducible (first | assumption | exact pl ‹_› | exact pr ‹_› | exact plr ‹_› | exact pll ‹_› | exact prl ‹_› | exact plll ‹_› | exact prll ‹_›))
        refine ⟨i + 1, ?_, ⟨by omega, by omega⟩, by omega⟩
        refine Le.of [] [] rfl rfl rfl rfl ?_ ?_ ?_
        all_goals (try refine amL (h := ?_))
        all_goals (try with_reducible apply True.intro)
        omega
    · refine FinK.val1 ?_ ?_
      all_goals (try refine amF (h := ?_))
      all_goals (try with_reducible apply True.intro)
      have : i = l.length := by omega
      subst this
      rw [List.take_length] at hs ⊢
      unfold szW tot
      exact ((if_neg (by omega)).trans (by omega)).symm
set_option maxHeartbeats 2000000 in
theorem toIntSS (l : List (List (Int))) (u v : Bool) (nl : Option Bool) (h : okL (2 ^ 40) l) : ACalls Try.prog 64 [.one (.sl u nl 1 l.length (fL v l))] (fun r => r = .val (.one (aL true true l))) := by
  have hl := h.1
  have nt : Try.f64.ntmps = 23 := rfl
  have rs : Try.f64.results = #[.tmp 2] := rfl
  refine ACalls.of_run (m := 400) mixed Try.func64 rfl rfl (Nat.le_of_ble_eq_true rfl) ?_
  simp only [nt, rs]
  clear nt rs
  (try refine am (h := ?_)); (try with_reducible apply True.intro)
  repeat' (first | (with_reducible refine And.intro ?_ ?_) | (with_reducible intro _))
  all_goals try (first | omega | with_reducible rfl | ((with_reducible refine eqId ?_); exact rfl) | with_reducible (first | assumption | exact pl ‹_› | exact pr ‹_› | exact plr ‹_› | exact pll ‹_› | exact prl ‹_› | exact plll ‹_› | exact prll ‹_›))
  refine LoopK.auto (Nat) (fun i => [(4, .one (.av (.int .i64 i)))]) (fun i => [(4, ⟨.sl true none 1 l.length (fun i' j => gl .junk (if i' < i then [aI true (l.getD i' [])] else [nilAV]) j), []⟩)]) [0, 3] (k0 := ?k04) (keepH := ?kh4) 7 (fun i => i ≤ l.length) (fun i => l.length - i) (0) ?kea4 ?keb4 ?_ ?_ ?_
  case kea4 => exact amN
  case keb4 => exact amN
  · exact Nat.zero_le _
  · refine Le.of [(4, 4)] [] rfl rfl rfl rfl ?_ ?_ ?_
    all_goals (try refine amL (h := ?_))
    all_goals (try with_reducible apply True.intro)
    exact ALe.of (.inl rfl) rfl (fun i hi j hj => by rw [if_neg (by omega)]; exact .refl _)
  · intro i hi
    (try refine am (h := ?_)); (try with_reducible apply True.intro)
    repeat' (first | (with_reducible refine And.intro ?_ ?_) | (with_reducible intro _))
    all_goals try (first | omega | with_reducible rfl | ((with_reducible refine eqId ?_); exact rfl) | with_reducible (first | assumption | exact pl ‹_› | exact pr ‹_› | exact plr ‹_› | exact pll ‹_› | exact prl ‹_› | exact plll ‹_› | exact prll ‹_›))
    · have hlt : i < l.length := by assumption
      first | refine CallK.one (toIntS _ _ _ (h.2 _ (getD_mem hlt))) (fun _ => amC) ?_ | refine CallE.one (toIntS _ _ _ (h.2 _ (getD_mem hlt))) (fun _ => amC) rfl ?_ | refine CallG.one rfl (fun hg => toIntS _ _ _ (h.2 _ (getD_mem hlt))) ?_ | refine CallEG.one rfl rfl (fun hg => toIntS _ _ _ (h.2 _ (getD_mem hlt))) ?_ | refine CallCE.one (toIntS _ _ _ (h.2 _ (getD_mem hlt))) (fun _ => amC) rfl ?_
      (try refine am (h := ?_)); (try with_reducible apply True.intro)
      repeat' (first | (with_reducible refine And.intro ?_ ?_) | (with_reducible intro _))
      all_goals try (first | omega | with_reducible rfl | ((with_reducible refine eqId ?_); exact rfl) | with_reducible (first | assumption | exact pl ‹_› | exact pr ‹_› | exact plr ‹_› | exact pll ‹_› | exact prl ‹_› | exact plll ‹_› | exact prll ‹_›))
      refine ⟨i + 1, ?_, by omega, by omega⟩
      refine Le.of [(4, 4)] [] rfl rfl rfl rfl ?_ ?_ ?_
      all_goals (try refine amL (h := ?_))
      all_goals (try with_reducible apply True.intro)
      refine ALe.of (.inl rfl) rfl (fun i' hi j hj => ?_)
      exact rowsLe (E := fun i' => [aI true (l.getD i' [])]) hj rfl
    · refine FinK.val1 ?_ ?_
      all_goals (try refine amF (h := ?_))
      all_goals (try with_reducible apply True.intro)
      refine ALe.of (.inl rfl) rfl (fun i' hi j hj => ?_)
      rw [if_pos (by omega)]
      exact .refl _
set_option maxHeartbeats 2000000 in
theorem eqIntSS (l m : List (List (Int))) (u u' v v' : Bool) (nl ml : Option Bool) (h : okL (2 ^ 47) l) : ACalls Try.prog 66 [.one (.sl u nl 1 l.length (fL v l)), .one (.sl u' ml 1 m.length (fL v' m))] (fun r => r = .val (.one (.bool (decide (l = m))))) := by
  have hl := h.1
  have nt : Try.f66.ntmps = 27 := rfl
  have rs : Try.f66.results = #[.tmp 4] := rfl
  refine ACalls.of_run (m := 400) mixed Try.func66 rfl rfl (Nat.le_of_ble_eq_true rfl) ?_
  simp only [nt, rs]
  clear nt rs
  (try refine am (h := ?_)); (try with_reducible apply True.intro)
  refine ⟨fun h => ?_, fun hlen => ?_⟩
  · refine FinK.val1 ?_ ?_
    all_goals (try refine amF (h := ?_))
    all_goals (try with_reducible apply True.intro)
    exact (decide_eq_false (fun e => h (by rw [e]))).symm
  refine LoopK.auto (Nat) (fun i => [(5, .one (.av (.int .i64 i)))]) (fun i => []) [0, 1] (k0 := ?k05) (keepH := ?kh5) 7 (fun i => i ≤ l.length ∧ ∀ j, j < i → l.getD j [] = m.getD j []) (fun i => l.length - i) (0) ?kea5 ?keb5 ?_ ?_ ?_
  case kea5 => exact amN
  case keb5 => exact amN
  · exact ⟨Nat.zero_le _, fun j hj => by omega⟩
  · refine Le.of [] [] rfl rfl rfl rfl ?_ ?_ ?_
    all_goals (try refine amL (h := ?_))
    all_goals (try with_reducible apply True.intro)
  · intro i hi
    (try refine am (h := ?_)); (try with_reducible apply True.intro)
    repeat' (first | (with_reducible refine And.intro ?_ ?_) | (with_reducible intro _))
    all_goals try (first | omega | with_reducible rfl | ((with_reducible refine eqId ?_); exact rfl) | with_reducible (first | assumption | exact pl ‹_› | exact pr ‹_› | exact plr ‹_› | exact pll ‹_› | exact prl ‹_› | exact plll ‹_› | exact prll ‹_›))
    · have hlt : i < l.length := by assumption
      refine CallE.one (eqIntS _ _ _ _ _ _ (h.2 _ (getD_mem hlt))) (fun _ => amC) rfl ?_
      (try refine am (h := ?_)); (try with_reducible apply True.intro)
      repeat' (first | (with_reducible refine And.intro ?_ ?_) | (with_reducible intro _))
      all_goals try (first | omega | with_reducible rfl | ((with_reducible refine eqId ?_); exact rfl) | with_reducible (first | assumption | exact pl ‹_› | exact pr ‹_› | exact plr ‹_› | exact pll ‹_› | exact prl ‹_› | exact plll ‹_› | exact prll ‹_›))
      · refine FinK.val1 ?_ ?_
        all_goals (try refine amF (h := ?_))
        all_goals (try with_reducible apply True.intro)
        rename_i h2
        exact (decide_eq_false (fun e => h2 (by rw [e]))).symm
      · rename_i h2
        refine ⟨i + 1, ?_, ⟨by omega, fun j hj => ?_⟩, by omega⟩
        · refine Le.of [] [] rfl rfl rfl rfl ?_ ?_ ?_
          all_goals (try refine amL (h := ?_))
          all_goals (try with_reducible apply True.intro)
        · by_cases h3 : j = i
          · rw [h3]; exact h2
          · exact hi.2 j (by omega)
    · refine FinK.val1 ?_ ?_
      all_goals (try refine amF (h := ?_))
      all_goals (try with_reducible apply True.intro)
      exact (decide_eq_true (getD_ext hlen (fun j hj => hi.2 j (by omega)))).symm
set_option maxHeartbeats 2000000 in
theorem toPair (x : DPair) : ACalls Try.prog 97 [.agg (cPair x)] (fun r => r = .val (.agg (cPair x))) := by
  have nt : Try.f97.ntmps = 11 := rfl
  have rs : Try.f97.results = #[.cell 2 85] := rfl
  refine ACalls.of_run (m := 400) mixed Try.func97 rfl rfl (Nat.le_of_ble_eq_true rfl) ?_
  simp only [nt, rs]
  clear nt rs
  (try refine am (h := ?_)); (try with_reducible apply True.intro)
  refine FinK.cell1 ?_ ?_ ?_
  all_goals (try refine amF (h := ?_))
  all_goals (try with_reducible apply True.intro)
set_option maxHeartbeats 2000000 in
theorem eqPair (x y : DPair) : ACalls Try.prog 98 [.agg (cPair x), .agg (cPair y)] (fun r => r = .val (.one (.bool (decide (x = y))))) := by
  obtain ⟨x0, x1⟩ := x
  obtain ⟨y0, y1⟩ := y
  have nt : Try.f98.ntmps = 15 := rfl
  have rs : Try.f98.results = #[.tmp 4] := rfl
  refine ACalls.of_run (m := 400) mixed Try.func98 rfl rfl (Nat.le_of_ble_eq_true rfl) ?_
  simp only [nt, rs]
  clear nt rs
  (try refine am (h := ?_)); (try with_reducible apply True.intro)
  repeat' (first | (with_reducible refine And.intro ?_ ?_) | (with_reducible intro _))
  all_goals try (first | omega | with_reducible rfl | ((with_reducible refine eqId ?_); exact rfl) | with_reducible (first | assumption | exact pl ‹_› | exact pr ‹_› | exact plr ‹_› | exact pll ‹_› | exact prl ‹_› | exact plll ‹_› | exact prll ‹_›))
  · refine FinK.val1 ?_ ?_
    all_goals (try refine amF (h := ?_))
    all_goals (try with_reducible apply True.intro)
    (first | rfl | (simp_all; done) | (simp_all [Bool.and_assoc]; done) | (simp_all [Bool.and_comm]; done))
  repeat' (first | (with_reducible refine And.intro ?_ ?_) | (with_reducible intro _))
  all_goals try (first | omega | with_reducible rfl | ((with_reducible refine eqId ?_); exact rfl) | with_reducible (first | assumption | exact pl ‹_› | exact pr ‹_› | exact plr ‹_› | exact pll ‹_› | exact prl ‹_› | exact plll ‹_› | exact prll ‹_›))
  · refine FinK.val1 ?_ ?_
    all_goals (try refine amF (h := ?_))
    all_goals (try with_reducible apply True.intro)
    (first | rfl | (simp_all; done) | (simp_all [Bool.and_assoc]; done) | (simp_all [Bool.and_comm]; done))
  refine FinK.val1 ?_ ?_
  all_goals (try refine amF (h := ?_))
  all_goals (try with_reducible apply True.intro)
  (first | rfl | (simp_all; done) | (simp_all [Bool.and_assoc]; done) | (simp_all [Bool.and_comm]; done))
set_option maxHeartbeats 2000000 in
theorem szPairS (l : List (DPair)) (left : Int) (u  : Bool) (nl : Option Bool) (h : okPairS (2 ^ 47) l) (h0 : 0 ≤ left) (h1 : left ≤ 2 ^ 40) : ACalls Try.prog 61 [.one (.sl u nl 2 l.length (fPair l)), .one (.int .i64 left)] (fun r => r = .val (.one (.int .i64 (less left (l.length))))) := by
  have hl := h.1
  have nt : Try.f61.ntmps = 12 := rfl
  have rs : Try.f61.results = #[.tmp 4] := rfl
  refine ACalls.of_run (m := 400) mixed Try.func61 rfl rfl (Nat.le_of_ble_eq_true rfl) ?_
  simp only [nt, rs]
  clear nt rs
  (try refine am (h := ?_)); (try with_reducible apply True.intro)
  repeat' (first | (with_reducible refine And.intro ?_ ?_) | (with_reducible intro _))
  all_goals try (first | omega | with_reducible rfl | ((with_reducible refine eqId ?_); exact rfl) | with_reducible (first | assumption | exact pl ‹_› | exact pr ‹_› | exact plr ‹_› | exact pll ‹_› | exact prl ‹_› | exact plll ‹_› | exact prll ‹_›))
  · refine FinK.val1 ?_ ?_
    all_goals (try refine amF (h := ?_))
    all_goals (try with_reducible apply True.intro)
    exact (if_pos (by omega)).symm
  refine FinK.val1 ?_ ?_
  all_goals (try refine amF (h := ?_))
  all_goals (try with_reducible apply True.intro)
  exact (if_neg (by omega)).symm
set_option maxHeartbeats 2000000 in
theorem toPairS (l : List (DPair)) (u  : Bool) (nl : Option Bool) (h : okPairS (2 ^ 40) l) : ACalls Try.prog 65 [.one (.sl u nl 2 l.length (fPair l))] (fun r => r = .val (.one (aPair true l))) := by
  have hl := h.1
  have nt : Try.f65.ntmps = 23 := rfl
  have rs : Try.f65.results = #[.tmp 2] := rfl
  refine ACalls.of_run (m := 400) mixed Try.func65 rfl rfl (Nat.le_of_ble_eq_true rfl) ?_
  simp only [nt, rs]
  clear nt rs
  (try refine am (h := ?_)); (try with_reducible apply True.intro)
  repeat' (first | (with_reducible refine And.intro ?_ ?_) | (with_reducible intro _))
  all_goals try (first | omega | with_reducible rfl | ((with_reducible refine eqId ?_); exact rfl) | with_reducible (first | assumption | exact pl ‹_› | exact pr ‹_› | exact plr ‹_› | exact pll ‹_› | exact prl ‹_› | exact plll ‹_› | exact prll ‹_›))
  refine LoopK.auto (Nat) (fun i => [(4, .one (.av (.int .i64 i)))]) (fun i => [(4, ⟨.sl true none 2 l.length (fun i' j => gl .junk (if i' < i then cPair (l.getD i' default) else [.int .i64 0, .int .i64 0]) j), []⟩)]) [0, 3] (k0 := ?k06) (keepH := ?kh6) 7 (fun i => i ≤ l.length) (fun i => l.length - i) (0) ?kea6 ?keb6 ?_ ?_ ?_
  case kea6 => exact amN
  case keb6 => exact amN
  · exact Nat.zero_le _
  · refine Le.of [(4, 4)] [] rfl rfl rfl rfl ?_ ?_ ?_
    all_goals (try refine amL (h := ?_))
    all_goals (try with_reducible apply True.intro)
    exact ALe.of (.inl rfl) rfl (fun i hi j hj => by rw [if_neg (by omega)]; exact .refl _)
  · intro i hi
    (try refine am (h := ?_)); (try with_reducible apply True.intro)
    repeat' (first | (with_reducible refine And.intro ?_ ?_) | (with_reducible intro _))
    all_goals try (first | omega | with_reducible rfl | ((with_reducible refine eqId ?_); exact rfl) | with_reducible (first | assumption | exact pl ‹_› | exact pr ‹_› | exact plr ‹_› | exact pll ‹_› | exact prl ‹_› | exact plll ‹_› | exact prll ‹_›))
    · have hlt : i < l.length := by assumption
      first | refine CallK.one (toPair _) (fun _ => amC) ?_ | refine CallE.one (toPair _) (fun _ => amC) rfl ?_ | refine CallG.one rfl (fun hg => toPair _) ?_ | refine CallEG.one rfl rfl (fun hg => toPair _) ?_ | refine CallCE.one (toPair _) (fun _ => amC) rfl ?_
      (try refine am (h := ?_)); (try with_reducible apply True.intro)
      repeat' (first | (with_reducible refine And.intro ?_ ?_) | (with_reducible intro _))
      all_goals try (first | omega | with_reducible rfl | ((with_reducible refine eqId ?_); exact rfl) | with_reducible (first | assumption | exact pl ‹_› | exact pr ‹_› | exact plr ‹_› | exact pll ‹_› | exact prl ‹_› | exact plll ‹_› | exact prll ‹_›))
      refine ⟨i + 1, ?_, by omega, by omega⟩
      refine Le.of [(4, 4)] [] rfl rfl rfl rfl ?_ ?_ ?_
      all_goals (try refine amL (h := ?_))
      all_goals (try with_reducible apply True.intro)
      refine ALe.of (.inl rfl) rfl (fun i' hi j hj => ?_)
      exact rowsLe (E := fun i' => cPair (l.getD i' default)) hj rfl
    · refine FinK.val1 ?_ ?_
      all_goals (try refine amF (h := ?_))
      all_goals (try with_reducible apply True.intro)
      refine ALe.of (.inl rfl) rfl (fun i' hi j hj => ?_)
      rw [if_pos (by omega)]
      exact .refl _
set_option maxHeartbeats 2000000 in
theorem eqPairS (l m : List (DPair)) (u u' : Bool) (nl ml : Option Bool) (h : okPairS (2 ^ 47) l) : ACalls Try.prog 67 [.one (.sl u nl 2 l.length (fPair l)), .one (.sl u' ml 2 m.length (fPair m))] (fun r => r = .val (.one (.bool (decide (l = m))))) := by
  have hl := h.1
  have nt : Try.f67.ntmps = 27 := rfl
  have rs : Try.f67.results = #[.tmp 4] := rfl
  refine ACalls.of_run (m := 400) mixed Try.func67 rfl rfl (Nat.le_of_ble_eq_true rfl) ?_
  simp only [nt, rs]
  clear nt rs
  (try refine am (h := ?_)); (try with_reducible apply True.intro)
  refine ⟨fun h => ?_, fun hlen => ?_⟩
  · refine FinK.val1 ?_ ?_
    all_goals (try refine amF (h := ?_))
    all_goals (try with_reducible apply True.intro)
    exact (decide_eq_false (fun e => h (by rw [e]))).symm
  refine LoopK.auto (Nat) (fun i => [(5, .one (.av (.int .i64 i)))]) (fun i => []) [0, 1] (k0 := ?k07) (keepH := ?kh7) 7 (fun i => i ≤ l.length ∧ ∀ j, j < i → l.getD j default = m.getD j default) (fun i => l.length - i) (0) ?kea7 ?keb7 ?_ ?_ ?_
  case kea7 => exact amN
  case keb7 => exact amN
  · exact ⟨Nat.zero_le _, fun j hj => by omega⟩
  · refine Le.of [] [] rfl rfl rfl rfl ?_ ?_ ?_
    all_goals (try refine amL (h := ?_))
    all_goals (try with_reducible apply True.intro)
  · intro i hi
    (try refine am (h := ?_)); (try with_reducible apply True.intro)
    repeat' (first | (with_reducible refine And.intro ?_ ?_) | (with_reducible intro _))
    all_goals try (first | omega | with_reducible rfl | ((with_reducible refine eqId ?_); exact rfl) | with_reducible (first | assumption | exact pl ‹_› | exact pr ‹_› | exact plr ‹_› | exact pll ‹_› | exact prl ‹_› | exact plll ‹_› | exact prll ‹_›))
    · have hlt : i < l.length := by assumption
      refine CallE.one (eqPair _ _) (fun _ => amC) rfl ?_
      (try refine am (h := ?_)); (try with_reducible apply True.intro)
      repeat' (first | (with_reducible refine And.intro ?_ ?_) | (with_reducible intro _))
      all_goals try (first | omega | with_reducible rfl | ((with_reducible refine eqId ?_); exact rfl) | with_reducible (first | assumption | exact pl ‹_› | exact pr ‹_› | exact plr ‹_› | exact pll ‹_› | exact prl ‹_› | exact plll ‹_› | exact prll ‹_›))
      · refine FinK.val1 ?_ ?_
        all_goals (try refine amF (h := ?_))
        all_goals (try with_reducible apply True.intro)
        rename_i h2
        exact (decide_eq_false (fun e => h2 (by rw [e]))).symm
      · rename_i h2
        refine ⟨i + 1, ?_, ⟨by omega, fun j hj => ?_⟩, by omega⟩
        · refine Le.of [] [] rfl rfl rfl rfl ?_ ?_ ?_
          all_goals (try refine amL (h := ?_))
          all_goals (try with_reducible apply True.intro)
        · by_cases h3 : j = i
          · rw [h3]; exact h2
          · exact hi.2 j (by omega)
    · refine FinK.val1 ?_ ?_
      all_goals (try refine amF (h := ?_))
      all_goals (try with_reducible apply True.intro)
      exact (decide_eq_true (getD_ext hlen (fun j hj => hi.2 j (by omega)))).symm
set_option maxHeartbeats 2000000 in
theorem szScore (x : DScore) (left : Int) (u v : Bool) (h : okScore (2 ^ 47) x) (h0 : 0 ≤ left) (h1 : left ≤ 2 ^ 40) : ACalls Try.prog 23 [.agg (cScore u v x), .one (.int .i64 left)] (fun r => r = .val (.one (.int .i64 (less left (zScore x))))) := by
  have hz : zScore x = szW x.table + x.last.length := rfl
  have nt : Try.f23.ntmps = 18 := rfl
  have rs : Try.f23.results = #[.tmp 4] := rfl
  refine ACalls.of_run (m := 400) mixed Try.func23 rfl rfl (Nat.le_of_ble_eq_true rfl) ?_
  simp only [nt, rs]
  clear nt rs
  (try refine am (h := ?_)); (try with_reducible apply True.intro)
  first | refine CallK.one (szIntSS x.table left _ _ _ h.1 (by omega) (by omega)) (fun _ => amC) ?_ | refine CallE.one (szIntSS x.table left _ _ _ h.1 (by omega) (by omega)) (fun _ => amC) rfl ?_ | refine CallG.one rfl (fun hg => szIntSS x.table left _ _ _ h.1 (by omega) (by omega)) ?_ | refine CallEG.one rfl rfl (fun hg => szIntSS x.table left _ _ _ h.1 (by omega) (by omega)) ?_ | refine CallCE.one (szIntSS x.table left _ _ _ h.1 (by omega) (by omega)) (fun _ => amC) rfl ?_
  (try refine am (h := ?_)); (try with_reducible apply True.intro)
  rcases less_cases left (szW x.table) with ⟨hc0, e⟩ | ⟨hc0, e⟩
  · (try refine am (h := ?_)); (try simp only [e]); (try refine am (h := ?_)); (try with_reducible apply True.intro)
    refine FinK.val1 ?_ ?_
    all_goals (try refine amF (h := ?_))
    all_goals (try with_reducible apply True.intro)
    first | done | exact (if_pos (by omega)).symm
  (try refine am (h := ?_)); (try simp only [e]); (try refine am (h := ?_)); (try with_reducible apply True.intro)
  repeat' (first | (with_reducible refine And.intro ?_ ?_) | (with_reducible intro _))
  all_goals try (first | omega | with_reducible rfl | ((with_reducible refine eqId ?_); exact rfl) | with_reducible (first | assumption | exact pl ‹_› | exact pr ‹_› | exact plr ‹_› | exact pll ‹_› | exact prl ‹_› | exact plll ‹_› | exact prll ‹_›))
  first | refine CallK.one (szPairS x.last (left - (szW x.table : Nat)) _ _ h.2 (by omega) (by omega)) (fun _ => amC) ?_ | refine CallE.one (szPairS x.last (left - (szW x.table : Nat)) _ _ h.2 (by omega) (by omega)) (fun _ => amC) rfl ?_ | refine CallG.one rfl (fun hg => szPairS x.last (left - (szW x.table : Nat)) _ _ h.2 (by omega) (by omega)) ?_ | refine CallEG.one rfl rfl (fun hg => szPairS x.last (left - (szW x.table : Nat)) _ _ h.2 (by omega) (by omega)) ?_ | refine CallCE.one (szPairS x.last (left - (szW x.table : Nat)) _ _ h.2 (by omega) (by omega)) (fun _ => amC) rfl ?_
  (try refine am (h := ?_)); (try with_reducible apply True.intro)
  rcases less_cases (left - (szW x.table : Nat)) (x.last.length) with ⟨hc1, e⟩ | ⟨hc1, e⟩
  · (try refine am (h := ?_)); (try simp only [e]); (try refine am (h := ?_)); (try with_reducible apply True.intro)
    refine FinK.val1 ?_ ?_
    all_goals (try refine amF (h := ?_))
    all_goals (try with_reducible apply True.intro)
    first | done | exact (if_pos (by omega)).symm
  (try refine am (h := ?_)); (try simp only [e]); (try refine am (h := ?_)); (try with_reducible apply True.intro)
  repeat' (first | (with_reducible refine And.intro ?_ ?_) | (with_reducible intro _))
  all_goals try (first | omega | with_reducible rfl | ((with_reducible refine eqId ?_); exact rfl) | with_reducible (first | assumption | exact pl ‹_› | exact pr ‹_› | exact plr ‹_› | exact pll ‹_› | exact prl ‹_› | exact plll ‹_› | exact prll ‹_›))
  refine FinK.val1 ?_ ?_
  all_goals (try refine amF (h := ?_))
  all_goals (try with_reducible apply True.intro)
  first | done | exact ((if_neg (by omega)).trans (by omega)).symm
set_option maxHeartbeats 2000000 in
theorem toScore (x : DScore) (u v : Bool) (h : okScore (2 ^ 40) x) : ACalls Try.prog 25 [.agg (cScore u v x)] (fun r => r = .val (.agg (cScore true true x))) := by
  have nt : Try.f25.ntmps = 13 := rfl
  have rs : Try.f25.results = #[.cell 2 33] := rfl
  refine ACalls.of_run (m := 400) mixed Try.func25 rfl rfl (Nat.le_of_ble_eq_true rfl) ?_
  simp only [nt, rs]
  clear nt rs
  (try refine am (h := ?_)); (try with_reducible apply True.intro)
  first | refine CallK.one (toIntSS x.table _ _ _ h.1) (fun _ => amC) ?_ | refine CallE.one (toIntSS x.table _ _ _ h.1) (fun _ => amC) rfl ?_ | refine CallG.one rfl (fun hg => toIntSS x.table _ _ _ h.1) ?_ | refine CallEG.one rfl rfl (fun hg => toIntSS x.table _ _ _ h.1) ?_ | refine CallCE.one (toIntSS x.table _ _ _ h.1) (fun _ => amC) rfl ?_
  (try refine am (h := ?_)); (try with_reducible apply True.intro)
  first | refine CallK.one (toPairS x.last _ _ h.2) (fun _ => amC) ?_ | refine CallE.one (toPairS x.last _ _ h.2) (fun _ => amC) rfl ?_ | refine CallG.one rfl (fun hg => toPairS x.last _ _ h.2) ?_ | refine CallEG.one rfl rfl (fun hg => toPairS x.last _ _ h.2) ?_ | refine CallCE.one (toPairS x.last _ _ h.2) (fun _ => amC) rfl ?_
  (try refine am (h := ?_)); (try with_reducible apply True.intro)
  refine FinK.cell1 ?_ ?_ ?_
  all_goals (try refine amF (h := ?_))
  all_goals (try with_reducible apply True.intro)
set_option maxHeartbeats 2000000 in
theorem eqScore (x y : DScore) (u v u' v' : Bool) (h : okScore (2 ^ 47) x) : ACalls Try.prog 26 [.agg (cScore u v x), .agg (cScore u' v' y)] (fun r => r = .val (.one (.bool (decide (x = y))))) := by
  obtain ⟨x0, x1⟩ := x
  obtain ⟨y0, y1⟩ := y
  have nt : Try.f26.ntmps = 17 := rfl
  have rs : Try.f26.results = #[.tmp 4] := rfl
  refine ACalls.of_run (m := 400) mixed Try.func26 rfl rfl (Nat.le_of_ble_eq_true rfl) ?_
  simp only [nt, rs]
  clear nt rs
  (try refine am (h := ?_)); (try with_reducible apply True.intro)
  first | refine CallK.one (eqIntSS x0 y0 _ _ _ _ _ _ h.1) (fun _ => amC) ?_ | refine CallE.one (eqIntSS x0 y0 _ _ _ _ _ _ h.1) (fun _ => amC) rfl ?_ | refine CallG.one rfl (fun hg => eqIntSS x0 y0 _ _ _ _ _ _ h.1) ?_ | refine CallEG.one rfl rfl (fun hg => eqIntSS x0 y0 _ _ _ _ _ _ h.1) ?_ | refine CallCE.one (eqIntSS x0 y0 _ _ _ _ _ _ h.1) (fun _ => amC) rfl ?_
  (try refine am (h := ?_)); (try with_reducible apply True.intro)
  repeat' (first | (with_reducible refine And.intro ?_ ?_) | (with_reducible intro _))
  all_goals try (first | omega | with_reducible rfl | ((with_reducible refine eqId ?_); exact rfl) | with_reducible (first | assumption | exact pl ‹_› | exact pr ‹_› | exact plr ‹_› | exact pll ‹_› | exact prl ‹_› | exact plll ‹_› | exact prll ‹_›))
  · refine FinK.val1 ?_ ?_
    all_goals (try refine amF (h := ?_))
    all_goals (try with_reducible apply True.intro)
    (first | rfl | (simp_all; done) | (simp_all [Bool.and_assoc]; done) | (simp_all [Bool.and_comm]; done))
  first | refine CallK.one (eqPairS x1 y1 _ _ _ _ h.2) (fun _ => amC) ?_ | refine CallE.one (eqPairS x1 y1 _ _ _ _ h.2) (fun _ => amC) rfl ?_ | refine CallG.one rfl (fun hg => eqPairS x1 y1 _ _ _ _ h.2) ?_ | refine CallEG.one rfl rfl (fun hg => eqPairS x1 y1 _ _ _ _ h.2) ?_ | refine CallCE.one (eqPairS x1 y1 _ _ _ _ h.2) (fun _ => amC) rfl ?_
  (try refine am (h := ?_)); (try with_reducible apply True.intro)
  repeat' (first | (with_reducible refine And.intro ?_ ?_) | (with_reducible intro _))
  all_goals try (first | omega | with_reducible rfl | ((with_reducible refine eqId ?_); exact rfl) | with_reducible (first | assumption | exact pl ‹_› | exact pr ‹_› | exact plr ‹_› | exact pll ‹_› | exact prl ‹_› | exact plll ‹_› | exact prll ‹_›))
  · refine FinK.val1 ?_ ?_
    all_goals (try refine amF (h := ?_))
    all_goals (try with_reducible apply True.intro)
    (first | rfl | (simp_all; done) | (simp_all [Bool.and_assoc]; done) | (simp_all [Bool.and_comm]; done))
  refine FinK.val1 ?_ ?_
  all_goals (try refine amF (h := ?_))
  all_goals (try with_reducible apply True.intro)
  (first | rfl | (simp_all; done) | (simp_all [Bool.and_assoc]; done) | (simp_all [Bool.and_comm]; done))
end Go.AM
