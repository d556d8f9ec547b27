/- Lemmas for the proof of this claim. -/
import Derived.Test.YtogcgngdaendaaaTy
namespace Go.AM
open Go Go.Proofs
set_option maxRecDepth 100000
set_option maxHeartbeats 2000000 in
theorem szIntS (l : List (Int)) (left : Int) (u  : Bool) (nl : Option Bool) (h : okI (2 ^ 47) l) (h0 : 0 ≤ left) (h1 : left ≤ 2 ^ 40) : ACalls Try.prog 112 [.one (.sl u nl 1 l.length (fI l)), .one (.int .i64 left)] (fun r => r = .val (.one (.int .i64 (less left (l.length))))) := by
  have hl := h.1
  have nt : Try.f112.ntmps = 12 := rfl
  have rs : Try.f112.results = #[.tmp 4] := rfl
  refine ACalls.of_run (m := 400) mixed Try.func112 rfl rfl (Nat.le_of_ble_eq_true rfl) ?_
  simp only [nt, rs]
  clear nt rs
  (try refine am (h := ?_)); (try with_reducible apply True.intro)
  repeat' (first | (with_reducible refine And.intro ?_ ?_) | (with_reducible intro _))
  all_goals try (first | omega | with_reducible rfl | ((with_reducible refine eqId ?_); exact rfl) | with_reducible (first | assumption | exact pl ‹_› | exact pr ‹_› | exact plr ‹_› | exact pll ‹_› | exact prl ‹_› | exact plll ‹_› | exact prll ‹_›))
  · refine FinK.val1 ?_ ?_
    all_goals (try refine amF (h := ?_))
    all_goals (try with_reducible apply True.intro)
    exact (if_pos (by omega)).symm
  refine FinK.val1 ?_ ?_
  all_goals (try refine amF (h := ?_))
  all_goals (try with_reducible apply True.intro)
  exact (if_neg (by omega)).symm
set_option maxHeartbeats 2000000 in
theorem toIntS (l : List (Int)) (u  : Bool) (nl : Option Bool) (h : okI (2 ^ 40) l) : ACalls Try.prog 15 [.one (.sl u nl 1 l.length (fI l))] (fun r => r = .val (.one (aI true l))) := by
  have hl := h.1
  have nt : Try.f15.ntmps = 22 := rfl
  have rs : Try.f15.results = #[.tmp 2] := rfl
  refine ACalls.of_run (m := 400) mixed Try.func15 rfl rfl (Nat.le_of_ble_eq_true rfl) ?_
  simp only [nt, rs]
  clear nt rs
  (try refine am (h := ?_)); (try with_reducible apply True.intro)
  repeat' (first | (with_reducible refine And.intro ?_ ?_) | (with_reducible intro _))
  all_goals try (first | omega | with_reducible rfl | ((with_reducible refine eqId ?_); exact rfl) | with_reducible (first | assumption | exact pl ‹_› | exact pr ‹_› | exact plr ‹_› | exact pll ‹_› | exact prl ‹_› | exact plll ‹_› | exact prll ‹_›))
  refine LoopK.auto (Nat) (fun i => [(4, .one (.av (.int .i64 i)))]) (fun i => [(4, ⟨.sl true none 1 l.length (fun i' j => gl .junk (if i' < i then [.int .i64 (l.getD i' 0)] else [.int .i64 0]) j), []⟩)]) [0, 3] (k0 := ?k01) (keepH := ?kh1) 7 (fun i => i ≤ l.length) (fun i => l.length - i) (0) ?kea1 ?keb1 ?_ ?_ ?_
  case kea1 => exact amN
  case keb1 => exact amN
  · exact Nat.zero_le _
  · refine Le.of [(4, 4)] [] rfl rfl rfl rfl ?_ ?_ ?_
    all_goals (try refine amL (h := ?_))
    all_goals (try with_reducible apply True.intro)
    exact ALe.of (.inl rfl) rfl (fun i hi j hj => by rw [if_neg (by omega)]; exact .refl _)
  · intro i hi
    (try refine am (h := ?_)); (try with_reducible apply True.intro)
    repeat' (first | (with_reducible refine And.intro ?_ ?_) | (with_reducible intro _))
    all_goals try (first | omega | with_reducible rfl | ((with_reducible refine eqId ?_); exact rfl) | with_reducible (first | assumption | exact pl ‹_› | exact pr ‹_› | exact plr ‹_› | exact pll ‹_› | exact prl ‹_› | exact plll ‹_› | exact prll ‹_›))
    · have hlt : i < l.length := by assumption
      refine ⟨i + 1, ?_, by omega, by omega⟩
      refine Le.of [(4, 4)] [] rfl rfl rfl rfl ?_ ?_ ?_
      all_goals (try refine amL (h := ?_))
      all_goals (try with_reducible apply True.intro)
      refine ALe.of (.inl rfl) rfl (fun i' hi j hj => ?_)
      exact rowsLe (E := fun i' => [.int .i64 (l.getD i' 0)]) hj rfl
    · refine FinK.val1 ?_ ?_
      all_goals (try refine amF (h := ?_))
      all_goals (try with_reducible apply True.intro)
      refine ALe.of (.inl rfl) rfl (fun i' hi j hj => ?_)
      rw [if_pos (by omega)]
      exact .refl _
set_option maxHeartbeats 2000000 in
theorem eqIntS (l m : List (Int)) (u u' : Bool) (nl ml : Option Bool) (h : okI (2 ^ 47) l) : ACalls Try.prog 17 [.one (.sl u nl 1 l.length (fI l)), .one (.sl u' ml 1 m.length (fI m))] (fun r => r = .val (.one (.bool (decide (l = m))))) := by
  have hl := h.1
  have nt : Try.f17.ntmps = 26 := rfl
  have rs : Try.f17.results = #[.tmp 4] := rfl
  refine ACalls.of_run (m := 400) mixed Try.func17 rfl rfl (Nat.le_of_ble_eq_true rfl) ?_
  simp only [nt, rs]
  clear nt rs
  (try refine am (h := ?_)); (try with_reducible apply True.intro)
  refine ⟨fun h => ?_, fun hlen => ?_⟩
  · refine FinK.val1 ?_ ?_
    all_goals (try refine amF (h := ?_))
    all_goals (try with_reducible apply True.intro)
    exact (decide_eq_false (fun e => h (by rw [e]))).symm
  refine LoopK.auto (Nat) (fun i => [(5, .one (.av (.int .i64 i)))]) (fun i => []) [0, 1] (k0 := ?k02) (keepH := ?kh2) 7 (fun i => i ≤ l.length ∧ ∀ j, j < i → l.getD j 0 = m.getD j 0) (fun i => l.length - i) (0) ?kea2 ?keb2 ?_ ?_ ?_
  case kea2 => exact amN
  case keb2 => exact amN
  · exact ⟨Nat.zero_le _, fun j hj => by omega⟩
  · refine Le.of [] [] rfl rfl rfl rfl ?_ ?_ ?_
    all_goals (try refine amL (h := ?_))
    all_goals (try with_reducible apply True.intro)
  · intro i hi
    (try refine am (h := ?_)); (try with_reducible apply True.intro)
    repeat' (first | (with_reducible refine And.intro ?_ ?_) | (with_reducible intro _))
    all_goals try (first | omega | with_reducible rfl | ((with_reducible refine eqId ?_); exact rfl) | with_reducible (first | assumption | exact pl ‹_› | exact pr ‹_› | exact plr ‹_› | exact pll ‹_› | exact prl ‹_› | exact plll ‹_› | exact prll ‹_›))
    · refine FinK.val1 ?_ ?_
      all_goals (try refine amF (h := ?_))
      all_goals (try with_reducible apply True.intro)
      rename_i h2
      exact (decide_eq_false (fun e => h2 (by rw [e]))).symm
    · rename_i h2
      refine ⟨i + 1, ?_, ⟨by omega, fun j hj => ?_⟩, by omega⟩
      · refine Le.of [] [] rfl rfl rfl rfl ?_ ?_ ?_
        all_goals (try refine amL (h := ?_))
        all_goals (try with_reducible apply True.intro)
      · by_cases h3 : j = i
        · rw [h3]; first | exact h2 | exact UInt8.toNat_inj.1 (by omega) | exact UInt8.toNat_inj.1 (by exact_mod_cast h2)
        · exact hi.2 j (by omega)
    · refine FinK.val1 ?_ ?_
      all_goals (try refine amF (h := ?_))
      all_goals (try with_reducible apply True.intro)
      exact (decide_eq_true (getD_ext hlen (fun j hj => hi.2 j (by omega)))).symm
set_option maxHeartbeats 2000000 in
theorem szIntSS (l : List (List (Int))) (left : Int) (u v : Bool) (nl : Option Bool) (h : okL (2 ^ 47) l) (h0 : 0 ≤ left) (h1 : left ≤ 2 ^ 40) : ACalls Try.prog 82 [.one (.sl u nl 1 l.length (fL v l)), .one (.int .i64 left)] (fun r => r = .val (.one (.int .i64 (less left (szW l))))) := by
  have hl := h.1
  have nt : Try.f82.ntmps = 27 := rfl
  have rs : Try.f82.results = #[.tmp 4] := rfl
  refine ACalls.of_run (m := 400) mixed Try.func82 rfl rfl (Nat.le_of_ble_eq_true rfl) ?_
  simp only [nt, rs]
  clear nt rs
  (try refine am (h := ?_)); (try with_reducible apply True.intro)
  repeat' (first | (with_reducible refine And.intro ?_ ?_) | (with_reducible intro _))
  all_goals try (first | omega | with_reducible rfl | ((with_reducible refine eqId ?_); exact rfl) | with_reducible (first | assumption | exact pl ‹_› | exact pr ‹_› | exact plr ‹_› | exact pll ‹_› | exact prl ‹_› | exact plll ‹_› | exact prll ‹_›))
  · refine FinK.val1 ?_ ?_
    all_goals (try refine amF (h := ?_))
    all_goals (try with_reducible apply True.intro)
    unfold szW
    exact (if_pos (by omega)).symm
  refine LoopK.auto (Nat) (fun i => [(1, .one (.av (.int .i64 (left - l.length - sm List.length (l.take i))))), (5, .one (.av (.int .i64 i)))]) (fun i => []) [0] (k0 := ?k06) (keepH := ?kh6) 7 (fun i => i ≤ l.length ∧ 0 ≤ left - l.length - sm List.length (l.take i)) (fun i => l.length - i) (0) ?kea6 ?keb6 ?_ ?_ ?_
  case kea6 => exact amN
  case keb6 => exact amN
  · exact ⟨Nat.zero_le _, by simp [sm]; omega⟩
  · refine Le.of [] [] rfl rfl rfl rfl ?_ ?_ ?_
    all_goals (try refine amL (h := ?_))
    all_goals (try with_reducible apply True.intro)
    simp [sm]
  · rintro i ⟨hi, hs⟩
    (try refine am (h := ?_)); (try with_reducible apply True.intro)
    skip
    repeat' (first | (with_reducible refine And.intro ?_ ?_) | (with_reducible intro _))
    all_goals try (first | omega | with_reducible rfl | ((with_reducible refine eqId ?_); exact rfl) | with_reducible (first | assumption | exact pl ‹_› | exact pr ‹_› | exact plr ‹_› | exact pll ‹_› | exact prl ‹_› | exact plll ‹_› | exact prll ‹_›))
    · have hlt : i < l.length := by assumption
      have ht := sm_take (f := List.length) (d := []) hlt
      have hm := h.2 _ (getD_mem (d := []) hlt)
      have ht2 := sm_le (f := List.length) (l := l) (i := i + 1)
      first | refine CallK.one (szIntS _ _ _ _ hm hs (by omega)) (fun _ => amC) ?_ | refine CallE.one (szIntS _ _ _ _ hm hs (by omega)) (fun _ => amC) rfl ?_ | refine CallG.one rfl (fun hg => szIntS _ _ _ _ hm hs (by omega)) ?_ | refine CallEG.one rfl rfl (fun hg => szIntS _ _ _ _ hm hs (by omega)) ?_
      (try refine am (h := ?_)); (try with_reducible apply True.intro)
      rcases less_cases (left - l.length - sm List.length (l.take i)) (List.length (l.getD i [])) with ⟨hc, e⟩ | ⟨hc, e⟩
      · (try refine am (h := ?_)); (try simp only [e]); (try refine am (h := ?_)); (try with_reducible apply True.intro)
        refine FinK.val1 ?_ ?_
        all_goals (try refine amF (h := ?_))
        all_goals (try with_reducible apply True.intro)
        unfold szW tot
        exact (if_pos (by omega)).symm
      · (try refine am (h := ?_)); (try simp only [e]); (try refine am (h := ?_)); (try with_reducible apply True.intro)
        repeat' (first | (with_reducible refine And.intro ?_ ?_) | (with_reducible intro _))
        all_goals try (first | omega | with_reducible rfl | ((with_reducible refine eqId ?_); exact rfl) | with_reducible (first | assumption | exact pl ‹_› | exact pr ‹_› | exact plr ‹_› | exact pll ‹_› | exact prl ‹_› | exact plll ‹_› | exact prll ‹_›))
        refine ⟨i + 1, ?_, ⟨by omega, by omega⟩, by omega⟩
        refine Le.of [] [] rfl rfl rfl rfl ?_ ?_ ?_
        all_goals (try refine amL (h := ?_))
        all_goals (try with_reducible apply True.intro)
        omega
    · refine FinK.val1 ?_ ?_
      all_goals (try refine amF (h := ?_))
      all_goals (try with_reducible apply True.intro)
      have : i = l.length := by omega
      subst this
      rw [List.take_length] at hs ⊢
      unfold szW tot
      exact ((if_neg (by omega)).trans (by omega)).symm
set_option maxHeartbeats 2000000 in
theorem toIntSS (l : List (List (Int))) (u v : Bool) (nl : Option Bool) (h : okL (2 ^ 40) l) : ACalls Try.prog 86 [.one (.sl u nl 1 l.length (fL v l))] (fun r => r = .val (.one (aL true true l))) := by
  have hl := h.1
  have nt : Try.f86.ntmps = 23 := rfl
  have rs : Try.f86.results = #[.tmp 2] := rfl
  refine ACalls.of_run (m := 400) mixed Try.func86 rfl rfl (Nat.le_of_ble_eq_true rfl) ?_
  simp only [nt, rs]
  clear nt rs
  (try refine am (h := ?_)); (try with_reducible apply True.intro)
  repeat' (first | (with_reducible refine And.intro ?_ ?_) | (with_reducible intro _))
  all_goals try (first | omega | with_reducible rfl | ((with_reducible refine eqId ?_); exact rfl) | with_reducible (first | assumption | exact pl ‹_› | exact pr ‹_› | exact plr ‹_› | exact pll ‹_› | exact prl ‹_› | exact plll ‹_› | exact prll ‹_›))
  refine LoopK.auto (Nat) (fun i => [(4, .one (.av (.int .i64 i)))]) (fun i => [(4, ⟨.sl true none 1 l.length (fun i' j => gl .junk (if i' < i then [aI true (l.getD i' [])] else [nilAV]) j), []⟩)]) [0, 3] (k0 := ?k07) (keepH := ?kh7) 7 (fun i => i ≤ l.length) (fun i => l.length - i) (0) ?kea7 ?keb7 ?_ ?_ ?_
  case kea7 => exact amN
  case keb7 => exact amN
  · exact Nat.zero_le _
  · refine Le.of [(4, 4)] [] rfl rfl rfl rfl ?_ ?_ ?_
    all_goals (try refine amL (h := ?_))
    all_goals (try with_reducible apply True.intro)
    exact ALe.of (.inl rfl) rfl (fun i hi j hj => by rw [if_neg (by omega)]; exact .refl _)
  · intro i hi
    (try refine am (h := ?_)); (try with_reducible apply True.intro)
    repeat' (first | (with_reducible refine And.intro ?_ ?_) | (with_reducible intro _))
    all_goals try (first | omega | with_reducible rfl | ((with_reducible refine eqId ?_); exact rfl) | with_reducible (first | assumption | exact pl ‹_› | exact pr ‹_› | exact plr ‹_› | exact pll ‹_› | exact prl ‹_› | exact plll ‹_› | exact prll ‹_›))
    · have hlt : i < l.length := by assumption
      first | refine CallK.one (toIntS _ _ _ (h.2 _ (getD_mem hlt))) (fun _ => amC) ?_ | refine CallE.one (toIntS _ _ _ (h.2 _ (getD_mem hlt))) (fun _ => amC) rfl ?_ | refine CallG.one rfl (fun hg => toIntS _ _ _ (h.2 _ (getD_mem hlt))) ?_ | refine CallEG.one rfl rfl (fun hg => toIntS _ _ _ (h.2 _ (getD_mem hlt))) ?_
      (try refine am (h := ?_)); (try with_reducible apply True.intro)
      repeat' (first | (with_reducible refine And.intro ?_ ?_) | (with_reducible intro _))
      all_goals try (first | omega | with_reducible rfl | ((with_reducible refine eqId ?_); exact rfl) | with_reducible (first | assumption | exact pl ‹_› | exact pr ‹_› | exact plr ‹_› | exact pll ‹_› | exact prl ‹_› | exact plll ‹_› | exact prll ‹_›))
      refine ⟨i + 1, ?_, by omega, by omega⟩
      refine Le.of [(4, 4)] [] rfl rfl rfl rfl ?_ ?_ ?_
      all_goals (try refine amL (h := ?_))
      all_goals (try with_reducible apply True.intro)
      refine ALe.of (.inl rfl) rfl (fun i' hi j hj => ?_)
      exact rowsLe (E := fun i' => [aI true (l.getD i' [])]) hj rfl
    · refine FinK.val1 ?_ ?_
      all_goals (try refine amF (h := ?_))
      all_goals (try with_reducible apply True.intro)
      refine ALe.of (.inl rfl) rfl (fun i' hi j hj => ?_)
      rw [if_pos (by omega)]
      exact .refl _
set_option maxHeartbeats 2000000 in
theorem eqIntSS (l m : List (List (Int))) (u u' v v' : Bool) (nl ml : Option Bool) (h : okL (2 ^ 47) l) : ACalls Try.prog 69 [.one (.sl u nl 1 l.length (fL v l)), .one (.sl u' ml 1 m.length (fL v' m))] (fun r => r = .val (.one (.bool (decide (l = m))))) := by
  have hl := h.1
  have nt : Try.f69.ntmps = 27 := rfl
  have rs : Try.f69.results = #[.tmp 4] := rfl
  refine ACalls.of_run (m := 400) mixed Try.func69 rfl rfl (Nat.le_of_ble_eq_true rfl) ?_
  simp only [nt, rs]
  clear nt rs
  (try refine am (h := ?_)); (try with_reducible apply True.intro)
  refine ⟨fun h => ?_, fun hlen => ?_⟩
  · refine FinK.val1 ?_ ?_
    all_goals (try refine amF (h := ?_))
    all_goals (try with_reducible apply True.intro)
    exact (decide_eq_false (fun e => h (by rw [e]))).symm
  refine LoopK.auto (Nat) (fun i => [(5, .one (.av (.int .i64 i)))]) (fun i => []) [0, 1] (k0 := ?k08) (keepH := ?kh8) 7 (fun i => i ≤ l.length ∧ ∀ j, j < i → l.getD j [] = m.getD j []) (fun i => l.length - i) (0) ?kea8 ?keb8 ?_ ?_ ?_
  case kea8 => exact amN
  case keb8 => exact amN
  · exact ⟨Nat.zero_le _, fun j hj => by omega⟩
  · refine Le.of [] [] rfl rfl rfl rfl ?_ ?_ ?_
    all_goals (try refine amL (h := ?_))
    all_goals (try with_reducible apply True.intro)
  · intro i hi
    (try refine am (h := ?_)); (try with_reducible apply True.intro)
    repeat' (first | (with_reducible refine And.intro ?_ ?_) | (with_reducible intro _))
    all_goals try (first | omega | with_reducible rfl | ((with_reducible refine eqId ?_); exact rfl) | with_reducible (first | assumption | exact pl ‹_› | exact pr ‹_› | exact plr ‹_› | exact pll ‹_› | exact prl ‹_› | exact plll ‹_› | exact prll ‹_›))
    · have hlt : i < l.length := by assumption
      refine CallE.one (eqIntS _ _ _ _ _ _ (h.2 _ (getD_mem hlt))) (fun _ => amC) rfl ?_
      (try refine am (h := ?_)); (try with_reducible apply True.intro)
      repeat' (first | (with_reducible refine And.intro ?_ ?_) | (with_reducible intro _))
      all_goals try (first | omega | with_reducible rfl | ((with_reducible refine eqId ?_); exact rfl) | with_reducible (first | assumption | exact pl ‹_› | exact pr ‹_› | exact plr ‹_› | exact pll ‹_› | exact prl ‹_› | exact plll ‹_› | exact prll ‹_›))
      · refine FinK.val1 ?_ ?_
        all_goals (try refine amF (h := ?_))
        all_goals (try with_reducible apply True.intro)
        rename_i h2
        exact (decide_eq_false (fun e => h2 (by rw [e]))).symm
      · rename_i h2
        refine ⟨i + 1, ?_, ⟨by omega, fun j hj => ?_⟩, by omega⟩
        · refine Le.of [] [] rfl rfl rfl rfl ?_ ?_ ?_
          all_goals (try refine amL (h := ?_))
          all_goals (try with_reducible apply True.intro)
        · by_cases h3 : j = i
          · rw [h3]; exact h2
          · exact hi.2 j (by omega)
    · refine FinK.val1 ?_ ?_
      all_goals (try refine amF (h := ?_))
      all_goals (try with_reducible apply True.intro)
      exact (decide_eq_true (getD_ext hlen (fun j hj => hi.2 j (by omega)))).symm
set_option maxHeartbeats 2000000 in
theorem szWindow (l : List (List Int)) (left : Int) (u v : Bool) (h : okL (2 ^ 47) l) (h0 : 0 ≤ left) (h1 : left ≤ 2 ^ 40) : ACalls Try.prog 33 [.agg [aL u v l], .one (.int .i64 left)] (fun r => r = .val (.one (.int .i64 (less left (szW l))))) := by
  have nt : Try.f33.ntmps = 12 := rfl
  have rs : Try.f33.results = #[.tmp 4] := rfl
  refine ACalls.of_run (m := 400) mixed Try.func33 rfl rfl (Nat.le_of_ble_eq_true rfl) ?_
  simp only [nt, rs]
  clear nt rs
  (try refine am (h := ?_)); (try with_reducible apply True.intro)
  first | refine CallK.one (szIntSS l left _ _ _ h (by omega) (by omega)) (fun _ => amC) ?_ | refine CallE.one (szIntSS l left _ _ _ h (by omega) (by omega)) (fun _ => amC) rfl ?_ | refine CallG.one rfl (fun hg => szIntSS l left _ _ _ h (by omega) (by omega)) ?_ | refine CallEG.one rfl rfl (fun hg => szIntSS l left _ _ _ h (by omega) (by omega)) ?_
  (try refine am (h := ?_)); (try with_reducible apply True.intro)
  rcases less_cases left (szW l) with ⟨hc0, e⟩ | ⟨hc0, e⟩
  · (try refine am (h := ?_)); (try simp only [e]); (try refine am (h := ?_)); (try with_reducible apply True.intro)
    refine FinK.val1 ?_ ?_
    all_goals (try refine amF (h := ?_))
    all_goals (try with_reducible apply True.intro)
    first | done | exact (if_pos (by omega)).symm
  (try refine am (h := ?_)); (try simp only [e]); (try refine am (h := ?_)); (try with_reducible apply True.intro)
  repeat' (first | (with_reducible refine And.intro ?_ ?_) | (with_reducible intro _))
  all_goals try (first | omega | with_reducible rfl | ((with_reducible refine eqId ?_); exact rfl) | with_reducible (first | assumption | exact pl ‹_› | exact pr ‹_› | exact plr ‹_› | exact pll ‹_› | exact prl ‹_› | exact plll ‹_› | exact prll ‹_›))
  refine FinK.val1 ?_ ?_
  all_goals (try refine amF (h := ?_))
  all_goals (try with_reducible apply True.intro)
  first | done | exact ((if_neg (by omega)).trans (by omega)).symm
set_option maxHeartbeats 2000000 in
theorem toWindow (l : List (List Int)) (u v : Bool) (h : okL (2 ^ 40) l) : ACalls Try.prog 35 [.agg [aL u v l]] (fun r => r = .val (.agg [aL true true l])) := by
  have nt : Try.f35.ntmps = 9 := rfl
  have rs : Try.f35.results = #[.cell 2 51] := rfl
  refine ACalls.of_run (m := 400) mixed Try.func35 rfl rfl (Nat.le_of_ble_eq_true rfl) ?_
  simp only [nt, rs]
  clear nt rs
  (try refine am (h := ?_)); (try with_reducible apply True.intro)
  first | refine CallK.one (toIntSS l _ _ _ h) (fun _ => amC) ?_ | refine CallE.one (toIntSS l _ _ _ h) (fun _ => amC) rfl ?_ | refine CallG.one rfl (fun hg => toIntSS l _ _ _ h) ?_ | refine CallEG.one rfl rfl (fun hg => toIntSS l _ _ _ h) ?_
  (try refine am (h := ?_)); (try with_reducible apply True.intro)
  refine FinK.cell1 ?_ ?_ ?_
  all_goals (try refine amF (h := ?_))
  all_goals (try with_reducible apply True.intro)
set_option maxHeartbeats 2000000 in
theorem eqWindow (x y : List (List Int)) (u v u' v' : Bool) (h : okL (2 ^ 47) x) : ACalls Try.prog 37 [.agg [aL u v x], .agg [aL u' v' y]] (fun r => r = .val (.one (.bool (decide (x = y))))) := by
  have nt : Try.f37.ntmps = 11 := rfl
  have rs : Try.f37.results = #[.tmp 4] := rfl
  refine ACalls.of_run (m := 400) mixed Try.func37 rfl rfl (Nat.le_of_ble_eq_true rfl) ?_
  simp only [nt, rs]
  clear nt rs
  (try refine am (h := ?_)); (try with_reducible apply True.intro)
  first | refine CallK.one (eqIntSS x y _ _ _ _ _ _ h) (fun _ => amC) ?_ | refine CallE.one (eqIntSS x y _ _ _ _ _ _ h) (fun _ => amC) rfl ?_ | refine CallG.one rfl (fun hg => eqIntSS x y _ _ _ _ _ _ h) ?_ | refine CallEG.one rfl rfl (fun hg => eqIntSS x y _ _ _ _ _ _ h) ?_
  (try refine am (h := ?_)); (try with_reducible apply True.intro)
  repeat' (first | (with_reducible refine And.intro ?_ ?_) | (with_reducible intro _))
  all_goals try (first | omega | with_reducible rfl | ((with_reducible refine eqId ?_); exact rfl) | with_reducible (first | assumption | exact pl ‹_› | exact pr ‹_› | exact plr ‹_› | exact pll ‹_› | exact prl ‹_› | exact plll ‹_› | exact prll ‹_›))
  · refine FinK.val1 ?_ ?_
    all_goals (try refine amF (h := ?_))
    all_goals (try with_reducible apply True.intro)
    (first | rfl | (simp_all; done) | (simp_all [Bool.and_assoc]; done) | (simp_all [Bool.and_comm]; done))
  refine FinK.val1 ?_ ?_
  all_goals (try refine amF (h := ?_))
  all_goals (try with_reducible apply True.intro)
  (first | rfl | (simp_all; done) | (simp_all [Bool.and_assoc]; done) | (simp_all [Bool.and_comm]; done))
set_option maxHeartbeats 2000000 in
theorem szDet (x : DDet) (left : Int) (u v : Bool) (h : okDet (2 ^ 47) x) (h0 : 0 ≤ left) (h1 : left ≤ 2 ^ 40) : ACalls Try.prog 47 [.agg (cDet u v x), .one (.int .i64 left)] (fun r => r = .val (.one (.int .i64 (less left (zDet x))))) := by
  have hz : zDet x = szW x.warn + szW x.drift := rfl
  have nt : Try.f47.ntmps = 18 := rfl
  have rs : Try.f47.results = #[.tmp 4] := rfl
  refine ACalls.of_run (m := 400) mixed Try.func47 rfl rfl (Nat.le_of_ble_eq_true rfl) ?_
  simp only [nt, rs]
  clear nt rs
  (try refine am (h := ?_)); (try with_reducible apply True.intro)
  first | refine CallK.one (szWindow x.warn left false v h.1 (by omega) (by omega)) (fun _ => amC) ?_ | refine CallE.one (szWindow x.warn left false v h.1 (by omega) (by omega)) (fun _ => amC) rfl ?_ | refine CallG.one rfl (fun hg => szWindow x.warn left false v h.1 (by omega) (by omega)) ?_ | refine CallEG.one rfl rfl (fun hg => szWindow x.warn left false v h.1 (by omega) (by omega)) ?_
  (try refine am (h := ?_)); (try with_reducible apply True.intro)
  rcases less_cases left (szW x.warn) with ⟨hc0, e⟩ | ⟨hc0, e⟩
  · (try refine am (h := ?_)); (try simp only [e]); (try refine am (h := ?_)); (try with_reducible apply True.intro)
    refine FinK.val1 ?_ ?_
    all_goals (try refine amF (h := ?_))
    all_goals (try with_reducible apply True.intro)
    first | done | exact (if_pos (by omega)).symm
  (try refine am (h := ?_)); (try simp only [e]); (try refine am (h := ?_)); (try with_reducible apply True.intro)
  repeat' (first | (with_reducible refine And.intro ?_ ?_) | (with_reducible intro _))
  all_goals try (first | omega | with_reducible rfl | ((with_reducible refine eqId ?_); exact rfl) | with_reducible (first | assumption | exact pl ‹_› | exact pr ‹_› | exact plr ‹_› | exact pll ‹_› | exact prl ‹_› | exact plll ‹_› | exact prll ‹_›))
  first | refine CallK.one (szWindow x.drift (left - (szW x.warn : Nat)) false v h.2 (by omega) (by omega)) (fun _ => amC) ?_ | refine CallE.one (szWindow x.drift (left - (szW x.warn : Nat)) false v h.2 (by omega) (by omega)) (fun _ => amC) rfl ?_ | refine CallG.one rfl (fun hg => szWindow x.drift (left - (szW x.warn : Nat)) false v h.2 (by omega) (by omega)) ?_ | refine CallEG.one rfl rfl (fun hg => szWindow x.drift (left - (szW x.warn : Nat)) false v h.2 (by omega) (by omega)) ?_
  (try refine am (h := ?_)); (try with_reducible apply True.intro)
  rcases less_cases (left - (szW x.warn : Nat)) (szW x.drift) with ⟨hc1, e⟩ | ⟨hc1, e⟩
  · (try refine am (h := ?_)); (try simp only [e]); (try refine am (h := ?_)); (try with_reducible apply True.intro)
    refine FinK.val1 ?_ ?_
    all_goals (try refine amF (h := ?_))
    all_goals (try with_reducible apply True.intro)
    first | done | exact (if_pos (by omega)).symm
  (try refine am (h := ?_)); (try simp only [e]); (try refine am (h := ?_)); (try with_reducible apply True.intro)
  repeat' (first | (with_reducible refine And.intro ?_ ?_) | (with_reducible intro _))
  all_goals try (first | omega | with_reducible rfl | ((with_reducible refine eqId ?_); exact rfl) | with_reducible (first | assumption | exact pl ‹_› | exact pr ‹_› | exact plr ‹_› | exact pll ‹_› | exact prl ‹_› | exact plll ‹_› | exact prll ‹_›))
  refine FinK.val1 ?_ ?_
  all_goals (try refine amF (h := ?_))
  all_goals (try with_reducible apply True.intro)
  first | done | exact ((if_neg (by omega)).trans (by omega)).symm
set_option maxHeartbeats 2000000 in
theorem toDet (x : DDet) (u v : Bool) (h : okDet (2 ^ 40) x) : ACalls Try.prog 49 [.agg (cDet u v x)] (fun r => r = .val (.agg (cDet true true x))) := by
  have nt : Try.f49.ntmps = 13 := rfl
  have rs : Try.f49.results = #[.cell 2 62] := rfl
  refine ACalls.of_run (m := 400) mixed Try.func49 rfl rfl (Nat.le_of_ble_eq_true rfl) ?_
  simp only [nt, rs]
  clear nt rs
  (try refine am (h := ?_)); (try with_reducible apply True.intro)
  first | refine CallK.one (toWindow x.warn false v h.1) (fun _ => amC) ?_ | refine CallE.one (toWindow x.warn false v h.1) (fun _ => amC) rfl ?_ | refine CallG.one rfl (fun hg => toWindow x.warn false v h.1) ?_ | refine CallEG.one rfl rfl (fun hg => toWindow x.warn false v h.1) ?_
  (try refine am (h := ?_)); (try with_reducible apply True.intro)
  first | refine CallK.one (toWindow x.drift false v h.2) (fun _ => amC) ?_ | refine CallE.one (toWindow x.drift false v h.2) (fun _ => amC) rfl ?_ | refine CallG.one rfl (fun hg => toWindow x.drift false v h.2) ?_ | refine CallEG.one rfl rfl (fun hg => toWindow x.drift false v h.2) ?_
  (try refine am (h := ?_)); (try with_reducible apply True.intro)
  refine FinK.cell1 ?_ ?_ ?_
  all_goals (try refine amF (h := ?_))
  all_goals (try with_reducible apply True.intro)
set_option maxHeartbeats 2000000 in
theorem eqDet (x y : DDet) (u v u' v' : Bool) (h : okDet (2 ^ 47) x) : ACalls Try.prog 44 [.agg (cDet u v x), .agg (cDet u' v' y)] (fun r => r = .val (.one (.bool (decide (x = y))))) := by
  obtain ⟨x0, x1⟩ := x
  obtain ⟨y0, y1⟩ := y
  have nt : Try.f44.ntmps = 17 := rfl
  have rs : Try.f44.results = #[.tmp 4] := rfl
  refine ACalls.of_run (m := 400) mixed Try.func44 rfl rfl (Nat.le_of_ble_eq_true rfl) ?_
  simp only [nt, rs]
  clear nt rs
  (try refine am (h := ?_)); (try with_reducible apply True.intro)
  first | refine CallK.one (eqWindow x0 y0 false v false v' h.1) (fun _ => amC) ?_ | refine CallE.one (eqWindow x0 y0 false v false v' h.1) (fun _ => amC) rfl ?_ | refine CallG.one rfl (fun hg => eqWindow x0 y0 false v false v' h.1) ?_ | refine CallEG.one rfl rfl (fun hg => eqWindow x0 y0 false v false v' h.1) ?_
  (try refine am (h := ?_)); (try with_reducible apply True.intro)
  repeat' (first | (with_reducible refine And.intro ?_ ?_) | (with_reducible intro _))
  all_goals try (first | omega | with_reducible rfl | ((with_reducible refine eqId ?_); exact rfl) | with_reducible (first | assumption | exact pl ‹_› | exact pr ‹_› | exact plr ‹_› | exact pll ‹_› | exact prl ‹_› | exact plll ‹_› | exact prll ‹_›))
  · refine FinK.val1 ?_ ?_
    all_goals (try refine amF (h := ?_))
    all_goals (try with_reducible apply True.intro)
    (first | rfl | (simp_all; done) | (simp_all [Bool.and_assoc]; done) | (simp_all [Bool.and_comm]; done))
  first | refine CallK.one (eqWindow x1 y1 false v false v' h.2) (fun _ => amC) ?_ | refine CallE.one (eqWindow x1 y1 false v false v' h.2) (fun _ => amC) rfl ?_ | refine CallG.one rfl (fun hg => eqWindow x1 y1 false v false v' h.2) ?_ | refine CallEG.one rfl rfl (fun hg => eqWindow x1 y1 false v false v' h.2) ?_
  (try refine am (h := ?_)); (try with_reducible apply True.intro)
  repeat' (first | (with_reducible refine And.intro ?_ ?_) | (with_reducible intro _))
  all_goals try (first | omega | with_reducible rfl | ((with_reducible refine eqId ?_); exact rfl) | with_reducible (first | assumption | exact pl ‹_› | exact pr ‹_› | exact plr ‹_› | exact pll ‹_› | exact prl ‹_› | exact plll ‹_› | exact prll ‹_›))
  · refine FinK.val1 ?_ ?_
    all_goals (try refine amF (h := ?_))
    all_goals (try with_reducible apply True.intro)
    (first | rfl | (simp_all; done) | (simp_all [Bool.and_assoc]; done) | (simp_all [Bool.and_comm]; done))
  refine FinK.val1 ?_ ?_
  all_goals (try refine amF (h := ?_))
  all_goals (try with_reducible apply True.intro)
  (first | rfl | (simp_all; done) | (simp_all [Bool.and_assoc]; done) | (simp_all [Bool.and_comm]; done))
end Go.AM
