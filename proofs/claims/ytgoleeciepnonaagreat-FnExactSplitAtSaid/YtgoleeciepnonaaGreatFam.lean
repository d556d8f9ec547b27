/- Lemmas for the proof of this claim. -/
import Derived.Test.YtgoleeciepnonaaGreatTy
namespace Go.AM
open Go Go.Proofs
set_option maxRecDepth 100000
set_option maxHeartbeats 2000000 in
theorem szIntS (l : List (Int)) (left : Int) (u  : Bool) (nl : Option Bool) (h : okI (2 ^ 47) l) (h0 : 0 ≤ left) (h1 : left ≤ 2 ^ 40) : ACalls Tryz.prog 49 [.one (.sl u nl 1 l.length (fI l)), .one (.int .i64 left)] (fun r => r = .val (.one (.int .i64 (less left (l.length))))) := by
  have hl := h.1
  have nt : Tryz.f49.ntmps = 12 := rfl
  have rs : Tryz.f49.results = #[.tmp 4] := rfl
  refine ACalls.of_run (m := 400) mixed Tryz.func49 rfl rfl (Nat.le_of_ble_eq_true rfl) ?_
  simp only [nt, rs]
  clear nt rs
  (try refine am (h := ?_)); (try with_reducible apply True.intro)
  repeat' (first | (with_reducible refine And.intro ?_ ?_) | (with_reducible intro _))
  all_goals try (first | omega | with_reducible rfl | ((with_reducible refine eqId ?_); exact rfl) | with_reducible (first | assumption | exact pl ‹_› | exact pr ‹_› | exact plr ‹_› | exact pll ‹_› | exact prl ‹_› | exact plll ‹_› | exact prll ‹_›))
  · refine FinK.val1 ?_ ?_
    all_goals (try refine amF (h := ?_))
    all_goals (try with_reducible apply True.intro)
    exact (if_pos (by omega)).symm
  refine FinK.val1 ?_ ?_
  all_goals (try refine amF (h := ?_))
  all_goals (try with_reducible apply True.intro)
  exact (if_neg (by omega)).symm
set_option maxHeartbeats 2000000 in
theorem toIntS (l : List (Int)) (u  : Bool) (nl : Option Bool) (h : okI (2 ^ 40) l) : ACalls Tryz.prog 61 [.one (.sl u nl 1 l.length (fI l))] (fun r => r = .val (.one (aI true l))) := by
  have hl := h.1
  have nt : Tryz.f61.ntmps = 22 := rfl
  have rs : Tryz.f61.results = #[.tmp 2] := rfl
  refine ACalls.of_run (m := 400) mixed Tryz.func61 rfl rfl (Nat.le_of_ble_eq_true rfl) ?_
  simp only [nt, rs]
  clear nt rs
  (try refine am (h := ?_)); (try with_reducible apply True.intro)
  repeat' (first | (with_reducible refine And.intro ?_ ?_) | (with_reducible intro _))
  all_goals try (first | omega | with_reducible rfl | ((with_reducible refine eqId ?_); exact rfl) | with_reducible (first | assumption | exact pl ‹_› | exact pr ‹_› | exact plr ‹_› | exact pll ‹_› | exact prl ‹_› | exact plll ‹_› | exact prll ‹_›))
  refine LoopK.auto (Nat) (fun i => [(4, .one (.av (.int .i64 i)))]) (fun i => [(4, ⟨.sl true none 1 l.length (fun i' j => gl .junk (if i' < i then [.int .i64 (l.getD i' 0)] else [.int .i64 0]) j), []⟩)]) [0, 3] (k0 := ?k01) (keepH := ?kh1) 7 (fun i => i ≤ l.length) (fun i => l.length - i) (0) ?kea1 ?keb1 ?_ ?_ ?_
  case kea1 => exact amN
  case keb1 => exact amN
  · exact Nat.zero_le _
  · refine Le.of [(4, 4)] [] rfl rfl rfl rfl ?_ ?_ ?_
    all_goals (try refine amL (h := ?_))
    all_goals (try with_reducible apply True.intro)
    exact ALe.of (.inl rfl) rfl (fun i hi j hj => by rw [if_neg (by omega)]; exact .refl _)
  · intro i hi
    (try refine am (h := ?_)); (try with_reducible apply True.intro)
    repeat' (first | (with_reducible refine And.intro ?_ ?_) | (with_reducible intro _))
    all_goals try (first | omega | with_reducible rfl | ((with_reducible refine eqId ?_); exact rfl) | with_reducible (first | assumption | exact pl ‹_› | exact pr ‹_› | exact plr ‹_› | exact pll ‹_› | exact prl ‹_› | exact plll ‹_› | exact prll ‹_›))
    · have hlt : i < l.length := by assumption
      refine ⟨i + 1, ?_, by omega, by omega⟩
      refine Le.of [(4, 4)] [] rfl rfl rfl rfl ?_ ?_ ?_
      all_goals (try refine amL (h := ?_))
      all_goals (try with_reducible apply True.intro)
      refine ALe.of (.inl rfl) rfl (fun i' hi j hj => ?_)
      exact rowsLe (E := fun i' => [.int .i64 (l.getD i' 0)]) hj rfl
    · refine FinK.val1 ?_ ?_
      all_goals (try refine amF (h := ?_))
      all_goals (try with_reducible apply True.intro)
      refine ALe.of (.inl rfl) rfl (fun i' hi j hj => ?_)
      rw [if_pos (by omega)]
      exact .refl _
set_option maxHeartbeats 2000000 in
theorem eqIntS (l m : List (Int)) (u u' : Bool) (nl ml : Option Bool) (h : okI (2 ^ 47) l) : ACalls Tryz.prog 76 [.one (.sl u nl 1 l.length (fI l)), .one (.sl u' ml 1 m.length (fI m))] (fun r => r = .val (.one (.bool (decide (l = m))))) := by
  have hl := h.1
  have nt : Tryz.f76.ntmps = 26 := rfl
  have rs : Tryz.f76.results = #[.tmp 4] := rfl
  refine ACalls.of_run (m := 400) mixed Tryz.func76 rfl rfl (Nat.le_of_ble_eq_true rfl) ?_
  simp only [nt, rs]
  clear nt rs
  (try refine am (h := ?_)); (try with_reducible apply True.intro)
  refine ⟨fun h => ?_, fun hlen => ?_⟩
  · refine FinK.val1 ?_ ?_
    all_goals (try refine amF (h := ?_))
    all_goals (try with_reducible apply True.intro)
    exact (decide_eq_false (fun e => h (by rw [e]))).symm
  refine LoopK.auto (Nat) (fun i => [(5, .one (.av (.int .i64 i)))]) (fun i => []) [0, 1] (k0 := ?k02) (keepH := ?kh2) 7 (fun i => i ≤ l.length ∧ ∀ j, j < i → l.getD j 0 = m.getD j 0) (fun i => l.length - i) (0) ?kea2 ?keb2 ?_ ?_ ?_
  case kea2 => exact amN
  case keb2 => exact amN
  · exact ⟨Nat.zero_le _, fun j hj => by omega⟩
  · refine Le.of [] [] rfl rfl rfl rfl ?_ ?_ ?_
    all_goals (try refine amL (h := ?_))
    all_goals (try with_reducible apply True.intro)
  · intro i hi
    (try refine am (h := ?_)); (try with_reducible apply True.intro)
    repeat' (first | (with_reducible refine And.intro ?_ ?_) | (with_reducible intro _))
    all_goals try (first | omega | with_reducible rfl | ((with_reducible refine eqId ?_); exact rfl) | with_reducible (first | assumption | exact pl ‹_› | exact pr ‹_› | exact plr ‹_› | exact pll ‹_› | exact prl ‹_› | exact plll ‹_› | exact prll ‹_›))
    · refine FinK.val1 ?_ ?_
      all_goals (try refine amF (h := ?_))
      all_goals (try with_reducible apply True.intro)
      rename_i h2
      exact (decide_eq_false (fun e => h2 (by rw [e]))).symm
    · rename_i h2
      refine ⟨i + 1, ?_, ⟨by omega, fun j hj => ?_⟩, by omega⟩
      · refine Le.of [] [] rfl rfl rfl rfl ?_ ?_ ?_
        all_goals (try refine amL (h := ?_))
        all_goals (try with_reducible apply True.intro)
      · by_cases h3 : j = i
        · rw [h3]; first | exact h2 | exact UInt8.toNat_inj.1 (by omega) | exact UInt8.toNat_inj.1 (by exact_mod_cast h2)
        · exact hi.2 j (by omega)
    · refine FinK.val1 ?_ ?_
      all_goals (try refine amF (h := ?_))
      all_goals (try with_reducible apply True.intro)
      exact (decide_eq_true (getD_ext hlen (fun j hj => hi.2 j (by omega)))).symm
set_option maxHeartbeats 2000000 in
theorem szStringS (l : List (List UInt8)) (left : Int) (u  : Bool) (nl : Option Bool) (h : okS (2 ^ 47) l) (h0 : 0 ≤ left) (h1 : left ≤ 2 ^ 40) : ACalls Tryz.prog 47 [.one (.sl u nl 1 l.length (fS l)), .one (.int .i64 left)] (fun r => r = .val (.one (.int .i64 (less left (szSS l))))) := by
  have hl := h.1
  have nt : Tryz.f47.ntmps = 28 := rfl
  have rs : Tryz.f47.results = #[.tmp 4] := rfl
  refine ACalls.of_run (m := 400) mixed Tryz.func47 rfl rfl (Nat.le_of_ble_eq_true rfl) ?_
  simp only [nt, rs]
  clear nt rs
  (try refine am (h := ?_)); (try with_reducible apply True.intro)
  repeat' (first | (with_reducible refine And.intro ?_ ?_) | (with_reducible intro _))
  all_goals try (first | omega | with_reducible rfl | ((with_reducible refine eqId ?_); exact rfl) | with_reducible (first | assumption | exact pl ‹_› | exact pr ‹_› | exact plr ‹_› | exact pll ‹_› | exact prl ‹_› | exact plll ‹_› | exact prll ‹_›))
  · refine FinK.val1 ?_ ?_
    all_goals (try refine amF (h := ?_))
    all_goals (try with_reducible apply True.intro)
    unfold szSS
    exact (if_pos (by omega)).symm
  refine LoopK.auto (Nat) (fun i => [(1, .one (.av (.int .i64 (left - l.length - sm List.length (l.take i))))), (5, .one (.av (.int .i64 i)))]) (fun i => []) [0] (k0 := ?k03) (keepH := ?kh3) 7 (fun i => i ≤ l.length ∧ 0 ≤ left - l.length - sm List.length (l.take i)) (fun i => l.length - i) (0) ?kea3 ?keb3 ?_ ?_ ?_
  case kea3 => exact amN
  case keb3 => exact amN
  · exact ⟨Nat.zero_le _, by simp [sm]; omega⟩
  · refine Le.of [] [] rfl rfl rfl rfl ?_ ?_ ?_
    all_goals (try refine amL (h := ?_))
    all_goals (try with_reducible apply True.intro)
    simp [sm]
  · rintro i ⟨hi, hs⟩
    (try refine am (h := ?_)); (try with_reducible apply True.intro)
    have hm0 : (l.getD i []).length ≤ 2 ^ 47 := getD_len h.2 i
    repeat' (first | (with_reducible refine And.intro ?_ ?_) | (with_reducible intro _))
    all_goals try (first | omega | with_reducible rfl | ((with_reducible refine eqId ?_); exact rfl) | with_reducible (first | assumption | exact pl ‹_› | exact pr ‹_› | exact plr ‹_› | exact pll ‹_› | exact prl ‹_› | exact plll ‹_› | exact prll ‹_›))
    · have hlt : i < l.length := by assumption
      have ht := sm_take (f := List.length) (d := []) hlt
      have hm := h.2 _ (getD_mem (d := []) hlt)
      have ht2 := sm_le (f := List.length) (l := l) (i := i + 1)
      refine FinK.val1 ?_ ?_
      all_goals (try refine amF (h := ?_))
      all_goals (try with_reducible apply True.intro)
      unfold szSS
      exact (if_pos (by omega)).symm
    · have hlt : i < l.length := by assumption
      have ht := sm_take (f := List.length) (d := []) hlt
      refine ⟨i + 1, ?_, ⟨by omega, by omega⟩, by omega⟩
      refine Le.of [] [] rfl rfl rfl rfl ?_ ?_ ?_
      all_goals (try refine amL (h := ?_))
      all_goals (try with_reducible apply True.intro)
      omega
    · refine FinK.val1 ?_ ?_
      all_goals (try refine amF (h := ?_))
      all_goals (try with_reducible apply True.intro)
      have : i = l.length := by omega
      subst this
      rw [List.take_length] at hs ⊢
      unfold szSS
      exact ((if_neg (by omega)).trans (by omega)).symm
set_option maxHeartbeats 2000000 in
theorem toStringS (l : List (List UInt8)) (u  : Bool) (nl : Option Bool) (h : okS (2 ^ 40) l) : ACalls Tryz.prog 59 [.one (.sl u nl 1 l.length (fS l))] (fun r => r = .val (.one (aS true l))) := by
  have hl := h.1
  have nt : Tryz.f59.ntmps = 22 := rfl
  have rs : Tryz.f59.results = #[.tmp 2] := rfl
  refine ACalls.of_run (m := 400) mixed Tryz.func59 rfl rfl (Nat.le_of_ble_eq_true rfl) ?_
  simp only [nt, rs]
  clear nt rs
  (try refine am (h := ?_)); (try with_reducible apply True.intro)
  repeat' (first | (with_reducible refine And.intro ?_ ?_) | (with_reducible intro _))
  all_goals try (first | omega | with_reducible rfl | ((with_reducible refine eqId ?_); exact rfl) | with_reducible (first | assumption | exact pl ‹_› | exact pr ‹_› | exact plr ‹_› | exact pll ‹_› | exact prl ‹_› | exact plll ‹_› | exact prll ‹_›))
  refine LoopK.auto (Nat) (fun i => [(4, .one (.av (.int .i64 i)))]) (fun i => [(4, ⟨.sl true none 1 l.length (fun i' j => gl .junk (if i' < i then [.str (l.getD i' [])] else [.str []]) j), []⟩)]) [0, 3] (k0 := ?k04) (keepH := ?kh4) 7 (fun i => i ≤ l.length) (fun i => l.length - i) (0) ?kea4 ?keb4 ?_ ?_ ?_
  case kea4 => exact amN
  case keb4 => exact amN
  · exact Nat.zero_le _
  · refine Le.of [(4, 4)] [] rfl rfl rfl rfl ?_ ?_ ?_
    all_goals (try refine amL (h := ?_))
    all_goals (try with_reducible apply True.intro)
    exact ALe.of (.inl rfl) rfl (fun i hi j hj => by rw [if_neg (by omega)]; exact .refl _)
  · intro i hi
    (try refine am (h := ?_)); (try with_reducible apply True.intro)
    repeat' (first | (with_reducible refine And.intro ?_ ?_) | (with_reducible intro _))
    all_goals try (first | omega | with_reducible rfl | ((with_reducible refine eqId ?_); exact rfl) | with_reducible (first | assumption | exact pl ‹_› | exact pr ‹_› | exact plr ‹_› | exact pll ‹_› | exact prl ‹_› | exact plll ‹_› | exact prll ‹_›))
    · have hlt : i < l.length := by assumption
      refine ⟨i + 1, ?_, by omega, by omega⟩
      refine Le.of [(4, 4)] [] rfl rfl rfl rfl ?_ ?_ ?_
      all_goals (try refine amL (h := ?_))
      all_goals (try with_reducible apply True.intro)
      refine ALe.of (.inl rfl) rfl (fun i' hi j hj => ?_)
      exact rowsLe (E := fun i' => [.str (l.getD i' [])]) hj rfl
    · refine FinK.val1 ?_ ?_
      all_goals (try refine amF (h := ?_))
      all_goals (try with_reducible apply True.intro)
      refine ALe.of (.inl rfl) rfl (fun i' hi j hj => ?_)
      rw [if_pos (by omega)]
      exact .refl _
set_option maxHeartbeats 2000000 in
theorem eqStringS (l m : List (List UInt8)) (u u' : Bool) (nl ml : Option Bool) (h : okS (2 ^ 47) l) : ACalls Tryz.prog 75 [.one (.sl u nl 1 l.length (fS l)), .one (.sl u' ml 1 m.length (fS m))] (fun r => r = .val (.one (.bool (decide (l = m))))) := by
  have hl := h.1
  have nt : Tryz.f75.ntmps = 26 := rfl
  have rs : Tryz.f75.results = #[.tmp 4] := rfl
  refine ACalls.of_run (m := 400) mixed Tryz.func75 rfl rfl (Nat.le_of_ble_eq_true rfl) ?_
  simp only [nt, rs]
  clear nt rs
  (try refine am (h := ?_)); (try with_reducible apply True.intro)
  refine ⟨fun h => ?_, fun hlen => ?_⟩
  · refine FinK.val1 ?_ ?_
    all_goals (try refine amF (h := ?_))
    all_goals (try with_reducible apply True.intro)
    exact (decide_eq_false (fun e => h (by rw [e]))).symm
  refine LoopK.auto (Nat) (fun i => [(5, .one (.av (.int .i64 i)))]) (fun i => []) [0, 1] (k0 := ?k05) (keepH := ?kh5) 7 (fun i => i ≤ l.length ∧ ∀ j, j < i → l.getD j [] = m.getD j []) (fun i => l.length - i) (0) ?kea5 ?keb5 ?_ ?_ ?_
  case kea5 => exact amN
  case keb5 => exact amN
  · exact ⟨Nat.zero_le _, fun j hj => by omega⟩
  · refine Le.of [] [] rfl rfl rfl rfl ?_ ?_ ?_
    all_goals (try refine amL (h := ?_))
    all_goals (try with_reducible apply True.intro)
  · intro i hi
    (try refine am (h := ?_)); (try with_reducible apply True.intro)
    repeat' (first | (with_reducible refine And.intro ?_ ?_) | (with_reducible intro _))
    all_goals try (first | omega | with_reducible rfl | ((with_reducible refine eqId ?_); exact rfl) | with_reducible (first | assumption | exact pl ‹_› | exact pr ‹_› | exact plr ‹_› | exact pll ‹_› | exact prl ‹_› | exact plll ‹_› | exact prll ‹_›))
    · refine FinK.val1 ?_ ?_
      all_goals (try refine amF (h := ?_))
      all_goals (try with_reducible apply True.intro)
      rename_i h2
      exact (decide_eq_false (fun e => h2 (by rw [e]))).symm
    · rename_i h2
      refine ⟨i + 1, ?_, ⟨by omega, fun j hj => ?_⟩, by omega⟩
      · refine Le.of [] [] rfl rfl rfl rfl ?_ ?_ ?_
        all_goals (try refine amL (h := ?_))
        all_goals (try with_reducible apply True.intro)
      · by_cases h3 : j = i
        · rw [h3]; first | exact h2 | exact UInt8.toNat_inj.1 (by omega) | exact UInt8.toNat_inj.1 (by exact_mod_cast h2)
        · exact hi.2 j (by omega)
    · refine FinK.val1 ?_ ?_
      all_goals (try refine amF (h := ?_))
      all_goals (try with_reducible apply True.intro)
      exact (decide_eq_true (getD_ext hlen (fun j hj => hi.2 j (by omega)))).symm
set_option maxHeartbeats 2000000 in
theorem szIntSS (l : List (List (Int))) (left : Int) (u v : Bool) (nl : Option Bool) (h : okL (2 ^ 47) l) (h0 : 0 ≤ left) (h1 : left ≤ 2 ^ 40) : ACalls Tryz.prog 9 [.one (.sl u nl 1 l.length (fL v l)), .one (.int .i64 left)] (fun r => r = .val (.one (.int .i64 (less left (szW l))))) := by
  have hl := h.1
  have nt : Tryz.f9.ntmps = 27 := rfl
  have rs : Tryz.f9.results = #[.tmp 4] := rfl
  refine ACalls.of_run (m := 400) mixed Tryz.func9 rfl rfl (Nat.le_of_ble_eq_true rfl) ?_
  simp only [nt, rs]
  clear nt rs
  (try refine am (h := ?_)); (try with_reducible apply True.intro)
  repeat' (first | (with_reducible refine And.intro ?_ ?_) | (with_reducible intro _))
  all_goals try (first | omega | with_reducible rfl | ((with_reducible refine eqId ?_); exact rfl) | with_reducible (first | assumption | exact pl ‹_› | exact pr ‹_› | exact plr ‹_› | exact pll ‹_› | exact prl ‹_› | exact plll ‹_› | exact prll ‹_›))
  · refine FinK.val1 ?_ ?_
    all_goals (try refine amF (h := ?_))
    all_goals (try with_reducible apply True.intro)
    unfold szW
    exact (if_pos (by omega)).symm
  refine LoopK.auto (Nat) (fun i => [(1, .one (.av (.int .i64 (left - l.length - sm List.length (l.take i))))), (5, .one (.av (.int .i64 i)))]) (fun i => []) [0] (k0 := ?k06) (keepH := ?kh6) 7 (fun i => i ≤ l.length ∧ 0 ≤ left - l.length - sm List.length (l.take i)) (fun i => l.length - i) (0) ?kea6 ?keb6 ?_ ?_ ?_
  case kea6 => exact amN
  case keb6 => exact amN
  · exact ⟨Nat.zero_le _, by simp [sm]; omega⟩
  · refine Le.of [] [] rfl rfl rfl rfl ?_ ?_ ?_
    all_goals (try refine amL (h := ?_))
    all_goals (try with_reducible apply True.intro)
    simp [sm]
  · rintro i ⟨hi, hs⟩
    (try refine am (h := ?_)); (try with_reducible apply True.intro)
    skip
    repeat' (first | (with_reducible refine And.intro ?_ ?_) | (with_reducible intro _))
    all_goals try (first | omega | with_reducible rfl | ((with_reducible refine eqId ?_); exact rfl) | with_reducible (first | assumption | exact pl ‹_› | exact pr ‹_› | exact plr ‹_› | exact pll ‹_› | exact prl ‹_› | exact plll ‹_› | exact prll ‹_›))
    · have hlt : i < l.length := by assumption
      have ht := sm_take (f := List.length) (d := []) hlt
      have hm := h.2 _ (getD_mem (d := []) hlt)
      have ht2 := sm_le (f := List.length) (l := l) (i := i + 1)
      first | refine CallK.one (szIntS _ _ _ _ hm hs (by omega)) (fun _ => amC) ?_ | refine CallE.one (szIntS _ _ _ _ hm hs (by omega)) (fun _ => amC) rfl ?_ | refine CallG.one rfl (fun hg => szIntS _ _ _ _ hm hs (by omega)) ?_ | refine CallEG.one rfl rfl (fun hg => szIntS _ _ _ _ hm hs (by omega)) ?_
      (try refine am (h := ?_)); (try with_reducible apply True.intro)
      rcases less_cases (left - l.length - sm List.length (l.take i)) (List.length (l.getD i [])) with ⟨hc, e⟩ | ⟨hc, e⟩
      · (try refine am (h := ?_)); (try simp only [e]); (try refine am (h := ?_)); (try with_reducible apply True.intro)
        refine FinK.val1 ?_ ?_
        all_goals (try refine amF (h := ?_))
        all_goals (try with_reducible apply True.intro)
        unfold szW tot
        exact (if_pos (by omega)).symm
      · (try refine am (h := ?_)); (try simp only [e]); (try refine am (h := ?_)); (try with_reducible apply True.intro)
        repeat' (first | (with_reducible refine And.intro ?_ ?_) | (with_reducible intro _))
        all_goals try (first | omega | with_reducible rfl | ((with_reducible refine eqId ?_); exact rfl) | with_reducible (first | assumption | exact pl ‹_› | exact pr ‹_› | exact plr ‹_› | exact pll ‹_› | exact prl ‹_› | exact plll ‹_› | exact prll ‹_›))
        refine ⟨i + 1, ?_, ⟨by omega, by omega⟩, by omega⟩
        refine Le.of [] [] rfl rfl rfl rfl ?_ ?_ ?_
        all_goals (try refine amL (h := ?_))
        all_goals (try with_reducible apply True.intro)
        omega
    · refine FinK.val1 ?_ ?_
      all_goals (try refine amF (h := ?_))
      all_goals (try with_reducible apply True.intro)
      have : i = l.length := by omega
      subst this
      rw [List.take_length] at hs ⊢
      unfold szW tot
      exact ((if_neg (by omega)).trans (by omega)).symm
set_option maxHeartbeats 2000000 in
theorem toIntSS (l : List (List (Int))) (u v : Bool) (nl : Option Bool) (h : okL (2 ^ 40) l) : ACalls Tryz.prog 14 [.one (.sl u nl 1 l.length (fL v l))] (fun r => r = .val (.one (aL true true l))) := by
  have hl := h.1
  have nt : Tryz.f14.ntmps = 23 := rfl
  have rs : Tryz.f14.results = #[.tmp 2] := rfl
  refine ACalls.of_run (m := 400) mixed Tryz.func14 rfl rfl (Nat.le_of_ble_eq_true rfl) ?_
  simp only [nt, rs]
  clear nt rs
  (try refine am (h := ?_)); (try with_reducible apply True.intro)
  repeat' (first | (with_reducible refine And.intro ?_ ?_) | (with_reducible intro _))
  all_goals try (first | omega | with_reducible rfl | ((with_reducible refine eqId ?_); exact rfl) | with_reducible (first | assumption | exact pl ‹_› | exact pr ‹_› | exact plr ‹_› | exact pll ‹_› | exact prl ‹_› | exact plll ‹_› | exact prll ‹_›))
  refine LoopK.auto (Nat) (fun i => [(4, .one (.av (.int .i64 i)))]) (fun i => [(4, ⟨.sl true none 1 l.length (fun i' j => gl .junk (if i' < i then [aI true (l.getD i' [])] else [nilAV]) j), []⟩)]) [0, 3] (k0 := ?k07) (keepH := ?kh7) 7 (fun i => i ≤ l.length) (fun i => l.length - i) (0) ?kea7 ?keb7 ?_ ?_ ?_
  case kea7 => exact amN
  case keb7 => exact amN
  · exact Nat.zero_le _
  · refine Le.of [(4, 4)] [] rfl rfl rfl rfl ?_ ?_ ?_
    all_goals (try refine amL (h := ?_))
    all_goals (try with_reducible apply True.intro)
    exact ALe.of (.inl rfl) rfl (fun i hi j hj => by rw [if_neg (by omega)]; exact .refl _)
  · intro i hi
    (try refine am (h := ?_)); (try with_reducible apply True.intro)
    repeat' (first | (with_reducible refine And.intro ?_ ?_) | (with_reducible intro _))
    all_goals try (first | omega | with_reducible rfl | ((with_reducible refine eqId ?_); exact rfl) | with_reducible (first | assumption | exact pl ‹_› | exact pr ‹_› | exact plr ‹_› | exact pll ‹_› | exact prl ‹_› | exact plll ‹_› | exact prll ‹_›))
    · have hlt : i < l.length := by assumption
      first | refine CallK.one (toIntS _ _ _ (h.2 _ (getD_mem hlt))) (fun _ => amC) ?_ | refine CallE.one (toIntS _ _ _ (h.2 _ (getD_mem hlt))) (fun _ => amC) rfl ?_ | refine CallG.one rfl (fun hg => toIntS _ _ _ (h.2 _ (getD_mem hlt))) ?_ | refine CallEG.one rfl rfl (fun hg => toIntS _ _ _ (h.2 _ (getD_mem hlt))) ?_
      (try refine am (h := ?_)); (try with_reducible apply True.intro)
      repeat' (first | (with_reducible refine And.intro ?_ ?_) | (with_reducible intro _))
      all_goals try (first | omega | with_reducible rfl | ((with_reducible refine eqId ?_); exact rfl) | with_reducible (first | assumption | exact pl ‹_› | exact pr ‹_› | exact plr ‹_› | exact pll ‹_› | exact prl ‹_› | exact plll ‹_› | exact prll ‹_›))
      refine ⟨i + 1, ?_, by omega, by omega⟩
      refine Le.of [(4, 4)] [] rfl rfl rfl rfl ?_ ?_ ?_
      all_goals (try refine amL (h := ?_))
      all_goals (try with_reducible apply True.intro)
      refine ALe.of (.inl rfl) rfl (fun i' hi j hj => ?_)
      exact rowsLe (E := fun i' => [aI true (l.getD i' [])]) hj rfl
    · refine FinK.val1 ?_ ?_
      all_goals (try refine amF (h := ?_))
      all_goals (try with_reducible apply True.intro)
      refine ALe.of (.inl rfl) rfl (fun i' hi j hj => ?_)
      rw [if_pos (by omega)]
      exact .refl _
set_option maxHeartbeats 2000000 in
theorem eqIntSS (l m : List (List (Int))) (u u' v v' : Bool) (nl ml : Option Bool) (h : okL (2 ^ 47) l) : ACalls Tryz.prog 18 [.one (.sl u nl 1 l.length (fL v l)), .one (.sl u' ml 1 m.length (fL v' m))] (fun r => r = .val (.one (.bool (decide (l = m))))) := by
  have hl := h.1
  have nt : Tryz.f18.ntmps = 27 := rfl
  have rs : Tryz.f18.results = #[.tmp 4] := rfl
  refine ACalls.of_run (m := 400) mixed Tryz.func18 rfl rfl (Nat.le_of_ble_eq_true rfl) ?_
  simp only [nt, rs]
  clear nt rs
  (try refine am (h := ?_)); (try with_reducible apply True.intro)
  refine ⟨fun h => ?_, fun hlen => ?_⟩
  · refine FinK.val1 ?_ ?_
    all_goals (try refine amF (h := ?_))
    all_goals (try with_reducible apply True.intro)
    exact (decide_eq_false (fun e => h (by rw [e]))).symm
  refine LoopK.auto (Nat) (fun i => [(5, .one (.av (.int .i64 i)))]) (fun i => []) [0, 1] (k0 := ?k08) (keepH := ?kh8) 7 (fun i => i ≤ l.length ∧ ∀ j, j < i → l.getD j [] = m.getD j []) (fun i => l.length - i) (0) ?kea8 ?keb8 ?_ ?_ ?_
  case kea8 => exact amN
  case keb8 => exact amN
  · exact ⟨Nat.zero_le _, fun j hj => by omega⟩
  · refine Le.of [] [] rfl rfl rfl rfl ?_ ?_ ?_
    all_goals (try refine amL (h := ?_))
    all_goals (try with_reducible apply True.intro)
  · intro i hi
    (try refine am (h := ?_)); (try with_reducible apply True.intro)
    repeat' (first | (with_reducible refine And.intro ?_ ?_) | (with_reducible intro _))
    all_goals try (first | omega | with_reducible rfl | ((with_reducible refine eqId ?_); exact rfl) | with_reducible (first | assumption | exact pl ‹_› | exact pr ‹_› | exact plr ‹_› | exact pll ‹_› | exact prl ‹_› | exact plll ‹_› | exact prll ‹_›))
    · have hlt : i < l.length := by assumption
      refine CallE.one (eqIntS _ _ _ _ _ _ (h.2 _ (getD_mem hlt))) (fun _ => amC) rfl ?_
      (try refine am (h := ?_)); (try with_reducible apply True.intro)
      repeat' (first | (with_reducible refine And.intro ?_ ?_) | (with_reducible intro _))
      all_goals try (first | omega | with_reducible rfl | ((with_reducible refine eqId ?_); exact rfl) | with_reducible (first | assumption | exact pl ‹_› | exact pr ‹_› | exact plr ‹_› | exact pll ‹_› | exact prl ‹_› | exact plll ‹_› | exact prll ‹_›))
      · refine FinK.val1 ?_ ?_
        all_goals (try refine amF (h := ?_))
        all_goals (try with_reducible apply True.intro)
        rename_i h2
        exact (decide_eq_false (fun e => h2 (by rw [e]))).symm
      · rename_i h2
        refine ⟨i + 1, ?_, ⟨by omega, fun j hj => ?_⟩, by omega⟩
        · refine Le.of [] [] rfl rfl rfl rfl ?_ ?_ ?_
          all_goals (try refine amL (h := ?_))
          all_goals (try with_reducible apply True.intro)
        · by_cases h3 : j = i
          · rw [h3]; exact h2
          · exact hi.2 j (by omega)
    · refine FinK.val1 ?_ ?_
      all_goals (try refine amF (h := ?_))
      all_goals (try with_reducible apply True.intro)
      exact (decide_eq_true (getD_ext hlen (fun j hj => hi.2 j (by omega)))).symm
set_option maxHeartbeats 2000000 in
theorem szAttr (x : DAttr) (left : Int) (u v : Bool) (h : okAttr (2 ^ 47) x) (h0 : 0 ≤ left) (h1 : left ≤ 2 ^ 40) : ACalls Tryz.prog 114 [.agg (cAttr u v x), .one (.int .i64 left)] (fun r => r = .val (.one (.int .i64 (less left (zAttr x))))) := by
  have hz : zAttr x = x.name.length + x.cuts.length + szSS x.values := rfl
  have nt : Tryz.f114.ntmps = 25 := rfl
  have rs : Tryz.f114.results = #[.tmp 4] := rfl
  refine ACalls.of_run (m := 400) mixed Tryz.func114 rfl rfl (Nat.le_of_ble_eq_true rfl) ?_
  simp only [nt, rs]
  clear nt rs
  (try refine am (h := ?_)); (try with_reducible apply True.intro)
  have hs0 := h.1
  repeat' (first | (with_reducible refine And.intro ?_ ?_) | (with_reducible intro _))
  all_goals try (first | omega | with_reducible rfl | ((with_reducible refine eqId ?_); exact rfl) | with_reducible (first | assumption | exact pl ‹_› | exact pr ‹_› | exact plr ‹_› | exact pll ‹_› | exact prl ‹_› | exact plll ‹_› | exact prll ‹_›))
  · refine FinK.val1 ?_ ?_
    all_goals (try refine amF (h := ?_))
    all_goals (try with_reducible apply True.intro)
    exact (if_pos (by omega)).symm
  first | refine CallK.one (szIntS x.cuts (left - x.name.length) _ _ h.2.1 (by omega) (by omega)) (fun _ => amC) ?_ | refine CallE.one (szIntS x.cuts (left - x.name.length) _ _ h.2.1 (by omega) (by omega)) (fun _ => amC) rfl ?_ | refine CallG.one rfl (fun hg => szIntS x.cuts (left - x.name.length) _ _ h.2.1 (by omega) (by omega)) ?_ | refine CallEG.one rfl rfl (fun hg => szIntS x.cuts (left - x.name.length) _ _ h.2.1 (by omega) (by omega)) ?_
  (try refine am (h := ?_)); (try with_reducible apply True.intro)
  rcases less_cases (left - x.name.length) (x.cuts.length) with ⟨hc1, e⟩ | ⟨hc1, e⟩
  · (try refine am (h := ?_)); (try simp only [e]); (try refine am (h := ?_)); (try with_reducible apply True.intro)
    refine FinK.val1 ?_ ?_
    all_goals (try refine amF (h := ?_))
    all_goals (try with_reducible apply True.intro)
    first | done | exact (if_pos (by omega)).symm
  (try refine am (h := ?_)); (try simp only [e]); (try refine am (h := ?_)); (try with_reducible apply True.intro)
  repeat' (first | (with_reducible refine And.intro ?_ ?_) | (with_reducible intro _))
  all_goals try (first | omega | with_reducible rfl | ((with_reducible refine eqId ?_); exact rfl) | with_reducible (first | assumption | exact pl ‹_› | exact pr ‹_› | exact plr ‹_› | exact pll ‹_› | exact prl ‹_› | exact plll ‹_› | exact prll ‹_›))
  first | refine CallK.one (szStringS x.values ((left - x.name.length) - (x.cuts.length : Nat)) _ _ h.2.2 (by omega) (by omega)) (fun _ => amC) ?_ | refine CallE.one (szStringS x.values ((left - x.name.length) - (x.cuts.length : Nat)) _ _ h.2.2 (by omega) (by omega)) (fun _ => amC) rfl ?_ | refine CallG.one rfl (fun hg => szStringS x.values ((left - x.name.length) - (x.cuts.length : Nat)) _ _ h.2.2 (by omega) (by omega)) ?_ | refine CallEG.one rfl rfl (fun hg => szStringS x.values ((left - x.name.length) - (x.cuts.length : Nat)) _ _ h.2.2 (by omega) (by omega)) ?_
  (try refine am (h := ?_)); (try with_reducible apply True.intro)
  rcases less_cases ((left - x.name.length) - (x.cuts.length : Nat)) (szSS x.values) with ⟨hc2, e⟩ | ⟨hc2, e⟩
  · (try refine am (h := ?_)); (try simp only [e]); (try refine am (h := ?_)); (try with_reducible apply True.intro)
    refine FinK.val1 ?_ ?_
    all_goals (try refine amF (h := ?_))
    all_goals (try with_reducible apply True.intro)
    first | done | exact (if_pos (by omega)).symm
  (try refine am (h := ?_)); (try simp only [e]); (try refine am (h := ?_)); (try with_reducible apply True.intro)
  repeat' (first | (with_reducible refine And.intro ?_ ?_) | (with_reducible intro _))
  all_goals try (first | omega | with_reducible rfl | ((with_reducible refine eqId ?_); exact rfl) | with_reducible (first | assumption | exact pl ‹_› | exact pr ‹_› | exact plr ‹_› | exact pll ‹_› | exact prl ‹_› | exact plll ‹_› | exact prll ‹_›))
  refine FinK.val1 ?_ ?_
  all_goals (try refine amF (h := ?_))
  all_goals (try with_reducible apply True.intro)
  first | done | exact ((if_neg (by omega)).trans (by omega)).symm
set_option maxHeartbeats 2000000 in
theorem toAttr (x : DAttr) (u v : Bool) (h : okAttr (2 ^ 40) x) : ACalls Tryz.prog 120 [.agg (cAttr u v x)] (fun r => r = .val (.agg (cAttr true true x))) := by
  have nt : Tryz.f120.ntmps = 16 := rfl
  have rs : Tryz.f120.results = #[.cell 2 127] := rfl
  refine ACalls.of_run (m := 400) mixed Tryz.func120 rfl rfl (Nat.le_of_ble_eq_true rfl) ?_
  simp only [nt, rs]
  clear nt rs
  (try refine am (h := ?_)); (try with_reducible apply True.intro)
  first | refine CallK.one (toIntS x.cuts _ _ h.2.1) (fun _ => amC) ?_ | refine CallE.one (toIntS x.cuts _ _ h.2.1) (fun _ => amC) rfl ?_ | refine CallG.one rfl (fun hg => toIntS x.cuts _ _ h.2.1) ?_ | refine CallEG.one rfl rfl (fun hg => toIntS x.cuts _ _ h.2.1) ?_
  (try refine am (h := ?_)); (try with_reducible apply True.intro)
  first | refine CallK.one (toStringS x.values _ _ h.2.2) (fun _ => amC) ?_ | refine CallE.one (toStringS x.values _ _ h.2.2) (fun _ => amC) rfl ?_ | refine CallG.one rfl (fun hg => toStringS x.values _ _ h.2.2) ?_ | refine CallEG.one rfl rfl (fun hg => toStringS x.values _ _ h.2.2) ?_
  (try refine am (h := ?_)); (try with_reducible apply True.intro)
  refine FinK.cell1 ?_ ?_ ?_
  all_goals (try refine amF (h := ?_))
  all_goals (try with_reducible apply True.intro)
set_option maxHeartbeats 2000000 in
theorem eqAttr (x y : DAttr) (u v u' v' : Bool) (h : okAttr (2 ^ 47) x) : ACalls Tryz.prog 129 [.agg (cAttr u v x), .agg (cAttr u' v' y)] (fun r => r = .val (.one (.bool (decide (x = y))))) := by
  obtain ⟨x0, x1, x2⟩ := x
  obtain ⟨y0, y1, y2⟩ := y
  have nt : Tryz.f129.ntmps = 22 := rfl
  have rs : Tryz.f129.results = #[.tmp 4] := rfl
  refine ACalls.of_run (m := 400) mixed Tryz.func129 rfl rfl (Nat.le_of_ble_eq_true rfl) ?_
  simp only [nt, rs]
  clear nt rs
  (try refine am (h := ?_)); (try with_reducible apply True.intro)
  repeat' (first | (with_reducible refine And.intro ?_ ?_) | (with_reducible intro _))
  all_goals try (first | omega | with_reducible rfl | ((with_reducible refine eqId ?_); exact rfl) | with_reducible (first | assumption | exact pl ‹_› | exact pr ‹_› | exact plr ‹_› | exact pll ‹_› | exact prl ‹_› | exact plll ‹_› | exact prll ‹_›))
  · refine FinK.val1 ?_ ?_
    all_goals (try refine amF (h := ?_))
    all_goals (try with_reducible apply True.intro)
    (first | rfl | (simp_all; done) | (simp_all [Bool.and_assoc]; done) | (simp_all [Bool.and_comm]; done))
  first | refine CallK.one (eqIntS x1 y1 _ _ _ _ h.2.1) (fun _ => amC) ?_ | refine CallE.one (eqIntS x1 y1 _ _ _ _ h.2.1) (fun _ => amC) rfl ?_ | refine CallG.one rfl (fun hg => eqIntS x1 y1 _ _ _ _ h.2.1) ?_ | refine CallEG.one rfl rfl (fun hg => eqIntS x1 y1 _ _ _ _ h.2.1) ?_
  (try refine am (h := ?_)); (try with_reducible apply True.intro)
  repeat' (first | (with_reducible refine And.intro ?_ ?_) | (with_reducible intro _))
  all_goals try (first | omega | with_reducible rfl | ((with_reducible refine eqId ?_); exact rfl) | with_reducible (first | assumption | exact pl ‹_› | exact pr ‹_› | exact plr ‹_› | exact pll ‹_› | exact prl ‹_› | exact plll ‹_› | exact prll ‹_›))
  · refine FinK.val1 ?_ ?_
    all_goals (try refine amF (h := ?_))
    all_goals (try with_reducible apply True.intro)
    (first | rfl | (simp_all; done) | (simp_all [Bool.and_assoc]; done) | (simp_all [Bool.and_comm]; done))
  first | refine CallK.one (eqStringS x2 y2 _ _ _ _ h.2.2) (fun _ => amC) ?_ | refine CallE.one (eqStringS x2 y2 _ _ _ _ h.2.2) (fun _ => amC) rfl ?_ | refine CallG.one rfl (fun hg => eqStringS x2 y2 _ _ _ _ h.2.2) ?_ | refine CallEG.one rfl rfl (fun hg => eqStringS x2 y2 _ _ _ _ h.2.2) ?_
  (try refine am (h := ?_)); (try with_reducible apply True.intro)
  repeat' (first | (with_reducible refine And.intro ?_ ?_) | (with_reducible intro _))
  all_goals try (first | omega | with_reducible rfl | ((with_reducible refine eqId ?_); exact rfl) | with_reducible (first | assumption | exact pl ‹_› | exact pr ‹_› | exact plr ‹_› | exact pll ‹_› | exact prl ‹_› | exact plll ‹_› | exact prll ‹_›))
  · refine FinK.val1 ?_ ?_
    all_goals (try refine amF (h := ?_))
    all_goals (try with_reducible apply True.intro)
    (first | rfl | (simp_all; done) | (simp_all [Bool.and_assoc]; done) | (simp_all [Bool.and_comm]; done))
  refine FinK.val1 ?_ ?_
  all_goals (try refine amF (h := ?_))
  all_goals (try with_reducible apply True.intro)
  (first | rfl | (simp_all; done) | (simp_all [Bool.and_assoc]; done) | (simp_all [Bool.and_comm]; done))
set_option maxHeartbeats 2000000 in
theorem szAttrS (l : List (DAttr)) (left : Int) (u v : Bool) (nl : Option Bool) (h : okAttrS (2 ^ 47) l) (h0 : 0 ≤ left) (h1 : left ≤ 2 ^ 40) : ACalls Tryz.prog 46 [.one (.sl u nl 3 l.length (fAttr v l)), .one (.int .i64 left)] (fun r => r = .val (.one (.int .i64 (less left (zAttrS l))))) := by
  have hl := h.1
  have nt : Tryz.f46.ntmps = 27 := rfl
  have rs : Tryz.f46.results = #[.tmp 4] := rfl
  refine ACalls.of_run (m := 400) mixed Tryz.func46 rfl rfl (Nat.le_of_ble_eq_true rfl) ?_
  simp only [nt, rs]
  clear nt rs
  (try refine am (h := ?_)); (try with_reducible apply True.intro)
  repeat' (first | (with_reducible refine And.intro ?_ ?_) | (with_reducible intro _))
  all_goals try (first | omega | with_reducible rfl | ((with_reducible refine eqId ?_); exact rfl) | with_reducible (first | assumption | exact pl ‹_› | exact pr ‹_› | exact plr ‹_› | exact pll ‹_› | exact prl ‹_› | exact plll ‹_› | exact prll ‹_›))
  · refine FinK.val1 ?_ ?_
    all_goals (try refine amF (h := ?_))
    all_goals (try with_reducible apply True.intro)
    unfold zAttrS
    exact (if_pos (by omega)).symm
  refine LoopK.auto (Nat) (fun i => [(1, .one (.av (.int .i64 (left - l.length - sm zAttr (l.take i))))), (5, .one (.av (.int .i64 i)))]) (fun i => []) [0] (k0 := ?k09) (keepH := ?kh9) 7 (fun i => i ≤ l.length ∧ 0 ≤ left - l.length - sm zAttr (l.take i)) (fun i => l.length - i) (0) ?kea9 ?keb9 ?_ ?_ ?_
  case kea9 => exact amN
  case keb9 => exact amN
  · exact ⟨Nat.zero_le _, by simp [sm]; omega⟩
  · refine Le.of [] [] rfl rfl rfl rfl ?_ ?_ ?_
    all_goals (try refine amL (h := ?_))
    all_goals (try with_reducible apply True.intro)
    simp [sm]
  · rintro i ⟨hi, hs⟩
    (try refine am (h := ?_)); (try with_reducible apply True.intro)
    skip
    repeat' (first | (with_reducible refine And.intro ?_ ?_) | (with_reducible intro _))
    all_goals try (first | omega | with_reducible rfl | ((with_reducible refine eqId ?_); exact rfl) | with_reducible (first | assumption | exact pl ‹_› | exact pr ‹_› | exact plr ‹_› | exact pll ‹_› | exact prl ‹_› | exact plll ‹_› | exact prll ‹_›))
    · have hlt : i < l.length := by assumption
      have ht := sm_take (f := zAttr) (d := default) hlt
      have hm := h.2 _ (getD_mem (d := default) hlt)
      have ht2 := sm_le (f := zAttr) (l := l) (i := i + 1)
      first | refine CallK.one (szAttr _ _ v v hm hs (by omega)) (fun _ => amC) ?_ | refine CallE.one (szAttr _ _ v v hm hs (by omega)) (fun _ => amC) rfl ?_ | refine CallG.one rfl (fun hg => szAttr _ _ v v hm hs (by omega)) ?_ | refine CallEG.one rfl rfl (fun hg => szAttr _ _ v v hm hs (by omega)) ?_
      (try refine am (h := ?_)); (try with_reducible apply True.intro)
      rcases less_cases (left - l.length - sm zAttr (l.take i)) (zAttr (l.getD i default)) with ⟨hc, e⟩ | ⟨hc, e⟩
      · (try refine am (h := ?_)); (try simp only [e]); (try refine am (h := ?_)); (try with_reducible apply True.intro)
        refine FinK.val1 ?_ ?_
        all_goals (try refine amF (h := ?_))
        all_goals (try with_reducible apply True.intro)
        unfold zAttrS
        exact (if_pos (by omega)).symm
      · (try refine am (h := ?_)); (try simp only [e]); (try refine am (h := ?_)); (try with_reducible apply True.intro)
        repeat' (first | (with_reducible refine And.intro ?_ ?_) | (with_reducible intro _))
        all_goals try (first | omega | with_reducible rfl | ((with_reducible refine eqId ?_); exact rfl) | with_reducible (first | assumption | exact pl ‹_› | exact pr ‹_› | exact plr ‹_› | exact pll ‹_› | exact prl ‹_› | exact plll ‹_› | exact prll ‹_›))
        refine ⟨i + 1, ?_, ⟨by omega, by omega⟩, by omega⟩
        refine Le.of [] [] rfl rfl rfl rfl ?_ ?_ ?_
        all_goals (try refine amL (h := ?_))
        all_goals (try with_reducible apply True.intro)
        omega
    · refine FinK.val1 ?_ ?_
      all_goals (try refine amF (h := ?_))
      all_goals (try with_reducible apply True.intro)
      have : i = l.length := by omega
      subst this
      rw [List.take_length] at hs ⊢
      unfold zAttrS
      exact ((if_neg (by omega)).trans (by omega)).symm
set_option maxHeartbeats 2000000 in
theorem toAttrS (l : List (DAttr)) (u v : Bool) (nl : Option Bool) (h : okAttrS (2 ^ 40) l) : ACalls Tryz.prog 58 [.one (.sl u nl 3 l.length (fAttr v l))] (fun r => r = .val (.one (aAttr true true l))) := by
  have hl := h.1
  have nt : Tryz.f58.ntmps = 23 := rfl
  have rs : Tryz.f58.results = #[.tmp 2] := rfl
  refine ACalls.of_run (m := 400) mixed Tryz.func58 rfl rfl (Nat.le_of_ble_eq_true rfl) ?_
  simp only [nt, rs]
  clear nt rs
  (try refine am (h := ?_)); (try with_reducible apply True.intro)
  repeat' (first | (with_reducible refine And.intro ?_ ?_) | (with_reducible intro _))
  all_goals try (first | omega | with_reducible rfl | ((with_reducible refine eqId ?_); exact rfl) | with_reducible (first | assumption | exact pl ‹_› | exact pr ‹_› | exact plr ‹_› | exact pll ‹_› | exact prl ‹_› | exact plll ‹_› | exact prll ‹_›))
  refine LoopK.auto (Nat) (fun i => [(4, .one (.av (.int .i64 i)))]) (fun i => [(4, ⟨.sl true none 3 l.length (fun i' j => gl .junk (if i' < i then cAttr true true (l.getD i' default) else [.str [], nilAV, nilAV]) j), []⟩)]) [0, 3] (k0 := ?k010) (keepH := ?kh10) 7 (fun i => i ≤ l.length) (fun i => l.length - i) (0) ?kea10 ?keb10 ?_ ?_ ?_
  case kea10 => exact amN
  case keb10 => exact amN
  · exact Nat.zero_le _
  · refine Le.of [(4, 4)] [] rfl rfl rfl rfl ?_ ?_ ?_
    all_goals (try refine amL (h := ?_))
    all_goals (try with_reducible apply True.intro)
    exact ALe.of (.inl rfl) rfl (fun i hi j hj => by rw [if_neg (by omega)]; exact .refl _)
  · intro i hi
    (try refine am (h := ?_)); (try with_reducible apply True.intro)
    repeat' (first | (with_reducible refine And.intro ?_ ?_) | (with_reducible intro _))
    all_goals try (first | omega | with_reducible rfl | ((with_reducible refine eqId ?_); exact rfl) | with_reducible (first | assumption | exact pl ‹_› | exact pr ‹_› | exact plr ‹_› | exact pll ‹_› | exact prl ‹_› | exact plll ‹_› | exact prll ‹_›))
    · have hlt : i < l.length := by assumption
      first | refine CallK.one (toAttr _ v v (h.2 _ (getD_mem hlt))) (fun _ => amC) ?_ | refine CallE.one (toAttr _ v v (h.2 _ (getD_mem hlt))) (fun _ => amC) rfl ?_ | refine CallG.one rfl (fun hg => toAttr _ v v (h.2 _ (getD_mem hlt))) ?_ | refine CallEG.one rfl rfl (fun hg => toAttr _ v v (h.2 _ (getD_mem hlt))) ?_
      (try refine am (h := ?_)); (try with_reducible apply True.intro)
      repeat' (first | (with_reducible refine And.intro ?_ ?_) | (with_reducible intro _))
      all_goals try (first | omega | with_reducible rfl | ((with_reducible refine eqId ?_); exact rfl) | with_reducible (first | assumption | exact pl ‹_› | exact pr ‹_› | exact plr ‹_› | exact pll ‹_› | exact prl ‹_› | exact plll ‹_› | exact prll ‹_›))
      refine ⟨i + 1, ?_, by omega, by omega⟩
      refine Le.of [(4, 4)] [] rfl rfl rfl rfl ?_ ?_ ?_
      all_goals (try refine amL (h := ?_))
      all_goals (try with_reducible apply True.intro)
      refine ALe.of (.inl rfl) rfl (fun i' hi j hj => ?_)
      exact rowsLe (E := fun i' => cAttr true true (l.getD i' default)) hj rfl
    · refine FinK.val1 ?_ ?_
      all_goals (try refine amF (h := ?_))
      all_goals (try with_reducible apply True.intro)
      refine ALe.of (.inl rfl) rfl (fun i' hi j hj => ?_)
      rw [if_pos (by omega)]
      exact .refl _
set_option maxHeartbeats 2000000 in
theorem eqAttrS (l m : List (DAttr)) (u u' v v' : Bool) (nl ml : Option Bool) (h : okAttrS (2 ^ 47) l) : ACalls Tryz.prog 74 [.one (.sl u nl 3 l.length (fAttr v l)), .one (.sl u' ml 3 m.length (fAttr v' m))] (fun r => r = .val (.one (.bool (decide (l = m))))) := by
  have hl := h.1
  have nt : Tryz.f74.ntmps = 27 := rfl
  have rs : Tryz.f74.results = #[.tmp 4] := rfl
  refine ACalls.of_run (m := 400) mixed Tryz.func74 rfl rfl (Nat.le_of_ble_eq_true rfl) ?_
  simp only [nt, rs]
  clear nt rs
  (try refine am (h := ?_)); (try with_reducible apply True.intro)
  refine ⟨fun h => ?_, fun hlen => ?_⟩
  · refine FinK.val1 ?_ ?_
    all_goals (try refine amF (h := ?_))
    all_goals (try with_reducible apply True.intro)
    exact (decide_eq_false (fun e => h (by rw [e]))).symm
  refine LoopK.auto (Nat) (fun i => [(5, .one (.av (.int .i64 i)))]) (fun i => []) [0, 1] (k0 := ?k011) (keepH := ?kh11) 7 (fun i => i ≤ l.length ∧ ∀ j, j < i → l.getD j default = m.getD j default) (fun i => l.length - i) (0) ?kea11 ?keb11 ?_ ?_ ?_
  case kea11 => exact amN
  case keb11 => exact amN
  · exact ⟨Nat.zero_le _, fun j hj => by omega⟩
  · refine Le.of [] [] rfl rfl rfl rfl ?_ ?_ ?_
    all_goals (try refine amL (h := ?_))
    all_goals (try with_reducible apply True.intro)
  · intro i hi
    (try refine am (h := ?_)); (try with_reducible apply True.intro)
    repeat' (first | (with_reducible refine And.intro ?_ ?_) | (with_reducible intro _))
    all_goals try (first | omega | with_reducible rfl | ((with_reducible refine eqId ?_); exact rfl) | with_reducible (first | assumption | exact pl ‹_› | exact pr ‹_› | exact plr ‹_› | exact pll ‹_› | exact prl ‹_› | exact plll ‹_› | exact prll ‹_›))
    · have hlt : i < l.length := by assumption
      refine CallE.one (eqAttr _ _ v v v' v' (h.2 _ (getD_mem hlt))) (fun _ => amC) rfl ?_
      (try refine am (h := ?_)); (try with_reducible apply True.intro)
      repeat' (first | (with_reducible refine And.intro ?_ ?_) | (with_reducible intro _))
      all_goals try (first | omega | with_reducible rfl | ((with_reducible refine eqId ?_); exact rfl) | with_reducible (first | assumption | exact pl ‹_› | exact pr ‹_› | exact plr ‹_› | exact pll ‹_› | exact prl ‹_› | exact plll ‹_› | exact prll ‹_›))
      · refine FinK.val1 ?_ ?_
        all_goals (try refine amF (h := ?_))
        all_goals (try with_reducible apply True.intro)
        rename_i h2
        exact (decide_eq_false (fun e => h2 (by rw [e]))).symm
      · rename_i h2
        refine ⟨i + 1, ?_, ⟨by omega, fun j hj => ?_⟩, by omega⟩
        · refine Le.of [] [] rfl rfl rfl rfl ?_ ?_ ?_
          all_goals (try refine amL (h := ?_))
          all_goals (try with_reducible apply True.intro)
        · by_cases h3 : j = i
          · rw [h3]; exact h2
          · exact hi.2 j (by omega)
    · refine FinK.val1 ?_ ?_
      all_goals (try refine amF (h := ?_))
      all_goals (try with_reducible apply True.intro)
      exact (decide_eq_true (getD_ext hlen (fun j hj => hi.2 j (by omega)))).symm
set_option maxHeartbeats 2000000 in
theorem szSchema (x : DSchema) (left : Int) (u v : Bool) (h : okSchema (2 ^ 47) x) (h0 : 0 ≤ left) (h1 : left ≤ 2 ^ 40) : ACalls Tryz.prog 7 [.agg (cSchema u v x), .one (.int .i64 left)] (fun r => r = .val (.one (.int .i64 (less left (zSchema x))))) := by
  have hz : zSchema x = zAttrS x.attrs + szSS x.classes := rfl
  have nt : Tryz.f7.ntmps = 18 := rfl
  have rs : Tryz.f7.results = #[.tmp 4] := rfl
  refine ACalls.of_run (m := 400) mixed Tryz.func7 rfl rfl (Nat.le_of_ble_eq_true rfl) ?_
  simp only [nt, rs]
  clear nt rs
  (try refine am (h := ?_)); (try with_reducible apply True.intro)
  first | refine CallK.one (szAttrS x.attrs left _ _ _ h.1 (by omega) (by omega)) (fun _ => amC) ?_ | refine CallE.one (szAttrS x.attrs left _ _ _ h.1 (by omega) (by omega)) (fun _ => amC) rfl ?_ | refine CallG.one rfl (fun hg => szAttrS x.attrs left _ _ _ h.1 (by omega) (by omega)) ?_ | refine CallEG.one rfl rfl (fun hg => szAttrS x.attrs left _ _ _ h.1 (by omega) (by omega)) ?_
  (try refine am (h := ?_)); (try with_reducible apply True.intro)
  rcases less_cases left (zAttrS x.attrs) with ⟨hc0, e⟩ | ⟨hc0, e⟩
  · (try refine am (h := ?_)); (try simp only [e]); (try refine am (h := ?_)); (try with_reducible apply True.intro)
    refine FinK.val1 ?_ ?_
    all_goals (try refine amF (h := ?_))
    all_goals (try with_reducible apply True.intro)
    first | done | exact (if_pos (by omega)).symm
  (try refine am (h := ?_)); (try simp only [e]); (try refine am (h := ?_)); (try with_reducible apply True.intro)
  repeat' (first | (with_reducible refine And.intro ?_ ?_) | (with_reducible intro _))
  all_goals try (first | omega | with_reducible rfl | ((with_reducible refine eqId ?_); exact rfl) | with_reducible (first | assumption | exact pl ‹_› | exact pr ‹_› | exact plr ‹_› | exact pll ‹_› | exact prl ‹_› | exact plll ‹_› | exact prll ‹_›))
  first | refine CallK.one (szStringS x.classes (left - (zAttrS x.attrs : Nat)) _ _ h.2 (by omega) (by omega)) (fun _ => amC) ?_ | refine CallE.one (szStringS x.classes (left - (zAttrS x.attrs : Nat)) _ _ h.2 (by omega) (by omega)) (fun _ => amC) rfl ?_ | refine CallG.one rfl (fun hg => szStringS x.classes (left - (zAttrS x.attrs : Nat)) _ _ h.2 (by omega) (by omega)) ?_ | refine CallEG.one rfl rfl (fun hg => szStringS x.classes (left - (zAttrS x.attrs : Nat)) _ _ h.2 (by omega) (by omega)) ?_
  (try refine am (h := ?_)); (try with_reducible apply True.intro)
  rcases less_cases (left - (zAttrS x.attrs : Nat)) (szSS x.classes) with ⟨hc1, e⟩ | ⟨hc1, e⟩
  · (try refine am (h := ?_)); (try simp only [e]); (try refine am (h := ?_)); (try with_reducible apply True.intro)
    refine FinK.val1 ?_ ?_
    all_goals (try refine amF (h := ?_))
    all_goals (try with_reducible apply True.intro)
    first | done | exact (if_pos (by omega)).symm
  (try refine am (h := ?_)); (try simp only [e]); (try refine am (h := ?_)); (try with_reducible apply True.intro)
  repeat' (first | (with_reducible refine And.intro ?_ ?_) | (with_reducible intro _))
  all_goals try (first | omega | with_reducible rfl | ((with_reducible refine eqId ?_); exact rfl) | with_reducible (first | assumption | exact pl ‹_› | exact pr ‹_› | exact plr ‹_› | exact pll ‹_› | exact prl ‹_› | exact plll ‹_› | exact prll ‹_›))
  refine FinK.val1 ?_ ?_
  all_goals (try refine amF (h := ?_))
  all_goals (try with_reducible apply True.intro)
  first | done | exact ((if_neg (by omega)).trans (by omega)).symm
set_option maxHeartbeats 2000000 in
theorem toSchema (x : DSchema) (u v : Bool) (h : okSchema (2 ^ 40) x) : ACalls Tryz.prog 11 [.agg (cSchema u v x)] (fun r => r = .val (.agg (cSchema true true x))) := by
  have nt : Tryz.f11.ntmps = 13 := rfl
  have rs : Tryz.f11.results = #[.cell 2 42] := rfl
  refine ACalls.of_run (m := 400) mixed Tryz.func11 rfl rfl (Nat.le_of_ble_eq_true rfl) ?_
  simp only [nt, rs]
  clear nt rs
  (try refine am (h := ?_)); (try with_reducible apply True.intro)
  first | refine CallK.one (toAttrS x.attrs _ _ _ h.1) (fun _ => amC) ?_ | refine CallE.one (toAttrS x.attrs _ _ _ h.1) (fun _ => amC) rfl ?_ | refine CallG.one rfl (fun hg => toAttrS x.attrs _ _ _ h.1) ?_ | refine CallEG.one rfl rfl (fun hg => toAttrS x.attrs _ _ _ h.1) ?_
  (try refine am (h := ?_)); (try with_reducible apply True.intro)
  first | refine CallK.one (toStringS x.classes _ _ h.2) (fun _ => amC) ?_ | refine CallE.one (toStringS x.classes _ _ h.2) (fun _ => amC) rfl ?_ | refine CallG.one rfl (fun hg => toStringS x.classes _ _ h.2) ?_ | refine CallEG.one rfl rfl (fun hg => toStringS x.classes _ _ h.2) ?_
  (try refine am (h := ?_)); (try with_reducible apply True.intro)
  refine FinK.cell1 ?_ ?_ ?_
  all_goals (try refine amF (h := ?_))
  all_goals (try with_reducible apply True.intro)
set_option maxHeartbeats 2000000 in
theorem eqSchema (x y : DSchema) (u v u' v' : Bool) (h : okSchema (2 ^ 47) x) : ACalls Tryz.prog 17 [.agg (cSchema u v x), .agg (cSchema u' v' y)] (fun r => r = .val (.one (.bool (decide (x = y))))) := by
  obtain ⟨x0, x1⟩ := x
  obtain ⟨y0, y1⟩ := y
  have nt : Tryz.f17.ntmps = 17 := rfl
  have rs : Tryz.f17.results = #[.tmp 4] := rfl
  refine ACalls.of_run (m := 400) mixed Tryz.func17 rfl rfl (Nat.le_of_ble_eq_true rfl) ?_
  simp only [nt, rs]
  clear nt rs
  (try refine am (h := ?_)); (try with_reducible apply True.intro)
  first | refine CallK.one (eqAttrS x0 y0 _ _ _ _ _ _ h.1) (fun _ => amC) ?_ | refine CallE.one (eqAttrS x0 y0 _ _ _ _ _ _ h.1) (fun _ => amC) rfl ?_ | refine CallG.one rfl (fun hg => eqAttrS x0 y0 _ _ _ _ _ _ h.1) ?_ | refine CallEG.one rfl rfl (fun hg => eqAttrS x0 y0 _ _ _ _ _ _ h.1) ?_
  (try refine am (h := ?_)); (try with_reducible apply True.intro)
  repeat' (first | (with_reducible refine And.intro ?_ ?_) | (with_reducible intro _))
  all_goals try (first | omega | with_reducible rfl | ((with_reducible refine eqId ?_); exact rfl) | with_reducible (first | assumption | exact pl ‹_› | exact pr ‹_› | exact plr ‹_› | exact pll ‹_› | exact prl ‹_› | exact plll ‹_› | exact prll ‹_›))
  · refine FinK.val1 ?_ ?_
    all_goals (try refine amF (h := ?_))
    all_goals (try with_reducible apply True.intro)
    (first | rfl | (simp_all; done) | (simp_all [Bool.and_assoc]; done) | (simp_all [Bool.and_comm]; done))
  first | refine CallK.one (eqStringS x1 y1 _ _ _ _ h.2) (fun _ => amC) ?_ | refine CallE.one (eqStringS x1 y1 _ _ _ _ h.2) (fun _ => amC) rfl ?_ | refine CallG.one rfl (fun hg => eqStringS x1 y1 _ _ _ _ h.2) ?_ | refine CallEG.one rfl rfl (fun hg => eqStringS x1 y1 _ _ _ _ h.2) ?_
  (try refine am (h := ?_)); (try with_reducible apply True.intro)
  repeat' (first | (with_reducible refine And.intro ?_ ?_) | (with_reducible intro _))
  all_goals try (first | omega | with_reducible rfl | ((with_reducible refine eqId ?_); exact rfl) | with_reducible (first | assumption | exact pl ‹_› | exact pr ‹_› | exact plr ‹_› | exact pll ‹_› | exact prl ‹_› | exact plll ‹_› | exact prll ‹_›))
  · refine FinK.val1 ?_ ?_
    all_goals (try refine amF (h := ?_))
    all_goals (try with_reducible apply True.intro)
    (first | rfl | (simp_all; done) | (simp_all [Bool.and_assoc]; done) | (simp_all [Bool.and_comm]; done))
  refine FinK.val1 ?_ ?_
  all_goals (try refine amF (h := ?_))
  all_goals (try with_reducible apply True.intro)
  (first | rfl | (simp_all; done) | (simp_all [Bool.and_assoc]; done) | (simp_all [Bool.and_comm]; done))
set_option maxHeartbeats 2000000 in
theorem szStats (x : DStats) (left : Int) (u v : Bool) (h : okStats (2 ^ 47) x) (h0 : 0 ≤ left) (h1 : left ≤ 2 ^ 40) : ACalls Tryz.prog 154 [.agg (cStats u v x), .one (.int .i64 left)] (fun r => r = .val (.one (.int .i64 (less left (zStats x))))) := by
  have hz : zStats x = x.totals.length + szW x.cells := rfl
  have nt : Tryz.f154.ntmps = 18 := rfl
  have rs : Tryz.f154.results = #[.tmp 4] := rfl
  refine ACalls.of_run (m := 400) mixed Tryz.func154 rfl rfl (Nat.le_of_ble_eq_true rfl) ?_
  simp only [nt, rs]
  clear nt rs
  (try refine am (h := ?_)); (try with_reducible apply True.intro)
  first | refine CallK.one (szIntS x.totals left _ _ h.1 (by omega) (by omega)) (fun _ => amC) ?_ | refine CallE.one (szIntS x.totals left _ _ h.1 (by omega) (by omega)) (fun _ => amC) rfl ?_ | refine CallG.one rfl (fun hg => szIntS x.totals left _ _ h.1 (by omega) (by omega)) ?_ | refine CallEG.one rfl rfl (fun hg => szIntS x.totals left _ _ h.1 (by omega) (by omega)) ?_
  (try refine am (h := ?_)); (try with_reducible apply True.intro)
  rcases less_cases left (x.totals.length) with ⟨hc0, e⟩ | ⟨hc0, e⟩
  · (try refine am (h := ?_)); (try simp only [e]); (try refine am (h := ?_)); (try with_reducible apply True.intro)
    refine FinK.val1 ?_ ?_
    all_goals (try refine amF (h := ?_))
    all_goals (try with_reducible apply True.intro)
    first | done | exact (if_pos (by omega)).symm
  (try refine am (h := ?_)); (try simp only [e]); (try refine am (h := ?_)); (try with_reducible apply True.intro)
  repeat' (first | (with_reducible refine And.intro ?_ ?_) | (with_reducible intro _))
  all_goals try (first | omega | with_reducible rfl | ((with_reducible refine eqId ?_); exact rfl) | with_reducible (first | assumption | exact pl ‹_› | exact pr ‹_› | exact plr ‹_› | exact pll ‹_› | exact prl ‹_› | exact plll ‹_› | exact prll ‹_›))
  first | refine CallK.one (szIntSS x.cells (left - (x.totals.length : Nat)) _ _ _ h.2 (by omega) (by omega)) (fun _ => amC) ?_ | refine CallE.one (szIntSS x.cells (left - (x.totals.length : Nat)) _ _ _ h.2 (by omega) (by omega)) (fun _ => amC) rfl ?_ | refine CallG.one rfl (fun hg => szIntSS x.cells (left - (x.totals.length : Nat)) _ _ _ h.2 (by omega) (by omega)) ?_ | refine CallEG.one rfl rfl (fun hg => szIntSS x.cells (left - (x.totals.length : Nat)) _ _ _ h.2 (by omega) (by omega)) ?_
  (try refine am (h := ?_)); (try with_reducible apply True.intro)
  rcases less_cases (left - (x.totals.length : Nat)) (szW x.cells) with ⟨hc1, e⟩ | ⟨hc1, e⟩
  · (try refine am (h := ?_)); (try simp only [e]); (try refine am (h := ?_)); (try with_reducible apply True.intro)
    refine FinK.val1 ?_ ?_
    all_goals (try refine amF (h := ?_))
    all_goals (try with_reducible apply True.intro)
    first | done | exact (if_pos (by omega)).symm
  (try refine am (h := ?_)); (try simp only [e]); (try refine am (h := ?_)); (try with_reducible apply True.intro)
  repeat' (first | (with_reducible refine And.intro ?_ ?_) | (with_reducible intro _))
  all_goals try (first | omega | with_reducible rfl | ((with_reducible refine eqId ?_); exact rfl) | with_reducible (first | assumption | exact pl ‹_› | exact pr ‹_› | exact plr ‹_› | exact pll ‹_› | exact prl ‹_› | exact plll ‹_› | exact prll ‹_›))
  refine FinK.val1 ?_ ?_
  all_goals (try refine amF (h := ?_))
  all_goals (try with_reducible apply True.intro)
  first | done | exact ((if_neg (by omega)).trans (by omega)).symm
set_option maxHeartbeats 2000000 in
theorem toStats (x : DStats) (u v : Bool) (h : okStats (2 ^ 40) x) : ACalls Tryz.prog 157 [.agg (cStats u v x)] (fun r => r = .val (.agg (cStats true true x))) := by
  have nt : Tryz.f157.ntmps = 13 := rfl
  have rs : Tryz.f157.results = #[.cell 2 65] := rfl
  refine ACalls.of_run (m := 400) mixed Tryz.func157 rfl rfl (Nat.le_of_ble_eq_true rfl) ?_
  simp only [nt, rs]
  clear nt rs
  (try refine am (h := ?_)); (try with_reducible apply True.intro)
  first | refine CallK.one (toIntS x.totals _ _ h.1) (fun _ => amC) ?_ | refine CallE.one (toIntS x.totals _ _ h.1) (fun _ => amC) rfl ?_ | refine CallG.one rfl (fun hg => toIntS x.totals _ _ h.1) ?_ | refine CallEG.one rfl rfl (fun hg => toIntS x.totals _ _ h.1) ?_
  (try refine am (h := ?_)); (try with_reducible apply True.intro)
  first | refine CallK.one (toIntSS x.cells _ _ _ h.2) (fun _ => amC) ?_ | refine CallE.one (toIntSS x.cells _ _ _ h.2) (fun _ => amC) rfl ?_ | refine CallG.one rfl (fun hg => toIntSS x.cells _ _ _ h.2) ?_ | refine CallEG.one rfl rfl (fun hg => toIntSS x.cells _ _ _ h.2) ?_
  (try refine am (h := ?_)); (try with_reducible apply True.intro)
  refine FinK.cell1 ?_ ?_ ?_
  all_goals (try refine amF (h := ?_))
  all_goals (try with_reducible apply True.intro)
set_option maxHeartbeats 2000000 in
theorem eqStats (x y : DStats) (u v u' v' : Bool) (h : okStats (2 ^ 47) x) : ACalls Tryz.prog 161 [.agg (cStats u v x), .agg (cStats u' v' y)] (fun r => r = .val (.one (.bool (decide (x = y))))) := by
  obtain ⟨x0, x1⟩ := x
  obtain ⟨y0, y1⟩ := y
  have nt : Tryz.f161.ntmps = 17 := rfl
  have rs : Tryz.f161.results = #[.tmp 4] := rfl
  refine ACalls.of_run (m := 400) mixed Tryz.func161 rfl rfl (Nat.le_of_ble_eq_true rfl) ?_
  simp only [nt, rs]
  clear nt rs
  (try refine am (h := ?_)); (try with_reducible apply True.intro)
  first | refine CallK.one (eqIntS x0 y0 _ _ _ _ h.1) (fun _ => amC) ?_ | refine CallE.one (eqIntS x0 y0 _ _ _ _ h.1) (fun _ => amC) rfl ?_ | refine CallG.one rfl (fun hg => eqIntS x0 y0 _ _ _ _ h.1) ?_ | refine CallEG.one rfl rfl (fun hg => eqIntS x0 y0 _ _ _ _ h.1) ?_
  (try refine am (h := ?_)); (try with_reducible apply True.intro)
  repeat' (first | (with_reducible refine And.intro ?_ ?_) | (with_reducible intro _))
  all_goals try (first | omega | with_reducible rfl | ((with_reducible refine eqId ?_); exact rfl) | with_reducible (first | assumption | exact pl ‹_› | exact pr ‹_› | exact plr ‹_› | exact pll ‹_› | exact prl ‹_› | exact plll ‹_› | exact prll ‹_›))
  · refine FinK.val1 ?_ ?_
    all_goals (try refine amF (h := ?_))
    all_goals (try with_reducible apply True.intro)
    (first | rfl | (simp_all; done) | (simp_all [Bool.and_assoc]; done) | (simp_all [Bool.and_comm]; done))
  first | refine CallK.one (eqIntSS x1 y1 _ _ _ _ _ _ h.2) (fun _ => amC) ?_ | refine CallE.one (eqIntSS x1 y1 _ _ _ _ _ _ h.2) (fun _ => amC) rfl ?_ | refine CallG.one rfl (fun hg => eqIntSS x1 y1 _ _ _ _ _ _ h.2) ?_ | refine CallEG.one rfl rfl (fun hg => eqIntSS x1 y1 _ _ _ _ _ _ h.2) ?_
  (try refine am (h := ?_)); (try with_reducible apply True.intro)
  repeat' (first | (with_reducible refine And.intro ?_ ?_) | (with_reducible intro _))
  all_goals try (first | omega | with_reducible rfl | ((with_reducible refine eqId ?_); exact rfl) | with_reducible (first | assumption | exact pl ‹_› | exact pr ‹_› | exact plr ‹_› | exact pll ‹_› | exact prl ‹_› | exact plll ‹_› | exact prll ‹_›))
  · refine FinK.val1 ?_ ?_
    all_goals (try refine amF (h := ?_))
    all_goals (try with_reducible apply True.intro)
    (first | rfl | (simp_all; done) | (simp_all [Bool.and_assoc]; done) | (simp_all [Bool.and_comm]; done))
  refine FinK.val1 ?_ ?_
  all_goals (try refine amF (h := ?_))
  all_goals (try with_reducible apply True.intro)
  (first | rfl | (simp_all; done) | (simp_all [Bool.and_assoc]; done) | (simp_all [Bool.and_comm]; done))
set_option maxHeartbeats 2000000 in
theorem toFork (x : DFork) : ACalls Tryz.prog 13 [.agg (cFork x)] (fun r => r = .val (.agg (cFork x))) := by
  have nt : Tryz.f13.ntmps = 11 := rfl
  have rs : Tryz.f13.results = #[.cell 2 45] := rfl
  refine ACalls.of_run (m := 400) mixed Tryz.func13 rfl rfl (Nat.le_of_ble_eq_true rfl) ?_
  simp only [nt, rs]
  clear nt rs
  (try refine am (h := ?_)); (try with_reducible apply True.intro)
  refine FinK.cell1 ?_ ?_ ?_
  all_goals (try refine amF (h := ?_))
  all_goals (try with_reducible apply True.intro)
set_option maxHeartbeats 2000000 in
theorem eqFork (x y : DFork) : ACalls Tryz.prog 160 [.agg (cFork x), .agg (cFork y)] (fun r => r = .val (.one (.bool (decide (x = y))))) := by
  obtain ⟨x0, x1⟩ := x
  obtain ⟨y0, y1⟩ := y
  have nt : Tryz.f160.ntmps = 15 := rfl
  have rs : Tryz.f160.results = #[.tmp 4] := rfl
  refine ACalls.of_run (m := 400) mixed Tryz.func160 rfl rfl (Nat.le_of_ble_eq_true rfl) ?_
  simp only [nt, rs]
  clear nt rs
  (try refine am (h := ?_)); (try with_reducible apply True.intro)
  repeat' (first | (with_reducible refine And.intro ?_ ?_) | (with_reducible intro _))
  all_goals try (first | omega | with_reducible rfl | ((with_reducible refine eqId ?_); exact rfl) | with_reducible (first | assumption | exact pl ‹_› | exact pr ‹_› | exact plr ‹_› | exact pll ‹_› | exact prl ‹_› | exact plll ‹_› | exact prll ‹_›))
  · refine FinK.val1 ?_ ?_
    all_goals (try refine amF (h := ?_))
    all_goals (try with_reducible apply True.intro)
    (first | rfl | (simp_all; done) | (simp_all [Bool.and_assoc]; done) | (simp_all [Bool.and_comm]; done))
  repeat' (first | (with_reducible refine And.intro ?_ ?_) | (with_reducible intro _))
  all_goals try (first | omega | with_reducible rfl | ((with_reducible refine eqId ?_); exact rfl) | with_reducible (first | assumption | exact pl ‹_› | exact pr ‹_› | exact plr ‹_› | exact pll ‹_› | exact prl ‹_› | exact plll ‹_› | exact prll ‹_›))
  · refine FinK.val1 ?_ ?_
    all_goals (try refine amF (h := ?_))
    all_goals (try with_reducible apply True.intro)
    (first | rfl | (simp_all; done) | (simp_all [Bool.and_assoc]; done) | (simp_all [Bool.and_comm]; done))
  refine FinK.val1 ?_ ?_
  all_goals (try refine amF (h := ?_))
  all_goals (try with_reducible apply True.intro)
  (first | rfl | (simp_all; done) | (simp_all [Bool.and_assoc]; done) | (simp_all [Bool.and_comm]; done))
set_option maxHeartbeats 2000000 in
theorem szNode (x : DNode) (left : Int) (u v : Bool) (h : okNode (2 ^ 47) x) (h0 : 0 ≤ left) (h1 : left ≤ 2 ^ 40) : ACalls Tryz.prog 115 [.agg (cNode u v x), .one (.int .i64 left)] (fun r => r = .val (.one (.int .i64 (less left (zNode x))))) := by
  have hz : zNode x = x.kids.length + zStats x.stats + x.attrs.length := rfl
  have nt : Tryz.f115.ntmps = 24 := rfl
  have rs : Tryz.f115.results = #[.tmp 4] := rfl
  refine ACalls.of_run (m := 400) mixed Tryz.func115 rfl rfl (Nat.le_of_ble_eq_true rfl) ?_
  simp only [nt, rs]
  clear nt rs
  (try refine am (h := ?_)); (try with_reducible apply True.intro)
  first | refine CallK.one (szIntS x.kids left _ _ h.2.2.1 (by omega) (by omega)) (fun _ => amC) ?_ | refine CallE.one (szIntS x.kids left _ _ h.2.2.1 (by omega) (by omega)) (fun _ => amC) rfl ?_ | refine CallG.one rfl (fun hg => szIntS x.kids left _ _ h.2.2.1 (by omega) (by omega)) ?_ | refine CallEG.one rfl rfl (fun hg => szIntS x.kids left _ _ h.2.2.1 (by omega) (by omega)) ?_
  (try refine am (h := ?_)); (try with_reducible apply True.intro)
  rcases less_cases left (x.kids.length) with ⟨hc2, e⟩ | ⟨hc2, e⟩
  · (try refine am (h := ?_)); (try simp only [e]); (try refine am (h := ?_)); (try with_reducible apply True.intro)
    refine FinK.val1 ?_ ?_
    all_goals (try refine amF (h := ?_))
    all_goals (try with_reducible apply True.intro)
    first | done | exact (if_pos (by omega)).symm
  (try refine am (h := ?_)); (try simp only [e]); (try refine am (h := ?_)); (try with_reducible apply True.intro)
  repeat' (first | (with_reducible refine And.intro ?_ ?_) | (with_reducible intro _))
  all_goals try (first | omega | with_reducible rfl | ((with_reducible refine eqId ?_); exact rfl) | with_reducible (first | assumption | exact pl ‹_› | exact pr ‹_› | exact plr ‹_› | exact pll ‹_› | exact prl ‹_› | exact plll ‹_› | exact prll ‹_›))
  first | refine CallK.one (szStats x.stats (left - (x.kids.length : Nat)) false v h.2.2.2.2.1 (by omega) (by omega)) (fun _ => amC) ?_ | refine CallE.one (szStats x.stats (left - (x.kids.length : Nat)) false v h.2.2.2.2.1 (by omega) (by omega)) (fun _ => amC) rfl ?_ | refine CallG.one rfl (fun hg => szStats x.stats (left - (x.kids.length : Nat)) false v h.2.2.2.2.1 (by omega) (by omega)) ?_ | refine CallEG.one rfl rfl (fun hg => szStats x.stats (left - (x.kids.length : Nat)) false v h.2.2.2.2.1 (by omega) (by omega)) ?_
  (try refine am (h := ?_)); (try with_reducible apply True.intro)
  rcases less_cases (left - (x.kids.length : Nat)) (zStats x.stats) with ⟨hc4, e⟩ | ⟨hc4, e⟩
  · (try refine am (h := ?_)); (try simp only [e]); (try refine am (h := ?_)); (try with_reducible apply True.intro)
    refine FinK.val1 ?_ ?_
    all_goals (try refine amF (h := ?_))
    all_goals (try with_reducible apply True.intro)
    first | done | exact (if_pos (by omega)).symm
  (try refine am (h := ?_)); (try simp only [e]); (try refine am (h := ?_)); (try with_reducible apply True.intro)
  repeat' (first | (with_reducible refine And.intro ?_ ?_) | (with_reducible intro _))
  all_goals try (first | omega | with_reducible rfl | ((with_reducible refine eqId ?_); exact rfl) | with_reducible (first | assumption | exact pl ‹_› | exact pr ‹_› | exact plr ‹_› | exact pll ‹_› | exact prl ‹_› | exact plll ‹_› | exact prll ‹_›))
  first | refine CallK.one (szIntS x.attrs ((left - (x.kids.length : Nat)) - (zStats x.stats : Nat)) _ _ h.2.2.2.2.2.2.1 (by omega) (by omega)) (fun _ => amC) ?_ | refine CallE.one (szIntS x.attrs ((left - (x.kids.length : Nat)) - (zStats x.stats : Nat)) _ _ h.2.2.2.2.2.2.1 (by omega) (by omega)) (fun _ => amC) rfl ?_ | refine CallG.one rfl (fun hg => szIntS x.attrs ((left - (x.kids.length : Nat)) - (zStats x.stats : Nat)) _ _ h.2.2.2.2.2.2.1 (by omega) (by omega)) ?_ | refine CallEG.one rfl rfl (fun hg => szIntS x.attrs ((left - (x.kids.length : Nat)) - (zStats x.stats : Nat)) _ _ h.2.2.2.2.2.2.1 (by omega) (by omega)) ?_
  (try refine am (h := ?_)); (try with_reducible apply True.intro)
  rcases less_cases ((left - (x.kids.length : Nat)) - (zStats x.stats : Nat)) (x.attrs.length) with ⟨hc6, e⟩ | ⟨hc6, e⟩
  · (try refine am (h := ?_)); (try simp only [e]); (try refine am (h := ?_)); (try with_reducible apply True.intro)
    refine FinK.val1 ?_ ?_
    all_goals (try refine amF (h := ?_))
    all_goals (try with_reducible apply True.intro)
    first | done | exact (if_pos (by omega)).symm
  (try refine am (h := ?_)); (try simp only [e]); (try refine am (h := ?_)); (try with_reducible apply True.intro)
  repeat' (first | (with_reducible refine And.intro ?_ ?_) | (with_reducible intro _))
  all_goals try (first | omega | with_reducible rfl | ((with_reducible refine eqId ?_); exact rfl) | with_reducible (first | assumption | exact pl ‹_› | exact pr ‹_› | exact plr ‹_› | exact pll ‹_› | exact prl ‹_› | exact plll ‹_› | exact prll ‹_›))
  refine FinK.val1 ?_ ?_
  all_goals (try refine amF (h := ?_))
  all_goals (try with_reducible apply True.intro)
  first | done | exact ((if_neg (by omega)).trans (by omega)).symm
set_option maxHeartbeats 2000000 in
theorem toNode (x : DNode) (u v : Bool) (h : okNode (2 ^ 40) x) : ACalls Tryz.prog 121 [.agg (cNode u v x)] (fun r => r = .val (.agg (cNode true true x))) := by
  have nt : Tryz.f121.ntmps = 39 := rfl
  have rs : Tryz.f121.results = #[.cell 2 67] := rfl
  refine ACalls.of_run (m := 400) mixed Tryz.func121 rfl rfl (Nat.le_of_ble_eq_true rfl) ?_
  simp only [nt, rs]
  clear nt rs
  (try refine am (h := ?_)); (try with_reducible apply True.intro)
  first | refine CallK.one (toFork x.fork ) (fun _ => amC) ?_ | refine CallE.one (toFork x.fork ) (fun _ => amC) rfl ?_ | refine CallG.one rfl (fun hg => toFork x.fork ) ?_ | refine CallEG.one rfl rfl (fun hg => toFork x.fork ) ?_
  (try refine am (h := ?_)); (try with_reducible apply True.intro)
  first | refine CallK.one (toIntS x.kids _ _ h.2.2.1) (fun _ => amC) ?_ | refine CallE.one (toIntS x.kids _ _ h.2.2.1) (fun _ => amC) rfl ?_ | refine CallG.one rfl (fun hg => toIntS x.kids _ _ h.2.2.1) ?_ | refine CallEG.one rfl rfl (fun hg => toIntS x.kids _ _ h.2.2.1) ?_
  (try refine am (h := ?_)); (try with_reducible apply True.intro)
  first | refine CallK.one (toStats x.stats false v h.2.2.2.2.1) (fun _ => amC) ?_ | refine CallE.one (toStats x.stats false v h.2.2.2.2.1) (fun _ => amC) rfl ?_ | refine CallG.one rfl (fun hg => toStats x.stats false v h.2.2.2.2.1) ?_ | refine CallEG.one rfl rfl (fun hg => toStats x.stats false v h.2.2.2.2.1) ?_
  (try refine am (h := ?_)); (try with_reducible apply True.intro)
  first | refine CallK.one (toIntS x.attrs _ _ h.2.2.2.2.2.2.1) (fun _ => amC) ?_ | refine CallE.one (toIntS x.attrs _ _ h.2.2.2.2.2.2.1) (fun _ => amC) rfl ?_ | refine CallG.one rfl (fun hg => toIntS x.attrs _ _ h.2.2.2.2.2.2.1) ?_ | refine CallEG.one rfl rfl (fun hg => toIntS x.attrs _ _ h.2.2.2.2.2.2.1) ?_
  (try refine am (h := ?_)); (try with_reducible apply True.intro)
  refine FinK.cell1 ?_ ?_ ?_
  all_goals (try refine amF (h := ?_))
  all_goals (try with_reducible apply True.intro)
set_option maxHeartbeats 2000000 in
theorem eqNode (x y : DNode) (u v u' v' : Bool) (h : okNode (2 ^ 47) x) : ACalls Tryz.prog 128 [.agg (cNode u v x), .agg (cNode u' v' y)] (fun r => r = .val (.one (.bool (decide (x = y))))) := by
  obtain ⟨x0, x1, x2, x3, x4, x5, x6, x7, x8, x9⟩ := x
  obtain ⟨y0, y1, y2, y3, y4, y5, y6, y7, y8, y9⟩ := y
  have nt : Tryz.f128.ntmps = 59 := rfl
  have rs : Tryz.f128.results = #[.tmp 4] := rfl
  refine ACalls.of_run (m := 400) mixed Tryz.func128 rfl rfl (Nat.le_of_ble_eq_true rfl) ?_
  simp only [nt, rs]
  clear nt rs
  (try refine am (h := ?_)); (try with_reducible apply True.intro)
  repeat' (first | (with_reducible refine And.intro ?_ ?_) | (with_reducible intro _))
  all_goals try (first | omega | with_reducible rfl | ((with_reducible refine eqId ?_); exact rfl) | with_reducible (first | assumption | exact pl ‹_› | exact pr ‹_› | exact plr ‹_› | exact pll ‹_› | exact prl ‹_› | exact plll ‹_› | exact prll ‹_›))
  · refine FinK.val1 ?_ ?_
    all_goals (try refine amF (h := ?_))
    all_goals (try with_reducible apply True.intro)
    (first | rfl | (simp_all; done) | (simp_all [Bool.and_assoc]; done) | (simp_all [Bool.and_comm]; done))
  first | refine CallK.one (eqFork x1 y1 ) (fun _ => amC) ?_ | refine CallE.one (eqFork x1 y1 ) (fun _ => amC) rfl ?_ | refine CallG.one rfl (fun hg => eqFork x1 y1 ) ?_ | refine CallEG.one rfl rfl (fun hg => eqFork x1 y1 ) ?_
  (try refine am (h := ?_)); (try with_reducible apply True.intro)
  repeat' (first | (with_reducible refine And.intro ?_ ?_) | (with_reducible intro _))
  all_goals try (first | omega | with_reducible rfl | ((with_reducible refine eqId ?_); exact rfl) | with_reducible (first | assumption | exact pl ‹_› | exact pr ‹_› | exact plr ‹_› | exact pll ‹_› | exact prl ‹_› | exact plll ‹_› | exact prll ‹_›))
  · refine FinK.val1 ?_ ?_
    all_goals (try refine amF (h := ?_))
    all_goals (try with_reducible apply True.intro)
    (first | rfl | (simp_all; done) | (simp_all [Bool.and_assoc]; done) | (simp_all [Bool.and_comm]; done))
  first | refine CallK.one (eqIntS x2 y2 _ _ _ _ h.2.2.1) (fun _ => amC) ?_ | refine CallE.one (eqIntS x2 y2 _ _ _ _ h.2.2.1) (fun _ => amC) rfl ?_ | refine CallG.one rfl (fun hg => eqIntS x2 y2 _ _ _ _ h.2.2.1) ?_ | refine CallEG.one rfl rfl (fun hg => eqIntS x2 y2 _ _ _ _ h.2.2.1) ?_
  (try refine am (h := ?_)); (try with_reducible apply True.intro)
  repeat' (first | (with_reducible refine And.intro ?_ ?_) | (with_reducible intro _))
  all_goals try (first | omega | with_reducible rfl | ((with_reducible refine eqId ?_); exact rfl) | with_reducible (first | assumption | exact pl ‹_› | exact pr ‹_› | exact plr ‹_› | exact pll ‹_› | exact prl ‹_› | exact plll ‹_› | exact prll ‹_›))
  · refine FinK.val1 ?_ ?_
    all_goals (try refine amF (h := ?_))
    all_goals (try with_reducible apply True.intro)
    (first | rfl | (simp_all; done) | (simp_all [Bool.and_assoc]; done) | (simp_all [Bool.and_comm]; done))
  repeat' (first | (with_reducible refine And.intro ?_ ?_) | (with_reducible intro _))
  all_goals try (first | omega | with_reducible rfl | ((with_reducible refine eqId ?_); exact rfl) | with_reducible (first | assumption | exact pl ‹_› | exact pr ‹_› | exact plr ‹_› | exact pll ‹_› | exact prl ‹_› | exact plll ‹_› | exact prll ‹_›))
  · refine FinK.val1 ?_ ?_
    all_goals (try refine amF (h := ?_))
    all_goals (try with_reducible apply True.intro)
    (first | rfl | (simp_all; done) | (simp_all [Bool.and_assoc]; done) | (simp_all [Bool.and_comm]; done))
  first | refine CallK.one (eqStats x4 y4 false v false v' h.2.2.2.2.1) (fun _ => amC) ?_ | refine CallE.one (eqStats x4 y4 false v false v' h.2.2.2.2.1) (fun _ => amC) rfl ?_ | refine CallG.one rfl (fun hg => eqStats x4 y4 false v false v' h.2.2.2.2.1) ?_ | refine CallEG.one rfl rfl (fun hg => eqStats x4 y4 false v false v' h.2.2.2.2.1) ?_
  (try refine am (h := ?_)); (try with_reducible apply True.intro)
  repeat' (first | (with_reducible refine And.intro ?_ ?_) | (with_reducible intro _))
  all_goals try (first | omega | with_reducible rfl | ((with_reducible refine eqId ?_); exact rfl) | with_reducible (first | assumption | exact pl ‹_› | exact pr ‹_› | exact plr ‹_› | exact pll ‹_› | exact prl ‹_› | exact plll ‹_› | exact prll ‹_›))
  · refine FinK.val1 ?_ ?_
    all_goals (try refine amF (h := ?_))
    all_goals (try with_reducible apply True.intro)
    (first | rfl | (simp_all; done) | (simp_all [Bool.and_assoc]; done) | (simp_all [Bool.and_comm]; done))
  repeat' (first | (with_reducible refine And.intro ?_ ?_) | (with_reducible intro _))
  all_goals try (first | omega | with_reducible rfl | ((with_reducible refine eqId ?_); exact rfl) | with_reducible (first | assumption | exact pl ‹_› | exact pr ‹_› | exact plr ‹_› | exact pll ‹_› | exact prl ‹_› | exact plll ‹_› | exact prll ‹_›))
  · refine FinK.val1 ?_ ?_
    all_goals (try refine amF (h := ?_))
    all_goals (try with_reducible apply True.intro)
    (first | rfl | (simp_all; done) | (simp_all [Bool.and_assoc]; done) | (simp_all [Bool.and_comm]; done))
  first | refine CallK.one (eqIntS x6 y6 _ _ _ _ h.2.2.2.2.2.2.1) (fun _ => amC) ?_ | refine CallE.one (eqIntS x6 y6 _ _ _ _ h.2.2.2.2.2.2.1) (fun _ => amC) rfl ?_ | refine CallG.one rfl (fun hg => eqIntS x6 y6 _ _ _ _ h.2.2.2.2.2.2.1) ?_ | refine CallEG.one rfl rfl (fun hg => eqIntS x6 y6 _ _ _ _ h.2.2.2.2.2.2.1) ?_
  (try refine am (h := ?_)); (try with_reducible apply True.intro)
  repeat' (first | (with_reducible refine And.intro ?_ ?_) | (with_reducible intro _))
  all_goals try (first | omega | with_reducible rfl | ((with_reducible refine eqId ?_); exact rfl) | with_reducible (first | assumption | exact pl ‹_› | exact pr ‹_› | exact plr ‹_› | exact pll ‹_› | exact prl ‹_› | exact plll ‹_› | exact prll ‹_›))
  · refine FinK.val1 ?_ ?_
    all_goals (try refine amF (h := ?_))
    all_goals (try with_reducible apply True.intro)
    (first | rfl | (simp_all; done) | (simp_all [Bool.and_assoc]; done) | (simp_all [Bool.and_comm]; done))
  repeat' (first | (with_reducible refine And.intro ?_ ?_) | (with_reducible intro _))
  all_goals try (first | omega | with_reducible rfl | ((with_reducible refine eqId ?_); exact rfl) | with_reducible (first | assumption | exact pl ‹_› | exact pr ‹_› | exact plr ‹_› | exact pll ‹_› | exact prl ‹_› | exact plll ‹_› | exact prll ‹_›))
  · refine FinK.val1 ?_ ?_
    all_goals (try refine amF (h := ?_))
    all_goals (try with_reducible apply True.intro)
    (first | rfl | (simp_all; done) | (simp_all [Bool.and_assoc]; done) | (simp_all [Bool.and_comm]; done))
  repeat' (first | (with_reducible refine And.intro ?_ ?_) | (with_reducible intro _))
  all_goals try (first | omega | with_reducible rfl | ((with_reducible refine eqId ?_); exact rfl) | with_reducible (first | assumption | exact pl ‹_› | exact pr ‹_› | exact plr ‹_› | exact pll ‹_› | exact prl ‹_› | exact plll ‹_› | exact prll ‹_›))
  · refine FinK.val1 ?_ ?_
    all_goals (try refine amF (h := ?_))
    all_goals (try with_reducible apply True.intro)
    (first | rfl | (simp_all; done) | (simp_all [Bool.and_assoc]; done) | (simp_all [Bool.and_comm]; done))
  repeat' (first | (with_reducible refine And.intro ?_ ?_) | (with_reducible intro _))
  all_goals try (first | omega | with_reducible rfl | ((with_reducible refine eqId ?_); exact rfl) | with_reducible (first | assumption | exact pl ‹_› | exact pr ‹_› | exact plr ‹_› | exact pll ‹_› | exact prl ‹_› | exact plll ‹_› | exact prll ‹_›))
  · refine FinK.val1 ?_ ?_
    all_goals (try refine amF (h := ?_))
    all_goals (try with_reducible apply True.intro)
    (first | rfl | (simp_all; done) | (simp_all [Bool.and_assoc]; done) | (simp_all [Bool.and_comm]; done))
  refine FinK.val1 ?_ ?_
  all_goals (try refine amF (h := ?_))
  all_goals (try with_reducible apply True.intro)
  (first | rfl | (simp_all; done) | (simp_all [Bool.and_assoc]; done) | (simp_all [Bool.and_comm]; done))
set_option maxHeartbeats 2000000 in
theorem szNodeS (l : List (DNode)) (left : Int) (u v : Bool) (nl : Option Bool) (h : okNodeS (2 ^ 47) l) (h0 : 0 ≤ left) (h1 : left ≤ 2 ^ 40) : ACalls Tryz.prog 48 [.one (.sl u nl 12 l.length (fNode v l)), .one (.int .i64 left)] (fun r => r = .val (.one (.int .i64 (less left (zNodeS l))))) := by
  have hl := h.1
  have nt : Tryz.f48.ntmps = 27 := rfl
  have rs : Tryz.f48.results = #[.tmp 4] := rfl
  refine ACalls.of_run (m := 400) mixed Tryz.func48 rfl rfl (Nat.le_of_ble_eq_true rfl) ?_
  simp only [nt, rs]
  clear nt rs
  (try refine am (h := ?_)); (try with_reducible apply True.intro)
  repeat' (first | (with_reducible refine And.intro ?_ ?_) | (with_reducible intro _))
  all_goals try (first | omega | with_reducible rfl | ((with_reducible refine eqId ?_); exact rfl) | with_reducible (first | assumption | exact pl ‹_› | exact pr ‹_› | exact plr ‹_› | exact pll ‹_› | exact prl ‹_› | exact plll ‹_› | exact prll ‹_›))
  · refine FinK.val1 ?_ ?_
    all_goals (try refine amF (h := ?_))
    all_goals (try with_reducible apply True.intro)
    unfold zNodeS
    exact (if_pos (by omega)).symm
  refine LoopK.auto (Nat) (fun i => [(1, .one (.av (.int .i64 (left - l.length - sm zNode (l.take i))))), (5, .one (.av (.int .i64 i)))]) (fun i => []) [0] (k0 := ?k012) (keepH := ?kh12) 7 (fun i => i ≤ l.length ∧ 0 ≤ left - l.length - sm zNode (l.take i)) (fun i => l.length - i) (0) ?kea12 ?keb12 ?_ ?_ ?_
  case kea12 => exact amN
  case keb12 => exact amN
  · exact ⟨Nat.zero_le _, by simp [sm]; omega⟩
  · refine Le.of [] [] rfl rfl rfl rfl ?_ ?_ ?_
    all_goals (try refine amL (h := ?_))
    all_goals (try with_reducible apply True.intro)
    simp [sm]
  · rintro i ⟨hi, hs⟩
    (try refine am (h := ?_)); (try with_reducible apply True.intro)
    skip
    repeat' (first | (with_reducible refine And.intro ?_ ?_) | (with_reducible intro _))
    all_goals try (first | omega | with_reducible rfl | ((with_reducible refine eqId ?_); exact rfl) | with_reducible (first | assumption | exact pl ‹_› | exact pr ‹_› | exact plr ‹_› | exact pll ‹_› | exact prl ‹_› | exact plll ‹_› | exact prll ‹_›))
    · have hlt : i < l.length := by assumption
      have ht := sm_take (f := zNode) (d := default) hlt
      have hm := h.2 _ (getD_mem (d := default) hlt)
      have ht2 := sm_le (f := zNode) (l := l) (i := i + 1)
      first | refine CallK.one (szNode _ _ v v hm hs (by omega)) (fun _ => amC) ?_ | refine CallE.one (szNode _ _ v v hm hs (by omega)) (fun _ => amC) rfl ?_ | refine CallG.one rfl (fun hg => szNode _ _ v v hm hs (by omega)) ?_ | refine CallEG.one rfl rfl (fun hg => szNode _ _ v v hm hs (by omega)) ?_
      (try refine am (h := ?_)); (try with_reducible apply True.intro)
      rcases less_cases (left - l.length - sm zNode (l.take i)) (zNode (l.getD i default)) with ⟨hc, e⟩ | ⟨hc, e⟩
      · (try refine am (h := ?_)); (try simp only [e]); (try refine am (h := ?_)); (try with_reducible apply True.intro)
        refine FinK.val1 ?_ ?_
        all_goals (try refine amF (h := ?_))
        all_goals (try with_reducible apply True.intro)
        unfold zNodeS
        exact (if_pos (by omega)).symm
      · (try refine am (h := ?_)); (try simp only [e]); (try refine am (h := ?_)); (try with_reducible apply True.intro)
        repeat' (first | (with_reducible refine And.intro ?_ ?_) | (with_reducible intro _))
        all_goals try (first | omega | with_reducible rfl | ((with_reducible refine eqId ?_); exact rfl) | with_reducible (first | assumption | exact pl ‹_› | exact pr ‹_› | exact plr ‹_› | exact pll ‹_› | exact prl ‹_› | exact plll ‹_› | exact prll ‹_›))
        refine ⟨i + 1, ?_, ⟨by omega, by omega⟩, by omega⟩
        refine Le.of [] [] rfl rfl rfl rfl ?_ ?_ ?_
        all_goals (try refine amL (h := ?_))
        all_goals (try with_reducible apply True.intro)
        omega
    · refine FinK.val1 ?_ ?_
      all_goals (try refine amF (h := ?_))
      all_goals (try with_reducible apply True.intro)
      have : i = l.length := by omega
      subst this
      rw [List.take_length] at hs ⊢
      unfold zNodeS
      exact ((if_neg (by omega)).trans (by omega)).symm
set_option maxHeartbeats 2000000 in
theorem toNodeS (l : List (DNode)) (u v : Bool) (nl : Option Bool) (h : okNodeS (2 ^ 40) l) : ACalls Tryz.prog 60 [.one (.sl u nl 12 l.length (fNode v l))] (fun r => r = .val (.one (aNode true true l))) := by
  have hl := h.1
  have nt : Tryz.f60.ntmps = 23 := rfl
  have rs : Tryz.f60.results = #[.tmp 2] := rfl
  refine ACalls.of_run (m := 400) mixed Tryz.func60 rfl rfl (Nat.le_of_ble_eq_true rfl) ?_
  simp only [nt, rs]
  clear nt rs
  (try refine am (h := ?_)); (try with_reducible apply True.intro)
  repeat' (first | (with_reducible refine And.intro ?_ ?_) | (with_reducible intro _))
  all_goals try (first | omega | with_reducible rfl | ((with_reducible refine eqId ?_); exact rfl) | with_reducible (first | assumption | exact pl ‹_› | exact pr ‹_› | exact plr ‹_› | exact pll ‹_› | exact prl ‹_› | exact plll ‹_› | exact prll ‹_›))
  refine LoopK.auto (Nat) (fun i => [(4, .one (.av (.int .i64 i)))]) (fun i => [(4, ⟨.sl true none 12 l.length (fun i' j => gl .junk (if i' < i then cNode true true (l.getD i' default) else [.bool false, .int .i64 0, .int .i64 0, nilAV, .int .i64 0, nilAV, nilAV, .int .i64 0, nilAV, .int .i64 0, .int .i64 0, .int .i64 0]) j), []⟩)]) [0, 3] (k0 := ?k013) (keepH := ?kh13) 7 (fun i => i ≤ l.length) (fun i => l.length - i) (0) ?kea13 ?keb13 ?_ ?_ ?_
  case kea13 => exact amN
  case keb13 => exact amN
  · exact Nat.zero_le _
  · refine Le.of [(4, 4)] [] rfl rfl rfl rfl ?_ ?_ ?_
    all_goals (try refine amL (h := ?_))
    all_goals (try with_reducible apply True.intro)
    exact ALe.of (.inl rfl) rfl (fun i hi j hj => by rw [if_neg (by omega)]; exact .refl _)
  · intro i hi
    (try refine am (h := ?_)); (try with_reducible apply True.intro)
    repeat' (first | (with_reducible refine And.intro ?_ ?_) | (with_reducible intro _))
    all_goals try (first | omega | with_reducible rfl | ((with_reducible refine eqId ?_); exact rfl) | with_reducible (first | assumption | exact pl ‹_› | exact pr ‹_› | exact plr ‹_› | exact pll ‹_› | exact prl ‹_› | exact plll ‹_› | exact prll ‹_›))
    · have hlt : i < l.length := by assumption
      first | refine CallK.one (toNode _ v v (h.2 _ (getD_mem hlt))) (fun _ => amC) ?_ | refine CallE.one (toNode _ v v (h.2 _ (getD_mem hlt))) (fun _ => amC) rfl ?_ | refine CallG.one rfl (fun hg => toNode _ v v (h.2 _ (getD_mem hlt))) ?_ | refine CallEG.one rfl rfl (fun hg => toNode _ v v (h.2 _ (getD_mem hlt))) ?_
      (try refine am (h := ?_)); (try with_reducible apply True.intro)
      repeat' (first | (with_reducible refine And.intro ?_ ?_) | (with_reducible intro _))
      all_goals try (first | omega | with_reducible rfl | ((with_reducible refine eqId ?_); exact rfl) | with_reducible (first | assumption | exact pl ‹_› | exact pr ‹_› | exact plr ‹_› | exact pll ‹_› | exact prl ‹_› | exact plll ‹_› | exact prll ‹_›))
      refine ⟨i + 1, ?_, by omega, by omega⟩
      refine Le.of [(4, 4)] [] rfl rfl rfl rfl ?_ ?_ ?_
      all_goals (try refine amL (h := ?_))
      all_goals (try with_reducible apply True.intro)
      refine ALe.of (.inl rfl) rfl (fun i' hi j hj => ?_)
      exact rowsLe (E := fun i' => cNode true true (l.getD i' default)) hj rfl
    · refine FinK.val1 ?_ ?_
      all_goals (try refine amF (h := ?_))
      all_goals (try with_reducible apply True.intro)
      refine ALe.of (.inl rfl) rfl (fun i' hi j hj => ?_)
      rw [if_pos (by omega)]
      exact .refl _
set_option maxHeartbeats 2000000 in
theorem eqNodeS (l m : List (DNode)) (u u' v v' : Bool) (nl ml : Option Bool) (h : okNodeS (2 ^ 47) l) : ACalls Tryz.prog 73 [.one (.sl u nl 12 l.length (fNode v l)), .one (.sl u' ml 12 m.length (fNode v' m))] (fun r => r = .val (.one (.bool (decide (l = m))))) := by
  have hl := h.1
  have nt : Tryz.f73.ntmps = 27 := rfl
  have rs : Tryz.f73.results = #[.tmp 4] := rfl
  refine ACalls.of_run (m := 400) mixed Tryz.func73 rfl rfl (Nat.le_of_ble_eq_true rfl) ?_
  simp only [nt, rs]
  clear nt rs
  (try refine am (h := ?_)); (try with_reducible apply True.intro)
  refine ⟨fun h => ?_, fun hlen => ?_⟩
  · refine FinK.val1 ?_ ?_
    all_goals (try refine amF (h := ?_))
    all_goals (try with_reducible apply True.intro)
    exact (decide_eq_false (fun e => h (by rw [e]))).symm
  refine LoopK.auto (Nat) (fun i => [(5, .one (.av (.int .i64 i)))]) (fun i => []) [0, 1] (k0 := ?k014) (keepH := ?kh14) 7 (fun i => i ≤ l.length ∧ ∀ j, j < i → l.getD j default = m.getD j default) (fun i => l.length - i) (0) ?kea14 ?keb14 ?_ ?_ ?_
  case kea14 => exact amN
  case keb14 => exact amN
  · exact ⟨Nat.zero_le _, fun j hj => by omega⟩
  · refine Le.of [] [] rfl rfl rfl rfl ?_ ?_ ?_
    all_goals (try refine amL (h := ?_))
    all_goals (try with_reducible apply True.intro)
  · intro i hi
    (try refine am (h := ?_)); (try with_reducible apply True.intro)
    repeat' (first | (with_reducible refine And.intro ?_ ?_) | (with_reducible intro _))
    all_goals try (first | omega | with_reducible rfl | ((with_reducible refine eqId ?_); exact rfl) | with_reducible (first | assumption | exact pl ‹_› | exact pr ‹_› | exact plr ‹_› | exact pll ‹_› | exact prl ‹_› | exact plll ‹_› | exact prll ‹_›))
    · have hlt : i < l.length := by assumption
      refine CallE.one (eqNode _ _ v v v' v' (h.2 _ (getD_mem hlt))) (fun _ => amC) rfl ?_
      (try refine am (h := ?_)); (try with_reducible apply True.intro)
      repeat' (first | (with_reducible refine And.intro ?_ ?_) | (with_reducible intro _))
      all_goals try (first | omega | with_reducible rfl | ((with_reducible refine eqId ?_); exact rfl) | with_reducible (first | assumption | exact pl ‹_› | exact pr ‹_› | exact plr ‹_› | exact pll ‹_› | exact prl ‹_› | exact plll ‹_› | exact prll ‹_›))
      · refine FinK.val1 ?_ ?_
        all_goals (try refine amF (h := ?_))
        all_goals (try with_reducible apply True.intro)
        rename_i h2
        exact (decide_eq_false (fun e => h2 (by rw [e]))).symm
      · rename_i h2
        refine ⟨i + 1, ?_, ⟨by omega, fun j hj => ?_⟩, by omega⟩
        · refine Le.of [] [] rfl rfl rfl rfl ?_ ?_ ?_
          all_goals (try refine amL (h := ?_))
          all_goals (try with_reducible apply True.intro)
        · by_cases h3 : j = i
          · rw [h3]; exact h2
          · exact hi.2 j (by omega)
    · refine FinK.val1 ?_ ?_
      all_goals (try refine amF (h := ?_))
      all_goals (try with_reducible apply True.intro)
      exact (decide_eq_true (getD_ext hlen (fun j hj => hi.2 j (by omega)))).symm
set_option maxHeartbeats 2000000 in
theorem szTree (x : DTree) (left : Int) (u v : Bool) (h : okTree (2 ^ 47) x) (h0 : 0 ≤ left) (h1 : left ≤ 2 ^ 40) : ACalls Tryz.prog 8 [.agg (cTree u v x), .one (.int .i64 left)] (fun r => r = .val (.one (.int .i64 (less left (zTree x))))) := by
  have hz : zTree x = zNodeS x.nodes := rfl
  have nt : Tryz.f8.ntmps = 12 := rfl
  have rs : Tryz.f8.results = #[.tmp 4] := rfl
  refine ACalls.of_run (m := 400) mixed Tryz.func8 rfl rfl (Nat.le_of_ble_eq_true rfl) ?_
  simp only [nt, rs]
  clear nt rs
  (try refine am (h := ?_)); (try with_reducible apply True.intro)
  first | refine CallK.one (szNodeS x.nodes left _ _ _ h.1 (by omega) (by omega)) (fun _ => amC) ?_ | refine CallE.one (szNodeS x.nodes left _ _ _ h.1 (by omega) (by omega)) (fun _ => amC) rfl ?_ | refine CallG.one rfl (fun hg => szNodeS x.nodes left _ _ _ h.1 (by omega) (by omega)) ?_ | refine CallEG.one rfl rfl (fun hg => szNodeS x.nodes left _ _ _ h.1 (by omega) (by omega)) ?_
  (try refine am (h := ?_)); (try with_reducible apply True.intro)
  rcases less_cases left (zNodeS x.nodes) with ⟨hc0, e⟩ | ⟨hc0, e⟩
  · (try refine am (h := ?_)); (try simp only [e]); (try refine am (h := ?_)); (try with_reducible apply True.intro)
    refine FinK.val1 ?_ ?_
    all_goals (try refine amF (h := ?_))
    all_goals (try with_reducible apply True.intro)
    first | done | exact (if_pos (by omega)).symm
  (try refine am (h := ?_)); (try simp only [e]); (try refine am (h := ?_)); (try with_reducible apply True.intro)
  repeat' (first | (with_reducible refine And.intro ?_ ?_) | (with_reducible intro _))
  all_goals try (first | omega | with_reducible rfl | ((with_reducible refine eqId ?_); exact rfl) | with_reducible (first | assumption | exact pl ‹_› | exact pr ‹_› | exact plr ‹_› | exact pll ‹_› | exact prl ‹_› | exact plll ‹_› | exact prll ‹_›))
  refine FinK.val1 ?_ ?_
  all_goals (try refine amF (h := ?_))
  all_goals (try with_reducible apply True.intro)
  first | done | exact ((if_neg (by omega)).trans (by omega)).symm
set_option maxHeartbeats 2000000 in
theorem toTree (x : DTree) (u v : Bool) (h : okTree (2 ^ 40) x) : ACalls Tryz.prog 12 [.agg (cTree u v x)] (fun r => r = .val (.agg (cTree true true x))) := by
  have nt : Tryz.f12.ntmps = 12 := rfl
  have rs : Tryz.f12.results = #[.cell 2 37] := rfl
  refine ACalls.of_run (m := 400) mixed Tryz.func12 rfl rfl (Nat.le_of_ble_eq_true rfl) ?_
  simp only [nt, rs]
  clear nt rs
  (try refine am (h := ?_)); (try with_reducible apply True.intro)
  first | refine CallK.one (toNodeS x.nodes _ _ _ h.1) (fun _ => amC) ?_ | refine CallE.one (toNodeS x.nodes _ _ _ h.1) (fun _ => amC) rfl ?_ | refine CallG.one rfl (fun hg => toNodeS x.nodes _ _ _ h.1) ?_ | refine CallEG.one rfl rfl (fun hg => toNodeS x.nodes _ _ _ h.1) ?_
  (try refine am (h := ?_)); (try with_reducible apply True.intro)
  refine FinK.cell1 ?_ ?_ ?_
  all_goals (try refine amF (h := ?_))
  all_goals (try with_reducible apply True.intro)
set_option maxHeartbeats 2000000 in
theorem eqTree (x y : DTree) (u v u' v' : Bool) (h : okTree (2 ^ 47) x) : ACalls Tryz.prog 16 [.agg (cTree u v x), .agg (cTree u' v' y)] (fun r => r = .val (.one (.bool (decide (x = y))))) := by
  obtain ⟨x0, x1⟩ := x
  obtain ⟨y0, y1⟩ := y
  have nt : Tryz.f16.ntmps = 16 := rfl
  have rs : Tryz.f16.results = #[.tmp 4] := rfl
  refine ACalls.of_run (m := 400) mixed Tryz.func16 rfl rfl (Nat.le_of_ble_eq_true rfl) ?_
  simp only [nt, rs]
  clear nt rs
  (try refine am (h := ?_)); (try with_reducible apply True.intro)
  first | refine CallK.one (eqNodeS x0 y0 _ _ _ _ _ _ h.1) (fun _ => amC) ?_ | refine CallE.one (eqNodeS x0 y0 _ _ _ _ _ _ h.1) (fun _ => amC) rfl ?_ | refine CallG.one rfl (fun hg => eqNodeS x0 y0 _ _ _ _ _ _ h.1) ?_ | refine CallEG.one rfl rfl (fun hg => eqNodeS x0 y0 _ _ _ _ _ _ h.1) ?_
  (try refine am (h := ?_)); (try with_reducible apply True.intro)
  repeat' (first | (with_reducible refine And.intro ?_ ?_) | (with_reducible intro _))
  all_goals try (first | omega | with_reducible rfl | ((with_reducible refine eqId ?_); exact rfl) | with_reducible (first | assumption | exact pl ‹_› | exact pr ‹_› | exact plr ‹_› | exact pll ‹_› | exact prl ‹_› | exact plll ‹_› | exact prll ‹_›))
  · refine FinK.val1 ?_ ?_
    all_goals (try refine amF (h := ?_))
    all_goals (try with_reducible apply True.intro)
    (first | rfl | (simp_all; done) | (simp_all [Bool.and_assoc]; done) | (simp_all [Bool.and_comm]; done))
  repeat' (first | (with_reducible refine And.intro ?_ ?_) | (with_reducible intro _))
  all_goals try (first | omega | with_reducible rfl | ((with_reducible refine eqId ?_); exact rfl) | with_reducible (first | assumption | exact pl ‹_› | exact pr ‹_› | exact plr ‹_› | exact pll ‹_› | exact prl ‹_› | exact plll ‹_› | exact prll ‹_›))
  · refine FinK.val1 ?_ ?_
    all_goals (try refine amF (h := ?_))
    all_goals (try with_reducible apply True.intro)
    (first | rfl | (simp_all; done) | (simp_all [Bool.and_assoc]; done) | (simp_all [Bool.and_comm]; done))
  refine FinK.val1 ?_ ?_
  all_goals (try refine amF (h := ?_))
  all_goals (try with_reducible apply True.intro)
  (first | rfl | (simp_all; done) | (simp_all [Bool.and_assoc]; done) | (simp_all [Bool.and_comm]; done))
end Go.AM
