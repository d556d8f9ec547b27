/- Lemmas for the proof of this claim. -/
import Derived.Test.YteggckdmicnijaaGreatTy
namespace Go.AM
open Go Go.Proofs
set_option maxRecDepth 100000
set_option maxHeartbeats 2000000 in
theorem szIntS (l : List (Int)) (left : Int) (u  : Bool) (nl : Option Bool) (h : okI (2 ^ 47) l) (h0 : 0 ≤ left) (h1 : left ≤ 2 ^ 40) : ACalls Tryz.prog 101 [.one (.sl u nl 1 l.length (fI l)), .one (.int .i64 left)] (fun r => r = .val (.one (.int .i64 (less left (l.length))))) := by
  have hl := h.1
  have nt : Tryz.f101.ntmps = 12 := rfl
  have rs : Tryz.f101.results = #[.tmp 4] := rfl
  refine ACalls.of_run (m := 400) mixed Tryz.func101 rfl rfl (Nat.le_of_ble_eq_true rfl) ?_
  simp only [nt, rs]
  clear nt rs
  (try refine am (h := ?_)); (try with_reducible apply True.intro)
  repeat' (first | (with_reducible refine And.intro ?_ ?_) | (with_reducible intro _))
  all_goals try (first | omega | with_reducible rfl | ((with_reducible refine eqId ?_); exact rfl) | with_reducible (first | assumption | exact pl ‹_› | exact pr ‹_› | exact plr ‹_› | exact pll ‹_› | exact prl ‹_› | exact plll ‹_› | exact prll ‹_›))
  · refine FinK.val1 ?_ ?_
    all_goals (try refine amF (h := ?_))
    all_goals (try with_reducible apply True.intro)
    exact (if_pos (by omega)).symm
  refine FinK.val1 ?_ ?_
  all_goals (try refine amF (h := ?_))
  all_goals (try with_reducible apply True.intro)
  exact (if_neg (by omega)).symm
set_option maxHeartbeats 2000000 in
theorem toIntS (l : List (Int)) (u  : Bool) (nl : Option Bool) (h : okI (2 ^ 40) l) : ACalls Tryz.prog 108 [.one (.sl u nl 1 l.length (fI l))] (fun r => r = .val (.one (aI true l))) := by
  have hl := h.1
  have nt : Tryz.f108.ntmps = 22 := rfl
  have rs : Tryz.f108.results = #[.tmp 2] := rfl
  refine ACalls.of_run (m := 400) mixed Tryz.func108 rfl rfl (Nat.le_of_ble_eq_true rfl) ?_
  simp only [nt, rs]
  clear nt rs
  (try refine am (h := ?_)); (try with_reducible apply True.intro)
  repeat' (first | (with_reducible refine And.intro ?_ ?_) | (with_reducible intro _))
  all_goals try (first | omega | with_reducible rfl | ((with_reducible refine eqId ?_); exact rfl) | with_reducible (first | assumption | exact pl ‹_› | exact pr ‹_› | exact plr ‹_› | exact pll ‹_› | exact prl ‹_› | exact plll ‹_› | exact prll ‹_›))
  refine LoopK.auto (Nat) (fun i => [(4, .one (.av (.int .i64 i)))]) (fun i => [(4, ⟨.sl true none 1 l.length (fun i' j => gl .junk (if i' < i then [.int .i64 (l.getD i' 0)] else [.int .i64 0]) j), []⟩)]) [0, 3] (k0 := ?k01) (keepH := ?kh1) 7 (fun i => i ≤ l.length) (fun i => l.length - i) (0) ?kea1 ?keb1 ?_ ?_ ?_
  case kea1 => exact amN
  case keb1 => exact amN
  · exact Nat.zero_le _
  · refine Le.of [(4, 4)] [] rfl rfl rfl rfl ?_ ?_ ?_
    all_goals (try refine amL (h := ?_))
    all_goals (try with_reducible apply True.intro)
    exact ALe.of (.inl rfl) rfl (fun i hi j hj => by rw [if_neg (by omega)]; exact .refl _)
  · intro i hi
    (try refine am (h := ?_)); (try with_reducible apply True.intro)
    repeat' (first | (with_reducible refine And.intro ?_ ?_) | (with_reducible intro _))
    all_goals try (first | omega | with_reducible rfl | ((with_reducible refine eqId ?_); exact rfl) | with_reducible (first | assumption | exact pl ‹_› | exact pr ‹_› | exact plr ‹_› | exact pll ‹_› | exact prl ‹_› | exact plll ‹_› | exact prll ‹_›))
    · have hlt : i < l.length := by assumption
      refine ⟨i + 1, ?_, by omega, by omega⟩
      refine Le.of [(4, 4)] [] rfl rfl rfl rfl ?_ ?_ ?_
      all_goals (try refine amL (h := ?_))
      all_goals (try with_reducible apply True.intro)
      refine ALe.of (.inl rfl) rfl (fun i' hi j hj => ?_)
      exact rowsLe (E := fun i' => [.int .i64 (l.getD i' 0)]) hj rfl
    · refine FinK.val1 ?_ ?_
      all_goals (try refine amF (h := ?_))
      all_goals (try with_reducible apply True.intro)
      refine ALe.of (.inl rfl) rfl (fun i' hi j hj => ?_)
      rw [if_pos (by omega)]
      exact .refl _
set_option maxHeartbeats 2000000 in
theorem eqIntS (l m : List (Int)) (u u' : Bool) (nl ml : Option Bool) (h : okI (2 ^ 47) l) : ACalls Tryz.prog 35 [.one (.sl u nl 1 l.length (fI l)), .one (.sl u' ml 1 m.length (fI m))] (fun r => r = .val (.one (.bool (decide (l = m))))) := by
  have hl := h.1
  have nt : Tryz.f35.ntmps = 26 := rfl
  have rs : Tryz.f35.results = #[.tmp 4] := rfl
  refine ACalls.of_run (m := 400) mixed Tryz.func35 rfl rfl (Nat.le_of_ble_eq_true rfl) ?_
  simp only [nt, rs]
  clear nt rs
  (try refine am (h := ?_)); (try with_reducible apply True.intro)
  refine ⟨fun h => ?_, fun hlen => ?_⟩
  · refine FinK.val1 ?_ ?_
    all_goals (try refine amF (h := ?_))
    all_goals (try with_reducible apply True.intro)
    exact (decide_eq_false (fun e => h (by rw [e]))).symm
  refine LoopK.auto (Nat) (fun i => [(5, .one (.av (.int .i64 i)))]) (fun i => []) [0, 1] (k0 := ?k02) (keepH := ?kh2) 7 (fun i => i ≤ l.length ∧ ∀ j, j < i → l.getD j 0 = m.getD j 0) (fun i => l.length - i) (0) ?kea2 ?keb2 ?_ ?_ ?_
  case kea2 => exact amN
  case keb2 => exact amN
  · exact ⟨Nat.zero_le _, fun j hj => by omega⟩
  · refine Le.of [] [] rfl rfl rfl rfl ?_ ?_ ?_
    all_goals (try refine amL (h := ?_))
    all_goals (try with_reducible apply True.intro)
  · intro i hi
    (try refine am (h := ?_)); (try with_reducible apply True.intro)
    repeat' (first | (with_reducible refine And.intro ?_ ?_) | (with_reducible intro _))
    all_goals try (first | omega | with_reducible rfl | ((with_reducible refine eqId ?_); exact rfl) | with_reducible (first | assumption | exact pl ‹_› | exact pr ‹_› | exact plr ‹_› | exact pll ‹_› | exact prl ‹_› | exact plll ‹_› | exact prll ‹_›))
    · refine FinK.val1 ?_ ?_
      all_goals (try refine amF (h := ?_))
      all_goals (try with_reducible apply True.intro)
      rename_i h2
      exact (decide_eq_false (fun e => h2 (by rw [e]))).symm
    · rename_i h2
      refine ⟨i + 1, ?_, ⟨by omega, fun j hj => ?_⟩, by omega⟩
      · refine Le.of [] [] rfl rfl rfl rfl ?_ ?_ ?_
        all_goals (try refine amL (h := ?_))
        all_goals (try with_reducible apply True.intro)
      · by_cases h3 : j = i
        · rw [h3]; first | exact h2 | exact UInt8.toNat_inj.1 (by omega) | exact UInt8.toNat_inj.1 (by exact_mod_cast h2)
        · exact hi.2 j (by omega)
    · refine FinK.val1 ?_ ?_
      all_goals (try refine amF (h := ?_))
      all_goals (try with_reducible apply True.intro)
      exact (decide_eq_true (getD_ext hlen (fun j hj => hi.2 j (by omega)))).symm
set_option maxHeartbeats 2000000 in
theorem szByteS (l : List (UInt8)) (left : Int) (u  : Bool) (nl : Option Bool) (h : l.length ≤ (2 ^ 47)) (h0 : 0 ≤ left) (h1 : left ≤ 2 ^ 40) : ACalls Tryz.prog 59 [.one (.sl u nl 1 l.length (fB l)), .one (.int .i64 left)] (fun r => r = .val (.one (.int .i64 (less left (l.length))))) := by
  have hl := h
  have nt : Tryz.f59.ntmps = 12 := rfl
  have rs : Tryz.f59.results = #[.tmp 4] := rfl
  refine ACalls.of_run (m := 400) mixed Tryz.func59 rfl rfl (Nat.le_of_ble_eq_true rfl) ?_
  simp only [nt, rs]
  clear nt rs
  (try refine am (h := ?_)); (try with_reducible apply True.intro)
  repeat' (first | (with_reducible refine And.intro ?_ ?_) | (with_reducible intro _))
  all_goals try (first | omega | with_reducible rfl | ((with_reducible refine eqId ?_); exact rfl) | with_reducible (first | assumption | exact pl ‹_› | exact pr ‹_› | exact plr ‹_› | exact pll ‹_› | exact prl ‹_› | exact plll ‹_› | exact prll ‹_›))
  · refine FinK.val1 ?_ ?_
    all_goals (try refine amF (h := ?_))
    all_goals (try with_reducible apply True.intro)
    exact (if_pos (by omega)).symm
  refine FinK.val1 ?_ ?_
  all_goals (try refine amF (h := ?_))
  all_goals (try with_reducible apply True.intro)
  exact (if_neg (by omega)).symm
set_option maxHeartbeats 2000000 in
theorem toByteS (l : List (UInt8)) (u  : Bool) (nl : Option Bool) (h : l.length ≤ (2 ^ 40)) : ACalls Tryz.prog 64 [.one (.sl u nl 1 l.length (fB l))] (fun r => r = .val (.one (aB true l))) := by
  have hl := h
  have nt : Tryz.f64.ntmps = 22 := rfl
  have rs : Tryz.f64.results = #[.tmp 2] := rfl
  refine ACalls.of_run (m := 400) mixed Tryz.func64 rfl rfl (Nat.le_of_ble_eq_true rfl) ?_
  simp only [nt, rs]
  clear nt rs
  (try refine am (h := ?_)); (try with_reducible apply True.intro)
  repeat' (first | (with_reducible refine And.intro ?_ ?_) | (with_reducible intro _))
  all_goals try (first | omega | with_reducible rfl | ((with_reducible refine eqId ?_); exact rfl) | with_reducible (first | assumption | exact pl ‹_› | exact pr ‹_› | exact plr ‹_› | exact pll ‹_› | exact prl ‹_› | exact plll ‹_› | exact prll ‹_›))
  refine LoopK.auto (Nat) (fun i => [(4, .one (.av (.int .i64 i)))]) (fun i => [(4, ⟨.sl true none 1 l.length (fun i' j => gl .junk (if i' < i then [.int .u8 (l.getD i' 0).toNat] else [.int .u8 0]) j), []⟩)]) [0, 3] (k0 := ?k03) (keepH := ?kh3) 7 (fun i => i ≤ l.length) (fun i => l.length - i) (0) ?kea3 ?keb3 ?_ ?_ ?_
  case kea3 => exact amN
  case keb3 => exact amN
  · exact Nat.zero_le _
  · refine Le.of [(4, 4)] [] rfl rfl rfl rfl ?_ ?_ ?_
    all_goals (try refine amL (h := ?_))
    all_goals (try with_reducible apply True.intro)
    exact ALe.of (.inl rfl) rfl (fun i hi j hj => by rw [if_neg (by omega)]; exact .refl _)
  · intro i hi
    (try refine am (h := ?_)); (try with_reducible apply True.intro)
    repeat' (first | (with_reducible refine And.intro ?_ ?_) | (with_reducible intro _))
    all_goals try (first | omega | with_reducible rfl | ((with_reducible refine eqId ?_); exact rfl) | with_reducible (first | assumption | exact pl ‹_› | exact pr ‹_› | exact plr ‹_› | exact pll ‹_› | exact prl ‹_› | exact plll ‹_› | exact prll ‹_›))
    · have hlt : i < l.length := by assumption
      refine ⟨i + 1, ?_, by omega, by omega⟩
      refine Le.of [(4, 4)] [] rfl rfl rfl rfl ?_ ?_ ?_
      all_goals (try refine amL (h := ?_))
      all_goals (try with_reducible apply True.intro)
      refine ALe.of (.inl rfl) rfl (fun i' hi j hj => ?_)
      exact rowsLe (E := fun i' => [.int .u8 (l.getD i' 0).toNat]) hj rfl
    · refine FinK.val1 ?_ ?_
      all_goals (try refine amF (h := ?_))
      all_goals (try with_reducible apply True.intro)
      refine ALe.of (.inl rfl) rfl (fun i' hi j hj => ?_)
      rw [if_pos (by omega)]
      exact .refl _
set_option maxHeartbeats 2000000 in
theorem eqByteS (l m : List (UInt8)) (u u' : Bool) (nl ml : Option Bool) (h : l.length ≤ (2 ^ 47)) : ACalls Tryz.prog 69 [.one (.sl u nl 1 l.length (fB l)), .one (.sl u' ml 1 m.length (fB m))] (fun r => r = .val (.one (.bool (decide (l = m))))) := by
  have hl := h
  have nt : Tryz.f69.ntmps = 26 := rfl
  have rs : Tryz.f69.results = #[.tmp 4] := rfl
  refine ACalls.of_run (m := 400) mixed Tryz.func69 rfl rfl (Nat.le_of_ble_eq_true rfl) ?_
  simp only [nt, rs]
  clear nt rs
  (try refine am (h := ?_)); (try with_reducible apply True.intro)
  refine ⟨fun h => ?_, fun hlen => ?_⟩
  · refine FinK.val1 ?_ ?_
    all_goals (try refine amF (h := ?_))
    all_goals (try with_reducible apply True.intro)
    exact (decide_eq_false (fun e => h (by rw [e]))).symm
  refine LoopK.auto (Nat) (fun i => [(5, .one (.av (.int .i64 i)))]) (fun i => []) [0, 1] (k0 := ?k04) (keepH := ?kh4) 7 (fun i => i ≤ l.length ∧ ∀ j, j < i → l.getD j 0 = m.getD j 0) (fun i => l.length - i) (0) ?kea4 ?keb4 ?_ ?_ ?_
  case kea4 => exact amN
  case keb4 => exact amN
  · exact ⟨Nat.zero_le _, fun j hj => by omega⟩
  · refine Le.of [] [] rfl rfl rfl rfl ?_ ?_ ?_
    all_goals (try refine amL (h := ?_))
    all_goals (try with_reducible apply True.intro)
  · intro i hi
    (try refine am (h := ?_)); (try with_reducible apply True.intro)
    repeat' (first | (with_reducible refine And.intro ?_ ?_) | (with_reducible intro _))
    all_goals try (first | omega | with_reducible rfl | ((with_reducible refine eqId ?_); exact rfl) | with_reducible (first | assumption | exact pl ‹_› | exact pr ‹_› | exact plr ‹_› | exact pll ‹_› | exact prl ‹_› | exact plll ‹_› | exact prll ‹_›))
    · refine FinK.val1 ?_ ?_
      all_goals (try refine amF (h := ?_))
      all_goals (try with_reducible apply True.intro)
      rename_i h2
      exact (decide_eq_false (fun e => h2 (by rw [e]))).symm
    · rename_i h2
      refine ⟨i + 1, ?_, ⟨by omega, fun j hj => ?_⟩, by omega⟩
      · refine Le.of [] [] rfl rfl rfl rfl ?_ ?_ ?_
        all_goals (try refine amL (h := ?_))
        all_goals (try with_reducible apply True.intro)
      · by_cases h3 : j = i
        · rw [h3]; first | exact h2 | exact UInt8.toNat_inj.1 (by omega) | exact UInt8.toNat_inj.1 (by exact_mod_cast h2)
        · exact hi.2 j (by omega)
    · refine FinK.val1 ?_ ?_
      all_goals (try refine amF (h := ?_))
      all_goals (try with_reducible apply True.intro)
      exact (decide_eq_true (getD_ext hlen (fun j hj => hi.2 j (by omega)))).symm
set_option maxHeartbeats 2000000 in
theorem szStringS (l : List (List UInt8)) (left : Int) (u  : Bool) (nl : Option Bool) (h : okS (2 ^ 47) l) (h0 : 0 ≤ left) (h1 : left ≤ 2 ^ 40) : ACalls Tryz.prog 79 [.one (.sl u nl 1 l.length (fS l)), .one (.int .i64 left)] (fun r => r = .val (.one (.int .i64 (less left (szSS l))))) := by
  have hl := h.1
  have nt : Tryz.f79.ntmps = 28 := rfl
  have rs : Tryz.f79.results = #[.tmp 4] := rfl
  refine ACalls.of_run (m := 400) mixed Tryz.func79 rfl rfl (Nat.le_of_ble_eq_true rfl) ?_
  simp only [nt, rs]
  clear nt rs
  (try refine am (h := ?_)); (try with_reducible apply True.intro)
  repeat' (first | (with_reducible refine And.intro ?_ ?_) | (with_reducible intro _))
  all_goals try (first | omega | with_reducible rfl | ((with_reducible refine eqId ?_); exact rfl) | with_reducible (first | assumption | exact pl ‹_› | exact pr ‹_› | exact plr ‹_› | exact pll ‹_› | exact prl ‹_› | exact plll ‹_› | exact prll ‹_›))
  · refine FinK.val1 ?_ ?_
    all_goals (try refine amF (h := ?_))
    all_goals (try with_reducible apply True.intro)
    unfold szSS
    exact (if_pos (by omega)).symm
  refine LoopK.auto (Nat) (fun i => [(1, .one (.av (.int .i64 (left - l.length - sm List.length (l.take i))))), (5, .one (.av (.int .i64 i)))]) (fun i => []) [0] (k0 := ?k05) (keepH := ?kh5) 7 (fun i => i ≤ l.length ∧ 0 ≤ left - l.length - sm List.length (l.take i)) (fun i => l.length - i) (0) ?kea5 ?keb5 ?_ ?_ ?_
  case kea5 => exact amN
  case keb5 => exact amN
  · exact ⟨Nat.zero_le _, by simp [sm]; omega⟩
  · refine Le.of [] [] rfl rfl rfl rfl ?_ ?_ ?_
    all_goals (try refine amL (h := ?_))
    all_goals (try with_reducible apply True.intro)
    simp [sm]
  · rintro i ⟨hi, hs⟩
    (try refine am (h := ?_)); (try with_reducible apply True.intro)
    have hm0 : (l.getD i []).length ≤ 2 ^ 47 := getD_len h.2 i
    repeat' (first | (with_reducible refine And.intro ?_ ?_) | (with_reducible intro _))
    all_goals try (first | omega | with_reducible rfl | ((with_reducible refine eqId ?_); exact rfl) | with_reducible (first | assumption | exact pl ‹_› | exact pr ‹_› | exact plr ‹_› | exact pll ‹_› | exact prl ‹_› | exact plll ‹_› | exact prll ‹_›))
    · have hlt : i < l.length := by assumption
      have ht := sm_take (f := List.length) (d := []) hlt
      have hm := h.2 _ (getD_mem (d := []) hlt)
      have ht2 := sm_le (f := List.length) (l := l) (i := i + 1)
      refine FinK.val1 ?_ ?_
      all_goals (try refine amF (h := ?_))
      all_goals (try with_reducible apply True.intro)
      unfold szSS
      exact (if_pos (by omega)).symm
    · have hlt : i < l.length := by assumption
      have ht := sm_take (f := List.length) (d := []) hlt
      refine ⟨i + 1, ?_, ⟨by omega, by omega⟩, by omega⟩
      refine Le.of [] [] rfl rfl rfl rfl ?_ ?_ ?_
      all_goals (try refine amL (h := ?_))
      all_goals (try with_reducible apply True.intro)
      omega
    · refine FinK.val1 ?_ ?_
      all_goals (try refine amF (h := ?_))
      all_goals (try with_reducible apply True.intro)
      have : i = l.length := by omega
      subst this
      rw [List.take_length] at hs ⊢
      unfold szSS
      exact ((if_neg (by omega)).trans (by omega)).symm
set_option maxHeartbeats 2000000 in
theorem toStringS (l : List (List UInt8)) (u  : Bool) (nl : Option Bool) (h : okS (2 ^ 40) l) : ACalls Tryz.prog 87 [.one (.sl u nl 1 l.length (fS l))] (fun r => r = .val (.one (aS true l))) := by
  have hl := h.1
  have nt : Tryz.f87.ntmps = 22 := rfl
  have rs : Tryz.f87.results = #[.tmp 2] := rfl
  refine ACalls.of_run (m := 400) mixed Tryz.func87 rfl rfl (Nat.le_of_ble_eq_true rfl) ?_
  simp only [nt, rs]
  clear nt rs
  (try refine am (h := ?_)); (try with_reducible apply True.intro)
  repeat' (first | (with_reducible refine And.intro ?_ ?_) | (with_reducible intro _))
  all_goals try (first | omega | with_reducible rfl | ((with_reducible refine eqId ?_); exact rfl) | with_reducible (first | assumption | exact pl ‹_› | exact pr ‹_› | exact plr ‹_› | exact pll ‹_› | exact prl ‹_› | exact plll ‹_› | exact prll ‹_›))
  refine LoopK.auto (Nat) (fun i => [(4, .one (.av (.int .i64 i)))]) (fun i => [(4, ⟨.sl true none 1 l.length (fun i' j => gl .junk (if i' < i then [.str (l.getD i' [])] else [.str []]) j), []⟩)]) [0, 3] (k0 := ?k06) (keepH := ?kh6) 7 (fun i => i ≤ l.length) (fun i => l.length - i) (0) ?kea6 ?keb6 ?_ ?_ ?_
  case kea6 => exact amN
  case keb6 => exact amN
  · exact Nat.zero_le _
  · refine Le.of [(4, 4)] [] rfl rfl rfl rfl ?_ ?_ ?_
    all_goals (try refine amL (h := ?_))
    all_goals (try with_reducible apply True.intro)
    exact ALe.of (.inl rfl) rfl (fun i hi j hj => by rw [if_neg (by omega)]; exact .refl _)
  · intro i hi
    (try refine am (h := ?_)); (try with_reducible apply True.intro)
    repeat' (first | (with_reducible refine And.intro ?_ ?_) | (with_reducible intro _))
    all_goals try (first | omega | with_reducible rfl | ((with_reducible refine eqId ?_); exact rfl) | with_reducible (first | assumption | exact pl ‹_› | exact pr ‹_› | exact plr ‹_› | exact pll ‹_› | exact prl ‹_› | exact plll ‹_› | exact prll ‹_›))
    · have hlt : i < l.length := by assumption
      refine ⟨i + 1, ?_, by omega, by omega⟩
      refine Le.of [(4, 4)] [] rfl rfl rfl rfl ?_ ?_ ?_
      all_goals (try refine amL (h := ?_))
      all_goals (try with_reducible apply True.intro)
      refine ALe.of (.inl rfl) rfl (fun i' hi j hj => ?_)
      exact rowsLe (E := fun i' => [.str (l.getD i' [])]) hj rfl
    · refine FinK.val1 ?_ ?_
      all_goals (try refine amF (h := ?_))
      all_goals (try with_reducible apply True.intro)
      refine ALe.of (.inl rfl) rfl (fun i' hi j hj => ?_)
      rw [if_pos (by omega)]
      exact .refl _
set_option maxHeartbeats 2000000 in
theorem eqStringS (l m : List (List UInt8)) (u u' : Bool) (nl ml : Option Bool) (h : okS (2 ^ 47) l) : ACalls Tryz.prog 96 [.one (.sl u nl 1 l.length (fS l)), .one (.sl u' ml 1 m.length (fS m))] (fun r => r = .val (.one (.bool (decide (l = m))))) := by
  have hl := h.1
  have nt : Tryz.f96.ntmps = 26 := rfl
  have rs : Tryz.f96.results = #[.tmp 4] := rfl
  refine ACalls.of_run (m := 400) mixed Tryz.func96 rfl rfl (Nat.le_of_ble_eq_true rfl) ?_
  simp only [nt, rs]
  clear nt rs
  (try refine am (h := ?_)); (try with_reducible apply True.intro)
  refine ⟨fun h => ?_, fun hlen => ?_⟩
  · refine FinK.val1 ?_ ?_
    all_goals (try refine amF (h := ?_))
    all_goals (try with_reducible apply True.intro)
    exact (decide_eq_false (fun e => h (by rw [e]))).symm
  refine LoopK.auto (Nat) (fun i => [(5, .one (.av (.int .i64 i)))]) (fun i => []) [0, 1] (k0 := ?k07) (keepH := ?kh7) 7 (fun i => i ≤ l.length ∧ ∀ j, j < i → l.getD j [] = m.getD j []) (fun i => l.length - i) (0) ?kea7 ?keb7 ?_ ?_ ?_
  case kea7 => exact amN
  case keb7 => exact amN
  · exact ⟨Nat.zero_le _, fun j hj => by omega⟩
  · refine Le.of [] [] rfl rfl rfl rfl ?_ ?_ ?_
    all_goals (try refine amL (h := ?_))
    all_goals (try with_reducible apply True.intro)
  · intro i hi
    (try refine am (h := ?_)); (try with_reducible apply True.intro)
    repeat' (first | (with_reducible refine And.intro ?_ ?_) | (with_reducible intro _))
    all_goals try (first | omega | with_reducible rfl | ((with_reducible refine eqId ?_); exact rfl) | with_reducible (first | assumption | exact pl ‹_› | exact pr ‹_› | exact plr ‹_› | exact pll ‹_› | exact prl ‹_› | exact plll ‹_› | exact prll ‹_›))
    · refine FinK.val1 ?_ ?_
      all_goals (try refine amF (h := ?_))
      all_goals (try with_reducible apply True.intro)
      rename_i h2
      exact (decide_eq_false (fun e => h2 (by rw [e]))).symm
    · rename_i h2
      refine ⟨i + 1, ?_, ⟨by omega, fun j hj => ?_⟩, by omega⟩
      · refine Le.of [] [] rfl rfl rfl rfl ?_ ?_ ?_
        all_goals (try refine amL (h := ?_))
        all_goals (try with_reducible apply True.intro)
      · by_cases h3 : j = i
        · rw [h3]; first | exact h2 | exact UInt8.toNat_inj.1 (by omega) | exact UInt8.toNat_inj.1 (by exact_mod_cast h2)
        · exact hi.2 j (by omega)
    · refine FinK.val1 ?_ ?_
      all_goals (try refine amF (h := ?_))
      all_goals (try with_reducible apply True.intro)
      exact (decide_eq_true (getD_ext hlen (fun j hj => hi.2 j (by omega)))).symm
set_option maxHeartbeats 2000000 in
theorem eqIntSS (l m : List (List (Int))) (u u' v v' : Bool) (nl ml : Option Bool) (h : okL (2 ^ 47) l) : ACalls Tryz.prog 47 [.one (.sl u nl 1 l.length (fL v l)), .one (.sl u' ml 1 m.length (fL v' m))] (fun r => r = .val (.one (.bool (decide (l = m))))) := by
  have hl := h.1
  have nt : Tryz.f47.ntmps = 27 := rfl
  have rs : Tryz.f47.results = #[.tmp 4] := rfl
  refine ACalls.of_run (m := 400) mixed Tryz.func47 rfl rfl (Nat.le_of_ble_eq_true rfl) ?_
  simp only [nt, rs]
  clear nt rs
  (try refine am (h := ?_)); (try with_reducible apply True.intro)
  refine ⟨fun h => ?_, fun hlen => ?_⟩
  · refine FinK.val1 ?_ ?_
    all_goals (try refine amF (h := ?_))
    all_goals (try with_reducible apply True.intro)
    exact (decide_eq_false (fun e => h (by rw [e]))).symm
  refine LoopK.auto (Nat) (fun i => [(5, .one (.av (.int .i64 i)))]) (fun i => []) [0, 1] (k0 := ?k010) (keepH := ?kh10) 7 (fun i => i ≤ l.length ∧ ∀ j, j < i → l.getD j [] = m.getD j []) (fun i => l.length - i) (0) ?kea10 ?keb10 ?_ ?_ ?_
  case kea10 => exact amN
  case keb10 => exact amN
  · exact ⟨Nat.zero_le _, fun j hj => by omega⟩
  · refine Le.of [] [] rfl rfl rfl rfl ?_ ?_ ?_
    all_goals (try refine amL (h := ?_))
    all_goals (try with_reducible apply True.intro)
  · intro i hi
    (try refine am (h := ?_)); (try with_reducible apply True.intro)
    repeat' (first | (with_reducible refine And.intro ?_ ?_) | (with_reducible intro _))
    all_goals try (first | omega | with_reducible rfl | ((with_reducible refine eqId ?_); exact rfl) | with_reducible (first | assumption | exact pl ‹_› | exact pr ‹_› | exact plr ‹_› | exact pll ‹_› | exact prl ‹_› | exact plll ‹_› | exact prll ‹_›))
    · have hlt : i < l.length := by assumption
      refine CallE.one (eqIntS _ _ _ _ _ _ (h.2 _ (getD_mem hlt))) (fun _ => amC) rfl ?_
      (try refine am (h := ?_)); (try with_reducible apply True.intro)
      repeat' (first | (with_reducible refine And.intro ?_ ?_) | (with_reducible intro _))
      all_goals try (first | omega | with_reducible rfl | ((with_reducible refine eqId ?_); exact rfl) | with_reducible (first | assumption | exact pl ‹_› | exact pr ‹_› | exact plr ‹_› | exact pll ‹_› | exact prl ‹_› | exact plll ‹_› | exact prll ‹_›))
      · refine FinK.val1 ?_ ?_
        all_goals (try refine amF (h := ?_))
        all_goals (try with_reducible apply True.intro)
        rename_i h2
        exact (decide_eq_false (fun e => h2 (by rw [e]))).symm
      · rename_i h2
        refine ⟨i + 1, ?_, ⟨by omega, fun j hj => ?_⟩, by omega⟩
        · refine Le.of [] [] rfl rfl rfl rfl ?_ ?_ ?_
          all_goals (try refine amL (h := ?_))
          all_goals (try with_reducible apply True.intro)
        · by_cases h3 : j = i
          · rw [h3]; exact h2
          · exact hi.2 j (by omega)
    · refine FinK.val1 ?_ ?_
      all_goals (try refine amF (h := ?_))
      all_goals (try with_reducible apply True.intro)
      exact (decide_eq_true (getD_ext hlen (fun j hj => hi.2 j (by omega)))).symm
set_option maxHeartbeats 2000000 in
theorem eqWindow (x y : List (List Int)) (u v u' v' : Bool) (h : okL (2 ^ 47) x) : ACalls Tryz.prog 147 [.agg [aL u v x], .agg [aL u' v' y]] (fun r => r = .val (.one (.bool (decide (x = y))))) := by
  have nt : Tryz.f147.ntmps = 11 := rfl
  have rs : Tryz.f147.results = #[.tmp 4] := rfl
  refine ACalls.of_run (m := 400) mixed Tryz.func147 rfl rfl (Nat.le_of_ble_eq_true rfl) ?_
  simp only [nt, rs]
  clear nt rs
  (try refine am (h := ?_)); (try with_reducible apply True.intro)
  first | refine CallK.one (eqIntSS x y _ _ _ _ _ _ h) (fun _ => amC) ?_ | refine CallE.one (eqIntSS x y _ _ _ _ _ _ h) (fun _ => amC) rfl ?_ | refine CallG.one rfl (fun hg => eqIntSS x y _ _ _ _ _ _ h) ?_ | refine CallEG.one rfl rfl (fun hg => eqIntSS x y _ _ _ _ _ _ h) ?_
  (try refine am (h := ?_)); (try with_reducible apply True.intro)
  repeat' (first | (with_reducible refine And.intro ?_ ?_) | (with_reducible intro _))
  all_goals try (first | omega | with_reducible rfl | ((with_reducible refine eqId ?_); exact rfl) | with_reducible (first | assumption | exact pl ‹_› | exact pr ‹_› | exact plr ‹_› | exact pll ‹_› | exact prl ‹_› | exact plll ‹_› | exact prll ‹_›))
  · refine FinK.val1 ?_ ?_
    all_goals (try refine amF (h := ?_))
    all_goals (try with_reducible apply True.intro)
    (first | rfl | (simp_all; done) | (simp_all [Bool.and_assoc]; done) | (simp_all [Bool.and_comm]; done))
  refine FinK.val1 ?_ ?_
  all_goals (try refine amF (h := ?_))
  all_goals (try with_reducible apply True.intro)
  (first | rfl | (simp_all; done) | (simp_all [Bool.and_assoc]; done) | (simp_all [Bool.and_comm]; done))
set_option maxHeartbeats 2000000 in
theorem szAttr (x : DAttr) (left : Int) (u v : Bool) (h : okAttr (2 ^ 47) x) (h0 : 0 ≤ left) (h1 : left ≤ 2 ^ 40) : ACalls Tryz.prog 151 [.agg (cAttr u v x), .one (.int .i64 left)] (fun r => r = .val (.one (.int .i64 (less left (zAttr x))))) := by
  have hz : zAttr x = x.name.length + x.cuts.length + szSS x.values := rfl
  have nt : Tryz.f151.ntmps = 25 := rfl
  have rs : Tryz.f151.results = #[.tmp 4] := rfl
  refine ACalls.of_run (m := 400) mixed Tryz.func151 rfl rfl (Nat.le_of_ble_eq_true rfl) ?_
  simp only [nt, rs]
  clear nt rs
  (try refine am (h := ?_)); (try with_reducible apply True.intro)
  have hs0 := h.1
  repeat' (first | (with_reducible refine And.intro ?_ ?_) | (with_reducible intro _))
  all_goals try (first | omega | with_reducible rfl | ((with_reducible refine eqId ?_); exact rfl) | with_reducible (first | assumption | exact pl ‹_› | exact pr ‹_› | exact plr ‹_› | exact pll ‹_› | exact prl ‹_› | exact plll ‹_› | exact prll ‹_›))
  · refine FinK.val1 ?_ ?_
    all_goals (try refine amF (h := ?_))
    all_goals (try with_reducible apply True.intro)
    exact (if_pos (by omega)).symm
  first | refine CallK.one (szIntS x.cuts (left - x.name.length) _ _ h.2.1 (by omega) (by omega)) (fun _ => amC) ?_ | refine CallE.one (szIntS x.cuts (left - x.name.length) _ _ h.2.1 (by omega) (by omega)) (fun _ => amC) rfl ?_ | refine CallG.one rfl (fun hg => szIntS x.cuts (left - x.name.length) _ _ h.2.1 (by omega) (by omega)) ?_ | refine CallEG.one rfl rfl (fun hg => szIntS x.cuts (left - x.name.length) _ _ h.2.1 (by omega) (by omega)) ?_
  (try refine am (h := ?_)); (try with_reducible apply True.intro)
  rcases less_cases (left - x.name.length) (x.cuts.length) with ⟨hc1, e⟩ | ⟨hc1, e⟩
  · (try refine am (h := ?_)); (try simp only [e]); (try refine am (h := ?_)); (try with_reducible apply True.intro)
    refine FinK.val1 ?_ ?_
    all_goals (try refine amF (h := ?_))
    all_goals (try with_reducible apply True.intro)
    first | done | exact (if_pos (by omega)).symm
  (try refine am (h := ?_)); (try simp only [e]); (try refine am (h := ?_)); (try with_reducible apply True.intro)
  repeat' (first | (with_reducible refine And.intro ?_ ?_) | (with_reducible intro _))
  all_goals try (first | omega | with_reducible rfl | ((with_reducible refine eqId ?_); exact rfl) | with_reducible (first | assumption | exact pl ‹_› | exact pr ‹_› | exact plr ‹_› | exact pll ‹_› | exact prl ‹_› | exact plll ‹_› | exact prll ‹_›))
  first | refine CallK.one (szStringS x.values ((left - x.name.length) - (x.cuts.length : Nat)) _ _ h.2.2 (by omega) (by omega)) (fun _ => amC) ?_ | refine CallE.one (szStringS x.values ((left - x.name.length) - (x.cuts.length : Nat)) _ _ h.2.2 (by omega) (by omega)) (fun _ => amC) rfl ?_ | refine CallG.one rfl (fun hg => szStringS x.values ((left - x.name.length) - (x.cuts.length : Nat)) _ _ h.2.2 (by omega) (by omega)) ?_ | refine CallEG.one rfl rfl (fun hg => szStringS x.values ((left - x.name.length) - (x.cuts.length : Nat)) _ _ h.2.2 (by omega) (by omega)) ?_
  (try refine am (h := ?_)); (try with_reducible apply True.intro)
  rcases less_cases ((left - x.name.length) - (x.cuts.length : Nat)) (szSS x.values) with ⟨hc2, e⟩ | ⟨hc2, e⟩
  · (try refine am (h := ?_)); (try simp only [e]); (try refine am (h := ?_)); (try with_reducible apply True.intro)
    refine FinK.val1 ?_ ?_
    all_goals (try refine amF (h := ?_))
    all_goals (try with_reducible apply True.intro)
    first | done | exact (if_pos (by omega)).symm
  (try refine am (h := ?_)); (try simp only [e]); (try refine am (h := ?_)); (try with_reducible apply True.intro)
  repeat' (first | (with_reducible refine And.intro ?_ ?_) | (with_reducible intro _))
  all_goals try (first | omega | with_reducible rfl | ((with_reducible refine eqId ?_); exact rfl) | with_reducible (first | assumption | exact pl ‹_› | exact pr ‹_› | exact plr ‹_› | exact pll ‹_› | exact prl ‹_› | exact plll ‹_› | exact prll ‹_›))
  refine FinK.val1 ?_ ?_
  all_goals (try refine amF (h := ?_))
  all_goals (try with_reducible apply True.intro)
  first | done | exact ((if_neg (by omega)).trans (by omega)).symm
set_option maxHeartbeats 2000000 in
theorem toAttr (x : DAttr) (u v : Bool) (h : okAttr (2 ^ 40) x) : ACalls Tryz.prog 160 [.agg (cAttr u v x)] (fun r => r = .val (.agg (cAttr true true x))) := by
  have nt : Tryz.f160.ntmps = 16 := rfl
  have rs : Tryz.f160.results = #[.cell 2 191] := rfl
  refine ACalls.of_run (m := 400) mixed Tryz.func160 rfl rfl (Nat.le_of_ble_eq_true rfl) ?_
  simp only [nt, rs]
  clear nt rs
  (try refine am (h := ?_)); (try with_reducible apply True.intro)
  first | refine CallK.one (toIntS x.cuts _ _ h.2.1) (fun _ => amC) ?_ | refine CallE.one (toIntS x.cuts _ _ h.2.1) (fun _ => amC) rfl ?_ | refine CallG.one rfl (fun hg => toIntS x.cuts _ _ h.2.1) ?_ | refine CallEG.one rfl rfl (fun hg => toIntS x.cuts _ _ h.2.1) ?_
  (try refine am (h := ?_)); (try with_reducible apply True.intro)
  first | refine CallK.one (toStringS x.values _ _ h.2.2) (fun _ => amC) ?_ | refine CallE.one (toStringS x.values _ _ h.2.2) (fun _ => amC) rfl ?_ | refine CallG.one rfl (fun hg => toStringS x.values _ _ h.2.2) ?_ | refine CallEG.one rfl rfl (fun hg => toStringS x.values _ _ h.2.2) ?_
  (try refine am (h := ?_)); (try with_reducible apply True.intro)
  refine FinK.cell1 ?_ ?_ ?_
  all_goals (try refine amF (h := ?_))
  all_goals (try with_reducible apply True.intro)
set_option maxHeartbeats 2000000 in
theorem eqAttr (x y : DAttr) (u v u' v' : Bool) (h : okAttr (2 ^ 47) x) : ACalls Tryz.prog 169 [.agg (cAttr u v x), .agg (cAttr u' v' y)] (fun r => r = .val (.one (.bool (decide (x = y))))) := by
  obtain ⟨x0, x1, x2⟩ := x
  obtain ⟨y0, y1, y2⟩ := y
  have nt : Tryz.f169.ntmps = 22 := rfl
  have rs : Tryz.f169.results = #[.tmp 4] := rfl
  refine ACalls.of_run (m := 400) mixed Tryz.func169 rfl rfl (Nat.le_of_ble_eq_true rfl) ?_
  simp only [nt, rs]
  clear nt rs
  (try refine am (h := ?_)); (try with_reducible apply True.intro)
  repeat' (first | (with_reducible refine And.intro ?_ ?_) | (with_reducible intro _))
  all_goals try (first | omega | with_reducible rfl | ((with_reducible refine eqId ?_); exact rfl) | with_reducible (first | assumption | exact pl ‹_› | exact pr ‹_› | exact plr ‹_› | exact pll ‹_› | exact prl ‹_› | exact plll ‹_› | exact prll ‹_›))
  · refine FinK.val1 ?_ ?_
    all_goals (try refine amF (h := ?_))
    all_goals (try with_reducible apply True.intro)
    (first | rfl | (simp_all; done) | (simp_all [Bool.and_assoc]; done) | (simp_all [Bool.and_comm]; done))
  first | refine CallK.one (eqIntS x1 y1 _ _ _ _ h.2.1) (fun _ => amC) ?_ | refine CallE.one (eqIntS x1 y1 _ _ _ _ h.2.1) (fun _ => amC) rfl ?_ | refine CallG.one rfl (fun hg => eqIntS x1 y1 _ _ _ _ h.2.1) ?_ | refine CallEG.one rfl rfl (fun hg => eqIntS x1 y1 _ _ _ _ h.2.1) ?_
  (try refine am (h := ?_)); (try with_reducible apply True.intro)
  repeat' (first | (with_reducible refine And.intro ?_ ?_) | (with_reducible intro _))
  all_goals try (first | omega | with_reducible rfl | ((with_reducible refine eqId ?_); exact rfl) | with_reducible (first | assumption | exact pl ‹_› | exact pr ‹_› | exact plr ‹_› | exact pll ‹_› | exact prl ‹_› | exact plll ‹_› | exact prll ‹_›))
  · refine FinK.val1 ?_ ?_
    all_goals (try refine amF (h := ?_))
    all_goals (try with_reducible apply True.intro)
    (first | rfl | (simp_all; done) | (simp_all [Bool.and_assoc]; done) | (simp_all [Bool.and_comm]; done))
  first | refine CallK.one (eqStringS x2 y2 _ _ _ _ h.2.2) (fun _ => amC) ?_ | refine CallE.one (eqStringS x2 y2 _ _ _ _ h.2.2) (fun _ => amC) rfl ?_ | refine CallG.one rfl (fun hg => eqStringS x2 y2 _ _ _ _ h.2.2) ?_ | refine CallEG.one rfl rfl (fun hg => eqStringS x2 y2 _ _ _ _ h.2.2) ?_
  (try refine am (h := ?_)); (try with_reducible apply True.intro)
  repeat' (first | (with_reducible refine And.intro ?_ ?_) | (with_reducible intro _))
  all_goals try (first | omega | with_reducible rfl | ((with_reducible refine eqId ?_); exact rfl) | with_reducible (first | assumption | exact pl ‹_› | exact pr ‹_› | exact plr ‹_› | exact pll ‹_› | exact prl ‹_› | exact plll ‹_› | exact prll ‹_›))
  · refine FinK.val1 ?_ ?_
    all_goals (try refine amF (h := ?_))
    all_goals (try with_reducible apply True.intro)
    (first | rfl | (simp_all; done) | (simp_all [Bool.and_assoc]; done) | (simp_all [Bool.and_comm]; done))
  refine FinK.val1 ?_ ?_
  all_goals (try refine amF (h := ?_))
  all_goals (try with_reducible apply True.intro)
  (first | rfl | (simp_all; done) | (simp_all [Bool.and_assoc]; done) | (simp_all [Bool.and_comm]; done))
set_option maxHeartbeats 2000000 in
theorem szAttrS (l : List (DAttr)) (left : Int) (u v : Bool) (nl : Option Bool) (h : okAttrS (2 ^ 47) l) (h0 : 0 ≤ left) (h1 : left ≤ 2 ^ 40) : ACalls Tryz.prog 78 [.one (.sl u nl 3 l.length (fAttr v l)), .one (.int .i64 left)] (fun r => r = .val (.one (.int .i64 (less left (zAttrS l))))) := by
  have hl := h.1
  have nt : Tryz.f78.ntmps = 27 := rfl
  have rs : Tryz.f78.results = #[.tmp 4] := rfl
  refine ACalls.of_run (m := 400) mixed Tryz.func78 rfl rfl (Nat.le_of_ble_eq_true rfl) ?_
  simp only [nt, rs]
  clear nt rs
  (try refine am (h := ?_)); (try with_reducible apply True.intro)
  repeat' (first | (with_reducible refine And.intro ?_ ?_) | (with_reducible intro _))
  all_goals try (first | omega | with_reducible rfl | ((with_reducible refine eqId ?_); exact rfl) | with_reducible (first | assumption | exact pl ‹_› | exact pr ‹_› | exact plr ‹_› | exact pll ‹_› | exact prl ‹_› | exact plll ‹_› | exact prll ‹_›))
  · refine FinK.val1 ?_ ?_
    all_goals (try refine amF (h := ?_))
    all_goals (try with_reducible apply True.intro)
    unfold zAttrS
    exact (if_pos (by omega)).symm
  refine LoopK.auto (Nat) (fun i => [(1, .one (.av (.int .i64 (left - l.length - sm zAttr (l.take i))))), (5, .one (.av (.int .i64 i)))]) (fun i => []) [0] (k0 := ?k011) (keepH := ?kh11) 7 (fun i => i ≤ l.length ∧ 0 ≤ left - l.length - sm zAttr (l.take i)) (fun i => l.length - i) (0) ?kea11 ?keb11 ?_ ?_ ?_
  case kea11 => exact amN
  case keb11 => exact amN
  · exact ⟨Nat.zero_le _, by simp [sm]; omega⟩
  · refine Le.of [] [] rfl rfl rfl rfl ?_ ?_ ?_
    all_goals (try refine amL (h := ?_))
    all_goals (try with_reducible apply True.intro)
    simp [sm]
  · rintro i ⟨hi, hs⟩
    (try refine am (h := ?_)); (try with_reducible apply True.intro)
    skip
    repeat' (first | (with_reducible refine And.intro ?_ ?_) | (with_reducible intro _))
    all_goals try (first | omega | with_reducible rfl | ((with_reducible refine eqId ?_); exact rfl) | with_reducible (first | assumption | exact pl ‹_› | exact pr ‹_› | exact plr ‹_› | exact pll ‹_› | exact prl ‹_› | exact plll ‹_› | exact prll ‹_›))
    · have hlt : i < l.length := by assumption
      have ht := sm_take (f := zAttr) (d := default) hlt
      have hm := h.2 _ (getD_mem (d := default) hlt)
      have ht2 := sm_le (f := zAttr) (l := l) (i := i + 1)
      first | refine CallK.one (szAttr _ _ v v hm hs (by omega)) (fun _ => amC) ?_ | refine CallE.one (szAttr _ _ v v hm hs (by omega)) (fun _ => amC) rfl ?_ | refine CallG.one rfl (fun hg => szAttr _ _ v v hm hs (by omega)) ?_ | refine CallEG.one rfl rfl (fun hg => szAttr _ _ v v hm hs (by omega)) ?_
      (try refine am (h := ?_)); (try with_reducible apply True.intro)
      rcases less_cases (left - l.length - sm zAttr (l.take i)) (zAttr (l.getD i default)) with ⟨hc, e⟩ | ⟨hc, e⟩
      · (try refine am (h := ?_)); (try simp only [e]); (try refine am (h := ?_)); (try with_reducible apply True.intro)
        refine FinK.val1 ?_ ?_
        all_goals (try refine amF (h := ?_))
        all_goals (try with_reducible apply True.intro)
        unfold zAttrS
        exact (if_pos (by omega)).symm
      · (try refine am (h := ?_)); (try simp only [e]); (try refine am (h := ?_)); (try with_reducible apply True.intro)
        repeat' (first | (with_reducible refine And.intro ?_ ?_) | (with_reducible intro _))
        all_goals try (first | omega | with_reducible rfl | ((with_reducible refine eqId ?_); exact rfl) | with_reducible (first | assumption | exact pl ‹_› | exact pr ‹_› | exact plr ‹_› | exact pll ‹_› | exact prl ‹_› | exact plll ‹_› | exact prll ‹_›))
        refine ⟨i + 1, ?_, ⟨by omega, by omega⟩, by omega⟩
        refine Le.of [] [] rfl rfl rfl rfl ?_ ?_ ?_
        all_goals (try refine amL (h := ?_))
        all_goals (try with_reducible apply True.intro)
        omega
    · refine FinK.val1 ?_ ?_
      all_goals (try refine amF (h := ?_))
      all_goals (try with_reducible apply True.intro)
      have : i = l.length := by omega
      subst this
      rw [List.take_length] at hs ⊢
      unfold zAttrS
      exact ((if_neg (by omega)).trans (by omega)).symm
set_option maxHeartbeats 2000000 in
theorem toAttrS (l : List (DAttr)) (u v : Bool) (nl : Option Bool) (h : okAttrS (2 ^ 40) l) : ACalls Tryz.prog 86 [.one (.sl u nl 3 l.length (fAttr v l))] (fun r => r = .val (.one (aAttr true true l))) := by
  have hl := h.1
  have nt : Tryz.f86.ntmps = 23 := rfl
  have rs : Tryz.f86.results = #[.tmp 2] := rfl
  refine ACalls.of_run (m := 400) mixed Tryz.func86 rfl rfl (Nat.le_of_ble_eq_true rfl) ?_
  simp only [nt, rs]
  clear nt rs
  (try refine am (h := ?_)); (try with_reducible apply True.intro)
  repeat' (first | (with_reducible refine And.intro ?_ ?_) | (with_reducible intro _))
  all_goals try (first | omega | with_reducible rfl | ((with_reducible refine eqId ?_); exact rfl) | with_reducible (first | assumption | exact pl ‹_› | exact pr ‹_› | exact plr ‹_› | exact pll ‹_› | exact prl ‹_› | exact plll ‹_› | exact prll ‹_›))
  refine LoopK.auto (Nat) (fun i => [(4, .one (.av (.int .i64 i)))]) (fun i => [(4, ⟨.sl true none 3 l.length (fun i' j => gl .junk (if i' < i then cAttr true true (l.getD i' default) else [.str [], nilAV, nilAV]) j), []⟩)]) [0, 3] (k0 := ?k012) (keepH := ?kh12) 7 (fun i => i ≤ l.length) (fun i => l.length - i) (0) ?kea12 ?keb12 ?_ ?_ ?_
  case kea12 => exact amN
  case keb12 => exact amN
  · exact Nat.zero_le _
  · refine Le.of [(4, 4)] [] rfl rfl rfl rfl ?_ ?_ ?_
    all_goals (try refine amL (h := ?_))
    all_goals (try with_reducible apply True.intro)
    exact ALe.of (.inl rfl) rfl (fun i hi j hj => by rw [if_neg (by omega)]; exact .refl _)
  · intro i hi
    (try refine am (h := ?_)); (try with_reducible apply True.intro)
    repeat' (first | (with_reducible refine And.intro ?_ ?_) | (with_reducible intro _))
    all_goals try (first | omega | with_reducible rfl | ((with_reducible refine eqId ?_); exact rfl) | with_reducible (first | assumption | exact pl ‹_› | exact pr ‹_› | exact plr ‹_› | exact pll ‹_› | exact prl ‹_› | exact plll ‹_› | exact prll ‹_›))
    · have hlt : i < l.length := by assumption
      first | refine CallK.one (toAttr _ v v (h.2 _ (getD_mem hlt))) (fun _ => amC) ?_ | refine CallE.one (toAttr _ v v (h.2 _ (getD_mem hlt))) (fun _ => amC) rfl ?_ | refine CallG.one rfl (fun hg => toAttr _ v v (h.2 _ (getD_mem hlt))) ?_ | refine CallEG.one rfl rfl (fun hg => toAttr _ v v (h.2 _ (getD_mem hlt))) ?_
      (try refine am (h := ?_)); (try with_reducible apply True.intro)
      repeat' (first | (with_reducible refine And.intro ?_ ?_) | (with_reducible intro _))
      all_goals try (first | omega | with_reducible rfl | ((with_reducible refine eqId ?_); exact rfl) | with_reducible (first | assumption | exact pl ‹_› | exact pr ‹_› | exact plr ‹_› | exact pll ‹_› | exact prl ‹_› | exact plll ‹_› | exact prll ‹_›))
      refine ⟨i + 1, ?_, by omega, by omega⟩
      refine Le.of [(4, 4)] [] rfl rfl rfl rfl ?_ ?_ ?_
      all_goals (try refine amL (h := ?_))
      all_goals (try with_reducible apply True.intro)
      refine ALe.of (.inl rfl) rfl (fun i' hi j hj => ?_)
      exact rowsLe (E := fun i' => cAttr true true (l.getD i' default)) hj rfl
    · refine FinK.val1 ?_ ?_
      all_goals (try refine amF (h := ?_))
      all_goals (try with_reducible apply True.intro)
      refine ALe.of (.inl rfl) rfl (fun i' hi j hj => ?_)
      rw [if_pos (by omega)]
      exact .refl _
set_option maxHeartbeats 2000000 in
theorem eqAttrS (l m : List (DAttr)) (u u' v v' : Bool) (nl ml : Option Bool) (h : okAttrS (2 ^ 47) l) : ACalls Tryz.prog 95 [.one (.sl u nl 3 l.length (fAttr v l)), .one (.sl u' ml 3 m.length (fAttr v' m))] (fun r => r = .val (.one (.bool (decide (l = m))))) := by
  have hl := h.1
  have nt : Tryz.f95.ntmps = 27 := rfl
  have rs : Tryz.f95.results = #[.tmp 4] := rfl
  refine ACalls.of_run (m := 400) mixed Tryz.func95 rfl rfl (Nat.le_of_ble_eq_true rfl) ?_
  simp only [nt, rs]
  clear nt rs
  (try refine am (h := ?_)); (try with_reducible apply True.intro)
  refine ⟨fun h => ?_, fun hlen => ?_⟩
  · refine FinK.val1 ?_ ?_
    all_goals (try refine amF (h := ?_))
    all_goals (try with_reducible apply True.intro)
    exact (decide_eq_false (fun e => h (by rw [e]))).symm
  refine LoopK.auto (Nat) (fun i => [(5, .one (.av (.int .i64 i)))]) (fun i => []) [0, 1] (k0 := ?k013) (keepH := ?kh13) 7 (fun i => i ≤ l.length ∧ ∀ j, j < i → l.getD j default = m.getD j default) (fun i => l.length - i) (0) ?kea13 ?keb13 ?_ ?_ ?_
  case kea13 => exact amN
  case keb13 => exact amN
  · exact ⟨Nat.zero_le _, fun j hj => by omega⟩
  · refine Le.of [] [] rfl rfl rfl rfl ?_ ?_ ?_
    all_goals (try refine amL (h := ?_))
    all_goals (try with_reducible apply True.intro)
  · intro i hi
    (try refine am (h := ?_)); (try with_reducible apply True.intro)
    repeat' (first | (with_reducible refine And.intro ?_ ?_) | (with_reducible intro _))
    all_goals try (first | omega | with_reducible rfl | ((with_reducible refine eqId ?_); exact rfl) | with_reducible (first | assumption | exact pl ‹_› | exact pr ‹_› | exact plr ‹_› | exact pll ‹_› | exact prl ‹_› | exact plll ‹_› | exact prll ‹_›))
    · have hlt : i < l.length := by assumption
      refine CallE.one (eqAttr _ _ v v v' v' (h.2 _ (getD_mem hlt))) (fun _ => amC) rfl ?_
      (try refine am (h := ?_)); (try with_reducible apply True.intro)
      repeat' (first | (with_reducible refine And.intro ?_ ?_) | (with_reducible intro _))
      all_goals try (first | omega | with_reducible rfl | ((with_reducible refine eqId ?_); exact rfl) | with_reducible (first | assumption | exact pl ‹_› | exact pr ‹_› | exact plr ‹_› | exact pll ‹_› | exact prl ‹_› | exact plll ‹_› | exact prll ‹_›))
      · refine FinK.val1 ?_ ?_
        all_goals (try refine amF (h := ?_))
        all_goals (try with_reducible apply True.intro)
        rename_i h2
        exact (decide_eq_false (fun e => h2 (by rw [e]))).symm
      · rename_i h2
        refine ⟨i + 1, ?_, ⟨by omega, fun j hj => ?_⟩, by omega⟩
        · refine Le.of [] [] rfl rfl rfl rfl ?_ ?_ ?_
          all_goals (try refine amL (h := ?_))
          all_goals (try with_reducible apply True.intro)
        · by_cases h3 : j = i
          · rw [h3]; exact h2
          · exact hi.2 j (by omega)
    · refine FinK.val1 ?_ ?_
      all_goals (try refine amF (h := ?_))
      all_goals (try with_reducible apply True.intro)
      exact (decide_eq_true (getD_ext hlen (fun j hj => hi.2 j (by omega)))).symm
set_option maxHeartbeats 2000000 in
theorem szSchema (x : DSchema) (left : Int) (u v : Bool) (h : okSchema (2 ^ 47) x) (h0 : 0 ≤ left) (h1 : left ≤ 2 ^ 40) : ACalls Tryz.prog 28 [.agg (cSchema u v x), .one (.int .i64 left)] (fun r => r = .val (.one (.int .i64 (less left (zSchema x))))) := by
  have hz : zSchema x = zAttrS x.attrs + szSS x.classes := rfl
  have nt : Tryz.f28.ntmps = 18 := rfl
  have rs : Tryz.f28.results = #[.tmp 4] := rfl
  refine ACalls.of_run (m := 400) mixed Tryz.func28 rfl rfl (Nat.le_of_ble_eq_true rfl) ?_
  simp only [nt, rs]
  clear nt rs
  (try refine am (h := ?_)); (try with_reducible apply True.intro)
  first | refine CallK.one (szAttrS x.attrs left _ _ _ h.1 (by omega) (by omega)) (fun _ => amC) ?_ | refine CallE.one (szAttrS x.attrs left _ _ _ h.1 (by omega) (by omega)) (fun _ => amC) rfl ?_ | refine CallG.one rfl (fun hg => szAttrS x.attrs left _ _ _ h.1 (by omega) (by omega)) ?_ | refine CallEG.one rfl rfl (fun hg => szAttrS x.attrs left _ _ _ h.1 (by omega) (by omega)) ?_
  (try refine am (h := ?_)); (try with_reducible apply True.intro)
  rcases less_cases left (zAttrS x.attrs) with ⟨hc0, e⟩ | ⟨hc0, e⟩
  · (try refine am (h := ?_)); (try simp only [e]); (try refine am (h := ?_)); (try with_reducible apply True.intro)
    refine FinK.val1 ?_ ?_
    all_goals (try refine amF (h := ?_))
    all_goals (try with_reducible apply True.intro)
    first | done | exact (if_pos (by omega)).symm
  (try refine am (h := ?_)); (try simp only [e]); (try refine am (h := ?_)); (try with_reducible apply True.intro)
  repeat' (first | (with_reducible refine And.intro ?_ ?_) | (with_reducible intro _))
  all_goals try (first | omega | with_reducible rfl | ((with_reducible refine eqId ?_); exact rfl) | with_reducible (first | assumption | exact pl ‹_› | exact pr ‹_› | exact plr ‹_› | exact pll ‹_› | exact prl ‹_› | exact plll ‹_› | exact prll ‹_›))
  first | refine CallK.one (szStringS x.classes (left - (zAttrS x.attrs : Nat)) _ _ h.2 (by omega) (by omega)) (fun _ => amC) ?_ | refine CallE.one (szStringS x.classes (left - (zAttrS x.attrs : Nat)) _ _ h.2 (by omega) (by omega)) (fun _ => amC) rfl ?_ | refine CallG.one rfl (fun hg => szStringS x.classes (left - (zAttrS x.attrs : Nat)) _ _ h.2 (by omega) (by omega)) ?_ | refine CallEG.one rfl rfl (fun hg => szStringS x.classes (left - (zAttrS x.attrs : Nat)) _ _ h.2 (by omega) (by omega)) ?_
  (try refine am (h := ?_)); (try with_reducible apply True.intro)
  rcases less_cases (left - (zAttrS x.attrs : Nat)) (szSS x.classes) with ⟨hc1, e⟩ | ⟨hc1, e⟩
  · (try refine am (h := ?_)); (try simp only [e]); (try refine am (h := ?_)); (try with_reducible apply True.intro)
    refine FinK.val1 ?_ ?_
    all_goals (try refine amF (h := ?_))
    all_goals (try with_reducible apply True.intro)
    first | done | exact (if_pos (by omega)).symm
  (try refine am (h := ?_)); (try simp only [e]); (try refine am (h := ?_)); (try with_reducible apply True.intro)
  repeat' (first | (with_reducible refine And.intro ?_ ?_) | (with_reducible intro _))
  all_goals try (first | omega | with_reducible rfl | ((with_reducible refine eqId ?_); exact rfl) | with_reducible (first | assumption | exact pl ‹_› | exact pr ‹_› | exact plr ‹_› | exact pll ‹_› | exact prl ‹_› | exact plll ‹_› | exact prll ‹_›))
  refine FinK.val1 ?_ ?_
  all_goals (try refine amF (h := ?_))
  all_goals (try with_reducible apply True.intro)
  first | done | exact ((if_neg (by omega)).trans (by omega)).symm
set_option maxHeartbeats 2000000 in
theorem toSchema (x : DSchema) (u v : Bool) (h : okSchema (2 ^ 40) x) : ACalls Tryz.prog 31 [.agg (cSchema u v x)] (fun r => r = .val (.agg (cSchema true true x))) := by
  have nt : Tryz.f31.ntmps = 13 := rfl
  have rs : Tryz.f31.results = #[.cell 2 50] := rfl
  refine ACalls.of_run (m := 400) mixed Tryz.func31 rfl rfl (Nat.le_of_ble_eq_true rfl) ?_
  simp only [nt, rs]
  clear nt rs
  (try refine am (h := ?_)); (try with_reducible apply True.intro)
  first | refine CallK.one (toAttrS x.attrs _ _ _ h.1) (fun _ => amC) ?_ | refine CallE.one (toAttrS x.attrs _ _ _ h.1) (fun _ => amC) rfl ?_ | refine CallG.one rfl (fun hg => toAttrS x.attrs _ _ _ h.1) ?_ | refine CallEG.one rfl rfl (fun hg => toAttrS x.attrs _ _ _ h.1) ?_
  (try refine am (h := ?_)); (try with_reducible apply True.intro)
  first | refine CallK.one (toStringS x.classes _ _ h.2) (fun _ => amC) ?_ | refine CallE.one (toStringS x.classes _ _ h.2) (fun _ => amC) rfl ?_ | refine CallG.one rfl (fun hg => toStringS x.classes _ _ h.2) ?_ | refine CallEG.one rfl rfl (fun hg => toStringS x.classes _ _ h.2) ?_
  (try refine am (h := ?_)); (try with_reducible apply True.intro)
  refine FinK.cell1 ?_ ?_ ?_
  all_goals (try refine amF (h := ?_))
  all_goals (try with_reducible apply True.intro)
set_option maxHeartbeats 2000000 in
theorem eqSchema (x y : DSchema) (u v u' v' : Bool) (h : okSchema (2 ^ 47) x) : ACalls Tryz.prog 36 [.agg (cSchema u v x), .agg (cSchema u' v' y)] (fun r => r = .val (.one (.bool (decide (x = y))))) := by
  obtain ⟨x0, x1⟩ := x
  obtain ⟨y0, y1⟩ := y
  have nt : Tryz.f36.ntmps = 17 := rfl
  have rs : Tryz.f36.results = #[.tmp 4] := rfl
  refine ACalls.of_run (m := 400) mixed Tryz.func36 rfl rfl (Nat.le_of_ble_eq_true rfl) ?_
  simp only [nt, rs]
  clear nt rs
  (try refine am (h := ?_)); (try with_reducible apply True.intro)
  first | refine CallK.one (eqAttrS x0 y0 _ _ _ _ _ _ h.1) (fun _ => amC) ?_ | refine CallE.one (eqAttrS x0 y0 _ _ _ _ _ _ h.1) (fun _ => amC) rfl ?_ | refine CallG.one rfl (fun hg => eqAttrS x0 y0 _ _ _ _ _ _ h.1) ?_ | refine CallEG.one rfl rfl (fun hg => eqAttrS x0 y0 _ _ _ _ _ _ h.1) ?_
  (try refine am (h := ?_)); (try with_reducible apply True.intro)
  repeat' (first | (with_reducible refine And.intro ?_ ?_) | (with_reducible intro _))
  all_goals try (first | omega | with_reducible rfl | ((with_reducible refine eqId ?_); exact rfl) | with_reducible (first | assumption | exact pl ‹_› | exact pr ‹_› | exact plr ‹_› | exact pll ‹_› | exact prl ‹_› | exact plll ‹_› | exact prll ‹_›))
  · refine FinK.val1 ?_ ?_
    all_goals (try refine amF (h := ?_))
    all_goals (try with_reducible apply True.intro)
    (first | rfl | (simp_all; done) | (simp_all [Bool.and_assoc]; done) | (simp_all [Bool.and_comm]; done))
  first | refine CallK.one (eqStringS x1 y1 _ _ _ _ h.2) (fun _ => amC) ?_ | refine CallE.one (eqStringS x1 y1 _ _ _ _ h.2) (fun _ => amC) rfl ?_ | refine CallG.one rfl (fun hg => eqStringS x1 y1 _ _ _ _ h.2) ?_ | refine CallEG.one rfl rfl (fun hg => eqStringS x1 y1 _ _ _ _ h.2) ?_
  (try refine am (h := ?_)); (try with_reducible apply True.intro)
  repeat' (first | (with_reducible refine And.intro ?_ ?_) | (with_reducible intro _))
  all_goals try (first | omega | with_reducible rfl | ((with_reducible refine eqId ?_); exact rfl) | with_reducible (first | assumption | exact pl ‹_› | exact pr ‹_› | exact plr ‹_› | exact pll ‹_› | exact prl ‹_› | exact plll ‹_› | exact prll ‹_›))
  · refine FinK.val1 ?_ ?_
    all_goals (try refine amF (h := ?_))
    all_goals (try with_reducible apply True.intro)
    (first | rfl | (simp_all; done) | (simp_all [Bool.and_assoc]; done) | (simp_all [Bool.and_comm]; done))
  refine FinK.val1 ?_ ?_
  all_goals (try refine amF (h := ?_))
  all_goals (try with_reducible apply True.intro)
  (first | rfl | (simp_all; done) | (simp_all [Bool.and_assoc]; done) | (simp_all [Bool.and_comm]; done))
set_option maxHeartbeats 2000000 in
theorem eqStats (x y : DStats) (u v u' v' : Bool) (h : okStats (2 ^ 47) x) : ACalls Tryz.prog 216 [.agg (cStats u v x), .agg (cStats u' v' y)] (fun r => r = .val (.one (.bool (decide (x = y))))) := by
  obtain ⟨x0, x1⟩ := x
  obtain ⟨y0, y1⟩ := y
  have nt : Tryz.f216.ntmps = 17 := rfl
  have rs : Tryz.f216.results = #[.tmp 4] := rfl
  refine ACalls.of_run (m := 400) mixed Tryz.func216 rfl rfl (Nat.le_of_ble_eq_true rfl) ?_
  simp only [nt, rs]
  clear nt rs
  (try refine am (h := ?_)); (try with_reducible apply True.intro)
  first | refine CallK.one (eqIntS x0 y0 _ _ _ _ h.1) (fun _ => amC) ?_ | refine CallE.one (eqIntS x0 y0 _ _ _ _ h.1) (fun _ => amC) rfl ?_ | refine CallG.one rfl (fun hg => eqIntS x0 y0 _ _ _ _ h.1) ?_ | refine CallEG.one rfl rfl (fun hg => eqIntS x0 y0 _ _ _ _ h.1) ?_
  (try refine am (h := ?_)); (try with_reducible apply True.intro)
  repeat' (first | (with_reducible refine And.intro ?_ ?_) | (with_reducible intro _))
  all_goals try (first | omega | with_reducible rfl | ((with_reducible refine eqId ?_); exact rfl) | with_reducible (first | assumption | exact pl ‹_› | exact pr ‹_› | exact plr ‹_› | exact pll ‹_› | exact prl ‹_› | exact plll ‹_› | exact prll ‹_›))
  · refine FinK.val1 ?_ ?_
    all_goals (try refine amF (h := ?_))
    all_goals (try with_reducible apply True.intro)
    (first | rfl | (simp_all; done) | (simp_all [Bool.and_assoc]; done) | (simp_all [Bool.and_comm]; done))
  first | refine CallK.one (eqIntSS x1 y1 _ _ _ _ _ _ h.2) (fun _ => amC) ?_ | refine CallE.one (eqIntSS x1 y1 _ _ _ _ _ _ h.2) (fun _ => amC) rfl ?_ | refine CallG.one rfl (fun hg => eqIntSS x1 y1 _ _ _ _ _ _ h.2) ?_ | refine CallEG.one rfl rfl (fun hg => eqIntSS x1 y1 _ _ _ _ _ _ h.2) ?_
  (try refine am (h := ?_)); (try with_reducible apply True.intro)
  repeat' (first | (with_reducible refine And.intro ?_ ?_) | (with_reducible intro _))
  all_goals try (first | omega | with_reducible rfl | ((with_reducible refine eqId ?_); exact rfl) | with_reducible (first | assumption | exact pl ‹_› | exact pr ‹_› | exact plr ‹_› | exact pll ‹_› | exact prl ‹_› | exact plll ‹_› | exact prll ‹_›))
  · refine FinK.val1 ?_ ?_
    all_goals (try refine amF (h := ?_))
    all_goals (try with_reducible apply True.intro)
    (first | rfl | (simp_all; done) | (simp_all [Bool.and_assoc]; done) | (simp_all [Bool.and_comm]; done))
  refine FinK.val1 ?_ ?_
  all_goals (try refine amF (h := ?_))
  all_goals (try with_reducible apply True.intro)
  (first | rfl | (simp_all; done) | (simp_all [Bool.and_assoc]; done) | (simp_all [Bool.and_comm]; done))
set_option maxHeartbeats 2000000 in
theorem eqFork (x y : DFork) : ACalls Tryz.prog 215 [.agg (cFork x), .agg (cFork y)] (fun r => r = .val (.one (.bool (decide (x = y))))) := by
  obtain ⟨x0, x1⟩ := x
  obtain ⟨y0, y1⟩ := y
  have nt : Tryz.f215.ntmps = 15 := rfl
  have rs : Tryz.f215.results = #[.tmp 4] := rfl
  refine ACalls.of_run (m := 400) mixed Tryz.func215 rfl rfl (Nat.le_of_ble_eq_true rfl) ?_
  simp only [nt, rs]
  clear nt rs
  (try refine am (h := ?_)); (try with_reducible apply True.intro)
  repeat' (first | (with_reducible refine And.intro ?_ ?_) | (with_reducible intro _))
  all_goals try (first | omega | with_reducible rfl | ((with_reducible refine eqId ?_); exact rfl) | with_reducible (first | assumption | exact pl ‹_› | exact pr ‹_› | exact plr ‹_› | exact pll ‹_› | exact prl ‹_› | exact plll ‹_› | exact prll ‹_›))
  · refine FinK.val1 ?_ ?_
    all_goals (try refine amF (h := ?_))
    all_goals (try with_reducible apply True.intro)
    (first | rfl | (simp_all; done) | (simp_all [Bool.and_assoc]; done) | (simp_all [Bool.and_comm]; done))
  repeat' (first | (with_reducible refine And.intro ?_ ?_) | (with_reducible intro _))
  all_goals try (first | omega | with_reducible rfl | ((with_reducible refine eqId ?_); exact rfl) | with_reducible (first | assumption | exact pl ‹_› | exact pr ‹_› | exact plr ‹_› | exact pll ‹_› | exact prl ‹_› | exact plll ‹_› | exact prll ‹_›))
  · refine FinK.val1 ?_ ?_
    all_goals (try refine amF (h := ?_))
    all_goals (try with_reducible apply True.intro)
    (first | rfl | (simp_all; done) | (simp_all [Bool.and_assoc]; done) | (simp_all [Bool.and_comm]; done))
  refine FinK.val1 ?_ ?_
  all_goals (try refine amF (h := ?_))
  all_goals (try with_reducible apply True.intro)
  (first | rfl | (simp_all; done) | (simp_all [Bool.and_assoc]; done) | (simp_all [Bool.and_comm]; done))
set_option maxHeartbeats 2000000 in
theorem toRule (x : DRule) : ACalls Tryz.prog 63 [.agg (cRule x)] (fun r => r = .val (.agg (cRule x))) := by
  have nt : Tryz.f63.ntmps = 26 := rfl
  have rs : Tryz.f63.results = #[.cell 2 51] := rfl
  refine ACalls.of_run (m := 400) mixed Tryz.func63 rfl rfl (Nat.le_of_ble_eq_true rfl) ?_
  simp only [nt, rs]
  clear nt rs
  (try refine am (h := ?_)); (try with_reducible apply True.intro)
  refine FinK.cell1 ?_ ?_ ?_
  all_goals (try refine amF (h := ?_))
  all_goals (try with_reducible apply True.intro)
set_option maxHeartbeats 2000000 in
theorem eqRule (x y : DRule) : ACalls Tryz.prog 70 [.agg (cRule x), .agg (cRule y)] (fun r => r = .val (.one (.bool (decide (x = y))))) := by
  obtain ⟨x0, x1, x2, x3, x4, x5, x6⟩ := x
  obtain ⟨y0, y1, y2, y3, y4, y5, y6⟩ := y
  have nt : Tryz.f70.ntmps = 40 := rfl
  have rs : Tryz.f70.results = #[.tmp 4] := rfl
  refine ACalls.of_run (m := 400) mixed Tryz.func70 rfl rfl (Nat.le_of_ble_eq_true rfl) ?_
  simp only [nt, rs]
  clear nt rs
  (try refine am (h := ?_)); (try with_reducible apply True.intro)
  repeat' (first | (with_reducible refine And.intro ?_ ?_) | (with_reducible intro _))
  all_goals try (first | omega | with_reducible rfl | ((with_reducible refine eqId ?_); exact rfl) | with_reducible (first | assumption | exact pl ‹_› | exact pr ‹_› | exact plr ‹_› | exact pll ‹_› | exact prl ‹_› | exact plll ‹_› | exact prll ‹_›))
  · refine FinK.val1 ?_ ?_
    all_goals (try refine amF (h := ?_))
    all_goals (try with_reducible apply True.intro)
    (first | rfl | (simp_all; done) | (simp_all [Bool.and_assoc]; done) | (simp_all [Bool.and_comm]; done))
  repeat' (first | (with_reducible refine And.intro ?_ ?_) | (with_reducible intro _))
  all_goals try (first | omega | with_reducible rfl | ((with_reducible refine eqId ?_); exact rfl) | with_reducible (first | assumption | exact pl ‹_› | exact pr ‹_› | exact plr ‹_› | exact pll ‹_› | exact prl ‹_› | exact plll ‹_› | exact prll ‹_›))
  · refine FinK.val1 ?_ ?_
    all_goals (try refine amF (h := ?_))
    all_goals (try with_reducible apply True.intro)
    (first | rfl | (simp_all; done) | (simp_all [Bool.and_assoc]; done) | (simp_all [Bool.and_comm]; done))
  repeat' (first | (with_reducible refine And.intro ?_ ?_) | (with_reducible intro _))
  all_goals try (first | omega | with_reducible rfl | ((with_reducible refine eqId ?_); exact rfl) | with_reducible (first | assumption | exact pl ‹_› | exact pr ‹_› | exact plr ‹_› | exact pll ‹_› | exact prl ‹_› | exact plll ‹_› | exact prll ‹_›))
  · refine FinK.val1 ?_ ?_
    all_goals (try refine amF (h := ?_))
    all_goals (try with_reducible apply True.intro)
    (first | rfl | (simp_all; done) | (simp_all [Bool.and_assoc]; done) | (simp_all [Bool.and_comm]; done))
  repeat' (first | (with_reducible refine And.intro ?_ ?_) | (with_reducible intro _))
  all_goals try (first | omega | with_reducible rfl | ((with_reducible refine eqId ?_); exact rfl) | with_reducible (first | assumption | exact pl ‹_› | exact pr ‹_› | exact plr ‹_› | exact pll ‹_› | exact prl ‹_› | exact plll ‹_› | exact prll ‹_›))
  · refine FinK.val1 ?_ ?_
    all_goals (try refine amF (h := ?_))
    all_goals (try with_reducible apply True.intro)
    (first | rfl | (simp_all; done) | (simp_all [Bool.and_assoc]; done) | (simp_all [Bool.and_comm]; done))
  repeat' (first | (with_reducible refine And.intro ?_ ?_) | (with_reducible intro _))
  all_goals try (first | omega | with_reducible rfl | ((with_reducible refine eqId ?_); exact rfl) | with_reducible (first | assumption | exact pl ‹_› | exact pr ‹_› | exact plr ‹_› | exact pll ‹_› | exact prl ‹_› | exact plll ‹_› | exact prll ‹_›))
  · refine FinK.val1 ?_ ?_
    all_goals (try refine amF (h := ?_))
    all_goals (try with_reducible apply True.intro)
    (first | rfl | (simp_all; done) | (simp_all [Bool.and_assoc]; done) | (simp_all [Bool.and_comm]; done))
  repeat' (first | (with_reducible refine And.intro ?_ ?_) | (with_reducible intro _))
  all_goals try (first | omega | with_reducible rfl | ((with_reducible refine eqId ?_); exact rfl) | with_reducible (first | assumption | exact pl ‹_› | exact pr ‹_› | exact plr ‹_› | exact pll ‹_› | exact prl ‹_› | exact plll ‹_› | exact prll ‹_›))
  · refine FinK.val1 ?_ ?_
    all_goals (try refine amF (h := ?_))
    all_goals (try with_reducible apply True.intro)
    (first | rfl | (simp_all; done) | (simp_all [Bool.and_assoc]; done) | (simp_all [Bool.and_comm]; done))
  repeat' (first | (with_reducible refine And.intro ?_ ?_) | (with_reducible intro _))
  all_goals try (first | omega | with_reducible rfl | ((with_reducible refine eqId ?_); exact rfl) | with_reducible (first | assumption | exact pl ‹_› | exact pr ‹_› | exact plr ‹_› | exact pll ‹_› | exact prl ‹_› | exact plll ‹_› | exact prll ‹_›))
  · refine FinK.val1 ?_ ?_
    all_goals (try refine amF (h := ?_))
    all_goals (try with_reducible apply True.intro)
    (first | rfl | (simp_all; done) | (simp_all [Bool.and_assoc]; done) | (simp_all [Bool.and_comm]; done))
  refine FinK.val1 ?_ ?_
  all_goals (try refine amF (h := ?_))
  all_goals (try with_reducible apply True.intro)
  (first | rfl | (simp_all; done) | (simp_all [Bool.and_assoc]; done) | (simp_all [Bool.and_comm]; done))
set_option maxHeartbeats 2000000 in
theorem szTape (x : DTape) (left : Int) (u v : Bool) (h : okTape (2 ^ 47) x) (h0 : 0 ≤ left) (h1 : left ≤ 2 ^ 40) : ACalls Tryz.prog 10 [.agg (cTape u v x), .one (.int .i64 left)] (fun r => r = .val (.one (.int .i64 (less left (zTape x))))) := by
  have hz : zTape x = x.bytes.length := rfl
  have nt : Tryz.f10.ntmps = 12 := rfl
  have rs : Tryz.f10.results = #[.tmp 4] := rfl
  refine ACalls.of_run (m := 400) mixed Tryz.func10 rfl rfl (Nat.le_of_ble_eq_true rfl) ?_
  simp only [nt, rs]
  clear nt rs
  (try refine am (h := ?_)); (try with_reducible apply True.intro)
  first | refine CallK.one (szByteS x.bytes left _ _ h.1 (by omega) (by omega)) (fun _ => amC) ?_ | refine CallE.one (szByteS x.bytes left _ _ h.1 (by omega) (by omega)) (fun _ => amC) rfl ?_ | refine CallG.one rfl (fun hg => szByteS x.bytes left _ _ h.1 (by omega) (by omega)) ?_ | refine CallEG.one rfl rfl (fun hg => szByteS x.bytes left _ _ h.1 (by omega) (by omega)) ?_
  (try refine am (h := ?_)); (try with_reducible apply True.intro)
  rcases less_cases left (x.bytes.length) with ⟨hc0, e⟩ | ⟨hc0, e⟩
  · (try refine am (h := ?_)); (try simp only [e]); (try refine am (h := ?_)); (try with_reducible apply True.intro)
    refine FinK.val1 ?_ ?_
    all_goals (try refine amF (h := ?_))
    all_goals (try with_reducible apply True.intro)
    first | done | exact (if_pos (by omega)).symm
  (try refine am (h := ?_)); (try simp only [e]); (try refine am (h := ?_)); (try with_reducible apply True.intro)
  repeat' (first | (with_reducible refine And.intro ?_ ?_) | (with_reducible intro _))
  all_goals try (first | omega | with_reducible rfl | ((with_reducible refine eqId ?_); exact rfl) | with_reducible (first | assumption | exact pl ‹_› | exact pr ‹_› | exact plr ‹_› | exact pll ‹_› | exact prl ‹_› | exact plll ‹_› | exact prll ‹_›))
  refine FinK.val1 ?_ ?_
  all_goals (try refine amF (h := ?_))
  all_goals (try with_reducible apply True.intro)
  first | done | exact ((if_neg (by omega)).trans (by omega)).symm
set_option maxHeartbeats 2000000 in
theorem toTape (x : DTape) (u v : Bool) (h : okTape (2 ^ 40) x) : ACalls Tryz.prog 13 [.agg (cTape u v x)] (fun r => r = .val (.agg (cTape true true x))) := by
  have nt : Tryz.f13.ntmps = 12 := rfl
  have rs : Tryz.f13.results = #[.cell 2 45] := rfl
  refine ACalls.of_run (m := 400) mixed Tryz.func13 rfl rfl (Nat.le_of_ble_eq_true rfl) ?_
  simp only [nt, rs]
  clear nt rs
  (try refine am (h := ?_)); (try with_reducible apply True.intro)
  first | refine CallK.one (toByteS x.bytes _ _ h.1) (fun _ => amC) ?_ | refine CallE.one (toByteS x.bytes _ _ h.1) (fun _ => amC) rfl ?_ | refine CallG.one rfl (fun hg => toByteS x.bytes _ _ h.1) ?_ | refine CallEG.one rfl rfl (fun hg => toByteS x.bytes _ _ h.1) ?_
  (try refine am (h := ?_)); (try with_reducible apply True.intro)
  refine FinK.cell1 ?_ ?_ ?_
  all_goals (try refine amF (h := ?_))
  all_goals (try with_reducible apply True.intro)
set_option maxHeartbeats 2000000 in
theorem eqTape (x y : DTape) (u v u' v' : Bool) (h : okTape (2 ^ 47) x) : ACalls Tryz.prog 16 [.agg (cTape u v x), .agg (cTape u' v' y)] (fun r => r = .val (.one (.bool (decide (x = y))))) := by
  obtain ⟨x0, x1⟩ := x
  obtain ⟨y0, y1⟩ := y
  have nt : Tryz.f16.ntmps = 16 := rfl
  have rs : Tryz.f16.results = #[.tmp 4] := rfl
  refine ACalls.of_run (m := 400) mixed Tryz.func16 rfl rfl (Nat.le_of_ble_eq_true rfl) ?_
  simp only [nt, rs]
  clear nt rs
  (try refine am (h := ?_)); (try with_reducible apply True.intro)
  first | refine CallK.one (eqByteS x0 y0 _ _ _ _ h.1) (fun _ => amC) ?_ | refine CallE.one (eqByteS x0 y0 _ _ _ _ h.1) (fun _ => amC) rfl ?_ | refine CallG.one rfl (fun hg => eqByteS x0 y0 _ _ _ _ h.1) ?_ | refine CallEG.one rfl rfl (fun hg => eqByteS x0 y0 _ _ _ _ h.1) ?_
  (try refine am (h := ?_)); (try with_reducible apply True.intro)
  repeat' (first | (with_reducible refine And.intro ?_ ?_) | (with_reducible intro _))
  all_goals try (first | omega | with_reducible rfl | ((with_reducible refine eqId ?_); exact rfl) | with_reducible (first | assumption | exact pl ‹_› | exact pr ‹_› | exact plr ‹_› | exact pll ‹_› | exact prl ‹_› | exact plll ‹_› | exact prll ‹_›))
  · refine FinK.val1 ?_ ?_
    all_goals (try refine amF (h := ?_))
    all_goals (try with_reducible apply True.intro)
    (first | rfl | (simp_all; done) | (simp_all [Bool.and_assoc]; done) | (simp_all [Bool.and_comm]; done))
  repeat' (first | (with_reducible refine And.intro ?_ ?_) | (with_reducible intro _))
  all_goals try (first | omega | with_reducible rfl | ((with_reducible refine eqId ?_); exact rfl) | with_reducible (first | assumption | exact pl ‹_› | exact pr ‹_› | exact plr ‹_› | exact pll ‹_› | exact prl ‹_› | exact plll ‹_› | exact prll ‹_›))
  · refine FinK.val1 ?_ ?_
    all_goals (try refine amF (h := ?_))
    all_goals (try with_reducible apply True.intro)
    (first | rfl | (simp_all; done) | (simp_all [Bool.and_assoc]; done) | (simp_all [Bool.and_comm]; done))
  refine FinK.val1 ?_ ?_
  all_goals (try refine amF (h := ?_))
  all_goals (try with_reducible apply True.intro)
  (first | rfl | (simp_all; done) | (simp_all [Bool.and_assoc]; done) | (simp_all [Bool.and_comm]; done))
set_option maxHeartbeats 2000000 in
theorem eqDet (x y : DDet) (u v u' v' : Bool) (h : okDet (2 ^ 47) x) : ACalls Tryz.prog 68 [.agg (cDet u v x), .agg (cDet u' v' y)] (fun r => r = .val (.one (.bool (decide (x = y))))) := by
  obtain ⟨x0, x1⟩ := x
  obtain ⟨y0, y1⟩ := y
  have nt : Tryz.f68.ntmps = 17 := rfl
  have rs : Tryz.f68.results = #[.tmp 4] := rfl
  refine ACalls.of_run (m := 400) mixed Tryz.func68 rfl rfl (Nat.le_of_ble_eq_true rfl) ?_
  simp only [nt, rs]
  clear nt rs
  (try refine am (h := ?_)); (try with_reducible apply True.intro)
  first | refine CallK.one (eqWindow x0 y0 false v false v' h.1) (fun _ => amC) ?_ | refine CallE.one (eqWindow x0 y0 false v false v' h.1) (fun _ => amC) rfl ?_ | refine CallG.one rfl (fun hg => eqWindow x0 y0 false v false v' h.1) ?_ | refine CallEG.one rfl rfl (fun hg => eqWindow x0 y0 false v false v' h.1) ?_
  (try refine am (h := ?_)); (try with_reducible apply True.intro)
  repeat' (first | (with_reducible refine And.intro ?_ ?_) | (with_reducible intro _))
  all_goals try (first | omega | with_reducible rfl | ((with_reducible refine eqId ?_); exact rfl) | with_reducible (first | assumption | exact pl ‹_› | exact pr ‹_› | exact plr ‹_› | exact pll ‹_› | exact prl ‹_› | exact plll ‹_› | exact prll ‹_›))
  · refine FinK.val1 ?_ ?_
    all_goals (try refine amF (h := ?_))
    all_goals (try with_reducible apply True.intro)
    (first | rfl | (simp_all; done) | (simp_all [Bool.and_assoc]; done) | (simp_all [Bool.and_comm]; done))
  first | refine CallK.one (eqWindow x1 y1 false v false v' h.2) (fun _ => amC) ?_ | refine CallE.one (eqWindow x1 y1 false v false v' h.2) (fun _ => amC) rfl ?_ | refine CallG.one rfl (fun hg => eqWindow x1 y1 false v false v' h.2) ?_ | refine CallEG.one rfl rfl (fun hg => eqWindow x1 y1 false v false v' h.2) ?_
  (try refine am (h := ?_)); (try with_reducible apply True.intro)
  repeat' (first | (with_reducible refine And.intro ?_ ?_) | (with_reducible intro _))
  all_goals try (first | omega | with_reducible rfl | ((with_reducible refine eqId ?_); exact rfl) | with_reducible (first | assumption | exact pl ‹_› | exact pr ‹_› | exact plr ‹_› | exact pll ‹_› | exact prl ‹_› | exact plll ‹_› | exact prll ‹_›))
  · refine FinK.val1 ?_ ?_
    all_goals (try refine amF (h := ?_))
    all_goals (try with_reducible apply True.intro)
    (first | rfl | (simp_all; done) | (simp_all [Bool.and_assoc]; done) | (simp_all [Bool.and_comm]; done))
  refine FinK.val1 ?_ ?_
  all_goals (try refine amF (h := ?_))
  all_goals (try with_reducible apply True.intro)
  (first | rfl | (simp_all; done) | (simp_all [Bool.and_assoc]; done) | (simp_all [Bool.and_comm]; done))
set_option maxHeartbeats 2000000 in
theorem eqNode (x y : DNode) (u v u' v' : Bool) (h : okNode (2 ^ 47) x) : ACalls Tryz.prog 168 [.agg (cNode u v x), .agg (cNode u' v' y)] (fun r => r = .val (.one (.bool (decide (x = y))))) := by
  obtain ⟨x0, x1, x2, x3, x4, x5, x6, x7, x8, x9⟩ := x
  obtain ⟨y0, y1, y2, y3, y4, y5, y6, y7, y8, y9⟩ := y
  have nt : Tryz.f168.ntmps = 59 := rfl
  have rs : Tryz.f168.results = #[.tmp 4] := rfl
  refine ACalls.of_run (m := 400) mixed Tryz.func168 rfl rfl (Nat.le_of_ble_eq_true rfl) ?_
  simp only [nt, rs]
  clear nt rs
  (try refine am (h := ?_)); (try with_reducible apply True.intro)
  repeat' (first | (with_reducible refine And.intro ?_ ?_) | (with_reducible intro _))
  all_goals try (first | omega | with_reducible rfl | ((with_reducible refine eqId ?_); exact rfl) | with_reducible (first | assumption | exact pl ‹_› | exact pr ‹_› | exact plr ‹_› | exact pll ‹_› | exact prl ‹_› | exact plll ‹_› | exact prll ‹_›))
  · refine FinK.val1 ?_ ?_
    all_goals (try refine amF (h := ?_))
    all_goals (try with_reducible apply True.intro)
    (first | rfl | (simp_all; done) | (simp_all [Bool.and_assoc]; done) | (simp_all [Bool.and_comm]; done))
  first | refine CallK.one (eqFork x1 y1 ) (fun _ => amC) ?_ | refine CallE.one (eqFork x1 y1 ) (fun _ => amC) rfl ?_ | refine CallG.one rfl (fun hg => eqFork x1 y1 ) ?_ | refine CallEG.one rfl rfl (fun hg => eqFork x1 y1 ) ?_
  (try refine am (h := ?_)); (try with_reducible apply True.intro)
  repeat' (first | (with_reducible refine And.intro ?_ ?_) | (with_reducible intro _))
  all_goals try (first | omega | with_reducible rfl | ((with_reducible refine eqId ?_); exact rfl) | with_reducible (first | assumption | exact pl ‹_› | exact pr ‹_› | exact plr ‹_› | exact pll ‹_› | exact prl ‹_› | exact plll ‹_› | exact prll ‹_›))
  · refine FinK.val1 ?_ ?_
    all_goals (try refine amF (h := ?_))
    all_goals (try with_reducible apply True.intro)
    (first | rfl | (simp_all; done) | (simp_all [Bool.and_assoc]; done) | (simp_all [Bool.and_comm]; done))
  first | refine CallK.one (eqIntS x2 y2 _ _ _ _ h.2.2.1) (fun _ => amC) ?_ | refine CallE.one (eqIntS x2 y2 _ _ _ _ h.2.2.1) (fun _ => amC) rfl ?_ | refine CallG.one rfl (fun hg => eqIntS x2 y2 _ _ _ _ h.2.2.1) ?_ | refine CallEG.one rfl rfl (fun hg => eqIntS x2 y2 _ _ _ _ h.2.2.1) ?_
  (try refine am (h := ?_)); (try with_reducible apply True.intro)
  repeat' (first | (with_reducible refine And.intro ?_ ?_) | (with_reducible intro _))
  all_goals try (first | omega | with_reducible rfl | ((with_reducible refine eqId ?_); exact rfl) | with_reducible (first | assumption | exact pl ‹_› | exact pr ‹_› | exact plr ‹_› | exact pll ‹_› | exact prl ‹_› | exact plll ‹_› | exact prll ‹_›))
  · refine FinK.val1 ?_ ?_
    all_goals (try refine amF (h := ?_))
    all_goals (try with_reducible apply True.intro)
    (first | rfl | (simp_all; done) | (simp_all [Bool.and_assoc]; done) | (simp_all [Bool.and_comm]; done))
  repeat' (first | (with_reducible refine And.intro ?_ ?_) | (with_reducible intro _))
  all_goals try (first | omega | with_reducible rfl | ((with_reducible refine eqId ?_); exact rfl) | with_reducible (first | assumption | exact pl ‹_› | exact pr ‹_› | exact plr ‹_› | exact pll ‹_› | exact prl ‹_› | exact plll ‹_› | exact prll ‹_›))
  · refine FinK.val1 ?_ ?_
    all_goals (try refine amF (h := ?_))
    all_goals (try with_reducible apply True.intro)
    (first | rfl | (simp_all; done) | (simp_all [Bool.and_assoc]; done) | (simp_all [Bool.and_comm]; done))
  first | refine CallK.one (eqStats x4 y4 false v false v' h.2.2.2.2.1) (fun _ => amC) ?_ | refine CallE.one (eqStats x4 y4 false v false v' h.2.2.2.2.1) (fun _ => amC) rfl ?_ | refine CallG.one rfl (fun hg => eqStats x4 y4 false v false v' h.2.2.2.2.1) ?_ | refine CallEG.one rfl rfl (fun hg => eqStats x4 y4 false v false v' h.2.2.2.2.1) ?_
  (try refine am (h := ?_)); (try with_reducible apply True.intro)
  repeat' (first | (with_reducible refine And.intro ?_ ?_) | (with_reducible intro _))
  all_goals try (first | omega | with_reducible rfl | ((with_reducible refine eqId ?_); exact rfl) | with_reducible (first | assumption | exact pl ‹_› | exact pr ‹_› | exact plr ‹_› | exact pll ‹_› | exact prl ‹_› | exact plll ‹_› | exact prll ‹_›))
  · refine FinK.val1 ?_ ?_
    all_goals (try refine amF (h := ?_))
    all_goals (try with_reducible apply True.intro)
    (first | rfl | (simp_all; done) | (simp_all [Bool.and_assoc]; done) | (simp_all [Bool.and_comm]; done))
  repeat' (first | (with_reducible refine And.intro ?_ ?_) | (with_reducible intro _))
  all_goals try (first | omega | with_reducible rfl | ((with_reducible refine eqId ?_); exact rfl) | with_reducible (first | assumption | exact pl ‹_› | exact pr ‹_› | exact plr ‹_› | exact pll ‹_› | exact prl ‹_› | exact plll ‹_› | exact prll ‹_›))
  · refine FinK.val1 ?_ ?_
    all_goals (try refine amF (h := ?_))
    all_goals (try with_reducible apply True.intro)
    (first | rfl | (simp_all; done) | (simp_all [Bool.and_assoc]; done) | (simp_all [Bool.and_comm]; done))
  first | refine CallK.one (eqIntS x6 y6 _ _ _ _ h.2.2.2.2.2.2.1) (fun _ => amC) ?_ | refine CallE.one (eqIntS x6 y6 _ _ _ _ h.2.2.2.2.2.2.1) (fun _ => amC) rfl ?_ | refine CallG.one rfl (fun hg => eqIntS x6 y6 _ _ _ _ h.2.2.2.2.2.2.1) ?_ | refine CallEG.one rfl rfl (fun hg => eqIntS x6 y6 _ _ _ _ h.2.2.2.2.2.2.1) ?_
  (try refine am (h := ?_)); (try with_reducible apply True.intro)
  repeat' (first | (with_reducible refine And.intro ?_ ?_) | (with_reducible intro _))
  all_goals try (first | omega | with_reducible rfl | ((with_reducible refine eqId ?_); exact rfl) | with_reducible (first | assumption | exact pl ‹_› | exact pr ‹_› | exact plr ‹_› | exact pll ‹_› | exact prl ‹_› | exact plll ‹_› | exact prll ‹_›))
  · refine FinK.val1 ?_ ?_
    all_goals (try refine amF (h := ?_))
    all_goals (try with_reducible apply True.intro)
    (first | rfl | (simp_all; done) | (simp_all [Bool.and_assoc]; done) | (simp_all [Bool.and_comm]; done))
  repeat' (first | (with_reducible refine And.intro ?_ ?_) | (with_reducible intro _))
  all_goals try (first | omega | with_reducible rfl | ((with_reducible refine eqId ?_); exact rfl) | with_reducible (first | assumption | exact pl ‹_› | exact pr ‹_› | exact plr ‹_› | exact pll ‹_› | exact prl ‹_› | exact plll ‹_› | exact prll ‹_›))
  · refine FinK.val1 ?_ ?_
    all_goals (try refine amF (h := ?_))
    all_goals (try with_reducible apply True.intro)
    (first | rfl | (simp_all; done) | (simp_all [Bool.and_assoc]; done) | (simp_all [Bool.and_comm]; done))
  repeat' (first | (with_reducible refine And.intro ?_ ?_) | (with_reducible intro _))
  all_goals try (first | omega | with_reducible rfl | ((with_reducible refine eqId ?_); exact rfl) | with_reducible (first | assumption | exact pl ‹_› | exact pr ‹_› | exact plr ‹_› | exact pll ‹_› | exact prl ‹_› | exact plll ‹_› | exact prll ‹_›))
  · refine FinK.val1 ?_ ?_
    all_goals (try refine amF (h := ?_))
    all_goals (try with_reducible apply True.intro)
    (first | rfl | (simp_all; done) | (simp_all [Bool.and_assoc]; done) | (simp_all [Bool.and_comm]; done))
  repeat' (first | (with_reducible refine And.intro ?_ ?_) | (with_reducible intro _))
  all_goals try (first | omega | with_reducible rfl | ((with_reducible refine eqId ?_); exact rfl) | with_reducible (first | assumption | exact pl ‹_› | exact pr ‹_› | exact plr ‹_› | exact pll ‹_› | exact prl ‹_› | exact plll ‹_› | exact prll ‹_›))
  · refine FinK.val1 ?_ ?_
    all_goals (try refine amF (h := ?_))
    all_goals (try with_reducible apply True.intro)
    (first | rfl | (simp_all; done) | (simp_all [Bool.and_assoc]; done) | (simp_all [Bool.and_comm]; done))
  refine FinK.val1 ?_ ?_
  all_goals (try refine amF (h := ?_))
  all_goals (try with_reducible apply True.intro)
  (first | rfl | (simp_all; done) | (simp_all [Bool.and_assoc]; done) | (simp_all [Bool.and_comm]; done))
set_option maxHeartbeats 2000000 in
theorem eqNodeS (l m : List (DNode)) (u u' v v' : Bool) (nl ml : Option Bool) (h : okNodeS (2 ^ 47) l) : ACalls Tryz.prog 94 [.one (.sl u nl 12 l.length (fNode v l)), .one (.sl u' ml 12 m.length (fNode v' m))] (fun r => r = .val (.one (.bool (decide (l = m))))) := by
  have hl := h.1
  have nt : Tryz.f94.ntmps = 27 := rfl
  have rs : Tryz.f94.results = #[.tmp 4] := rfl
  refine ACalls.of_run (m := 400) mixed Tryz.func94 rfl rfl (Nat.le_of_ble_eq_true rfl) ?_
  simp only [nt, rs]
  clear nt rs
  (try refine am (h := ?_)); (try with_reducible apply True.intro)
  refine ⟨fun h => ?_, fun hlen => ?_⟩
  · refine FinK.val1 ?_ ?_
    all_goals (try refine amF (h := ?_))
    all_goals (try with_reducible apply True.intro)
    exact (decide_eq_false (fun e => h (by rw [e]))).symm
  refine LoopK.auto (Nat) (fun i => [(5, .one (.av (.int .i64 i)))]) (fun i => []) [0, 1] (k0 := ?k016) (keepH := ?kh16) 7 (fun i => i ≤ l.length ∧ ∀ j, j < i → l.getD j default = m.getD j default) (fun i => l.length - i) (0) ?kea16 ?keb16 ?_ ?_ ?_
  case kea16 => exact amN
  case keb16 => exact amN
  · exact ⟨Nat.zero_le _, fun j hj => by omega⟩
  · refine Le.of [] [] rfl rfl rfl rfl ?_ ?_ ?_
    all_goals (try refine amL (h := ?_))
    all_goals (try with_reducible apply True.intro)
  · intro i hi
    (try refine am (h := ?_)); (try with_reducible apply True.intro)
    repeat' (first | (with_reducible refine And.intro ?_ ?_) | (with_reducible intro _))
    all_goals try (first | omega | with_reducible rfl | ((with_reducible refine eqId ?_); exact rfl) | with_reducible (first | assumption | exact pl ‹_› | exact pr ‹_› | exact plr ‹_› | exact pll ‹_› | exact prl ‹_› | exact plll ‹_› | exact prll ‹_›))
    · have hlt : i < l.length := by assumption
      refine CallE.one (eqNode _ _ v v v' v' (h.2 _ (getD_mem hlt))) (fun _ => amC) rfl ?_
      (try refine am (h := ?_)); (try with_reducible apply True.intro)
      repeat' (first | (with_reducible refine And.intro ?_ ?_) | (with_reducible intro _))
      all_goals try (first | omega | with_reducible rfl | ((with_reducible refine eqId ?_); exact rfl) | with_reducible (first | assumption | exact pl ‹_› | exact pr ‹_› | exact plr ‹_› | exact pll ‹_› | exact prl ‹_› | exact plll ‹_› | exact prll ‹_›))
      · refine FinK.val1 ?_ ?_
        all_goals (try refine amF (h := ?_))
        all_goals (try with_reducible apply True.intro)
        rename_i h2
        exact (decide_eq_false (fun e => h2 (by rw [e]))).symm
      · rename_i h2
        refine ⟨i + 1, ?_, ⟨by omega, fun j hj => ?_⟩, by omega⟩
        · refine Le.of [] [] rfl rfl rfl rfl ?_ ?_ ?_
          all_goals (try refine amL (h := ?_))
          all_goals (try with_reducible apply True.intro)
        · by_cases h3 : j = i
          · rw [h3]; exact h2
          · exact hi.2 j (by omega)
    · refine FinK.val1 ?_ ?_
      all_goals (try refine amF (h := ?_))
      all_goals (try with_reducible apply True.intro)
      exact (decide_eq_true (getD_ext hlen (fun j hj => hi.2 j (by omega)))).symm
set_option maxHeartbeats 2000000 in
theorem eqTree (x y : DTree) (u v u' v' : Bool) (h : okTree (2 ^ 47) x) : ACalls Tryz.prog 34 [.agg (cTree u v x), .agg (cTree u' v' y)] (fun r => r = .val (.one (.bool (decide (x = y))))) := by
  obtain ⟨x0, x1⟩ := x
  obtain ⟨y0, y1⟩ := y
  have nt : Tryz.f34.ntmps = 16 := rfl
  have rs : Tryz.f34.results = #[.tmp 4] := rfl
  refine ACalls.of_run (m := 400) mixed Tryz.func34 rfl rfl (Nat.le_of_ble_eq_true rfl) ?_
  simp only [nt, rs]
  clear nt rs
  (try refine am (h := ?_)); (try with_reducible apply True.intro)
  first | refine CallK.one (eqNodeS x0 y0 _ _ _ _ _ _ h.1) (fun _ => amC) ?_ | refine CallE.one (eqNodeS x0 y0 _ _ _ _ _ _ h.1) (fun _ => amC) rfl ?_ | refine CallG.one rfl (fun hg => eqNodeS x0 y0 _ _ _ _ _ _ h.1) ?_ | refine CallEG.one rfl rfl (fun hg => eqNodeS x0 y0 _ _ _ _ _ _ h.1) ?_
  (try refine am (h := ?_)); (try with_reducible apply True.intro)
  repeat' (first | (with_reducible refine And.intro ?_ ?_) | (with_reducible intro _))
  all_goals try (first | omega | with_reducible rfl | ((with_reducible refine eqId ?_); exact rfl) | with_reducible (first | assumption | exact pl ‹_› | exact pr ‹_› | exact plr ‹_› | exact pll ‹_› | exact prl ‹_› | exact plll ‹_› | exact prll ‹_›))
  · refine FinK.val1 ?_ ?_
    all_goals (try refine amF (h := ?_))
    all_goals (try with_reducible apply True.intro)
    (first | rfl | (simp_all; done) | (simp_all [Bool.and_assoc]; done) | (simp_all [Bool.and_comm]; done))
  repeat' (first | (with_reducible refine And.intro ?_ ?_) | (with_reducible intro _))
  all_goals try (first | omega | with_reducible rfl | ((with_reducible refine eqId ?_); exact rfl) | with_reducible (first | assumption | exact pl ‹_› | exact pr ‹_› | exact plr ‹_› | exact pll ‹_› | exact prl ‹_› | exact plll ‹_› | exact prll ‹_›))
  · refine FinK.val1 ?_ ?_
    all_goals (try refine amF (h := ?_))
    all_goals (try with_reducible apply True.intro)
    (first | rfl | (simp_all; done) | (simp_all [Bool.and_assoc]; done) | (simp_all [Bool.and_comm]; done))
  refine FinK.val1 ?_ ?_
  all_goals (try refine amF (h := ?_))
  all_goals (try with_reducible apply True.intro)
  (first | rfl | (simp_all; done) | (simp_all [Bool.and_assoc]; done) | (simp_all [Bool.and_comm]; done))
set_option maxHeartbeats 2000000 in
theorem szConf (x : DConf) (left : Int) (u v : Bool) (h : okConf (2 ^ 47) x) (h0 : 0 ≤ left) (h1 : left ≤ 2 ^ 40) : ACalls Tryz.prog 9 [.agg (cConf u v x), .one (.int .i64 left)] (fun r => r = .val (.one (.int .i64 (less left (zConf x))))) := by
  have hz : zConf x = zSchema x.schema := rfl
  have nt : Tryz.f9.ntmps = 12 := rfl
  have rs : Tryz.f9.results = #[.tmp 4] := rfl
  refine ACalls.of_run (m := 400) mixed Tryz.func9 rfl rfl (Nat.le_of_ble_eq_true rfl) ?_
  simp only [nt, rs]
  clear nt rs
  (try refine am (h := ?_)); (try with_reducible apply True.intro)
  first | refine CallK.one (szSchema x.schema left false v h.1 (by omega) (by omega)) (fun _ => amC) ?_ | refine CallE.one (szSchema x.schema left false v h.1 (by omega) (by omega)) (fun _ => amC) rfl ?_ | refine CallG.one rfl (fun hg => szSchema x.schema left false v h.1 (by omega) (by omega)) ?_ | refine CallEG.one rfl rfl (fun hg => szSchema x.schema left false v h.1 (by omega) (by omega)) ?_
  (try refine am (h := ?_)); (try with_reducible apply True.intro)
  rcases less_cases left (zSchema x.schema) with ⟨hc0, e⟩ | ⟨hc0, e⟩
  · (try refine am (h := ?_)); (try simp only [e]); (try refine am (h := ?_)); (try with_reducible apply True.intro)
    refine FinK.val1 ?_ ?_
    all_goals (try refine amF (h := ?_))
    all_goals (try with_reducible apply True.intro)
    first | done | exact (if_pos (by omega)).symm
  (try refine am (h := ?_)); (try simp only [e]); (try refine am (h := ?_)); (try with_reducible apply True.intro)
  repeat' (first | (with_reducible refine And.intro ?_ ?_) | (with_reducible intro _))
  all_goals try (first | omega | with_reducible rfl | ((with_reducible refine eqId ?_); exact rfl) | with_reducible (first | assumption | exact pl ‹_› | exact pr ‹_› | exact plr ‹_› | exact pll ‹_› | exact prl ‹_› | exact plll ‹_› | exact prll ‹_›))
  refine FinK.val1 ?_ ?_
  all_goals (try refine amF (h := ?_))
  all_goals (try with_reducible apply True.intro)
  first | done | exact ((if_neg (by omega)).trans (by omega)).symm
set_option maxHeartbeats 2000000 in
theorem toConf (x : DConf) (u v : Bool) (h : okConf (2 ^ 40) x) : ACalls Tryz.prog 12 [.agg (cConf u v x)] (fun r => r = .val (.agg (cConf true true x))) := by
  have nt : Tryz.f12.ntmps = 28 := rfl
  have rs : Tryz.f12.results = #[.cell 2 53] := rfl
  refine ACalls.of_run (m := 400) mixed Tryz.func12 rfl rfl (Nat.le_of_ble_eq_true rfl) ?_
  simp only [nt, rs]
  clear nt rs
  (try refine am (h := ?_)); (try with_reducible apply True.intro)
  first | refine CallK.one (toSchema x.schema false v h.1) (fun _ => amC) ?_ | refine CallE.one (toSchema x.schema false v h.1) (fun _ => amC) rfl ?_ | refine CallG.one rfl (fun hg => toSchema x.schema false v h.1) ?_ | refine CallEG.one rfl rfl (fun hg => toSchema x.schema false v h.1) ?_
  (try refine am (h := ?_)); (try with_reducible apply True.intro)
  first | refine CallK.one (toRule x.rule ) (fun _ => amC) ?_ | refine CallE.one (toRule x.rule ) (fun _ => amC) rfl ?_ | refine CallG.one rfl (fun hg => toRule x.rule ) ?_ | refine CallEG.one rfl rfl (fun hg => toRule x.rule ) ?_
  (try refine am (h := ?_)); (try with_reducible apply True.intro)
  refine FinK.cell1 ?_ ?_ ?_
  all_goals (try refine amF (h := ?_))
  all_goals (try with_reducible apply True.intro)
set_option maxHeartbeats 2000000 in
theorem eqConf (x y : DConf) (u v u' v' : Bool) (h : okConf (2 ^ 47) x) : ACalls Tryz.prog 17 [.agg (cConf u v x), .agg (cConf u' v' y)] (fun r => r = .val (.one (.bool (decide (x = y))))) := by
  obtain ⟨x0, x1, x2, x3, x4, x5, x6⟩ := x
  obtain ⟨y0, y1, y2, y3, y4, y5, y6⟩ := y
  have nt : Tryz.f17.ntmps = 42 := rfl
  have rs : Tryz.f17.results = #[.tmp 4] := rfl
  refine ACalls.of_run (m := 400) mixed Tryz.func17 rfl rfl (Nat.le_of_ble_eq_true rfl) ?_
  simp only [nt, rs]
  clear nt rs
  (try refine am (h := ?_)); (try with_reducible apply True.intro)
  first | refine CallK.one (eqSchema x0 y0 false v false v' h.1) (fun _ => amC) ?_ | refine CallE.one (eqSchema x0 y0 false v false v' h.1) (fun _ => amC) rfl ?_ | refine CallG.one rfl (fun hg => eqSchema x0 y0 false v false v' h.1) ?_ | refine CallEG.one rfl rfl (fun hg => eqSchema x0 y0 false v false v' h.1) ?_
  (try refine am (h := ?_)); (try with_reducible apply True.intro)
  repeat' (first | (with_reducible refine And.intro ?_ ?_) | (with_reducible intro _))
  all_goals try (first | omega | with_reducible rfl | ((with_reducible refine eqId ?_); exact rfl) | with_reducible (first | assumption | exact pl ‹_› | exact pr ‹_› | exact plr ‹_› | exact pll ‹_› | exact prl ‹_› | exact plll ‹_› | exact prll ‹_›))
  · refine FinK.val1 ?_ ?_
    all_goals (try refine amF (h := ?_))
    all_goals (try with_reducible apply True.intro)
    (first | rfl | (simp_all; done) | (simp_all [Bool.and_assoc]; done) | (simp_all [Bool.and_comm]; done))
  first | refine CallK.one (eqRule x1 y1 ) (fun _ => amC) ?_ | refine CallE.one (eqRule x1 y1 ) (fun _ => amC) rfl ?_ | refine CallG.one rfl (fun hg => eqRule x1 y1 ) ?_ | refine CallEG.one rfl rfl (fun hg => eqRule x1 y1 ) ?_
  (try refine am (h := ?_)); (try with_reducible apply True.intro)
  repeat' (first | (with_reducible refine And.intro ?_ ?_) | (with_reducible intro _))
  all_goals try (first | omega | with_reducible rfl | ((with_reducible refine eqId ?_); exact rfl) | with_reducible (first | assumption | exact pl ‹_› | exact pr ‹_› | exact plr ‹_› | exact pll ‹_› | exact prl ‹_› | exact plll ‹_› | exact prll ‹_›))
  · refine FinK.val1 ?_ ?_
    all_goals (try refine amF (h := ?_))
    all_goals (try with_reducible apply True.intro)
    (first | rfl | (simp_all; done) | (simp_all [Bool.and_assoc]; done) | (simp_all [Bool.and_comm]; done))
  repeat' (first | (with_reducible refine And.intro ?_ ?_) | (with_reducible intro _))
  all_goals try (first | omega | with_reducible rfl | ((with_reducible refine eqId ?_); exact rfl) | with_reducible (first | assumption | exact pl ‹_› | exact pr ‹_› | exact plr ‹_› | exact pll ‹_› | exact prl ‹_› | exact plll ‹_› | exact prll ‹_›))
  · refine FinK.val1 ?_ ?_
    all_goals (try refine amF (h := ?_))
    all_goals (try with_reducible apply True.intro)
    (first | rfl | (simp_all; done) | (simp_all [Bool.and_assoc]; done) | (simp_all [Bool.and_comm]; done))
  repeat' (first | (with_reducible refine And.intro ?_ ?_) | (with_reducible intro _))
  all_goals try (first | omega | with_reducible rfl | ((with_reducible refine eqId ?_); exact rfl) | with_reducible (first | assumption | exact pl ‹_› | exact pr ‹_› | exact plr ‹_› | exact pll ‹_› | exact prl ‹_› | exact plll ‹_› | exact prll ‹_›))
  · refine FinK.val1 ?_ ?_
    all_goals (try refine amF (h := ?_))
    all_goals (try with_reducible apply True.intro)
    (first | rfl | (simp_all; done) | (simp_all [Bool.and_assoc]; done) | (simp_all [Bool.and_comm]; done))
  repeat' (first | (with_reducible refine And.intro ?_ ?_) | (with_reducible intro _))
  all_goals try (first | omega | with_reducible rfl | ((with_reducible refine eqId ?_); exact rfl) | with_reducible (first | assumption | exact pl ‹_› | exact pr ‹_› | exact plr ‹_› | exact pll ‹_› | exact prl ‹_› | exact plll ‹_› | exact prll ‹_›))
  · refine FinK.val1 ?_ ?_
    all_goals (try refine amF (h := ?_))
    all_goals (try with_reducible apply True.intro)
    (first | rfl | (simp_all; done) | (simp_all [Bool.and_assoc]; done) | (simp_all [Bool.and_comm]; done))
  repeat' (first | (with_reducible refine And.intro ?_ ?_) | (with_reducible intro _))
  all_goals try (first | omega | with_reducible rfl | ((with_reducible refine eqId ?_); exact rfl) | with_reducible (first | assumption | exact pl ‹_› | exact pr ‹_› | exact plr ‹_› | exact pll ‹_› | exact prl ‹_› | exact plll ‹_› | exact prll ‹_›))
  · refine FinK.val1 ?_ ?_
    all_goals (try refine amF (h := ?_))
    all_goals (try with_reducible apply True.intro)
    (first | rfl | (simp_all; done) | (simp_all [Bool.and_assoc]; done) | (simp_all [Bool.and_comm]; done))
  repeat' (first | (with_reducible refine And.intro ?_ ?_) | (with_reducible intro _))
  all_goals try (first | omega | with_reducible rfl | ((with_reducible refine eqId ?_); exact rfl) | with_reducible (first | assumption | exact pl ‹_› | exact pr ‹_› | exact plr ‹_› | exact pll ‹_› | exact prl ‹_› | exact plll ‹_› | exact prll ‹_›))
  · refine FinK.val1 ?_ ?_
    all_goals (try refine amF (h := ?_))
    all_goals (try with_reducible apply True.intro)
    (first | rfl | (simp_all; done) | (simp_all [Bool.and_assoc]; done) | (simp_all [Bool.and_comm]; done))
  refine FinK.val1 ?_ ?_
  all_goals (try refine amF (h := ?_))
  all_goals (try with_reducible apply True.intro)
  (first | rfl | (simp_all; done) | (simp_all [Bool.and_assoc]; done) | (simp_all [Bool.and_comm]; done))
set_option maxHeartbeats 2000000 in
theorem eqMember (x y : DMember) (u v u' v' : Bool) (h : okMember (2 ^ 47) x) : ACalls Tryz.prog 15 [.agg (cMember u v x), .agg (cMember u' v' y)] (fun r => r = .val (.one (.bool (decide (x = y))))) := by
  obtain ⟨x0, x1, x2, x3⟩ := x
  obtain ⟨y0, y1, y2, y3⟩ := y
  have nt : Tryz.f15.ntmps = 28 := rfl
  have rs : Tryz.f15.results = #[.tmp 4] := rfl
  refine ACalls.of_run (m := 400) mixed Tryz.func15 rfl rfl (Nat.le_of_ble_eq_true rfl) ?_
  simp only [nt, rs]
  clear nt rs
  (try refine am (h := ?_)); (try with_reducible apply True.intro)
  first | refine CallK.one (eqTree x0 y0 false v false v' h.1) (fun _ => amC) ?_ | refine CallE.one (eqTree x0 y0 false v false v' h.1) (fun _ => amC) rfl ?_ | refine CallG.one rfl (fun hg => eqTree x0 y0 false v false v' h.1) ?_ | refine CallEG.one rfl rfl (fun hg => eqTree x0 y0 false v false v' h.1) ?_
  (try refine am (h := ?_)); (try with_reducible apply True.intro)
  repeat' (first | (with_reducible refine And.intro ?_ ?_) | (with_reducible intro _))
  all_goals try (first | omega | with_reducible rfl | ((with_reducible refine eqId ?_); exact rfl) | with_reducible (first | assumption | exact pl ‹_› | exact pr ‹_› | exact plr ‹_› | exact pll ‹_› | exact prl ‹_› | exact plll ‹_› | exact prll ‹_›))
  · refine FinK.val1 ?_ ?_
    all_goals (try refine amF (h := ?_))
    all_goals (try with_reducible apply True.intro)
    (first | rfl | (simp_all; done) | (simp_all [Bool.and_assoc]; done) | (simp_all [Bool.and_comm]; done))
  repeat' (first | (with_reducible refine And.intro ?_ ?_) | (with_reducible intro _))
  all_goals try (first | omega | with_reducible rfl | ((with_reducible refine eqId ?_); exact rfl) | with_reducible (first | assumption | exact pl ‹_› | exact pr ‹_› | exact plr ‹_› | exact pll ‹_› | exact prl ‹_› | exact plll ‹_› | exact prll ‹_›))
  · refine FinK.val1 ?_ ?_
    all_goals (try refine amF (h := ?_))
    all_goals (try with_reducible apply True.intro)
    (first | rfl | (simp_all; done) | (simp_all [Bool.and_assoc]; done) | (simp_all [Bool.and_comm]; done))
  first | refine CallK.one (eqTree x2 y2 false v false v' h.2.2.1) (fun _ => amC) ?_ | refine CallE.one (eqTree x2 y2 false v false v' h.2.2.1) (fun _ => amC) rfl ?_ | refine CallG.one rfl (fun hg => eqTree x2 y2 false v false v' h.2.2.1) ?_ | refine CallEG.one rfl rfl (fun hg => eqTree x2 y2 false v false v' h.2.2.1) ?_
  (try refine am (h := ?_)); (try with_reducible apply True.intro)
  repeat' (first | (with_reducible refine And.intro ?_ ?_) | (with_reducible intro _))
  all_goals try (first | omega | with_reducible rfl | ((with_reducible refine eqId ?_); exact rfl) | with_reducible (first | assumption | exact pl ‹_› | exact pr ‹_› | exact plr ‹_› | exact pll ‹_› | exact prl ‹_› | exact plll ‹_› | exact prll ‹_›))
  · refine FinK.val1 ?_ ?_
    all_goals (try refine amF (h := ?_))
    all_goals (try with_reducible apply True.intro)
    (first | rfl | (simp_all; done) | (simp_all [Bool.and_assoc]; done) | (simp_all [Bool.and_comm]; done))
  first | refine CallK.one (eqDet x3 y3 false v false v' h.2.2.2) (fun _ => amC) ?_ | refine CallE.one (eqDet x3 y3 false v false v' h.2.2.2) (fun _ => amC) rfl ?_ | refine CallG.one rfl (fun hg => eqDet x3 y3 false v false v' h.2.2.2) ?_ | refine CallEG.one rfl rfl (fun hg => eqDet x3 y3 false v false v' h.2.2.2) ?_
  (try refine am (h := ?_)); (try with_reducible apply True.intro)
  repeat' (first | (with_reducible refine And.intro ?_ ?_) | (with_reducible intro _))
  all_goals try (first | omega | with_reducible rfl | ((with_reducible refine eqId ?_); exact rfl) | with_reducible (first | assumption | exact pl ‹_› | exact pr ‹_› | exact plr ‹_› | exact pll ‹_› | exact prl ‹_› | exact plll ‹_› | exact prll ‹_›))
  · refine FinK.val1 ?_ ?_
    all_goals (try refine amF (h := ?_))
    all_goals (try with_reducible apply True.intro)
    (first | rfl | (simp_all; done) | (simp_all [Bool.and_assoc]; done) | (simp_all [Bool.and_comm]; done))
  refine FinK.val1 ?_ ?_
  all_goals (try refine amF (h := ?_))
  all_goals (try with_reducible apply True.intro)
  (first | rfl | (simp_all; done) | (simp_all [Bool.and_assoc]; done) | (simp_all [Bool.and_comm]; done))
set_option maxHeartbeats 2000000 in
theorem eqMemberS (l m : List (DMember)) (u u' v v' : Bool) (nl ml : Option Bool) (h : okMemberS (2 ^ 47) l) : ACalls Tryz.prog 75 [.one (.sl u nl 7 l.length (fMember v l)), .one (.sl u' ml 7 m.length (fMember v' m))] (fun r => r = .val (.one (.bool (decide (l = m))))) := by
  have hl := h.1
  have nt : Tryz.f75.ntmps = 27 := rfl
  have rs : Tryz.f75.results = #[.tmp 4] := rfl
  refine ACalls.of_run (m := 400) mixed Tryz.func75 rfl rfl (Nat.le_of_ble_eq_true rfl) ?_
  simp only [nt, rs]
  clear nt rs
  (try refine am (h := ?_)); (try with_reducible apply True.intro)
  refine ⟨fun h => ?_, fun hlen => ?_⟩
  · refine FinK.val1 ?_ ?_
    all_goals (try refine amF (h := ?_))
    all_goals (try with_reducible apply True.intro)
    exact (decide_eq_false (fun e => h (by rw [e]))).symm
  refine LoopK.auto (Nat) (fun i => [(5, .one (.av (.int .i64 i)))]) (fun i => []) [0, 1] (k0 := ?k019) (keepH := ?kh19) 7 (fun i => i ≤ l.length ∧ ∀ j, j < i → l.getD j default = m.getD j default) (fun i => l.length - i) (0) ?kea19 ?keb19 ?_ ?_ ?_
  case kea19 => exact amN
  case keb19 => exact amN
  · exact ⟨Nat.zero_le _, fun j hj => by omega⟩
  · refine Le.of [] [] rfl rfl rfl rfl ?_ ?_ ?_
    all_goals (try refine amL (h := ?_))
    all_goals (try with_reducible apply True.intro)
  · intro i hi
    (try refine am (h := ?_)); (try with_reducible apply True.intro)
    repeat' (first | (with_reducible refine And.intro ?_ ?_) | (with_reducible intro _))
    all_goals try (first | omega | with_reducible rfl | ((with_reducible refine eqId ?_); exact rfl) | with_reducible (first | assumption | exact pl ‹_› | exact pr ‹_› | exact plr ‹_› | exact pll ‹_› | exact prl ‹_› | exact plll ‹_› | exact prll ‹_›))
    · have hlt : i < l.length := by assumption
      refine CallE.one (eqMember _ _ v v v' v' (h.2 _ (getD_mem hlt))) (fun _ => amC) rfl ?_
      (try refine am (h := ?_)); (try with_reducible apply True.intro)
      repeat' (first | (with_reducible refine And.intro ?_ ?_) | (with_reducible intro _))
      all_goals try (first | omega | with_reducible rfl | ((with_reducible refine eqId ?_); exact rfl) | with_reducible (first | assumption | exact pl ‹_› | exact pr ‹_› | exact plr ‹_› | exact pll ‹_› | exact prl ‹_› | exact plll ‹_› | exact prll ‹_›))
      · refine FinK.val1 ?_ ?_
        all_goals (try refine amF (h := ?_))
        all_goals (try with_reducible apply True.intro)
        rename_i h2
        exact (decide_eq_false (fun e => h2 (by rw [e]))).symm
      · rename_i h2
        refine ⟨i + 1, ?_, ⟨by omega, fun j hj => ?_⟩, by omega⟩
        · refine Le.of [] [] rfl rfl rfl rfl ?_ ?_ ?_
          all_goals (try refine amL (h := ?_))
          all_goals (try with_reducible apply True.intro)
        · by_cases h3 : j = i
          · rw [h3]; exact h2
          · exact hi.2 j (by omega)
    · refine FinK.val1 ?_ ?_
      all_goals (try refine amF (h := ?_))
      all_goals (try with_reducible apply True.intro)
      exact (decide_eq_true (getD_ext hlen (fun j hj => hi.2 j (by omega)))).symm
set_option maxHeartbeats 2000000 in
theorem eqForest (x y : DForest) (u v u' v' : Bool) (h : okForest (2 ^ 47) x) : ACalls Tryz.prog 25 [.agg (cForest u v x), .agg (cForest u' v' y)] (fun r => r = .val (.one (.bool (decide (x = y))))) := by
  obtain ⟨x0⟩ := x
  obtain ⟨y0⟩ := y
  have nt : Tryz.f25.ntmps = 11 := rfl
  have rs : Tryz.f25.results = #[.tmp 4] := rfl
  refine ACalls.of_run (m := 400) mixed Tryz.func25 rfl rfl (Nat.le_of_ble_eq_true rfl) ?_
  simp only [nt, rs]
  clear nt rs
  (try refine am (h := ?_)); (try with_reducible apply True.intro)
  first | refine CallK.one (eqMemberS x0 y0 _ _ _ _ _ _ h) (fun _ => amC) ?_ | refine CallE.one (eqMemberS x0 y0 _ _ _ _ _ _ h) (fun _ => amC) rfl ?_ | refine CallG.one rfl (fun hg => eqMemberS x0 y0 _ _ _ _ _ _ h) ?_ | refine CallEG.one rfl rfl (fun hg => eqMemberS x0 y0 _ _ _ _ _ _ h) ?_
  (try refine am (h := ?_)); (try with_reducible apply True.intro)
  repeat' (first | (with_reducible refine And.intro ?_ ?_) | (with_reducible intro _))
  all_goals try (first | omega | with_reducible rfl | ((with_reducible refine eqId ?_); exact rfl) | with_reducible (first | assumption | exact pl ‹_› | exact pr ‹_› | exact plr ‹_› | exact pll ‹_› | exact prl ‹_› | exact plll ‹_› | exact prll ‹_›))
  · refine FinK.val1 ?_ ?_
    all_goals (try refine amF (h := ?_))
    all_goals (try with_reducible apply True.intro)
    (first | rfl | (simp_all; done) | (simp_all [Bool.and_assoc]; done) | (simp_all [Bool.and_comm]; done))
  refine FinK.val1 ?_ ?_
  all_goals (try refine amF (h := ?_))
  all_goals (try with_reducible apply True.intro)
  (first | rfl | (simp_all; done) | (simp_all [Bool.and_assoc]; done) | (simp_all [Bool.and_comm]; done))
end Go.AM
