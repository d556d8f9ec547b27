/- Lemmas for the proof of this claim. -/
import Derived.Test.YtbfpfjfhlfomoaaTy
namespace Go.AM
open Go Go.Proofs
set_option maxRecDepth 100000
set_option maxHeartbeats 1000000 in
theorem within (n lo hi : Int) : ACalls Try.prog 82 [.one (.int .i64 n), .one (.int .i64 lo), .one (.int .i64 hi)] (fun r => r = .val (.one (.bool (decide (lo ≤ n ∧ n ≤ hi))))) := by
  have nt : Try.f82.ntmps = 15 := rfl
  have rs : Try.f82.results = #[.tmp 6] := rfl
  refine ACalls.of_run (m := 400) mixed Try.func82 rfl rfl (Nat.le_of_ble_eq_true rfl) ?_
  simp only [nt, rs]
  clear nt rs
  (try refine am (h := ?_)); (try exact True.intro)
  refine FinK.val1 ?_ ?_
  all_goals (try refine amF (h := ?_))
  all_goals (try exact True.intro)

set_option maxHeartbeats 1000000 in
theorem l1In (n lo hi : Int) : ACalls Try.prog 79 [.one (.int .i64 n), .one (.int .i64 lo), .one (.int .i64 hi)] (fun r => r = .val (.one (.bool (decide (lo ≤ n ∧ n ≤ hi))))) := by
  have nt : Try.f79.ntmps = 15 := rfl
  have rs : Try.f79.results = #[.tmp 6] := rfl
  refine ACalls.of_run (m := 400) mixed Try.func79 rfl rfl (Nat.le_of_ble_eq_true rfl) ?_
  simp only [nt, rs]
  clear nt rs
  (try refine am (h := ?_)); (try exact True.intro)
  refine FinK.val1 ?_ ?_
  all_goals (try refine amF (h := ?_))
  all_goals (try exact True.intro)

/-- What is left. -/
def less (left : Int) (n : Nat) : Int := if left < n then -1 else left - n

set_option maxHeartbeats 1000000 in
theorem szIntS (l : List Int) (left : Int) (u : Bool) (nl : Option Bool) (hl : l.length ≤ 2 ^ 47) (h0 : 0 ≤ left) (h1 : left ≤ 2 ^ 40) : ACalls Try.prog 71 [.one (.sl u nl 1 l.length (fI l)), .one (.int .i64 left)] (fun r => r = .val (.one (.int .i64 (less left l.length)))) := by
  have nt : Try.f71.ntmps = 12 := rfl
  have rs : Try.f71.results = #[.tmp 4] := rfl
  refine ACalls.of_run (m := 400) mixed Try.func71 rfl rfl (Nat.le_of_ble_eq_true rfl) ?_
  simp only [nt, rs]
  clear nt rs
  (try refine am (h := ?_)); (try exact True.intro)
  repeat' (first | (with_reducible refine And.intro ?_ ?_) | intro _)
  all_goals try (first | omega | rfl)
  · refine FinK.val1 ?_ ?_
    all_goals (try refine amF (h := ?_))
    all_goals (try exact True.intro)
    unfold less; rw [if_pos (by omega)]
  · refine FinK.val1 ?_ ?_
    all_goals (try refine amF (h := ?_))
    all_goals (try exact True.intro)
    unfold less; rw [if_neg (by omega)]

set_option maxHeartbeats 1000000 in
theorem toIntS (l : List Int) (u : Bool) (nl : Option Bool) (hl : l.length ≤ 2 ^ 40) : ACalls Try.prog 74 [.one (.sl u nl 1 l.length (fI l))] (fun r => r = .val (.one (aI true l))) := by
  have nt : Try.f74.ntmps = 22 := rfl
  have rs : Try.f74.results = #[.tmp 2] := rfl
  refine ACalls.of_run (m := 400) mixed Try.func74 rfl rfl (Nat.le_of_ble_eq_true rfl) ?_
  simp only [nt, rs]
  clear nt rs
  (try refine am (h := ?_)); (try exact True.intro)
  refine ⟨by omega, ?_⟩
  refine LoopK.intro (Nat) (fun i => [(4, .one (.av (.int .i64 i)))]) (fun i => [(4, ⟨.sl true none 1 l.length (fun i' _ => .int .i64 (if i' < i then l.getD i' 0 else 0)), []⟩)]) [0, 3] [] 7 (fun i => i ≤ l.length) (fun i => l.length - i) (0) ?_ ?_ ?_
  · exact Nat.zero_le _
  · refine Le.of [(4, 4)] [] rfl rfl rfl rfl ?_ ?_ ?_
    all_goals (try refine amL (h := ?_))
    all_goals (try exact True.intro)
    refine ALe.of (.inl rfl) rfl (fun i hi j hj => ?_)
    obtain rfl : j = 0 := by omega
    (try refine am (h := ?_)); (try exact True.intro)
    rw [if_neg (by omega)]
  · intro i hi
    (try refine am (h := ?_)); (try exact True.intro)
    repeat' (first | (with_reducible refine And.intro ?_ ?_) | intro _)
    all_goals try (first | omega | rfl)
    · refine ⟨i + 1, ?_, by omega, by omega⟩
      refine Le.of [(4, 4)] [] rfl rfl rfl rfl ?_ ?_ ?_
      all_goals (try refine amL (h := ?_))
      all_goals (try exact True.intro)
      refine ALe.of (.inl rfl) rfl (fun i' hi j hj => ?_)
      obtain rfl : j = 0 := by omega
      (try refine am (h := ?_)); (try exact True.intro)
      by_cases h : i' = i
      · subst h; (try refine am (h := ?_)); (try exact True.intro); rw [if_pos (by omega)]
      · rw [if_neg (by omega)]; (try refine am (h := ?_)); (try exact True.intro); by_cases h2 : i' < i
        · rw [if_pos h2, if_pos (by omega)]
        · rw [if_neg h2, if_neg (by omega)]
    · refine FinK.val1 ?_ ?_
      all_goals (try refine amF (h := ?_))
      all_goals (try exact True.intro)
      refine ALe.of (.inl rfl) rfl (fun i' hi j hj => ?_)
      obtain rfl : j = 0 := by omega
      (try refine am (h := ?_)); (try exact True.intro)
      rw [if_pos (by omega)]

theorem getD_ext {α : Type} {d : α} {l m : List α} (hl : l.length = m.length) (h : ∀ j, j < l.length → l.getD j d = m.getD j d) : l = m := by
  refine List.ext_getElem hl (fun i h1 h2 => ?_)
  have := h i h1
  simpa [List.getD, h1, h2] using this

set_option maxHeartbeats 1000000 in
theorem eqIntS (l m : List Int) (u v : Bool) (nl ml : Option Bool) (hl : l.length ≤ 2 ^ 47) : ACalls Try.prog 77 [.one (.sl u nl 1 l.length (fI l)), .one (.sl v ml 1 m.length (fI m))] (fun r => r = .val (.one (.bool (decide (l = m))))) := by
  have nt : Try.f77.ntmps = 26 := rfl
  have rs : Try.f77.results = #[.tmp 4] := rfl
  refine ACalls.of_run (m := 400) mixed Try.func77 rfl rfl (Nat.le_of_ble_eq_true rfl) ?_
  simp only [nt, rs]
  clear nt rs
  (try refine am (h := ?_)); (try exact True.intro)
  refine ⟨fun h => ?_, fun h => ?_⟩
  · refine FinK.val1 ?_ ?_
    all_goals (try refine amF (h := ?_))
    all_goals (try exact True.intro)
    exact (decide_eq_false (fun e => h (by rw [e]))).symm
  · refine LoopK.intro (Nat) (fun i => [(5, .one (.av (.int .i64 i)))]) (fun i => []) [0, 1] [] 7 (fun i => i ≤ l.length ∧ ∀ j, j < i → l.getD j 0 = m.getD j 0) (fun i => l.length - i) (0) ?_ ?_ ?_
    · exact ⟨Nat.zero_le _, fun j hj => by omega⟩
    · refine Le.of [] [] rfl rfl rfl rfl ?_ ?_ ?_
      all_goals (try refine amL (h := ?_))
      all_goals (try exact True.intro)
    · intro i hi
      (try refine am (h := ?_)); (try exact True.intro)
      repeat' (first | (with_reducible refine And.intro ?_ ?_) | intro _)
      all_goals try (first | omega | rfl)
      · refine FinK.val1 ?_ ?_
        all_goals (try refine amF (h := ?_))
        all_goals (try exact True.intro)
        rename_i h2
        exact (decide_eq_false (fun e => h2 (by rw [e]))).symm
      · rename_i h2
        refine ⟨i + 1, ?_, ⟨by omega, fun j hj => ?_⟩, by omega⟩
        · refine Le.of [] [] rfl rfl rfl rfl ?_ ?_ ?_
          all_goals (try refine amL (h := ?_))
          all_goals (try exact True.intro)
        · by_cases h3 : j = i
          · rw [h3]; exact h2
          · exact hi.2 j (by omega)
      · refine FinK.val1 ?_ ?_
        all_goals (try refine amF (h := ?_))
        all_goals (try exact True.intro)
        exact (decide_eq_true (getD_ext h (fun j hj => hi.2 j (by omega)))).symm

theorem pow_bd (i : Nat) (h : i ≤ 62) : 1 ≤ (2 : Int) ^ i ∧ (2 : Int) ^ i ≤ 4611686018427387904 := by
  have h1 : (2 : Nat) ^ i ≤ 2 ^ 62 := Nat.pow_le_pow_right (by omega) h
  have h2 : 0 < (2 : Nat) ^ i := Nat.pow_pos (by omega)
  have e : (2 : Int) ^ i = ((2 ^ i : Nat) : Int) := by simp
  rw [e]
  omega

set_option maxHeartbeats 1000000 in
theorem l16Power (n : Nat) (hn : n ≤ 61) : ACalls Try.prog 108 [.one (.int .i64 n)] (fun r => r = .val (.one (.int .i64 (2 ^ n)))) := by
  have nt : Try.f108.ntmps = 13 := rfl
  have rs : Try.f108.results = #[.tmp 2] := rfl
  refine ACalls.of_run (m := 400) mixed Try.func108 rfl rfl (Nat.le_of_ble_eq_true rfl) ?_
  simp only [nt, rs]
  clear nt rs
  (try refine am (h := ?_)); (try exact True.intro)
  refine LoopK.intro (Nat) (fun i => [(3, .one (.av (.int .i64 (2 ^ i)))), (4, .one (.av (.int .i64 i)))]) (fun i => []) [0] [] 7 (fun i => i ≤ n) (fun i => n - i) (0) ?_ ?_ ?_
  · exact Nat.zero_le _
  · refine Le.of [] [] rfl rfl rfl rfl ?_ ?_ ?_
    all_goals (try refine amL (h := ?_))
    all_goals (try exact True.intro)
    rfl
  · intro i hi
    have hp := pow_bd i (by omega)
    (try refine am (h := ?_)); (try exact True.intro)
    repeat' (first | (with_reducible refine And.intro ?_ ?_) | intro _)
    all_goals try (first | omega | rfl)
    · have h : i < n := by assumption
      have := pow_bd (i + 1) (by omega)
      rw [Int.pow_succ] at this
      omega
    · refine ⟨i + 1, ?_, by omega, by omega⟩
      refine Le.of [] [] rfl rfl rfl rfl ?_ ?_ ?_
      all_goals (try refine amL (h := ?_))
      all_goals (try exact True.intro)
      rw [Int.pow_succ]
    · refine FinK.val1 ?_ ?_
      all_goals (try refine amF (h := ?_))
      all_goals (try exact True.intro)
      have : i = n := by omega
      rw [this]
end Go.AM
namespace Go.AM
open Go Go.Proofs
set_option maxRecDepth 100000
/-- How many values lie in the rows. -/
def sm {α : Type} (f : α → Nat) : List α → Nat
  | [] => 0
  | r :: l => f r + sm f l
theorem sm_take {α : Type} {f : α → Nat} {d : α} : ∀ {l : List α} {i : Nat}, i < l.length → sm f (l.take (i + 1)) = sm f (l.take i) + f (l.getD i d)
  | [], i, h => by simp at h
  | r :: l, 0, h => by simp [sm]
  | r :: l, i + 1, h => by
    have := sm_take (f := f) (d := d) (l := l) (i := i) (by simpa using h)
    simp only [List.take_succ_cons, sm, this, List.getD_cons_succ]
    omega
theorem sm_le {α : Type} {f : α → Nat} : ∀ {l : List α} {i : Nat}, sm f (l.take i) ≤ sm f l
  | [], i => by simp
  | r :: l, 0 => by simp [sm]
  | r :: l, i + 1 => by have := sm_le (f := f) (l := l) (i := i); simp only [List.take_succ_cons, sm]; omega
def tot : List (List Int) → Nat := sm List.length
def szW (l : List (List Int)) : Nat := l.length + tot l
theorem getD_mem {α : Type} {d : α} {l : List α} {i : Nat} (h : i < l.length) : l.getD i d ∈ l := by
  simp [List.getD, h]

set_option maxHeartbeats 1000000 in
theorem szIntSS (l : List (List Int)) (left : Int) (u v : Bool) (nl : Option Bool) (hl : l.length ≤ 2 ^ 47) (hr : ∀ r ∈ l, r.length ≤ 2 ^ 47) (h0 : 0 ≤ left) (h1 : left ≤ 2 ^ 40) : ACalls Try.prog 62 [.one (.sl u nl 1 l.length (fL v l)), .one (.int .i64 left)] (fun r => r = .val (.one (.int .i64 (less left (szW l))))) := by
  have nt : Try.f62.ntmps = 27 := rfl
  have rs : Try.f62.results = #[.tmp 4] := rfl
  refine ACalls.of_run (m := 400) mixed Try.func62 rfl rfl (Nat.le_of_ble_eq_true rfl) ?_
  simp only [nt, rs]
  clear nt rs
  (try refine am (h := ?_)); (try exact True.intro)
  repeat' (first | (with_reducible refine And.intro ?_ ?_) | intro _)
  all_goals try (first | omega | rfl)
  · refine FinK.val1 ?_ ?_
    all_goals (try refine amF (h := ?_))
    all_goals (try exact True.intro)
    unfold less szW; rw [if_pos (by omega)]
  · refine LoopK.intro (Nat) (fun i => [(1, .one (.av (.int .i64 (left - l.length - sm List.length (l.take i))))), (5, .one (.av (.int .i64 i)))]) (fun i => []) [0] [] 7 (fun i => i ≤ l.length ∧ 0 ≤ left - l.length - sm List.length (l.take i)) (fun i => l.length - i) (0) ?_ ?_ ?_
    · exact ⟨Nat.zero_le _, by simp [sm]; omega⟩
    · refine Le.of [] [] rfl rfl rfl rfl ?_ ?_ ?_
      all_goals (try refine amL (h := ?_))
      all_goals (try exact True.intro)
      simp [sm]
    · rintro i ⟨hi, hs⟩
      (try refine am (h := ?_)); (try exact True.intro)
      repeat' (first | (with_reducible refine And.intro ?_ ?_) | intro _)
      all_goals try (first | omega | rfl)
      · have hlt : i < l.length := by assumption
        have ht := sm_take (f := List.length) (d := []) hlt
        have hm : (l.getD i []).length ≤ 2 ^ 47 := hr _ (getD_mem hlt)
        have ht2 := sm_le (f := List.length) (l := l) (i := i + 1)
        refine CallK.one (szIntS _ _ _ _ hm hs (by omega)) (fun _ => amC) ?_
        (try refine am (h := ?_)); (try exact True.intro)
        by_cases hc : left - l.length - sm List.length (l.take i) < (l.getD i []).length
        · have e : less (left - l.length - sm List.length (l.take i)) (l.getD i []).length = -1 := by unfold less; rw [if_pos hc]
          (try refine am (h := ?_)); (try simp only [e]); (try refine am (h := ?_)); (try exact True.intro)
          refine FinK.val1 ?_ ?_
          all_goals (try refine amF (h := ?_))
          all_goals (try exact True.intro)
          unfold less szW tot; rw [if_pos (by omega)]
        · have e : less (left - l.length - sm List.length (l.take i)) (l.getD i []).length = left - l.length - sm List.length (l.take (i + 1)) := by unfold less; rw [if_neg hc]; omega
          (try refine am (h := ?_)); (try simp only [e]); (try refine am (h := ?_)); (try exact True.intro)
          repeat' (first | (with_reducible refine And.intro ?_ ?_) | intro _)
          all_goals try (first | omega | rfl)
          refine ⟨i + 1, ?_, ⟨by omega, by omega⟩, by omega⟩
          refine Le.of [] [] rfl rfl rfl rfl ?_ ?_ ?_
          all_goals (try refine amL (h := ?_))
          all_goals (try exact True.intro)
      · refine FinK.val1 ?_ ?_
        all_goals (try refine amF (h := ?_))
        all_goals (try exact True.intro)
        have : i = l.length := by omega
        subst this
        rw [List.take_length]
        unfold less szW tot
        rw [List.take_length] at hs
        rw [if_neg (by omega)]
        omega

set_option maxHeartbeats 1000000 in
theorem toIntSS (l : List (List Int)) (u v : Bool) (nl : Option Bool) (hl : l.length ≤ 2 ^ 40) (hr : ∀ r ∈ l, r.length ≤ 2 ^ 40) : ACalls Try.prog 65 [.one (.sl u nl 1 l.length (fL v l))] (fun r => r = .val (.one (aL true true l))) := by
  have nt : Try.f65.ntmps = 23 := rfl
  have rs : Try.f65.results = #[.tmp 2] := rfl
  refine ACalls.of_run (m := 400) mixed Try.func65 rfl rfl (Nat.le_of_ble_eq_true rfl) ?_
  simp only [nt, rs]
  clear nt rs
  (try refine am (h := ?_)); (try exact True.intro)
  refine ⟨by omega, ?_⟩
  refine LoopK.intro (Nat) (fun i => [(4, .one (.av (.int .i64 i)))]) (fun i => [(4, ⟨.sl true none 1 l.length (fun i' _ => if i' < i then aI true (l.getD i' []) else nilAV), []⟩)]) [0, 3] [] 7 (fun i => i ≤ l.length) (fun i => l.length - i) (0) ?_ ?_ ?_
  · exact Nat.zero_le _
  · refine Le.of [(4, 4)] [] rfl rfl rfl rfl ?_ ?_ ?_
    all_goals (try refine amL (h := ?_))
    all_goals (try exact True.intro)
    refine ALe.of (.inl rfl) rfl (fun i hi j hj => ?_)
    obtain rfl : j = 0 := by omega
    (try refine am (h := ?_)); (try exact True.intro)
    rw [if_neg (by omega)]
    exact .refl _
  · intro i hi
    (try refine am (h := ?_)); (try exact True.intro)
    repeat' (first | (with_reducible refine And.intro ?_ ?_) | intro _)
    all_goals try (first | omega | rfl)
    · have hlt : i < l.length := by assumption
      refine CallK.one (toIntS _ _ _ (hr _ (getD_mem hlt))) (fun _ => amC) ?_
      (try refine am (h := ?_)); (try exact True.intro)
      repeat' (first | (with_reducible refine And.intro ?_ ?_) | intro _)
      all_goals try (first | omega | rfl)
      refine ⟨i + 1, ?_, by omega, by omega⟩
      refine Le.of [(4, 4)] [] rfl rfl rfl rfl ?_ ?_ ?_
      all_goals (try refine amL (h := ?_))
      all_goals (try exact True.intro)
      refine ALe.of (.inl rfl) rfl (fun i' hi j hj => ?_)
      obtain rfl : j = 0 := by omega
      (try refine am (h := ?_)); (try exact True.intro)
      by_cases h : i' = i
      · subst h; (try refine am (h := ?_)); (try exact True.intro); rw [if_pos (by omega)]; exact .refl _
      · rw [if_neg (by omega)]; (try refine am (h := ?_)); (try exact True.intro); by_cases h2 : i' < i
        · rw [if_pos h2, if_pos (by omega)]; exact .refl _
        · rw [if_neg h2, if_neg (by omega)]; exact .refl _
    · refine FinK.val1 ?_ ?_
      all_goals (try refine amF (h := ?_))
      all_goals (try exact True.intro)
      refine ALe.of (.inl rfl) rfl (fun i' hi j hj => ?_)
      obtain rfl : j = 0 := by omega
      (try refine am (h := ?_)); (try exact True.intro)
      rw [if_pos (by omega)]
      exact .refl _

set_option maxHeartbeats 1000000 in
theorem eqIntSS (l m : List (List Int)) (u v u' v' : Bool) (nl ml : Option Bool) (hl : l.length ≤ 2 ^ 47) (hr : ∀ r ∈ l, r.length ≤ 2 ^ 47) : ACalls Try.prog 69 [.one (.sl u nl 1 l.length (fL u' l)), .one (.sl v ml 1 m.length (fL v' m))] (fun r => r = .val (.one (.bool (decide (l = m))))) := by
  have nt : Try.f69.ntmps = 27 := rfl
  have rs : Try.f69.results = #[.tmp 4] := rfl
  refine ACalls.of_run (m := 400) mixed Try.func69 rfl rfl (Nat.le_of_ble_eq_true rfl) ?_
  simp only [nt, rs]
  clear nt rs
  (try refine am (h := ?_)); (try exact True.intro)
  refine ⟨fun h => ?_, fun h => ?_⟩
  · refine FinK.val1 ?_ ?_
    all_goals (try refine amF (h := ?_))
    all_goals (try exact True.intro)
    exact (decide_eq_false (fun e => h (by rw [e]))).symm
  · refine LoopK.intro (Nat) (fun i => [(5, .one (.av (.int .i64 i)))]) (fun i => []) [0, 1] [] 7 (fun i => i ≤ l.length ∧ ∀ j, j < i → l.getD j [] = m.getD j []) (fun i => l.length - i) (0) ?_ ?_ ?_
    · exact ⟨Nat.zero_le _, fun j hj => by omega⟩
    · refine Le.of [] [] rfl rfl rfl rfl ?_ ?_ ?_
      all_goals (try refine amL (h := ?_))
      all_goals (try exact True.intro)
    · intro i hi
      (try refine am (h := ?_)); (try exact True.intro)
      repeat' (first | (with_reducible refine And.intro ?_ ?_) | intro _)
      all_goals try (first | omega | rfl)
      · have hlt : i < l.length := by assumption
        refine CallE.one (eqIntS _ _ _ _ _ _ (hr _ (getD_mem hlt))) (fun _ => amC) rfl ?_
        (try refine am (h := ?_)); (try exact True.intro)
        repeat' (first | (with_reducible refine And.intro ?_ ?_) | intro _)
        all_goals try (first | omega | rfl)
        · refine FinK.val1 ?_ ?_
          all_goals (try refine amF (h := ?_))
          all_goals (try exact True.intro)
          rename_i h2
          exact (decide_eq_false (fun e => h2 (by rw [e]))).symm
        · rename_i h2
          refine ⟨i + 1, ?_, ⟨by omega, fun j hj => ?_⟩, by omega⟩
          · refine Le.of [] [] rfl rfl rfl rfl ?_ ?_ ?_
            all_goals (try refine amL (h := ?_))
            all_goals (try exact True.intro)
          · by_cases h3 : j = i
            · rw [h3]; exact h2
            · exact hi.2 j (by omega)
      · refine FinK.val1 ?_ ?_
        all_goals (try refine amF (h := ?_))
        all_goals (try exact True.intro)
        exact (decide_eq_true (getD_ext h (fun j hj => hi.2 j (by omega)))).symm

set_option maxHeartbeats 1000000 in
theorem szWindow (l : List (List Int)) (left : Int) (u v : Bool) (hl : l.length ≤ 2 ^ 47) (hr : ∀ r ∈ l, r.length ≤ 2 ^ 47) (h0 : 0 ≤ left) (h1 : left ≤ 2 ^ 40) : ACalls Try.prog 39 [.agg [aL u v l], .one (.int .i64 left)] (fun r => r = .val (.one (.int .i64 (less left (szW l))))) := by
  have nt : Try.f39.ntmps = 12 := rfl
  have rs : Try.f39.results = #[.tmp 4] := rfl
  refine ACalls.of_run (m := 400) mixed Try.func39 rfl rfl (Nat.le_of_ble_eq_true rfl) ?_
  simp only [nt, rs]
  clear nt rs
  (try refine am (h := ?_)); (try exact True.intro)
  refine CallK.one (szIntSS l left _ _ _ hl hr h0 h1) (fun _ => amC) ?_
  (try refine am (h := ?_)); (try exact True.intro)
  repeat' (first | (with_reducible refine And.intro ?_ ?_) | intro _)
  all_goals try (first | omega | rfl)
  · refine FinK.val1 ?_ ?_
    all_goals (try refine amF (h := ?_))
    all_goals (try exact True.intro)
    unfold less at *; split <;> first | rfl | (exfalso; rename_i h; rw [if_neg (by omega)] at *; omega)
  · refine FinK.val1 ?_ ?_
    all_goals (try refine amF (h := ?_))
    all_goals (try exact True.intro)

set_option maxHeartbeats 1000000 in
theorem toWindow (l : List (List Int)) (u v : Bool) (hl : l.length ≤ 2 ^ 40) (hr : ∀ r ∈ l, r.length ≤ 2 ^ 40) : ACalls Try.prog 41 [.agg [aL u v l]] (fun r => r = .val (.agg [aL true true l])) := by
  have nt : Try.f41.ntmps = 9 := rfl
  have rs : Try.f41.results = #[.cell 2 29] := rfl
  refine ACalls.of_run (m := 400) mixed Try.func41 rfl rfl (Nat.le_of_ble_eq_true rfl) ?_
  simp only [nt, rs]
  clear nt rs
  (try refine am (h := ?_)); (try exact True.intro)
  refine CallK.one (toIntSS l _ _ _ hl hr) (fun _ => amC) ?_
  (try refine am (h := ?_)); (try exact True.intro)
  refine FinK.cell1 ?_ ?_ ?_
  all_goals (try refine amF (h := ?_))
  all_goals (try exact True.intro)

set_option maxHeartbeats 1000000 in
theorem eqWindow (l m : List (List Int)) (u v u' v' : Bool) (hl : l.length ≤ 2 ^ 47) (hr : ∀ r ∈ l, r.length ≤ 2 ^ 47) : ACalls Try.prog 43 [.agg [aL u v l], .agg [aL u' v' m]] (fun r => r = .val (.one (.bool (decide (l = m))))) := by
  have nt : Try.f43.ntmps = 11 := rfl
  have rs : Try.f43.results = #[.tmp 4] := rfl
  refine ACalls.of_run (m := 400) mixed Try.func43 rfl rfl (Nat.le_of_ble_eq_true rfl) ?_
  simp only [nt, rs]
  clear nt rs
  (try refine am (h := ?_)); (try exact True.intro)
  refine CallK.one (eqIntSS l m _ _ _ _ _ _ hl hr) (fun _ => amC) ?_
  (try refine am (h := ?_)); (try exact True.intro)
  repeat' (first | (with_reducible refine And.intro ?_ ?_) | intro _)
  all_goals try (first | omega | rfl)
  all_goals
    refine FinK.val1 ?_ ?_
    all_goals (try refine amF (h := ?_))
    all_goals (try exact True.intro)
    (first | exact (decide_eq_true (by assumption)).symm | exact (decide_eq_false (by assumption)).symm | (simp_all; done))

set_option maxHeartbeats 1000000 in
theorem szDet (a b : List (List Int)) (left : Int) (u v : Bool) (hl : a.length ≤ 2 ^ 47) (hr : ∀ r ∈ a, r.length ≤ 2 ^ 47) (kl : b.length ≤ 2 ^ 47) (kr : ∀ r ∈ b, r.length ≤ 2 ^ 47) (h0 : 0 ≤ left) (h1 : left ≤ 2 ^ 40) :
    ACalls Try.prog 15 [.agg [aL u v a, aL u v b], .one (.int .i64 left)] (fun r => r = .val (.one (.int .i64 (less left (szW a + szW b))))) := by
  have nt : Try.f15.ntmps = 18 := rfl
  have rs : Try.f15.results = #[.tmp 4] := rfl
  refine ACalls.of_run (m := 400) mixed Try.func15 rfl rfl (Nat.le_of_ble_eq_true rfl) ?_
  simp only [nt, rs]
  clear nt rs
  (try refine am (h := ?_)); (try exact True.intro)
  refine CallK.one (szWindow a left _ _ hl hr h0 h1) (fun _ => amC) ?_
  (try refine am (h := ?_)); (try exact True.intro)
  by_cases hc : left < (szW a : Nat)
  · have e : less left (szW a) = -1 := if_pos hc
    (try refine am (h := ?_)); (try simp only [e]); (try refine am (h := ?_)); (try exact True.intro)
    refine FinK.val1 ?_ ?_
    all_goals (try refine amF (h := ?_))
    all_goals (try exact True.intro)
    exact (if_pos (by omega)).symm
  · have e : less left (szW a) = left - (szW a : Nat) := if_neg hc
    (try refine am (h := ?_)); (try simp only [e]); (try refine am (h := ?_)); (try exact True.intro)
    repeat' (first | (with_reducible refine And.intro ?_ ?_) | intro _)
    all_goals try (first | omega | rfl)
    refine CallK.one (szWindow b _ _ _ kl kr (by omega) (by omega)) (fun _ => amC) ?_
    (try refine am (h := ?_)); (try exact True.intro)
    by_cases hd : left - (szW a : Nat) < (szW b : Nat)
    · have e : less (left - (szW a : Nat)) (szW b) = -1 := if_pos hd
      (try refine am (h := ?_)); (try simp only [e]); (try refine am (h := ?_)); (try exact True.intro)
      refine FinK.val1 ?_ ?_
      all_goals (try refine amF (h := ?_))
      all_goals (try exact True.intro)
      exact (if_pos (by omega)).symm
    · have e : less (left - (szW a : Nat)) (szW b) = left - (szW a : Nat) - (szW b : Nat) := if_neg hd
      (try refine am (h := ?_)); (try simp only [e]); (try refine am (h := ?_)); (try exact True.intro)
      repeat' (first | (with_reducible refine And.intro ?_ ?_) | intro _)
      all_goals try (first | omega | rfl)
      refine FinK.val1 ?_ ?_
      all_goals (try refine amF (h := ?_))
      all_goals (try exact True.intro)
      exact ((if_neg (by omega)).trans (by omega)).symm

set_option maxHeartbeats 1000000 in
theorem toDet (a b : List (List Int)) (u v : Bool) (hl : a.length ≤ 2 ^ 40) (hr : ∀ r ∈ a, r.length ≤ 2 ^ 40) (kl : b.length ≤ 2 ^ 40) (kr : ∀ r ∈ b, r.length ≤ 2 ^ 40) :
    ACalls Try.prog 17 [.agg [aL u v a, aL u v b]] (fun r => r = .val (.agg [aL true true a, aL true true b])) := by
  have nt : Try.f17.ntmps = 13 := rfl
  have rs : Try.f17.results = #[.cell 2 31] := rfl
  refine ACalls.of_run (m := 400) mixed Try.func17 rfl rfl (Nat.le_of_ble_eq_true rfl) ?_
  simp only [nt, rs]
  clear nt rs
  (try refine am (h := ?_)); (try exact True.intro)
  refine CallK.one (toWindow a _ _ hl hr) (fun _ => amC) ?_
  (try refine am (h := ?_)); (try exact True.intro)
  refine CallK.one (toWindow b _ _ kl kr) (fun _ => amC) ?_
  (try refine am (h := ?_)); (try exact True.intro)
  refine FinK.cell1 ?_ ?_ ?_
  all_goals (try refine amF (h := ?_))
  all_goals (try exact True.intro)

set_option maxHeartbeats 1000000 in
theorem eqDet (a b c d : List (List Int)) (u v u' v' : Bool) (hl : a.length ≤ 2 ^ 47) (hr : ∀ r ∈ a, r.length ≤ 2 ^ 47) (kl : b.length ≤ 2 ^ 47) (kr : ∀ r ∈ b, r.length ≤ 2 ^ 47) :
    ACalls Try.prog 19 [.agg [aL u v a, aL u v b], .agg [aL u' v' c, aL u' v' d]] (fun r => r = .val (.one (.bool (decide (a = c ∧ b = d))))) := by
  have nt : Try.f19.ntmps = 17 := rfl
  have rs : Try.f19.results = #[.tmp 4] := rfl
  refine ACalls.of_run (m := 400) mixed Try.func19 rfl rfl (Nat.le_of_ble_eq_true rfl) ?_
  simp only [nt, rs]
  clear nt rs
  (try refine am (h := ?_)); (try exact True.intro)
  refine CallK.one (eqWindow a c _ _ _ _ hl hr) (fun _ => amC) ?_
  (try refine am (h := ?_)); (try exact True.intro)
  repeat' (first | (with_reducible refine And.intro ?_ ?_) | intro _)
  all_goals try (first | omega | rfl)
  · refine FinK.val1 ?_ ?_
    all_goals (try refine amF (h := ?_))
    all_goals (try exact True.intro)
    simp_all
  · refine CallK.one (eqWindow b d _ _ _ _ kl kr) (fun _ => amC) ?_
    (try refine am (h := ?_)); (try exact True.intro)
    repeat' (first | (with_reducible refine And.intro ?_ ?_) | intro _)
    all_goals try (first | omega | rfl)
    all_goals
      refine FinK.val1 ?_ ?_
      all_goals (try refine amF (h := ?_))
      all_goals (try exact True.intro)
      simp_all

/-- Windows that are right. -/
def rok (r : Nat) (l : List Int) : Prop := (1 ≤ l.length ∧ l.length ≤ 3) ∧ ∀ i, i < l.length → 0 ≤ l.getD i 0 ∧ l.getD i 0 ≤ 2 ^ r
def wok (l : List (List Int)) : Prop := l.length ≤ 8 ∧ ∀ r, r < l.length → rok r (l.getD r [])

noncomputable def wokB (l : List (List Int)) : Bool := @decide (wok l) (Classical.propDecidable _)
theorem wokB_true {l : List (List Int)} (h : wok l) : wokB l = true := by simp [wokB, h]
theorem wokB_false {l : List (List Int)} (h : ¬ wok l) : wokB l = false := by simp [wokB, h]

set_option maxHeartbeats 1000000 in
theorem specWindowOk (l : List (List Int)) (u v : Bool) (hl : l.length ≤ 2 ^ 47) (hr : ∀ r ∈ l, r.length ≤ 2 ^ 47) : ACalls Try.prog 58 [.agg [aL u v l]] (fun r => r = .val (.one (.bool (wokB l)))) := by
  have nt : Try.f58.ntmps = 46 := rfl
  have rs : Try.f58.results = #[.tmp 2] := rfl
  refine ACalls.of_run (m := 400) mixed Try.func58 rfl rfl (Nat.le_of_ble_eq_true rfl) ?_
  simp only [nt, rs]
  clear nt rs
  (try refine am (h := ?_)); (try exact True.intro)
  repeat' (first | (with_reducible refine And.intro ?_ ?_) | intro _)
  all_goals try (first | omega | rfl)
  · refine FinK.val1 ?_ ?_
    all_goals (try refine amF (h := ?_))
    all_goals (try exact True.intro)
    exact (wokB_false (fun h => by have := h.1; omega)).symm
  · rename_i h8
    refine LoopK.intro (Nat) (fun i => [(3, .one (.av (.int .i64 i)))]) (fun i => []) [1] [1] 50 (fun i => i ≤ l.length ∧ ∀ r, r < i → rok r (l.getD r [])) (fun i => l.length - i) (0) ?_ ?_ ?_
    · exact ⟨Nat.zero_le _, fun r hr => by omega⟩
    · refine Le.of [(1, 1)] [] rfl rfl rfl rfl ?_ ?_ ?_
      all_goals (try refine amL (h := ?_))
      all_goals (try exact True.intro)
    · rintro i ⟨hi, hok⟩
      (try refine am (h := ?_)); (try exact True.intro)
      repeat' (first | (with_reducible refine And.intro ?_ ?_) | intro _)
      all_goals try (first | omega | rfl)
      · have hlt : i < l.length := by assumption
        have hm : (l.getD i []).length ≤ 2 ^ 47 := hr _ (getD_mem hlt)
        refine CallK.one (l1In _ _ _) (fun _ => amC) ?_
        (try refine am (h := ?_)); (try exact True.intro)
        repeat' (first | (with_reducible refine And.intro ?_ ?_) | intro _)
        all_goals try (first | omega | rfl)
        · refine FinK.val1 ?_ ?_
          all_goals (try refine amF (h := ?_))
          all_goals (try exact True.intro)
          rename_i h2
          exact (wokB_false (fun h => h2 (by have := (h.2 i hlt).1; omega))).symm
        · rename_i h2 h3
          refine LoopK.intro (Nat) (fun j => [(4, .one (.av (.int .i64 j)))]) (fun j => []) [1, 3] [1] 50 (fun j => j ≤ (l.getD i []).length ∧ ∀ k, k < j → 0 ≤ (l.getD i []).getD k 0 ∧ (l.getD i []).getD k 0 ≤ 2 ^ i) (fun j => (l.getD i []).length - j) (0) ?_ ?_ ?_
          · exact ⟨Nat.zero_le _, fun r hr => by omega⟩
          · refine Le.of [(1, 1)] [] rfl rfl rfl rfl ?_ ?_ ?_
            all_goals (try refine amL (h := ?_))
            all_goals (try exact True.intro)
          · rintro j ⟨hj, hok2⟩
            (try refine am (h := ?_)); (try exact True.intro)
            repeat' (first | (with_reducible refine And.intro ?_ ?_) | intro _)
            all_goals try (first | omega | rfl)
            · have hlt2 : j < (l.getD i []).length := by assumption
              refine CallE.one (l16Power _ (by omega)) (fun _ => amC) rfl ?_
              (try refine am (h := ?_)); (try exact True.intro)
              refine CallE.one (l1In _ _ _) (fun _ => amC) rfl ?_
              (try refine am (h := ?_)); (try exact True.intro)
              repeat' (first | (with_reducible refine And.intro ?_ ?_) | intro _)
              all_goals try (first | omega | rfl)
              · refine FinK.val1 ?_ ?_
                all_goals (try refine amF (h := ?_))
                all_goals (try exact True.intro)
                rename_i h4
                exact (wokB_false (fun h => h4 ((h.2 i hlt).2 j hlt2))).symm
              · rename_i h4 h5
                refine ⟨j + 1, ?_, ⟨by omega, fun k hk => ?_⟩, by omega⟩
                · refine Le.of [(1, 1)] [] rfl rfl rfl rfl ?_ ?_ ?_
                  all_goals (try refine amL (h := ?_))
                  all_goals (try exact True.intro)
                · by_cases e : k = j
                  · subst e; assumption
                  · exact hok2 k (by omega)
            · refine ⟨i + 1, ?_, ⟨by omega, fun r hr => ?_⟩, by omega⟩
              · refine Le.of [(1, 1)] [] rfl rfl rfl rfl ?_ ?_ ?_
                all_goals (try refine amL (h := ?_))
                all_goals (try exact True.intro)
              · by_cases e : r = i
                · subst e; exact ⟨⟨by omega, by omega⟩, fun k hk => hok2 k (by omega)⟩
                · exact hok r (by omega)
      · refine FinK.val1 ?_ ?_
        all_goals (try refine amF (h := ?_))
        all_goals (try exact True.intro)
        exact (wokB_true ⟨by omega, fun r hr => hok r (by omega)⟩).symm
end Go.AM
namespace Go.AM
open Go Go.Proofs
set_option maxRecDepth 100000
/-- The first place where p holds. -/
def fidx (p : Int → Bool) : List Int → Int → Int
  | [], _ => -1
  | x :: l, i => if p x = true then i else fidx p l (i + 1)
theorem fidx_any (p : Int → Bool) : ∀ (l : List Int) (i : Int), 0 ≤ i → decide (0 ≤ fidx p l i) = l.any p
  | [], i, h => by simp [fidx]
  | x :: l, i, h => by
    have ih := fidx_any p l (i + 1) (by omega)
    by_cases hx : p x = true
    · simp [fidx, hx, h]
    · have hx' : p x = false := by simpa using hx
      simp only [fidx, List.any_cons, hx', Bool.false_or]
      exact ih
theorem drop_cons {α : Type} {d : α} {l : List α} {i : Nat} (h : i < l.length) : l.drop i = l.getD i d :: l.drop (i + 1) := by
  rw [List.drop_eq_getElem_cons h]
  simp [List.getD, h]

set_option maxHeartbeats 1000000 in
theorem indexFunc1 (l : List Int) (u : Bool) (nl : Option Bool) (f : FuncId) (g : Nat → AV) (p : Int → Bool) (hl : l.length ≤ 2 ^ 47) (hf : ∀ x ∈ l, ACalls Try.prog f [.one (.int .i64 x), .one (g 0)] (fun r => r = .val (.one (.bool (p x))))) :
    ACalls Try.prog 114 [.one (.sl u nl 1 l.length (fI l)), .one (.fn (.func f) 1 g)] (fun r => r = .val (.one (.int .i64 (fidx p l 0)))) := by
  have nt : Try.f114.ntmps = 19 := rfl
  have rs : Try.f114.results = #[.tmp 4] := rfl
  refine ACalls.of_run (m := 400) mixed Try.func114 rfl rfl (Nat.le_of_ble_eq_true rfl) ?_
  simp only [nt, rs]
  clear nt rs
  (try refine am (h := ?_)); (try exact True.intro)
  refine LoopK.intro (Nat) (fun i => [(8, .one (.av (.int .i64 i)))]) (fun i => []) [0, 1, 7] [] 50 (fun i => i ≤ l.length ∧ fidx p l 0 = fidx p (l.drop i) i) (fun i => l.length - i) (0) ?_ ?_ ?_
  · exact ⟨Nat.zero_le _, by simp⟩
  · refine Le.of [] [] rfl rfl rfl rfl ?_ ?_ ?_
    all_goals (try refine amL (h := ?_))
    all_goals (try exact True.intro)
  · rintro i ⟨hi, hs⟩
    (try refine am (h := ?_)); (try exact True.intro)
    repeat' (first | (with_reducible refine And.intro ?_ ?_) | intro _)
    all_goals try (first | omega | rfl)
    · have hlt : i < l.length := by assumption
      refine CallK.one (hf _ (getD_mem hlt)) (fun _ => amC) ?_
      (try refine am (h := ?_)); (try exact True.intro)
      rw [drop_cons (d := 0) hlt] at hs
      simp only [fidx] at hs
      repeat' (first | (with_reducible refine And.intro ?_ ?_) | intro _)
      all_goals try (first | omega | rfl)
      · refine FinK.val1 ?_ ?_
        all_goals (try refine amF (h := ?_))
        all_goals (try exact True.intro)
        have hp : p (l.getD i 0) = true := by assumption
        rw [hp] at hs
        exact hs.symm
      · have hp : p (l.getD i 0) = false := by assumption
        rw [hp] at hs
        refine ⟨i + 1, ?_, ⟨by omega, hs⟩, by omega⟩
        refine Le.of [] [] rfl rfl rfl rfl ?_ ?_ ?_
        all_goals (try refine amL (h := ?_))
        all_goals (try exact True.intro)
    · refine FinK.val1 ?_ ?_
      all_goals (try refine amF (h := ?_))
      all_goals (try exact True.intro)
      have : i = l.length := by omega
      subst this
      rw [List.drop_length] at hs
      exact hs.symm

set_option maxHeartbeats 1000000 in
theorem containsFunc1 (l : List Int) (u : Bool) (nl : Option Bool) (f : FuncId) (g : Nat → AV) (p : Int → Bool) (hl : l.length ≤ 2 ^ 47) (hf : ∀ x ∈ l, ACalls Try.prog f [.one (.int .i64 x), .one (g 0)] (fun r => r = .val (.one (.bool (p x))))) :
    ACalls Try.prog 83 [.one (.sl u nl 1 l.length (fI l)), .one (.fn (.func f) 1 g)] (fun r => r = .val (.one (.bool (l.any p)))) := by
  have nt : Try.f83.ntmps = 9 := rfl
  have rs : Try.f83.results = #[.tmp 4] := rfl
  refine ACalls.of_run (m := 400) mixed Try.func83 rfl rfl (Nat.le_of_ble_eq_true rfl) ?_
  simp only [nt, rs]
  clear nt rs
  (try refine am (h := ?_)); (try exact True.intro)
  refine CallK.one (indexFunc1 l _ _ f _ p hl (fun x hx => hf x hx)) (fun _ => amC) ?_
  (try refine am (h := ?_)); (try exact True.intro)
  refine FinK.val1 ?_ ?_
  all_goals (try refine amF (h := ?_))
  all_goals (try exact True.intro)
  exact fidx_any p l 0 (by omega)

set_option maxHeartbeats 1000000 in
theorem windowOk1 (x : Int) (r : Nat) (hr : r ≤ 61) (m : Nat) (hm : 1 ≤ m) (g : Nat → AV) (hg : g 0 = .int .i64 r) :
    ACalls Try.prog 109 [.one (.int .i64 x), .one (.ptr m g)] (fun q => q = .val (.one (.bool (!decide (0 ≤ x ∧ x ≤ 2 ^ r))))) := by
  have hp := pow_bd r (by omega)
  have nt : Try.f109.ntmps = 9 := rfl
  have rs : Try.f109.results = #[.tmp 3] := rfl
  refine ACalls.of_run (m := 400) mixed Try.func109 rfl rfl (Nat.le_of_ble_eq_true rfl) ?_
  simp only [nt, rs]
  clear nt rs
  (try refine am (h := ?_)); (try exact True.intro)
  (try refine am (h := ?_)); (try simp only [hg]); (try refine am (h := ?_)); (try exact True.intro)
  repeat' (first | (with_reducible refine And.intro ?_ ?_) | intro _)
  all_goals try (first | omega | rfl)
  refine CallK.one (within _ _ _) (fun _ => amC) ?_
  (try refine am (h := ?_)); (try exact True.intro)
  refine FinK.val1 ?_ ?_
  all_goals (try refine amF (h := ?_))
  all_goals (try exact True.intro)

theorem rok_iff (i : Nat) (l : List Int) : rok i l ↔ (1 ≤ l.length ∧ l.length ≤ 3) ∧ (l.any fun x => !decide (0 ≤ x ∧ x ≤ 2 ^ i)) = false := by
  constructor
  · rintro ⟨h1, h2⟩
    refine ⟨h1, ?_⟩
    rw [List.any_eq_false]
    intro x hx
    obtain ⟨k, hk, rfl⟩ := List.getElem_of_mem hx
    have := h2 k hk
    have e : l.getD k 0 = l[k] := by simp [List.getD, hk]
    rw [e] at this
    simp [this]
  · rintro ⟨h1, h2⟩
    refine ⟨h1, fun k hk => ?_⟩
    rw [List.any_eq_false] at h2
    have := h2 _ (getD_mem (d := 0) hk)
    simpa using this

set_option maxHeartbeats 1000000 in
theorem implWindowOk (l : List (List Int)) (u v : Bool) (hl : l.length ≤ 2 ^ 47) (hr : ∀ r ∈ l, r.length ≤ 2 ^ 47) : ACalls Try.prog 59 [.agg [aL u v l]] (fun r => r = .val (.one (.bool (wokB l)))) := by
  have nt : Try.f59.ntmps = 27 := rfl
  have rs : Try.f59.results = #[.tmp 2] := rfl
  refine ACalls.of_run (m := 400) mixed Try.func59 rfl rfl (Nat.le_of_ble_eq_true rfl) ?_
  simp only [nt, rs]
  clear nt rs
  (try refine am (h := ?_)); (try exact True.intro)
  repeat' (first | (with_reducible refine And.intro ?_ ?_) | intro _)
  all_goals try (first | omega | rfl)
  · refine FinK.val1 ?_ ?_
    all_goals (try refine amF (h := ?_))
    all_goals (try exact True.intro)
    exact (wokB_false (fun h => by have := h.1; omega)).symm
  · rename_i h8
    refine LoopK.intro (Nat) (fun i => [(12, .one (.av (.int .i64 i)))]) (fun i => []) [10, 11] [1] 50 (fun i => i ≤ l.length ∧ ∀ r, r < i → rok r (l.getD r [])) (fun i => l.length - i) (0) ?_ ?_ ?_
    · exact ⟨Nat.zero_le _, fun r hr => by omega⟩
    · refine Le.of [(1, 1)] [] rfl rfl rfl rfl ?_ ?_ ?_
      all_goals (try refine amL (h := ?_))
      all_goals (try exact True.intro)
    · rintro i ⟨hi, hok⟩
      (try refine am (h := ?_)); (try exact True.intro)
      repeat' (first | (with_reducible refine And.intro ?_ ?_) | intro _)
      all_goals try (first | omega | rfl)
      · have hlt : i < l.length := by assumption
        have hm : (l.getD i []).length ≤ 2 ^ 47 := hr _ (getD_mem hlt)
        refine CallK.one (within _ _ _) (fun _ => amC) ?_
        (try refine am (h := ?_)); (try exact True.intro)
        repeat' (first | (with_reducible refine And.intro ?_ ?_) | intro _)
        all_goals try (first | omega | rfl)
        refine CallG.one rfl (fun hg => containsFunc1 _ _ _ _ _ (fun x => !decide (0 ≤ x ∧ x ≤ 2 ^ i)) hm (fun x hx => windowOk1 x i (by omega) _ (by omega) _ rfl)) ?_
        (try refine am (h := ?_)); (try exact True.intro)
        repeat' (first | (with_reducible refine And.intro ?_ ?_) | intro _)
        all_goals try (first | omega | rfl)
        · refine FinK.val1 ?_ ?_
          all_goals (try refine amF (h := ?_))
          all_goals (try exact True.intro)
          rename_i hc
          refine (wokB_false (fun h => ?_)).symm
          have h1 := (rok_iff _ _).1 (h.2 i hlt)
          rcases hc with hc | hc
          · exact hc (by omega)
          · rw [h1.2] at hc; cases hc
        · rename_i hc
          refine ⟨i + 1, ?_, ⟨by omega, fun r hr => ?_⟩, by omega⟩
          · refine Le.of [(1, 1)] [] rfl rfl rfl rfl ?_ ?_ ?_
            all_goals (try refine amL (h := ?_))
            all_goals (try exact True.intro)
          · by_cases e : r = i
            · subst e; exact (rok_iff _ _).2 ⟨by omega, hc.2⟩
            · exact hok r (by omega)
      · refine FinK.val1 ?_ ?_
        all_goals (try refine amF (h := ?_))
        all_goals (try exact True.intro)
        exact (wokB_true ⟨by omega, fun r hr => hok r (by omega)⟩).symm

set_option maxHeartbeats 1000000 in
theorem implDetOk (a b : List (List Int)) (u v : Bool) (hl : a.length ≤ 2 ^ 47) (hr : ∀ r ∈ a, r.length ≤ 2 ^ 47) (kl : b.length ≤ 2 ^ 47) (kr : ∀ r ∈ b, r.length ≤ 2 ^ 47) :
    ACalls Try.prog 18 [.agg [aL u v a, aL u v b]] (fun r => r = .val (.one (.bool (wokB a && wokB b)))) := by
  have nt : Try.f18.ntmps = 11 := rfl
  have rs : Try.f18.results = #[.tmp 2] := rfl
  refine ACalls.of_run (m := 400) mixed Try.func18 rfl rfl (Nat.le_of_ble_eq_true rfl) ?_
  simp only [nt, rs]
  clear nt rs
  (try refine am (h := ?_)); (try exact True.intro)
  refine CallK.one (implWindowOk a _ _ hl hr) (fun _ => amC) ?_
  (try refine am (h := ?_)); (try exact True.intro)
  repeat' (first | (with_reducible refine And.intro ?_ ?_) | intro _)
  all_goals try (first | omega | rfl)
  refine CallG.one rfl (fun hg => implWindowOk b _ _ kl kr) ?_
  (try refine am (h := ?_)); (try exact True.intro)
  repeat' (first | (with_reducible refine And.intro ?_ ?_) | intro _)
  all_goals try (first | omega | rfl)
  refine FinK.val1 ?_ ?_
  all_goals (try refine amF (h := ?_))
  all_goals (try exact True.intro)

set_option maxHeartbeats 1000000 in
theorem specDetOk (a b : List (List Int)) (u v : Bool) (hl : a.length ≤ 2 ^ 47) (hr : ∀ r ∈ a, r.length ≤ 2 ^ 47) (kl : b.length ≤ 2 ^ 47) (kr : ∀ r ∈ b, r.length ≤ 2 ^ 47) :
    ACalls Try.prog 16 [.agg [aL u v a, aL u v b]] (fun r => r = .val (.one (.bool (wokB a && wokB b)))) := by
  have nt : Try.f16.ntmps = 11 := rfl
  have rs : Try.f16.results = #[.tmp 2] := rfl
  refine ACalls.of_run (m := 400) mixed Try.func16 rfl rfl (Nat.le_of_ble_eq_true rfl) ?_
  simp only [nt, rs]
  clear nt rs
  (try refine am (h := ?_)); (try exact True.intro)
  refine CallK.one (specWindowOk a _ _ hl hr) (fun _ => amC) ?_
  (try refine am (h := ?_)); (try exact True.intro)
  repeat' (first | (with_reducible refine And.intro ?_ ?_) | intro _)
  all_goals try (first | omega | rfl)
  refine CallG.one rfl (fun hg => specWindowOk b _ _ kl kr) ?_
  (try refine am (h := ?_)); (try exact True.intro)
  repeat' (first | (with_reducible refine And.intro ?_ ?_) | intro _)
  all_goals try (first | omega | rfl)
  refine FinK.val1 ?_ ?_
  all_goals (try refine amF (h := ?_))
  all_goals (try exact True.intro)

theorem sm_mem {α : Type} {f : α → Nat} : ∀ {l : List α} {x : α}, x ∈ l → f x ≤ sm f l
  | y :: l, x, h => by
    rcases List.mem_cons.1 h with rfl | h
    · simp only [sm]; omega
    · have := sm_mem (f := f) h; simp only [sm]; omega
theorem szW_len (l : List (List Int)) : l.length ≤ szW l := by unfold szW; omega
theorem szW_mem {l : List (List Int)} {r : List Int} (h : r ∈ l) : r.length ≤ szW l := by have := sm_mem (f := List.length) h; unfold szW tot; omega

set_option maxHeartbeats 4000000 in
theorem fnExactDetOk (a b : List (List Int)) (u v : Bool) (hl : a.length ≤ 2 ^ 47) (hr : ∀ r ∈ a, r.length ≤ 2 ^ 47) (kl : b.length ≤ 2 ^ 47) (kr : ∀ r ∈ b, r.length ≤ 2 ^ 47) :
    ACalls Try.prog 3 [.agg [aL u v a, aL u v b]] (fun r => r = .val (.one (.bool true))) := by
  have nt : Try.f3.ntmps = 27 := rfl
  have rs : Try.f3.results = #[.tmp 2] := rfl
  refine ACalls.of_run (m := 400) mixed Try.func3 rfl rfl (Nat.le_of_ble_eq_true rfl) ?_
  simp only [nt, rs]
  clear nt rs
  (try refine am (h := ?_)); (try exact True.intro)
  refine CallK.one (szDet a b _ _ _ hl hr kl kr (by omega) (by omega)) (fun _ => amC) ?_
  (try refine am (h := ?_)); (try exact True.intro)
  by_cases hc : (1048576 : Int) < (szW a + szW b : Nat)
  · have e : less 1048576 (szW a + szW b) = -1 := if_pos hc
    (try refine am (h := ?_)); (try simp only [e]); (try refine am (h := ?_)); (try exact True.intro)
    refine FinK.val1 ?_ ?_
    all_goals (try refine amF (h := ?_))
    all_goals (try exact True.intro)
  · have e : less 1048576 (szW a + szW b) = 1048576 - (szW a : Int) - (szW b : Int) := (if_neg hc).trans (by omega)
    (try refine am (h := ?_)); (try simp only [e]); (try refine am (h := ?_)); (try exact True.intro)
    repeat' (first | (with_reducible refine And.intro ?_ ?_) | intro _)
    all_goals try (first | omega | rfl)
    have h1 := szW_len a
    have h2 := szW_len b
    have h3 : ∀ r ∈ a, r.length ≤ 2 ^ 40 := fun r hr => by have := szW_mem hr; omega
    have h4 : ∀ r ∈ b, r.length ≤ 2 ^ 40 := fun r hr => by have := szW_mem hr; omega
    refine CallK.one (toDet a b _ _ (by omega) h3 (by omega) h4) (fun _ => amC) ?_
    (try refine am (h := ?_)); (try exact True.intro)
    refine CallK.one (specDetOk a b _ _ (by omega) hr (by omega) kr) (fun _ => amC) ?_
    (try refine am (h := ?_)); (try exact True.intro)
    refine CallK.one (toDet a b _ _ (by omega) h3 (by omega) h4) (fun _ => amC) ?_
    (try refine am (h := ?_)); (try exact True.intro)
    refine CallK.one (implDetOk a b _ _ (by omega) hr (by omega) kr) (fun _ => amC) ?_
    (try refine am (h := ?_)); (try exact True.intro)
    repeat' (first | (with_reducible refine And.intro ?_ ?_) | intro _)
    all_goals try (first | omega | rfl)
    refine CallE.one (toDet a b _ _ (by omega) h3 (by omega) h4) (fun _ => amC) rfl ?_
    (try refine am (h := ?_)); (try exact True.intro)
    refine CallE.one (eqDet a b a b _ _ _ _ (by omega) hr (by omega) kr) (fun _ => amC) rfl ?_
    (try refine am (h := ?_)); (try exact True.intro)
    repeat' (first | (with_reducible refine And.intro ?_ ?_) | intro _)
    all_goals try (first | omega | rfl)
    refine FinK.val1 ?_ ?_
    all_goals (try refine amF (h := ?_))
    all_goals (try exact True.intro)
end Go.AM
