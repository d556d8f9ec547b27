/- Lemmas for the proof of this claim. -/
import Derived.Test.YtbfpfjfhlfomoaaFam
namespace Go.AM
open Go Go.Proofs
set_option maxRecDepth 100000
set_option maxHeartbeats 4000000 in
theorem l5SameInts (l m : List (Int)) (u u' : Bool) (nl ml : Option Bool) (hl : l.length ≤ 2 ^ 47) : ACalls Try.prog 64 [.one (.sl u nl 1 l.length (fI l)), .one (.sl u' ml 1 m.length (fI m))] (fun r => r = .val (.one (.bool (decide (l = m))))) := by
  have nt : Try.f64.ntmps = 26 := rfl
  have rs : Try.f64.results = #[.tmp 4] := rfl
  refine ACalls.of_run (m := 400) mixed Try.func64 rfl rfl (Nat.le_of_ble_eq_true rfl) ?_
  simp only [nt, rs]
  clear nt rs
  (try refine am (h := ?_)); (try exact True.intro)
  refine ⟨fun h => ?_, fun hlen => ?_⟩
  · refine FinK.val1 ?_ ?_
    all_goals (try refine amF (h := ?_))
    all_goals (try exact True.intro)
    exact (decide_eq_false (fun e => h (by rw [e]))).symm
  refine LoopK.intro (Nat) (fun i => [(5, .one (.av (.int .i64 i)))]) (fun i => []) [0, 1] [] 400 (fun i => i ≤ l.length ∧ ∀ j, j < i → l.getD j 0 = m.getD j 0) (fun i => l.length - i) (0) ?_ ?_ ?_
  · exact ⟨Nat.zero_le _, fun j hj => by omega⟩
  · refine Le.of [] [] rfl rfl rfl rfl ?_ ?_ ?_
    all_goals (try refine amL (h := ?_))
    all_goals (try exact True.intro)
  · intro i hi
    (try refine am (h := ?_)); (try exact True.intro)
    repeat' (first | (with_reducible refine And.intro ?_ ?_) | intro _)
    all_goals try (first | omega | rfl)
    · refine FinK.val1 ?_ ?_
      all_goals (try refine amF (h := ?_))
      all_goals (try exact True.intro)
      rename_i h2
      exact (decide_eq_false (fun e => h2 (by rw [e]))).symm
    · rename_i h2
      refine ⟨i + 1, ?_, ⟨by omega, fun j hj => ?_⟩, by omega⟩
      · refine Le.of [] [] rfl rfl rfl rfl ?_ ?_ ?_
        all_goals (try refine amL (h := ?_))
        all_goals (try exact True.intro)
      · by_cases h3 : j = i
        · rw [h3]; exact h2
        · exact hi.2 j (by omega)
    · refine FinK.val1 ?_ ?_
      all_goals (try refine amF (h := ?_))
      all_goals (try exact True.intro)
      exact (decide_eq_true (getD_ext hlen (fun j hj => hi.2 j (by omega)))).symm
set_option maxHeartbeats 4000000 in
theorem l5SameTexts (l m : List (List UInt8)) (u u' : Bool) (nl ml : Option Bool) (hl : l.length ≤ 2 ^ 47) : ACalls Try.prog 120 [.one (.sl u nl 1 l.length (fS l)), .one (.sl u' ml 1 m.length (fS m))] (fun r => r = .val (.one (.bool (decide (l = m))))) := by
  have nt : Try.f120.ntmps = 26 := rfl
  have rs : Try.f120.results = #[.tmp 4] := rfl
  refine ACalls.of_run (m := 400) mixed Try.func120 rfl rfl (Nat.le_of_ble_eq_true rfl) ?_
  simp only [nt, rs]
  clear nt rs
  (try refine am (h := ?_)); (try exact True.intro)
  refine ⟨fun h => ?_, fun hlen => ?_⟩
  · refine FinK.val1 ?_ ?_
    all_goals (try refine amF (h := ?_))
    all_goals (try exact True.intro)
    exact (decide_eq_false (fun e => h (by rw [e]))).symm
  refine LoopK.intro (Nat) (fun i => [(5, .one (.av (.int .i64 i)))]) (fun i => []) [0, 1] [] 400 (fun i => i ≤ l.length ∧ ∀ j, j < i → l.getD j [] = m.getD j []) (fun i => l.length - i) (0) ?_ ?_ ?_
  · exact ⟨Nat.zero_le _, fun j hj => by omega⟩
  · refine Le.of [] [] rfl rfl rfl rfl ?_ ?_ ?_
    all_goals (try refine amL (h := ?_))
    all_goals (try exact True.intro)
  · intro i hi
    (try refine am (h := ?_)); (try exact True.intro)
    repeat' (first | (with_reducible refine And.intro ?_ ?_) | intro _)
    all_goals try (first | omega | rfl)
    · refine FinK.val1 ?_ ?_
      all_goals (try refine amF (h := ?_))
      all_goals (try exact True.intro)
      rename_i h2
      exact (decide_eq_false (fun e => h2 (by rw [e]))).symm
    · rename_i h2
      refine ⟨i + 1, ?_, ⟨by omega, fun j hj => ?_⟩, by omega⟩
      · refine Le.of [] [] rfl rfl rfl rfl ?_ ?_ ?_
        all_goals (try refine amL (h := ?_))
        all_goals (try exact True.intro)
      · by_cases h3 : j = i
        · rw [h3]; exact h2
        · exact hi.2 j (by omega)
    · refine FinK.val1 ?_ ?_
      all_goals (try refine amF (h := ?_))
      all_goals (try exact True.intro)
      exact (decide_eq_true (getD_ext hlen (fun j hj => hi.2 j (by omega)))).symm
set_option maxHeartbeats 4000000 in
theorem equalInts (l m : List (Int)) (u u' : Bool) (nl ml : Option Bool) (hl : l.length ≤ 2 ^ 47) : ACalls Try.prog 87 [.one (.sl u nl 1 l.length (fI l)), .one (.sl u' ml 1 m.length (fI m))] (fun r => r = .val (.one (.bool (decide (l = m))))) := by
  have nt : Try.f87.ntmps = 26 := rfl
  have rs : Try.f87.results = #[.tmp 4] := rfl
  refine ACalls.of_run (m := 400) mixed Try.func87 rfl rfl (Nat.le_of_ble_eq_true rfl) ?_
  simp only [nt, rs]
  clear nt rs
  (try refine am (h := ?_)); (try exact True.intro)
  refine ⟨fun h => ?_, fun hlen => ?_⟩
  · refine FinK.val1 ?_ ?_
    all_goals (try refine amF (h := ?_))
    all_goals (try exact True.intro)
    exact (decide_eq_false (fun e => h (by rw [e]))).symm
  refine LoopK.intro (Nat) (fun i => [(13, .one (.av (.int .i64 i)))]) (fun i => []) [0, 1, 12] [] 400 (fun i => i ≤ l.length ∧ ∀ j, j < i → l.getD j 0 = m.getD j 0) (fun i => l.length - i) (0) ?_ ?_ ?_
  · exact ⟨Nat.zero_le _, fun j hj => by omega⟩
  · refine Le.of [] [] rfl rfl rfl rfl ?_ ?_ ?_
    all_goals (try refine amL (h := ?_))
    all_goals (try exact True.intro)
  · intro i hi
    (try refine am (h := ?_)); (try exact True.intro)
    repeat' (first | (with_reducible refine And.intro ?_ ?_) | intro _)
    all_goals try (first | omega | rfl)
    · refine FinK.val1 ?_ ?_
      all_goals (try refine amF (h := ?_))
      all_goals (try exact True.intro)
      rename_i h2
      exact (decide_eq_false (fun e => h2 (by rw [e]))).symm
    · rename_i h2
      refine ⟨i + 1, ?_, ⟨by omega, fun j hj => ?_⟩, by omega⟩
      · refine Le.of [] [] rfl rfl rfl rfl ?_ ?_ ?_
        all_goals (try refine amL (h := ?_))
        all_goals (try exact True.intro)
      · by_cases h3 : j = i
        · rw [h3]; exact h2
        · exact hi.2 j (by omega)
    · refine FinK.val1 ?_ ?_
      all_goals (try refine amF (h := ?_))
      all_goals (try exact True.intro)
      exact (decide_eq_true (getD_ext hlen (fun j hj => hi.2 j (by omega)))).symm
set_option maxHeartbeats 4000000 in
theorem equalTexts (l m : List (List UInt8)) (u u' : Bool) (nl ml : Option Bool) (hl : l.length ≤ 2 ^ 47) : ACalls Try.prog 123 [.one (.sl u nl 1 l.length (fS l)), .one (.sl u' ml 1 m.length (fS m))] (fun r => r = .val (.one (.bool (decide (l = m))))) := by
  have nt : Try.f123.ntmps = 26 := rfl
  have rs : Try.f123.results = #[.tmp 4] := rfl
  refine ACalls.of_run (m := 400) mixed Try.func123 rfl rfl (Nat.le_of_ble_eq_true rfl) ?_
  simp only [nt, rs]
  clear nt rs
  (try refine am (h := ?_)); (try exact True.intro)
  refine ⟨fun h => ?_, fun hlen => ?_⟩
  · refine FinK.val1 ?_ ?_
    all_goals (try refine amF (h := ?_))
    all_goals (try exact True.intro)
    exact (decide_eq_false (fun e => h (by rw [e]))).symm
  refine LoopK.intro (Nat) (fun i => [(13, .one (.av (.int .i64 i)))]) (fun i => []) [0, 1, 12] [] 400 (fun i => i ≤ l.length ∧ ∀ j, j < i → l.getD j [] = m.getD j []) (fun i => l.length - i) (0) ?_ ?_ ?_
  · exact ⟨Nat.zero_le _, fun j hj => by omega⟩
  · refine Le.of [] [] rfl rfl rfl rfl ?_ ?_ ?_
    all_goals (try refine amL (h := ?_))
    all_goals (try exact True.intro)
  · intro i hi
    (try refine am (h := ?_)); (try exact True.intro)
    repeat' (first | (with_reducible refine And.intro ?_ ?_) | intro _)
    all_goals try (first | omega | rfl)
    · refine FinK.val1 ?_ ?_
      all_goals (try refine amF (h := ?_))
      all_goals (try exact True.intro)
      rename_i h2
      exact (decide_eq_false (fun e => h2 (by rw [e]))).symm
    · rename_i h2
      refine ⟨i + 1, ?_, ⟨by omega, fun j hj => ?_⟩, by omega⟩
      · refine Le.of [] [] rfl rfl rfl rfl ?_ ?_ ?_
        all_goals (try refine amL (h := ?_))
        all_goals (try exact True.intro)
      · by_cases h3 : j = i
        · rw [h3]; exact h2
        · exact hi.2 j (by omega)
    · refine FinK.val1 ?_ ?_
      all_goals (try refine amF (h := ?_))
      all_goals (try exact True.intro)
      exact (decide_eq_true (getD_ext hlen (fun j hj => hi.2 j (by omega)))).symm
set_option maxHeartbeats 4000000 in
theorem equalPairs (l m : List (DPair)) (u u' : Bool) (nl ml : Option Bool) (hl : l.length ≤ 2 ^ 47) : ACalls Try.prog 68 [.one (.sl u nl 2 l.length (fPair l)), .one (.sl u' ml 2 m.length (fPair m))] (fun r => r = .val (.one (.bool (decide (l = m))))) := by
  have nt : Try.f68.ntmps = 26 := rfl
  have rs : Try.f68.results = #[.tmp 4] := rfl
  refine ACalls.of_run (m := 400) mixed Try.func68 rfl rfl (Nat.le_of_ble_eq_true rfl) ?_
  simp only [nt, rs]
  clear nt rs
  (try refine am (h := ?_)); (try exact True.intro)
  refine ⟨fun h => ?_, fun hlen => ?_⟩
  · refine FinK.val1 ?_ ?_
    all_goals (try refine amF (h := ?_))
    all_goals (try exact True.intro)
    exact (decide_eq_false (fun e => h (by rw [e]))).symm
  refine LoopK.intro (Nat) (fun i => [(13, .one (.av (.int .i64 i)))]) (fun i => []) [0, 1, 12] [] 400 (fun i => i ≤ l.length ∧ ∀ j, j < i → l.getD j default = m.getD j default) (fun i => l.length - i) (0) ?_ ?_ ?_
  · exact ⟨Nat.zero_le _, fun j hj => by omega⟩
  · refine Le.of [] [] rfl rfl rfl rfl ?_ ?_ ?_
    all_goals (try refine amL (h := ?_))
    all_goals (try exact True.intro)
  · intro i hi
    (try refine am (h := ?_)); (try exact True.intro)
    repeat' (first | (with_reducible refine And.intro ?_ ?_) | intro _)
    all_goals try (first | omega | rfl)
    · refine FinK.val1 ?_ ?_
      all_goals (try refine amF (h := ?_))
      all_goals (try exact True.intro)
      rename_i h2
      exact (decide_eq_false (fun e => h2 (by rw [e]; simp))).symm
    · rename_i h2
      refine ⟨i + 1, ?_, ⟨by omega, fun j hj => ?_⟩, by omega⟩
      · refine Le.of [] [] rfl rfl rfl rfl ?_ ?_ ?_
        all_goals (try refine amL (h := ?_))
        all_goals (try exact True.intro)
      · by_cases h3 : j = i
        · rw [h3]
          generalize l.getD i default = x at h2
          generalize m.getD i default = y at h2
          cases x; cases y
          simp_all
        · exact hi.2 j (by omega)
    · refine FinK.val1 ?_ ?_
      all_goals (try refine amF (h := ?_))
      all_goals (try exact True.intro)
      exact (decide_eq_true (getD_ext hlen (fun j hj => hi.2 j (by omega)))).symm
set_option maxHeartbeats 4000000 in
theorem equalFuncInts (l m : List (List (Int))) (u u' v v' : Bool) (nl ml : Option Bool) (f : FuncId) (g : Nat → AV) (hl : l.length ≤ 2 ^ 47) (hf : ∀ x ∈ l, ∀ y, ACalls Try.prog f [.one (aI v x), .one (aI v' y)] (fun r => r = .val (.one (.bool (decide (x = y)))))) : ACalls Try.prog 111 [.one (.sl u nl 1 l.length (fL v l)), .one (.sl u' ml 1 m.length (fL v' m)), .one (.fn (.func f) 0 g)] (fun r => r = .val (.one (.bool (decide (l = m))))) := by
  have nt : Try.f111.ntmps = 32 := rfl
  have rs : Try.f111.results = #[.tmp 6] := rfl
  refine ACalls.of_run (m := 400) mixed Try.func111 rfl rfl (Nat.le_of_ble_eq_true rfl) ?_
  simp only [nt, rs]
  clear nt rs
  (try refine am (h := ?_)); (try exact True.intro)
  refine ⟨fun h => ?_, fun hlen => ?_⟩
  · refine FinK.val1 ?_ ?_
    all_goals (try refine amF (h := ?_))
    all_goals (try exact True.intro)
    exact (decide_eq_false (fun e => h (by rw [e]))).symm
  refine LoopK.intro (Nat) (fun i => [(17, .one (.av (.int .i64 i)))]) (fun i => []) [1, 2, 15, 16] [] 400 (fun i => i ≤ l.length ∧ ∀ j, j < i → l.getD j [] = m.getD j []) (fun i => l.length - i) (0) ?_ ?_ ?_
  · exact ⟨Nat.zero_le _, fun j hj => by omega⟩
  · refine Le.of [] [] rfl rfl rfl rfl ?_ ?_ ?_
    all_goals (try refine amL (h := ?_))
    all_goals (try exact True.intro)
  · intro i hi
    (try refine am (h := ?_)); (try exact True.intro)
    repeat' (first | (with_reducible refine And.intro ?_ ?_) | intro _)
    all_goals try (first | omega | rfl)
    · have hlt : i < l.length := by assumption
      first | refine CallK.one (hf (l.getD i []) (getD_mem hlt) (m.getD i [])) (fun _ => amC) ?_ | refine CallE.one (hf (l.getD i []) (getD_mem hlt) (m.getD i [])) (fun _ => amC) rfl ?_
      (try refine am (h := ?_)); (try exact True.intro)
      repeat' (first | (with_reducible refine And.intro ?_ ?_) | intro _)
      all_goals try (first | omega | rfl)
      · refine FinK.val1 ?_ ?_
        all_goals (try refine amF (h := ?_))
        all_goals (try exact True.intro)
        rename_i h2
        exact (decide_eq_false (fun e => h2 (by rw [e]))).symm
      · rename_i h2
        refine ⟨i + 1, ?_, ⟨by omega, fun j hj => ?_⟩, by omega⟩
        · refine Le.of [] [] rfl rfl rfl rfl ?_ ?_ ?_
          all_goals (try refine amL (h := ?_))
          all_goals (try exact True.intro)
        · by_cases h3 : j = i
          · rw [h3]; exact h2
          · exact hi.2 j (by omega)
    · refine FinK.val1 ?_ ?_
      all_goals (try refine amF (h := ?_))
      all_goals (try exact True.intro)
      exact (decide_eq_true (getD_ext hlen (fun j hj => hi.2 j (by omega)))).symm
set_option maxHeartbeats 4000000 in
theorem equalFuncNode (l m : List (DNode)) (u u' v v' : Bool) (nl ml : Option Bool) (f : FuncId) (g : Nat → AV) (hl : l.length ≤ 2 ^ 47) (hf : ∀ x ∈ l, ∀ y, ACalls Try.prog f [.agg (cNode false v x), .agg (cNode false v' y)] (fun r => r = .val (.one (.bool (decide (x = y)))))) : ACalls Try.prog 100 [.one (.sl u nl 12 l.length (fNode v l)), .one (.sl u' ml 12 m.length (fNode v' m)), .one (.fn (.func f) 0 g)] (fun r => r = .val (.one (.bool (decide (l = m))))) := by
  have nt : Try.f100.ntmps = 32 := rfl
  have rs : Try.f100.results = #[.tmp 6] := rfl
  refine ACalls.of_run (m := 400) mixed Try.func100 rfl rfl (Nat.le_of_ble_eq_true rfl) ?_
  simp only [nt, rs]
  clear nt rs
  (try refine am (h := ?_)); (try exact True.intro)
  refine ⟨fun h => ?_, fun hlen => ?_⟩
  · refine FinK.val1 ?_ ?_
    all_goals (try refine amF (h := ?_))
    all_goals (try exact True.intro)
    exact (decide_eq_false (fun e => h (by rw [e]))).symm
  refine LoopK.intro (Nat) (fun i => [(17, .one (.av (.int .i64 i)))]) (fun i => []) [1, 2, 15, 16] [] 400 (fun i => i ≤ l.length ∧ ∀ j, j < i → l.getD j default = m.getD j default) (fun i => l.length - i) (0) ?_ ?_ ?_
  · exact ⟨Nat.zero_le _, fun j hj => by omega⟩
  · refine Le.of [] [] rfl rfl rfl rfl ?_ ?_ ?_
    all_goals (try refine amL (h := ?_))
    all_goals (try exact True.intro)
  · intro i hi
    (try refine am (h := ?_)); (try exact True.intro)
    repeat' (first | (with_reducible refine And.intro ?_ ?_) | intro _)
    all_goals try (first | omega | rfl)
    · have hlt : i < l.length := by assumption
      first | refine CallK.one (hf (l.getD i default) (getD_mem hlt) (m.getD i default)) (fun _ => amC) ?_ | refine CallE.one (hf (l.getD i default) (getD_mem hlt) (m.getD i default)) (fun _ => amC) rfl ?_
      (try refine am (h := ?_)); (try exact True.intro)
      repeat' (first | (with_reducible refine And.intro ?_ ?_) | intro _)
      all_goals try (first | omega | rfl)
      · refine FinK.val1 ?_ ?_
        all_goals (try refine amF (h := ?_))
        all_goals (try exact True.intro)
        rename_i h2
        exact (decide_eq_false (fun e => h2 (by rw [e]))).symm
      · rename_i h2
        refine ⟨i + 1, ?_, ⟨by omega, fun j hj => ?_⟩, by omega⟩
        · refine Le.of [] [] rfl rfl rfl rfl ?_ ?_ ?_
          all_goals (try refine amL (h := ?_))
          all_goals (try exact True.intro)
        · by_cases h3 : j = i
          · rw [h3]; exact h2
          · exact hi.2 j (by omega)
    · refine FinK.val1 ?_ ?_
      all_goals (try refine amF (h := ?_))
      all_goals (try exact True.intro)
      exact (decide_eq_true (getD_ext hlen (fun j hj => hi.2 j (by omega)))).symm
set_option maxHeartbeats 4000000 in
theorem equalFuncAttr (l m : List (DAttr)) (u u' v v' : Bool) (nl ml : Option Bool) (f : FuncId) (g : Nat → AV) (hl : l.length ≤ 2 ^ 47) (hf : ∀ x ∈ l, ∀ y, ACalls Try.prog f [.agg (cAttr false v x), .agg (cAttr false v' y)] (fun r => r = .val (.one (.bool (decide (x = y)))))) : ACalls Try.prog 124 [.one (.sl u nl 3 l.length (fAttr v l)), .one (.sl u' ml 3 m.length (fAttr v' m)), .one (.fn (.func f) 0 g)] (fun r => r = .val (.one (.bool (decide (l = m))))) := by
  have nt : Try.f124.ntmps = 32 := rfl
  have rs : Try.f124.results = #[.tmp 6] := rfl
  refine ACalls.of_run (m := 400) mixed Try.func124 rfl rfl (Nat.le_of_ble_eq_true rfl) ?_
  simp only [nt, rs]
  clear nt rs
  (try refine am (h := ?_)); (try exact True.intro)
  refine ⟨fun h => ?_, fun hlen => ?_⟩
  · refine FinK.val1 ?_ ?_
    all_goals (try refine amF (h := ?_))
    all_goals (try exact True.intro)
    exact (decide_eq_false (fun e => h (by rw [e]))).symm
  refine LoopK.intro (Nat) (fun i => [(17, .one (.av (.int .i64 i)))]) (fun i => []) [1, 2, 15, 16] [] 400 (fun i => i ≤ l.length ∧ ∀ j, j < i → l.getD j default = m.getD j default) (fun i => l.length - i) (0) ?_ ?_ ?_
  · exact ⟨Nat.zero_le _, fun j hj => by omega⟩
  · refine Le.of [] [] rfl rfl rfl rfl ?_ ?_ ?_
    all_goals (try refine amL (h := ?_))
    all_goals (try exact True.intro)
  · intro i hi
    (try refine am (h := ?_)); (try exact True.intro)
    repeat' (first | (with_reducible refine And.intro ?_ ?_) | intro _)
    all_goals try (first | omega | rfl)
    · have hlt : i < l.length := by assumption
      first | refine CallK.one (hf (l.getD i default) (getD_mem hlt) (m.getD i default)) (fun _ => amC) ?_ | refine CallE.one (hf (l.getD i default) (getD_mem hlt) (m.getD i default)) (fun _ => amC) rfl ?_
      (try refine am (h := ?_)); (try exact True.intro)
      repeat' (first | (with_reducible refine And.intro ?_ ?_) | intro _)
      all_goals try (first | omega | rfl)
      · refine FinK.val1 ?_ ?_
        all_goals (try refine amF (h := ?_))
        all_goals (try exact True.intro)
        rename_i h2
        exact (decide_eq_false (fun e => h2 (by rw [e]))).symm
      · rename_i h2
        refine ⟨i + 1, ?_, ⟨by omega, fun j hj => ?_⟩, by omega⟩
        · refine Le.of [] [] rfl rfl rfl rfl ?_ ?_ ?_
          all_goals (try refine amL (h := ?_))
          all_goals (try exact True.intro)
        · by_cases h3 : j = i
          · rw [h3]; exact h2
          · exact hi.2 j (by omega)
    · refine FinK.val1 ?_ ?_
      all_goals (try refine amF (h := ?_))
      all_goals (try exact True.intro)
      exact (decide_eq_true (getD_ext hlen (fun j hj => hi.2 j (by omega)))).symm
set_option maxHeartbeats 4000000 in
theorem sameLists1 (x y : List Int) (u u' : Bool) (nl ml : Option Bool) (h : x.length ≤ 2 ^ 47) : ACalls Try.prog 112 [.one (.sl u nl 1 x.length (fI x)), .one (.sl u' ml 1 y.length (fI y))] (fun r => r = .val (.one (.bool (decide (x = y))))) := by
  have nt : Try.f112.ntmps = 8 := rfl
  have rs : Try.f112.results = #[.tmp 4] := rfl
  refine ACalls.of_run (m := 400) mixed Try.func112 rfl rfl (Nat.le_of_ble_eq_true rfl) ?_
  simp only [nt, rs]
  clear nt rs
  (try refine am (h := ?_)); (try exact True.intro)
  first | refine CallK.one (equalInts x y _ _ _ _ h) (fun _ => amC) ?_ | refine CallE.one (equalInts x y _ _ _ _ h) (fun _ => amC) rfl ?_
  (try refine am (h := ?_)); (try exact True.intro)
  refine FinK.val1 ?_ ?_
  all_goals (try refine amF (h := ?_))
  all_goals (try exact True.intro)
set_option maxHeartbeats 4000000 in
theorem sameLists (l m : List (List Int)) (u u' v v' : Bool) (nl ml : Option Bool) (h : okL (2 ^ 47) l) : ACalls Try.prog 67 [.one (.sl u nl 1 l.length (fL v l)), .one (.sl u' ml 1 m.length (fL v' m))] (fun r => r = .val (.one (.bool (decide (l = m))))) := by
  have nt : Try.f67.ntmps = 8 := rfl
  have rs : Try.f67.results = #[.tmp 4] := rfl
  refine ACalls.of_run (m := 400) mixed Try.func67 rfl rfl (Nat.le_of_ble_eq_true rfl) ?_
  simp only [nt, rs]
  clear nt rs
  (try refine am (h := ?_)); (try exact True.intro)
  first | refine CallK.one (equalFuncInts l m _ _ _ _ _ _ _ _ h.1 (fun x hx y => sameLists1 x y _ _ _ _ (h.2 x hx).1)) (fun _ => amC) ?_ | refine CallE.one (equalFuncInts l m _ _ _ _ _ _ _ _ h.1 (fun x hx y => sameLists1 x y _ _ _ _ (h.2 x hx).1)) (fun _ => amC) rfl ?_
  (try refine am (h := ?_)); (try exact True.intro)
  refine FinK.val1 ?_ ?_
  all_goals (try refine amF (h := ?_))
  all_goals (try exact True.intro)
set_option maxHeartbeats 4000000 in
theorem implWindowSame (l m : List (List Int)) (u v u' v' : Bool) (h : okL (2 ^ 47) l) : ACalls Try.prog 61 [.agg [aL u v l], .agg [aL u' v' m]] (fun r => r = .val (.one (.bool (decide (l = m))))) := by
  have nt : Try.f61.ntmps = 10 := rfl
  have rs : Try.f61.results = #[.tmp 4] := rfl
  refine ACalls.of_run (m := 400) mixed Try.func61 rfl rfl (Nat.le_of_ble_eq_true rfl) ?_
  simp only [nt, rs]
  clear nt rs
  (try refine am (h := ?_)); (try exact True.intro)
  first | refine CallK.one (sameLists l m _ _ _ _ _ _ h) (fun _ => amC) ?_ | refine CallE.one (sameLists l m _ _ _ _ _ _ h) (fun _ => amC) rfl ?_
  (try refine am (h := ?_)); (try exact True.intro)
  refine FinK.val1 ?_ ?_
  all_goals (try refine amF (h := ?_))
  all_goals (try exact True.intro)
set_option maxHeartbeats 4000000 in
theorem specWindowSame (l m : List (List Int)) (u v u' v' : Bool) (h : okL (2 ^ 47) l) : ACalls Try.prog 60 [.agg [aL u v l], .agg [aL u' v' m]] (fun r => r = .val (.one (.bool (decide (l = m))))) := by
  have hl := h.1
  have nt : Try.f60.ntmps = 32 := rfl
  have rs : Try.f60.results = #[.tmp 4] := rfl
  refine ACalls.of_run (m := 400) mixed Try.func60 rfl rfl (Nat.le_of_ble_eq_true rfl) ?_
  simp only [nt, rs]
  clear nt rs
  (try refine am (h := ?_)); (try exact True.intro)
  refine ⟨fun h => ?_, fun hlen => ?_⟩
  · refine FinK.val1 ?_ ?_
    all_goals (try refine amF (h := ?_))
    all_goals (try exact True.intro)
    exact (decide_eq_false (fun e => h (by rw [e]))).symm
  refine LoopK.intro (Nat) (fun i => [(5, .one (.av (.int .i64 i)))]) (fun i => []) [2, 3] [1, 2] 400 (fun i => i ≤ l.length ∧ ∀ j, j < i → l.getD j [] = m.getD j []) (fun i => l.length - i) (0) ?_ ?_ ?_
  · exact ⟨Nat.zero_le _, fun j hj => by omega⟩
  · refine Le.of [(1, 1), (2, 2)] [] rfl rfl rfl rfl ?_ ?_ ?_
    all_goals (try refine amL (h := ?_))
    all_goals (try exact True.intro)
  · intro i hi
    (try refine am (h := ?_)); (try exact True.intro)
    repeat' (first | (with_reducible refine And.intro ?_ ?_) | intro _)
    all_goals try (first | omega | rfl)
    · have hlt : i < l.length := by assumption
      refine CallE.one (l5SameInts _ _ _ _ _ _ (h.2 _ (getD_mem hlt)).1) (fun _ => amC) rfl ?_
      (try refine am (h := ?_)); (try exact True.intro)
      repeat' (first | (with_reducible refine And.intro ?_ ?_) | intro _)
      all_goals try (first | omega | rfl)
      · refine FinK.val1 ?_ ?_
        all_goals (try refine amF (h := ?_))
        all_goals (try exact True.intro)
        rename_i h2
        exact (decide_eq_false (fun e => h2 (by rw [e]))).symm
      · rename_i h2
        refine ⟨i + 1, ?_, ⟨by omega, fun j hj => ?_⟩, by omega⟩
        · refine Le.of [(1, 1), (2, 2)] [] rfl rfl rfl rfl ?_ ?_ ?_
          all_goals (try refine amL (h := ?_))
          all_goals (try exact True.intro)
        · by_cases h3 : j = i
          · rw [h3]; exact h2
          · exact hi.2 j (by omega)
    · refine FinK.val1 ?_ ?_
      all_goals (try refine amF (h := ?_))
      all_goals (try exact True.intro)
      exact (decide_eq_true (getD_ext hlen (fun j hj => hi.2 j (by omega)))).symm
set_option maxHeartbeats 4000000 in
theorem implDetSame (x y : DDet) (u v u' v' : Bool) (h : okDet (2 ^ 47) x) : ACalls Try.prog 21 [.agg (cDet u v x), .agg (cDet u' v' y)] (fun r => r = .val (.one (.bool (decide (x = y))))) := by
  obtain ⟨x0, x1⟩ := x
  obtain ⟨y0, y1⟩ := y
  have nt : Try.f21.ntmps = 17 := rfl
  have rs : Try.f21.results = #[.tmp 4] := rfl
  refine ACalls.of_run (m := 400) mixed Try.func21 rfl rfl (Nat.le_of_ble_eq_true rfl) ?_
  simp only [nt, rs]
  clear nt rs
  (try refine am (h := ?_)); (try exact True.intro)
  first | refine CallK.one (implWindowSame x0 y0 _ _ _ _ h.1) (fun _ => amC) ?_ | refine CallE.one (implWindowSame x0 y0 _ _ _ _ h.1) (fun _ => amC) rfl ?_
  (try refine am (h := ?_)); (try exact True.intro)
  repeat' (first | (with_reducible refine And.intro ?_ ?_) | intro _)
  all_goals try (first | omega | rfl)
  first | refine CallG.one rfl (fun hg => implWindowSame x1 y1 _ _ _ _ h.2) ?_ | refine CallEG.one rfl rfl (fun hg => implWindowSame x1 y1 _ _ _ _ h.2) ?_
  (try refine am (h := ?_)); (try exact True.intro)
  repeat' (first | (with_reducible refine And.intro ?_ ?_) | intro _)
  all_goals try (first | omega | rfl)
  refine FinK.val1 ?_ ?_
  all_goals (try refine amF (h := ?_))
  all_goals (try exact True.intro)
  (first | rfl | (simp_all; done) | (simp_all [Bool.and_assoc]; done))
set_option maxHeartbeats 4000000 in
theorem specDetSame (x y : DDet) (u v u' v' : Bool) (h : okDet (2 ^ 47) x) : ACalls Try.prog 20 [.agg (cDet u v x), .agg (cDet u' v' y)] (fun r => r = .val (.one (.bool (decide (x = y))))) := by
  obtain ⟨x0, x1⟩ := x
  obtain ⟨y0, y1⟩ := y
  have nt : Try.f20.ntmps = 17 := rfl
  have rs : Try.f20.results = #[.tmp 4] := rfl
  refine ACalls.of_run (m := 400) mixed Try.func20 rfl rfl (Nat.le_of_ble_eq_true rfl) ?_
  simp only [nt, rs]
  clear nt rs
  (try refine am (h := ?_)); (try exact True.intro)
  first | refine CallK.one (specWindowSame x0 y0 _ _ _ _ h.1) (fun _ => amC) ?_ | refine CallE.one (specWindowSame x0 y0 _ _ _ _ h.1) (fun _ => amC) rfl ?_
  (try refine am (h := ?_)); (try exact True.intro)
  repeat' (first | (with_reducible refine And.intro ?_ ?_) | intro _)
  all_goals try (first | omega | rfl)
  first | refine CallG.one rfl (fun hg => specWindowSame x1 y1 _ _ _ _ h.2) ?_ | refine CallEG.one rfl rfl (fun hg => specWindowSame x1 y1 _ _ _ _ h.2) ?_
  (try refine am (h := ?_)); (try exact True.intro)
  repeat' (first | (with_reducible refine And.intro ?_ ?_) | intro _)
  all_goals try (first | omega | rfl)
  refine FinK.val1 ?_ ?_
  all_goals (try refine amF (h := ?_))
  all_goals (try exact True.intro)
  (first | rfl | (simp_all; done) | (simp_all [Bool.and_assoc]; done))
set_option maxHeartbeats 4000000 in
theorem implStatsSame (x y : DStats) (u v u' v' : Bool) (h : okStats (2 ^ 47) x) : ACalls Try.prog 88 [.agg (cStats u v x), .agg (cStats u' v' y)] (fun r => r = .val (.one (.bool (decide (x = y))))) := by
  obtain ⟨x0, x1⟩ := x
  obtain ⟨y0, y1⟩ := y
  have nt : Try.f88.ntmps = 17 := rfl
  have rs : Try.f88.results = #[.tmp 4] := rfl
  refine ACalls.of_run (m := 400) mixed Try.func88 rfl rfl (Nat.le_of_ble_eq_true rfl) ?_
  simp only [nt, rs]
  clear nt rs
  (try refine am (h := ?_)); (try exact True.intro)
  first | refine CallK.one (equalInts x0 y0 _ _ _ _ h.1.1) (fun _ => amC) ?_ | refine CallE.one (equalInts x0 y0 _ _ _ _ h.1.1) (fun _ => amC) rfl ?_
  (try refine am (h := ?_)); (try exact True.intro)
  repeat' (first | (with_reducible refine And.intro ?_ ?_) | intro _)
  all_goals try (first | omega | rfl)
  first | refine CallG.one rfl (fun hg => sameLists x1 y1 _ _ _ _ _ _ h.2) ?_ | refine CallEG.one rfl rfl (fun hg => sameLists x1 y1 _ _ _ _ _ _ h.2) ?_
  (try refine am (h := ?_)); (try exact True.intro)
  repeat' (first | (with_reducible refine And.intro ?_ ?_) | intro _)
  all_goals try (first | omega | rfl)
  refine FinK.val1 ?_ ?_
  all_goals (try refine amF (h := ?_))
  all_goals (try exact True.intro)
  (first | rfl | (simp_all; done) | (simp_all [Bool.and_assoc]; done))
set_option maxHeartbeats 4000000 in
theorem specStatsSame (x y : DStats) (u v u' v' : Bool) (h : okStats (2 ^ 47) x) : ACalls Try.prog 86 [.agg (cStats u v x), .agg (cStats u' v' y)] (fun r => r = .val (.one (.bool (decide (x = y))))) := by
  obtain ⟨x0, l⟩ := x
  obtain ⟨y0, m⟩ := y
  have hl : l.length ≤ 2 ^ 47 := h.2.1
  have nt : Try.f86.ntmps = 40 := rfl
  have rs : Try.f86.results = #[.tmp 4] := rfl
  refine ACalls.of_run (m := 400) mixed Try.func86 rfl rfl (Nat.le_of_ble_eq_true rfl) ?_
  simp only [nt, rs]
  clear nt rs
  (try refine am (h := ?_)); (try exact True.intro)
  first | refine CallK.one (l5SameInts x0 y0 _ _ _ _ h.1.1) (fun _ => amC) ?_ | refine CallE.one (l5SameInts x0 y0 _ _ _ _ h.1.1) (fun _ => amC) rfl ?_
  (try refine am (h := ?_)); (try exact True.intro)
  repeat' (first | (with_reducible refine And.intro ?_ ?_) | intro _)
  all_goals try (first | omega | rfl)
  · refine FinK.val1 ?_ ?_
    all_goals (try refine amF (h := ?_))
    all_goals (try exact True.intro)
    rename_i hh
    exact (decide_eq_false (fun e => by cases e; simp at hh)).symm
  rename_i hh
  obtain ⟨h0, hlen⟩ := hh
  subst h0
  refine LoopK.intro (Nat) (fun i => [(5, .one (.av (.int .i64 i)))]) (fun i => []) [2, 3] [1, 2] 400 (fun i => i ≤ l.length ∧ ∀ j, j < i → l.getD j [] = m.getD j []) (fun i => l.length - i) (0) ?_ ?_ ?_
  · exact ⟨Nat.zero_le _, fun j hj => by omega⟩
  · refine Le.of [(1, 1), (2, 2)] [] rfl rfl rfl rfl ?_ ?_ ?_
    all_goals (try refine amL (h := ?_))
    all_goals (try exact True.intro)
  · intro i hi
    (try refine am (h := ?_)); (try exact True.intro)
    repeat' (first | (with_reducible refine And.intro ?_ ?_) | intro _)
    all_goals try (first | omega | rfl)
    · have hlt : i < l.length := by assumption
      refine CallE.one (l5SameInts _ _ _ _ _ _ (h.2.2 _ (getD_mem hlt)).1) (fun _ => amC) rfl ?_
      (try refine am (h := ?_)); (try exact True.intro)
      repeat' (first | (with_reducible refine And.intro ?_ ?_) | intro _)
      all_goals try (first | omega | rfl)
      · refine FinK.val1 ?_ ?_
        all_goals (try refine amF (h := ?_))
        all_goals (try exact True.intro)
        rename_i h2
        exact (decide_eq_false (fun e => h2 (by cases e; rfl))).symm
      · rename_i h2
        refine ⟨i + 1, ?_, ⟨by omega, fun j hj => ?_⟩, by omega⟩
        · refine Le.of [(1, 1), (2, 2)] [] rfl rfl rfl rfl ?_ ?_ ?_
          all_goals (try refine amL (h := ?_))
          all_goals (try exact True.intro)
        · by_cases h3 : j = i
          · rw [h3]; exact h2
          · exact hi.2 j (by omega)
    · refine FinK.val1 ?_ ?_
      all_goals (try refine amF (h := ?_))
      all_goals (try exact True.intro)
      have e : l = m := getD_ext hlen (fun j hj => hi.2 j (by omega))
      subst e
      simp
set_option maxHeartbeats 4000000 in
theorem implNodeSame (x y : DNode) (u v u' v' : Bool) (h : okNode (2 ^ 47) x) : ACalls Try.prog 35 [.agg (cNode u v x), .agg (cNode u' v' y)] (fun r => r = .val (.one (.bool (decide (x = y))))) := by
  obtain ⟨x0, ⟨x1, x1'⟩, x2, x3, x4, x5, x6, x7, x8, x9⟩ := x
  obtain ⟨y0, ⟨y1, y1'⟩, y2, y3, y4, y5, y6, y7, y8, y9⟩ := y
  have nt : Try.f35.ntmps = 73 := rfl
  have rs : Try.f35.results = #[.tmp 4] := rfl
  refine ACalls.of_run (m := 400) mixed Try.func35 rfl rfl (Nat.le_of_ble_eq_true rfl) ?_
  simp only [nt, rs]
  clear nt rs
  (try refine am (h := ?_)); (try exact True.intro)
  repeat' (first | (with_reducible refine And.intro ?_ ?_) | intro _)
  all_goals try (first | omega | rfl)
  first | refine CallG.one rfl (fun hg => equalInts x2 y2 _ _ _ _ h.2.2.1.1) ?_ | refine CallEG.one rfl rfl (fun hg => equalInts x2 y2 _ _ _ _ h.2.2.1.1) ?_
  (try refine am (h := ?_)); (try exact True.intro)
  repeat' (first | (with_reducible refine And.intro ?_ ?_) | intro _)
  all_goals try (first | omega | rfl)
  first | refine CallG.one rfl (fun hg => implStatsSame x4 y4 _ _ _ _ h.2.2.2.2.1) ?_ | refine CallEG.one rfl rfl (fun hg => implStatsSame x4 y4 _ _ _ _ h.2.2.2.2.1) ?_
  (try refine am (h := ?_)); (try exact True.intro)
  repeat' (first | (with_reducible refine And.intro ?_ ?_) | intro _)
  all_goals try (first | omega | rfl)
  first | refine CallG.one rfl (fun hg => equalInts x6 y6 _ _ _ _ h.2.2.2.2.2.2.1.1) ?_ | refine CallEG.one rfl rfl (fun hg => equalInts x6 y6 _ _ _ _ h.2.2.2.2.2.2.1.1) ?_
  (try refine am (h := ?_)); (try exact True.intro)
  repeat' (first | (with_reducible refine And.intro ?_ ?_) | intro _)
  all_goals try (first | omega | rfl)
  refine FinK.val1 ?_ ?_
  all_goals (try refine amF (h := ?_))
  all_goals (try exact True.intro)
  (first | rfl | (simp_all; done) | (simp_all [Bool.and_assoc]; done))
set_option maxHeartbeats 4000000 in
theorem specNodeSame (x y : DNode) (u v u' v' : Bool) (h : okNode (2 ^ 47) x) : ACalls Try.prog 34 [.agg (cNode u v x), .agg (cNode u' v' y)] (fun r => r = .val (.one (.bool (decide (x = y))))) := by
  obtain ⟨x0, ⟨x1, x1'⟩, x2, x3, x4, x5, x6, x7, x8, x9⟩ := x
  obtain ⟨y0, ⟨y1, y1'⟩, y2, y3, y4, y5, y6, y7, y8, y9⟩ := y
  have nt : Try.f34.ntmps = 73 := rfl
  have rs : Try.f34.results = #[.tmp 4] := rfl
  refine ACalls.of_run (m := 400) mixed Try.func34 rfl rfl (Nat.le_of_ble_eq_true rfl) ?_
  simp only [nt, rs]
  clear nt rs
  (try refine am (h := ?_)); (try exact True.intro)
  repeat' (first | (with_reducible refine And.intro ?_ ?_) | intro _)
  all_goals try (first | omega | rfl)
  first | refine CallG.one rfl (fun hg => l5SameInts x2 y2 _ _ _ _ h.2.2.1.1) ?_ | refine CallEG.one rfl rfl (fun hg => l5SameInts x2 y2 _ _ _ _ h.2.2.1.1) ?_
  (try refine am (h := ?_)); (try exact True.intro)
  repeat' (first | (with_reducible refine And.intro ?_ ?_) | intro _)
  all_goals try (first | omega | rfl)
  first | refine CallG.one rfl (fun hg => specStatsSame x4 y4 _ _ _ _ h.2.2.2.2.1) ?_ | refine CallEG.one rfl rfl (fun hg => specStatsSame x4 y4 _ _ _ _ h.2.2.2.2.1) ?_
  (try refine am (h := ?_)); (try exact True.intro)
  repeat' (first | (with_reducible refine And.intro ?_ ?_) | intro _)
  all_goals try (first | omega | rfl)
  first | refine CallG.one rfl (fun hg => l5SameInts x6 y6 _ _ _ _ h.2.2.2.2.2.2.1.1) ?_ | refine CallEG.one rfl rfl (fun hg => l5SameInts x6 y6 _ _ _ _ h.2.2.2.2.2.2.1.1) ?_
  (try refine am (h := ?_)); (try exact True.intro)
  repeat' (first | (with_reducible refine And.intro ?_ ?_) | intro _)
  all_goals try (first | omega | rfl)
  refine FinK.val1 ?_ ?_
  all_goals (try refine amF (h := ?_))
  all_goals (try exact True.intro)
  (first | rfl | (simp_all; done) | (simp_all [Bool.and_assoc]; done))
end Go.AM
namespace Go.AM
open Go Go.Proofs
set_option maxRecDepth 100000
set_option maxHeartbeats 4000000 in
theorem implTreeSame (x y : DTree) (u v u' v' : Bool) (h : okTree (2 ^ 47) x) : ACalls Try.prog 52 [.agg (cTree u v x), .agg (cTree u' v' y)] (fun r => r = .val (.one (.bool (decide (x = y))))) := by
  obtain ⟨x0, x1⟩ := x
  obtain ⟨y0, y1⟩ := y
  have nt : Try.f52.ntmps = 17 := rfl
  have rs : Try.f52.results = #[.tmp 4] := rfl
  refine ACalls.of_run (m := 400) mixed Try.func52 rfl rfl (Nat.le_of_ble_eq_true rfl) ?_
  simp only [nt, rs]
  clear nt rs
  (try refine am (h := ?_)); (try exact True.intro)
  repeat' (first | (with_reducible refine And.intro ?_ ?_) | intro _)
  all_goals try (first | omega | rfl | assumption | exact And.left (by assumption) | exact And.right (by assumption) | exact And.left (And.right (by assumption)))
  first | refine CallG.one rfl (fun hg => equalFuncNode x0 y0 _ _ _ _ _ _ _ _ h.1.1 (fun a ha b => implNodeSame a b _ _ _ _ (h.1.2 a ha))) ?_ | refine CallEG.one rfl rfl (fun hg => equalFuncNode x0 y0 _ _ _ _ _ _ _ _ h.1.1 (fun a ha b => implNodeSame a b _ _ _ _ (h.1.2 a ha))) ?_
  (try refine am (h := ?_)); (try exact True.intro)
  repeat' (first | (with_reducible refine And.intro ?_ ?_) | intro _)
  all_goals try (first | omega | rfl | assumption | exact And.left (by assumption) | exact And.right (by assumption) | exact And.left (And.right (by assumption)))
  refine FinK.val1 ?_ ?_
  all_goals (try refine amF (h := ?_))
  all_goals (try exact True.intro)
  (first | rfl | (simp_all; done) | (simp_all [Bool.and_assoc]; done) | (simp_all [Bool.and_comm]; done))
set_option maxHeartbeats 4000000 in
theorem specTreeSame (x y : DTree) (u v u' v' : Bool) (h : okTree (2 ^ 47) x) : ACalls Try.prog 51 [.agg (cTree u v x), .agg (cTree u' v' y)] (fun r => r = .val (.one (.bool (decide (x = y))))) := by
  obtain ⟨l, x1⟩ := x
  obtain ⟨m, y1⟩ := y
  have hl : l.length ≤ 2 ^ 47 := h.1.1
  have nt : Try.f51.ntmps = 39 := rfl
  have rs : Try.f51.results = #[.tmp 4] := rfl
  refine ACalls.of_run (m := 400) mixed Try.func51 rfl rfl (Nat.le_of_ble_eq_true rfl) ?_
  simp only [nt, rs]
  clear nt rs
  (try refine am (h := ?_)); (try exact True.intro)
  repeat' (first | (with_reducible refine And.intro ?_ ?_) | intro _)
  all_goals try (first | omega | rfl | assumption | exact And.left (by assumption) | exact And.right (by assumption) | exact And.left (And.right (by assumption)))
  · refine FinK.val1 ?_ ?_
    all_goals (try refine amF (h := ?_))
    all_goals (try exact True.intro)
    rename_i hh
    exact (decide_eq_false (fun e => by cases e; simp at hh)).symm
  rename_i hh
  obtain ⟨hlen, h0⟩ := hh
  have hlen : l.length = m.length := by omega
  have h0 : x1 = y1 := h0
  subst h0
  refine LoopK.intro (Nat) (fun i => [(5, .one (.av (.int .i64 i)))]) (fun i => []) [2, 3] [1, 2] 400 (fun i => i ≤ l.length ∧ ∀ j, j < i → l.getD j default = m.getD j default) (fun i => l.length - i) (0) ?_ ?_ ?_
  · exact ⟨Nat.zero_le _, fun j hj => by omega⟩
  · refine Le.of [(1, 1), (2, 2)] [] rfl rfl rfl rfl ?_ ?_ ?_
    all_goals (try refine amL (h := ?_))
    all_goals (try exact True.intro)
  · intro i hi
    (try refine am (h := ?_)); (try exact True.intro)
    repeat' (first | (with_reducible refine And.intro ?_ ?_) | intro _)
    all_goals try (first | omega | rfl | assumption | exact And.left (by assumption) | exact And.right (by assumption) | exact And.left (And.right (by assumption)))
    · have hlt : i < l.length := by assumption
      refine CallE.one (specNodeSame (l.getD i default) (m.getD i default) _ _ _ _ (h.1.2 _ (getD_mem hlt))) (fun _ => amC) rfl ?_
      (try refine am (h := ?_)); (try exact True.intro)
      repeat' (first | (with_reducible refine And.intro ?_ ?_) | intro _)
      all_goals try (first | omega | rfl | assumption | exact And.left (by assumption) | exact And.right (by assumption) | exact And.left (And.right (by assumption)))
      · refine FinK.val1 ?_ ?_
        all_goals (try refine amF (h := ?_))
        all_goals (try exact True.intro)
        rename_i h2
        exact (decide_eq_false (fun e => h2 (by cases e; rfl))).symm
      · rename_i h2
        refine ⟨i + 1, ?_, ⟨by omega, fun j hj => ?_⟩, by omega⟩
        · refine Le.of [(1, 1), (2, 2)] [] rfl rfl rfl rfl ?_ ?_ ?_
          all_goals (try refine amL (h := ?_))
          all_goals (try exact True.intro)
        · by_cases h3 : j = i
          · rw [h3]; exact h2
          · exact hi.2 j (by omega)
    · refine FinK.val1 ?_ ?_
      all_goals (try refine amF (h := ?_))
      all_goals (try exact True.intro)
      have e : l = m := getD_ext hlen (fun j hj => hi.2 j (by omega))
      subst e
      simp
set_option maxHeartbeats 4000000 in
theorem implScoreSame (x y : DScore) (u v u' v' : Bool) (h : okScore (2 ^ 47) x) : ACalls Try.prog 25 [.agg (cScore u v x), .agg (cScore u' v' y)] (fun r => r = .val (.one (.bool (decide (x = y))))) := by
  obtain ⟨x0, x1⟩ := x
  obtain ⟨y0, y1⟩ := y
  have nt : Try.f25.ntmps = 17 := rfl
  have rs : Try.f25.results = #[.tmp 4] := rfl
  refine ACalls.of_run (m := 400) mixed Try.func25 rfl rfl (Nat.le_of_ble_eq_true rfl) ?_
  simp only [nt, rs]
  clear nt rs
  (try refine am (h := ?_)); (try exact True.intro)
  first | refine CallK.one (sameLists x0 y0 _ _ _ _ _ _ h.1) (fun _ => amC) ?_ | refine CallE.one (sameLists x0 y0 _ _ _ _ _ _ h.1) (fun _ => amC) rfl ?_
  (try refine am (h := ?_)); (try exact True.intro)
  repeat' (first | (with_reducible refine And.intro ?_ ?_) | intro _)
  all_goals try (first | omega | rfl | assumption | exact And.left (by assumption) | exact And.right (by assumption) | exact And.left (And.right (by assumption)))
  first | refine CallG.one rfl (fun hg => equalPairs x1 y1 _ _ _ _ h.2.1) ?_ | refine CallEG.one rfl rfl (fun hg => equalPairs x1 y1 _ _ _ _ h.2.1) ?_
  (try refine am (h := ?_)); (try exact True.intro)
  repeat' (first | (with_reducible refine And.intro ?_ ?_) | intro _)
  all_goals try (first | omega | rfl | assumption | exact And.left (by assumption) | exact And.right (by assumption) | exact And.left (And.right (by assumption)))
  refine FinK.val1 ?_ ?_
  all_goals (try refine amF (h := ?_))
  all_goals (try exact True.intro)
  (first | rfl | (simp_all; done) | (simp_all [Bool.and_assoc]; done) | (simp_all [Bool.and_comm]; done))
set_option maxHeartbeats 4000000 in
theorem specScoreSame (x y : DScore) (u v u' v' : Bool) (h : okScore (2 ^ 47) x) : ACalls Try.prog 23 [.agg (cScore u v x), .agg (cScore u' v' y)] (fun r => r = .val (.one (.bool (decide (x = y))))) := by
  obtain ⟨l, l2⟩ := x
  obtain ⟨m, m2⟩ := y
  have hl : l.length ≤ 2 ^ 47 := h.1.1
  have hl2 : l2.length ≤ 2 ^ 47 := h.2.1
  have nt : Try.f23.ntmps = 60 := rfl
  have rs : Try.f23.results = #[.tmp 4] := rfl
  refine ACalls.of_run (m := 400) mixed Try.func23 rfl rfl (Nat.le_of_ble_eq_true rfl) ?_
  simp only [nt, rs]
  clear nt rs
  (try refine am (h := ?_)); (try exact True.intro)
  repeat' (first | (with_reducible refine And.intro ?_ ?_) | intro _)
  all_goals try (first | omega | rfl | assumption | exact And.left (by assumption) | exact And.right (by assumption) | exact And.left (And.right (by assumption)))
  · refine FinK.val1 ?_ ?_
    all_goals (try refine amF (h := ?_))
    all_goals (try exact True.intro)
    rename_i hh
    exact (decide_eq_false (fun e => by cases e; simp at hh)).symm
  rename_i hh
  obtain ⟨hlen, hlen2⟩ := hh
  have hlen : l.length = m.length := by omega
  have hlen2 : l2.length = m2.length := by omega
  refine LoopK.intro (Nat) (fun i => [(5, .one (.av (.int .i64 i)))]) (fun i => []) [2, 3] [1, 2] 400 (fun i => i ≤ l.length ∧ ∀ j, j < i → l.getD j [] = m.getD j []) (fun i => l.length - i) (0) ?_ ?_ ?_
  · exact ⟨Nat.zero_le _, fun j hj => by omega⟩
  · refine Le.of [(1, 1), (2, 2)] [] rfl rfl rfl rfl ?_ ?_ ?_
    all_goals (try refine amL (h := ?_))
    all_goals (try exact True.intro)
  · intro i hi
    (try refine am (h := ?_)); (try exact True.intro)
    repeat' (first | (with_reducible refine And.intro ?_ ?_) | intro _)
    all_goals try (first | omega | rfl | assumption | exact And.left (by assumption) | exact And.right (by assumption) | exact And.left (And.right (by assumption)))
    · have hlt : i < l.length := by assumption
      refine CallE.one (l5SameInts _ _ _ _ _ _ (h.1.2 _ (getD_mem hlt)).1) (fun _ => amC) rfl ?_
      (try refine am (h := ?_)); (try exact True.intro)
      repeat' (first | (with_reducible refine And.intro ?_ ?_) | intro _)
      all_goals try (first | omega | rfl | assumption | exact And.left (by assumption) | exact And.right (by assumption) | exact And.left (And.right (by assumption)))
      · refine FinK.val1 ?_ ?_
        all_goals (try refine amF (h := ?_))
        all_goals (try exact True.intro)
        rename_i h2
        exact (decide_eq_false (fun e => h2 (by cases e; rfl))).symm
      · rename_i h2
        refine ⟨i + 1, ?_, ⟨by omega, fun j hj => ?_⟩, by omega⟩
        · refine Le.of [(1, 1), (2, 2)] [] rfl rfl rfl rfl ?_ ?_ ?_
          all_goals (try refine amL (h := ?_))
          all_goals (try exact True.intro)
        · by_cases h3 : j = i
          · rw [h3]; exact h2
          · exact hi.2 j (by omega)
    · have e : l = m := getD_ext hlen (fun j hj => hi.2 j (by omega))
      subst e
      refine LoopK.intro (Nat) (fun i => [(6, .one (.av (.int .i64 i)))]) (fun i => []) [2, 3] [1, 2] 400 (fun i => i ≤ l2.length ∧ ∀ j, j < i → l2.getD j default = m2.getD j default) (fun i => l2.length - i) (0) ?_ ?_ ?_
      · exact ⟨Nat.zero_le _, fun j hj => by omega⟩
      · refine Le.of [(1, 1), (2, 2)] [] rfl rfl rfl rfl ?_ ?_ ?_
        all_goals (try refine amL (h := ?_))
        all_goals (try exact True.intro)
      · intro i hi
        (try refine am (h := ?_)); (try exact True.intro)
        repeat' (first | (with_reducible refine And.intro ?_ ?_) | intro _)
        all_goals try (first | omega | rfl | assumption | exact And.left (by assumption) | exact And.right (by assumption) | exact And.left (And.right (by assumption)))
        · refine FinK.val1 ?_ ?_
          all_goals (try refine amF (h := ?_))
          all_goals (try exact True.intro)
          rename_i h2
          exact (decide_eq_false (fun e => by cases e; simp at h2)).symm
        · rename_i h2
          refine ⟨i + 1, ?_, ⟨by omega, fun j hj => ?_⟩, by omega⟩
          · refine Le.of [(1, 1), (2, 2)] [] rfl rfl rfl rfl ?_ ?_ ?_
            all_goals (try refine amL (h := ?_))
            all_goals (try exact True.intro)
          · by_cases h3 : j = i
            · rw [h3]
              generalize l2.getD i default = x at h2
              generalize m2.getD i default = y at h2
              cases x; cases y
              simp_all
            · exact hi.2 j (by omega)
        · refine FinK.val1 ?_ ?_
          all_goals (try refine amF (h := ?_))
          all_goals (try exact True.intro)
          have e : l2 = m2 := getD_ext hlen2 (fun j hj => hi.2 j (by omega))
          subst e
          simp
set_option maxHeartbeats 4000000 in
theorem schemaSame1 (x y : DAttr) (u v u' v' : Bool) (h : okAttr (2 ^ 47) x) : ACalls Try.prog 125 [.agg (cAttr u v x), .agg (cAttr u' v' y)] (fun r => r = .val (.one (.bool (decide (x = y))))) := by
  obtain ⟨x0, x1, x2⟩ := x
  obtain ⟨y0, y1, y2⟩ := y
  have nt : Try.f125.ntmps = 24 := rfl
  have rs : Try.f125.results = #[.tmp 4] := rfl
  refine ACalls.of_run (m := 400) mixed Try.func125 rfl rfl (Nat.le_of_ble_eq_true rfl) ?_
  simp only [nt, rs]
  clear nt rs
  (try refine am (h := ?_)); (try exact True.intro)
  repeat' (first | (with_reducible refine And.intro ?_ ?_) | intro _)
  all_goals try (first | omega | rfl | assumption | exact And.left (by assumption) | exact And.right (by assumption) | exact And.left (And.right (by assumption)))
  first | refine CallG.one rfl (fun hg => equalInts x1 y1 _ _ _ _ h.2.1.1) ?_ | refine CallEG.one rfl rfl (fun hg => equalInts x1 y1 _ _ _ _ h.2.1.1) ?_
  (try refine am (h := ?_)); (try exact True.intro)
  repeat' (first | (with_reducible refine And.intro ?_ ?_) | intro _)
  all_goals try (first | omega | rfl | assumption | exact And.left (by assumption) | exact And.right (by assumption) | exact And.left (And.right (by assumption)))
  first | refine CallG.one rfl (fun hg => equalTexts x2 y2 _ _ _ _ h.2.2.1) ?_ | refine CallEG.one rfl rfl (fun hg => equalTexts x2 y2 _ _ _ _ h.2.2.1) ?_
  (try refine am (h := ?_)); (try exact True.intro)
  repeat' (first | (with_reducible refine And.intro ?_ ?_) | intro _)
  all_goals try (first | omega | rfl | assumption | exact And.left (by assumption) | exact And.right (by assumption) | exact And.left (And.right (by assumption)))
  refine FinK.val1 ?_ ?_
  all_goals (try refine amF (h := ?_))
  all_goals (try exact True.intro)
  (first | rfl | (simp_all; done) | (simp_all [Bool.and_assoc]; done) | (simp_all [Bool.and_comm]; done))
set_option maxHeartbeats 4000000 in
theorem implSchemaSame (x y : DSchema) (u v u' v' : Bool) (h : okSchema (2 ^ 47) x) : ACalls Try.prog 105 [.agg (cSchema u v x), .agg (cSchema u' v' y)] (fun r => r = .val (.one (.bool (decide (x = y))))) := by
  obtain ⟨x0, x1⟩ := x
  obtain ⟨y0, y1⟩ := y
  have nt : Try.f105.ntmps = 17 := rfl
  have rs : Try.f105.results = #[.tmp 4] := rfl
  refine ACalls.of_run (m := 400) mixed Try.func105 rfl rfl (Nat.le_of_ble_eq_true rfl) ?_
  simp only [nt, rs]
  clear nt rs
  (try refine am (h := ?_)); (try exact True.intro)
  first | refine CallK.one (equalTexts x1 y1 _ _ _ _ h.2.1) (fun _ => amC) ?_ | refine CallE.one (equalTexts x1 y1 _ _ _ _ h.2.1) (fun _ => amC) rfl ?_
  (try refine am (h := ?_)); (try exact True.intro)
  repeat' (first | (with_reducible refine And.intro ?_ ?_) | intro _)
  all_goals try (first | omega | rfl | assumption | exact And.left (by assumption) | exact And.right (by assumption) | exact And.left (And.right (by assumption)))
  first | refine CallG.one rfl (fun hg => equalFuncAttr x0 y0 _ _ _ _ _ _ _ _ h.1.1 (fun a ha b => schemaSame1 a b _ _ _ _ (h.1.2 a ha))) ?_ | refine CallEG.one rfl rfl (fun hg => equalFuncAttr x0 y0 _ _ _ _ _ _ _ _ h.1.1 (fun a ha b => schemaSame1 a b _ _ _ _ (h.1.2 a ha))) ?_
  (try refine am (h := ?_)); (try exact True.intro)
  repeat' (first | (with_reducible refine And.intro ?_ ?_) | intro _)
  all_goals try (first | omega | rfl | assumption | exact And.left (by assumption) | exact And.right (by assumption) | exact And.left (And.right (by assumption)))
  refine FinK.val1 ?_ ?_
  all_goals (try refine amF (h := ?_))
  all_goals (try exact True.intro)
  (first | rfl | (simp_all; done) | (simp_all [Bool.and_assoc]; done) | (simp_all [Bool.and_comm]; done))
set_option maxHeartbeats 4000000 in
theorem specSchemaSame (x y : DSchema) (u v u' v' : Bool) (h : okSchema (2 ^ 47) x) : ACalls Try.prog 102 [.agg (cSchema u v x), .agg (cSchema u' v' y)] (fun r => r = .val (.one (.bool (decide (x = y))))) := by
  obtain ⟨l, x1⟩ := x
  obtain ⟨m, y1⟩ := y
  have hl : l.length ≤ 2 ^ 47 := h.1.1
  have nt : Try.f102.ntmps = 73 := rfl
  have rs : Try.f102.results = #[.tmp 4] := rfl
  refine ACalls.of_run (m := 400) mixed Try.func102 rfl rfl (Nat.le_of_ble_eq_true rfl) ?_
  simp only [nt, rs]
  clear nt rs
  (try refine am (h := ?_)); (try exact True.intro)
  first | refine CallG.one rfl (fun hg => l5SameTexts x1 y1 _ _ _ _ h.2.1) ?_ | refine CallEG.one rfl rfl (fun hg => l5SameTexts x1 y1 _ _ _ _ h.2.1) ?_
  (try refine am (h := ?_)); (try exact True.intro)
  repeat' (first | (with_reducible refine And.intro ?_ ?_) | intro _)
  all_goals try (first | omega | rfl | assumption | exact And.left (by assumption) | exact And.right (by assumption) | exact And.left (And.right (by assumption)))
  · refine FinK.val1 ?_ ?_
    all_goals (try refine amF (h := ?_))
    all_goals (try exact True.intro)
    rename_i hh
    exact (decide_eq_false (fun e => by cases e; simp at hh)).symm
  rename_i hh
  obtain ⟨hlen, h0⟩ := hh
  have hlen : l.length = m.length := by omega
  have h0 : x1 = y1 := by simpa using h0
  subst h0
  refine LoopK.intro (Nat) (fun i => [(5, .one (.av (.int .i64 i)))]) (fun i => []) [2, 3] [1, 2] 400 (fun i => i ≤ l.length ∧ ∀ j, j < i → l.getD j default = m.getD j default) (fun i => l.length - i) (0) ?_ ?_ ?_
  · exact ⟨Nat.zero_le _, fun j hj => by omega⟩
  · refine Le.of [(1, 1), (2, 2)] [] rfl rfl rfl rfl ?_ ?_ ?_
    all_goals (try refine amL (h := ?_))
    all_goals (try exact True.intro)
  · intro i hi
    (try refine am (h := ?_)); (try exact True.intro)
    repeat' (first | (with_reducible refine And.intro ?_ ?_) | intro _)
    all_goals try (first | omega | rfl | assumption | exact And.left (by assumption) | exact And.right (by assumption) | exact And.left (And.right (by assumption)))
    · have hlt : i < l.length := by assumption
      have hx := h.1.2 _ (getD_mem (d := default) hlt)
      refine CallEG.one rfl rfl (fun hg => l5SameInts (l.getD i default).cuts (m.getD i default).cuts _ _ _ _ hx.2.1.1) ?_
      (try refine am (h := ?_)); (try exact True.intro)
      repeat' (first | (with_reducible refine And.intro ?_ ?_) | intro _)
      all_goals try (first | omega | rfl | assumption | exact And.left (by assumption) | exact And.right (by assumption) | exact And.left (And.right (by assumption)))
      refine CallEG.one rfl rfl (fun hg => l5SameTexts (l.getD i default).values (m.getD i default).values _ _ _ _ hx.2.2.1) ?_
      (try refine am (h := ?_)); (try exact True.intro)
      repeat' (first | (with_reducible refine And.intro ?_ ?_) | intro _)
      all_goals try (first | omega | rfl | assumption | exact And.left (by assumption) | exact And.right (by assumption) | exact And.left (And.right (by assumption)))
      · refine FinK.val1 ?_ ?_
        all_goals (try refine amF (h := ?_))
        all_goals (try exact True.intro)
        rename_i h2
        exact (decide_eq_false (fun e => by cases e; simp at h2)).symm
      · rename_i h2
        refine ⟨i + 1, ?_, ⟨by omega, fun j hj => ?_⟩, by omega⟩
        · refine Le.of [(1, 1), (2, 2)] [] rfl rfl rfl rfl ?_ ?_ ?_
          all_goals (try refine amL (h := ?_))
          all_goals (try exact True.intro)
        · by_cases h3 : j = i
          · rw [h3]
            generalize l.getD i default = x at h2
            generalize m.getD i default = y at h2
            cases x; cases y
            simp_all
          · exact hi.2 j (by omega)
    · refine FinK.val1 ?_ ?_
      all_goals (try refine amF (h := ?_))
      all_goals (try exact True.intro)
      have e : l = m := getD_ext hlen (fun j hj => hi.2 j (by omega))
      subst e
      simp
set_option maxHeartbeats 4000000 in
theorem implConfSame (x y : DConf) (u v u' v' : Bool) (h : okConf (2 ^ 47) x) : ACalls Try.prog 56 [.agg (cConf u v x), .agg (cConf u' v' y)] (fun r => r = .val (.one (.bool (decide (x = y))))) := by
  obtain ⟨x0, ⟨a0, a1, a2, a3, a4, a5, a6⟩, x2, x3, x4, x5, x6⟩ := x
  obtain ⟨y0, ⟨b0, b1, b2, b3, b4, b5, b6⟩, y2, y3, y4, y5, y6⟩ := y
  have nt : Try.f56.ntmps = 52 := rfl
  have rs : Try.f56.results = #[.tmp 4] := rfl
  refine ACalls.of_run (m := 400) mixed Try.func56 rfl rfl (Nat.le_of_ble_eq_true rfl) ?_
  simp only [nt, rs]
  clear nt rs
  (try refine am (h := ?_)); (try exact True.intro)
  first | refine CallK.one (implSchemaSame x0 y0 _ _ _ _ h.1) (fun _ => amC) ?_ | refine CallE.one (implSchemaSame x0 y0 _ _ _ _ h.1) (fun _ => amC) rfl ?_
  (try refine am (h := ?_)); (try exact True.intro)
  repeat' (first | (with_reducible refine And.intro ?_ ?_) | intro _)
  all_goals try (first | omega | rfl | assumption | exact And.left (by assumption) | exact And.right (by assumption) | exact And.left (And.right (by assumption)))
  refine FinK.val1 ?_ ?_
  all_goals (try refine amF (h := ?_))
  all_goals (try exact True.intro)
  (first | rfl | (simp_all; done) | (simp_all [Bool.and_assoc]; done) | (simp_all [Bool.and_comm]; done))
set_option maxHeartbeats 4000000 in
theorem specConfSame (x y : DConf) (u v u' v' : Bool) (h : okConf (2 ^ 47) x) : ACalls Try.prog 54 [.agg (cConf u v x), .agg (cConf u' v' y)] (fun r => r = .val (.one (.bool (decide (x = y))))) := by
  obtain ⟨x0, ⟨a0, a1, a2, a3, a4, a5, a6⟩, x2, x3, x4, x5, x6⟩ := x
  obtain ⟨y0, ⟨b0, b1, b2, b3, b4, b5, b6⟩, y2, y3, y4, y5, y6⟩ := y
  have nt : Try.f54.ntmps = 52 := rfl
  have rs : Try.f54.results = #[.tmp 4] := rfl
  refine ACalls.of_run (m := 400) mixed Try.func54 rfl rfl (Nat.le_of_ble_eq_true rfl) ?_
  simp only [nt, rs]
  clear nt rs
  (try refine am (h := ?_)); (try exact True.intro)
  first | refine CallK.one (specSchemaSame x0 y0 _ _ _ _ h.1) (fun _ => amC) ?_ | refine CallE.one (specSchemaSame x0 y0 _ _ _ _ h.1) (fun _ => amC) rfl ?_
  (try refine am (h := ?_)); (try exact True.intro)
  repeat' (first | (with_reducible refine And.intro ?_ ?_) | intro _)
  all_goals try (first | omega | rfl | assumption | exact And.left (by assumption) | exact And.right (by assumption) | exact And.left (And.right (by assumption)))
  refine FinK.val1 ?_ ?_
  all_goals (try refine amF (h := ?_))
  all_goals (try exact True.intro)
  (first | rfl | (simp_all; done) | (simp_all [Bool.and_assoc]; done) | (simp_all [Bool.and_comm]; done))
end Go.AM
