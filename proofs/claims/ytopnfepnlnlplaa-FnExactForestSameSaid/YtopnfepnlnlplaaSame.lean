/- Lemmas for the proof of this claim. -/
import Derived.Test.YtopnfepnlnlplaaFam
namespace Go.AM
open Go Go.Proofs
set_option maxRecDepth 100000
set_option maxHeartbeats 4000000 in
theorem l5SameInts (l m : List (Int)) (u u' : Bool) (nl ml : Option Bool) (hl : l.length ≤ 2 ^ 47) : ACalls Try.prog 160 [.one (.sl u nl 1 l.length (fI l)), .one (.sl u' ml 1 m.length (fI m))] (fun r => r = .val (.one (.bool (decide (l = m))))) := by
  have nt : Try.f160.ntmps = 26 := rfl
  have rs : Try.f160.results = #[.tmp 4] := rfl
  refine ACalls.of_run (m := 400) mixed Try.func160 rfl rfl (Nat.le_of_ble_eq_true rfl) ?_
  simp only [nt, rs]
  clear nt rs
  (try refine am (h := ?_)); (try with_reducible apply True.intro)
  refine ⟨fun h => ?_, fun hlen => ?_⟩
  · refine FinK.val1 ?_ ?_
    all_goals (try refine amF (h := ?_))
    all_goals (try with_reducible apply True.intro)
    exact (decide_eq_false (fun e => h (by rw [e]))).symm
  refine LoopK.auto (Nat) (fun i => [(5, .one (.av (.int .i64 i)))]) (fun i => []) [0, 1] (k0 := ?k01) (keepH := ?kh1) 400 (fun i => i ≤ l.length ∧ ∀ j, j < i → l.getD j 0 = m.getD j 0) (fun i => l.length - i) (0) ?kea1 ?keb1 ?_ ?_ ?_
  case kea1 => exact amN
  case keb1 => exact amN
  · exact ⟨Nat.zero_le _, fun j hj => by omega⟩
  · refine Le.of [] [] rfl rfl rfl rfl ?_ ?_ ?_
    all_goals (try refine amL (h := ?_))
    all_goals (try with_reducible apply True.intro)
  · intro i hi
    (try refine am (h := ?_)); (try with_reducible apply True.intro)
    repeat' (first | (with_reducible refine And.intro ?_ ?_) | intro _)
    all_goals try (first | omega | with_reducible rfl | ((with_reducible refine eqId ?_); exact rfl) | with_reducible assumption | (with_reducible exact And.left (by assumption)) | (with_reducible exact And.right (by assumption)) | (with_reducible exact And.left (And.right (by assumption))))
    · refine FinK.val1 ?_ ?_
      all_goals (try refine amF (h := ?_))
      all_goals (try with_reducible apply True.intro)
      rename_i h2
      exact (decide_eq_false (fun e => h2 (by rw [e]))).symm
    · rename_i h2
      refine ⟨i + 1, ?_, ⟨by omega, fun j hj => ?_⟩, by omega⟩
      · refine Le.of [] [] rfl rfl rfl rfl ?_ ?_ ?_
        all_goals (try refine amL (h := ?_))
        all_goals (try with_reducible apply True.intro)
      · by_cases h3 : j = i
        · rw [h3]; exact h2
        · exact hi.2 j (by omega)
    · refine FinK.val1 ?_ ?_
      all_goals (try refine amF (h := ?_))
      all_goals (try with_reducible apply True.intro)
      exact (decide_eq_true (getD_ext hlen (fun j hj => hi.2 j (by omega)))).symm
set_option maxHeartbeats 4000000 in
theorem equalInts (l m : List (Int)) (u u' : Bool) (nl ml : Option Bool) (hl : l.length ≤ 2 ^ 47) : ACalls Try.prog 162 [.one (.sl u nl 1 l.length (fI l)), .one (.sl u' ml 1 m.length (fI m))] (fun r => r = .val (.one (.bool (decide (l = m))))) := by
  have nt : Try.f162.ntmps = 26 := rfl
  have rs : Try.f162.results = #[.tmp 4] := rfl
  refine ACalls.of_run (m := 400) mixed Try.func162 rfl rfl (Nat.le_of_ble_eq_true rfl) ?_
  simp only [nt, rs]
  clear nt rs
  (try refine am (h := ?_)); (try with_reducible apply True.intro)
  refine ⟨fun h => ?_, fun hlen => ?_⟩
  · refine FinK.val1 ?_ ?_
    all_goals (try refine amF (h := ?_))
    all_goals (try with_reducible apply True.intro)
    exact (decide_eq_false (fun e => h (by rw [e]))).symm
  refine LoopK.auto (Nat) (fun i => [(13, .one (.av (.int .i64 i)))]) (fun i => []) [0, 1, 12] (k0 := ?k02) (keepH := ?kh2) 400 (fun i => i ≤ l.length ∧ ∀ j, j < i → l.getD j 0 = m.getD j 0) (fun i => l.length - i) (0) ?kea2 ?keb2 ?_ ?_ ?_
  case kea2 => exact amN
  case keb2 => exact amN
  · exact ⟨Nat.zero_le _, fun j hj => by omega⟩
  · refine Le.of [] [] rfl rfl rfl rfl ?_ ?_ ?_
    all_goals (try refine amL (h := ?_))
    all_goals (try with_reducible apply True.intro)
  · intro i hi
    (try refine am (h := ?_)); (try with_reducible apply True.intro)
    repeat' (first | (with_reducible refine And.intro ?_ ?_) | intro _)
    all_goals try (first | omega | with_reducible rfl | ((with_reducible refine eqId ?_); exact rfl) | with_reducible assumption | (with_reducible exact And.left (by assumption)) | (with_reducible exact And.right (by assumption)) | (with_reducible exact And.left (And.right (by assumption))))
    · refine FinK.val1 ?_ ?_
      all_goals (try refine amF (h := ?_))
      all_goals (try with_reducible apply True.intro)
      rename_i h2
      exact (decide_eq_false (fun e => h2 (by rw [e]))).symm
    · rename_i h2
      refine ⟨i + 1, ?_, ⟨by omega, fun j hj => ?_⟩, by omega⟩
      · refine Le.of [] [] rfl rfl rfl rfl ?_ ?_ ?_
        all_goals (try refine amL (h := ?_))
        all_goals (try with_reducible apply True.intro)
      · by_cases h3 : j = i
        · rw [h3]; exact h2
        · exact hi.2 j (by omega)
    · refine FinK.val1 ?_ ?_
      all_goals (try refine amF (h := ?_))
      all_goals (try with_reducible apply True.intro)
      exact (decide_eq_true (getD_ext hlen (fun j hj => hi.2 j (by omega)))).symm
set_option maxHeartbeats 4000000 in
theorem equalFuncInts (l m : List (List (Int))) (u u' v v' : Bool) (nl ml : Option Bool) (f : FuncId) (g : Nat → AV) (hl : l.length ≤ 2 ^ 47) (hf : ∀ x ∈ l, ∀ y, ACalls Try.prog f [.one (aI v x), .one (aI v' y)] (fun r => r = .val (.one (.bool (decide (x = y)))))) : ACalls Try.prog 174 [.one (.sl u nl 1 l.length (fL v l)), .one (.sl u' ml 1 m.length (fL v' m)), .one (.fn (.func f) 0 g)] (fun r => r = .val (.one (.bool (decide (l = m))))) := by
  have nt : Try.f174.ntmps = 32 := rfl
  have rs : Try.f174.results = #[.tmp 6] := rfl
  refine ACalls.of_run (m := 400) mixed Try.func174 rfl rfl (Nat.le_of_ble_eq_true rfl) ?_
  simp only [nt, rs]
  clear nt rs
  (try refine am (h := ?_)); (try with_reducible apply True.intro)
  refine ⟨fun h => ?_, fun hlen => ?_⟩
  · refine FinK.val1 ?_ ?_
    all_goals (try refine amF (h := ?_))
    all_goals (try with_reducible apply True.intro)
    exact (decide_eq_false (fun e => h (by rw [e]))).symm
  refine LoopK.auto (Nat) (fun i => [(17, .one (.av (.int .i64 i)))]) (fun i => []) [1, 2, 15, 16] (k0 := ?k03) (keepH := ?kh3) 400 (fun i => i ≤ l.length ∧ ∀ j, j < i → l.getD j [] = m.getD j []) (fun i => l.length - i) (0) ?kea3 ?keb3 ?_ ?_ ?_
  case kea3 => exact amN
  case keb3 => exact amN
  · exact ⟨Nat.zero_le _, fun j hj => by omega⟩
  · refine Le.of [] [] rfl rfl rfl rfl ?_ ?_ ?_
    all_goals (try refine amL (h := ?_))
    all_goals (try with_reducible apply True.intro)
  · intro i hi
    (try refine am (h := ?_)); (try with_reducible apply True.intro)
    repeat' (first | (with_reducible refine And.intro ?_ ?_) | intro _)
    all_goals try (first | omega | with_reducible rfl | ((with_reducible refine eqId ?_); exact rfl) | with_reducible assumption | (with_reducible exact And.left (by assumption)) | (with_reducible exact And.right (by assumption)) | (with_reducible exact And.left (And.right (by assumption))))
    · have hlt : i < l.length := by assumption
      first | refine CallK.one (hf (l.getD i []) (getD_mem hlt) (m.getD i [])) (fun _ => amC) ?_ | refine CallE.one (hf (l.getD i []) (getD_mem hlt) (m.getD i [])) (fun _ => amC) rfl ?_
      (try refine am (h := ?_)); (try with_reducible apply True.intro)
      repeat' (first | (with_reducible refine And.intro ?_ ?_) | intro _)
      all_goals try (first | omega | with_reducible rfl | ((with_reducible refine eqId ?_); exact rfl) | with_reducible assumption | (with_reducible exact And.left (by assumption)) | (with_reducible exact And.right (by assumption)) | (with_reducible exact And.left (And.right (by assumption))))
      · refine FinK.val1 ?_ ?_
        all_goals (try refine amF (h := ?_))
        all_goals (try with_reducible apply True.intro)
        rename_i h2
        exact (decide_eq_false (fun e => h2 (by rw [e]))).symm
      · rename_i h2
        refine ⟨i + 1, ?_, ⟨by omega, fun j hj => ?_⟩, by omega⟩
        · refine Le.of [] [] rfl rfl rfl rfl ?_ ?_ ?_
          all_goals (try refine amL (h := ?_))
          all_goals (try with_reducible apply True.intro)
        · by_cases h3 : j = i
          · rw [h3]; exact h2
          · exact hi.2 j (by omega)
    · refine FinK.val1 ?_ ?_
      all_goals (try refine amF (h := ?_))
      all_goals (try with_reducible apply True.intro)
      exact (decide_eq_true (getD_ext hlen (fun j hj => hi.2 j (by omega)))).symm
set_option maxHeartbeats 4000000 in
theorem equalFuncNode (l m : List (DNode)) (u u' v v' : Bool) (nl ml : Option Bool) (f : FuncId) (g : Nat → AV) (hl : l.length ≤ 2 ^ 47) (hf : ∀ x ∈ l, ∀ y, ACalls Try.prog f [.agg (cNode false v x), .agg (cNode false v' y)] (fun r => r = .val (.one (.bool (decide (x = y)))))) : ACalls Try.prog 120 [.one (.sl u nl 12 l.length (fNode v l)), .one (.sl u' ml 12 m.length (fNode v' m)), .one (.fn (.func f) 0 g)] (fun r => r = .val (.one (.bool (decide (l = m))))) := by
  have nt : Try.f120.ntmps = 32 := rfl
  have rs : Try.f120.results = #[.tmp 6] := rfl
  refine ACalls.of_run (m := 400) mixed Try.func120 rfl rfl (Nat.le_of_ble_eq_true rfl) ?_
  simp only [nt, rs]
  clear nt rs
  (try refine am (h := ?_)); (try with_reducible apply True.intro)
  refine ⟨fun h => ?_, fun hlen => ?_⟩
  · refine FinK.val1 ?_ ?_
    all_goals (try refine amF (h := ?_))
    all_goals (try with_reducible apply True.intro)
    exact (decide_eq_false (fun e => h (by rw [e]))).symm
  refine LoopK.auto (Nat) (fun i => [(17, .one (.av (.int .i64 i)))]) (fun i => []) [1, 2, 15, 16] (k0 := ?k04) (keepH := ?kh4) 400 (fun i => i ≤ l.length ∧ ∀ j, j < i → l.getD j default = m.getD j default) (fun i => l.length - i) (0) ?kea4 ?keb4 ?_ ?_ ?_
  case kea4 => exact amN
  case keb4 => exact amN
  · exact ⟨Nat.zero_le _, fun j hj => by omega⟩
  · refine Le.of [] [] rfl rfl rfl rfl ?_ ?_ ?_
    all_goals (try refine amL (h := ?_))
    all_goals (try with_reducible apply True.intro)
  · intro i hi
    (try refine am (h := ?_)); (try with_reducible apply True.intro)
    repeat' (first | (with_reducible refine And.intro ?_ ?_) | intro _)
    all_goals try (first | omega | with_reducible rfl | ((with_reducible refine eqId ?_); exact rfl) | with_reducible assumption | (with_reducible exact And.left (by assumption)) | (with_reducible exact And.right (by assumption)) | (with_reducible exact And.left (And.right (by assumption))))
    · have hlt : i < l.length := by assumption
      first | refine CallK.one (hf (l.getD i default) (getD_mem hlt) (m.getD i default)) (fun _ => amC) ?_ | refine CallE.one (hf (l.getD i default) (getD_mem hlt) (m.getD i default)) (fun _ => amC) rfl ?_
      (try refine am (h := ?_)); (try with_reducible apply True.intro)
      repeat' (first | (with_reducible refine And.intro ?_ ?_) | intro _)
      all_goals try (first | omega | with_reducible rfl | ((with_reducible refine eqId ?_); exact rfl) | with_reducible assumption | (with_reducible exact And.left (by assumption)) | (with_reducible exact And.right (by assumption)) | (with_reducible exact And.left (And.right (by assumption))))
      · refine FinK.val1 ?_ ?_
        all_goals (try refine amF (h := ?_))
        all_goals (try with_reducible apply True.intro)
        rename_i h2
        exact (decide_eq_false (fun e => h2 (by rw [e]))).symm
      · rename_i h2
        refine ⟨i + 1, ?_, ⟨by omega, fun j hj => ?_⟩, by omega⟩
        · refine Le.of [] [] rfl rfl rfl rfl ?_ ?_ ?_
          all_goals (try refine amL (h := ?_))
          all_goals (try with_reducible apply True.intro)
        · by_cases h3 : j = i
          · rw [h3]; exact h2
          · exact hi.2 j (by omega)
    · refine FinK.val1 ?_ ?_
      all_goals (try refine amF (h := ?_))
      all_goals (try with_reducible apply True.intro)
      exact (decide_eq_true (getD_ext hlen (fun j hj => hi.2 j (by omega)))).symm
set_option maxHeartbeats 4000000 in
theorem equalFuncMember (l m : List (DMember)) (u u' v v' : Bool) (nl ml : Option Bool) (f : FuncId) (g : Nat → AV) (hl : l.length ≤ 2 ^ 47) (hf : ∀ x ∈ l, ∀ y, ACalls Try.prog f [.agg (cMember false v x), .agg (cMember false v' y)] (fun r => r = .val (.one (.bool (decide (x = y)))))) : ACalls Try.prog 65 [.one (.sl u nl 7 l.length (fMember v l)), .one (.sl u' ml 7 m.length (fMember v' m)), .one (.fn (.func f) 0 g)] (fun r => r = .val (.one (.bool (decide (l = m))))) := by
  have nt : Try.f65.ntmps = 32 := rfl
  have rs : Try.f65.results = #[.tmp 6] := rfl
  refine ACalls.of_run (m := 400) mixed Try.func65 rfl rfl (Nat.le_of_ble_eq_true rfl) ?_
  simp only [nt, rs]
  clear nt rs
  (try refine am (h := ?_)); (try with_reducible apply True.intro)
  refine ⟨fun h => ?_, fun hlen => ?_⟩
  · refine FinK.val1 ?_ ?_
    all_goals (try refine amF (h := ?_))
    all_goals (try with_reducible apply True.intro)
    exact (decide_eq_false (fun e => h (by rw [e]))).symm
  refine LoopK.auto (Nat) (fun i => [(17, .one (.av (.int .i64 i)))]) (fun i => []) [1, 2, 15, 16] (k0 := ?k05) (keepH := ?kh5) 400 (fun i => i ≤ l.length ∧ ∀ j, j < i → l.getD j default = m.getD j default) (fun i => l.length - i) (0) ?kea5 ?keb5 ?_ ?_ ?_
  case kea5 => exact amN
  case keb5 => exact amN
  · exact ⟨Nat.zero_le _, fun j hj => by omega⟩
  · refine Le.of [] [] rfl rfl rfl rfl ?_ ?_ ?_
    all_goals (try refine amL (h := ?_))
    all_goals (try with_reducible apply True.intro)
  · intro i hi
    (try refine am (h := ?_)); (try with_reducible apply True.intro)
    repeat' (first | (with_reducible refine And.intro ?_ ?_) | intro _)
    all_goals try (first | omega | with_reducible rfl | ((with_reducible refine eqId ?_); exact rfl) | with_reducible assumption | (with_reducible exact And.left (by assumption)) | (with_reducible exact And.right (by assumption)) | (with_reducible exact And.left (And.right (by assumption))))
    · have hlt : i < l.length := by assumption
      first | refine CallK.one (hf (l.getD i default) (getD_mem hlt) (m.getD i default)) (fun _ => amC) ?_ | refine CallE.one (hf (l.getD i default) (getD_mem hlt) (m.getD i default)) (fun _ => amC) rfl ?_
      (try refine am (h := ?_)); (try with_reducible apply True.intro)
      repeat' (first | (with_reducible refine And.intro ?_ ?_) | intro _)
      all_goals try (first | omega | with_reducible rfl | ((with_reducible refine eqId ?_); exact rfl) | with_reducible assumption | (with_reducible exact And.left (by assumption)) | (with_reducible exact And.right (by assumption)) | (with_reducible exact And.left (And.right (by assumption))))
      · refine FinK.val1 ?_ ?_
        all_goals (try refine amF (h := ?_))
        all_goals (try with_reducible apply True.intro)
        rename_i h2
        exact (decide_eq_false (fun e => h2 (by rw [e]))).symm
      · rename_i h2
        refine ⟨i + 1, ?_, ⟨by omega, fun j hj => ?_⟩, by omega⟩
        · refine Le.of [] [] rfl rfl rfl rfl ?_ ?_ ?_
          all_goals (try refine amL (h := ?_))
          all_goals (try with_reducible apply True.intro)
        · by_cases h3 : j = i
          · rw [h3]; exact h2
          · exact hi.2 j (by omega)
    · refine FinK.val1 ?_ ?_
      all_goals (try refine amF (h := ?_))
      all_goals (try with_reducible apply True.intro)
      exact (decide_eq_true (getD_ext hlen (fun j hj => hi.2 j (by omega)))).symm
set_option maxHeartbeats 4000000 in
theorem sameLists1 (x y : List Int) (u u' : Bool) (nl ml : Option Bool) (h : x.length ≤ 2 ^ 47) : ACalls Try.prog 175 [.one (.sl u nl 1 x.length (fI x)), .one (.sl u' ml 1 y.length (fI y))] (fun r => r = .val (.one (.bool (decide (x = y))))) := by
  have nt : Try.f175.ntmps = 8 := rfl
  have rs : Try.f175.results = #[.tmp 4] := rfl
  refine ACalls.of_run (m := 400) mixed Try.func175 rfl rfl (Nat.le_of_ble_eq_true rfl) ?_
  simp only [nt, rs]
  clear nt rs
  (try refine am (h := ?_)); (try with_reducible apply True.intro)
  first | refine CallK.one (equalInts x y _ _ _ _ h) (fun _ => amC) ?_ | refine CallE.one (equalInts x y _ _ _ _ h) (fun _ => amC) rfl ?_
  (try refine am (h := ?_)); (try with_reducible apply True.intro)
  refine FinK.val1 ?_ ?_
  all_goals (try refine amF (h := ?_))
  all_goals (try with_reducible apply True.intro)
set_option maxHeartbeats 4000000 in
theorem sameLists (l m : List (List Int)) (u u' v v' : Bool) (nl ml : Option Bool) (h : okL (2 ^ 47) l) : ACalls Try.prog 164 [.one (.sl u nl 1 l.length (fL v l)), .one (.sl u' ml 1 m.length (fL v' m))] (fun r => r = .val (.one (.bool (decide (l = m))))) := by
  have nt : Try.f164.ntmps = 8 := rfl
  have rs : Try.f164.results = #[.tmp 4] := rfl
  refine ACalls.of_run (m := 400) mixed Try.func164 rfl rfl (Nat.le_of_ble_eq_true rfl) ?_
  simp only [nt, rs]
  clear nt rs
  (try refine am (h := ?_)); (try with_reducible apply True.intro)
  first | refine CallK.one (equalFuncInts l m _ _ _ _ _ _ _ _ h.1 (fun x hx y => sameLists1 x y _ _ _ _ (h.2 x hx).1)) (fun _ => amC) ?_ | refine CallE.one (equalFuncInts l m _ _ _ _ _ _ _ _ h.1 (fun x hx y => sameLists1 x y _ _ _ _ (h.2 x hx).1)) (fun _ => amC) rfl ?_
  (try refine am (h := ?_)); (try with_reducible apply True.intro)
  refine FinK.val1 ?_ ?_
  all_goals (try refine amF (h := ?_))
  all_goals (try with_reducible apply True.intro)
set_option maxHeartbeats 4000000 in
theorem implWindowSame (l m : List (List Int)) (u v u' v' : Bool) (h : okL (2 ^ 47) l) : ACalls Try.prog 122 [.agg [aL u v l], .agg [aL u' v' m]] (fun r => r = .val (.one (.bool (decide (l = m))))) := by
  have nt : Try.f122.ntmps = 10 := rfl
  have rs : Try.f122.results = #[.tmp 4] := rfl
  refine ACalls.of_run (m := 400) mixed Try.func122 rfl rfl (Nat.le_of_ble_eq_true rfl) ?_
  simp only [nt, rs]
  clear nt rs
  (try refine am (h := ?_)); (try with_reducible apply True.intro)
  first | refine CallK.one (sameLists l m _ _ _ _ _ _ h) (fun _ => amC) ?_ | refine CallE.one (sameLists l m _ _ _ _ _ _ h) (fun _ => amC) rfl ?_
  (try refine am (h := ?_)); (try with_reducible apply True.intro)
  refine FinK.val1 ?_ ?_
  all_goals (try refine amF (h := ?_))
  all_goals (try with_reducible apply True.intro)
set_option maxHeartbeats 4000000 in
theorem specWindowSame (l m : List (List Int)) (u v u' v' : Bool) (h : okL (2 ^ 47) l) : ACalls Try.prog 118 [.agg [aL u v l], .agg [aL u' v' m]] (fun r => r = .val (.one (.bool (decide (l = m))))) := by
  have hl := h.1
  have nt : Try.f118.ntmps = 32 := rfl
  have rs : Try.f118.results = #[.tmp 4] := rfl
  refine ACalls.of_run (m := 400) mixed Try.func118 rfl rfl (Nat.le_of_ble_eq_true rfl) ?_
  simp only [nt, rs]
  clear nt rs
  (try refine am (h := ?_)); (try with_reducible apply True.intro)
  refine ⟨fun h => ?_, fun hlen => ?_⟩
  · refine FinK.val1 ?_ ?_
    all_goals (try refine amF (h := ?_))
    all_goals (try with_reducible apply True.intro)
    exact (decide_eq_false (fun e => h (by rw [e]))).symm
  refine LoopK.intro (Nat) (fun i => [(5, .one (.av (.int .i64 i)))]) (fun i => []) [2, 3] [1, 2] 400 (fun i => i ≤ l.length ∧ ∀ j, j < i → l.getD j [] = m.getD j []) (fun i => l.length - i) (0) ?_ ?_ ?_
  · exact ⟨Nat.zero_le _, fun j hj => by omega⟩
  · refine Le.of [(1, 1), (2, 2)] [] rfl rfl rfl rfl ?_ ?_ ?_
    all_goals (try refine amL (h := ?_))
    all_goals (try with_reducible apply True.intro)
  · intro i hi
    (try refine am (h := ?_)); (try with_reducible apply True.intro)
    repeat' (first | (with_reducible refine And.intro ?_ ?_) | intro _)
    all_goals try (first | omega | with_reducible rfl | ((with_reducible refine eqId ?_); exact rfl) | with_reducible assumption | (with_reducible exact And.left (by assumption)) | (with_reducible exact And.right (by assumption)) | (with_reducible exact And.left (And.right (by assumption))))
    · have hlt : i < l.length := by assumption
      refine CallE.one (l5SameInts _ _ _ _ _ _ (h.2 _ (getD_mem hlt)).1) (fun _ => amC) rfl ?_
      (try refine am (h := ?_)); (try with_reducible apply True.intro)
      repeat' (first | (with_reducible refine And.intro ?_ ?_) | intro _)
      all_goals try (first | omega | with_reducible rfl | ((with_reducible refine eqId ?_); exact rfl) | with_reducible assumption | (with_reducible exact And.left (by assumption)) | (with_reducible exact And.right (by assumption)) | (with_reducible exact And.left (And.right (by assumption))))
      · refine FinK.val1 ?_ ?_
        all_goals (try refine amF (h := ?_))
        all_goals (try with_reducible apply True.intro)
        rename_i h2
        exact (decide_eq_false (fun e => h2 (by rw [e]))).symm
      · rename_i h2
        refine ⟨i + 1, ?_, ⟨by omega, fun j hj => ?_⟩, by omega⟩
        · refine Le.of [(1, 1), (2, 2)] [] rfl rfl rfl rfl ?_ ?_ ?_
          all_goals (try refine amL (h := ?_))
          all_goals (try with_reducible apply True.intro)
        · by_cases h3 : j = i
          · rw [h3]; exact h2
          · exact hi.2 j (by omega)
    · refine FinK.val1 ?_ ?_
      all_goals (try refine amF (h := ?_))
      all_goals (try with_reducible apply True.intro)
      exact (decide_eq_true (getD_ext hlen (fun j hj => hi.2 j (by omega)))).symm
set_option maxHeartbeats 4000000 in
theorem implDetSame (x y : DDet) (u v u' v' : Bool) (h : okDet (2 ^ 47) x) : ACalls Try.prog 61 [.agg (cDet u v x), .agg (cDet u' v' y)] (fun r => r = .val (.one (.bool (decide (x = y))))) := by
  obtain ⟨x0, x1⟩ := x
  obtain ⟨y0, y1⟩ := y
  have nt : Try.f61.ntmps = 17 := rfl
  have rs : Try.f61.results = #[.tmp 4] := rfl
  refine ACalls.of_run (m := 400) mixed Try.func61 rfl rfl (Nat.le_of_ble_eq_true rfl) ?_
  simp only [nt, rs]
  clear nt rs
  (try refine am (h := ?_)); (try with_reducible apply True.intro)
  first | refine CallK.one (implWindowSame x0 y0 _ _ _ _ h.1) (fun _ => amC) ?_ | refine CallE.one (implWindowSame x0 y0 _ _ _ _ h.1) (fun _ => amC) rfl ?_
  (try refine am (h := ?_)); (try with_reducible apply True.intro)
  repeat' (first | (with_reducible refine And.intro ?_ ?_) | intro _)
  all_goals try (first | omega | with_reducible rfl | ((with_reducible refine eqId ?_); exact rfl) | with_reducible assumption | (with_reducible exact And.left (by assumption)) | (with_reducible exact And.right (by assumption)) | (with_reducible exact And.left (And.right (by assumption))))
  first | refine CallG.one rfl (fun hg => implWindowSame x1 y1 _ _ _ _ h.2) ?_ | refine CallEG.one rfl rfl (fun hg => implWindowSame x1 y1 _ _ _ _ h.2) ?_
  (try refine am (h := ?_)); (try with_reducible apply True.intro)
  repeat' (first | (with_reducible refine And.intro ?_ ?_) | intro _)
  all_goals try (first | omega | with_reducible rfl | ((with_reducible refine eqId ?_); exact rfl) | with_reducible assumption | (with_reducible exact And.left (by assumption)) | (with_reducible exact And.right (by assumption)) | (with_reducible exact And.left (And.right (by assumption))))
  refine FinK.val1 ?_ ?_
  all_goals (try refine amF (h := ?_))
  all_goals (try with_reducible apply True.intro)
  (first | rfl | (simp_all; done) | (simp_all [Bool.and_assoc]; done) | (simp_all [Bool.and_comm]; done))
set_option maxHeartbeats 4000000 in
theorem specDetSame (x y : DDet) (u v u' v' : Bool) (h : okDet (2 ^ 47) x) : ACalls Try.prog 58 [.agg (cDet u v x), .agg (cDet u' v' y)] (fun r => r = .val (.one (.bool (decide (x = y))))) := by
  obtain ⟨x0, x1⟩ := x
  obtain ⟨y0, y1⟩ := y
  have nt : Try.f58.ntmps = 17 := rfl
  have rs : Try.f58.results = #[.tmp 4] := rfl
  refine ACalls.of_run (m := 400) mixed Try.func58 rfl rfl (Nat.le_of_ble_eq_true rfl) ?_
  simp only [nt, rs]
  clear nt rs
  (try refine am (h := ?_)); (try with_reducible apply True.intro)
  first | refine CallK.one (specWindowSame x0 y0 _ _ _ _ h.1) (fun _ => amC) ?_ | refine CallE.one (specWindowSame x0 y0 _ _ _ _ h.1) (fun _ => amC) rfl ?_
  (try refine am (h := ?_)); (try with_reducible apply True.intro)
  repeat' (first | (with_reducible refine And.intro ?_ ?_) | intro _)
  all_goals try (first | omega | with_reducible rfl | ((with_reducible refine eqId ?_); exact rfl) | with_reducible assumption | (with_reducible exact And.left (by assumption)) | (with_reducible exact And.right (by assumption)) | (with_reducible exact And.left (And.right (by assumption))))
  first | refine CallG.one rfl (fun hg => specWindowSame x1 y1 _ _ _ _ h.2) ?_ | refine CallEG.one rfl rfl (fun hg => specWindowSame x1 y1 _ _ _ _ h.2) ?_
  (try refine am (h := ?_)); (try with_reducible apply True.intro)
  repeat' (first | (with_reducible refine And.intro ?_ ?_) | intro _)
  all_goals try (first | omega | with_reducible rfl | ((with_reducible refine eqId ?_); exact rfl) | with_reducible assumption | (with_reducible exact And.left (by assumption)) | (with_reducible exact And.right (by assumption)) | (with_reducible exact And.left (And.right (by assumption))))
  refine FinK.val1 ?_ ?_
  all_goals (try refine amF (h := ?_))
  all_goals (try with_reducible apply True.intro)
  (first | rfl | (simp_all; done) | (simp_all [Bool.and_assoc]; done) | (simp_all [Bool.and_comm]; done))
set_option maxHeartbeats 4000000 in
theorem implStatsSame (x y : DStats) (u v u' v' : Bool) (h : okStats (2 ^ 47) x) : ACalls Try.prog 163 [.agg (cStats u v x), .agg (cStats u' v' y)] (fun r => r = .val (.one (.bool (decide (x = y))))) := by
  obtain ⟨x0, x1⟩ := x
  obtain ⟨y0, y1⟩ := y
  have nt : Try.f163.ntmps = 17 := rfl
  have rs : Try.f163.results = #[.tmp 4] := rfl
  refine ACalls.of_run (m := 400) mixed Try.func163 rfl rfl (Nat.le_of_ble_eq_true rfl) ?_
  simp only [nt, rs]
  clear nt rs
  (try refine am (h := ?_)); (try with_reducible apply True.intro)
  first | refine CallK.one (equalInts x0 y0 _ _ _ _ h.1.1) (fun _ => amC) ?_ | refine CallE.one (equalInts x0 y0 _ _ _ _ h.1.1) (fun _ => amC) rfl ?_
  (try refine am (h := ?_)); (try with_reducible apply True.intro)
  repeat' (first | (with_reducible refine And.intro ?_ ?_) | intro _)
  all_goals try (first | omega | with_reducible rfl | ((with_reducible refine eqId ?_); exact rfl) | with_reducible assumption | (with_reducible exact And.left (by assumption)) | (with_reducible exact And.right (by assumption)) | (with_reducible exact And.left (And.right (by assumption))))
  first | refine CallG.one rfl (fun hg => sameLists x1 y1 _ _ _ _ _ _ h.2) ?_ | refine CallEG.one rfl rfl (fun hg => sameLists x1 y1 _ _ _ _ _ _ h.2) ?_
  (try refine am (h := ?_)); (try with_reducible apply True.intro)
  repeat' (first | (with_reducible refine And.intro ?_ ?_) | intro _)
  all_goals try (first | omega | with_reducible rfl | ((with_reducible refine eqId ?_); exact rfl) | with_reducible assumption | (with_reducible exact And.left (by assumption)) | (with_reducible exact And.right (by assumption)) | (with_reducible exact And.left (And.right (by assumption))))
  refine FinK.val1 ?_ ?_
  all_goals (try refine amF (h := ?_))
  all_goals (try with_reducible apply True.intro)
  (first | rfl | (simp_all; done) | (simp_all [Bool.and_assoc]; done) | (simp_all [Bool.and_comm]; done))
set_option maxHeartbeats 4000000 in
theorem specStatsSame (x y : DStats) (u v u' v' : Bool) (h : okStats (2 ^ 47) x) : ACalls Try.prog 161 [.agg (cStats u v x), .agg (cStats u' v' y)] (fun r => r = .val (.one (.bool (decide (x = y))))) := by
  obtain ⟨x0, l⟩ := x
  obtain ⟨y0, m⟩ := y
  have hl : l.length ≤ 2 ^ 47 := h.2.1
  have nt : Try.f161.ntmps = 40 := rfl
  have rs : Try.f161.results = #[.tmp 4] := rfl
  refine ACalls.of_run (m := 400) mixed Try.func161 rfl rfl (Nat.le_of_ble_eq_true rfl) ?_
  simp only [nt, rs]
  clear nt rs
  (try refine am (h := ?_)); (try with_reducible apply True.intro)
  first | refine CallK.one (l5SameInts x0 y0 _ _ _ _ h.1.1) (fun _ => amC) ?_ | refine CallE.one (l5SameInts x0 y0 _ _ _ _ h.1.1) (fun _ => amC) rfl ?_
  (try refine am (h := ?_)); (try with_reducible apply True.intro)
  repeat' (first | (with_reducible refine And.intro ?_ ?_) | intro _)
  all_goals try (first | omega | with_reducible rfl | ((with_reducible refine eqId ?_); exact rfl) | with_reducible assumption | (with_reducible exact And.left (by assumption)) | (with_reducible exact And.right (by assumption)) | (with_reducible exact And.left (And.right (by assumption))))
  · refine FinK.val1 ?_ ?_
    all_goals (try refine amF (h := ?_))
    all_goals (try with_reducible apply True.intro)
    rename_i hh
    exact (decide_eq_false (fun e => by cases e; simp at hh)).symm
  rename_i hh
  obtain ⟨h0, hlen⟩ := hh
  subst h0
  refine LoopK.intro (Nat) (fun i => [(5, .one (.av (.int .i64 i)))]) (fun i => []) [2, 3] [1, 2] 400 (fun i => i ≤ l.length ∧ ∀ j, j < i → l.getD j [] = m.getD j []) (fun i => l.length - i) (0) ?_ ?_ ?_
  · exact ⟨Nat.zero_le _, fun j hj => by omega⟩
  · refine Le.of [(1, 1), (2, 2)] [] rfl rfl rfl rfl ?_ ?_ ?_
    all_goals (try refine amL (h := ?_))
    all_goals (try with_reducible apply True.intro)
  · intro i hi
    (try refine am (h := ?_)); (try with_reducible apply True.intro)
    repeat' (first | (with_reducible refine And.intro ?_ ?_) | intro _)
    all_goals try (first | omega | with_reducible rfl | ((with_reducible refine eqId ?_); exact rfl) | with_reducible assumption | (with_reducible exact And.left (by assumption)) | (with_reducible exact And.right (by assumption)) | (with_reducible exact And.left (And.right (by assumption))))
    · have hlt : i < l.length := by assumption
      refine CallE.one (l5SameInts _ _ _ _ _ _ (h.2.2 _ (getD_mem hlt)).1) (fun _ => amC) rfl ?_
      (try refine am (h := ?_)); (try with_reducible apply True.intro)
      repeat' (first | (with_reducible refine And.intro ?_ ?_) | intro _)
      all_goals try (first | omega | with_reducible rfl | ((with_reducible refine eqId ?_); exact rfl) | with_reducible assumption | (with_reducible exact And.left (by assumption)) | (with_reducible exact And.right (by assumption)) | (with_reducible exact And.left (And.right (by assumption))))
      · refine FinK.val1 ?_ ?_
        all_goals (try refine amF (h := ?_))
        all_goals (try with_reducible apply True.intro)
        rename_i h2
        exact (decide_eq_false (fun e => h2 (by cases e; rfl))).symm
      · rename_i h2
        refine ⟨i + 1, ?_, ⟨by omega, fun j hj => ?_⟩, by omega⟩
        · refine Le.of [(1, 1), (2, 2)] [] rfl rfl rfl rfl ?_ ?_ ?_
          all_goals (try refine amL (h := ?_))
          all_goals (try with_reducible apply True.intro)
        · by_cases h3 : j = i
          · rw [h3]; exact h2
          · exact hi.2 j (by omega)
    · refine FinK.val1 ?_ ?_
      all_goals (try refine amF (h := ?_))
      all_goals (try with_reducible apply True.intro)
      have e : l = m := getD_ext hlen (fun j hj => hi.2 j (by omega))
      subst e
      simp
set_option maxHeartbeats 4000000 in
theorem implNodeSame (x y : DNode) (u v u' v' : Bool) (h : okNode (2 ^ 47) x) : ACalls Try.prog 121 [.agg (cNode u v x), .agg (cNode u' v' y)] (fun r => r = .val (.one (.bool (decide (x = y))))) := by
  obtain ⟨x0, ⟨x1, x1'⟩, x2, x3, x4, x5, x6, x7, x8, x9⟩ := x
  obtain ⟨y0, ⟨y1, y1'⟩, y2, y3, y4, y5, y6, y7, y8, y9⟩ := y
  have nt : Try.f121.ntmps = 73 := rfl
  have rs : Try.f121.results = #[.tmp 4] := rfl
  refine ACalls.of_run (m := 400) mixed Try.func121 rfl rfl (Nat.le_of_ble_eq_true rfl) ?_
  simp only [nt, rs]
  clear nt rs
  (try refine am (h := ?_)); (try with_reducible apply True.intro)
  repeat' (first | (with_reducible refine And.intro ?_ ?_) | intro _)
  all_goals try (first | omega | with_reducible rfl | ((with_reducible refine eqId ?_); exact rfl) | with_reducible assumption | (with_reducible exact And.left (by assumption)) | (with_reducible exact And.right (by assumption)) | (with_reducible exact And.left (And.right (by assumption))))
  first | refine CallG.one rfl (fun hg => equalInts x2 y2 _ _ _ _ h.2.2.1.1) ?_ | refine CallEG.one rfl rfl (fun hg => equalInts x2 y2 _ _ _ _ h.2.2.1.1) ?_
  (try refine am (h := ?_)); (try with_reducible apply True.intro)
  repeat' (first | (with_reducible refine And.intro ?_ ?_) | intro _)
  all_goals try (first | omega | with_reducible rfl | ((with_reducible refine eqId ?_); exact rfl) | with_reducible assumption | (with_reducible exact And.left (by assumption)) | (with_reducible exact And.right (by assumption)) | (with_reducible exact And.left (And.right (by assumption))))
  first | refine CallG.one rfl (fun hg => implStatsSame x4 y4 _ _ _ _ h.2.2.2.2.1) ?_ | refine CallEG.one rfl rfl (fun hg => implStatsSame x4 y4 _ _ _ _ h.2.2.2.2.1) ?_
  (try refine am (h := ?_)); (try with_reducible apply True.intro)
  repeat' (first | (with_reducible refine And.intro ?_ ?_) | intro _)
  all_goals try (first | omega | with_reducible rfl | ((with_reducible refine eqId ?_); exact rfl) | with_reducible assumption | (with_reducible exact And.left (by assumption)) | (with_reducible exact And.right (by assumption)) | (with_reducible exact And.left (And.right (by assumption))))
  first | refine CallG.one rfl (fun hg => equalInts x6 y6 _ _ _ _ h.2.2.2.2.2.2.1.1) ?_ | refine CallEG.one rfl rfl (fun hg => equalInts x6 y6 _ _ _ _ h.2.2.2.2.2.2.1.1) ?_
  (try refine am (h := ?_)); (try with_reducible apply True.intro)
  repeat' (first | (with_reducible refine And.intro ?_ ?_) | intro _)
  all_goals try (first | omega | with_reducible rfl | ((with_reducible refine eqId ?_); exact rfl) | with_reducible assumption | (with_reducible exact And.left (by assumption)) | (with_reducible exact And.right (by assumption)) | (with_reducible exact And.left (And.right (by assumption))))
  refine FinK.val1 ?_ ?_
  all_goals (try refine amF (h := ?_))
  all_goals (try with_reducible apply True.intro)
  (first | rfl | (simp_all; done) | (simp_all [Bool.and_assoc]; done) | (simp_all [Bool.and_comm]; done))
set_option maxHeartbeats 4000000 in
theorem specNodeSame (x y : DNode) (u v u' v' : Bool) (h : okNode (2 ^ 47) x) : ACalls Try.prog 117 [.agg (cNode u v x), .agg (cNode u' v' y)] (fun r => r = .val (.one (.bool (decide (x = y))))) := by
  obtain ⟨x0, ⟨x1, x1'⟩, x2, x3, x4, x5, x6, x7, x8, x9⟩ := x
  obtain ⟨y0, ⟨y1, y1'⟩, y2, y3, y4, y5, y6, y7, y8, y9⟩ := y
  have nt : Try.f117.ntmps = 73 := rfl
  have rs : Try.f117.results = #[.tmp 4] := rfl
  refine ACalls.of_run (m := 400) mixed Try.func117 rfl rfl (Nat.le_of_ble_eq_true rfl) ?_
  simp only [nt, rs]
  clear nt rs
  (try refine am (h := ?_)); (try with_reducible apply True.intro)
  repeat' (first | (with_reducible refine And.intro ?_ ?_) | intro _)
  all_goals try (first | omega | with_reducible rfl | ((with_reducible refine eqId ?_); exact rfl) | with_reducible assumption | (with_reducible exact And.left (by assumption)) | (with_reducible exact And.right (by assumption)) | (with_reducible exact And.left (And.right (by assumption))))
  first | refine CallG.one rfl (fun hg => l5SameInts x2 y2 _ _ _ _ h.2.2.1.1) ?_ | refine CallEG.one rfl rfl (fun hg => l5SameInts x2 y2 _ _ _ _ h.2.2.1.1) ?_
  (try refine am (h := ?_)); (try with_reducible apply True.intro)
  repeat' (first | (with_reducible refine And.intro ?_ ?_) | intro _)
  all_goals try (first | omega | with_reducible rfl | ((with_reducible refine eqId ?_); exact rfl) | with_reducible assumption | (with_reducible exact And.left (by assumption)) | (with_reducible exact And.right (by assumption)) | (with_reducible exact And.left (And.right (by assumption))))
  first | refine CallG.one rfl (fun hg => specStatsSame x4 y4 _ _ _ _ h.2.2.2.2.1) ?_ | refine CallEG.one rfl rfl (fun hg => specStatsSame x4 y4 _ _ _ _ h.2.2.2.2.1) ?_
  (try refine am (h := ?_)); (try with_reducible apply True.intro)
  repeat' (first | (with_reducible refine And.intro ?_ ?_) | intro _)
  all_goals try (first | omega | with_reducible rfl | ((with_reducible refine eqId ?_); exact rfl) | with_reducible assumption | (with_reducible exact And.left (by assumption)) | (with_reducible exact And.right (by assumption)) | (with_reducible exact And.left (And.right (by assumption))))
  first | refine CallG.one rfl (fun hg => l5SameInts x6 y6 _ _ _ _ h.2.2.2.2.2.2.1.1) ?_ | refine CallEG.one rfl rfl (fun hg => l5SameInts x6 y6 _ _ _ _ h.2.2.2.2.2.2.1.1) ?_
  (try refine am (h := ?_)); (try with_reducible apply True.intro)
  repeat' (first | (with_reducible refine And.intro ?_ ?_) | intro _)
  all_goals try (first | omega | with_reducible rfl | ((with_reducible refine eqId ?_); exact rfl) | with_reducible assumption | (with_reducible exact And.left (by assumption)) | (with_reducible exact And.right (by assumption)) | (with_reducible exact And.left (And.right (by assumption))))
  refine FinK.val1 ?_ ?_
  all_goals (try refine amF (h := ?_))
  all_goals (try with_reducible apply True.intro)
  (first | rfl | (simp_all; done) | (simp_all [Bool.and_assoc]; done) | (simp_all [Bool.and_comm]; done))
end Go.AM
namespace Go.AM
open Go Go.Proofs
set_option maxRecDepth 100000
set_option maxHeartbeats 4000000 in
theorem implTreeSame (x y : DTree) (u v u' v' : Bool) (h : okTree (2 ^ 47) x) : ACalls Try.prog 60 [.agg (cTree u v x), .agg (cTree u' v' y)] (fun r => r = .val (.one (.bool (decide (x = y))))) := by
  obtain ⟨x0, x1⟩ := x
  obtain ⟨y0, y1⟩ := y
  have nt : Try.f60.ntmps = 17 := rfl
  have rs : Try.f60.results = #[.tmp 4] := rfl
  refine ACalls.of_run (m := 400) mixed Try.func60 rfl rfl (Nat.le_of_ble_eq_true rfl) ?_
  simp only [nt, rs]
  clear nt rs
  (try refine am (h := ?_)); (try with_reducible apply True.intro)
  repeat' (first | (with_reducible refine And.intro ?_ ?_) | intro _)
  all_goals try (first | omega | with_reducible rfl | ((with_reducible refine eqId ?_); exact rfl) | with_reducible assumption | (with_reducible exact And.left (by assumption)) | (with_reducible exact And.right (by assumption)) | (with_reducible exact And.left (And.right (by assumption))))
  first | refine CallG.one rfl (fun hg => equalFuncNode x0 y0 _ _ _ _ _ _ _ _ h.1.1 (fun a ha b => implNodeSame a b _ _ _ _ (h.1.2 a ha))) ?_ | refine CallEG.one rfl rfl (fun hg => equalFuncNode x0 y0 _ _ _ _ _ _ _ _ h.1.1 (fun a ha b => implNodeSame a b _ _ _ _ (h.1.2 a ha))) ?_
  (try refine am (h := ?_)); (try with_reducible apply True.intro)
  repeat' (first | (with_reducible refine And.intro ?_ ?_) | intro _)
  all_goals try (first | omega | with_reducible rfl | ((with_reducible refine eqId ?_); exact rfl) | with_reducible assumption | (with_reducible exact And.left (by assumption)) | (with_reducible exact And.right (by assumption)) | (with_reducible exact And.left (And.right (by assumption))))
  refine FinK.val1 ?_ ?_
  all_goals (try refine amF (h := ?_))
  all_goals (try with_reducible apply True.intro)
  (first | rfl | (simp_all; done) | (simp_all [Bool.and_assoc]; done) | (simp_all [Bool.and_comm]; done))
set_option maxHeartbeats 4000000 in
theorem specTreeSame (x y : DTree) (u v u' v' : Bool) (h : okTree (2 ^ 47) x) : ACalls Try.prog 57 [.agg (cTree u v x), .agg (cTree u' v' y)] (fun r => r = .val (.one (.bool (decide (x = y))))) := by
  obtain ⟨l, x1⟩ := x
  obtain ⟨m, y1⟩ := y
  have hl : l.length ≤ 2 ^ 47 := h.1.1
  have nt : Try.f57.ntmps = 39 := rfl
  have rs : Try.f57.results = #[.tmp 4] := rfl
  refine ACalls.of_run (m := 400) mixed Try.func57 rfl rfl (Nat.le_of_ble_eq_true rfl) ?_
  simp only [nt, rs]
  clear nt rs
  (try refine am (h := ?_)); (try with_reducible apply True.intro)
  repeat' (first | (with_reducible refine And.intro ?_ ?_) | intro _)
  all_goals try (first | omega | with_reducible rfl | ((with_reducible refine eqId ?_); exact rfl) | with_reducible assumption | (with_reducible exact And.left (by assumption)) | (with_reducible exact And.right (by assumption)) | (with_reducible exact And.left (And.right (by assumption))))
  · refine FinK.val1 ?_ ?_
    all_goals (try refine amF (h := ?_))
    all_goals (try with_reducible apply True.intro)
    rename_i hh
    exact (decide_eq_false (fun e => by cases e; simp at hh)).symm
  rename_i hh
  obtain ⟨hlen, h0⟩ := hh
  have hlen : l.length = m.length := by omega
  have h0 : x1 = y1 := h0
  subst h0
  refine LoopK.intro (Nat) (fun i => [(5, .one (.av (.int .i64 i)))]) (fun i => []) [2, 3] [1, 2] 400 (fun i => i ≤ l.length ∧ ∀ j, j < i → l.getD j default = m.getD j default) (fun i => l.length - i) (0) ?_ ?_ ?_
  · exact ⟨Nat.zero_le _, fun j hj => by omega⟩
  · refine Le.of [(1, 1), (2, 2)] [] rfl rfl rfl rfl ?_ ?_ ?_
    all_goals (try refine amL (h := ?_))
    all_goals (try with_reducible apply True.intro)
  · intro i hi
    (try refine am (h := ?_)); (try with_reducible apply True.intro)
    repeat' (first | (with_reducible refine And.intro ?_ ?_) | intro _)
    all_goals try (first | omega | with_reducible rfl | ((with_reducible refine eqId ?_); exact rfl) | with_reducible assumption | (with_reducible exact And.left (by assumption)) | (with_reducible exact And.right (by assumption)) | (with_reducible exact And.left (And.right (by assumption))))
    · have hlt : i < l.length := by assumption
      refine CallE.one (specNodeSame (l.getD i default) (m.getD i default) _ _ _ _ (h.1.2 _ (getD_mem hlt))) (fun _ => amC) rfl ?_
      (try refine am (h := ?_)); (try with_reducible apply True.intro)
      repeat' (first | (with_reducible refine And.intro ?_ ?_) | intro _)
      all_goals try (first | omega | with_reducible rfl | ((with_reducible refine eqId ?_); exact rfl) | with_reducible assumption | (with_reducible exact And.left (by assumption)) | (with_reducible exact And.right (by assumption)) | (with_reducible exact And.left (And.right (by assumption))))
      · refine FinK.val1 ?_ ?_
        all_goals (try refine amF (h := ?_))
        all_goals (try with_reducible apply True.intro)
        rename_i h2
        exact (decide_eq_false (fun e => h2 (by cases e; rfl))).symm
      · rename_i h2
        refine ⟨i + 1, ?_, ⟨by omega, fun j hj => ?_⟩, by omega⟩
        · refine Le.of [(1, 1), (2, 2)] [] rfl rfl rfl rfl ?_ ?_ ?_
          all_goals (try refine amL (h := ?_))
          all_goals (try with_reducible apply True.intro)
        · by_cases h3 : j = i
          · rw [h3]; exact h2
          · exact hi.2 j (by omega)
    · refine FinK.val1 ?_ ?_
      all_goals (try refine amF (h := ?_))
      all_goals (try with_reducible apply True.intro)
      have e : l = m := getD_ext hlen (fun j hj => hi.2 j (by omega))
      subst e
      simp
end Go.AM
namespace Go.AM
open Go Go.Proofs
set_option maxRecDepth 100000
set_option maxHeartbeats 4000000 in
theorem implMemberSame (x y : DMember) (u v u' v' : Bool) (h : okMember (2 ^ 47) x) : ACalls Try.prog 16 [.agg (cMember u v x), .agg (cMember u' v' y)] (fun r => r = .val (.one (.bool (decide (x = y))))) := by
  obtain ⟨x0, x1, x2, x3⟩ := x
  obtain ⟨y0, y1, y2, y3⟩ := y
  have nt : Try.f16.ntmps = 31 := rfl
  have rs : Try.f16.results = #[.tmp 4] := rfl
  refine ACalls.of_run (m := 400) mixed Try.func16 rfl rfl (Nat.le_of_ble_eq_true rfl) ?_
  simp only [nt, rs]
  clear nt rs
  (try refine am (h := ?_)); (try with_reducible apply True.intro)
  first | refine CallK.one (implTreeSame x0 y0 _ _ _ _ h.1) (fun _ => amC) ?_ | refine CallE.one (implTreeSame x0 y0 _ _ _ _ h.1) (fun _ => amC) rfl ?_
  (try refine am (h := ?_)); (try with_reducible apply True.intro)
  repeat' (first | (with_reducible refine And.intro ?_ ?_) | intro _)
  all_goals try (first | omega | with_reducible rfl | ((with_reducible refine eqId ?_); exact rfl) | with_reducible assumption | (with_reducible exact And.left (by assumption)) | (with_reducible exact And.right (by assumption)) | (with_reducible exact And.left (And.right (by assumption))))
  first | refine CallG.one rfl (fun hg => implTreeSame x2 y2 _ _ _ _ h.2.2.1) ?_ | refine CallEG.one rfl rfl (fun hg => implTreeSame x2 y2 _ _ _ _ h.2.2.1) ?_
  (try refine am (h := ?_)); (try with_reducible apply True.intro)
  repeat' (first | (with_reducible refine And.intro ?_ ?_) | intro _)
  all_goals try (first | omega | with_reducible rfl | ((with_reducible refine eqId ?_); exact rfl) | with_reducible assumption | (with_reducible exact And.left (by assumption)) | (with_reducible exact And.right (by assumption)) | (with_reducible exact And.left (And.right (by assumption))))
  first | refine CallG.one rfl (fun hg => implDetSame x3 y3 _ _ _ _ h.2.2.2) ?_ | refine CallEG.one rfl rfl (fun hg => implDetSame x3 y3 _ _ _ _ h.2.2.2) ?_
  (try refine am (h := ?_)); (try with_reducible apply True.intro)
  repeat' (first | (with_reducible refine And.intro ?_ ?_) | intro _)
  all_goals try (first | omega | with_reducible rfl | ((with_reducible refine eqId ?_); exact rfl) | with_reducible assumption | (with_reducible exact And.left (by assumption)) | (with_reducible exact And.right (by assumption)) | (with_reducible exact And.left (And.right (by assumption))))
  refine FinK.val1 ?_ ?_
  all_goals (try refine amF (h := ?_))
  all_goals (try with_reducible apply True.intro)
  (first | rfl | (simp_all; done) | (simp_all [Bool.and_assoc]; done) | (simp_all [Bool.and_comm]; done))
set_option maxHeartbeats 4000000 in
theorem specMemberSame (x y : DMember) (u v u' v' : Bool) (h : okMember (2 ^ 47) x) : ACalls Try.prog 14 [.agg (cMember u v x), .agg (cMember u' v' y)] (fun r => r = .val (.one (.bool (decide (x = y))))) := by
  obtain ⟨x0, x1, x2, x3⟩ := x
  obtain ⟨y0, y1, y2, y3⟩ := y
  have nt : Try.f14.ntmps = 31 := rfl
  have rs : Try.f14.results = #[.tmp 4] := rfl
  refine ACalls.of_run (m := 400) mixed Try.func14 rfl rfl (Nat.le_of_ble_eq_true rfl) ?_
  simp only [nt, rs]
  clear nt rs
  (try refine am (h := ?_)); (try with_reducible apply True.intro)
  first | refine CallK.one (specTreeSame x0 y0 _ _ _ _ h.1) (fun _ => amC) ?_ | refine CallE.one (specTreeSame x0 y0 _ _ _ _ h.1) (fun _ => amC) rfl ?_
  (try refine am (h := ?_)); (try with_reducible apply True.intro)
  repeat' (first | (with_reducible refine And.intro ?_ ?_) | intro _)
  all_goals try (first | omega | with_reducible rfl | ((with_reducible refine eqId ?_); exact rfl) | with_reducible assumption | (with_reducible exact And.left (by assumption)) | (with_reducible exact And.right (by assumption)) | (with_reducible exact And.left (And.right (by assumption))))
  first | refine CallG.one rfl (fun hg => specTreeSame x2 y2 _ _ _ _ h.2.2.1) ?_ | refine CallEG.one rfl rfl (fun hg => specTreeSame x2 y2 _ _ _ _ h.2.2.1) ?_
  (try refine am (h := ?_)); (try with_reducible apply True.intro)
  repeat' (first | (with_reducible refine And.intro ?_ ?_) | intro _)
  all_goals try (first | omega | with_reducible rfl | ((with_reducible refine eqId ?_); exact rfl) | with_reducible assumption | (with_reducible exact And.left (by assumption)) | (with_reducible exact And.right (by assumption)) | (with_reducible exact And.left (And.right (by assumption))))
  first | refine CallG.one rfl (fun hg => specDetSame x3 y3 _ _ _ _ h.2.2.2) ?_ | refine CallEG.one rfl rfl (fun hg => specDetSame x3 y3 _ _ _ _ h.2.2.2) ?_
  (try refine am (h := ?_)); (try with_reducible apply True.intro)
  repeat' (first | (with_reducible refine And.intro ?_ ?_) | intro _)
  all_goals try (first | omega | with_reducible rfl | ((with_reducible refine eqId ?_); exact rfl) | with_reducible assumption | (with_reducible exact And.left (by assumption)) | (with_reducible exact And.right (by assumption)) | (with_reducible exact And.left (And.right (by assumption))))
  refine FinK.val1 ?_ ?_
  all_goals (try refine amF (h := ?_))
  all_goals (try with_reducible apply True.intro)
  (first | rfl | (simp_all; done) | (simp_all [Bool.and_assoc]; done) | (simp_all [Bool.and_comm]; done))
set_option maxHeartbeats 4000000 in
theorem implForestSame (x y : DForest) (u v u' v' : Bool) (h : okForest (2 ^ 47) x) : ACalls Try.prog 21 [.agg (cForest u v x), .agg (cForest u' v' y)] (fun r => r = .val (.one (.bool (decide (x = y))))) := by
  obtain ⟨x0⟩ := x
  obtain ⟨y0⟩ := y
  have nt : Try.f21.ntmps = 10 := rfl
  have rs : Try.f21.results = #[.tmp 4] := rfl
  refine ACalls.of_run (m := 400) mixed Try.func21 rfl rfl (Nat.le_of_ble_eq_true rfl) ?_
  simp only [nt, rs]
  clear nt rs
  (try refine am (h := ?_)); (try with_reducible apply True.intro)
  first | refine CallK.one (equalFuncMember x0 y0 _ _ _ _ _ _ _ _ h.1 (fun a ha b => implMemberSame a b _ _ _ _ (h.2 a ha))) (fun _ => amC) ?_ | refine CallE.one (equalFuncMember x0 y0 _ _ _ _ _ _ _ _ h.1 (fun a ha b => implMemberSame a b _ _ _ _ (h.2 a ha))) (fun _ => amC) rfl ?_
  (try refine am (h := ?_)); (try with_reducible apply True.intro)
  refine FinK.val1 ?_ ?_
  all_goals (try refine amF (h := ?_))
  all_goals (try with_reducible apply True.intro)
  (first | rfl | (simp_all; done) | (simp_all [Bool.and_assoc]; done) | (simp_all [Bool.and_comm]; done))
set_option maxHeartbeats 4000000 in
theorem specForestSame (x y : DForest) (u v u' v' : Bool) (h : okForest (2 ^ 47) x) : ACalls Try.prog 19 [.agg (cForest u v x), .agg (cForest u' v' y)] (fun r => r = .val (.one (.bool (decide (x = y))))) := by
  obtain ⟨l⟩ := x
  obtain ⟨m⟩ := y
  have hl : l.length ≤ 2 ^ 47 := h.1
  have nt : Try.f19.ntmps = 32 := rfl
  have rs : Try.f19.results = #[.tmp 4] := rfl
  refine ACalls.of_run (m := 400) mixed Try.func19 rfl rfl (Nat.le_of_ble_eq_true rfl) ?_
  simp only [nt, rs]
  clear nt rs
  (try refine am (h := ?_)); (try with_reducible apply True.intro)
  refine ⟨fun hne => ?_, fun hlen => ?_⟩
  · refine FinK.val1 ?_ ?_
    all_goals (try refine amF (h := ?_))
    all_goals (try with_reducible apply True.intro)
    exact (decide_eq_false (fun e => hne (by cases e; rfl))).symm
  refine LoopK.auto (Nat) (fun i => [(5, .one (.av (.int .i64 i)))]) (fun i => []) [2, 3] (k0 := ?k01) (keepH := ?kh1) 400 (fun i => i ≤ l.length ∧ ∀ j, j < i → l.getD j default = m.getD j default) (fun i => l.length - i) (0) ?kea1 ?keb1 ?_ ?_ ?_
  case kea1 => exact amN
  case keb1 => exact amN
  · exact ⟨Nat.zero_le _, fun j hj => by omega⟩
  · refine Le.auto [] (r0 := ?r01) (ren := ?ren1) ?ea1 ?eb1 ?a1 ?b1 ?c1 ?d1 ?ho1 ?hn1 ?ht1
    case ea1 => exact amR
    case eb1 => exact amR
    case a1 => exact rfl
    case b1 => exact rfl
    case c1 => exact rfl
    case d1 => exact rfl
    all_goals (try refine amL (h := ?_))
    all_goals (try with_reducible apply True.intro)
  · intro i hi
    (try refine am (h := ?_)); (try with_reducible apply True.intro)
    repeat' (first | (with_reducible refine And.intro ?_ ?_) | intro _)
    all_goals try (first | omega | with_reducible rfl | ((with_reducible refine eqId ?_); exact rfl) | with_reducible assumption | (with_reducible exact And.left (by assumption)) | (with_reducible exact And.right (by assumption)) | (with_reducible exact And.left (And.right (by assumption))))
    · have hlt : i < l.length := by assumption
      refine CallE.one (specMemberSame (l.getD i default) (m.getD i default) _ _ _ _ (h.2 _ (getD_mem hlt))) (fun _ => amC) rfl ?_
      (try refine am (h := ?_)); (try with_reducible apply True.intro)
      repeat' (first | (with_reducible refine And.intro ?_ ?_) | intro _)
      all_goals try (first | omega | with_reducible rfl | ((with_reducible refine eqId ?_); exact rfl) | with_reducible assumption | (with_reducible exact And.left (by assumption)) | (with_reducible exact And.right (by assumption)) | (with_reducible exact And.left (And.right (by assumption))))
      · refine FinK.val1 ?_ ?_
        all_goals (try refine amF (h := ?_))
        all_goals (try with_reducible apply True.intro)
        rename_i h2
        exact (decide_eq_false (fun e => h2 (by cases e; rfl))).symm
      · rename_i h2
        refine ⟨i + 1, ?_, ⟨by omega, fun j hj => ?_⟩, by omega⟩
        · refine Le.auto [] (r0 := ?r02) (ren := ?ren2) ?ea2 ?eb2 ?a2 ?b2 ?c2 ?d2 ?ho2 ?hn2 ?ht2
          case ea2 => exact amR
          case eb2 => exact amR
          case a2 => exact rfl
          case b2 => exact rfl
          case c2 => exact rfl
          case d2 => exact rfl
          all_goals (try refine amL (h := ?_))
          all_goals (try with_reducible apply True.intro)
        · by_cases h3 : j = i
          · rw [h3]; exact h2
          · exact hi.2 j (by omega)
    · refine FinK.val1 ?_ ?_
      all_goals (try refine amF (h := ?_))
      all_goals (try with_reducible apply True.intro)
      have e : l = m := getD_ext hlen (fun j hj => hi.2 j (by omega))
      subst e
      simp
end Go.AM
