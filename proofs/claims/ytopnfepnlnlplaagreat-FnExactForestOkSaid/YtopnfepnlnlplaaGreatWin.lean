/- Lemmas for the proof of this claim. -/
import Derived.Test.YtopnfepnlnlplaaGreatCnf
namespace Go.AM
open Go Go.Proofs
set_option maxRecDepth 100000
set_option maxHeartbeats 2000000 in
theorem l16Power (n : Nat) (hn : n ≤ 61) : ACalls Tryz.prog 81 [.one (.int .i64 n)] (fun r => r = .val (.one (.int .i64 (2 ^ n)))) := by
  have nt : Tryz.f81.ntmps = 13 := rfl
  have rs : Tryz.f81.results = #[.tmp 2] := rfl
  refine ACalls.of_run (m := 400) mixed Tryz.func81 rfl rfl (Nat.le_of_ble_eq_true rfl) ?_
  simp only [nt, rs]
  clear nt rs
  (try refine am (h := ?_)); (try with_reducible apply True.intro)
  refine LoopK.auto (Nat) (fun i => [(3, .one (.av (.int .i64 (2 ^ i)))), (4, .one (.av (.int .i64 i)))]) (fun i => []) [0] (k0 := ?k01) (keepH := ?kh1) 7 (fun i => i ≤ n) (fun i => n - i) (0) ?kea1 ?keb1 ?_ ?_ ?_
  case kea1 => exact amN
  case keb1 => exact amN
  · exact Nat.zero_le _
  · refine Le.of [] [] rfl rfl rfl rfl ?_ ?_ ?_
    all_goals (try refine amL (h := ?_))
    all_goals (try with_reducible apply True.intro)
    rfl
  · intro i hi
    have hp := pow_bd i (by omega)
    (try refine am (h := ?_)); (try with_reducible apply True.intro)
    repeat' (first | (with_reducible refine And.intro ?_ ?_) | (with_reducible intro _))
    all_goals try (first | omega | with_reducible rfl | ((with_reducible refine eqId ?_); exact rfl) | with_reducible assumption | (with_reducible exact And.left (by assumption)) | (with_reducible exact And.right (by assumption)) | (with_reducible exact And.left (And.right (by assumption))) | (with_reducible exact And.left (And.left (by assumption))) | (with_reducible exact And.right (And.left (by assumption))) | (with_reducible exact And.left (And.left (And.left (by assumption)))) | (with_reducible exact And.right (And.left (And.left (by assumption)))))
    · have h : i < n := by assumption
      have := pow_bd (i + 1) (by omega)
      rw [Int.pow_succ] at this
      omega
    · refine ⟨i + 1, ?_, by omega, by omega⟩
      refine Le.of [] [] rfl rfl rfl rfl ?_ ?_ ?_
      all_goals (try refine amL (h := ?_))
      all_goals (try with_reducible apply True.intro)
      rw [Int.pow_succ]
    · refine FinK.val1 ?_ ?_
      all_goals (try refine amF (h := ?_))
      all_goals (try with_reducible apply True.intro)
      have : i = n := by omega
      rw [this]

set_option maxHeartbeats 2000000 in
theorem specWindowOk (l : List (List Int)) (u v : Bool) (hl : l.length ≤ 2 ^ 47) (hr : ∀ r ∈ l, r.length ≤ 2 ^ 47) : ACalls Tryz.prog 52 [.agg [aL u v l]] (fun r => r = .val (.one (.bool (wokB l)))) := by
  have nt : Tryz.f52.ntmps = 46 := rfl
  have rs : Tryz.f52.results = #[.tmp 2] := rfl
  refine ACalls.of_run (m := 400) mixed Tryz.func52 rfl rfl (Nat.le_of_ble_eq_true rfl) ?_
  simp only [nt, rs]
  clear nt rs
  (try refine am (h := ?_)); (try with_reducible apply True.intro)
  repeat' (first | (with_reducible refine And.intro ?_ ?_) | (with_reducible intro _))
  all_goals try (first | omega | with_reducible rfl | ((with_reducible refine eqId ?_); exact rfl) | with_reducible assumption | (with_reducible exact And.left (by assumption)) | (with_reducible exact And.right (by assumption)) | (with_reducible exact And.left (And.right (by assumption))) | (with_reducible exact And.left (And.left (by assumption))) | (with_reducible exact And.right (And.left (by assumption))) | (with_reducible exact And.left (And.left (And.left (by assumption)))) | (with_reducible exact And.right (And.left (And.left (by assumption)))))
  · refine FinK.val1 ?_ ?_
    all_goals (try refine amF (h := ?_))
    all_goals (try with_reducible apply True.intro)
    exact (wokB_false (fun h => by have := h.1; omega)).symm
  · rename_i h8
    refine LoopK.intro (Nat) (fun i => [(3, .one (.av (.int .i64 i)))]) (fun i => []) [1] [1] 50 (fun i => i ≤ l.length ∧ ∀ r, r < i → rok r (l.getD r [])) (fun i => l.length - i) (0) ?_ ?_ ?_
    · exact ⟨Nat.zero_le _, fun r hr => by omega⟩
    · refine Le.of [(1, 1)] [] rfl rfl rfl rfl ?_ ?_ ?_
      all_goals (try refine amL (h := ?_))
      all_goals (try with_reducible apply True.intro)
    · rintro i ⟨hi, hok⟩
      (try refine am (h := ?_)); (try with_reducible apply True.intro)
      repeat' (first | (with_reducible refine And.intro ?_ ?_) | (with_reducible intro _))
      all_goals try (first | omega | with_reducible rfl | ((with_reducible refine eqId ?_); exact rfl) | with_reducible assumption | (with_reducible exact And.left (by assumption)) | (with_reducible exact And.right (by assumption)) | (with_reducible exact And.left (And.right (by assumption))) | (with_reducible exact And.left (And.left (by assumption))) | (with_reducible exact And.right (And.left (by assumption))) | (with_reducible exact And.left (And.left (And.left (by assumption)))) | (with_reducible exact And.right (And.left (And.left (by assumption)))))
      · have hlt : i < l.length := by assumption
        have hm : (l.getD i []).length ≤ 2 ^ 47 := hr _ (getD_mem hlt)
        first | refine CallK.one (l1In _ _ _) (fun _ => amC) ?_ | refine CallE.one (l1In _ _ _) (fun _ => amC) rfl ?_ | refine CallG.one rfl (fun hg => l1In _ _ _) ?_ | refine CallEG.one rfl rfl (fun hg => l1In _ _ _) ?_
        (try refine am (h := ?_)); (try with_reducible apply True.intro)
        repeat' (first | (with_reducible refine And.intro ?_ ?_) | (with_reducible intro _))
        all_goals try (first | omega | with_reducible rfl | ((with_reducible refine eqId ?_); exact rfl) | with_reducible assumption | (with_reducible exact And.left (by assumption)) | (with_reducible exact And.right (by assumption)) | (with_reducible exact And.left (And.right (by assumption))) | (with_reducible exact And.left (And.left (by assumption))) | (with_reducible exact And.right (And.left (by assumption))) | (with_reducible exact And.left (And.left (And.left (by assumption)))) | (with_reducible exact And.right (And.left (And.left (by assumption)))))
        · refine FinK.val1 ?_ ?_
          all_goals (try refine amF (h := ?_))
          all_goals (try with_reducible apply True.intro)
          rename_i h2
          exact (wokB_false (fun h => h2 (by have := (h.2 i hlt).1; omega))).symm
        · rename_i h2 h3
          refine LoopK.intro (Nat) (fun j => [(4, .one (.av (.int .i64 j)))]) (fun j => []) [1, 3] [1] 50 (fun j => j ≤ (l.getD i []).length ∧ ∀ k, k < j → 0 ≤ (l.getD i []).getD k 0 ∧ (l.getD i []).getD k 0 ≤ 2 ^ i) (fun j => (l.getD i []).length - j) (0) ?_ ?_ ?_
          · exact ⟨Nat.zero_le _, fun r hr => by omega⟩
          · refine Le.of [(1, 1)] [] rfl rfl rfl rfl ?_ ?_ ?_
            all_goals (try refine amL (h := ?_))
            all_goals (try with_reducible apply True.intro)
          · rintro j ⟨hj, hok2⟩
            (try refine am (h := ?_)); (try with_reducible apply True.intro)
            repeat' (first | (with_reducible refine And.intro ?_ ?_) | (with_reducible intro _))
            all_goals try (first | omega | with_reducible rfl | ((with_reducible refine eqId ?_); exact rfl) | with_reducible assumption | (with_reducible exact And.left (by assumption)) | (with_reducible exact And.right (by assumption)) | (with_reducible exact And.left (And.right (by assumption))) | (with_reducible exact And.left (And.left (by assumption))) | (with_reducible exact And.right (And.left (by assumption))) | (with_reducible exact And.left (And.left (And.left (by assumption)))) | (with_reducible exact And.right (And.left (And.left (by assumption)))))
            · have hlt2 : j < (l.getD i []).length := by assumption
              refine CallE.one (l16Power _ (by omega)) (fun _ => amC) rfl ?_
              (try refine am (h := ?_)); (try with_reducible apply True.intro)
              refine CallE.one (l1In _ _ _) (fun _ => amC) rfl ?_
              (try refine am (h := ?_)); (try with_reducible apply True.intro)
              repeat' (first | (with_reducible refine And.intro ?_ ?_) | (with_reducible intro _))
              all_goals try (first | omega | with_reducible rfl | ((with_reducible refine eqId ?_); exact rfl) | with_reducible assumption | (with_reducible exact And.left (by assumption)) | (with_reducible exact And.right (by assumption)) | (with_reducible exact And.left (And.right (by assumption))) | (with_reducible exact And.left (And.left (by assumption))) | (with_reducible exact And.right (And.left (by assumption))) | (with_reducible exact And.left (And.left (And.left (by assumption)))) | (with_reducible exact And.right (And.left (And.left (by assumption)))))
              · refine FinK.val1 ?_ ?_
                all_goals (try refine amF (h := ?_))
                all_goals (try with_reducible apply True.intro)
                rename_i h4
                exact (wokB_false (fun h => h4 ((h.2 i hlt).2 j hlt2))).symm
              · rename_i h4 h5
                refine ⟨j + 1, ?_, ⟨by omega, fun k hk => ?_⟩, by omega⟩
                · refine Le.of [(1, 1)] [] rfl rfl rfl rfl ?_ ?_ ?_
                  all_goals (try refine amL (h := ?_))
                  all_goals (try with_reducible apply True.intro)
                · by_cases e : k = j
                  · subst e; assumption
                  · exact hok2 k (by omega)
            · refine ⟨i + 1, ?_, ⟨by omega, fun r hr => ?_⟩, by omega⟩
              · refine Le.of [(1, 1)] [] rfl rfl rfl rfl ?_ ?_ ?_
                all_goals (try refine amL (h := ?_))
                all_goals (try with_reducible apply True.intro)
              · by_cases e : r = i
                · subst e; exact ⟨⟨by omega, by omega⟩, fun k hk => hok2 k (by omega)⟩
                · exact hok r (by omega)
      · refine FinK.val1 ?_ ?_
        all_goals (try refine amF (h := ?_))
        all_goals (try with_reducible apply True.intro)
        exact (wokB_true ⟨by omega, fun r hr => hok r (by omega)⟩).symm

set_option maxHeartbeats 2000000 in
theorem indexFunc1 (l : List Int) (u : Bool) (nl : Option Bool) (f : FuncId) (g : Nat → AV) (p : Int → Bool) (hl : l.length ≤ 2 ^ 47) (hf : ∀ x ∈ l, ACalls Tryz.prog f [.one (.int .i64 x), .one (g 0)] (fun r => r = .val (.one (.bool (p x))))) :
    ACalls Tryz.prog 118 [.one (.sl u nl 1 l.length (fI l)), .one (.fn (.func f) 1 g)] (fun r => r = .val (.one (.int .i64 (fidx p l 0)))) := by
  have nt : Tryz.f118.ntmps = 19 := rfl
  have rs : Tryz.f118.results = #[.tmp 4] := rfl
  refine ACalls.of_run (m := 400) mixed Tryz.func118 rfl rfl (Nat.le_of_ble_eq_true rfl) ?_
  simp only [nt, rs]
  clear nt rs
  (try refine am (h := ?_)); (try with_reducible apply True.intro)
  refine LoopK.auto (Nat) (fun i => [(8, .one (.av (.int .i64 i)))]) (fun i => []) [0, 1, 7] (k0 := ?k02) (keepH := ?kh2) 50 (fun i => i ≤ l.length ∧ fidx p l 0 = fidx p (l.drop i) i) (fun i => l.length - i) (0) ?kea2 ?keb2 ?_ ?_ ?_
  case kea2 => exact amN
  case keb2 => exact amN
  · exact ⟨Nat.zero_le _, by simp⟩
  · refine Le.of [] [] rfl rfl rfl rfl ?_ ?_ ?_
    all_goals (try refine amL (h := ?_))
    all_goals (try with_reducible apply True.intro)
  · rintro i ⟨hi, hs⟩
    (try refine am (h := ?_)); (try with_reducible apply True.intro)
    repeat' (first | (with_reducible refine And.intro ?_ ?_) | (with_reducible intro _))
    all_goals try (first | omega | with_reducible rfl | ((with_reducible refine eqId ?_); exact rfl) | with_reducible assumption | (with_reducible exact And.left (by assumption)) | (with_reducible exact And.right (by assumption)) | (with_reducible exact And.left (And.right (by assumption))) | (with_reducible exact And.left (And.left (by assumption))) | (with_reducible exact And.right (And.left (by assumption))) | (with_reducible exact And.left (And.left (And.left (by assumption)))) | (with_reducible exact And.right (And.left (And.left (by assumption)))))
    · have hlt : i < l.length := by assumption
      first | refine CallK.one (hf _ (getD_mem hlt)) (fun _ => amC) ?_ | refine CallE.one (hf _ (getD_mem hlt)) (fun _ => amC) rfl ?_ | refine CallG.one rfl (fun hg => hf _ (getD_mem hlt)) ?_ | refine CallEG.one rfl rfl (fun hg => hf _ (getD_mem hlt)) ?_
      (try refine am (h := ?_)); (try with_reducible apply True.intro)
      rw [drop_cons (d := 0) hlt] at hs
      simp only [fidx] at hs
      repeat' (first | (with_reducible refine And.intro ?_ ?_) | (with_reducible intro _))
      all_goals try (first | omega | with_reducible rfl | ((with_reducible refine eqId ?_); exact rfl) | with_reducible assumption | (with_reducible exact And.left (by assumption)) | (with_reducible exact And.right (by assumption)) | (with_reducible exact And.left (And.right (by assumption))) | (with_reducible exact And.left (And.left (by assumption))) | (with_reducible exact And.right (And.left (by assumption))) | (with_reducible exact And.left (And.left (And.left (by assumption)))) | (with_reducible exact And.right (And.left (And.left (by assumption)))))
      · refine FinK.val1 ?_ ?_
        all_goals (try refine amF (h := ?_))
        all_goals (try with_reducible apply True.intro)
        have hp : p (l.getD i 0) = true := by assumption
        rw [hp] at hs
        exact hs.symm
      · have hp : p (l.getD i 0) = false := by assumption
        rw [hp] at hs
        refine ⟨i + 1, ?_, ⟨by omega, hs⟩, by omega⟩
        refine Le.of [] [] rfl rfl rfl rfl ?_ ?_ ?_
        all_goals (try refine amL (h := ?_))
        all_goals (try with_reducible apply True.intro)
    · refine FinK.val1 ?_ ?_
      all_goals (try refine amF (h := ?_))
      all_goals (try with_reducible apply True.intro)
      have : i = l.length := by omega
      subst this
      rw [List.drop_length] at hs
      exact hs.symm

set_option maxHeartbeats 2000000 in
theorem containsFunc1 (l : List Int) (u : Bool) (nl : Option Bool) (f : FuncId) (g : Nat → AV) (p : Int → Bool) (hl : l.length ≤ 2 ^ 47) (hf : ∀ x ∈ l, ACalls Tryz.prog f [.one (.int .i64 x), .one (g 0)] (fun r => r = .val (.one (.bool (p x))))) :
    ACalls Tryz.prog 90 [.one (.sl u nl 1 l.length (fI l)), .one (.fn (.func f) 1 g)] (fun r => r = .val (.one (.bool (l.any p)))) := by
  have nt : Tryz.f90.ntmps = 9 := rfl
  have rs : Tryz.f90.results = #[.tmp 4] := rfl
  refine ACalls.of_run (m := 400) mixed Tryz.func90 rfl rfl (Nat.le_of_ble_eq_true rfl) ?_
  simp only [nt, rs]
  clear nt rs
  (try refine am (h := ?_)); (try with_reducible apply True.intro)
  first | refine CallK.one (indexFunc1 l _ _ f _ p hl (fun x hx => hf x hx)) (fun _ => amC) ?_ | refine CallE.one (indexFunc1 l _ _ f _ p hl (fun x hx => hf x hx)) (fun _ => amC) rfl ?_ | refine CallG.one rfl (fun hg => indexFunc1 l _ _ f _ p hl (fun x hx => hf x hx)) ?_ | refine CallEG.one rfl rfl (fun hg => indexFunc1 l _ _ f _ p hl (fun x hx => hf x hx)) ?_
  (try refine am (h := ?_)); (try with_reducible apply True.intro)
  refine FinK.val1 ?_ ?_
  all_goals (try refine amF (h := ?_))
  all_goals (try with_reducible apply True.intro)
  exact fidx_any p l 0 (by omega)

set_option maxHeartbeats 2000000 in
theorem windowOk1 (x : Int) (r : Nat) (hr : r ≤ 61) (m : Nat) (hm : 1 ≤ m) (g : Nat → AV) (hg : g 0 = .int .i64 r) :
    ACalls Tryz.prog 91 [.one (.int .i64 x), .one (.ptr m g)] (fun q => q = .val (.one (.bool (!decide (0 ≤ x ∧ x ≤ 2 ^ r))))) := by
  have hp := pow_bd r (by omega)
  have nt : Tryz.f91.ntmps = 9 := rfl
  have rs : Tryz.f91.results = #[.tmp 3] := rfl
  refine ACalls.of_run (m := 400) mixed Tryz.func91 rfl rfl (Nat.le_of_ble_eq_true rfl) ?_
  simp only [nt, rs]
  clear nt rs
  (try refine am (h := ?_)); (try with_reducible apply True.intro)
  (try refine am (h := ?_)); (try simp only [hg]); (try refine am (h := ?_)); (try with_reducible apply True.intro)
  repeat' (first | (with_reducible refine And.intro ?_ ?_) | (with_reducible intro _))
  all_goals try (first | omega | with_reducible rfl | ((with_reducible refine eqId ?_); exact rfl) | with_reducible assumption | (with_reducible exact And.left (by assumption)) | (with_reducible exact And.right (by assumption)) | (with_reducible exact And.left (And.right (by assumption))) | (with_reducible exact And.left (And.left (by assumption))) | (with_reducible exact And.right (And.left (by assumption))) | (with_reducible exact And.left (And.left (And.left (by assumption)))) | (with_reducible exact And.right (And.left (And.left (by assumption)))))
  first | refine CallK.one (within _ _ _) (fun _ => amC) ?_ | refine CallE.one (within _ _ _) (fun _ => amC) rfl ?_ | refine CallG.one rfl (fun hg => within _ _ _) ?_ | refine CallEG.one rfl rfl (fun hg => within _ _ _) ?_
  (try refine am (h := ?_)); (try with_reducible apply True.intro)
  refine FinK.val1 ?_ ?_
  all_goals (try refine amF (h := ?_))
  all_goals (try with_reducible apply True.intro)

set_option maxHeartbeats 2000000 in
theorem implWindowOk (l : List (List Int)) (u v : Bool) (hl : l.length ≤ 2 ^ 47) (hr : ∀ r ∈ l, r.length ≤ 2 ^ 47) : ACalls Tryz.prog 64 [.agg [aL u v l]] (fun r => r = .val (.one (.bool (wokB l)))) := by
  have nt : Tryz.f64.ntmps = 27 := rfl
  have rs : Tryz.f64.results = #[.tmp 2] := rfl
  refine ACalls.of_run (m := 400) mixed Tryz.func64 rfl rfl (Nat.le_of_ble_eq_true rfl) ?_
  simp only [nt, rs]
  clear nt rs
  (try refine am (h := ?_)); (try with_reducible apply True.intro)
  repeat' (first | (with_reducible refine And.intro ?_ ?_) | (with_reducible intro _))
  all_goals try (first | omega | with_reducible rfl | ((with_reducible refine eqId ?_); exact rfl) | with_reducible assumption | (with_reducible exact And.left (by assumption)) | (with_reducible exact And.right (by assumption)) | (with_reducible exact And.left (And.right (by assumption))) | (with_reducible exact And.left (And.left (by assumption))) | (with_reducible exact And.right (And.left (by assumption))) | (with_reducible exact And.left (And.left (And.left (by assumption)))) | (with_reducible exact And.right (And.left (And.left (by assumption)))))
  · refine FinK.val1 ?_ ?_
    all_goals (try refine amF (h := ?_))
    all_goals (try with_reducible apply True.intro)
    exact (wokB_false (fun h => by have := h.1; omega)).symm
  · rename_i h8
    refine LoopK.intro (Nat) (fun i => [(12, .one (.av (.int .i64 i)))]) (fun i => []) [10, 11] [1] 50 (fun i => i ≤ l.length ∧ ∀ r, r < i → rok r (l.getD r [])) (fun i => l.length - i) (0) ?_ ?_ ?_
    · exact ⟨Nat.zero_le _, fun r hr => by omega⟩
    · refine Le.of [(1, 1)] [] rfl rfl rfl rfl ?_ ?_ ?_
      all_goals (try refine amL (h := ?_))
      all_goals (try with_reducible apply True.intro)
    · rintro i ⟨hi, hok⟩
      (try refine am (h := ?_)); (try with_reducible apply True.intro)
      repeat' (first | (with_reducible refine And.intro ?_ ?_) | (with_reducible intro _))
      all_goals try (first | omega | with_reducible rfl | ((with_reducible refine eqId ?_); exact rfl) | with_reducible assumption | (with_reducible exact And.left (by assumption)) | (with_reducible exact And.right (by assumption)) | (with_reducible exact And.left (And.right (by assumption))) | (with_reducible exact And.left (And.left (by assumption))) | (with_reducible exact And.right (And.left (by assumption))) | (with_reducible exact And.left (And.left (And.left (by assumption)))) | (with_reducible exact And.right (And.left (And.left (by assumption)))))
      · have hlt : i < l.length := by assumption
        have hm : (l.getD i []).length ≤ 2 ^ 47 := hr _ (getD_mem hlt)
        first | refine CallK.one (within _ _ _) (fun _ => amC) ?_ | refine CallE.one (within _ _ _) (fun _ => amC) rfl ?_ | refine CallG.one rfl (fun hg => within _ _ _) ?_ | refine CallEG.one rfl rfl (fun hg => within _ _ _) ?_
        (try refine am (h := ?_)); (try with_reducible apply True.intro)
        repeat' (first | (with_reducible refine And.intro ?_ ?_) | (with_reducible intro _))
        all_goals try (first | omega | with_reducible rfl | ((with_reducible refine eqId ?_); exact rfl) | with_reducible assumption | (with_reducible exact And.left (by assumption)) | (with_reducible exact And.right (by assumption)) | (with_reducible exact And.left (And.right (by assumption))) | (with_reducible exact And.left (And.left (by assumption))) | (with_reducible exact And.right (And.left (by assumption))) | (with_reducible exact And.left (And.left (And.left (by assumption)))) | (with_reducible exact And.right (And.left (And.left (by assumption)))))
        first | refine CallG.one rfl (fun hg => containsFunc1 _ _ _ _ _ (fun x => !decide (0 ≤ x ∧ x ≤ 2 ^ i)) hm (fun x hx => windowOk1 x i (by omega) _ (by omega) _ rfl)) ?_ | refine CallEG.one rfl rfl (fun hg => containsFunc1 _ _ _ _ _ (fun x => !decide (0 ≤ x ∧ x ≤ 2 ^ i)) hm (fun x hx => windowOk1 x i (by omega) _ (by omega) _ rfl)) ?_
        (try refine am (h := ?_)); (try with_reducible apply True.intro)
        repeat' (first | (with_reducible refine And.intro ?_ ?_) | (with_reducible intro _))
        all_goals try (first | omega | with_reducible rfl | ((with_reducible refine eqId ?_); exact rfl) | with_reducible assumption | (with_reducible exact And.left (by assumption)) | (with_reducible exact And.right (by assumption)) | (with_reducible exact And.left (And.right (by assumption))) | (with_reducible exact And.left (And.left (by assumption))) | (with_reducible exact And.right (And.left (by assumption))) | (with_reducible exact And.left (And.left (And.left (by assumption)))) | (with_reducible exact And.right (And.left (And.left (by assumption)))))
        · refine FinK.val1 ?_ ?_
          all_goals (try refine amF (h := ?_))
          all_goals (try with_reducible apply True.intro)
          rename_i hc
          refine (wokB_false (fun h => ?_)).symm
          have h1 := (rok_iff _ _).1 (h.2 i hlt)
          rcases hc with hc | hc
          · exact hc (by omega)
          · rw [h1.2] at hc; cases hc
        · rename_i hc
          refine ⟨i + 1, ?_, ⟨by omega, fun r hr => ?_⟩, by omega⟩
          · refine Le.of [(1, 1)] [] rfl rfl rfl rfl ?_ ?_ ?_
            all_goals (try refine amL (h := ?_))
            all_goals (try with_reducible apply True.intro)
          · by_cases e : r = i
            · subst e; exact (rok_iff _ _).2 ⟨by omega, hc.2⟩
            · exact hok r (by omega)
      · refine FinK.val1 ?_ ?_
        all_goals (try refine amF (h := ?_))
        all_goals (try with_reducible apply True.intro)
        exact (wokB_true ⟨by omega, fun r hr => hok r (by omega)⟩).symm
end Go.AM
namespace Go.AM
open Go Go.Proofs
set_option maxRecDepth 100000
set_option maxHeartbeats 2000000 in
theorem implDetOk (x : DDet) (u v : Bool) (h : okDet (2 ^ 47) x) : ACalls Tryz.prog 30 [.agg (cDet u v x)] (fun r => r = .val (.one (.bool (wokB x.warn && wokB x.drift)))) := by
  have nt : Tryz.f30.ntmps = 11 := rfl
  have rs : Tryz.f30.results = #[.tmp 2] := rfl
  refine ACalls.of_run (m := 400) mixed Tryz.func30 rfl rfl (Nat.le_of_ble_eq_true rfl) ?_
  simp only [nt, rs]
  clear nt rs
  (try refine am (h := ?_)); (try with_reducible apply True.intro)
  first | refine CallK.one (implWindowOk x.warn _ _ h.1.1 (fun r hr => (h.1.2 r hr).1)) (fun _ => amC) ?_ | refine CallE.one (implWindowOk x.warn _ _ h.1.1 (fun r hr => (h.1.2 r hr).1)) (fun _ => amC) rfl ?_ | refine CallG.one rfl (fun hg => implWindowOk x.warn _ _ h.1.1 (fun r hr => (h.1.2 r hr).1)) ?_ | refine CallEG.one rfl rfl (fun hg => implWindowOk x.warn _ _ h.1.1 (fun r hr => (h.1.2 r hr).1)) ?_
  (try refine am (h := ?_)); (try with_reducible apply True.intro)
  repeat' (first | (with_reducible refine And.intro ?_ ?_) | (with_reducible intro _))
  all_goals try (first | omega | with_reducible rfl | ((with_reducible refine eqId ?_); exact rfl) | with_reducible assumption | (with_reducible exact And.left (by assumption)) | (with_reducible exact And.right (by assumption)) | (with_reducible exact And.left (And.right (by assumption))) | (with_reducible exact And.left (And.left (by assumption))) | (with_reducible exact And.right (And.left (by assumption))) | (with_reducible exact And.left (And.left (And.left (by assumption)))) | (with_reducible exact And.right (And.left (And.left (by assumption)))))
  first | refine CallG.one rfl (fun hg => implWindowOk x.drift _ _ h.2.1 (fun r hr => (h.2.2 r hr).1)) ?_ | refine CallEG.one rfl rfl (fun hg => implWindowOk x.drift _ _ h.2.1 (fun r hr => (h.2.2 r hr).1)) ?_
  (try refine am (h := ?_)); (try with_reducible apply True.intro)
  repeat' (first | (with_reducible refine And.intro ?_ ?_) | (with_reducible intro _))
  all_goals try (first | omega | with_reducible rfl | ((with_reducible refine eqId ?_); exact rfl) | with_reducible assumption | (with_reducible exact And.left (by assumption)) | (with_reducible exact And.right (by assumption)) | (with_reducible exact And.left (And.right (by assumption))) | (with_reducible exact And.left (And.left (by assumption))) | (with_reducible exact And.right (And.left (by assumption))) | (with_reducible exact And.left (And.left (And.left (by assumption)))) | (with_reducible exact And.right (And.left (And.left (by assumption)))))
  refine FinK.val1 ?_ ?_
  all_goals (try refine amF (h := ?_))
  all_goals (try with_reducible apply True.intro)
  first | done | rfl
set_option maxHeartbeats 2000000 in
theorem specDetOk (x : DDet) (u v : Bool) (h : okDet (2 ^ 47) x) : ACalls Tryz.prog 23 [.agg (cDet u v x)] (fun r => r = .val (.one (.bool (wokB x.warn && wokB x.drift)))) := by
  have nt : Tryz.f23.ntmps = 11 := rfl
  have rs : Tryz.f23.results = #[.tmp 2] := rfl
  refine ACalls.of_run (m := 400) mixed Tryz.func23 rfl rfl (Nat.le_of_ble_eq_true rfl) ?_
  simp only [nt, rs]
  clear nt rs
  (try refine am (h := ?_)); (try with_reducible apply True.intro)
  first | refine CallK.one (specWindowOk x.warn _ _ h.1.1 (fun r hr => (h.1.2 r hr).1)) (fun _ => amC) ?_ | refine CallE.one (specWindowOk x.warn _ _ h.1.1 (fun r hr => (h.1.2 r hr).1)) (fun _ => amC) rfl ?_ | refine CallG.one rfl (fun hg => specWindowOk x.warn _ _ h.1.1 (fun r hr => (h.1.2 r hr).1)) ?_ | refine CallEG.one rfl rfl (fun hg => specWindowOk x.warn _ _ h.1.1 (fun r hr => (h.1.2 r hr).1)) ?_
  (try refine am (h := ?_)); (try with_reducible apply True.intro)
  repeat' (first | (with_reducible refine And.intro ?_ ?_) | (with_reducible intro _))
  all_goals try (first | omega | with_reducible rfl | ((with_reducible refine eqId ?_); exact rfl) | with_reducible assumption | (with_reducible exact And.left (by assumption)) | (with_reducible exact And.right (by assumption)) | (with_reducible exact And.left (And.right (by assumption))) | (with_reducible exact And.left (And.left (by assumption))) | (with_reducible exact And.right (And.left (by assumption))) | (with_reducible exact And.left (And.left (And.left (by assumption)))) | (with_reducible exact And.right (And.left (And.left (by assumption)))))
  first | refine CallG.one rfl (fun hg => specWindowOk x.drift _ _ h.2.1 (fun r hr => (h.2.2 r hr).1)) ?_ | refine CallEG.one rfl rfl (fun hg => specWindowOk x.drift _ _ h.2.1 (fun r hr => (h.2.2 r hr).1)) ?_
  (try refine am (h := ?_)); (try with_reducible apply True.intro)
  repeat' (first | (with_reducible refine And.intro ?_ ?_) | (with_reducible intro _))
  all_goals try (first | omega | with_reducible rfl | ((with_reducible refine eqId ?_); exact rfl) | with_reducible assumption | (with_reducible exact And.left (by assumption)) | (with_reducible exact And.right (by assumption)) | (with_reducible exact And.left (And.right (by assumption))) | (with_reducible exact And.left (And.left (by assumption))) | (with_reducible exact And.right (And.left (by assumption))) | (with_reducible exact And.left (And.left (And.left (by assumption)))) | (with_reducible exact And.right (And.left (And.left (by assumption)))))
  refine FinK.val1 ?_ ?_
  all_goals (try refine amF (h := ?_))
  all_goals (try with_reducible apply True.intro)
  first | done | rfl
end Go.AM
