/- Lemmas for the proof of this claim. -/
import Derived.Test.YtbfofhfeghfpoaaBas
import Derived.Test.YtbfofhfeghfpoaaData
namespace Go.AM
open Go Go.Proofs
set_option maxRecDepth 100000
set_option maxHeartbeats 2000000 in
theorem l16Power (n : Nat) (hn : n ≤ 61) : ACalls Try.prog 112 [.one (.int .i64 n)] (fun r => r = .val (.one (.int .i64 (2 ^ n)))) := by
  have nt : Try.f112.ntmps = 13 := rfl
  have rs : Try.f112.results = #[.tmp 2] := rfl
  refine ACalls.of_run (m := 400) mixed Try.func112 rfl rfl (Nat.le_of_ble_eq_true rfl) ?_
  simp only [nt, rs]
  clear nt rs
  (try refine am (h := ?_)); (try with_reducible apply True.intro)
  refine LoopK.auto (Nat) (fun i => [(3, .one (.av (.int .i64 (2 ^ i)))), (4, .one (.av (.int .i64 i)))]) (fun i => []) [0] (k0 := ?k01) (keepH := ?kh1) 7 (fun i => i ≤ n) (fun i => n - i) (0) ?kea1 ?keb1 ?_ ?_ ?_
  case kea1 => exact amN
  case keb1 => exact amN
  · exact Nat.zero_le _
  · refine Le.of [] [] rfl rfl rfl rfl ?_ ?_ ?_
    all_goals (try refine amL (h := ?_))
    all_goals (try with_reducible apply True.intro)
    rfl
  · intro i hi
    have hp := pow_bd i (by omega)
    (try refine am (h := ?_)); (try with_reducible apply True.intro)
    repeat' (first | (with_reducible refine And.intro ?_ ?_) | (with_reducible intro _))
    all_goals try (first | omega | with_reducible rfl | ((with_reducible refine eqId ?_); exact rfl) | with_reducible (first | assumption | exact pl ‹_› | exact pr ‹_› | exact plr ‹_› | exact pll ‹_› | exact prl ‹_› | exact plll ‹_› | exact prll ‹_›))
    · have h : i < n := by assumption
      have := pow_bd (i + 1) (by omega)
      rw [Int.pow_succ] at this
      omega
    · refine ⟨i + 1, ?_, by omega, by omega⟩
      refine Le.of [] [] rfl rfl rfl rfl ?_ ?_ ?_
      all_goals (try refine amL (h := ?_))
      all_goals (try with_reducible apply True.intro)
      rw [Int.pow_succ]
    · refine FinK.val1 ?_ ?_
      all_goals (try refine amF (h := ?_))
      all_goals (try with_reducible apply True.intro)
      have : i = n := by omega
      rw [this]
set_option maxHeartbeats 2000000 in
theorem specWindowOk (l : List (List Int)) (u v : Bool) (hl : l.length ≤ 2 ^ 47) (hr : ∀ r ∈ l, r.length ≤ 2 ^ 47) : ACalls Try.prog 88 [.agg [aL u v l]] (fun r => r = .val (.one (.bool (wokB l)))) := by
  have nt : Try.f88.ntmps = 46 := rfl
  have rs : Try.f88.results = #[.tmp 2] := rfl
  refine ACalls.of_run (m := 400) mixed Try.func88 rfl rfl (Nat.le_of_ble_eq_true rfl) ?_
  simp only [nt, rs]
  clear nt rs
  (try refine am (h := ?_)); (try with_reducible apply True.intro)
  repeat' (first | (with_reducible refine And.intro ?_ ?_) | (with_reducible intro _))
  all_goals try (first | omega | with_reducible rfl | ((with_reducible refine eqId ?_); exact rfl) | with_reducible (first | assumption | exact pl ‹_› | exact pr ‹_› | exact plr ‹_› | exact pll ‹_› | exact prl ‹_› | exact plll ‹_› | exact prll ‹_›))
  · refine FinK.val1 ?_ ?_
    all_goals (try refine amF (h := ?_))
    all_goals (try with_reducible apply True.intro)
    exact (wokB_false (fun h => by have := h.1; omega)).symm
  · rename_i h8
    refine LoopK.intro (Nat) (fun i => [(3, .one (.av (.int .i64 i)))]) (fun i => []) [1] [1] 50 (fun i => i ≤ l.length ∧ ∀ r, r < i → rok r (l.getD r [])) (fun i => l.length - i) (0) ?_ ?_ ?_
    · exact ⟨Nat.zero_le _, fun r hr => by omega⟩
    · refine Le.of [(1, 1)] [] rfl rfl rfl rfl ?_ ?_ ?_
      all_goals (try refine amL (h := ?_))
      all_goals (try with_reducible apply True.intro)
    · rintro i ⟨hi, hok⟩
      (try refine am (h := ?_)); (try with_reducible apply True.intro)
      repeat' (first | (with_reducible refine And.intro ?_ ?_) | (with_reducible intro _))
      all_goals try (first | omega | with_reducible rfl | ((with_reducible refine eqId ?_); exact rfl) | with_reducible (first | assumption | exact pl ‹_› | exact pr ‹_› | exact plr ‹_› | exact pll ‹_› | exact prl ‹_› | exact plll ‹_› | exact prll ‹_›))
      · have hlt : i < l.length := by assumption
        have hm : (l.getD i []).length ≤ 2 ^ 47 := hr _ (getD_mem hlt)
        first | refine CallK.one (l1In _ _ _) (fun _ => amC) ?_ | refine CallE.one (l1In _ _ _) (fun _ => amC) rfl ?_ | refine CallG.one rfl (fun hg => l1In _ _ _) ?_ | refine CallEG.one rfl rfl (fun hg => l1In _ _ _) ?_ | refine CallCE.one (l1In _ _ _) (fun _ => amC) rfl ?_
        (try refine am (h := ?_)); (try with_reducible apply True.intro)
        repeat' (first | (with_reducible refine And.intro ?_ ?_) | (with_reducible intro _))
        all_goals try (first | omega | with_reducible rfl | ((with_reducible refine eqId ?_); exact rfl) | with_reducible (first | assumption | exact pl ‹_› | exact pr ‹_› | exact plr ‹_› | exact pll ‹_› | exact prl ‹_› | exact plll ‹_› | exact prll ‹_›))
        · refine FinK.val1 ?_ ?_
          all_goals (try refine amF (h := ?_))
          all_goals (try with_reducible apply True.intro)
          rename_i h2
          exact (wokB_false (fun h => h2 (by have := (h.2 i hlt).1; omega))).symm
        · rename_i h2 h3
          refine LoopK.intro (Nat) (fun j => [(4, .one (.av (.int .i64 j)))]) (fun j => []) [1, 3] [1] 50 (fun j => j ≤ (l.getD i []).length ∧ ∀ k, k < j → 0 ≤ (l.getD i []).getD k 0 ∧ (l.getD i []).getD k 0 ≤ 2 ^ i) (fun j => (l.getD i []).length - j) (0) ?_ ?_ ?_
          · exact ⟨Nat.zero_le _, fun r hr => by omega⟩
          · refine Le.of [(1, 1)] [] rfl rfl rfl rfl ?_ ?_ ?_
            all_goals (try refine amL (h := ?_))
            all_goals (try with_reducible apply True.intro)
          · rintro j ⟨hj, hok2⟩
            (try refine am (h := ?_)); (try with_reducible apply True.intro)
            repeat' (first | (with_reducible refine And.intro ?_ ?_) | (with_reducible intro _))
            all_goals try (first | omega | with_reducible rfl | ((with_reducible refine eqId ?_); exact rfl) | with_reducible (first | assumption | exact pl ‹_› | exact pr ‹_› | exact plr ‹_› | exact pll ‹_› | exact prl ‹_› | exact plll ‹_› | exact prll ‹_›))
            · have hlt2 : j < (l.getD i []).length := by assumption
              refine CallE.one (l16Power _ (by omega)) (fun _ => amC) rfl ?_
              (try refine am (h := ?_)); (try with_reducible apply True.intro)
              refine CallE.one (l1In _ _ _) (fun _ => amC) rfl ?_
              (try refine am (h := ?_)); (try with_reducible apply True.intro)
              repeat' (first | (with_reducible refine And.intro ?_ ?_) | (with_reducible intro _))
              all_goals try (first | omega | with_reducible rfl | ((with_reducible refine eqId ?_); exact rfl) | with_reducible (first | assumption | exact pl ‹_› | exact pr ‹_› | exact plr ‹_› | exact pll ‹_› | exact prl ‹_› | exact plll ‹_› | exact prll ‹_›))
              · refine FinK.val1 ?_ ?_
                all_goals (try refine amF (h := ?_))
                all_goals (try with_reducible apply True.intro)
                rename_i h4
                exact (wokB_false (fun h => h4 ((h.2 i hlt).2 j hlt2))).symm
              · rename_i h4 h5
                refine ⟨j + 1, ?_, ⟨by omega, fun k hk => ?_⟩, by omega⟩
                · refine Le.of [(1, 1)] [] rfl rfl rfl rfl ?_ ?_ ?_
                  all_goals (try refine amL (h := ?_))
                  all_goals (try with_reducible apply True.intro)
                · by_cases e : k = j
                  · subst e; assumption
                  · exact hok2 k (by omega)
            · refine ⟨i + 1, ?_, ⟨by omega, fun r hr => ?_⟩, by omega⟩
              · refine Le.of [(1, 1)] [] rfl rfl rfl rfl ?_ ?_ ?_
                all_goals (try refine amL (h := ?_))
                all_goals (try with_reducible apply True.intro)
              · by_cases e : r = i
                · subst e; exact ⟨⟨by omega, by omega⟩, fun k hk => hok2 k (by omega)⟩
                · exact hok r (by omega)
      · refine FinK.val1 ?_ ?_
        all_goals (try refine amF (h := ?_))
        all_goals (try with_reducible apply True.intro)
        exact (wokB_true ⟨by omega, fun r hr => hok r (by omega)⟩).symm
set_option maxHeartbeats 2000000 in
theorem indexFunc1 (l : List Int) (u : Bool) (nl : Option Bool) (f : FuncId) (g : Nat → AV) (p : Int → Bool) (hl : l.length ≤ 2 ^ 47) (hf : ∀ x ∈ l, ACalls Try.prog f [.one (.int .i64 x), .one (g 0)] (fun r => r = .val (.one (.bool (p x))))) :
    ACalls Try.prog 95 [.one (.sl u nl 1 l.length (fI l)), .one (.fn (.func f) 1 g)] (fun r => r = .val (.one (.int .i64 (fidx p l 0)))) := by
  have nt : Try.f95.ntmps = 19 := rfl
  have rs : Try.f95.results = #[.tmp 4] := rfl
  refine ACalls.of_run (m := 400) mixed Try.func95 rfl rfl (Nat.le_of_ble_eq_true rfl) ?_
  simp only [nt, rs]
  clear nt rs
  (try refine am (h := ?_)); (try with_reducible apply True.intro)
  refine LoopK.auto (Nat) (fun i => [(8, .one (.av (.int .i64 i)))]) (fun i => []) [0, 1, 7] (k0 := ?k02) (keepH := ?kh2) 50 (fun i => i ≤ l.length ∧ fidx p l 0 = fidx p (l.drop i) i) (fun i => l.length - i) (0) ?kea2 ?keb2 ?_ ?_ ?_
  case kea2 => exact amN
  case keb2 => exact amN
  · exact ⟨Nat.zero_le _, by simp⟩
  · refine Le.of [] [] rfl rfl rfl rfl ?_ ?_ ?_
    all_goals (try refine amL (h := ?_))
    all_goals (try with_reducible apply True.intro)
  · rintro i ⟨hi, hs⟩
    (try refine am (h := ?_)); (try with_reducible apply True.intro)
    repeat' (first | (with_reducible refine And.intro ?_ ?_) | (with_reducible intro _))
    all_goals try (first | omega | with_reducible rfl | ((with_reducible refine eqId ?_); exact rfl) | with_reducible (first | assumption | exact pl ‹_› | exact pr ‹_› | exact plr ‹_› | exact pll ‹_› | exact prl ‹_› | exact plll ‹_› | exact prll ‹_›))
    · have hlt : i < l.length := by assumption
      first | refine CallK.one (hf _ (getD_mem hlt)) (fun _ => amC) ?_ | refine CallE.one (hf _ (getD_mem hlt)) (fun _ => amC) rfl ?_ | refine CallG.one rfl (fun hg => hf _ (getD_mem hlt)) ?_ | refine CallEG.one rfl rfl (fun hg => hf _ (getD_mem hlt)) ?_ | refine CallCE.one (hf _ (getD_mem hlt)) (fun _ => amC) rfl ?_
      (try refine am (h := ?_)); (try with_reducible apply True.intro)
      rw [drop_cons (d := 0) hlt] at hs
      simp only [fidx] at hs
      repeat' (first | (with_reducible refine And.intro ?_ ?_) | (with_reducible intro _))
      all_goals try (first | omega | with_reducible rfl | ((with_reducible refine eqId ?_); exact rfl) | with_reducible (first | assumption | exact pl ‹_› | exact pr ‹_› | exact plr ‹_› | exact pll ‹_› | exact prl ‹_› | exact plll ‹_› | exact prll ‹_›))
      · refine FinK.val1 ?_ ?_
        all_goals (try refine amF (h := ?_))
        all_goals (try with_reducible apply True.intro)
        have hp : p (l.getD i 0) = true := by assumption
        rw [hp] at hs
        exact hs.symm
      · have hp : p (l.getD i 0) = false := by assumption
        rw [hp] at hs
        refine ⟨i + 1, ?_, ⟨by omega, hs⟩, by omega⟩
        refine Le.of [] [] rfl rfl rfl rfl ?_ ?_ ?_
        all_goals (try refine amL (h := ?_))
        all_goals (try with_reducible apply True.intro)
    · refine FinK.val1 ?_ ?_
      all_goals (try refine amF (h := ?_))
      all_goals (try with_reducible apply True.intro)
      have : i = l.length := by omega
      subst this
      rw [List.drop_length] at hs
      exact hs.symm
set_option maxHeartbeats 2000000 in
theorem containsFunc1 (l : List Int) (u : Bool) (nl : Option Bool) (f : FuncId) (g : Nat → AV) (p : Int → Bool) (hl : l.length ≤ 2 ^ 47) (hf : ∀ x ∈ l, ACalls Try.prog f [.one (.int .i64 x), .one (g 0)] (fun r => r = .val (.one (.bool (p x))))) :
    ACalls Try.prog 58 [.one (.sl u nl 1 l.length (fI l)), .one (.fn (.func f) 1 g)] (fun r => r = .val (.one (.bool (l.any p)))) := by
  have nt : Try.f58.ntmps = 9 := rfl
  have rs : Try.f58.results = #[.tmp 4] := rfl
  refine ACalls.of_run (m := 400) mixed Try.func58 rfl rfl (Nat.le_of_ble_eq_true rfl) ?_
  simp only [nt, rs]
  clear nt rs
  (try refine am (h := ?_)); (try with_reducible apply True.intro)
  first | refine CallK.one (indexFunc1 l _ _ f _ p hl (fun x hx => hf x hx)) (fun _ => amC) ?_ | refine CallE.one (indexFunc1 l _ _ f _ p hl (fun x hx => hf x hx)) (fun _ => amC) rfl ?_ | refine CallG.one rfl (fun hg => indexFunc1 l _ _ f _ p hl (fun x hx => hf x hx)) ?_ | refine CallEG.one rfl rfl (fun hg => indexFunc1 l _ _ f _ p hl (fun x hx => hf x hx)) ?_ | refine CallCE.one (indexFunc1 l _ _ f _ p hl (fun x hx => hf x hx)) (fun _ => amC) rfl ?_
  (try refine am (h := ?_)); (try with_reducible apply True.intro)
  refine FinK.val1 ?_ ?_
  all_goals (try refine amF (h := ?_))
  all_goals (try with_reducible apply True.intro)
  exact fidx_any p l 0 (by omega)
set_option maxHeartbeats 2000000 in
theorem windowOk1 (x : Int) (r : Nat) (hr : r ≤ 61) (m : Nat) (hm : 1 ≤ m) (g : Nat → AV) (hg : g 0 = .int .i64 r) :
    ACalls Try.prog 104 [.one (.int .i64 x), .one (.ptr m g)] (fun q => q = .val (.one (.bool (!decide (0 ≤ x ∧ x ≤ 2 ^ r))))) := by
  have hp := pow_bd r (by omega)
  have nt : Try.f104.ntmps = 9 := rfl
  have rs : Try.f104.results = #[.tmp 3] := rfl
  refine ACalls.of_run (m := 400) mixed Try.func104 rfl rfl (Nat.le_of_ble_eq_true rfl) ?_
  simp only [nt, rs]
  clear nt rs
  (try refine am (h := ?_)); (try with_reducible apply True.intro)
  (try refine am (h := ?_)); (try simp only [hg]); (try refine am (h := ?_)); (try with_reducible apply True.intro)
  repeat' (first | (with_reducible refine And.intro ?_ ?_) | (with_reducible intro _))
  all_goals try (first | omega | with_reducible rfl | ((with_reducible refine eqId ?_); exact rfl) | with_reducible (first | assumption | exact pl ‹_› | exact pr ‹_› | exact plr ‹_› | exact pll ‹_› | exact prl ‹_› | exact plll ‹_› | exact prll ‹_›))
  first | refine CallK.one (within _ _ _) (fun _ => amC) ?_ | refine CallE.one (within _ _ _) (fun _ => amC) rfl ?_ | refine CallG.one rfl (fun hg => within _ _ _) ?_ | refine CallEG.one rfl rfl (fun hg => within _ _ _) ?_ | refine CallCE.one (within _ _ _) (fun _ => amC) rfl ?_
  (try refine am (h := ?_)); (try with_reducible apply True.intro)
  refine FinK.val1 ?_ ?_
  all_goals (try refine amF (h := ?_))
  all_goals (try with_reducible apply True.intro)
set_option maxHeartbeats 2000000 in
theorem implWindowOk (l : List (List Int)) (u v : Bool) (hl : l.length ≤ 2 ^ 47) (hr : ∀ r ∈ l, r.length ≤ 2 ^ 47) : ACalls Try.prog 77 [.agg [aL u v l]] (fun r => r = .val (.one (.bool (wokB l)))) := by
  have nt : Try.f77.ntmps = 27 := rfl
  have rs : Try.f77.results = #[.tmp 2] := rfl
  refine ACalls.of_run (m := 400) mixed Try.func77 rfl rfl (Nat.le_of_ble_eq_true rfl) ?_
  simp only [nt, rs]
  clear nt rs
  (try refine am (h := ?_)); (try with_reducible apply True.intro)
  repeat' (first | (with_reducible refine And.intro ?_ ?_) | (with_reducible intro _))
  all_goals try (first | omega | with_reducible rfl | ((with_reducible refine eqId ?_); exact rfl) | with_reducible (first | assumption | exact pl ‹_› | exact pr ‹_› | exact plr ‹_› | exact pll ‹_› | exact prl ‹_› | exact plll ‹_› | exact prll ‹_›))
  · refine FinK.val1 ?_ ?_
    all_goals (try refine amF (h := ?_))
    all_goals (try with_reducible apply True.intro)
    exact (wokB_false (fun h => by have := h.1; omega)).symm
  · rename_i h8
    refine LoopK.intro (Nat) (fun i => [(12, .one (.av (.int .i64 i)))]) (fun i => []) [10, 11] [1] 50 (fun i => i ≤ l.length ∧ ∀ r, r < i → rok r (l.getD r [])) (fun i => l.length - i) (0) ?_ ?_ ?_
    · exact ⟨Nat.zero_le _, fun r hr => by omega⟩
    · refine Le.of [(1, 1)] [] rfl rfl rfl rfl ?_ ?_ ?_
      all_goals (try refine amL (h := ?_))
      all_goals (try with_reducible apply True.intro)
    · rintro i ⟨hi, hok⟩
      (try refine am (h := ?_)); (try with_reducible apply True.intro)
      repeat' (first | (with_reducible refine And.intro ?_ ?_) | (with_reducible intro _))
      all_goals try (first | omega | with_reducible rfl | ((with_reducible refine eqId ?_); exact rfl) | with_reducible (first | assumption | exact pl ‹_› | exact pr ‹_› | exact plr ‹_› | exact pll ‹_› | exact prl ‹_› | exact plll ‹_› | exact prll ‹_›))
      · have hlt : i < l.length := by assumption
        have hm : (l.getD i []).length ≤ 2 ^ 47 := hr _ (getD_mem hlt)
        first | refine CallK.one (within _ _ _) (fun _ => amC) ?_ | refine CallE.one (within _ _ _) (fun _ => amC) rfl ?_ | refine CallG.one rfl (fun hg => within _ _ _) ?_ | refine CallEG.one rfl rfl (fun hg => within _ _ _) ?_ | refine CallCE.one (within _ _ _) (fun _ => amC) rfl ?_
        (try refine am (h := ?_)); (try with_reducible apply True.intro)
        repeat' (first | (with_reducible refine And.intro ?_ ?_) | (with_reducible intro _))
        all_goals try (first | omega | with_reducible rfl | ((with_reducible refine eqId ?_); exact rfl) | with_reducible (first | assumption | exact pl ‹_› | exact pr ‹_› | exact plr ‹_› | exact pll ‹_› | exact prl ‹_› | exact plll ‹_› | exact prll ‹_›))
        first | refine CallG.one rfl (fun hg => containsFunc1 _ _ _ _ _ (fun x => !decide (0 ≤ x ∧ x ≤ 2 ^ i)) hm (fun x hx => windowOk1 x i (by omega) _ (by omega) _ rfl)) ?_ | refine CallEG.one rfl rfl (fun hg => containsFunc1 _ _ _ _ _ (fun x => !decide (0 ≤ x ∧ x ≤ 2 ^ i)) hm (fun x hx => windowOk1 x i (by omega) _ (by omega) _ rfl)) ?_
        (try refine am (h := ?_)); (try with_reducible apply True.intro)
        repeat' (first | (with_reducible refine And.intro ?_ ?_) | (with_reducible intro _))
        all_goals try (first | omega | with_reducible rfl | ((with_reducible refine eqId ?_); exact rfl) | with_reducible (first | assumption | exact pl ‹_› | exact pr ‹_› | exact plr ‹_› | exact pll ‹_› | exact prl ‹_› | exact plll ‹_› | exact prll ‹_›))
        · refine FinK.val1 ?_ ?_
          all_goals (try refine amF (h := ?_))
          all_goals (try with_reducible apply True.intro)
          rename_i hc
          refine (wokB_false (fun h => ?_)).symm
          have h1 := (rok_iff _ _).1 (h.2 i hlt)
          rcases hc with hc | hc
          · exact hc (by omega)
          · rw [h1.2] at hc; cases hc
        · rename_i hc
          refine ⟨i + 1, ?_, ⟨by omega, fun r hr => ?_⟩, by omega⟩
          · refine Le.of [(1, 1)] [] rfl rfl rfl rfl ?_ ?_ ?_
            all_goals (try refine amL (h := ?_))
            all_goals (try with_reducible apply True.intro)
          · by_cases e : r = i
            · subst e; exact (rok_iff _ _).2 ⟨by omega, hc.2⟩
            · exact hok r (by omega)
      · refine FinK.val1 ?_ ?_
        all_goals (try refine amF (h := ?_))
        all_goals (try with_reducible apply True.intro)
        exact (wokB_true ⟨by omega, fun r hr => hok r (by omega)⟩).symm
end Go.AM
namespace Go.AM
open Go Go.Proofs
set_option maxRecDepth 100000
theorem bkLe0 {g : Nat → Nat → AV} {nl : Option Bool} : ALe (.sl true nl 2 0 g) (.sl true none 2 0 (fBucket [])) := ALe.of (.inl rfl) rfl (fun i hi => by omega)
set_option maxHeartbeats 2000000 in
theorem implBuckets (l : List (List Int)) (u v : Bool) (h : okL (2 ^ 47) l) : ACalls Try.prog 32 [.agg [aL u v l]] (fun r => r = .val (.one (aBucket true (bkts l)))) := by
  have hl := h.1
  have nt : Try.f32.ntmps = 38 := rfl
  have rs : Try.f32.results = #[.tmp 2] := rfl
  refine ACalls.of_run (m := 400) mixed Try.func32 rfl rfl (Nat.le_of_ble_eq_true rfl) ?_
  simp only [nt, rs]
  clear nt rs
  (try refine am (h := ?_)); (try with_reducible apply True.intro)
  first | refine CallK.one (implWindowOk l _ _ h.1 (fun r hr => (h.2 r hr).1)) (fun _ => amC) ?_ | refine CallE.one (implWindowOk l _ _ h.1 (fun r hr => (h.2 r hr).1)) (fun _ => amC) rfl ?_ | refine CallG.one rfl (fun hg => implWindowOk l _ _ h.1 (fun r hr => (h.2 r hr).1)) ?_ | refine CallEG.one rfl rfl (fun hg => implWindowOk l _ _ h.1 (fun r hr => (h.2 r hr).1)) ?_ | refine CallCE.one (implWindowOk l _ _ h.1 (fun r hr => (h.2 r hr).1)) (fun _ => amC) rfl ?_
  (try refine am (h := ?_)); (try with_reducible apply True.intro)
  repeat' (first | (with_reducible refine And.intro ?_ ?_) | (with_reducible intro _))
  all_goals try (first | omega | with_reducible rfl | ((with_reducible refine eqId ?_); exact rfl) | with_reducible (first | assumption | exact pl ‹_› | exact pr ‹_› | exact plr ‹_› | exact pll ‹_› | exact prl ‹_› | exact plll ‹_› | exact prll ‹_›))
  · rename_i hw
    have hw : ¬ wok l := by simpa [wokB] using hw
    refine FinK.val1 ?_ ?_
    all_goals (try refine amF (h := ?_))
    all_goals (try with_reducible apply True.intro)
    have e : bkts l = [] := if_neg hw
    rw [e]
    exact ALe.nil _ _ _ _ _
  rename_i hw
  have hw : wok l := by simpa [wokB] using hw
  have h8 := hw.1
  refine LoopK.auto (Nat) (fun q => [(4, .one (.av (.int .i64 ((q : Int) - 1)))), (3, .one (.own 302 [] [0]))]) (fun q => [(302, ⟨.sl true none 2 (bkUp l (l.length - q)).length (fBucket (bkUp l (l.length - q))), []⟩)]) [1] (k0 := ?k01) (keepH := ?kh1) 400 (fun q => q ≤ l.length) (fun q => q) (l.length) ?kea1 ?keb1 ?_ ?_ ?_
  case kea1 => exact amN
  case keb1 => exact amN
  · exact Nat.le_refl _
  · refine Le.auto [] (r0 := ?r01) (ren := ?ren1) ?ea1 ?eb1 ?a1 ?b1 ?c1 ?d1 ?ho1 ?hn1 ?ht1
    case ea1 => exact amR
    case eb1 => exact amR
    case a1 => exact rfl
    case b1 => exact rfl
    case c1 => exact rfl
    case d1 => exact rfl
    all_goals (try refine amL (h := ?_))
    all_goals (try with_reducible apply True.intro)
    · rw [Nat.sub_self]; exact bkLe0
  · intro q hq
    (try refine am (h := ?_)); (try with_reducible apply True.intro)
    repeat' (first | (with_reducible refine And.intro ?_ ?_) | (with_reducible intro _))
    all_goals try (first | omega | with_reducible rfl | ((with_reducible refine eqId ?_); exact rfl) | with_reducible (first | assumption | exact pl ‹_› | exact pr ‹_› | exact plr ‹_› | exact pll ‹_› | exact prl ‹_› | exact plll ‹_› | exact prll ‹_›))
    · obtain ⟨p, rfl⟩ : ∃ p, q = p + 1 := ⟨q - 1, by omega⟩
      have ep : ((((p + 1 : Nat) : Int) - 1)).toNat = p := by omega
      have hrk := hw.2 p (by omega)
      have hlen := bkUp_len hw (k := l.length - (p + 1)) (by omega)
      have hpw := pow_bd p (by omega)
      have hl3 := hrk.1.2
      have ep2 : (((p + 1 : Nat) : Int) - 1) = (p : Int) := by omega
      (try refine am (h := ?_)); (try simp only [ep2]); (try refine am (h := ?_)); (try with_reducible apply True.intro)
      refine LoopK.auto (Nat) (fun j => [(25, .one (.av (.int .i64 j))), (3, .one (.own 302 [] [0]))]) (fun j => [(302, ⟨.sl true none 2 (bkUp l (l.length - (p + 1)) ++ bkR p ((l.getD p []).take j)).length (fBucket (bkUp l (l.length - (p + 1)) ++ bkR p ((l.getD p []).take j))), []⟩)]) [1, 4, 23, 24] (k0 := ?k02) (keepH := ?kh2) 800 (fun j => j ≤ (l.getD p []).length) (fun j => (l.getD p []).length - j) (0) ?kea2 ?keb2 ?_ ?_ ?_
      case kea2 => exact amN
      case keb2 => exact amN
      · exact Nat.zero_le _
      · refine Le.auto [] (r0 := ?r02) (ren := ?ren2) ?ea2 ?eb2 ?a2 ?b2 ?c2 ?d2 ?ho2 ?hn2 ?ht2
        case ea2 => exact amR
        case eb2 => exact amR
        case a2 => exact rfl
        case b2 => exact rfl
        case c2 => exact rfl
        case d2 => exact rfl
        all_goals (try refine amL (h := ?_))
        all_goals (try with_reducible apply True.intro)
        simp [bkR]
        exact .refl _
      · intro j hj
        have hL : (bkUp l (l.length - (p + 1)) ++ bkR p ((l.getD p []).take j)).length ≤ 27 := by
          simp only [List.length_append, bkR_len, List.length_take]
          omega
        (try refine am (h := ?_)); (try with_reducible apply True.intro)
        repeat' (first | (with_reducible refine And.intro ?_ ?_) | (with_reducible intro _))
        all_goals try (first | omega | with_reducible rfl | ((with_reducible refine eqId ?_); exact rfl) | with_reducible (first | assumption | exact pl ‹_› | exact pr ‹_› | exact plr ‹_› | exact pll ‹_› | exact prl ‹_› | exact plll ‹_› | exact prll ‹_›))
        · have hlt2 : j < (l.getD p []).length := by assumption
          refine ⟨j + 1, ?_, by omega, by omega⟩
          refine Le.auto [] (r0 := ?r03) (ren := ?ren3) ?ea3 ?eb3 ?a3 ?b3 ?c3 ?d3 ?ho3 ?hn3 ?ht3
          case ea3 => exact amR
          case eb3 => exact amR
          case a3 => exact rfl
          case b3 => exact rfl
          case c3 => exact rfl
          case d3 => exact rfl
          all_goals (try refine amL (h := ?_))
          all_goals (try with_reducible apply True.intro)
          refine appLe1 (x := ⟨2 ^ p, (l.getD p []).getD j 0⟩) ?_ rfl (.inl rfl)
          rw [bkR_take hlt2, List.append_assoc]
        · refine ⟨p, ?_, by omega, by omega⟩
          refine Le.auto [] (r0 := ?r04) (ren := ?ren4) ?ea4 ?eb4 ?a4 ?b4 ?c4 ?d4 ?ho4 ?hn4 ?ht4
          case ea4 => exact amR
          case eb4 => exact amR
          case a4 => exact rfl
          case b4 => exact rfl
          case c4 => exact rfl
          case d4 => exact rfl
          all_goals (try refine amL (h := ?_))
          all_goals (try with_reducible apply True.intro)
          have e : j = (l.getD p []).length := by omega
          subst e
          rw [List.take_length, ← bkUp_step (by omega)]
          exact .refl _
    · have e : q = 0 := by omega
      subst e
      refine FinK.val1 ?_ ?_
      all_goals (try refine amF (h := ?_))
      all_goals (try with_reducible apply True.intro)
      have e : bkts l = bkUp l l.length := if_pos hw
      rw [e]
      exact .refl _
set_option maxHeartbeats 2000000 in
theorem specBuckets (l : List (List Int)) (u v : Bool) (h : okL (2 ^ 47) l) : ACalls Try.prog 101 [.agg [aL u v l]] (fun r => r = .val (.one (aBucket true (bkts l)))) := by
  have hl := h.1
  have nt : Try.f101.ntmps = 44 := rfl
  have rs : Try.f101.results = #[.tmp 2] := rfl
  refine ACalls.of_run (m := 400) mixed Try.func101 rfl rfl (Nat.le_of_ble_eq_true rfl) ?_
  simp only [nt, rs]
  clear nt rs
  (try refine am (h := ?_)); (try with_reducible apply True.intro)
  repeat' (first | (with_reducible refine And.intro ?_ ?_) | (with_reducible intro _))
  all_goals try (first | omega | with_reducible rfl | ((with_reducible refine eqId ?_); exact rfl) | with_reducible (first | assumption | exact pl ‹_› | exact pr ‹_› | exact plr ‹_› | exact pll ‹_› | exact prl ‹_› | exact plll ‹_› | exact prll ‹_›))
  first | refine CallK.one (specWindowOk l _ _ h.1 (fun r hr => (h.2 r hr).1)) (fun _ => amC) ?_ | refine CallE.one (specWindowOk l _ _ h.1 (fun r hr => (h.2 r hr).1)) (fun _ => amC) rfl ?_ | refine CallG.one rfl (fun hg => specWindowOk l _ _ h.1 (fun r hr => (h.2 r hr).1)) ?_ | refine CallEG.one rfl rfl (fun hg => specWindowOk l _ _ h.1 (fun r hr => (h.2 r hr).1)) ?_ | refine CallCE.one (specWindowOk l _ _ h.1 (fun r hr => (h.2 r hr).1)) (fun _ => amC) rfl ?_
  (try refine am (h := ?_)); (try with_reducible apply True.intro)
  repeat' (first | (with_reducible refine And.intro ?_ ?_) | (with_reducible intro _))
  all_goals try (first | omega | with_reducible rfl | ((with_reducible refine eqId ?_); exact rfl) | with_reducible (first | assumption | exact pl ‹_› | exact pr ‹_› | exact plr ‹_› | exact pll ‹_› | exact prl ‹_› | exact plll ‹_› | exact prll ‹_›))
  · rename_i hw
    have hw : ¬ wok l := by simpa [wokB] using hw
    refine FinK.val1 ?_ ?_
    all_goals (try refine amF (h := ?_))
    all_goals (try with_reducible apply True.intro)
    have e : bkts l = [] := if_neg hw
    rw [e]
    exact bkLe0
  rename_i hw
  have hw : wok l := by simpa [wokB] using hw
  have h8 := hw.1
  refine LoopK.auto (Nat) (fun q => [(4, .one (.av (.int .i64 ((q : Int) - 1)))), (3, .one (.own 302 [] [0]))]) (fun q => [(302, ⟨.sl true none 2 (bkUp l (l.length - q)).length (fBucket (bkUp l (l.length - q))), []⟩)]) [1] (k0 := ?k03) (keepH := ?kh3) 400 (fun q => q ≤ l.length) (fun q => q) (l.length) ?kea3 ?keb3 ?_ ?_ ?_
  case kea3 => exact amN
  case keb3 => exact amN
  · exact Nat.le_refl _
  · refine Le.auto [] (r0 := ?r05) (ren := ?ren5) ?ea5 ?eb5 ?a5 ?b5 ?c5 ?d5 ?ho5 ?hn5 ?ht5
    case ea5 => exact amR
    case eb5 => exact amR
    case a5 => exact rfl
    case b5 => exact rfl
    case c5 => exact rfl
    case d5 => exact rfl
    all_goals (try refine amL (h := ?_))
    all_goals (try with_reducible apply True.intro)
    · rw [Nat.sub_self]; exact bkLe0
  · intro q hq
    (try refine am (h := ?_)); (try with_reducible apply True.intro)
    repeat' (first | (with_reducible refine And.intro ?_ ?_) | (with_reducible intro _))
    all_goals try (first | omega | with_reducible rfl | ((with_reducible refine eqId ?_); exact rfl) | with_reducible (first | assumption | exact pl ‹_› | exact pr ‹_› | exact plr ‹_› | exact pll ‹_› | exact prl ‹_› | exact plll ‹_› | exact prll ‹_›))
    · obtain ⟨p, rfl⟩ : ∃ p, q = p + 1 := ⟨q - 1, by omega⟩
      have hrk := hw.2 p (by omega)
      have hlen := bkUp_len hw (k := l.length - (p + 1)) (by omega)
      have hpw := pow_bd p (by omega)
      have hl3 := hrk.1.2
      have ep2 : (((p + 1 : Nat) : Int) - 1) = (p : Int) := by omega
      (try refine am (h := ?_)); (try simp only [ep2]); (try refine am (h := ?_)); (try with_reducible apply True.intro)
      refine LoopK.auto (Nat) (fun j => [(5, .one (.av (.int .i64 j))), (3, .one (.own 302 [] [0]))]) (fun j => [(302, ⟨.sl true none 2 (bkUp l (l.length - (p + 1)) ++ bkR p ((l.getD p []).take j)).length (fBucket (bkUp l (l.length - (p + 1)) ++ bkR p ((l.getD p []).take j))), []⟩)]) [1, 4] (k0 := ?k04) (keepH := ?kh4) 800 (fun j => j ≤ (l.getD p []).length) (fun j => (l.getD p []).length - j) (0) ?kea4 ?keb4 ?_ ?_ ?_
      case kea4 => exact amN
      case keb4 => exact amN
      · exact Nat.zero_le _
      · refine Le.auto [] (r0 := ?r06) (ren := ?ren6) ?ea6 ?eb6 ?a6 ?b6 ?c6 ?d6 ?ho6 ?hn6 ?ht6
        case ea6 => exact amR
        case eb6 => exact amR
        case a6 => exact rfl
        case b6 => exact rfl
        case c6 => exact rfl
        case d6 => exact rfl
        all_goals (try refine amL (h := ?_))
        all_goals (try with_reducible apply True.intro)
        simp [bkR]
        exact .refl _
      · intro j hj
        have hL : (bkUp l (l.length - (p + 1)) ++ bkR p ((l.getD p []).take j)).length ≤ 27 := by
          simp only [List.length_append, bkR_len, List.length_take]
          omega
        (try refine am (h := ?_)); (try with_reducible apply True.intro)
        repeat' (first | (with_reducible refine And.intro ?_ ?_) | (with_reducible intro _))
        all_goals try (first | omega | with_reducible rfl | ((with_reducible refine eqId ?_); exact rfl) | with_reducible (first | assumption | exact pl ‹_› | exact pr ‹_› | exact plr ‹_› | exact pll ‹_› | exact prl ‹_› | exact plll ‹_› | exact prll ‹_›))
        · have hlt2 : j < (l.getD p []).length := by assumption
          refine CallE.one (l16Power p (by omega)) (fun _ => amC) rfl ?_
          (try refine am (h := ?_)); (try with_reducible apply True.intro)
          repeat' (first | (with_reducible refine And.intro ?_ ?_) | (with_reducible intro _))
          all_goals try (first | omega | with_reducible rfl | ((with_reducible refine eqId ?_); exact rfl) | with_reducible (first | assumption | exact pl ‹_› | exact pr ‹_› | exact plr ‹_› | exact pll ‹_› | exact prl ‹_› | exact plll ‹_› | exact prll ‹_›))
          refine ⟨j + 1, ?_, by omega, by omega⟩
          refine Le.auto [] (r0 := ?r07) (ren := ?ren7) ?ea7 ?eb7 ?a7 ?b7 ?c7 ?d7 ?ho7 ?hn7 ?ht7
          case ea7 => exact amR
          case eb7 => exact amR
          case a7 => exact rfl
          case b7 => exact rfl
          case c7 => exact rfl
          case d7 => exact rfl
          all_goals (try refine amL (h := ?_))
          all_goals (try with_reducible apply True.intro)
          refine appLe1 (x := ⟨2 ^ p, (l.getD p []).getD j 0⟩) ?_ rfl (.inl rfl)
          rw [bkR_take hlt2, List.append_assoc]
        · refine ⟨p, ?_, by omega, by omega⟩
          refine Le.auto [] (r0 := ?r08) (ren := ?ren8) ?ea8 ?eb8 ?a8 ?b8 ?c8 ?d8 ?ho8 ?hn8 ?ht8
          case ea8 => exact amR
          case eb8 => exact amR
          case a8 => exact rfl
          case b8 => exact rfl
          case c8 => exact rfl
          case d8 => exact rfl
          all_goals (try refine amL (h := ?_))
          all_goals (try with_reducible apply True.intro)
          have e : j = (l.getD p []).length := by omega
          subst e
          rw [List.take_length, ← bkUp_step (by omega)]
          exact .refl _
    · have e : q = 0 := by omega
      subst e
      refine FinK.val1 ?_ ?_
      all_goals (try refine amF (h := ?_))
      all_goals (try with_reducible apply True.intro)
      have e : bkts l = bkUp l l.length := if_pos hw
      rw [e]
      exact .refl _
set_option maxHeartbeats 2000000 in
theorem implWindowTotal (l : List (List Int)) (u v : Bool) (h : okL (2 ^ 47) l) : ACalls Try.prog 46 [.agg [aL u v l]] (fun r => r = .val (.one (.int .i64 (bSize (bkts l))))) := by
  have hb := bkts_len (l := l)
  have nt : Try.f46.ntmps = 19 := rfl
  have rs : Try.f46.results = #[.tmp 2] := rfl
  refine ACalls.of_run (m := 400) mixed Try.func46 rfl rfl (Nat.le_of_ble_eq_true rfl) ?_
  simp only [nt, rs]
  clear nt rs
  (try refine am (h := ?_)); (try with_reducible apply True.intro)
  first | refine CallK.one (implBuckets l _ _ h) (fun _ => amC) ?_ | refine CallE.one (implBuckets l _ _ h) (fun _ => amC) rfl ?_ | refine CallG.one rfl (fun hg => implBuckets l _ _ h) ?_ | refine CallEG.one rfl rfl (fun hg => implBuckets l _ _ h) ?_ | refine CallCE.one (implBuckets l _ _ h) (fun _ => amC) rfl ?_
  (try refine am (h := ?_)); (try with_reducible apply True.intro)
  refine LoopK.auto (Nat) (fun i => [(3, .one (.av (.int .i64 (bSize ((bkts l).take i))))), (9, .one (.av (.int .i64 i)))]) (fun i => []) [7, 8] (k0 := ?k05) (keepH := ?kh5) 400 (fun i => i ≤ (bkts l).length) (fun i => (bkts l).length - i) (0) ?kea5 ?keb5 ?_ ?_ ?_
  case kea5 => exact amN
  case keb5 => exact amN
  · exact Nat.zero_le _
  · refine Le.auto [] (r0 := ?r09) (ren := ?ren9) ?ea9 ?eb9 ?a9 ?b9 ?c9 ?d9 ?ho9 ?hn9 ?ht9
    case ea9 => exact amR
    case eb9 => exact amR
    case a9 => exact rfl
    case b9 => exact rfl
    case c9 => exact rfl
    case d9 => exact rfl
    all_goals (try refine amL (h := ?_))
    all_goals (try with_reducible apply True.intro)
    rfl
  · intro i hi
    have ht := bk_take (i := i) (bkts_ok (l := l))
    have ht2 := bk_take (i := i + 1) (bkts_ok (l := l))
    (try refine am (h := ?_)); (try with_reducible apply True.intro)
    repeat' (first | (with_reducible refine And.intro ?_ ?_) | (with_reducible intro _))
    all_goals try (first | omega | with_reducible rfl | ((with_reducible refine eqId ?_); exact rfl) | with_reducible (first | assumption | exact pl ‹_› | exact pr ‹_› | exact plr ‹_› | exact pll ‹_› | exact prl ‹_› | exact plll ‹_› | exact prll ‹_›))
    · have := smI_take (f := DBucket.size) (d := default) (by assumption : i < (bkts l).length)
      unfold bSize bOnes at *
      omega
    · have := smI_take (f := DBucket.size) (d := default) (by assumption : i < (bkts l).length)
      unfold bSize bOnes at *
      omega
    · have := smI_take (f := DBucket.size) (d := default) (by assumption : i < (bkts l).length)
      refine ⟨i + 1, ?_, by omega, by omega⟩
      refine Le.auto [] (r0 := ?r010) (ren := ?ren10) ?ea10 ?eb10 ?a10 ?b10 ?c10 ?d10 ?ho10 ?hn10 ?ht10
      case ea10 => exact amR
      case eb10 => exact amR
      case a10 => exact rfl
      case b10 => exact rfl
      case c10 => exact rfl
      case d10 => exact rfl
      all_goals (try refine amL (h := ?_))
      all_goals (try with_reducible apply True.intro)
      exact this.symm
    · refine FinK.val1 ?_ ?_
      all_goals (try refine amF (h := ?_))
      all_goals (try with_reducible apply True.intro)
      have : i = (bkts l).length := by omega
      rw [this, List.take_length]
set_option maxHeartbeats 2000000 in
theorem implWindowOnes (l : List (List Int)) (u v : Bool) (h : okL (2 ^ 47) l) : ACalls Try.prog 74 [.agg [aL u v l]] (fun r => r = .val (.one (.int .i64 (bOnes (bkts l))))) := by
  have hb := bkts_len (l := l)
  have nt : Try.f74.ntmps = 19 := rfl
  have rs : Try.f74.results = #[.tmp 2] := rfl
  refine ACalls.of_run (m := 400) mixed Try.func74 rfl rfl (Nat.le_of_ble_eq_true rfl) ?_
  simp only [nt, rs]
  clear nt rs
  (try refine am (h := ?_)); (try with_reducible apply True.intro)
  first | refine CallK.one (implBuckets l _ _ h) (fun _ => amC) ?_ | refine CallE.one (implBuckets l _ _ h) (fun _ => amC) rfl ?_ | refine CallG.one rfl (fun hg => implBuckets l _ _ h) ?_ | refine CallEG.one rfl rfl (fun hg => implBuckets l _ _ h) ?_ | refine CallCE.one (implBuckets l _ _ h) (fun _ => amC) rfl ?_
  (try refine am (h := ?_)); (try with_reducible apply True.intro)
  refine LoopK.auto (Nat) (fun i => [(3, .one (.av (.int .i64 (bOnes ((bkts l).take i))))), (9, .one (.av (.int .i64 i)))]) (fun i => []) [7, 8] (k0 := ?k06) (keepH := ?kh6) 400 (fun i => i ≤ (bkts l).length) (fun i => (bkts l).length - i) (0) ?kea6 ?keb6 ?_ ?_ ?_
  case kea6 => exact amN
  case keb6 => exact amN
  · exact Nat.zero_le _
  · refine Le.auto [] (r0 := ?r011) (ren := ?ren11) ?ea11 ?eb11 ?a11 ?b11 ?c11 ?d11 ?ho11 ?hn11 ?ht11
    case ea11 => exact amR
    case eb11 => exact amR
    case a11 => exact rfl
    case b11 => exact rfl
    case c11 => exact rfl
    case d11 => exact rfl
    all_goals (try refine amL (h := ?_))
    all_goals (try with_reducible apply True.intro)
    rfl
  · intro i hi
    have ht := bk_take (i := i) (bkts_ok (l := l))
    have ht2 := bk_take (i := i + 1) (bkts_ok (l := l))
    (try refine am (h := ?_)); (try with_reducible apply True.intro)
    repeat' (first | (with_reducible refine And.intro ?_ ?_) | (with_reducible intro _))
    all_goals try (first | omega | with_reducible rfl | ((with_reducible refine eqId ?_); exact rfl) | with_reducible (first | assumption | exact pl ‹_› | exact pr ‹_› | exact plr ‹_› | exact pll ‹_› | exact prl ‹_› | exact plll ‹_› | exact prll ‹_›))
    · have := smI_take (f := DBucket.ones) (d := default) (by assumption : i < (bkts l).length)
      unfold bSize bOnes at *
      omega
    · have := smI_take (f := DBucket.ones) (d := default) (by assumption : i < (bkts l).length)
      unfold bSize bOnes at *
      omega
    · have := smI_take (f := DBucket.ones) (d := default) (by assumption : i < (bkts l).length)
      refine ⟨i + 1, ?_, by omega, by omega⟩
      refine Le.auto [] (r0 := ?r012) (ren := ?ren12) ?ea12 ?eb12 ?a12 ?b12 ?c12 ?d12 ?ho12 ?hn12 ?ht12
      case ea12 => exact amR
      case eb12 => exact amR
      case a12 => exact rfl
      case b12 => exact rfl
      case c12 => exact rfl
      case d12 => exact rfl
      all_goals (try refine amL (h := ?_))
      all_goals (try with_reducible apply True.intro)
      exact this.symm
    · refine FinK.val1 ?_ ?_
      all_goals (try refine amF (h := ?_))
      all_goals (try with_reducible apply True.intro)
      have : i = (bkts l).length := by omega
      rw [this, List.take_length]
set_option maxHeartbeats 2000000 in
theorem specWindowTotal (l : List (List Int)) (u v : Bool) (h : okL (2 ^ 47) l) : ACalls Try.prog 87 [.agg [aL u v l]] (fun r => r = .val (.one (.int .i64 (bSize (bkts l))))) := by
  have hb := bkts_len (l := l)
  have nt : Try.f87.ntmps = 22 := rfl
  have rs : Try.f87.results = #[.tmp 2] := rfl
  refine ACalls.of_run (m := 400) mixed Try.func87 rfl rfl (Nat.le_of_ble_eq_true rfl) ?_
  simp only [nt, rs]
  clear nt rs
  (try refine am (h := ?_)); (try with_reducible apply True.intro)
  first | refine CallK.one (specBuckets l _ _ h) (fun _ => amC) ?_ | refine CallE.one (specBuckets l _ _ h) (fun _ => amC) rfl ?_ | refine CallG.one rfl (fun hg => specBuckets l _ _ h) ?_ | refine CallEG.one rfl rfl (fun hg => specBuckets l _ _ h) ?_ | refine CallCE.one (specBuckets l _ _ h) (fun _ => amC) rfl ?_
  (try refine am (h := ?_)); (try with_reducible apply True.intro)
  refine LoopK.auto (Nat) (fun i => [(3, .one (.av (.int .i64 (bSize ((bkts l).take i))))), (5, .one (.av (.int .i64 i)))]) (fun i => []) [4] (k0 := ?k07) (keepH := ?kh7) 400 (fun i => i ≤ (bkts l).length) (fun i => (bkts l).length - i) (0) ?kea7 ?keb7 ?_ ?_ ?_
  case kea7 => exact amN
  case keb7 => exact amN
  · exact Nat.zero_le _
  · refine Le.auto [] (r0 := ?r013) (ren := ?ren13) ?ea13 ?eb13 ?a13 ?b13 ?c13 ?d13 ?ho13 ?hn13 ?ht13
    case ea13 => exact amR
    case eb13 => exact amR
    case a13 => exact rfl
    case b13 => exact rfl
    case c13 => exact rfl
    case d13 => exact rfl
    all_goals (try refine amL (h := ?_))
    all_goals (try with_reducible apply True.intro)
    rfl
  · intro i hi
    have ht := bk_take (i := i) (bkts_ok (l := l))
    have ht2 := bk_take (i := i + 1) (bkts_ok (l := l))
    (try refine am (h := ?_)); (try with_reducible apply True.intro)
    repeat' (first | (with_reducible refine And.intro ?_ ?_) | (with_reducible intro _))
    all_goals try (first | omega | with_reducible rfl | ((with_reducible refine eqId ?_); exact rfl) | with_reducible (first | assumption | exact pl ‹_› | exact pr ‹_› | exact plr ‹_› | exact pll ‹_› | exact prl ‹_› | exact plll ‹_› | exact prll ‹_›))
    · have := smI_take (f := DBucket.size) (d := default) (by assumption : i < (bkts l).length)
      unfold bSize bOnes at *
      omega
    · have := smI_take (f := DBucket.size) (d := default) (by assumption : i < (bkts l).length)
      unfold bSize bOnes at *
      omega
    · have := smI_take (f := DBucket.size) (d := default) (by assumption : i < (bkts l).length)
      refine ⟨i + 1, ?_, by omega, by omega⟩
      refine Le.auto [] (r0 := ?r014) (ren := ?ren14) ?ea14 ?eb14 ?a14 ?b14 ?c14 ?d14 ?ho14 ?hn14 ?ht14
      case ea14 => exact amR
      case eb14 => exact amR
      case a14 => exact rfl
      case b14 => exact rfl
      case c14 => exact rfl
      case d14 => exact rfl
      all_goals (try refine amL (h := ?_))
      all_goals (try with_reducible apply True.intro)
      exact this.symm
    · refine FinK.val1 ?_ ?_
      all_goals (try refine amF (h := ?_))
      all_goals (try with_reducible apply True.intro)
      have : i = (bkts l).length := by omega
      rw [this, List.take_length]
set_option maxHeartbeats 2000000 in
theorem specWindowOnes (l : List (List Int)) (u v : Bool) (h : okL (2 ^ 47) l) : ACalls Try.prog 89 [.agg [aL u v l]] (fun r => r = .val (.one (.int .i64 (bOnes (bkts l))))) := by
  have hb := bkts_len (l := l)
  have nt : Try.f89.ntmps = 22 := rfl
  have rs : Try.f89.results = #[.tmp 2] := rfl
  refine ACalls.of_run (m := 400) mixed Try.func89 rfl rfl (Nat.le_of_ble_eq_true rfl) ?_
  simp only [nt, rs]
  clear nt rs
  (try refine am (h := ?_)); (try with_reducible apply True.intro)
  first | refine CallK.one (specBuckets l _ _ h) (fun _ => amC) ?_ | refine CallE.one (specBuckets l _ _ h) (fun _ => amC) rfl ?_ | refine CallG.one rfl (fun hg => specBuckets l _ _ h) ?_ | refine CallEG.one rfl rfl (fun hg => specBuckets l _ _ h) ?_ | refine CallCE.one (specBuckets l _ _ h) (fun _ => amC) rfl ?_
  (try refine am (h := ?_)); (try with_reducible apply True.intro)
  refine LoopK.auto (Nat) (fun i => [(3, .one (.av (.int .i64 (bOnes ((bkts l).take i))))), (5, .one (.av (.int .i64 i)))]) (fun i => []) [4] (k0 := ?k08) (keepH := ?kh8) 400 (fun i => i ≤ (bkts l).length) (fun i => (bkts l).length - i) (0) ?kea8 ?keb8 ?_ ?_ ?_
  case kea8 => exact amN
  case keb8 => exact amN
  · exact Nat.zero_le _
  · refine Le.auto [] (r0 := ?r015) (ren := ?ren15) ?ea15 ?eb15 ?a15 ?b15 ?c15 ?d15 ?ho15 ?hn15 ?ht15
    case ea15 => exact amR
    case eb15 => exact amR
    case a15 => exact rfl
    case b15 => exact rfl
    case c15 => exact rfl
    case d15 => exact rfl
    all_goals (try refine amL (h := ?_))
    all_goals (try with_reducible apply True.intro)
    rfl
  · intro i hi
    have ht := bk_take (i := i) (bkts_ok (l := l))
    have ht2 := bk_take (i := i + 1) (bkts_ok (l := l))
    (try refine am (h := ?_)); (try with_reducible apply True.intro)
    repeat' (first | (with_reducible refine And.intro ?_ ?_) | (with_reducible intro _))
    all_goals try (first | omega | with_reducible rfl | ((with_reducible refine eqId ?_); exact rfl) | with_reducible (first | assumption | exact pl ‹_› | exact pr ‹_› | exact plr ‹_› | exact pll ‹_› | exact prl ‹_› | exact plll ‹_› | exact prll ‹_›))
    · have := smI_take (f := DBucket.ones) (d := default) (by assumption : i < (bkts l).length)
      unfold bSize bOnes at *
      omega
    · have := smI_take (f := DBucket.ones) (d := default) (by assumption : i < (bkts l).length)
      unfold bSize bOnes at *
      omega
    · have := smI_take (f := DBucket.ones) (d := default) (by assumption : i < (bkts l).length)
      refine ⟨i + 1, ?_, by omega, by omega⟩
      refine Le.auto [] (r0 := ?r016) (ren := ?ren16) ?ea16 ?eb16 ?a16 ?b16 ?c16 ?d16 ?ho16 ?hn16 ?ht16
      case ea16 => exact amR
      case eb16 => exact amR
      case a16 => exact rfl
      case b16 => exact rfl
      case c16 => exact rfl
      case d16 => exact rfl
      all_goals (try refine amL (h := ?_))
      all_goals (try with_reducible apply True.intro)
      exact this.symm
    · refine FinK.val1 ?_ ?_
      all_goals (try refine amF (h := ?_))
      all_goals (try with_reducible apply True.intro)
      have : i = (bkts l).length := by omega
      rw [this, List.take_length]
end Go.AM
namespace Go.AM
open Go Go.Proofs
set_option maxRecDepth 100000
set_option maxHeartbeats 2000000 in
theorem implLnOf (k : Int) (hk : inK .i64 k) : ACalls Try.prog 103 [.one (.int .i64 k)] (fun r => r = .val (.one (.int .i64 (lnOf k)))) := by
  have nt : Try.f103.ntmps = 10 := rfl
  have rs : Try.f103.results = #[.tmp 2] := rfl
  refine ACalls.of_run (m := 400) mixed Try.func103 rfl rfl (Nat.le_of_ble_eq_true rfl) ?_
  simp only [nt, rs]
  clear nt rs
  (try refine am (h := ?_)); (try with_reducible apply True.intro)
  first | refine CallK.one (within k 1 9) (fun _ => amC) ?_ | refine CallE.one (within k 1 9) (fun _ => amC) rfl ?_ | refine CallG.one rfl (fun hg => within k 1 9) ?_ | refine CallEG.one rfl rfl (fun hg => within k 1 9) ?_ | refine CallCE.one (within k 1 9) (fun _ => amC) rfl ?_
  (try refine am (h := ?_)); (try with_reducible apply True.intro)
  repeat' (first | (with_reducible refine And.intro ?_ ?_) | (with_reducible intro _))
  all_goals try (first | omega | with_reducible rfl | ((with_reducible refine eqId ?_); exact rfl) | with_reducible (first | assumption | exact pl ‹_› | exact pr ‹_› | exact plr ‹_› | exact pll ‹_› | exact prl ‹_› | exact plll ‹_› | exact prll ‹_›))
  · refine FinK.val1 ?_ ?_
    all_goals (try refine amF (h := ?_))
    all_goals (try with_reducible apply True.intro)
    rename_i h
    exact (if_neg (by omega)).symm
  · have e : (k * 2302585 + 999).tdiv 1000 = (k * 2302585 + 999) / 1000 := Int.tdiv_eq_ediv_of_nonneg (by omega)
    omega
  · have e : (k * 2302585 + 999).tdiv 1000 = (k * 2302585 + 999) / 1000 := Int.tdiv_eq_ediv_of_nonneg (by omega)
    omega
  · refine FinK.val1 ?_ ?_
    all_goals (try refine amF (h := ?_))
    all_goals (try with_reducible apply True.intro)
    rename_i h
    exact (if_pos (by omega)).symm
set_option maxHeartbeats 4000000 in
theorem implCutHere (n u m v k : Int) (hn : inK .i64 n) (hm : inK .i64 m) (hu : inK .i64 u) (hv : inK .i64 v) (hk : inK .i64 k) : ACalls Try.prog 75 [.one (.int .i64 n), .one (.int .i64 u), .one (.int .i64 m), .one (.int .i64 v), .one (.int .i64 k)] (fun r => r = .val (.one (.bool (cutHere n u m v k)))) := by
  have key := cut_bd n u m v k
  have nt : Try.f75.ntmps = 59 := rfl
  have rs : Try.f75.results = #[.tmp 10] := rfl
  refine ACalls.of_run (m := 400) mixed Try.func75 rfl rfl (Nat.le_of_ble_eq_true rfl) ?_
  simp only [nt, rs]
  clear nt rs
  (try refine am (h := ?_)); (try with_reducible apply True.intro)
  first | refine CallK.one (within n 5 1000) (fun _ => amC) ?_ | refine CallE.one (within n 5 1000) (fun _ => amC) rfl ?_ | refine CallG.one rfl (fun hg => within n 5 1000) ?_ | refine CallEG.one rfl rfl (fun hg => within n 5 1000) ?_ | refine CallCE.one (within n 5 1000) (fun _ => amC) rfl ?_
  (try refine am (h := ?_)); (try with_reducible apply True.intro)
  repeat' (first | (with_reducible refine And.intro ?_ ?_) | (with_reducible intro _))
  all_goals try (first | omega | with_reducible rfl | ((with_reducible refine eqId ?_); exact rfl) | with_reducible (first | assumption | exact pl ‹_› | exact pr ‹_› | exact plr ‹_› | exact pll ‹_› | exact prl ‹_› | exact plll ‹_› | exact prll ‹_›))
  first | refine CallG.one rfl (fun hg => within m 5 1000) ?_ | refine CallEG.one rfl rfl (fun hg => within m 5 1000) ?_
  (try refine am (h := ?_)); (try with_reducible apply True.intro)
  repeat' (first | (with_reducible refine And.intro ?_ ?_) | (with_reducible intro _))
  all_goals try (first | omega | with_reducible rfl | ((with_reducible refine eqId ?_); exact rfl) | with_reducible (first | assumption | exact pl ‹_› | exact pr ‹_› | exact plr ‹_› | exact pll ‹_› | exact prl ‹_› | exact plll ‹_› | exact prll ‹_›))
  first | refine CallG.one rfl (fun hg => within u 0 n) ?_ | refine CallEG.one rfl rfl (fun hg => within u 0 n) ?_
  (try refine am (h := ?_)); (try with_reducible apply True.intro)
  repeat' (first | (with_reducible refine And.intro ?_ ?_) | (with_reducible intro _))
  all_goals try (first | omega | with_reducible rfl | ((with_reducible refine eqId ?_); exact rfl) | with_reducible (first | assumption | exact pl ‹_› | exact pr ‹_› | exact plr ‹_› | exact pll ‹_› | exact prl ‹_› | exact plll ‹_› | exact prll ‹_›))
  first | refine CallG.one rfl (fun hg => within v 0 m) ?_ | refine CallEG.one rfl rfl (fun hg => within v 0 m) ?_
  (try refine am (h := ?_)); (try with_reducible apply True.intro)
  repeat' (first | (with_reducible refine And.intro ?_ ?_) | (with_reducible intro _))
  all_goals try (first | omega | with_reducible rfl | ((with_reducible refine eqId ?_); exact rfl) | with_reducible (first | assumption | exact pl ‹_› | exact pr ‹_› | exact plr ‹_› | exact pll ‹_› | exact prl ‹_› | exact plll ‹_› | exact prll ‹_›))
  first | refine CallG.one rfl (fun hg => within k 1 9) ?_ | refine CallEG.one rfl rfl (fun hg => within k 1 9) ?_
  (try refine am (h := ?_)); (try with_reducible apply True.intro)
  repeat' (first | (with_reducible refine And.intro ?_ ?_) | (with_reducible intro _))
  all_goals try (first | omega | with_reducible rfl | ((with_reducible refine eqId ?_); exact rfl) | with_reducible (first | assumption | exact pl ‹_› | exact pr ‹_› | exact plr ‹_› | exact pll ‹_› | exact prl ‹_› | exact plll ‹_› | exact prll ‹_›))
  · refine FinK.val1 ?_ ?_
    all_goals (try refine amF (h := ?_))
    all_goals (try with_reducible apply True.intro)
    rename_i h
    refine (decide_eq_false (fun e => ?_)).symm
    omega
  first | refine CallK.one (implLnOf k hk) (fun _ => amC) ?_ | refine CallE.one (implLnOf k hk) (fun _ => amC) rfl ?_ | refine CallG.one rfl (fun hg => implLnOf k hk) ?_ | refine CallEG.one rfl rfl (fun hg => implLnOf k hk) ?_ | refine CallCE.one (implLnOf k hk) (fun _ => amC) rfl ?_
  (try refine am (h := ?_)); (try with_reducible apply True.intro)
  repeat' (first | (with_reducible refine And.intro ?_ ?_) | (with_reducible intro _))
  all_goals try (first | omega | with_reducible rfl | ((with_reducible refine eqId ?_); exact rfl) | with_reducible (first | assumption | exact pl ‹_› | exact pr ‹_› | exact plr ‹_› | exact pll ‹_› | exact prl ‹_› | exact plll ‹_› | exact prll ‹_›))
  refine FinK.val1 ?_ ?_
  all_goals (try refine amF (h := ?_))
  all_goals (try with_reducible apply True.intro)
  unfold cutHere
  exact decide_eq_decide.2 ⟨fun e => by omega, fun e => by omega⟩
set_option maxHeartbeats 2000000 in
theorem specLnOf (k : Int) (hk : inK .i64 k) : ACalls Try.prog 117 [.one (.int .i64 k)] (fun r => r = .val (.one (.int .i64 (lnOf k)))) := by
  have nt : Try.f117.ntmps = 10 := rfl
  have rs : Try.f117.results = #[.tmp 2] := rfl
  refine ACalls.of_run (m := 400) mixed Try.func117 rfl rfl (Nat.le_of_ble_eq_true rfl) ?_
  simp only [nt, rs]
  clear nt rs
  (try refine am (h := ?_)); (try with_reducible apply True.intro)
  first | refine CallK.one (l1In k 1 9) (fun _ => amC) ?_ | refine CallE.one (l1In k 1 9) (fun _ => amC) rfl ?_ | refine CallG.one rfl (fun hg => l1In k 1 9) ?_ | refine CallEG.one rfl rfl (fun hg => l1In k 1 9) ?_ | refine CallCE.one (l1In k 1 9) (fun _ => amC) rfl ?_
  (try refine am (h := ?_)); (try with_reducible apply True.intro)
  repeat' (first | (with_reducible refine And.intro ?_ ?_) | (with_reducible intro _))
  all_goals try (first | omega | with_reducible rfl | ((with_reducible refine eqId ?_); exact rfl) | with_reducible (first | assumption | exact pl ‹_› | exact pr ‹_› | exact plr ‹_› | exact pll ‹_› | exact prl ‹_› | exact plll ‹_› | exact prll ‹_›))
  · refine FinK.val1 ?_ ?_
    all_goals (try refine amF (h := ?_))
    all_goals (try with_reducible apply True.intro)
    rename_i h
    exact (if_neg (by omega)).symm
  · have e : (k * 2302585 + 999).tdiv 1000 = (k * 2302585 + 999) / 1000 := Int.tdiv_eq_ediv_of_nonneg (by omega)
    omega
  · have e : (k * 2302585 + 999).tdiv 1000 = (k * 2302585 + 999) / 1000 := Int.tdiv_eq_ediv_of_nonneg (by omega)
    omega
  · refine FinK.val1 ?_ ?_
    all_goals (try refine amF (h := ?_))
    all_goals (try with_reducible apply True.intro)
    rename_i h
    exact (if_pos (by omega)).symm
set_option maxHeartbeats 4000000 in
theorem specCutHere (n u m v k : Int) (hn : inK .i64 n) (hm : inK .i64 m) (hu : inK .i64 u) (hv : inK .i64 v) (hk : inK .i64 k) : ACalls Try.prog 102 [.one (.int .i64 n), .one (.int .i64 u), .one (.int .i64 m), .one (.int .i64 v), .one (.int .i64 k)] (fun r => r = .val (.one (.bool (cutHere n u m v k)))) := by
  have key := cut_bd n u m v k
  have nt : Try.f102.ntmps = 59 := rfl
  have rs : Try.f102.results = #[.tmp 10] := rfl
  refine ACalls.of_run (m := 400) mixed Try.func102 rfl rfl (Nat.le_of_ble_eq_true rfl) ?_
  simp only [nt, rs]
  clear nt rs
  (try refine am (h := ?_)); (try with_reducible apply True.intro)
  first | refine CallK.one (l1In n 5 1000) (fun _ => amC) ?_ | refine CallE.one (l1In n 5 1000) (fun _ => amC) rfl ?_ | refine CallG.one rfl (fun hg => l1In n 5 1000) ?_ | refine CallEG.one rfl rfl (fun hg => l1In n 5 1000) ?_ | refine CallCE.one (l1In n 5 1000) (fun _ => amC) rfl ?_
  (try refine am (h := ?_)); (try with_reducible apply True.intro)
  repeat' (first | (with_reducible refine And.intro ?_ ?_) | (with_reducible intro _))
  all_goals try (first | omega | with_reducible rfl | ((with_reducible refine eqId ?_); exact rfl) | with_reducible (first | assumption | exact pl ‹_› | exact pr ‹_› | exact plr ‹_› | exact pll ‹_› | exact prl ‹_› | exact plll ‹_› | exact prll ‹_›))
  first | refine CallG.one rfl (fun hg => l1In m 5 1000) ?_ | refine CallEG.one rfl rfl (fun hg => l1In m 5 1000) ?_
  (try refine am (h := ?_)); (try with_reducible apply True.intro)
  repeat' (first | (with_reducible refine And.intro ?_ ?_) | (with_reducible intro _))
  all_goals try (first | omega | with_reducible rfl | ((with_reducible refine eqId ?_); exact rfl) | with_reducible (first | assumption | exact pl ‹_› | exact pr ‹_› | exact plr ‹_› | exact pll ‹_› | exact prl ‹_› | exact plll ‹_› | exact prll ‹_›))
  first | refine CallG.one rfl (fun hg => l1In u 0 n) ?_ | refine CallEG.one rfl rfl (fun hg => l1In u 0 n) ?_
  (try refine am (h := ?_)); (try with_reducible apply True.intro)
  repeat' (first | (with_reducible refine And.intro ?_ ?_) | (with_reducible intro _))
  all_goals try (first | omega | with_reducible rfl | ((with_reducible refine eqId ?_); exact rfl) | with_reducible (first | assumption | exact pl ‹_› | exact pr ‹_› | exact plr ‹_› | exact pll ‹_› | exact prl ‹_› | exact plll ‹_› | exact prll ‹_›))
  first | refine CallG.one rfl (fun hg => l1In v 0 m) ?_ | refine CallEG.one rfl rfl (fun hg => l1In v 0 m) ?_
  (try refine am (h := ?_)); (try with_reducible apply True.intro)
  repeat' (first | (with_reducible refine And.intro ?_ ?_) | (with_reducible intro _))
  all_goals try (first | omega | with_reducible rfl | ((with_reducible refine eqId ?_); exact rfl) | with_reducible (first | assumption | exact pl ‹_› | exact pr ‹_› | exact plr ‹_› | exact pll ‹_› | exact prl ‹_› | exact plll ‹_› | exact prll ‹_›))
  first | refine CallG.one rfl (fun hg => l1In k 1 9) ?_ | refine CallEG.one rfl rfl (fun hg => l1In k 1 9) ?_
  (try refine am (h := ?_)); (try with_reducible apply True.intro)
  repeat' (first | (with_reducible refine And.intro ?_ ?_) | (with_reducible intro _))
  all_goals try (first | omega | with_reducible rfl | ((with_reducible refine eqId ?_); exact rfl) | with_reducible (first | assumption | exact pl ‹_› | exact pr ‹_› | exact plr ‹_› | exact pll ‹_› | exact prl ‹_› | exact plll ‹_› | exact prll ‹_›))
  · refine FinK.val1 ?_ ?_
    all_goals (try refine amF (h := ?_))
    all_goals (try with_reducible apply True.intro)
    rename_i h
    refine (decide_eq_false (fun e => ?_)).symm
    omega
  first | refine CallK.one (specLnOf k hk) (fun _ => amC) ?_ | refine CallE.one (specLnOf k hk) (fun _ => amC) rfl ?_ | refine CallG.one rfl (fun hg => specLnOf k hk) ?_ | refine CallEG.one rfl rfl (fun hg => specLnOf k hk) ?_ | refine CallCE.one (specLnOf k hk) (fun _ => amC) rfl ?_
  (try refine am (h := ?_)); (try with_reducible apply True.intro)
  repeat' (first | (with_reducible refine And.intro ?_ ?_) | (with_reducible intro _))
  all_goals try (first | omega | with_reducible rfl | ((with_reducible refine eqId ?_); exact rfl) | with_reducible (first | assumption | exact pl ‹_› | exact pr ‹_› | exact plr ‹_› | exact pll ‹_› | exact prl ‹_› | exact plll ‹_› | exact prll ‹_›))
  refine FinK.val1 ?_ ?_
  all_goals (try refine amF (h := ?_))
  all_goals (try with_reducible apply True.intro)
  unfold cutHere
  exact decide_eq_decide.2 ⟨fun e => by omega, fun e => by omega⟩
set_option maxHeartbeats 4000000 in
theorem implCutAt (l : List (List Int)) (k : Int) (u v : Bool) (h : okL (2 ^ 47) l) (hk : inK .i64 k) : ACalls Try.prog 30 [.agg [aL u v l], .one (.int .i64 k)] (fun r => r = .val (.one (.int .i64 (cutAt l k)))) := by
  have hb := bkts_len (l := l)
  have hok := bkts_ok (l := l)
  have hbd := bk_bd hok
  have nt : Try.f30.ntmps = 50 := rfl
  have rs : Try.f30.results = #[.tmp 4] := rfl
  refine ACalls.of_run (m := 400) mixed Try.func30 rfl rfl (Nat.le_of_ble_eq_true rfl) ?_
  simp only [nt, rs]
  clear nt rs
  (try refine am (h := ?_)); (try with_reducible apply True.intro)
  first | refine CallK.one (implBuckets l _ _ h) (fun _ => amC) ?_ | refine CallE.one (implBuckets l _ _ h) (fun _ => amC) rfl ?_ | refine CallG.one rfl (fun hg => implBuckets l _ _ h) ?_ | refine CallEG.one rfl rfl (fun hg => implBuckets l _ _ h) ?_ | refine CallCE.one (implBuckets l _ _ h) (fun _ => amC) rfl ?_
  (try refine am (h := ?_)); (try with_reducible apply True.intro)
  repeat' (first | (with_reducible refine And.intro ?_ ?_) | (with_reducible intro _))
  all_goals try (first | omega | with_reducible rfl | ((with_reducible refine eqId ?_); exact rfl) | with_reducible (first | assumption | exact pl ‹_› | exact pr ‹_› | exact plr ‹_› | exact pll ‹_› | exact prl ‹_› | exact plll ‹_› | exact prll ‹_›))
  first | refine CallK.one (implWindowTotal l _ _ h) (fun _ => amC) ?_ | refine CallE.one (implWindowTotal l _ _ h) (fun _ => amC) rfl ?_ | refine CallG.one rfl (fun hg => implWindowTotal l _ _ h) ?_ | refine CallEG.one rfl rfl (fun hg => implWindowTotal l _ _ h) ?_ | refine CallCE.one (implWindowTotal l _ _ h) (fun _ => amC) rfl ?_
  (try refine am (h := ?_)); (try with_reducible apply True.intro)
  repeat' (first | (with_reducible refine And.intro ?_ ?_) | (with_reducible intro _))
  all_goals try (first | omega | with_reducible rfl | ((with_reducible refine eqId ?_); exact rfl) | with_reducible (first | assumption | exact pl ‹_› | exact pr ‹_› | exact plr ‹_› | exact pll ‹_› | exact prl ‹_› | exact plll ‹_› | exact prll ‹_›))
  first | refine CallK.one (implWindowOnes l _ _ h) (fun _ => amC) ?_ | refine CallE.one (implWindowOnes l _ _ h) (fun _ => amC) rfl ?_ | refine CallG.one rfl (fun hg => implWindowOnes l _ _ h) ?_ | refine CallEG.one rfl rfl (fun hg => implWindowOnes l _ _ h) ?_ | refine CallCE.one (implWindowOnes l _ _ h) (fun _ => amC) rfl ?_
  (try refine am (h := ?_)); (try with_reducible apply True.intro)
  repeat' (first | (with_reducible refine And.intro ?_ ?_) | (with_reducible intro _))
  all_goals try (first | omega | with_reducible rfl | ((with_reducible refine eqId ?_); exact rfl) | with_reducible (first | assumption | exact pl ‹_› | exact pr ‹_› | exact plr ‹_› | exact pll ‹_› | exact prl ‹_› | exact plll ‹_› | exact prll ‹_›))
  refine LoopK.auto (Nat) (fun i => [(8, .one (.av (.int .i64 (bSize ((bkts l).take i))))), (9, .one (.av (.int .i64 (bOnes ((bkts l).take i))))), (10, .one (.av (.int .i64 i)))]) (fun i => []) [1, 5, 6, 7] (k0 := ?k01) (keepH := ?kh1) 400 (fun i => i ≤ (bkts l).length ∧ cutAt l k = cutFrom (bkts l) k i ((bkts l).length - i)) (fun i => (bkts l).length - i) (0) ?kea1 ?keb1 ?_ ?_ ?_
  case kea1 => exact amN
  case keb1 => exact amN
  · exact ⟨Nat.zero_le _, rfl⟩
  · refine Le.auto [] (r0 := ?r01) (ren := ?ren1) ?ea1 ?eb1 ?a1 ?b1 ?c1 ?d1 ?ho1 ?hn1 ?ht1
    case ea1 => exact amR
    case eb1 => exact amR
    case a1 => exact rfl
    case b1 => exact rfl
    case c1 => exact rfl
    case d1 => exact rfl
    all_goals (try refine amL (h := ?_))
    all_goals (try with_reducible apply True.intro)
    all_goals first | rfl | exact ⟨rfl, rfl⟩
  · rintro i ⟨hi, he⟩
    have ht := bk_take (i := i) hok
    have ht2 := bk_take (i := i + 1) hok
    by_cases hlt : i + 1 < (bkts l).length
    · have e1 := smI_take (f := DBucket.size) (d := default) (by omega : i < (bkts l).length)
      have e2 := smI_take (f := DBucket.ones) (d := default) (by omega : i < (bkts l).length)
      have e1' : bSize ((bkts l).take i) + ((bkts l).getD i default).size = bSize ((bkts l).take (i + 1)) := e1.symm
      have e2' : bOnes ((bkts l).take i) + ((bkts l).getD i default).ones = bOnes ((bkts l).take (i + 1)) := e2.symm
      rw [cutFrom_step hlt] at he
      (try refine am (h := ?_)); (try with_reducible apply True.intro)
      (try refine am (h := ?_)); (try simp only [e1', e2']); (try refine am (h := ?_)); (try with_reducible apply True.intro)
      repeat' (first | (with_reducible refine And.intro ?_ ?_) | (with_reducible intro _))
      all_goals try (first | omega | with_reducible rfl | ((with_reducible refine eqId ?_); exact rfl) | with_reducible (first | assumption | exact pl ‹_› | exact pr ‹_› | exact plr ‹_› | exact pll ‹_› | exact prl ‹_› | exact plll ‹_› | exact prll ‹_›))
      · first | refine CallK.one (implCutHere (bSize ((bkts l).take (i + 1))) (bOnes ((bkts l).take (i + 1))) (bSize (bkts l) - bSize ((bkts l).take (i + 1))) (bOnes (bkts l) - bOnes ((bkts l).take (i + 1))) k (inK_bd (by omega)) (inK_bd (by omega)) (inK_bd (by omega)) (inK_bd (by omega)) hk) (fun _ => amC) ?_ | refine CallE.one (implCutHere (bSize ((bkts l).take (i + 1))) (bOnes ((bkts l).take (i + 1))) (bSize (bkts l) - bSize ((bkts l).take (i + 1))) (bOnes (bkts l) - bOnes ((bkts l).take (i + 1))) k (inK_bd (by omega)) (inK_bd (by omega)) (inK_bd (by omega)) (inK_bd (by omega)) hk) (fun _ => amC) rfl ?_ | refine CallG.one rfl (fun hg => implCutHere (bSize ((bkts l).take (i + 1))) (bOnes ((bkts l).take (i + 1))) (bSize (bkts l) - bSize ((bkts l).take (i + 1))) (bOnes (bkts l) - bOnes ((bkts l).take (i + 1))) k (inK_bd (by omega)) (inK_bd (by omega)) (inK_bd (by omega)) (inK_bd (by omega)) hk) ?_ | refine CallEG.one rfl rfl (fun hg => implCutHere (bSize ((bkts l).take (i + 1))) (bOnes ((bkts l).take (i + 1))) (bSize (bkts l) - bSize ((bkts l).take (i + 1))) (bOnes (bkts l) - bOnes ((bkts l).take (i + 1))) k (inK_bd (by omega)) (inK_bd (by omega)) (inK_bd (by omega)) (inK_bd (by omega)) hk) ?_ | refine CallCE.one (implCutHere (bSize ((bkts l).take (i + 1))) (bOnes ((bkts l).take (i + 1))) (bSize (bkts l) - bSize ((bkts l).take (i + 1))) (bOnes (bkts l) - bOnes ((bkts l).take (i + 1))) k (inK_bd (by omega)) (inK_bd (by omega)) (inK_bd (by omega)) (inK_bd (by omega)) hk) (fun _ => amC) rfl ?_
        (try refine am (h := ?_)); (try with_reducible apply True.intro)
        repeat' (first | (with_reducible refine And.intro ?_ ?_) | (with_reducible intro _))
        all_goals try (first | omega | with_reducible rfl | ((with_reducible refine eqId ?_); exact rfl) | with_reducible (first | assumption | exact pl ‹_› | exact pr ‹_› | exact plr ‹_› | exact pll ‹_› | exact prl ‹_› | exact plll ‹_› | exact prll ‹_›))
        · refine FinK.val1 ?_ ?_
          all_goals (try refine amF (h := ?_))
          all_goals (try with_reducible apply True.intro)
          rename_i hc
          rw [he, if_pos hc]
        · rename_i hc
          refine ⟨i + 1, ?_, ⟨by omega, ?_⟩, by omega⟩
          · refine Le.auto [] (r0 := ?r02) (ren := ?ren2) ?ea2 ?eb2 ?a2 ?b2 ?c2 ?d2 ?ho2 ?hn2 ?ht2
            case ea2 => exact amR
            case eb2 => exact amR
            case a2 => exact rfl
            case b2 => exact rfl
            case c2 => exact rfl
            case d2 => exact rfl
            all_goals (try refine amL (h := ?_))
            all_goals (try with_reducible apply True.intro)
          · rw [he, if_neg (by rw [hc]; simp)]
    · rw [cutFrom_end hlt] at he
      (try refine am (h := ?_)); (try with_reducible apply True.intro)
      repeat' (first | (with_reducible refine And.intro ?_ ?_) | (with_reducible intro _))
      all_goals try (first | omega | with_reducible rfl | ((with_reducible refine eqId ?_); exact rfl) | with_reducible (first | assumption | exact pl ‹_› | exact pr ‹_› | exact plr ‹_› | exact pll ‹_› | exact prl ‹_› | exact plll ‹_› | exact prll ‹_›))
      refine FinK.val1 ?_ ?_
      all_goals (try refine amF (h := ?_))
      all_goals (try with_reducible apply True.intro)
      exact he.symm
set_option maxHeartbeats 4000000 in
theorem specCutAt (l : List (List Int)) (k : Int) (u v : Bool) (h : okL (2 ^ 47) l) (hk : inK .i64 k) : ACalls Try.prog 72 [.agg [aL u v l], .one (.int .i64 k)] (fun r => r = .val (.one (.int .i64 (cutAt l k)))) := by
  have hb := bkts_len (l := l)
  have hok := bkts_ok (l := l)
  have hbd := bk_bd hok
  have nt : Try.f72.ntmps = 50 := rfl
  have rs : Try.f72.results = #[.tmp 4] := rfl
  refine ACalls.of_run (m := 400) mixed Try.func72 rfl rfl (Nat.le_of_ble_eq_true rfl) ?_
  simp only [nt, rs]
  clear nt rs
  (try refine am (h := ?_)); (try with_reducible apply True.intro)
  first | refine CallK.one (specBuckets l _ _ h) (fun _ => amC) ?_ | refine CallE.one (specBuckets l _ _ h) (fun _ => amC) rfl ?_ | refine CallG.one rfl (fun hg => specBuckets l _ _ h) ?_ | refine CallEG.one rfl rfl (fun hg => specBuckets l _ _ h) ?_ | refine CallCE.one (specBuckets l _ _ h) (fun _ => amC) rfl ?_
  (try refine am (h := ?_)); (try with_reducible apply True.intro)
  repeat' (first | (with_reducible refine And.intro ?_ ?_) | (with_reducible intro _))
  all_goals try (first | omega | with_reducible rfl | ((with_reducible refine eqId ?_); exact rfl) | with_reducible (first | assumption | exact pl ‹_› | exact pr ‹_› | exact plr ‹_› | exact pll ‹_› | exact prl ‹_› | exact plll ‹_› | exact prll ‹_›))
  first | refine CallK.one (specWindowTotal l _ _ h) (fun _ => amC) ?_ | refine CallE.one (specWindowTotal l _ _ h) (fun _ => amC) rfl ?_ | refine CallG.one rfl (fun hg => specWindowTotal l _ _ h) ?_ | refine CallEG.one rfl rfl (fun hg => specWindowTotal l _ _ h) ?_ | refine CallCE.one (specWindowTotal l _ _ h) (fun _ => amC) rfl ?_
  (try refine am (h := ?_)); (try with_reducible apply True.intro)
  repeat' (first | (with_reducible refine And.intro ?_ ?_) | (with_reducible intro _))
  all_goals try (first | omega | with_reducible rfl | ((with_reducible refine eqId ?_); exact rfl) | with_reducible (first | assumption | exact pl ‹_› | exact pr ‹_› | exact plr ‹_› | exact pll ‹_› | exact prl ‹_› | exact plll ‹_› | exact prll ‹_›))
  first | refine CallK.one (specWindowOnes l _ _ h) (fun _ => amC) ?_ | refine CallE.one (specWindowOnes l _ _ h) (fun _ => amC) rfl ?_ | refine CallG.one rfl (fun hg => specWindowOnes l _ _ h) ?_ | refine CallEG.one rfl rfl (fun hg => specWindowOnes l _ _ h) ?_ | refine CallCE.one (specWindowOnes l _ _ h) (fun _ => amC) rfl ?_
  (try refine am (h := ?_)); (try with_reducible apply True.intro)
  repeat' (first | (with_reducible refine And.intro ?_ ?_) | (with_reducible intro _))
  all_goals try (first | omega | with_reducible rfl | ((with_reducible refine eqId ?_); exact rfl) | with_reducible (first | assumption | exact pl ‹_› | exact pr ‹_› | exact plr ‹_› | exact pll ‹_› | exact prl ‹_› | exact plll ‹_› | exact prll ‹_›))
  refine LoopK.auto (Nat) (fun i => [(8, .one (.av (.int .i64 (bSize ((bkts l).take i))))), (9, .one (.av (.int .i64 (bOnes ((bkts l).take i))))), (10, .one (.av (.int .i64 i)))]) (fun i => []) [1, 5, 6, 7] (k0 := ?k02) (keepH := ?kh2) 400 (fun i => i ≤ (bkts l).length ∧ cutAt l k = cutFrom (bkts l) k i ((bkts l).length - i)) (fun i => (bkts l).length - i) (0) ?kea2 ?keb2 ?_ ?_ ?_
  case kea2 => exact amN
  case keb2 => exact amN
  · exact ⟨Nat.zero_le _, rfl⟩
  · refine Le.auto [] (r0 := ?r03) (ren := ?ren3) ?ea3 ?eb3 ?a3 ?b3 ?c3 ?d3 ?ho3 ?hn3 ?ht3
    case ea3 => exact amR
    case eb3 => exact amR
    case a3 => exact rfl
    case b3 => exact rfl
    case c3 => exact rfl
    case d3 => exact rfl
    all_goals (try refine amL (h := ?_))
    all_goals (try with_reducible apply True.intro)
    all_goals first | rfl | exact ⟨rfl, rfl⟩
  · rintro i ⟨hi, he⟩
    have ht := bk_take (i := i) hok
    have ht2 := bk_take (i := i + 1) hok
    by_cases hlt : i + 1 < (bkts l).length
    · have e1 := smI_take (f := DBucket.size) (d := default) (by omega : i < (bkts l).length)
      have e2 := smI_take (f := DBucket.ones) (d := default) (by omega : i < (bkts l).length)
      have e1' : bSize ((bkts l).take i) + ((bkts l).getD i default).size = bSize ((bkts l).take (i + 1)) := e1.symm
      have e2' : bOnes ((bkts l).take i) + ((bkts l).getD i default).ones = bOnes ((bkts l).take (i + 1)) := e2.symm
      rw [cutFrom_step hlt] at he
      (try refine am (h := ?_)); (try with_reducible apply True.intro)
      (try refine am (h := ?_)); (try simp only [e1', e2']); (try refine am (h := ?_)); (try with_reducible apply True.intro)
      repeat' (first | (with_reducible refine And.intro ?_ ?_) | (with_reducible intro _))
      all_goals try (first | omega | with_reducible rfl | ((with_reducible refine eqId ?_); exact rfl) | with_reducible (first | assumption | exact pl ‹_› | exact pr ‹_› | exact plr ‹_› | exact pll ‹_› | exact prl ‹_› | exact plll ‹_› | exact prll ‹_›))
      · first | refine CallK.one (specCutHere (bSize ((bkts l).take (i + 1))) (bOnes ((bkts l).take (i + 1))) (bSize (bkts l) - bSize ((bkts l).take (i + 1))) (bOnes (bkts l) - bOnes ((bkts l).take (i + 1))) k (inK_bd (by omega)) (inK_bd (by omega)) (inK_bd (by omega)) (inK_bd (by omega)) hk) (fun _ => amC) ?_ | refine CallE.one (specCutHere (bSize ((bkts l).take (i + 1))) (bOnes ((bkts l).take (i + 1))) (bSize (bkts l) - bSize ((bkts l).take (i + 1))) (bOnes (bkts l) - bOnes ((bkts l).take (i + 1))) k (inK_bd (by omega)) (inK_bd (by omega)) (inK_bd (by omega)) (inK_bd (by omega)) hk) (fun _ => amC) rfl ?_ | refine CallG.one rfl (fun hg => specCutHere (bSize ((bkts l).take (i + 1))) (bOnes ((bkts l).take (i + 1))) (bSize (bkts l) - bSize ((bkts l).take (i + 1))) (bOnes (bkts l) - bOnes ((bkts l).take (i + 1))) k (inK_bd (by omega)) (inK_bd (by omega)) (inK_bd (by omega)) (inK_bd (by omega)) hk) ?_ | refine CallEG.one rfl rfl (fun hg => specCutHere (bSize ((bkts l).take (i + 1))) (bOnes ((bkts l).take (i + 1))) (bSize (bkts l) - bSize ((bkts l).take (i + 1))) (bOnes (bkts l) - bOnes ((bkts l).take (i + 1))) k (inK_bd (by omega)) (inK_bd (by omega)) (inK_bd (by omega)) (inK_bd (by omega)) hk) ?_ | refine CallCE.one (specCutHere (bSize ((bkts l).take (i + 1))) (bOnes ((bkts l).take (i + 1))) (bSize (bkts l) - bSize ((bkts l).take (i + 1))) (bOnes (bkts l) - bOnes ((bkts l).take (i + 1))) k (inK_bd (by omega)) (inK_bd (by omega)) (inK_bd (by omega)) (inK_bd (by omega)) hk) (fun _ => amC) rfl ?_
        (try refine am (h := ?_)); (try with_reducible apply True.intro)
        repeat' (first | (with_reducible refine And.intro ?_ ?_) | (with_reducible intro _))
        all_goals try (first | omega | with_reducible rfl | ((with_reducible refine eqId ?_); exact rfl) | with_reducible (first | assumption | exact pl ‹_› | exact pr ‹_› | exact plr ‹_› | exact pll ‹_› | exact prl ‹_› | exact plll ‹_› | exact prll ‹_›))
        · refine FinK.val1 ?_ ?_
          all_goals (try refine amF (h := ?_))
          all_goals (try with_reducible apply True.intro)
          rename_i hc
          rw [he, if_pos hc]
        · rename_i hc
          refine ⟨i + 1, ?_, ⟨by omega, ?_⟩, by omega⟩
          · refine Le.auto [] (r0 := ?r04) (ren := ?ren4) ?ea4 ?eb4 ?a4 ?b4 ?c4 ?d4 ?ho4 ?hn4 ?ht4
            case ea4 => exact amR
            case eb4 => exact amR
            case a4 => exact rfl
            case b4 => exact rfl
            case c4 => exact rfl
            case d4 => exact rfl
            all_goals (try refine amL (h := ?_))
            all_goals (try with_reducible apply True.intro)
          · rw [he, if_neg (by rw [hc]; simp)]
    · rw [cutFrom_end hlt] at he
      (try refine am (h := ?_)); (try with_reducible apply True.intro)
      repeat' (first | (with_reducible refine And.intro ?_ ?_) | (with_reducible intro _))
      all_goals try (first | omega | with_reducible rfl | ((with_reducible refine eqId ?_); exact rfl) | with_reducible (first | assumption | exact pl ‹_› | exact pr ‹_› | exact plr ‹_› | exact pll ‹_› | exact prl ‹_› | exact plll ‹_› | exact prll ‹_›))
      refine FinK.val1 ?_ ?_
      all_goals (try refine amF (h := ?_))
      all_goals (try with_reducible apply True.intro)
      exact he.symm
end Go.AM
