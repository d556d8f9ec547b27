/- Lemmas for the proof of this claim. -/
import Derived.Test.YtbfofhfeghfpoaaFam
import Derived.Test.YtbfofhfeghfpoaaAm4
import Derived.Test.YtbfofhfeghfpoaaData
namespace Go.AM
open Go Go.Proofs
set_option maxRecDepth 100000
theorem markRow {E G : Nat → List AV} {i i' m j : Nat} (hj : j < m) (hm : (E i).length = m) : ALe (if i' = i ∧ 0 ≤ j ∧ j < m then gl .junk (E i) j else gl .junk (if i' < i then E i' else G i') j) (gl .junk (if i' < i + 1 then E i' else G i') j) := by
  by_cases e : i' = i
  · subst e
    rw [if_pos ⟨rfl, Nat.zero_le _, hj⟩, if_pos (by omega)]; exact .refl _
  · rw [if_neg (fun h => e h.1)]
    by_cases e2 : i' < i
    · rw [if_pos e2, if_pos (by omega)]; exact .refl _
    · rw [if_neg e2, if_neg (by omega)]; exact .refl _
set_option maxHeartbeats 2000000 in
theorem markIntS (l : List Int) (k : Int) (nl : Option Bool) (h : okI (2 ^ 47) l) (h0 : 0 ≤ k) (h1 : k + l.length ≤ 2 ^ 62) : AMut Try.prog 38 (.sl true nl 1 l.length (fI l)) [.one (.int .i64 k)] (aI true (mkI k l)) (k + l.length) := by
  have hl := h.1
  have nt : Try.f38.ntmps = 19 := rfl
  refine AMut.of_run (m := 400) (t := 4) mixed Try.func38 rfl rfl (Nat.le_of_ble_eq_true rfl) rfl ?_
  simp only [nt]
  clear nt
  (try refine am (h := ?_)); (try with_reducible apply True.intro)
  repeat' (first | (with_reducible refine And.intro ?_ ?_) | (with_reducible intro _))
  all_goals try (first | omega | with_reducible rfl | ((with_reducible refine eqId ?_); exact rfl) | with_reducible (first | assumption | exact pl ‹_› | exact pr ‹_› | exact plr ‹_› | exact pll ‹_› | exact prl ‹_› | exact plll ‹_› | exact prll ‹_›))
  refine LoopK.auto (Nat) (fun i => [(5, .one (.av (.int .i64 i))), (1, .one (.av (.int .i64 (k + i))))]) (fun i => [(1, ⟨.sl true none 1 l.length (fun i' j => gl .junk (if i' < i then [.int .i64 (k + (i' : Int))] else [.int .i64 (l.getD i' 0)]) j), []⟩)]) [0] (k0 := ?k01) (keepH := ?kh1) 7 (fun i => i ≤ l.length) (fun i => l.length - i) (0) ?kea1 ?keb1 ?_ ?_ ?_
  case kea1 => exact amN
  case keb1 => exact amN
  · exact Nat.zero_le _
  · refine Le.of [(1, 1)] [] rfl rfl rfl rfl ?_ ?_ ?_
    all_goals (try refine amL (h := ?_))
    all_goals (try with_reducible apply True.intro)
    · exact ALe.of (.inl rfl) rfl (fun i hi j hj => by rw [if_neg (by omega)]; exact .refl _)
    · omega
  · intro i hi
    (try refine am (h := ?_)); (try with_reducible apply True.intro)
    repeat' (first | (with_reducible refine And.intro ?_ ?_) | (with_reducible intro _))
    all_goals try (first | omega | with_reducible rfl | ((with_reducible refine eqId ?_); exact rfl) | with_reducible (first | assumption | exact pl ‹_› | exact pr ‹_› | exact plr ‹_› | exact pll ‹_› | exact prl ‹_› | exact plll ‹_› | exact prll ‹_›))
    · refine ⟨i + 1, ?_, by omega, by omega⟩
      refine Le.of [(1, 1)] [] rfl rfl rfl rfl ?_ ?_ ?_
      all_goals (try refine amL (h := ?_))
      all_goals (try with_reducible apply True.intro)
      · refine ALe.of (.inl rfl) rfl (fun i' hi' j hj => markRow (E := fun i' => [.int .i64 (k + (i' : Int))]) (G := fun i' => [.int .i64 (l.getD i' 0)]) hj rfl)
      · omega
    · refine FinK.mut (by (try refine am (h := ?_)); (try with_reducible apply True.intro)) ?_ ?_
      all_goals (try refine amF (h := ?_))
      all_goals (try with_reducible apply True.intro)
      refine ⟨ALe.of (.inl rfl) (mkI_len k l).symm (fun i' hi' j hj => ?_), by omega⟩
      obtain rfl : j = 0 := by omega
      rw [if_pos (by omega)]
      show ALe (.int .i64 (k + (i' : Int))) (.int .i64 ((mkI k l).getD i' 0))
      rw [mkI_get k l hi']
      exact .refl _
set_option maxHeartbeats 2000000 in
theorem heldIntS (l : List Int) (k : Int) (u : Bool) (nl : Option Bool) (h : okI (2 ^ 47) l) (h0 : 0 ≤ k) (h1 : k + l.length ≤ 2 ^ 62) : ACalls Try.prog 41 [.one (.sl u nl 1 l.length (fI l)), .one (.int .i64 k)] (fun r => r = .val (.one (.int .i64 (if l = mkI k l then k + l.length else -1)))) := by
  have hl := h.1
  have nt : Try.f41.ntmps = 21 := rfl
  have rs : Try.f41.results = #[.tmp 4] := rfl
  refine ACalls.of_run (m := 400) mixed Try.func41 rfl rfl (Nat.le_of_ble_eq_true rfl) ?_
  simp only [nt, rs]
  clear nt rs
  (try refine am (h := ?_)); (try with_reducible apply True.intro)
  repeat' (first | (with_reducible refine And.intro ?_ ?_) | (with_reducible intro _))
  all_goals try (first | omega | with_reducible rfl | ((with_reducible refine eqId ?_); exact rfl) | with_reducible (first | assumption | exact pl ‹_› | exact pr ‹_› | exact plr ‹_› | exact pll ‹_› | exact prl ‹_› | exact plll ‹_› | exact prll ‹_›))
  refine LoopK.auto (Nat) (fun i => [(5, .one (.av (.int .i64 i))), (1, .one (.av (.int .i64 (k + i))))]) (fun i => []) [0] (k0 := ?k02) (keepH := ?kh2) 7 (fun i => i ≤ l.length ∧ ∀ j, j < i → l.getD j 0 = k + (j : Int)) (fun i => l.length - i) (0) ?kea2 ?keb2 ?_ ?_ ?_
  case kea2 => exact amN
  case keb2 => exact amN
  · exact ⟨Nat.zero_le _, fun j hj => by omega⟩
  · refine Le.of [] [] rfl rfl rfl rfl ?_ ?_ ?_
    all_goals (try refine amL (h := ?_))
    all_goals (try with_reducible apply True.intro)
    omega
  · intro i hi
    (try refine am (h := ?_)); (try with_reducible apply True.intro)
    repeat' (first | (with_reducible refine And.intro ?_ ?_) | (with_reducible intro _))
    all_goals try (first | omega | with_reducible rfl | ((with_reducible refine eqId ?_); exact rfl) | with_reducible (first | assumption | exact pl ‹_› | exact pr ‹_› | exact plr ‹_› | exact pll ‹_› | exact prl ‹_› | exact plll ‹_› | exact prll ‹_›))
    · refine FinK.val1 ?_ ?_
      all_goals (try refine amF (h := ?_))
      all_goals (try with_reducible apply True.intro)
      rename_i h2
      exact (if_neg (mkI_ne (by assumption) h2)).symm
    · rename_i h2
      refine ⟨i + 1, ?_, ⟨by omega, fun j hj => ?_⟩, by omega⟩
      · refine Le.of [] [] rfl rfl rfl rfl ?_ ?_ ?_
        all_goals (try refine amL (h := ?_))
        all_goals (try with_reducible apply True.intro)
        omega
      · by_cases h3 : j = i
        · rw [h3]; exact h2
        · exact hi.2 j (by omega)
    · refine FinK.val1 ?_ ?_
      all_goals (try refine amF (h := ?_))
      all_goals (try with_reducible apply True.intro)
      have := mkI_iff (k := k) (l := l) (fun j hj => hi.2 j (by omega))
      rw [if_pos this]; omega
theorem heldI (l : List Int) (k : Int) (u : Bool) (nl : Option Bool) (h : okI (2 ^ 47) l) (h0 : 0 ≤ k) (h1 : k + l.length ≤ 2 ^ 62) : ACalls Try.prog 41 [.one (.sl u nl 1 (mkI k l).length (fI (mkI k l))), .one (.int .i64 k)] (fun r => r = .val (.one (.int .i64 (k + l.length)))) := by
  have := heldIntS (mkI k l) k u nl (mkI_okB h0 h.1 h1) h0 (by rw [mkI_len]; exact h1)
  rw [mkI_mkI, if_pos rfl, mkI_len] at this
  rw [mkI_len]
  exact this
end Go.AM
namespace Go.AM
open Go Go.Proofs
set_option maxRecDepth 100000
set_option maxHeartbeats 2000000 in
theorem markIntSS (l : List (List Int)) (k : Int) (nl : Option Bool) (h : okL (2 ^ 47) l) (h0 : 0 ≤ k) (h1 : k + tot l ≤ 2 ^ 62) : AMut Try.prog 109 (.sl true nl 1 l.length (fL true l)) [.one (.int .i64 k)] (aL true true (mkL k l)) (k + tot l) := by
  have hl := h.1
  have nt : Try.f109.ntmps = 19 := rfl
  refine AMut.of_run (m := 400) (t := 4) mixed Try.func109 rfl rfl (Nat.le_of_ble_eq_true rfl) rfl ?_
  simp only [nt]
  clear nt
  (try refine am (h := ?_)); (try with_reducible apply True.intro)
  repeat' (first | (with_reducible refine And.intro ?_ ?_) | (with_reducible intro _))
  all_goals try (first | omega | with_reducible rfl | ((with_reducible refine eqId ?_); exact rfl) | with_reducible (first | assumption | exact pl ‹_› | exact pr ‹_› | exact plr ‹_› | exact pll ‹_› | exact prl ‹_› | exact plll ‹_› | exact prll ‹_›))
  refine LoopK.auto (Nat) (fun i => [(5, .one (.av (.int .i64 i))), (1, .one (.av (.int .i64 (k + (sm List.length (l.take i) : Nat)))))]) (fun i => [(1, ⟨.sl true none 1 l.length (fun i' j => gl .junk (if i' < i then [aI true (mkI (k + (sm List.length (l.take i') : Nat)) (l.getD i' []))] else [aI true (l.getD i' [])]) j), []⟩)]) [0] (k0 := ?k01) (keepH := ?kh1) 7 (fun i => i ≤ l.length) (fun i => l.length - i) (0) ?kea1 ?keb1 ?_ ?_ ?_
  case kea1 => exact amN
  case keb1 => exact amN
  · exact Nat.zero_le _
  · refine Le.of [(1, 1)] [] rfl rfl rfl rfl ?_ ?_ ?_
    all_goals (try refine amL (h := ?_))
    all_goals (try with_reducible apply True.intro)
    · exact ALe.of (.inl rfl) rfl (fun i hi j hj => by rw [if_neg (by omega)]; exact .refl _)
    · simp [sm]
  · intro i hi
    (try refine am (h := ?_)); (try simp only [Nat.lt_irrefl]); (try refine am (h := ?_)); (try with_reducible apply True.intro)
    refine ⟨fun hlt => ?_, fun hlt => ?_⟩
    · have hs := sm_take (f := List.length) (d := []) hlt
      have hp := sm_pre (sz := List.length) (d := []) l hlt
      unfold tot at h1
      refine ⟨hlt, ?_⟩
      (try refine am (h := ?_)); (try simp only [Nat.lt_irrefl]); (try refine am (h := ?_)); (try with_reducible apply True.intro)
      repeat' (first | (with_reducible refine And.intro ?_ ?_) | (with_reducible intro _))
      all_goals try (first | omega | with_reducible rfl | ((with_reducible refine eqId ?_); exact rfl) | with_reducible (first | assumption | exact pl ‹_› | exact pr ‹_› | exact plr ‹_› | exact pll ‹_› | exact prl ‹_› | exact plll ‹_› | exact prll ‹_›))
      refine CallK.mut (markIntS (l.getD i []) (k + (sm List.length (l.take i) : Nat)) none (h.2 _ (getD_mem hlt)) (by omega) (by omega)) ?ha1 ?hb1 ?hc1 ?hd1
      case ha1 => first | exact rfl | (simp only [St.H, lk_cons, AV.at, Nat.lt_irrefl, gl, beq_self, cond_true, reduceIte]; done) | (simp [St.H, lk_cons, AV.at, gl]; done)
      case hb1 => exact rfl
      case hc1 => exact rfl
      (try refine am (h := ?_)); (try with_reducible apply True.intro)
      repeat' (first | (with_reducible refine And.intro ?_ ?_) | (with_reducible intro _))
      all_goals try (first | omega | with_reducible rfl | ((with_reducible refine eqId ?_); exact rfl) | with_reducible (first | assumption | exact pl ‹_› | exact pr ‹_› | exact plr ‹_› | exact pll ‹_› | exact prl ‹_› | exact plll ‹_› | exact prll ‹_›))
      refine ⟨i + 1, ?_, by omega, by omega⟩
      refine Le.of [(1, 1)] [] rfl rfl rfl rfl ?_ ?_ ?_
      all_goals (try refine amL (h := ?_))
      all_goals (try with_reducible apply True.intro)
      · refine ALe.of (.inl rfl) rfl (fun i' hi' j hj => ?_)
        obtain rfl : j = 0 := by omega
        by_cases e : i' = i
        · subst e
          rw [if_pos ⟨rfl, rfl⟩, if_pos (by omega)]; exact .refl _
        · rw [if_neg (fun h => e h.1)]
          by_cases e2 : i' < i
          · rw [if_pos e2, if_pos (by omega)]; exact .refl _
          · rw [if_neg e2, if_neg (by omega)]; exact .refl _
      · omega
    · refine FinK.mut (by (try refine am (h := ?_)); (try with_reducible apply True.intro)) ?_ ?_
      all_goals (try refine amF (h := ?_))
      all_goals (try with_reducible apply True.intro)
      refine ⟨ALe.of (.inl rfl) (mkL_len k l).symm (fun i' hi' j hj => ?_), by rw [List.take_of_length_le (by omega)]; rfl⟩
      obtain rfl : j = 0 := by omega
      rw [if_pos (by omega)]
      show ALe (aI true _) (aI true ((mkL k l).getD i' []))
      have := mkSq_get (sz := List.length) (mk := mkI) (d := []) k l hi'
      unfold mkL
      rw [this]
      exact .refl _
set_option maxHeartbeats 2000000 in
theorem heldL (l : List (List Int)) (k : Int) (u v : Bool) (nl : Option Bool) (h : okL (2 ^ 47) l) (h0 : 0 ≤ k) (h1 : k + tot l ≤ 2 ^ 62) : ACalls Try.prog 110 [.one (.sl u nl 1 (mkL k l).length (fL v (mkL k l))), .one (.int .i64 k)] (fun r => r = .val (.one (.int .i64 (k + tot l)))) := by
  have hl := h.1
  have hml := mkL_len k l
  have hl2 : (mkL k l).length ≤ 2 ^ 47 := by omega
  have nt : Try.f110.ntmps = 21 := rfl
  have rs : Try.f110.results = #[.tmp 4] := rfl
  refine ACalls.of_run (m := 400) mixed Try.func110 rfl rfl (Nat.le_of_ble_eq_true rfl) ?_
  simp only [nt, rs]
  clear nt rs
  (try refine am (h := ?_)); (try with_reducible apply True.intro)
  repeat' (first | (with_reducible refine And.intro ?_ ?_) | (with_reducible intro _))
  all_goals try (first | omega | with_reducible rfl | ((with_reducible refine eqId ?_); exact rfl) | with_reducible (first | assumption | exact pl ‹_› | exact pr ‹_› | exact plr ‹_› | exact pll ‹_› | exact prl ‹_› | exact plll ‹_› | exact prll ‹_›))
  refine LoopK.auto (Nat) (fun i => [(5, .one (.av (.int .i64 i))), (1, .one (.av (.int .i64 (k + (sm List.length (l.take i) : Nat)))))]) (fun i => []) [0] (k0 := ?k02) (keepH := ?kh2) 7 (fun i => i ≤ l.length) (fun i => l.length - i) (0) ?kea2 ?keb2 ?_ ?_ ?_
  case kea2 => exact amN
  case keb2 => exact amN
  · exact Nat.zero_le _
  · refine Le.of [] [] rfl rfl rfl rfl ?_ ?_ ?_
    all_goals (try refine amL (h := ?_))
    all_goals (try with_reducible apply True.intro)
    simp [sm]
  · intro i hi
    (try refine am (h := ?_)); (try with_reducible apply True.intro)
    refine ⟨fun hlt => ?_, fun hlt => ?_⟩
    · have hlt' : i < l.length := by omega
      have hs := sm_take (f := List.length) (d := []) hlt'
      have hp := sm_pre (sz := List.length) (d := []) l hlt'
      unfold tot at h1
      have hg : (mkL k l).getD i [] = mkI (k + (sm List.length (l.take i) : Nat)) (l.getD i []) := mkSq_get k l hlt'
      (try refine am (h := ?_)); (try simp only [hg]); (try refine am (h := ?_)); (try with_reducible apply True.intro)
      (try refine am (h := ?_)); (try simp only [hg]); (try refine am (h := ?_)); (try with_reducible apply True.intro)
      repeat' (first | (with_reducible refine And.intro ?_ ?_) | (with_reducible intro _))
      all_goals try (first | omega | with_reducible rfl | ((with_reducible refine eqId ?_); exact rfl) | with_reducible (first | assumption | exact pl ‹_› | exact pr ‹_› | exact plr ‹_› | exact pll ‹_› | exact prl ‹_› | exact plll ‹_› | exact prll ‹_›))
      first | refine CallK.one (heldI (l.getD i []) (k + (sm List.length (l.take i) : Nat)) v none (h.2 _ (getD_mem hlt')) (by omega) (by omega)) (fun _ => amC) ?_ | refine CallE.one (heldI (l.getD i []) (k + (sm List.length (l.take i) : Nat)) v none (h.2 _ (getD_mem hlt')) (by omega) (by omega)) (fun _ => amC) rfl ?_ | refine CallG.one rfl (fun hg => heldI (l.getD i []) (k + (sm List.length (l.take i) : Nat)) v none (h.2 _ (getD_mem hlt')) (by omega) (by omega)) ?_ | refine CallEG.one rfl rfl (fun hg => heldI (l.getD i []) (k + (sm List.length (l.take i) : Nat)) v none (h.2 _ (getD_mem hlt')) (by omega) (by omega)) ?_
      (try refine am (h := ?_)); (try with_reducible apply True.intro)
      repeat' (first | (with_reducible refine And.intro ?_ ?_) | (with_reducible intro _))
      all_goals try (first | omega | with_reducible rfl | ((with_reducible refine eqId ?_); exact rfl) | with_reducible (first | assumption | exact pl ‹_› | exact pr ‹_› | exact plr ‹_› | exact pll ‹_› | exact prl ‹_› | exact plll ‹_› | exact prll ‹_›))
      refine ⟨i + 1, ?_, by omega, by omega⟩
      refine Le.of [] [] rfl rfl rfl rfl ?_ ?_ ?_
      all_goals (try refine amL (h := ?_))
      all_goals (try with_reducible apply True.intro)
      omega
    · refine FinK.val1 ?_ ?_
      all_goals (try refine amF (h := ?_))
      all_goals (try with_reducible apply True.intro)
      rw [List.take_of_length_le (by omega)]; rfl
end Go.AM
