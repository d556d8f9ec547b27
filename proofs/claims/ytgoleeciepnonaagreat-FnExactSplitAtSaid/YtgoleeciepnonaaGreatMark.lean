/- Lemmas for the proof of this claim. -/
import Derived.Test.YtgoleeciepnonaaGreatFam
import Derived.Test.YtgoleeciepnonaaGreatAm4
import Derived.Test.YtgoleeciepnonaaGreatData
namespace Go.AM
open Go Go.Proofs
set_option maxRecDepth 100000
theorem markRow {E G : Nat → List AV} {i i' m j : Nat} (hj : j < m) (hm : (E i).length = m) : ALe (if i' = i ∧ 0 ≤ j ∧ j < m then gl .junk (E i) j else gl .junk (if i' < i then E i' else G i') j) (gl .junk (if i' < i + 1 then E i' else G i') j) := by
  by_cases e : i' = i
  · subst e
    rw [if_pos ⟨rfl, Nat.zero_le _, hj⟩, if_pos (by omega)]; exact .refl _
  · rw [if_neg (fun h => e h.1)]
    by_cases e2 : i' < i
    · rw [if_pos e2, if_pos (by omega)]; exact .refl _
    · rw [if_neg e2, if_neg (by omega)]; exact .refl _
set_option maxHeartbeats 2000000 in
theorem markIntS (l : List Int) (k : Int) (nl : Option Bool) (h : okI (2 ^ 47) l) (h0 : 0 ≤ k) (h1 : k + l.length ≤ 2 ^ 62) : AMut Tryz.prog 80 (.sl true nl 1 l.length (fI l)) [.one (.int .i64 k)] (aI true (mkI k l)) (k + l.length) := by
  have hl := h.1
  have nt : Tryz.f80.ntmps = 19 := rfl
  refine AMut.of_run (m := 400) (t := 4) mixed Tryz.func80 rfl rfl (Nat.le_of_ble_eq_true rfl) rfl ?_
  simp only [nt]
  clear nt
  (try refine am (h := ?_)); (try with_reducible apply True.intro)
  repeat' (first | (with_reducible refine And.intro ?_ ?_) | (with_reducible intro _))
  all_goals try (first | omega | with_reducible rfl | ((with_reducible refine eqId ?_); exact rfl) | with_reducible (first | assumption | exact pl ‹_› | exact pr ‹_› | exact plr ‹_› | exact pll ‹_› | exact prl ‹_› | exact plll ‹_› | exact prll ‹_›))
  refine LoopK.auto (Nat) (fun i => [(5, .one (.av (.int .i64 i))), (1, .one (.av (.int .i64 (k + i))))]) (fun i => [(1, ⟨.sl true none 1 l.length (fun i' j => gl .junk (if i' < i then [.int .i64 (k + (i' : Int))] else [.int .i64 (l.getD i' 0)]) j), []⟩)]) [0] (k0 := ?k01) (keepH := ?kh1) 7 (fun i => i ≤ l.length) (fun i => l.length - i) (0) ?kea1 ?keb1 ?_ ?_ ?_
  case kea1 => exact amN
  case keb1 => exact amN
  · exact Nat.zero_le _
  · refine Le.of [(1, 1)] [] rfl rfl rfl rfl ?_ ?_ ?_
    all_goals (try refine amL (h := ?_))
    all_goals (try with_reducible apply True.intro)
    · exact ALe.of (.inl rfl) rfl (fun i hi j hj => by rw [if_neg (by omega)]; exact .refl _)
    · omega
  · intro i hi
    (try refine am (h := ?_)); (try with_reducible apply True.intro)
    repeat' (first | (with_reducible refine And.intro ?_ ?_) | (with_reducible intro _))
    all_goals try (first | omega | with_reducible rfl | ((with_reducible refine eqId ?_); exact rfl) | with_reducible (first | assumption | exact pl ‹_› | exact pr ‹_› | exact plr ‹_› | exact pll ‹_› | exact prl ‹_› | exact plll ‹_› | exact prll ‹_›))
    · refine ⟨i + 1, ?_, by omega, by omega⟩
      refine Le.of [(1, 1)] [] rfl rfl rfl rfl ?_ ?_ ?_
      all_goals (try refine amL (h := ?_))
      all_goals (try with_reducible apply True.intro)
      · refine ALe.of (.inl rfl) rfl (fun i' hi' j hj => markRow (E := fun i' => [.int .i64 (k + (i' : Int))]) (G := fun i' => [.int .i64 (l.getD i' 0)]) hj rfl)
      · omega
    · refine FinK.mut (by (try refine am (h := ?_)); (try with_reducible apply True.intro)) ?_ ?_
      all_goals (try refine amF (h := ?_))
      all_goals (try with_reducible apply True.intro)
      refine ⟨ALe.of (.inl rfl) (mkI_len k l).symm (fun i' hi' j hj => ?_), by omega⟩
      obtain rfl : j = 0 := by omega
      rw [if_pos (by omega)]
      show ALe (.int .i64 (k + (i' : Int))) (.int .i64 ((mkI k l).getD i' 0))
      rw [mkI_get k l hi']
      exact .refl _
set_option maxHeartbeats 2000000 in
theorem heldIntS (l : List Int) (k : Int) (u : Bool) (nl : Option Bool) (h : okI (2 ^ 47) l) (h0 : 0 ≤ k) (h1 : k + l.length ≤ 2 ^ 62) : ACalls Tryz.prog 131 [.one (.sl u nl 1 l.length (fI l)), .one (.int .i64 k)] (fun r => r = .val (.one (.int .i64 (if l = mkI k l then k + l.length else -1)))) := by
  have hl := h.1
  have nt : Tryz.f131.ntmps = 21 := rfl
  have rs : Tryz.f131.results = #[.tmp 4] := rfl
  refine ACalls.of_run (m := 400) mixed Tryz.func131 rfl rfl (Nat.le_of_ble_eq_true rfl) ?_
  simp only [nt, rs]
  clear nt rs
  (try refine am (h := ?_)); (try with_reducible apply True.intro)
  repeat' (first | (with_reducible refine And.intro ?_ ?_) | (with_reducible intro _))
  all_goals try (first | omega | with_reducible rfl | ((with_reducible refine eqId ?_); exact rfl) | with_reducible (first | assumption | exact pl ‹_› | exact pr ‹_› | exact plr ‹_› | exact pll ‹_› | exact prl ‹_› | exact plll ‹_› | exact prll ‹_›))
  refine LoopK.auto (Nat) (fun i => [(5, .one (.av (.int .i64 i))), (1, .one (.av (.int .i64 (k + i))))]) (fun i => []) [0] (k0 := ?k02) (keepH := ?kh2) 7 (fun i => i ≤ l.length ∧ ∀ j, j < i → l.getD j 0 = k + (j : Int)) (fun i => l.length - i) (0) ?kea2 ?keb2 ?_ ?_ ?_
  case kea2 => exact amN
  case keb2 => exact amN
  · exact ⟨Nat.zero_le _, fun j hj => by omega⟩
  · refine Le.of [] [] rfl rfl rfl rfl ?_ ?_ ?_
    all_goals (try refine amL (h := ?_))
    all_goals (try with_reducible apply True.intro)
    omega
  · intro i hi
    (try refine am (h := ?_)); (try with_reducible apply True.intro)
    repeat' (first | (with_reducible refine And.intro ?_ ?_) | (with_reducible intro _))
    all_goals try (first | omega | with_reducible rfl | ((with_reducible refine eqId ?_); exact rfl) | with_reducible (first | assumption | exact pl ‹_› | exact pr ‹_› | exact plr ‹_› | exact pll ‹_› | exact prl ‹_› | exact plll ‹_› | exact prll ‹_›))
    · refine FinK.val1 ?_ ?_
      all_goals (try refine amF (h := ?_))
      all_goals (try with_reducible apply True.intro)
      rename_i h2
      exact (if_neg (mkI_ne (by assumption) h2)).symm
    · rename_i h2
      refine ⟨i + 1, ?_, ⟨by omega, fun j hj => ?_⟩, by omega⟩
      · refine Le.of [] [] rfl rfl rfl rfl ?_ ?_ ?_
        all_goals (try refine amL (h := ?_))
        all_goals (try with_reducible apply True.intro)
        omega
      · by_cases h3 : j = i
        · rw [h3]; exact h2
        · exact hi.2 j (by omega)
    · refine FinK.val1 ?_ ?_
      all_goals (try refine amF (h := ?_))
      all_goals (try with_reducible apply True.intro)
      have := mkI_iff (k := k) (l := l) (fun j hj => hi.2 j (by omega))
      rw [if_pos this]; omega
theorem heldI (l : List Int) (k : Int) (u : Bool) (nl : Option Bool) (h : okI (2 ^ 47) l) (h0 : 0 ≤ k) (h1 : k + l.length ≤ 2 ^ 62) : ACalls Tryz.prog 131 [.one (.sl u nl 1 (mkI k l).length (fI (mkI k l))), .one (.int .i64 k)] (fun r => r = .val (.one (.int .i64 (k + l.length)))) := by
  have := heldIntS (mkI k l) k u nl (mkI_okB h0 h.1 h1) h0 (by rw [mkI_len]; exact h1)
  rw [mkI_mkI, if_pos rfl, mkI_len] at this
  rw [mkI_len]
  exact this
end Go.AM
namespace Go.AM
open Go Go.Proofs
set_option maxRecDepth 100000
set_option maxHeartbeats 2000000 in
theorem markIntSS (l : List (List Int)) (k : Int) (nl : Option Bool) (h : okL (2 ^ 47) l) (h0 : 0 ≤ k) (h1 : k + tot l ≤ 2 ^ 62) : AMut Tryz.prog 21 (.sl true nl 1 l.length (fL true l)) [.one (.int .i64 k)] (aL true true (mkL k l)) (k + tot l) := by
  have hl := h.1
  have nt : Tryz.f21.ntmps = 19 := rfl
  refine AMut.of_run (m := 400) (t := 4) mixed Tryz.func21 rfl rfl (Nat.le_of_ble_eq_true rfl) rfl ?_
  simp only [nt]
  clear nt
  (try refine am (h := ?_)); (try with_reducible apply True.intro)
  repeat' (first | (with_reducible refine And.intro ?_ ?_) | (with_reducible intro _))
  all_goals try (first | omega | with_reducible rfl | ((with_reducible refine eqId ?_); exact rfl) | with_reducible (first | assumption | exact pl ‹_› | exact pr ‹_› | exact plr ‹_› | exact pll ‹_› | exact prl ‹_› | exact plll ‹_› | exact prll ‹_›))
  refine LoopK.auto (Nat) (fun i => [(5, .one (.av (.int .i64 i))), (1, .one (.av (.int .i64 (k + (sm List.length (l.take i) : Nat)))))]) (fun i => [(1, ⟨.sl true none 1 l.length (fun i' j => gl .junk (if i' < i then [aI true (mkI (k + (sm List.length (l.take i') : Nat)) (l.getD i' []))] else [aI true (l.getD i' [])]) j), []⟩)]) [0] (k0 := ?k01) (keepH := ?kh1) 7 (fun i => i ≤ l.length) (fun i => l.length - i) (0) ?kea1 ?keb1 ?_ ?_ ?_
  case kea1 => exact amN
  case keb1 => exact amN
  · exact Nat.zero_le _
  · refine Le.of [(1, 1)] [] rfl rfl rfl rfl ?_ ?_ ?_
    all_goals (try refine amL (h := ?_))
    all_goals (try with_reducible apply True.intro)
    · exact ALe.of (.inl rfl) rfl (fun i hi j hj => by rw [if_neg (by omega)]; exact .refl _)
    · simp [sm]
  · intro i hi
    (try refine am (h := ?_)); (try simp only [Nat.lt_irrefl]); (try refine am (h := ?_)); (try with_reducible apply True.intro)
    refine ⟨fun hlt => ?_, fun hlt => ?_⟩
    · have hs := sm_take (f := List.length) (d := []) hlt
      have hp := sm_pre (sz := List.length) (d := []) l hlt
      unfold tot at h1
      refine ⟨hlt, ?_⟩
      (try refine am (h := ?_)); (try simp only [Nat.lt_irrefl]); (try refine am (h := ?_)); (try with_reducible apply True.intro)
      repeat' (first | (with_reducible refine And.intro ?_ ?_) | (with_reducible intro _))
      all_goals try (first | omega | with_reducible rfl | ((with_reducible refine eqId ?_); exact rfl) | with_reducible (first | assumption | exact pl ‹_› | exact pr ‹_› | exact plr ‹_› | exact pll ‹_› | exact prl ‹_› | exact plll ‹_› | exact prll ‹_›))
      refine CallK.mut (markIntS (l.getD i []) (k + (sm List.length (l.take i) : Nat)) none (h.2 _ (getD_mem hlt)) (by omega) (by omega)) ?ha1 ?hb1 ?hc1 ?hd1
      case ha1 => first | exact rfl | (simp only [St.H, lk_cons, AV.at, Nat.lt_irrefl, gl, beq_self, cond_true, reduceIte]; done) | (simp [St.H, lk_cons, AV.at, gl]; done)
      case hb1 => exact rfl
      case hc1 => exact rfl
      (try refine am (h := ?_)); (try with_reducible apply True.intro)
      repeat' (first | (with_reducible refine And.intro ?_ ?_) | (with_reducible intro _))
      all_goals try (first | omega | with_reducible rfl | ((with_reducible refine eqId ?_); exact rfl) | with_reducible (first | assumption | exact pl ‹_› | exact pr ‹_› | exact plr ‹_› | exact pll ‹_› | exact prl ‹_› | exact plll ‹_› | exact prll ‹_›))
      refine ⟨i + 1, ?_, by omega, by omega⟩
      refine Le.of [(1, 1)] [] rfl rfl rfl rfl ?_ ?_ ?_
      all_goals (try refine amL (h := ?_))
      all_goals (try with_reducible apply True.intro)
      · refine ALe.of (.inl rfl) rfl (fun i' hi' j hj => ?_)
        obtain rfl : j = 0 := by omega
        by_cases e : i' = i
        · subst e
          rw [if_pos ⟨rfl, rfl⟩, if_pos (by omega)]; exact .refl _
        · rw [if_neg (fun h => e h.1)]
          by_cases e2 : i' < i
          · rw [if_pos e2, if_pos (by omega)]; exact .refl _
          · rw [if_neg e2, if_neg (by omega)]; exact .refl _
      · omega
    · refine FinK.mut (by (try refine am (h := ?_)); (try with_reducible apply True.intro)) ?_ ?_
      all_goals (try refine amF (h := ?_))
      all_goals (try with_reducible apply True.intro)
      refine ⟨ALe.of (.inl rfl) (mkL_len k l).symm (fun i' hi' j hj => ?_), by rw [List.take_of_length_le (by omega)]; rfl⟩
      obtain rfl : j = 0 := by omega
      rw [if_pos (by omega)]
      show ALe (aI true _) (aI true ((mkL k l).getD i' []))
      have := mkSq_get (sz := List.length) (mk := mkI) (d := []) k l hi'
      unfold mkL
      rw [this]
      exact .refl _
set_option maxHeartbeats 2000000 in
theorem heldL (l : List (List Int)) (k : Int) (u v : Bool) (nl : Option Bool) (h : okL (2 ^ 47) l) (h0 : 0 ≤ k) (h1 : k + tot l ≤ 2 ^ 62) : ACalls Tryz.prog 132 [.one (.sl u nl 1 (mkL k l).length (fL v (mkL k l))), .one (.int .i64 k)] (fun r => r = .val (.one (.int .i64 (k + tot l)))) := by
  have hl := h.1
  have hml := mkL_len k l
  have hl2 : (mkL k l).length ≤ 2 ^ 47 := by omega
  have nt : Tryz.f132.ntmps = 21 := rfl
  have rs : Tryz.f132.results = #[.tmp 4] := rfl
  refine ACalls.of_run (m := 400) mixed Tryz.func132 rfl rfl (Nat.le_of_ble_eq_true rfl) ?_
  simp only [nt, rs]
  clear nt rs
  (try refine am (h := ?_)); (try with_reducible apply True.intro)
  repeat' (first | (with_reducible refine And.intro ?_ ?_) | (with_reducible intro _))
  all_goals try (first | omega | with_reducible rfl | ((with_reducible refine eqId ?_); exact rfl) | with_reducible (first | assumption | exact pl ‹_› | exact pr ‹_› | exact plr ‹_› | exact pll ‹_› | exact prl ‹_› | exact plll ‹_› | exact prll ‹_›))
  refine LoopK.auto (Nat) (fun i => [(5, .one (.av (.int .i64 i))), (1, .one (.av (.int .i64 (k + (sm List.length (l.take i) : Nat)))))]) (fun i => []) [0] (k0 := ?k02) (keepH := ?kh2) 7 (fun i => i ≤ l.length) (fun i => l.length - i) (0) ?kea2 ?keb2 ?_ ?_ ?_
  case kea2 => exact amN
  case keb2 => exact amN
  · exact Nat.zero_le _
  · refine Le.of [] [] rfl rfl rfl rfl ?_ ?_ ?_
    all_goals (try refine amL (h := ?_))
    all_goals (try with_reducible apply True.intro)
    simp [sm]
  · intro i hi
    (try refine am (h := ?_)); (try with_reducible apply True.intro)
    refine ⟨fun hlt => ?_, fun hlt => ?_⟩
    · have hlt' : i < l.length := by omega
      have hs := sm_take (f := List.length) (d := []) hlt'
      have hp := sm_pre (sz := List.length) (d := []) l hlt'
      unfold tot at h1
      have hg : (mkL k l).getD i [] = mkI (k + (sm List.length (l.take i) : Nat)) (l.getD i []) := mkSq_get k l hlt'
      (try refine am (h := ?_)); (try simp only [hg]); (try refine am (h := ?_)); (try with_reducible apply True.intro)
      (try refine am (h := ?_)); (try simp only [hg]); (try refine am (h := ?_)); (try with_reducible apply True.intro)
      repeat' (first | (with_reducible refine And.intro ?_ ?_) | (with_reducible intro _))
      all_goals try (first | omega | with_reducible rfl | ((with_reducible refine eqId ?_); exact rfl) | with_reducible (first | assumption | exact pl ‹_› | exact pr ‹_› | exact plr ‹_› | exact pll ‹_› | exact prl ‹_› | exact plll ‹_› | exact prll ‹_›))
      first | refine CallK.one (heldI (l.getD i []) (k + (sm List.length (l.take i) : Nat)) v none (h.2 _ (getD_mem hlt')) (by omega) (by omega)) (fun _ => amC) ?_ | refine CallE.one (heldI (l.getD i []) (k + (sm List.length (l.take i) : Nat)) v none (h.2 _ (getD_mem hlt')) (by omega) (by omega)) (fun _ => amC) rfl ?_ | refine CallG.one rfl (fun hg => heldI (l.getD i []) (k + (sm List.length (l.take i) : Nat)) v none (h.2 _ (getD_mem hlt')) (by omega) (by omega)) ?_ | refine CallEG.one rfl rfl (fun hg => heldI (l.getD i []) (k + (sm List.length (l.take i) : Nat)) v none (h.2 _ (getD_mem hlt')) (by omega) (by omega)) ?_
      (try refine am (h := ?_)); (try with_reducible apply True.intro)
      repeat' (first | (with_reducible refine And.intro ?_ ?_) | (with_reducible intro _))
      all_goals try (first | omega | with_reducible rfl | ((with_reducible refine eqId ?_); exact rfl) | with_reducible (first | assumption | exact pl ‹_› | exact pr ‹_› | exact plr ‹_› | exact pll ‹_› | exact prl ‹_› | exact plll ‹_› | exact prll ‹_›))
      refine ⟨i + 1, ?_, by omega, by omega⟩
      refine Le.of [] [] rfl rfl rfl rfl ?_ ?_ ?_
      all_goals (try refine amL (h := ?_))
      all_goals (try with_reducible apply True.intro)
      omega
    · refine FinK.val1 ?_ ?_
      all_goals (try refine amF (h := ?_))
      all_goals (try with_reducible apply True.intro)
      rw [List.take_of_length_le (by omega)]; rfl
set_option maxHeartbeats 4000000 in
theorem markNodeS (l : List DNode) (k : Int) (nl : Option Bool) (h : okNodeS (2 ^ 47) l) (h0 : 0 ≤ k) (h1 : k + sm nNode l ≤ 2 ^ 62) : AMut Tryz.prog 79 (.sl true nl 12 l.length (fNode true l)) [.one (.int .i64 k)] (aNode true true (mkNs k l)) (k + sm nNode l) := by
  have hl := h.1
  have nt : Tryz.f79.ntmps = 103 := rfl
  refine AMut.of_run (m := 400) (t := 4) mixed Tryz.func79 rfl rfl (Nat.le_of_ble_eq_true rfl) rfl ?_
  simp only [nt]
  clear nt
  (try refine am (h := ?_)); (try with_reducible apply True.intro)
  repeat' (first | (with_reducible refine And.intro ?_ ?_) | (with_reducible intro _))
  all_goals try (first | omega | with_reducible rfl | ((with_reducible refine eqId ?_); exact rfl) | with_reducible (first | assumption | exact pl ‹_› | exact pr ‹_› | exact plr ‹_› | exact pll ‹_› | exact prl ‹_› | exact plll ‹_› | exact prll ‹_›))
  refine LoopK.auto (Nat) (fun i => [(5, .one (.av (.int .i64 i))), (1, .one (.av (.int .i64 (k + (sm nNode (l.take i) : Nat)))))]) (fun i => [(1, ⟨.sl true none 12 l.length (fun i' j => gl .junk (if i' < i then cNode true true (mkNode (k + (sm nNode (l.take i') : Nat)) (l.getD i' default)) else cNode true true (l.getD i' default)) j), []⟩)]) [0] (k0 := ?k03) (keepH := ?kh3) 7 (fun i => i ≤ l.length) (fun i => l.length - i) (0) ?kea3 ?keb3 ?_ ?_ ?_
  case kea3 => exact amN
  case keb3 => exact amN
  · exact Nat.zero_le _
  · refine Le.of [(1, 1)] [] rfl rfl rfl rfl ?_ ?_ ?_
    all_goals (try refine amL (h := ?_))
    all_goals (try with_reducible apply True.intro)
    · exact ALe.of (.inl rfl) rfl (fun i hi j hj => by rw [if_neg (by omega)]; exact .refl _)
    · simp [sm]
  · intro i hi
    generalize hK : k + ((sm nNode (l.take i) : Nat) : Int) = K
    (try refine am (h := ?_)); (try simp only [Nat.lt_irrefl]); (try refine am (h := ?_)); (try with_reducible apply True.intro)
    refine ⟨fun hlt => ?_, fun hlt => ?_⟩
    · have hs := sm_take (f := nNode) (d := default) hlt
      have hp := sm_pre (sz := nNode) (d := default) l hlt
      have hn : nNode (l.getD i default) = 8 + (l.getD i default).kids.length + (l.getD i default).stats.totals.length + tot (l.getD i default).stats.cells + (l.getD i default).attrs.length := rfl
      obtain ⟨_, _, hk, _, ⟨ht, hc⟩, _, ha, _⟩ := h.2 _ (getD_mem (d := default) hlt)
      repeat' (first | (with_reducible refine And.intro ?_ ?_) | (with_reducible intro _))
      all_goals try (first | omega | with_reducible rfl | ((with_reducible refine eqId ?_); exact rfl) | with_reducible (first | assumption | exact pl ‹_› | exact pr ‹_› | exact plr ‹_› | exact pll ‹_› | exact prl ‹_› | exact plll ‹_› | exact prll ‹_›))
      (try refine am (h := ?_)); (try simp only [Nat.lt_irrefl]); (try refine am (h := ?_)); (try with_reducible apply True.intro)
      repeat' (first | (with_reducible refine And.intro ?_ ?_) | (with_reducible intro _))
      all_goals try (first | omega | with_reducible rfl | ((with_reducible refine eqId ?_); exact rfl) | with_reducible (first | assumption | exact pl ‹_› | exact pr ‹_› | exact plr ‹_› | exact pll ‹_› | exact prl ‹_› | exact plll ‹_› | exact prll ‹_›))
      refine CallK.mut (markIntS (l.getD i default).kids (K + 1 + 1 + 1) none hk (by omega) (by omega)) ?ha2 ?hb2 ?hc2 ?hd2
      case ha2 => first | exact rfl | (simp only [St.H, lk_cons, AV.at, Nat.lt_irrefl, gl, beq_self, cond_true, reduceIte]; done) | (simp [St.H, lk_cons, AV.at, gl]; done)
      case hb2 => exact rfl
      case hc2 => exact rfl
      (try refine am (h := ?_)); (try with_reducible apply True.intro)
      (try refine am (h := ?_)); (try simp only [Nat.lt_irrefl]); (try refine am (h := ?_)); (try with_reducible apply True.intro)
      repeat' (first | (with_reducible refine And.intro ?_ ?_) | (with_reducible intro _))
      all_goals try (first | omega | with_reducible rfl | ((with_reducible refine eqId ?_); exact rfl) | with_reducible (first | assumption | exact pl ‹_› | exact pr ‹_› | exact plr ‹_› | exact pll ‹_› | exact prl ‹_› | exact plll ‹_› | exact prll ‹_›))
      (try refine am (h := ?_)); (try simp only [Nat.lt_irrefl]); (try refine am (h := ?_)); (try with_reducible apply True.intro)
      repeat' (first | (with_reducible refine And.intro ?_ ?_) | (with_reducible intro _))
      all_goals try (first | omega | with_reducible rfl | ((with_reducible refine eqId ?_); exact rfl) | with_reducible (first | assumption | exact pl ‹_› | exact pr ‹_› | exact plr ‹_› | exact pll ‹_› | exact prl ‹_› | exact plll ‹_› | exact prll ‹_›))
      refine CallK.mut (markIntS (l.getD i default).stats.totals (K + 1 + 1 + 1 + (l.getD i default).kids.length + 1) none ht (by omega) (by omega)) ?ha3 ?hb3 ?hc3 ?hd3
      case ha3 => first | exact rfl | (simp only [St.H, lk_cons, AV.at, Nat.lt_irrefl, gl, beq_self, cond_true, reduceIte]; done) | (simp [St.H, lk_cons, AV.at, gl]; done)
      case hb3 => exact rfl
      case hc3 => exact rfl
      (try refine am (h := ?_)); (try with_reducible apply True.intro)
      (try refine am (h := ?_)); (try simp only [Nat.lt_irrefl]); (try refine am (h := ?_)); (try with_reducible apply True.intro)
      repeat' (first | (with_reducible refine And.intro ?_ ?_) | (with_reducible intro _))
      all_goals try (first | omega | with_reducible rfl | ((with_reducible refine eqId ?_); exact rfl) | with_reducible (first | assumption | exact pl ‹_› | exact pr ‹_› | exact plr ‹_› | exact pll ‹_› | exact prl ‹_› | exact plll ‹_› | exact prll ‹_›))
      (try refine am (h := ?_)); (try simp only [Nat.lt_irrefl]); (try refine am (h := ?_)); (try with_reducible apply True.intro)
      repeat' (first | (with_reducible refine And.intro ?_ ?_) | (with_reducible intro _))
      all_goals try (first | omega | with_reducible rfl | ((with_reducible refine eqId ?_); exact rfl) | with_reducible (first | assumption | exact pl ‹_› | exact pr ‹_› | exact plr ‹_› | exact pll ‹_› | exact prl ‹_› | exact plll ‹_› | exact prll ‹_›))
      refine CallK.mut (markIntSS (l.getD i default).stats.cells (K + 1 + 1 + 1 + (l.getD i default).kids.length + 1 + (l.getD i default).stats.totals.length) none hc (by omega) (by omega)) ?ha4 ?hb4 ?hc4 ?hd4
      case ha4 => first | exact rfl | (simp only [St.H, lk_cons, AV.at, Nat.lt_irrefl, gl, beq_self, cond_true, reduceIte]; done) | (simp [St.H, lk_cons, AV.at, gl]; done)
      case hb4 => exact rfl
      case hc4 => exact rfl
      (try refine am (h := ?_)); (try with_reducible apply True.intro)
      (try refine am (h := ?_)); (try simp only [Nat.lt_irrefl]); (try refine am (h := ?_)); (try with_reducible apply True.intro)
      repeat' (first | (with_reducible refine And.intro ?_ ?_) | (with_reducible intro _))
      all_goals try (first | omega | with_reducible rfl | ((with_reducible refine eqId ?_); exact rfl) | with_reducible (first | assumption | exact pl ‹_› | exact pr ‹_› | exact plr ‹_› | exact pll ‹_› | exact prl ‹_› | exact plll ‹_› | exact prll ‹_›))
      (try refine am (h := ?_)); (try simp only [Nat.lt_irrefl]); (try refine am (h := ?_)); (try with_reducible apply True.intro)
      repeat' (first | (with_reducible refine And.intro ?_ ?_) | (with_reducible intro _))
      all_goals try (first | omega | with_reducible rfl | ((with_reducible refine eqId ?_); exact rfl) | with_reducible (first | assumption | exact pl ‹_› | exact pr ‹_› | exact plr ‹_› | exact pll ‹_› | exact prl ‹_› | exact plll ‹_› | exact prll ‹_›))
      refine CallK.mut (markIntS (l.getD i default).attrs (K + 1 + 1 + 1 + (l.getD i default).kids.length + 1 + (l.getD i default).stats.totals.length + tot (l.getD i default).stats.cells + 1) none ha (by omega) (by omega)) ?ha5 ?hb5 ?hc5 ?hd5
      case ha5 => first | exact rfl | (simp only [St.H, lk_cons, AV.at, Nat.lt_irrefl, gl, beq_self, cond_true, reduceIte]; done) | (simp [St.H, lk_cons, AV.at, gl]; done)
      case hb5 => exact rfl
      case hc5 => exact rfl
      (try refine am (h := ?_)); (try with_reducible apply True.intro)
      (try refine am (h := ?_)); (try simp only [Nat.lt_irrefl]); (try refine am (h := ?_)); (try with_reducible apply True.intro)
      repeat' (first | (with_reducible refine And.intro ?_ ?_) | (with_reducible intro _))
      all_goals try (first | omega | with_reducible rfl | ((with_reducible refine eqId ?_); exact rfl) | with_reducible (first | assumption | exact pl ‹_› | exact pr ‹_› | exact plr ‹_› | exact pll ‹_› | exact prl ‹_› | exact plll ‹_› | exact prll ‹_›))
      (try refine am (h := ?_)); (try simp only [Nat.lt_irrefl]); (try refine am (h := ?_)); (try with_reducible apply True.intro)
      repeat' (first | (with_reducible refine And.intro ?_ ?_) | (with_reducible intro _))
      all_goals try (first | omega | with_reducible rfl | ((with_reducible refine eqId ?_); exact rfl) | with_reducible (first | assumption | exact pl ‹_› | exact pr ‹_› | exact plr ‹_› | exact pll ‹_› | exact prl ‹_› | exact plll ‹_› | exact prll ‹_›))
      refine ⟨i + 1, ?_, by omega, by omega⟩
      refine Le.of [(1, 1)] [] rfl rfl rfl rfl ?_ ?_ ?_
      all_goals (try refine amL (h := ?_))
      all_goals (try with_reducible apply True.intro)
      · refine ALe.of (.inl rfl) rfl (fun i' hi' j hj => ?_)
        by_cases e : i' = i
        · subst e
          rw [if_pos (show i' < i' + 1 by omega), hK]
          have hj' : j = 0 ∨ j = 1 ∨ j = 2 ∨ j = 3 ∨ j = 4 ∨ j = 5 ∨ j = 6 ∨ j = 7 ∨ j = 8 ∨ j = 9 ∨ j = 10 ∨ j = 11 := by omega
          rcases hj' with rfl | rfl | rfl | rfl | rfl | rfl | rfl | rfl | rfl | rfl | rfl | rfl <;> (simp [cNode, mkNode, gl]; try exact .refl _)
        · simp only [e, false_and, if_false]
          by_cases e2 : i' < i
          · rw [if_pos e2, if_pos (by omega)]; exact .refl _
          · rw [if_neg e2, if_neg (by omega)]; exact .refl _
      · omega
    · refine FinK.mut (by (try refine am (h := ?_)); (try with_reducible apply True.intro)) ?_ ?_
      all_goals (try refine amF (h := ?_))
      all_goals (try with_reducible apply True.intro)
      refine ⟨ALe.of (.inl rfl) (mkNs_len k l).symm (fun i' hi' j hj => ?_), by rw [← hK, List.take_of_length_le (by omega)]⟩
      rw [if_pos (by omega)]
      have := mkSq_get (sz := nNode) (mk := mkNode) (d := default) k l hi'
      show ALe _ (gl .junk (cNode true true ((mkNs k l).getD i' default)) j)
      unfold mkNs
      rw [this]
      exact .refl _
end Go.AM
