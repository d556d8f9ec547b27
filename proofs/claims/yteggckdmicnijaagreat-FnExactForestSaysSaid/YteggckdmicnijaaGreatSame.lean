/- Lemmas for the proof of this claim. -/
import Derived.Test.YteggckdmicnijaaGreatFam
namespace Go.AM
open Go Go.Proofs
set_option maxRecDepth 100000
set_option maxHeartbeats 4000000 in
theorem equalInts (l m : List (Int)) (u u' : Bool) (nl ml : Option Bool) (hl : l.length ≤ 2 ^ 47) : ACalls Tryz.prog 258 [.one (.sl u nl 1 l.length (fI l)), .one (.sl u' ml 1 m.length (fI m))] (fun r => r = .val (.one (.bool (decide (l = m))))) := by
  have nt : Tryz.f258.ntmps = 26 := rfl
  have rs : Tryz.f258.results = #[.tmp 4] := rfl
  refine ACalls.of_run (m := 400) mixed Tryz.func258 rfl rfl (Nat.le_of_ble_eq_true rfl) ?_
  simp only [nt, rs]
  clear nt rs
  (try refine am (h := ?_)); (try with_reducible apply True.intro)
  refine ⟨fun h => ?_, fun hlen => ?_⟩
  · refine FinK.val1 ?_ ?_
    all_goals (try refine amF (h := ?_))
    all_goals (try with_reducible apply True.intro)
    exact (decide_eq_false (fun e => h (by rw [e]))).symm
  refine LoopK.auto (Nat) (fun i => [(13, .one (.av (.int .i64 i)))]) (fun i => []) [0, 1, 12] (k0 := ?k01) (keepH := ?kh1) 400 (fun i => i ≤ l.length ∧ ∀ j, j < i → l.getD j 0 = m.getD j 0) (fun i => l.length - i) (0) ?kea1 ?keb1 ?_ ?_ ?_
  case kea1 => exact amN
  case keb1 => exact amN
  · exact ⟨Nat.zero_le _, fun j hj => by omega⟩
  · refine Le.of [] [] rfl rfl rfl rfl ?_ ?_ ?_
    all_goals (try refine amL (h := ?_))
    all_goals (try with_reducible apply True.intro)
  · intro i hi
    (try refine am (h := ?_)); (try with_reducible apply True.intro)
    repeat' (first | (with_reducible refine And.intro ?_ ?_) | (with_reducible intro _))
    all_goals try (first | omega | with_reducible rfl | ((with_reducible refine eqId ?_); exact rfl) | with_reducible (first | assumption | exact pl ‹_› | exact pr ‹_› | exact plr ‹_› | exact pll ‹_› | exact prl ‹_› | exact plll ‹_› | exact prll ‹_›))
    · refine FinK.val1 ?_ ?_
      all_goals (try refine amF (h := ?_))
      all_goals (try with_reducible apply True.intro)
      rename_i h2
      exact (decide_eq_false (fun e => h2 (by rw [e]))).symm
    · rename_i h2
      refine ⟨i + 1, ?_, ⟨by omega, fun j hj => ?_⟩, by omega⟩
      · refine Le.of [] [] rfl rfl rfl rfl ?_ ?_ ?_
        all_goals (try refine amL (h := ?_))
        all_goals (try with_reducible apply True.intro)
      · by_cases h3 : j = i
        · rw [h3]; exact h2
        · exact hi.2 j (by omega)
    · refine FinK.val1 ?_ ?_
      all_goals (try refine amF (h := ?_))
      all_goals (try with_reducible apply True.intro)
      exact (decide_eq_true (getD_ext hlen (fun j hj => hi.2 j (by omega)))).symm
set_option maxHeartbeats 4000000 in
theorem equalFuncInts (l m : List (List (Int))) (u u' v v' : Bool) (nl ml : Option Bool) (f : FuncId) (g : Nat → AV) (hl : l.length ≤ 2 ^ 47) (hf : ∀ x ∈ l, ∀ y, ACalls Tryz.prog f [.one (aI v x), .one (aI v' y)] (fun r => r = .val (.one (.bool (decide (x = y)))))) : ACalls Tryz.prog 263 [.one (.sl u nl 1 l.length (fL v l)), .one (.sl u' ml 1 m.length (fL v' m)), .one (.fn (.func f) 0 g)] (fun r => r = .val (.one (.bool (decide (l = m))))) := by
  have nt : Tryz.f263.ntmps = 32 := rfl
  have rs : Tryz.f263.results = #[.tmp 6] := rfl
  refine ACalls.of_run (m := 400) mixed Tryz.func263 rfl rfl (Nat.le_of_ble_eq_true rfl) ?_
  simp only [nt, rs]
  clear nt rs
  (try refine am (h := ?_)); (try with_reducible apply True.intro)
  refine ⟨fun h => ?_, fun hlen => ?_⟩
  · refine FinK.val1 ?_ ?_
    all_goals (try refine amF (h := ?_))
    all_goals (try with_reducible apply True.intro)
    exact (decide_eq_false (fun e => h (by rw [e]))).symm
  refine LoopK.auto (Nat) (fun i => [(17, .one (.av (.int .i64 i)))]) (fun i => []) [1, 2, 15, 16] (k0 := ?k02) (keepH := ?kh2) 400 (fun i => i ≤ l.length ∧ ∀ j, j < i → l.getD j [] = m.getD j []) (fun i => l.length - i) (0) ?kea2 ?keb2 ?_ ?_ ?_
  case kea2 => exact amN
  case keb2 => exact amN
  · exact ⟨Nat.zero_le _, fun j hj => by omega⟩
  · refine Le.of [] [] rfl rfl rfl rfl ?_ ?_ ?_
    all_goals (try refine amL (h := ?_))
    all_goals (try with_reducible apply True.intro)
  · intro i hi
    (try refine am (h := ?_)); (try with_reducible apply True.intro)
    repeat' (first | (with_reducible refine And.intro ?_ ?_) | (with_reducible intro _))
    all_goals try (first | omega | with_reducible rfl | ((with_reducible refine eqId ?_); exact rfl) | with_reducible (first | assumption | exact pl ‹_› | exact pr ‹_› | exact plr ‹_› | exact pll ‹_› | exact prl ‹_› | exact plll ‹_› | exact prll ‹_›))
    · have hlt : i < l.length := by assumption
      first | refine CallK.one (hf (l.getD i []) (getD_mem hlt) (m.getD i [])) (fun _ => amC) ?_ | refine CallE.one (hf (l.getD i []) (getD_mem hlt) (m.getD i [])) (fun _ => amC) rfl ?_ | refine CallG.one rfl (fun hg => hf (l.getD i []) (getD_mem hlt) (m.getD i [])) ?_ | refine CallEG.one rfl rfl (fun hg => hf (l.getD i []) (getD_mem hlt) (m.getD i [])) ?_
      (try refine am (h := ?_)); (try with_reducible apply True.intro)
      repeat' (first | (with_reducible refine And.intro ?_ ?_) | (with_reducible intro _))
      all_goals try (first | omega | with_reducible rfl | ((with_reducible refine eqId ?_); exact rfl) | with_reducible (first | assumption | exact pl ‹_› | exact pr ‹_› | exact plr ‹_› | exact pll ‹_› | exact prl ‹_› | exact plll ‹_› | exact prll ‹_›))
      · refine FinK.val1 ?_ ?_
        all_goals (try refine amF (h := ?_))
        all_goals (try with_reducible apply True.intro)
        rename_i h2
        exact (decide_eq_false (fun e => h2 (by rw [e]))).symm
      · rename_i h2
        refine ⟨i + 1, ?_, ⟨by omega, fun j hj => ?_⟩, by omega⟩
        · refine Le.of [] [] rfl rfl rfl rfl ?_ ?_ ?_
          all_goals (try refine amL (h := ?_))
          all_goals (try with_reducible apply True.intro)
        · by_cases h3 : j = i
          · rw [h3]; exact h2
          · exact hi.2 j (by omega)
    · refine FinK.val1 ?_ ?_
      all_goals (try refine amF (h := ?_))
      all_goals (try with_reducible apply True.intro)
      exact (decide_eq_true (getD_ext hlen (fun j hj => hi.2 j (by omega)))).symm
set_option maxHeartbeats 4000000 in
theorem equalFuncNode (l m : List (DNode)) (u u' v v' : Bool) (nl ml : Option Bool) (f : FuncId) (g : Nat → AV) (hl : l.length ≤ 2 ^ 47) (hf : ∀ x ∈ l, ∀ y, ACalls Tryz.prog f [.agg (cNode false v x), .agg (cNode false v' y)] (fun r => r = .val (.one (.bool (decide (x = y)))))) : ACalls Tryz.prog 247 [.one (.sl u nl 12 l.length (fNode v l)), .one (.sl u' ml 12 m.length (fNode v' m)), .one (.fn (.func f) 0 g)] (fun r => r = .val (.one (.bool (decide (l = m))))) := by
  have nt : Tryz.f247.ntmps = 32 := rfl
  have rs : Tryz.f247.results = #[.tmp 6] := rfl
  refine ACalls.of_run (m := 400) mixed Tryz.func247 rfl rfl (Nat.le_of_ble_eq_true rfl) ?_
  simp only [nt, rs]
  clear nt rs
  (try refine am (h := ?_)); (try with_reducible apply True.intro)
  refine ⟨fun h => ?_, fun hlen => ?_⟩
  · refine FinK.val1 ?_ ?_
    all_goals (try refine amF (h := ?_))
    all_goals (try with_reducible apply True.intro)
    exact (decide_eq_false (fun e => h (by rw [e]))).symm
  refine LoopK.auto (Nat) (fun i => [(17, .one (.av (.int .i64 i)))]) (fun i => []) [1, 2, 15, 16] (k0 := ?k03) (keepH := ?kh3) 400 (fun i => i ≤ l.length ∧ ∀ j, j < i → l.getD j default = m.getD j default) (fun i => l.length - i) (0) ?kea3 ?keb3 ?_ ?_ ?_
  case kea3 => exact amN
  case keb3 => exact amN
  · exact ⟨Nat.zero_le _, fun j hj => by omega⟩
  · refine Le.of [] [] rfl rfl rfl rfl ?_ ?_ ?_
    all_goals (try refine amL (h := ?_))
    all_goals (try with_reducible apply True.intro)
  · intro i hi
    (try refine am (h := ?_)); (try with_reducible apply True.intro)
    repeat' (first | (with_reducible refine And.intro ?_ ?_) | (with_reducible intro _))
    all_goals try (first | omega | with_reducible rfl | ((with_reducible refine eqId ?_); exact rfl) | with_reducible (first | assumption | exact pl ‹_› | exact pr ‹_› | exact plr ‹_› | exact pll ‹_› | exact prl ‹_› | exact plll ‹_› | exact prll ‹_›))
    · have hlt : i < l.length := by assumption
      first | refine CallK.one (hf (l.getD i default) (getD_mem hlt) (m.getD i default)) (fun _ => amC) ?_ | refine CallE.one (hf (l.getD i default) (getD_mem hlt) (m.getD i default)) (fun _ => amC) rfl ?_ | refine CallG.one rfl (fun hg => hf (l.getD i default) (getD_mem hlt) (m.getD i default)) ?_ | refine CallEG.one rfl rfl (fun hg => hf (l.getD i default) (getD_mem hlt) (m.getD i default)) ?_
      (try refine am (h := ?_)); (try with_reducible apply True.intro)
      repeat' (first | (with_reducible refine And.intro ?_ ?_) | (with_reducible intro _))
      all_goals try (first | omega | with_reducible rfl | ((with_reducible refine eqId ?_); exact rfl) | with_reducible (first | assumption | exact pl ‹_› | exact pr ‹_› | exact plr ‹_› | exact pll ‹_› | exact prl ‹_› | exact plll ‹_› | exact prll ‹_›))
      · refine FinK.val1 ?_ ?_
        all_goals (try refine amF (h := ?_))
        all_goals (try with_reducible apply True.intro)
        rename_i h2
        exact (decide_eq_false (fun e => h2 (by rw [e]))).symm
      · rename_i h2
        refine ⟨i + 1, ?_, ⟨by omega, fun j hj => ?_⟩, by omega⟩
        · refine Le.of [] [] rfl rfl rfl rfl ?_ ?_ ?_
          all_goals (try refine amL (h := ?_))
          all_goals (try with_reducible apply True.intro)
        · by_cases h3 : j = i
          · rw [h3]; exact h2
          · exact hi.2 j (by omega)
    · refine FinK.val1 ?_ ?_
      all_goals (try refine amF (h := ?_))
      all_goals (try with_reducible apply True.intro)
      exact (decide_eq_true (getD_ext hlen (fun j hj => hi.2 j (by omega)))).symm
set_option maxHeartbeats 4000000 in
theorem sameLists1 (x y : List Int) (u u' : Bool) (nl ml : Option Bool) (h : x.length ≤ 2 ^ 47) : ACalls Tryz.prog 264 [.one (.sl u nl 1 x.length (fI x)), .one (.sl u' ml 1 y.length (fI y))] (fun r => r = .val (.one (.bool (decide (x = y))))) := by
  have nt : Tryz.f264.ntmps = 8 := rfl
  have rs : Tryz.f264.results = #[.tmp 4] := rfl
  refine ACalls.of_run (m := 400) mixed Tryz.func264 rfl rfl (Nat.le_of_ble_eq_true rfl) ?_
  simp only [nt, rs]
  clear nt rs
  (try refine am (h := ?_)); (try with_reducible apply True.intro)
  first | refine CallK.one (equalInts x y _ _ _ _ h) (fun _ => amC) ?_ | refine CallE.one (equalInts x y _ _ _ _ h) (fun _ => amC) rfl ?_ | refine CallG.one rfl (fun hg => equalInts x y _ _ _ _ h) ?_ | refine CallEG.one rfl rfl (fun hg => equalInts x y _ _ _ _ h) ?_
  (try refine am (h := ?_)); (try with_reducible apply True.intro)
  refine FinK.val1 ?_ ?_
  all_goals (try refine amF (h := ?_))
  all_goals (try with_reducible apply True.intro)
set_option maxHeartbeats 4000000 in
theorem sameLists (l m : List (List Int)) (u u' v v' : Bool) (nl ml : Option Bool) (h : okL (2 ^ 47) l) : ACalls Tryz.prog 262 [.one (.sl u nl 1 l.length (fL v l)), .one (.sl u' ml 1 m.length (fL v' m))] (fun r => r = .val (.one (.bool (decide (l = m))))) := by
  have nt : Tryz.f262.ntmps = 8 := rfl
  have rs : Tryz.f262.results = #[.tmp 4] := rfl
  refine ACalls.of_run (m := 400) mixed Tryz.func262 rfl rfl (Nat.le_of_ble_eq_true rfl) ?_
  simp only [nt, rs]
  clear nt rs
  (try refine am (h := ?_)); (try with_reducible apply True.intro)
  first | refine CallK.one (equalFuncInts l m _ _ _ _ _ _ _ _ h.1 (fun x hx y => sameLists1 x y _ _ _ _ (h.2 x hx).1)) (fun _ => amC) ?_ | refine CallE.one (equalFuncInts l m _ _ _ _ _ _ _ _ h.1 (fun x hx y => sameLists1 x y _ _ _ _ (h.2 x hx).1)) (fun _ => amC) rfl ?_ | refine CallG.one rfl (fun hg => equalFuncInts l m _ _ _ _ _ _ _ _ h.1 (fun x hx y => sameLists1 x y _ _ _ _ (h.2 x hx).1)) ?_ | refine CallEG.one rfl rfl (fun hg => equalFuncInts l m _ _ _ _ _ _ _ _ h.1 (fun x hx y => sameLists1 x y _ _ _ _ (h.2 x hx).1)) ?_
  (try refine am (h := ?_)); (try with_reducible apply True.intro)
  refine FinK.val1 ?_ ?_
  all_goals (try refine amF (h := ?_))
  all_goals (try with_reducible apply True.intro)
set_option maxHeartbeats 4000000 in
theorem implStatsSame (x y : DStats) (u v u' v' : Bool) (h : okStats (2 ^ 47) x) : ACalls Tryz.prog 259 [.agg (cStats u v x), .agg (cStats u' v' y)] (fun r => r = .val (.one (.bool (decide (x = y))))) := by
  obtain ⟨x0, x1⟩ := x
  obtain ⟨y0, y1⟩ := y
  have nt : Tryz.f259.ntmps = 17 := rfl
  have rs : Tryz.f259.results = #[.tmp 4] := rfl
  refine ACalls.of_run (m := 400) mixed Tryz.func259 rfl rfl (Nat.le_of_ble_eq_true rfl) ?_
  simp only [nt, rs]
  clear nt rs
  (try refine am (h := ?_)); (try with_reducible apply True.intro)
  first | refine CallK.one (equalInts x0 y0 _ _ _ _ h.1.1) (fun _ => amC) ?_ | refine CallE.one (equalInts x0 y0 _ _ _ _ h.1.1) (fun _ => amC) rfl ?_ | refine CallG.one rfl (fun hg => equalInts x0 y0 _ _ _ _ h.1.1) ?_ | refine CallEG.one rfl rfl (fun hg => equalInts x0 y0 _ _ _ _ h.1.1) ?_
  (try refine am (h := ?_)); (try with_reducible apply True.intro)
  repeat' (first | (with_reducible refine And.intro ?_ ?_) | (with_reducible intro _))
  all_goals try (first | omega | with_reducible rfl | ((with_reducible refine eqId ?_); exact rfl) | with_reducible (first | assumption | exact pl ‹_› | exact pr ‹_› | exact plr ‹_› | exact pll ‹_› | exact prl ‹_› | exact plll ‹_› | exact prll ‹_›))
  first | refine CallG.one rfl (fun hg => sameLists x1 y1 _ _ _ _ _ _ h.2) ?_ | refine CallEG.one rfl rfl (fun hg => sameLists x1 y1 _ _ _ _ _ _ h.2) ?_
  (try refine am (h := ?_)); (try with_reducible apply True.intro)
  repeat' (first | (with_reducible refine And.intro ?_ ?_) | (with_reducible intro _))
  all_goals try (first | omega | with_reducible rfl | ((with_reducible refine eqId ?_); exact rfl) | with_reducible (first | assumption | exact pl ‹_› | exact pr ‹_› | exact plr ‹_› | exact pll ‹_› | exact prl ‹_› | exact plll ‹_› | exact prll ‹_›))
  refine FinK.val1 ?_ ?_
  all_goals (try refine amF (h := ?_))
  all_goals (try with_reducible apply True.intro)
  (first | rfl | (simp_all; done) | (simp_all [Bool.and_assoc]; done) | (simp_all [Bool.and_comm]; done))
set_option maxHeartbeats 4000000 in
theorem implNodeSame (x y : DNode) (u v u' v' : Bool) (h : okNode (2 ^ 47) x) : ACalls Tryz.prog 248 [.agg (cNode u v x), .agg (cNode u' v' y)] (fun r => r = .val (.one (.bool (decide (x = y))))) := by
  obtain ⟨x0, ⟨x1, x1'⟩, x2, x3, x4, x5, x6, x7, x8, x9⟩ := x
  obtain ⟨y0, ⟨y1, y1'⟩, y2, y3, y4, y5, y6, y7, y8, y9⟩ := y
  have nt : Tryz.f248.ntmps = 73 := rfl
  have rs : Tryz.f248.results = #[.tmp 4] := rfl
  refine ACalls.of_run (m := 400) mixed Tryz.func248 rfl rfl (Nat.le_of_ble_eq_true rfl) ?_
  simp only [nt, rs]
  clear nt rs
  (try refine am (h := ?_)); (try with_reducible apply True.intro)
  repeat' (first | (with_reducible refine And.intro ?_ ?_) | (with_reducible intro _))
  all_goals try (first | omega | with_reducible rfl | ((with_reducible refine eqId ?_); exact rfl) | with_reducible (first | assumption | exact pl ‹_› | exact pr ‹_› | exact plr ‹_› | exact pll ‹_› | exact prl ‹_› | exact plll ‹_› | exact prll ‹_›))
  first | refine CallG.one rfl (fun hg => equalInts x2 y2 _ _ _ _ h.2.2.1.1) ?_ | refine CallEG.one rfl rfl (fun hg => equalInts x2 y2 _ _ _ _ h.2.2.1.1) ?_
  (try refine am (h := ?_)); (try with_reducible apply True.intro)
  repeat' (first | (with_reducible refine And.intro ?_ ?_) | (with_reducible intro _))
  all_goals try (first | omega | with_reducible rfl | ((with_reducible refine eqId ?_); exact rfl) | with_reducible (first | assumption | exact pl ‹_› | exact pr ‹_› | exact plr ‹_› | exact pll ‹_› | exact prl ‹_› | exact plll ‹_› | exact prll ‹_›))
  first | refine CallG.one rfl (fun hg => implStatsSame x4 y4 _ _ _ _ h.2.2.2.2.1) ?_ | refine CallEG.one rfl rfl (fun hg => implStatsSame x4 y4 _ _ _ _ h.2.2.2.2.1) ?_
  (try refine am (h := ?_)); (try with_reducible apply True.intro)
  repeat' (first | (with_reducible refine And.intro ?_ ?_) | (with_reducible intro _))
  all_goals try (first | omega | with_reducible rfl | ((with_reducible refine eqId ?_); exact rfl) | with_reducible (first | assumption | exact pl ‹_› | exact pr ‹_› | exact plr ‹_› | exact pll ‹_› | exact prl ‹_› | exact plll ‹_› | exact prll ‹_›))
  first | refine CallG.one rfl (fun hg => equalInts x6 y6 _ _ _ _ h.2.2.2.2.2.2.1.1) ?_ | refine CallEG.one rfl rfl (fun hg => equalInts x6 y6 _ _ _ _ h.2.2.2.2.2.2.1.1) ?_
  (try refine am (h := ?_)); (try with_reducible apply True.intro)
  repeat' (first | (with_reducible refine And.intro ?_ ?_) | (with_reducible intro _))
  all_goals try (first | omega | with_reducible rfl | ((with_reducible refine eqId ?_); exact rfl) | with_reducible (first | assumption | exact pl ‹_› | exact pr ‹_› | exact plr ‹_› | exact pll ‹_› | exact prl ‹_› | exact plll ‹_› | exact prll ‹_›))
  refine FinK.val1 ?_ ?_
  all_goals (try refine amF (h := ?_))
  all_goals (try with_reducible apply True.intro)
  (first | rfl | (simp_all; done) | (simp_all [Bool.and_assoc]; done) | (simp_all [Bool.and_comm]; done))
end Go.AM
namespace Go.AM
open Go Go.Proofs
set_option maxRecDepth 100000
set_option maxHeartbeats 4000000 in
theorem implTreeSame (x y : DTree) (u v u' v' : Bool) (h : okTree (2 ^ 47) x) : ACalls Tryz.prog 228 [.agg (cTree u v x), .agg (cTree u' v' y)] (fun r => r = .val (.one (.bool (decide (x = y))))) := by
  obtain ⟨x0, x1⟩ := x
  obtain ⟨y0, y1⟩ := y
  have nt : Tryz.f228.ntmps = 17 := rfl
  have rs : Tryz.f228.results = #[.tmp 4] := rfl
  refine ACalls.of_run (m := 400) mixed Tryz.func228 rfl rfl (Nat.le_of_ble_eq_true rfl) ?_
  simp only [nt, rs]
  clear nt rs
  (try refine am (h := ?_)); (try with_reducible apply True.intro)
  repeat' (first | (with_reducible refine And.intro ?_ ?_) | (with_reducible intro _))
  all_goals try (first | omega | with_reducible rfl | ((with_reducible refine eqId ?_); exact rfl) | with_reducible (first | assumption | exact pl ‹_› | exact pr ‹_› | exact plr ‹_› | exact pll ‹_› | exact prl ‹_› | exact plll ‹_› | exact prll ‹_›))
  first | refine CallG.one rfl (fun hg => equalFuncNode x0 y0 _ _ _ _ _ _ _ _ h.1.1 (fun a ha b => implNodeSame a b _ _ _ _ (h.1.2 a ha))) ?_ | refine CallEG.one rfl rfl (fun hg => equalFuncNode x0 y0 _ _ _ _ _ _ _ _ h.1.1 (fun a ha b => implNodeSame a b _ _ _ _ (h.1.2 a ha))) ?_
  (try refine am (h := ?_)); (try with_reducible apply True.intro)
  repeat' (first | (with_reducible refine And.intro ?_ ?_) | (with_reducible intro _))
  all_goals try (first | omega | with_reducible rfl | ((with_reducible refine eqId ?_); exact rfl) | with_reducible (first | assumption | exact pl ‹_› | exact pr ‹_› | exact plr ‹_› | exact pll ‹_› | exact prl ‹_› | exact plll ‹_› | exact prll ‹_›))
  refine FinK.val1 ?_ ?_
  all_goals (try refine amF (h := ?_))
  all_goals (try with_reducible apply True.intro)
  (first | rfl | (simp_all; done) | (simp_all [Bool.and_assoc]; done) | (simp_all [Bool.and_comm]; done))
end Go.AM
