/- Lemmas for the proof of this claim. -/
import Derived.Test.YtbfofhfeghfpoaaBas
import Derived.Test.YtbfofhfeghfpoaaData
import Derived.Test.YtbfofhfeghfpoaaSco0
namespace Go.AM
open Go Go.Proofs
set_option maxRecDepth 100000
theorem appRow {l : List (List Int)} {i n : Nat} {nl nl' : Option Bool} {g : Nat → Nat → AV} (hnl : nl' = none ∨ nl' = nl) (hn : n = i + 1) (hg : ALe (g 0 0) (.sl true none 1 (l.getD i []).length (fI (l.getD i [])))) : ALe (.sl true nl 1 n (apF i (fL true l) g)) (.sl true nl' 1 (i + 1) (fL true l)) := by
  refine ALe.of hnl hn (fun a ha j hj => ?_)
  obtain rfl : j = 0 := by omega
  unfold apF
  by_cases e : a < i
  · rw [if_pos e]; exact .refl _
  · rw [if_neg e]
    obtain rfl : a = i := by omega
    rw [Nat.sub_self]
    exact hg
theorem rowsLe2 {nl : Option Bool} {n : Nat} {F : Nat → Nat → AV} {m : List (List Int)} (hn : n = m.length) (h : ∀ i, i < n → ALe (F i 0) (.sl true none 1 (m.getD i []).length (fI (m.getD i [])))) : ALe (.sl true nl 1 n F) (.sl true none 1 m.length (fL true m)) := by
  refine ALe.of (.inl rfl) hn (fun a ha j hj => ?_)
  obtain rfl : j = 0 := by omega
  exact h a ha
theorem okL_at {B : Nat} {l : List (List Int)} (h : okL B l) (i : Nat) : (l.getD i []).length ≤ B := by
  by_cases e : i < l.length
  · exact (h.2 _ (getD_mem e)).1
  · have : l.getD i [] = [] := by rw [List.getD_eq_getElem?_getD, List.getElem?_eq_none (by omega)]; rfl
    rw [this]; exact Nat.zero_le _
set_option maxHeartbeats 4000000 in
theorem cloneListsI (l : List (List Int)) (u v : Bool) (h : okL (2 ^ 40) l) : ACalls Try.prog 91 [.one (aL u v l)] (fun r => r = .val (.one (aL true true l))) := by
  have hl := h.1
  have nt : Try.f91.ntmps = 19 := rfl
  have rs : Try.f91.results = #[.tmp 2] := rfl
  refine ACalls.of_run (m := 400) mixed Try.func91 rfl rfl (Nat.le_of_ble_eq_true rfl) ?_
  simp only [nt, rs]
  clear nt rs
  (try refine am (h := ?_)); (try with_reducible apply True.intro)
  refine LoopK.auto (Nat) (fun i => [(8, .one (.av (.int .i64 i))), (3, .one (.own 302 [] [0]))]) (fun i => [(302, ⟨.sl true none 1 i (fL true l), []⟩)]) [6, 7] (k0 := ?k01) (keepH := ?kh1) 400 (fun i => i ≤ l.length) (fun i => l.length - i) (0) ?kea1 ?keb1 ?_ ?_ ?_
  case kea1 => exact amN
  case keb1 => exact amN
  · exact Nat.zero_le _
  · refine Le.auto [302] (r0 := ?r01) (ren := ?ren1) ?ea1 ?eb1 ?a1 ?b1 ?c1 ?d1 ?ho1 ?hn1 ?ht1
    case ea1 => exact amR
    case eb1 => exact amR
    case a1 => exact rfl
    case b1 => exact rfl
    case c1 => exact rfl
    case d1 => exact rfl
    all_goals (try refine amL (h := ?_))
    all_goals (try with_reducible apply True.intro)
    all_goals exact ⟨_, _, rfl⟩
  · intro i hi
    (try refine am (h := ?_)); (try with_reducible apply True.intro)
    repeat' (first | (with_reducible refine And.intro ?_ ?_) | (with_reducible intro _))
    all_goals try (first | omega | with_reducible rfl | ((with_reducible refine eqId ?_); exact rfl) | with_reducible (first | assumption | exact pl ‹_› | exact pr ‹_› | exact plr ‹_› | exact pll ‹_› | exact prl ‹_› | exact plll ‹_› | exact prll ‹_›))
    · have hlt : i < l.length := by assumption
      first | refine CallK.one (cloneI (l.getD i []) _ (by have := okL_at h i; omega)) (fun _ => amC) ?_ | refine CallE.one (cloneI (l.getD i []) _ (by have := okL_at h i; omega)) (fun _ => amC) rfl ?_ | refine CallG.one rfl (fun hg => cloneI (l.getD i []) _ (by have := okL_at h i; omega)) ?_ | refine CallEG.one rfl rfl (fun hg => cloneI (l.getD i []) _ (by have := okL_at h i; omega)) ?_ | refine CallCE.one (cloneI (l.getD i []) _ (by have := okL_at h i; omega)) (fun _ => amC) rfl ?_
      (try refine am (h := ?_)); (try with_reducible apply True.intro)
      repeat' (first | (with_reducible refine And.intro ?_ ?_) | (with_reducible intro _))
      all_goals try (first | omega | with_reducible rfl | ((with_reducible refine eqId ?_); exact rfl) | with_reducible (first | assumption | exact pl ‹_› | exact pr ‹_› | exact plr ‹_› | exact pll ‹_› | exact prl ‹_› | exact plll ‹_› | exact prll ‹_›))
      refine ⟨i + 1, ?_, by omega, by omega⟩
      refine Le.auto [] (r0 := ?r02) (ren := ?ren2) ?ea2 ?eb2 ?a2 ?b2 ?c2 ?d2 ?ho2 ?hn2 ?ht2
      case ea2 => exact amR
      case eb2 => exact amR
      case a2 => exact rfl
      case b2 => exact rfl
      case c2 => exact rfl
      case d2 => exact rfl
      all_goals (try refine amL (h := ?_))
      all_goals (try with_reducible apply True.intro)
      exact appRow (.inl rfl) rfl (.refl _)
    · have ei : i = l.length := by omega
      subst ei
      refine FinK.val1 ?_ ?_
      all_goals (try refine amF (h := ?_))
      all_goals (try with_reducible apply True.intro)
      all_goals (first | exact .refl _)
end Go.AM
namespace Go.AM
open Go Go.Proofs
set_option maxRecDepth 100000
def scoreNew (n : Int) : DScore := if 2 ≤ n ∧ n ≤ 3 then ⟨List.replicate n.toNat (List.replicate n.toNat 0), []⟩ else ⟨[], []⟩
set_option maxHeartbeats 2000000 in
theorem implScoreNew (n : Int) : ACalls Try.prog 16 [.one (.int .i64 n)] (fun r => r = .val (.agg (cScore true true (scoreNew n)))) := by
  have nt : Try.f16.ntmps = 21 := rfl
  have rs : Try.f16.results = #[.cell 2 33] := rfl
  refine ACalls.of_run (m := 400) mixed Try.func16 rfl rfl (Nat.le_of_ble_eq_true rfl) ?_
  simp only [nt, rs]
  clear nt rs
  (try refine am (h := ?_)); (try with_reducible apply True.intro)
  first | refine CallK.one (within n 2 3) (fun _ => amC) ?_ | refine CallE.one (within n 2 3) (fun _ => amC) rfl ?_ | refine CallG.one rfl (fun hg => within n 2 3) ?_ | refine CallEG.one rfl rfl (fun hg => within n 2 3) ?_ | refine CallCE.one (within n 2 3) (fun _ => amC) rfl ?_
  (try refine am (h := ?_)); (try with_reducible apply True.intro)
  refine ⟨fun h => ?_, fun h => ?_⟩
  · have e : scoreNew n = ⟨[], []⟩ := if_neg (fun hh => by omega)
    rw [e]
    repeat' (first | (with_reducible refine And.intro ?_ ?_) | (with_reducible intro _))
    all_goals try (first | omega | with_reducible rfl | ((with_reducible refine eqId ?_); exact rfl) | with_reducible (first | assumption | exact pl ‹_› | exact pr ‹_› | exact plr ‹_› | exact pll ‹_› | exact prl ‹_› | exact plll ‹_› | exact prll ‹_›))
    refine FinK.cell1 ?_ ?_ ?_
    all_goals (try refine amF (h := ?_))
    all_goals (try with_reducible apply True.intro)
    exact ⟨.nil _ _ _ _ _, .nil _ _ _ _ _⟩
  obtain ⟨m, rfl⟩ := Int.eq_ofNat_of_zero_le (show 0 ≤ n by omega)
  have e : scoreNew m = ⟨List.replicate m (List.replicate m 0), []⟩ := if_pos (by omega)
  rw [e]
  repeat' (first | (with_reducible refine And.intro ?_ ?_) | (with_reducible intro _))
  all_goals try (first | omega | with_reducible rfl | ((with_reducible refine eqId ?_); exact rfl) | with_reducible (first | assumption | exact pl ‹_› | exact pr ‹_› | exact plr ‹_› | exact pll ‹_› | exact prl ‹_› | exact plll ‹_› | exact prll ‹_›))
  refine LoopK.auto (Nat) (fun i => [(10, .one (.av (.int .i64 i))), (3, .one (.ref 302 [] [0] 0 0))]) (fun i => [(302, ⟨.sl true none 2 1 (fun _ j => gl .junk [aL true true (List.replicate i (List.replicate m 0)), aPair true []] j), []⟩)]) [0, 2, 9] (k0 := ?k01) (keepH := ?kh1) 400 (fun i => i ≤ m) (fun i => m - i) (0) ?kea1 ?keb1 ?_ ?_ ?_
  case kea1 => exact amN
  case keb1 => exact amN
  · exact Nat.zero_le _
  · refine Le.auto [] (r0 := ?r01) (ren := ?ren1) ?ea1 ?eb1 ?a1 ?b1 ?c1 ?d1 ?ho1 ?hn1 ?ht1
    case ea1 => exact amR
    case eb1 => exact amR
    case a1 => exact rfl
    case b1 => exact rfl
    case c1 => exact rfl
    case d1 => exact rfl
    all_goals (try refine amL (h := ?_))
    all_goals (try with_reducible apply True.intro)
    refine ALe.of (.inl rfl) rfl (fun i' hi' j hj => ?_)
    have hj' : j = 0 ∨ j = 1 := by omega
    rcases hj' with rfl | rfl <;> (simp [gl]; exact .nil _ _ _ _ _)
  · intro i hi
    (try refine am (h := ?_)); (try with_reducible apply True.intro)
    refine ⟨fun hlt => ?_, fun hlt => ?_⟩
    · have hrl := rep_len i (List.replicate m (0 : Int))
      repeat' (first | (with_reducible refine And.intro ?_ ?_) | (with_reducible intro _))
      all_goals try (first | omega | with_reducible rfl | ((with_reducible refine eqId ?_); exact rfl) | with_reducible (first | assumption | exact pl ‹_› | exact pr ‹_› | exact plr ‹_› | exact pll ‹_› | exact prl ‹_› | exact plll ‹_› | exact prll ‹_›))
      first | refine CallK.one (zerosI m (by omega)) (fun _ => amC) ?_ | refine CallE.one (zerosI m (by omega)) (fun _ => amC) rfl ?_ | refine CallG.one rfl (fun hg => zerosI m (by omega)) ?_ | refine CallEG.one rfl rfl (fun hg => zerosI m (by omega)) ?_ | refine CallCE.one (zerosI m (by omega)) (fun _ => amC) rfl ?_
      (try refine am (h := ?_)); (try with_reducible apply True.intro)
      repeat' (first | (with_reducible refine And.intro ?_ ?_) | (with_reducible intro _))
      all_goals try (first | omega | with_reducible rfl | ((with_reducible refine eqId ?_); exact rfl) | with_reducible (first | assumption | exact pl ‹_› | exact pr ‹_› | exact plr ‹_› | exact pll ‹_› | exact prl ‹_› | exact plll ‹_› | exact prll ‹_›))
      refine ⟨i + 1, ?_, by omega, by omega⟩
      refine Le.auto [] (r0 := ?r02) (ren := ?ren2) ?ea2 ?eb2 ?a2 ?b2 ?c2 ?d2 ?ho2 ?hn2 ?ht2
      case ea2 => exact amR
      case eb2 => exact amR
      case a2 => exact rfl
      case b2 => exact rfl
      case c2 => exact rfl
      case d2 => exact rfl
      all_goals (try refine amL (h := ?_))
      all_goals (try with_reducible apply True.intro)
      refine ALe.of (.inl rfl) rfl (fun i' hi' j hj => ?_)
      have hj' : j = 0 ∨ j = 1 := by omega
      obtain rfl : i' = 0 := by omega
      rcases hj' with rfl | rfl
      · simp only [gl, if_true, Nat.le_refl, Nat.zero_lt_one, and_self]
        exact appLe2 (x := List.replicate m (0 : Int)) rfl (by rw [List.replicate_succ']) (fun j hj => by
          obtain rfl : j = 0 := by omega
          exact ALe.of (.inl rfl) (by simp) (fun i hi j hj => .refl _)) (.inl rfl)
      · simp [gl]; exact .refl _
    · have ei : i = m := by omega
      subst ei
      refine FinK.cell1 ?_ ?_ ?_
      all_goals (try refine amF (h := ?_))
      all_goals (try with_reducible apply True.intro)
end Go.AM
