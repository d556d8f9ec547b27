/- Lemmas for the proof of this claim. -/
import Derived.Test.YtbfofhfeghfpoaaWina
import Derived.Test.YtbfofhfeghfpoaaWlib
namespace Go.AM
open Go Go.Proofs
set_option maxRecDepth 100000
theorem c_del1 {nl : Option Bool} {l : List Int} (hl : 0 < l.length) : ATake Try.prog 100 (.sl true nl 1 l.length (fI l)) [.one (.int .i64 0), .one (.int .i64 1)] (.sl true none 1 (l.drop 1).length (fI (l.drop 1))) := by
  have := c_del (nl := nl) (i := 0) (j := 1) hl (by omega) hl
  simpa using this
theorem appRow {l : List (List Int)} {i n : Nat} {nl nl' : Option Bool} {g : Nat → Nat → AV} (hnl : nl' = none ∨ nl' = nl) (hn : n = i + 1) (hg : ALe (g 0 0) (.sl true none 1 (l.getD i []).length (fI (l.getD i [])))) : ALe (.sl true nl 1 n (apF i (fL true l) g)) (.sl true nl' 1 (i + 1) (fL true l)) := by
  refine ALe.of hnl hn (fun a ha j hj => ?_)
  obtain rfl : j = 0 := by omega
  unfold apF
  by_cases e : a < i
  · rw [if_pos e]; exact .refl _
  · rw [if_neg e]
    obtain rfl : a = i := by omega
    rw [Nat.sub_self]
    exact hg
theorem boxLe {nl : Option Bool} {F G : Nat → Nat → AV} (h : ALe (F 0 0) (G 0 0)) : ALe (.sl true nl 1 1 F) (.sl true none 1 1 G) := by
  refine ALe.of (.inl rfl) rfl (fun a ha j hj => ?_)
  obtain rfl : j = 0 := by omega
  obtain rfl : a = 0 := by omega
  exact h
theorem roI {l : List Int} {nl : Option Bool} {g : Nat → Nat → AV} : ALe (.sl true nl 1 l.length (apF 0 g fun i j => (fI l i j).ro)) (.sl true none 1 l.length (fI l)) := by
  refine ALe.of (.inl rfl) rfl (fun a ha j hj => ?_)
  obtain rfl : j = 0 := by omega
  exact .refl _
theorem rowsLe2 {nl : Option Bool} {n : Nat} {F : Nat → Nat → AV} {m : List (List Int)} (hn : n = m.length) (h : ∀ i, i < n → ALe (F i 0) (.sl true none 1 (m.getD i []).length (fI (m.getD i [])))) : ALe (.sl true nl 1 n F) (.sl true none 1 m.length (fL true m)) := by
  refine ALe.of (.inl rfl) hn (fun a ha j hj => ?_)
  obtain rfl : j = 0 := by omega
  exact h a ha
theorem fI_free {l : List Int} {i j : Nat} (hj : j < 1) : (fI l i j).free := by
  obtain rfl : j = 0 := by omega
  rw [fI_at]
  exact True.intro
theorem okL_at {B : Nat} {l : List (List Int)} (h : okL B l) (i : Nat) : (l.getD i []).length ≤ B := by
  by_cases e : i < l.length
  · exact (h.2 _ (getD_mem e)).1
  · have : l.getD i [] = [] := by rw [List.getD_eq_getElem?_getD, List.getElem?_eq_none (by omega)]; rfl
    rw [this]; exact Nat.zero_le _
set_option maxHeartbeats 4000000 in
theorem cloneListsI (l : List (List Int)) (u v : Bool) (h : okL (2 ^ 40) l) : ACalls Try.prog 91 [.one (aL u v l)] (fun r => r = .val (.one (aL true true l))) := by
  have hl := h.1
  have nt : Try.f91.ntmps = 19 := rfl
  have rs : Try.f91.results = #[.tmp 2] := rfl
  refine ACalls.of_run (m := 400) mixed Try.func91 rfl rfl (Nat.le_of_ble_eq_true rfl) ?_
  simp only [nt, rs]
  clear nt rs
  (try refine am (h := ?_)); (try with_reducible apply True.intro)
  refine LoopK.auto (Nat) (fun i => [(8, .one (.av (.int .i64 i))), (3, .one (.own 302 [] [0]))]) (fun i => [(302, ⟨.sl true none 1 i (fL true l), []⟩)]) [6, 7] (k0 := ?k01) (keepH := ?kh1) 400 (fun i => i ≤ l.length) (fun i => l.length - i) (0) ?kea1 ?keb1 ?_ ?_ ?_
  case kea1 => exact amN
  case keb1 => exact amN
  · exact Nat.zero_le _
  · refine Le.auto [302] (r0 := ?r01) (ren := ?ren1) ?ea1 ?eb1 ?a1 ?b1 ?c1 ?d1 ?ho1 ?hn1 ?ht1
    case ea1 => exact amR
    case eb1 => exact amR
    case a1 => exact rfl
    case b1 => exact rfl
    case c1 => exact rfl
    case d1 => exact rfl
    all_goals (try refine amL (h := ?_))
    all_goals (try with_reducible apply True.intro)
    all_goals exact ⟨_, _, rfl⟩
  · intro i hi
    (try refine am (h := ?_)); (try with_reducible apply True.intro)
    repeat' (first | (with_reducible refine And.intro ?_ ?_) | (with_reducible intro _))
    all_goals try (first | omega | with_reducible rfl | ((with_reducible refine eqId ?_); exact rfl) | with_reducible (first | assumption | exact pl ‹_› | exact pr ‹_› | exact plr ‹_› | exact pll ‹_› | exact prl ‹_› | exact plll ‹_› | exact prll ‹_›))
    · have hlt : i < l.length := by assumption
      first | refine CallK.one (cloneI (l.getD i []) _ (by have := okL_at h i; omega)) (fun _ => amC) ?_ | refine CallE.one (cloneI (l.getD i []) _ (by have := okL_at h i; omega)) (fun _ => amC) rfl ?_ | refine CallG.one rfl (fun hg => cloneI (l.getD i []) _ (by have := okL_at h i; omega)) ?_ | refine CallEG.one rfl rfl (fun hg => cloneI (l.getD i []) _ (by have := okL_at h i; omega)) ?_ | refine CallCE.one (cloneI (l.getD i []) _ (by have := okL_at h i; omega)) (fun _ => amC) rfl ?_
      (try refine am (h := ?_)); (try with_reducible apply True.intro)
      repeat' (first | (with_reducible refine And.intro ?_ ?_) | (with_reducible intro _))
      all_goals try (first | omega | with_reducible rfl | ((with_reducible refine eqId ?_); exact rfl) | with_reducible (first | assumption | exact pl ‹_› | exact pr ‹_› | exact plr ‹_› | exact pll ‹_› | exact prl ‹_› | exact plll ‹_› | exact prll ‹_›))
      refine ⟨i + 1, ?_, by omega, by omega⟩
      refine Le.auto [] (r0 := ?r02) (ren := ?ren2) ?ea2 ?eb2 ?a2 ?b2 ?c2 ?d2 ?ho2 ?hn2 ?ht2
      case ea2 => exact amR
      case eb2 => exact amR
      case a2 => exact rfl
      case b2 => exact rfl
      case c2 => exact rfl
      case d2 => exact rfl
      all_goals (try refine amL (h := ?_))
      all_goals (try with_reducible apply True.intro)
      exact appRow (.inl rfl) rfl (.refl _)
    · have ei : i = l.length := by omega
      subst ei
      refine FinK.val1 ?_ ?_
      all_goals (try refine amF (h := ?_))
      all_goals (try with_reducible apply True.intro)
      all_goals (first | exact .refl _)
set_option maxHeartbeats 4000000 in
theorem cloneWindowI (l : List (List Int)) (u v : Bool) (h : okL (2 ^ 40) l) : ACalls Try.prog 69 [.agg [aL u v l]] (fun r => r = .val (.agg [aL true true l])) := by
  have nt : Try.f69.ntmps = 7 := rfl
  have rs : Try.f69.results = #[.cell 2 50] := rfl
  refine ACalls.of_run (m := 400) mixed Try.func69 rfl rfl (Nat.le_of_ble_eq_true rfl) ?_
  simp only [nt, rs]
  clear nt rs
  (try refine am (h := ?_)); (try with_reducible apply True.intro)
  first | refine CallK.one (cloneListsI l _ _ h) (fun _ => amC) ?_ | refine CallE.one (cloneListsI l _ _ h) (fun _ => amC) rfl ?_ | refine CallG.one rfl (fun hg => cloneListsI l _ _ h) ?_ | refine CallEG.one rfl rfl (fun hg => cloneListsI l _ _ h) ?_ | refine CallCE.one (cloneListsI l _ _ h) (fun _ => amC) rfl ?_
  (try refine am (h := ?_)); (try with_reducible apply True.intro)
  refine FinK.cell1 ?_ ?_ ?_
  all_goals (try refine amF (h := ?_))
  all_goals (try with_reducible apply True.intro)
  all_goals (first | exact .refl _)
set_option maxHeartbeats 4000000 in
theorem l16CopyI (l : List (List Int)) (u v : Bool) (h : okL (2 ^ 40) l) : ACalls Try.prog 71 [.agg [aL u v l]] (fun r => r = .val (.agg [aL true true l])) := by
  have hl := h.1
  have nt : Try.f71.ntmps = 26 := rfl
  have rs : Try.f71.results = #[.cell 2 50] := rfl
  refine ACalls.of_run (m := 400) mixed Try.func71 rfl rfl (Nat.le_of_ble_eq_true rfl) ?_
  simp only [nt, rs]
  clear nt rs
  (try refine am (h := ?_)); (try with_reducible apply True.intro)
  refine LoopK.auto (Nat) (fun i => [(4, .one (.av (.int .i64 i))), (3, .one (.ref 302 [] [0] 0 0))]) (fun i => [(302, ⟨.sl true none 1 1 (fun _ _ => .sl true none 1 i (fL true l)), []⟩)]) [1, 2] (k0 := ?k02) (keepH := ?kh2) 400 (fun i => i ≤ l.length) (fun i => l.length - i) (0) ?kea2 ?keb2 ?_ ?_ ?_
  case kea2 => exact amN
  case keb2 => exact amN
  · exact Nat.zero_le _
  · refine Le.auto [] (r0 := ?r03) (ren := ?ren3) ?ea3 ?eb3 ?a3 ?b3 ?c3 ?d3 ?ho3 ?hn3 ?ht3
    case ea3 => exact amR
    case eb3 => exact amR
    case a3 => exact rfl
    case b3 => exact rfl
    case c3 => exact rfl
    case d3 => exact rfl
    all_goals (try refine amL (h := ?_))
    all_goals (try with_reducible apply True.intro)
    exact boxLe (.nil _ _ _ _ _)
  · intro i hi
    have hm := okL_at h i
    (try refine am (h := ?_)); (try with_reducible apply True.intro)
    repeat' (first | (with_reducible refine And.intro ?_ ?_) | (with_reducible intro _))
    all_goals try (first | omega | with_reducible rfl | ((with_reducible refine eqId ?_); exact rfl) | with_reducible (first | assumption | exact pl ‹_› | exact pr ‹_› | exact plr ‹_› | exact pll ‹_› | exact prl ‹_› | exact plll ‹_› | exact prll ‹_›))
    · have hlt : i < l.length := by assumption
      refine ⟨i + 1, ?_, by omega, by omega⟩
      refine Le.auto [] (r0 := ?r04) (ren := ?ren4) ?ea4 ?eb4 ?a4 ?b4 ?c4 ?d4 ?ho4 ?hn4 ?ht4
      case ea4 => exact amR
      case eb4 => exact amR
      case a4 => exact rfl
      case b4 => exact rfl
      case c4 => exact rfl
      case d4 => exact rfl
      all_goals (try refine amL (h := ?_))
      all_goals (try with_reducible apply True.intro)
      exact boxLe (appRow (.inl rfl) rfl roI)
    · have ei : i = l.length := by omega
      subst ei
      refine FinK.cell1 ?_ ?_ ?_
      all_goals (try refine amF (h := ?_))
      all_goals (try with_reducible apply True.intro)
      all_goals (first | exact .refl _)
set_option maxHeartbeats 4000000 in
theorem implWindowDrop (l : List (List Int)) (u v : Bool) (h : okL (2 ^ 40) l) : ACalls Try.prog 70 [.agg [aL u v l]] (fun r => r = .tup [.agg [aL true true (wDropA l)], .one (.bool (wDropOk l))]) := by
  have hl := h.1
  have h47 : okL (2 ^ 47) l := ⟨by omega, fun r hr => ⟨by have := (h.2 r hr).1; omega, (h.2 r hr).2⟩⟩
  have hm := okL_at h (l.length - 1)
  have nt : Try.f70.ntmps = 45 := rfl
  have rs : Try.f70.results = #[.cell 2 50, .tmp 3] := rfl
  refine ACalls.of_run (m := 400) mixed Try.func70 rfl rfl (Nat.le_of_ble_eq_true rfl) ?_
  simp only [nt, rs]
  clear nt rs
  (try refine am (h := ?_)); (try with_reducible apply True.intro)
  first | refine CallK.one (cloneWindowI l _ _ h) (fun _ => amC) ?_ | refine CallE.one (cloneWindowI l _ _ h) (fun _ => amC) rfl ?_ | refine CallG.one rfl (fun hg => cloneWindowI l _ _ h) ?_ | refine CallEG.one rfl rfl (fun hg => cloneWindowI l _ _ h) ?_ | refine CallCE.one (cloneWindowI l _ _ h) (fun _ => amC) rfl ?_
  (try refine am (h := ?_)); (try with_reducible apply True.intro)
  repeat' (first | (with_reducible refine And.intro ?_ ?_) | (with_reducible intro _))
  all_goals try (first | omega | with_reducible rfl | ((with_reducible refine eqId ?_); exact rfl) | with_reducible (first | assumption | exact pl ‹_› | exact pr ‹_› | exact plr ‹_› | exact pll ‹_› | exact prl ‹_› | exact plll ‹_› | exact prll ‹_›))
  first | refine CallK.one (implWindowOk l _ _ h47.1 (fun r hr => (h47.2 r hr).1)) (fun _ => amC) ?_ | refine CallE.one (implWindowOk l _ _ h47.1 (fun r hr => (h47.2 r hr).1)) (fun _ => amC) rfl ?_ | refine CallG.one rfl (fun hg => implWindowOk l _ _ h47.1 (fun r hr => (h47.2 r hr).1)) ?_ | refine CallEG.one rfl rfl (fun hg => implWindowOk l _ _ h47.1 (fun r hr => (h47.2 r hr).1)) ?_ | refine CallCE.one (implWindowOk l _ _ h47.1 (fun r hr => (h47.2 r hr).1)) (fun _ => amC) rfl ?_
  (try refine am (h := ?_)); (try with_reducible apply True.intro)
  repeat' (first | (with_reducible refine And.intro ?_ ?_) | (with_reducible intro _))
  all_goals try (first | omega | with_reducible rfl | ((with_reducible refine eqId ?_); exact rfl) | with_reducible (first | assumption | exact pl ‹_› | exact pr ‹_› | exact plr ‹_› | exact pll ‹_› | exact prl ‹_› | exact plll ‹_› | exact prll ‹_›))
  · rename_i hc
    have e : wDropOk l = false := by
      unfold wDropOk
      rcases hc with hc | hc
      · rw [hc]; rfl
      · rw [decide_eq_false (by omega), Bool.and_false]
    have e2 : wDropA l = l := by unfold wDropA; rw [e]; rfl
    rw [e, e2]
    refine FinK.tup ?_ ?_
    all_goals (try refine amF (h := ?_))
    all_goals (try with_reducible apply True.intro)
  rename_i hc
  have hwk : wok l := by simpa [wokB] using hc.1
  have hlp : 0 < l.length := by omega
  have e : wDropOk l = true := by unfold wDropOk; rw [hc.1, decide_eq_true hlp]; rfl
  have e2 : wDropA l = wDrop l := by unfold wDropA; rw [e]; rfl
  rw [e, e2]
  have hrow := (hwk.2 (l.length - 1) (by omega)).1
  have et : ((l.length : Int) - 1).toNat = l.length - 1 := by omega
  have hdl : ((l.getD (l.length - 1) []).drop 1).length = (l.getD (l.length - 1) []).length - 1 := List.length_drop
  (try refine am (h := ?_)); (try simp only [et]); (try refine am (h := ?_)); (try with_reducible apply True.intro)
  first | refine CallK.take (c_del1 (nl := none) (l := l.getD (l.length - 1) []) (by omega)) ?ta1 ?tb1 ?tc1 ?td1 | refine CallE.take (c_del1 (nl := none) (l := l.getD (l.length - 1) []) (by omega)) ?ta1 ?tb1 ?tc1 ?td1
  case ta1 => first | exact rfl | (simp only [St.H, lk_cons, AV.at, Nat.lt_irrefl, gl, beq_self, cond_true, reduceIte, false_and, and_false, true_and, and_true, if_false, if_true, Nat.le_refl, Nat.zero_lt_one]; first | done | exact rfl) | (simp [St.H, lk_cons, AV.at, gl]; done)
  case tb1 => exact rfl
  case tc1 => exact rfl
  (try refine am (h := ?_)); (try with_reducible apply True.intro)
  repeat' (first | (with_reducible refine And.intro ?_ ?_) | (with_reducible intro _))
  all_goals try (first | omega | with_reducible rfl | ((with_reducible refine eqId ?_); exact rfl) | with_reducible (first | assumption | exact pl ‹_› | exact pr ‹_› | exact plr ‹_› | exact pll ‹_› | exact prl ‹_› | exact plll ‹_› | exact prll ‹_›))
  · rename_i h0
    have ed : wDrop l = l.take (l.length - 1) := by unfold wDrop; rw [show Nat.ble (l.getD (l.length - 1) []).length 1 = true from Nat.ble_eq_true_of_le (by omega)]; rfl
    rw [ed]
    refine FinK.tup ?_ ?_
    all_goals (try refine amF (h := ?_))
    all_goals (try with_reducible apply True.intro)
    refine rowsLe2 (by rw [List.length_take]; omega) (fun i hi => ?_)
    have hne : ¬ i = l.length - 1 := by omega
    have hne2 : ¬ i = ((l.length : Int) - 1).toNat := by omega
    simp only [hne, hne2, false_and, if_false]
    rw [fL_at, show (l.take (l.length - 1)).getD i [] = l.getD i [] by rw [List.getD_eq_getElem?_getD, List.getD_eq_getElem?_getD, List.getElem?_take, if_pos (by omega)]]
    exact .refl _
  · rename_i h0
    have ed : wDrop l = l.set (l.length - 1) ((l.getD (l.length - 1) []).drop 1) := by unfold wDrop; rw [show Nat.ble (l.getD (l.length - 1) []).length 1 = false from by rw [Bool.eq_false_iff]; intro hh; have := Nat.le_of_ble_eq_true hh; omega]; rfl
    rw [ed]
    refine FinK.tup ?_ ?_
    all_goals (try refine amF (h := ?_))
    all_goals (try with_reducible apply True.intro)
    refine rowsLe2 (by rw [List.length_set]) (fun i hi => ?_)
    by_cases e3 : i = l.length - 1
    · subst e3
      rw [getD_set_eq (by omega)]
      simp only [et, Nat.le_refl, Nat.lt_one_iff, if_true, and_self, gl]
      exact .refl _
    · have hne2 : ¬ i = ((l.length : Int) - 1).toNat := by omega
      simp only [e3, hne2, false_and, if_false]
      rw [fL_at, getD_set_ne (fun e => e3 e.symm)]
      exact .refl _
theorem dropLe {l : List Int} {k : Nat} {nl : Option Bool} {n : Nat} {g : Nat → Nat → AV} (h : n = l.length - k) : ALe (.sl true nl 1 n (apF 0 g fun i j => fI l (k + i) j)) (.sl true none 1 (l.drop k).length (fI (l.drop k))) := by
  refine ALe.of (.inl rfl) (by rw [List.length_drop]; exact h) (fun i hi j hj => ?_)
  obtain rfl : j = 0 := by omega
  show ALe (fI _ (k + (i - 0)) 0) _
  rw [fI_at, fI_at, getD_drop, Nat.sub_zero]
  exact .refl _
set_option maxHeartbeats 4000000 in
theorem specWindowDrop (l : List (List Int)) (u v : Bool) (h : okL (2 ^ 40) l) : ACalls Try.prog 73 [.agg [aL u v l]] (fun r => r = .tup [.agg [aL true true (wDropA l)], .one (.bool (wDropOk l))]) := by
  have hl := h.1
  have h47 : okL (2 ^ 47) l := ⟨by omega, fun r hr => ⟨by have := (h.2 r hr).1; omega, (h.2 r hr).2⟩⟩
  have hm := okL_at h (l.length - 1)
  by_cases hc : wokB l = true ∧ 0 < l.length
  case neg =>
    have hx : (wokB l = true ∧ ¬ (l.length : Int) = 0) → False := fun hh => hc ⟨hh.1, by omega⟩
    have e : wDropOk l = false := by
      unfold wDropOk
      cases hw : wokB l with
      | false => rfl
      | true => rw [decide_eq_false (fun h => hc ⟨hw, h⟩), Bool.and_false]
    have e2 : wDropA l = l := by unfold wDropA; rw [e]; rfl
    rw [e, e2]
    have nt : Try.f73.ntmps = 47 := rfl
    have rs : Try.f73.results = #[.cell 2 50, .tmp 3] := rfl
    refine ACalls.of_run (m := 400) mixed Try.func73 rfl rfl (Nat.le_of_ble_eq_true rfl) ?_
    simp only [nt, rs]
    clear nt rs
    (try refine am (h := ?_)); (try with_reducible apply True.intro)
    first | refine CallK.one (l16CopyI l _ _ h) (fun _ => amC) ?_ | refine CallE.one (l16CopyI l _ _ h) (fun _ => amC) rfl ?_ | refine CallG.one rfl (fun hg => l16CopyI l _ _ h) ?_ | refine CallEG.one rfl rfl (fun hg => l16CopyI l _ _ h) ?_ | refine CallCE.one (l16CopyI l _ _ h) (fun _ => amC) rfl ?_
    (try refine am (h := ?_)); (try with_reducible apply True.intro)
    repeat' (first | (with_reducible refine And.intro ?_ ?_) | (with_reducible intro _))
    all_goals try (first | omega | with_reducible rfl | ((with_reducible refine eqId ?_); exact rfl) | with_reducible (first | assumption | exact pl ‹_› | exact pr ‹_› | exact plr ‹_› | exact pll ‹_› | exact prl ‹_› | exact plll ‹_› | exact prll ‹_›))
    first | refine CallK.one (specWindowOk l _ _ h47.1 (fun r hr => (h47.2 r hr).1)) (fun _ => amC) ?_ | refine CallE.one (specWindowOk l _ _ h47.1 (fun r hr => (h47.2 r hr).1)) (fun _ => amC) rfl ?_ | refine CallG.one rfl (fun hg => specWindowOk l _ _ h47.1 (fun r hr => (h47.2 r hr).1)) ?_ | refine CallEG.one rfl rfl (fun hg => specWindowOk l _ _ h47.1 (fun r hr => (h47.2 r hr).1)) ?_ | refine CallCE.one (specWindowOk l _ _ h47.1 (fun r hr => (h47.2 r hr).1)) (fun _ => amC) rfl ?_
    (try refine am (h := ?_)); (try with_reducible apply True.intro)
    repeat' (first | (with_reducible refine And.intro ?_ ?_) | (with_reducible intro _))
    all_goals try (first | omega | with_reducible rfl | ((with_reducible refine eqId ?_); exact rfl) | with_reducible (first | assumption | exact pl ‹_› | exact pr ‹_› | exact plr ‹_› | exact pll ‹_› | exact prl ‹_› | exact plll ‹_› | exact prll ‹_›))
    all_goals (try (exfalso; exact hx (by assumption)))
    refine FinK.tup ?_ ?_
    all_goals (try refine amF (h := ?_))
    all_goals (try with_reducible apply True.intro)
  have hx : (wokB l = false ∨ (l.length : Int) = 0) → False := fun hh => by
    rcases hh with hh | hh
    · rw [hc.1] at hh; cases hh
    · have := hc.2; omega
  have hwk : wok l := by simpa [wokB] using hc.1
  have hlp : 0 < l.length := hc.2
  have e : wDropOk l = true := by unfold wDropOk; rw [hc.1, decide_eq_true hlp]; rfl
  have e2 : wDropA l = wDrop l := by unfold wDropA; rw [e]; rfl
  rw [e, e2]
  have hrow := (hwk.2 (l.length - 1) (by omega)).1
  have et : ((l.length : Int) - 1).toNat = l.length - 1 := by omega
  have hdl : ((l.getD (l.length - 1) []).drop 1).length = (l.getD (l.length - 1) []).length - 1 := List.length_drop
  have nt : Try.f73.ntmps = 47 := rfl
  have rs : Try.f73.results = #[.cell 2 50, .tmp 3] := rfl
  refine ACalls.of_run (m := 400) mixed Try.func73 rfl rfl (Nat.le_of_ble_eq_true rfl) ?_
  simp only [nt, rs]
  clear nt rs
  (try refine am (h := ?_)); (try with_reducible apply True.intro)
  first | refine CallK.one (l16CopyI l _ _ h) (fun _ => amC) ?_ | refine CallE.one (l16CopyI l _ _ h) (fun _ => amC) rfl ?_ | refine CallG.one rfl (fun hg => l16CopyI l _ _ h) ?_ | refine CallEG.one rfl rfl (fun hg => l16CopyI l _ _ h) ?_ | refine CallCE.one (l16CopyI l _ _ h) (fun _ => amC) rfl ?_
  (try refine am (h := ?_)); (try with_reducible apply True.intro)
  repeat' (first | (with_reducible refine And.intro ?_ ?_) | (with_reducible intro _))
  all_goals try (first | omega | with_reducible rfl | ((with_reducible refine eqId ?_); exact rfl) | with_reducible (first | assumption | exact pl ‹_› | exact pr ‹_› | exact plr ‹_› | exact pll ‹_› | exact prl ‹_› | exact plll ‹_› | exact prll ‹_›))
  first | refine CallK.one (specWindowOk l _ _ h47.1 (fun r hr => (h47.2 r hr).1)) (fun _ => amC) ?_ | refine CallE.one (specWindowOk l _ _ h47.1 (fun r hr => (h47.2 r hr).1)) (fun _ => amC) rfl ?_ | refine CallG.one rfl (fun hg => specWindowOk l _ _ h47.1 (fun r hr => (h47.2 r hr).1)) ?_ | refine CallEG.one rfl rfl (fun hg => specWindowOk l _ _ h47.1 (fun r hr => (h47.2 r hr).1)) ?_ | refine CallCE.one (specWindowOk l _ _ h47.1 (fun r hr => (h47.2 r hr).1)) (fun _ => amC) rfl ?_
  (try refine am (h := ?_)); (try with_reducible apply True.intro)
  (try refine am (h := ?_)); (try simp only [et]); (try refine am (h := ?_)); (try with_reducible apply True.intro)
  repeat' (first | (with_reducible refine And.intro ?_ ?_) | (with_reducible intro _))
  all_goals try (first | omega | with_reducible rfl | ((with_reducible refine eqId ?_); exact rfl) | with_reducible (first | assumption | exact pl ‹_› | exact pr ‹_› | exact plr ‹_› | exact pll ‹_› | exact prl ‹_› | exact plll ‹_› | exact prll ‹_›))
  all_goals (try (exfalso; exact hx (by assumption)))
  · exact fI_free (by assumption)
  · rename_i h0
    have ed : wDrop l = l.take (l.length - 1) := by unfold wDrop; rw [show Nat.ble (l.getD (l.length - 1) []).length 1 = true from Nat.ble_eq_true_of_le (by omega)]; rfl
    rw [ed]
    refine FinK.tup ?_ ?_
    all_goals (try refine amF (h := ?_))
    all_goals (try with_reducible apply True.intro)
    refine rowsLe2 (by rw [List.length_take]; omega) (fun i hi => ?_)
    have hne : ¬ i = l.length - 1 := by omega
    have hne2 : ¬ i = ((l.length : Int) - 1).toNat := by omega
    simp only [hne, false_and, if_false]
    rw [fL_at, show (l.take (l.length - 1)).getD i [] = l.getD i [] by rw [List.getD_eq_getElem?_getD, List.getD_eq_getElem?_getD, List.getElem?_take, if_pos (by omega)]]
    exact .refl _
  · rename_i h0
    have ed : wDrop l = l.set (l.length - 1) ((l.getD (l.length - 1) []).drop 1) := by unfold wDrop; rw [show Nat.ble (l.getD (l.length - 1) []).length 1 = false from by rw [Bool.eq_false_iff]; intro hh; have := Nat.le_of_ble_eq_true hh; omega]; rfl
    rw [ed]
    refine FinK.tup ?_ ?_
    all_goals (try refine amF (h := ?_))
    all_goals (try with_reducible apply True.intro)
    refine rowsLe2 (by rw [List.length_set]) (fun i hi => ?_)
    by_cases e3 : i = l.length - 1
    · subst e3
      rw [getD_set_eq (by omega)]
      simp only [Nat.le_refl, Nat.lt_one_iff, if_true, and_self, gl]
      exact dropLe (by omega)
    · have hne2 : ¬ i = ((l.length : Int) - 1).toNat := by omega
      simp only [e3, false_and, if_false]
      rw [fL_at, getD_set_ne (fun e => e3 e.symm)]
      exact .refl _
end Go.AM
namespace Go.AM
open Go Go.Proofs
set_option maxRecDepth 100000
theorem apF_r {n i : Nat} (h : i = n) (f g : Nat → Nat → AV) : apF n f g i 0 = g 0 0 := by
  unfold apF
  rw [if_neg (by omega), h, Nat.sub_self]
theorem apF_l {n i : Nat} (h : i < n) (f g : Nat → Nat → AV) : apF n f g i 0 = f i 0 := by
  unfold apF
  rw [if_pos h]
theorem appInt {row : List Int} {x : Int} {nl : Option Bool} {n : Nat} (hn : n = row.length + 1) : ALe (.sl true nl 1 n (apF row.length (fI row) (rowsF [[.int .i64 x]]))) (.sl true none 1 (row ++ [x]).length (fI (row ++ [x]))) := by
  refine ALe.of (.inl rfl) (by rw [hn]; simp) (fun i hi j hj => ?_)
  obtain rfl : j = 0 := by omega
  by_cases e : i < row.length
  · rw [apF_l e, fI_at, fI_at, getD_app_l e]; exact .refl _
  · obtain rfl : i = row.length := by omega
    rw [apF_r rfl, fI_at, getD_app_r]; exact .refl _
theorem oneInt {x : Int} {nl : Option Bool} : ALe (.sl true nl 1 1 (rowsF [[.int .i64 x]])) (.sl true none 1 [x].length (fI [x])) := by
  refine ALe.of (.inl rfl) rfl (fun i hi j hj => ?_)
  obtain rfl : j = 0 := by omega
  obtain rfl : i = 0 := by omega
  exact .refl _
theorem oneInt2 {x : Int} {nl : Option Bool} {n : Nat} {g : Nat → Nat → AV} (hn : n = 1 := by rfl) : ALe (.sl true nl 1 n (apF 0 g (rowsF [[.int .i64 x]]))) (.sl true none 1 [x].length (fI [x])) := by
  subst hn
  refine ALe.of (.inl rfl) rfl (fun i hi j hj => ?_)
  obtain rfl : j = 0 := by omega
  obtain rfl : i = 0 := by omega
  exact .refl _
end Go.AM
