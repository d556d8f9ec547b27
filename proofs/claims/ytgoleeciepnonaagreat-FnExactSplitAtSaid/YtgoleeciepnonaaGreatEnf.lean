/- Windows: one bit more, one row less, in plain words. -/
import Derived.Test.YtgoleeciepnonaaGreatData
import Derived.Test.YtgoleeciepnonaaGreatTre
namespace Go.AM
open Go
theorem getD_set_eq {α : Type} {d r : α} {l : List α} {p : Nat} (h : p < l.length) : (l.set p r).getD p d = r := by
  rw [List.getD_eq_getElem?_getD, List.getElem?_set_self h]; rfl
theorem getD_set_ne {α : Type} {d r : α} {l : List α} {p i : Nat} (h : p ≠ i) : (l.set p r).getD i d = l.getD i d := by
  rw [List.getD_eq_getElem?_getD, List.getElem?_set_ne h, List.getD_eq_getElem?_getD]
theorem getD_app_l {α : Type} {d : α} {l m : List α} {i : Nat} (h : i < l.length) : (l ++ m).getD i d = l.getD i d := by
  rw [List.getD_eq_getElem?_getD, List.getElem?_append_left h, List.getD_eq_getElem?_getD]
theorem getD_app_r {α : Type} {d x : α} {l : List α} : (l ++ [x]).getD l.length d = x := by
  rw [List.getD_eq_getElem?_getD, List.getElem?_append_right (Nat.le_refl _), Nat.sub_self]; rfl
end Go.AM
namespace Go.AM
open Go Go.Proofs
set_option maxRecDepth 100000
theorem appRow {l : List (List Int)} {i n : Nat} {nl nl' : Option Bool} {g : Nat → Nat → AV} (hnl : nl' = none ∨ nl' = nl) (hn : n = i + 1) (hg : ALe (g 0 0) (.sl true none 1 (l.getD i []).length (fI (l.getD i [])))) : ALe (.sl true nl 1 n (apF i (fL true l) g)) (.sl true nl' 1 (i + 1) (fL true l)) := by
  refine ALe.of hnl hn (fun a ha j hj => ?_)
  obtain rfl : j = 0 := by omega
  unfold apF
  by_cases e : a < i
  · rw [if_pos e]; exact .refl _
  · rw [if_neg e]
    obtain rfl : a = i := by omega
    rw [Nat.sub_self]
    exact hg
theorem roI {l : List Int} {nl : Option Bool} {g : Nat → Nat → AV} : ALe (.sl true nl 1 l.length (apF 0 g fun i j => (fI l i j).ro)) (.sl true none 1 l.length (fI l)) := by
  refine ALe.of (.inl rfl) rfl (fun a ha j hj => ?_)
  obtain rfl : j = 0 := by omega
  exact .refl _
theorem okL_at {B : Nat} {l : List (List Int)} (h : okL B l) (i : Nat) : (l.getD i []).length ≤ B := by
  by_cases e : i < l.length
  · exact (h.2 _ (getD_mem e)).1
  · have : l.getD i [] = [] := by rw [List.getD_eq_getElem?_getD, List.getElem?_eq_none (by omega)]; rfl
    rw [this]; exact Nat.zero_le _
set_option maxHeartbeats 4000000 in
theorem cloneListsI (l : List (List Int)) (u v : Bool) (h : okL (2 ^ 40) l) : ACalls Tryz.prog 172 [.one (aL u v l)] (fun r => r = .val (.one (aL true true l))) := by
  have hl := h.1
  have nt : Tryz.f172.ntmps = 19 := rfl
  have rs : Tryz.f172.results = #[.tmp 2] := rfl
  refine ACalls.of_run (m := 400) mixed Tryz.func172 rfl rfl (Nat.le_of_ble_eq_true rfl) ?_
  simp only [nt, rs]
  clear nt rs
  (try refine am (h := ?_)); (try with_reducible apply True.intro)
  refine LoopK.auto (Nat) (fun i => [(8, .one (.av (.int .i64 i))), (3, .one (.own 302 [] [0]))]) (fun i => [(302, ⟨.sl true none 1 i (fL true l), []⟩)]) [6, 7] (k0 := ?k01) (keepH := ?kh1) 400 (fun i => i ≤ l.length) (fun i => l.length - i) (0) ?kea1 ?keb1 ?_ ?_ ?_
  case kea1 => exact amN
  case keb1 => exact amN
  · exact Nat.zero_le _
  · refine Le.auto [302] (r0 := ?r01) (ren := ?ren1) ?ea1 ?eb1 ?a1 ?b1 ?c1 ?d1 ?ho1 ?hn1 ?ht1
    case ea1 => exact amR
    case eb1 => exact amR
    case a1 => exact rfl
    case b1 => exact rfl
    case c1 => exact rfl
    case d1 => exact rfl
    all_goals (try refine amL (h := ?_))
    all_goals (try with_reducible apply True.intro)
    all_goals exact ⟨_, _, rfl⟩
  · intro i hi
    (try refine am (h := ?_)); (try with_reducible apply True.intro)
    repeat' (first | (with_reducible refine And.intro ?_ ?_) | (with_reducible intro _))
    all_goals try (first | omega | with_reducible rfl | ((with_reducible refine eqId ?_); exact rfl) | with_reducible (first | assumption | exact pl ‹_› | exact pr ‹_› | exact plr ‹_› | exact pll ‹_› | exact prl ‹_› | exact plll ‹_› | exact prll ‹_›))
    · have hlt : i < l.length := by assumption
      first | refine CallK.one (cloneI (l.getD i []) _ (by have := okL_at h i; omega)) (fun _ => amC) ?_ | refine CallE.one (cloneI (l.getD i []) _ (by have := okL_at h i; omega)) (fun _ => amC) rfl ?_ | refine CallG.one rfl (fun hg => cloneI (l.getD i []) _ (by have := okL_at h i; omega)) ?_ | refine CallEG.one rfl rfl (fun hg => cloneI (l.getD i []) _ (by have := okL_at h i; omega)) ?_
      (try refine am (h := ?_)); (try with_reducible apply True.intro)
      repeat' (first | (with_reducible refine And.intro ?_ ?_) | (with_reducible intro _))
      all_goals try (first | omega | with_reducible rfl | ((with_reducible refine eqId ?_); exact rfl) | with_reducible (first | assumption | exact pl ‹_› | exact pr ‹_› | exact plr ‹_› | exact pll ‹_› | exact prl ‹_› | exact plll ‹_› | exact prll ‹_›))
      refine ⟨i + 1, ?_, by omega, by omega⟩
      refine Le.auto [] (r0 := ?r02) (ren := ?ren2) ?ea2 ?eb2 ?a2 ?b2 ?c2 ?d2 ?ho2 ?hn2 ?ht2
      case ea2 => exact amR
      case eb2 => exact amR
      case a2 => exact rfl
      case b2 => exact rfl
      case c2 => exact rfl
      case d2 => exact rfl
      all_goals (try refine amL (h := ?_))
      all_goals (try with_reducible apply True.intro)
      exact appRow (.inl rfl) rfl (.refl _)
    · have ei : i = l.length := by omega
      subst ei
      refine FinK.val1 ?_ ?_
      all_goals (try refine amF (h := ?_))
      all_goals (try with_reducible apply True.intro)
      all_goals (first | exact .refl _)
def thin (x : DStats) : DStats := ⟨x.totals, []⟩
set_option maxHeartbeats 4000000 in
theorem implThin (x : DStats) (u v : Bool) (h : okStats (2 ^ 40) x) : ACalls Tryz.prog 70 [.agg (cStats u v x)] (fun r => r = .val (.agg (cStats true true (thin x)))) := by
  have hl := h.1.1
  have nt : Tryz.f70.ntmps = 7 := rfl
  have rs : Tryz.f70.results = #[.cell 2 65] := rfl
  refine ACalls.of_run (m := 400) mixed Tryz.func70 rfl rfl (Nat.le_of_ble_eq_true rfl) ?_
  simp only [nt, rs]
  clear nt rs
  (try refine am (h := ?_)); (try with_reducible apply True.intro)
  first | refine CallK.one (cloneI x.totals _ (by omega)) (fun _ => amC) ?_ | refine CallE.one (cloneI x.totals _ (by omega)) (fun _ => amC) rfl ?_ | refine CallG.one rfl (fun hg => cloneI x.totals _ (by omega)) ?_ | refine CallEG.one rfl rfl (fun hg => cloneI x.totals _ (by omega)) ?_
  (try refine am (h := ?_)); (try with_reducible apply True.intro)
  repeat' (first | (with_reducible refine And.intro ?_ ?_) | (with_reducible intro _))
  all_goals try (first | omega | with_reducible rfl | ((with_reducible refine eqId ?_); exact rfl) | with_reducible (first | assumption | exact pl ‹_› | exact pr ‹_› | exact plr ‹_› | exact pll ‹_› | exact prl ‹_› | exact plll ‹_› | exact prll ‹_›))
  refine FinK.cell1 ?_ ?_ ?_
  all_goals (try refine amF (h := ?_))
  all_goals (try with_reducible apply True.intro)
  exact ⟨.refl _, .nil _ _ _ _ _⟩
set_option maxHeartbeats 4000000 in
theorem specThin (x : DStats) (u v : Bool) (h : okStats (2 ^ 40) x) : ACalls Tryz.prog 56 [.agg (cStats u v x)] (fun r => r = .val (.agg (cStats true true (thin x)))) := by
  have hl := h.1.1
  have nt : Tryz.f56.ntmps = 8 := rfl
  have rs : Tryz.f56.results = #[.cell 2 65] := rfl
  refine ACalls.of_run (m := 400) mixed Tryz.func56 rfl rfl (Nat.le_of_ble_eq_true rfl) ?_
  simp only [nt, rs]
  clear nt rs
  (try refine am (h := ?_)); (try with_reducible apply True.intro)
  repeat' (first | (with_reducible refine And.intro ?_ ?_) | (with_reducible intro _))
  all_goals try (first | omega | with_reducible rfl | ((with_reducible refine eqId ?_); exact rfl) | with_reducible (first | assumption | exact pl ‹_› | exact pr ‹_› | exact plr ‹_› | exact pll ‹_› | exact prl ‹_› | exact plll ‹_› | exact prll ‹_›))
  refine FinK.cell1 ?_ ?_ ?_
  all_goals (try refine amF (h := ?_))
  all_goals (try with_reducible apply True.intro)
  exact ⟨roI, .nil _ _ _ _ _⟩
set_option maxHeartbeats 4000000 in
theorem cloneStatsI (x : DStats) (u v : Bool) (h : okStats (2 ^ 40) x) : ACalls Tryz.prog 158 [.agg (cStats u v x)] (fun r => r = .val (.agg (cStats true true x))) := by
  have hl := h.1.1
  have nt : Tryz.f158.ntmps = 10 := rfl
  have rs : Tryz.f158.results = #[.cell 2 65] := rfl
  refine ACalls.of_run (m := 400) mixed Tryz.func158 rfl rfl (Nat.le_of_ble_eq_true rfl) ?_
  simp only [nt, rs]
  clear nt rs
  (try refine am (h := ?_)); (try with_reducible apply True.intro)
  repeat' (first | (with_reducible refine And.intro ?_ ?_) | (with_reducible intro _))
  all_goals try (first | omega | with_reducible rfl | ((with_reducible refine eqId ?_); exact rfl) | with_reducible (first | assumption | exact pl ‹_› | exact pr ‹_› | exact plr ‹_› | exact pll ‹_› | exact prl ‹_› | exact plll ‹_› | exact prll ‹_›))
  refine CallE.one (cloneI x.totals _ (by omega)) (fun _ => amC) rfl ?_
  (try refine am (h := ?_)); (try with_reducible apply True.intro)
  repeat' (first | (with_reducible refine And.intro ?_ ?_) | (with_reducible intro _))
  all_goals try (first | omega | with_reducible rfl | ((with_reducible refine eqId ?_); exact rfl) | with_reducible (first | assumption | exact pl ‹_› | exact pr ‹_› | exact plr ‹_› | exact pll ‹_› | exact prl ‹_› | exact plll ‹_› | exact prll ‹_›))
  refine CallE.one (cloneListsI x.cells _ _ h.2) (fun _ => amC) rfl ?_
  (try refine am (h := ?_)); (try with_reducible apply True.intro)
  repeat' (first | (with_reducible refine And.intro ?_ ?_) | (with_reducible intro _))
  all_goals try (first | omega | with_reducible rfl | ((with_reducible refine eqId ?_); exact rfl) | with_reducible (first | assumption | exact pl ‹_› | exact pr ‹_› | exact plr ‹_› | exact pll ‹_› | exact prl ‹_› | exact plll ‹_› | exact prll ‹_›))
  refine FinK.cell1 ?_ ?_ ?_
  all_goals (try refine amF (h := ?_))
  all_goals (try with_reducible apply True.intro)
set_option maxHeartbeats 4000000 in
theorem l8CopyI (x : DStats) (u v : Bool) (h : okStats (2 ^ 40) x) : ACalls Tryz.prog 155 [.agg (cStats u v x)] (fun r => r = .val (.agg (cStats true true x))) := by
  have hl := h.1.1
  have hl2 := h.2.1
  have nt : Tryz.f155.ntmps = 30 := rfl
  have rs : Tryz.f155.results = #[.cell 2 65] := rfl
  refine ACalls.of_run (m := 400) mixed Tryz.func155 rfl rfl (Nat.le_of_ble_eq_true rfl) ?_
  simp only [nt, rs]
  clear nt rs
  (try refine am (h := ?_)); (try with_reducible apply True.intro)
  repeat' (first | (with_reducible refine And.intro ?_ ?_) | (with_reducible intro _))
  all_goals try (first | omega | with_reducible rfl | ((with_reducible refine eqId ?_); exact rfl) | with_reducible (first | assumption | exact pl ‹_› | exact pr ‹_› | exact plr ‹_› | exact pll ‹_› | exact prl ‹_› | exact plll ‹_› | exact prll ‹_›))
  refine LoopK.auto (Nat) (fun i => [(4, .one (.av (.int .i64 i))), (3, .one (.ref 302 [] [0] 0 0))]) (fun i => [(302, ⟨.sl true none 2 1 (fun _ j => gl .junk [aI true x.totals, .sl true none 1 i (fL true x.cells)] j), []⟩)]) [1, 2] (k0 := ?k02) (keepH := ?kh2) 400 (fun i => i ≤ x.cells.length) (fun i => x.cells.length - i) (0) ?kea2 ?keb2 ?_ ?_ ?_
  case kea2 => exact amN
  case keb2 => exact amN
  · exact Nat.zero_le _
  · refine Le.auto [] (r0 := ?r03) (ren := ?ren3) ?ea3 ?eb3 ?a3 ?b3 ?c3 ?d3 ?ho3 ?hn3 ?ht3
    case ea3 => exact amR
    case eb3 => exact amR
    case a3 => exact rfl
    case b3 => exact rfl
    case c3 => exact rfl
    case d3 => exact rfl
    all_goals (try refine amL (h := ?_))
    all_goals (try with_reducible apply True.intro)
    refine ALe.of (.inl rfl) rfl (fun i' hi' j hj => ?_)
    have hj' : j = 0 ∨ j = 1 := by omega
    obtain rfl : i' = 0 := by omega
    rcases hj' with rfl | rfl
    · (try simp only [gl, true_and, and_true, and_self, false_and, and_false, if_true, if_false, reduceIte, Nat.le_refl, Nat.lt_irrefl, Nat.zero_le, Nat.reduceLT, Nat.reduceLeDiff, Nat.reduceSub, Nat.reduceEqDiff, Nat.sub_self, Nat.sub_zero, Nat.add_zero, Nat.zero_add, Nat.reduceAdd, OfNat.ofNat_ne_zero, OfNat.zero_ne_ofNat, zero_ne_one, one_ne_zero, Nat.zero_ne_one, Nat.one_ne_zero, Nat.not_lt_zero, Nat.succ_ne_zero]); exact roI
    · (try simp only [gl, true_and, and_true, and_self, false_and, and_false, if_true, if_false, reduceIte, Nat.le_refl, Nat.lt_irrefl, Nat.zero_le, Nat.reduceLT, Nat.reduceLeDiff, Nat.reduceSub, Nat.reduceEqDiff, Nat.sub_self, Nat.sub_zero, Nat.add_zero, Nat.zero_add, Nat.reduceAdd, OfNat.ofNat_ne_zero, OfNat.zero_ne_ofNat, zero_ne_one, one_ne_zero, Nat.zero_ne_one, Nat.one_ne_zero, Nat.not_lt_zero, Nat.succ_ne_zero]); exact .nil _ _ _ _ _
  · intro i hi
    have hm := okL_at h.2 i
    (try refine am (h := ?_)); (try with_reducible apply True.intro)
    repeat' (first | (with_reducible refine And.intro ?_ ?_) | (with_reducible intro _))
    all_goals try (first | omega | with_reducible rfl | ((with_reducible refine eqId ?_); exact rfl) | with_reducible (first | assumption | exact pl ‹_› | exact pr ‹_› | exact plr ‹_› | exact pll ‹_› | exact prl ‹_› | exact plll ‹_› | exact prll ‹_›))
    · have hlt : i < x.cells.length := by assumption
      refine ⟨i + 1, ?_, by omega, by omega⟩
      refine Le.auto [] (r0 := ?r04) (ren := ?ren4) ?ea4 ?eb4 ?a4 ?b4 ?c4 ?d4 ?ho4 ?hn4 ?ht4
      case ea4 => exact amR
      case eb4 => exact amR
      case a4 => exact rfl
      case b4 => exact rfl
      case c4 => exact rfl
      case d4 => exact rfl
      all_goals (try refine amL (h := ?_))
      all_goals (try with_reducible apply True.intro)
      refine ALe.of (.inl rfl) rfl (fun i' hi' j hj => ?_)
      have hj' : j = 0 ∨ j = 1 := by omega
      obtain rfl : i' = 0 := by omega
      rcases hj' with rfl | rfl
      · (try simp only [gl, true_and, and_true, and_self, false_and, and_false, if_true, if_false, reduceIte, Nat.le_refl, Nat.lt_irrefl, Nat.zero_le, Nat.reduceLT, Nat.reduceLeDiff, Nat.reduceSub, Nat.reduceEqDiff, Nat.sub_self, Nat.sub_zero, Nat.add_zero, Nat.zero_add, Nat.reduceAdd, OfNat.ofNat_ne_zero, OfNat.zero_ne_ofNat, zero_ne_one, one_ne_zero, Nat.zero_ne_one, Nat.one_ne_zero, Nat.not_lt_zero, Nat.succ_ne_zero]); exact .refl _
      · (try simp only [gl, true_and, and_true, and_self, false_and, and_false, if_true, if_false, reduceIte, Nat.le_refl, Nat.lt_irrefl, Nat.zero_le, Nat.reduceLT, Nat.reduceLeDiff, Nat.reduceSub, Nat.reduceEqDiff, Nat.sub_self, Nat.sub_zero, Nat.add_zero, Nat.zero_add, Nat.reduceAdd, OfNat.ofNat_ne_zero, OfNat.zero_ne_ofNat, zero_ne_one, one_ne_zero, Nat.zero_ne_one, Nat.one_ne_zero, Nat.not_lt_zero, Nat.succ_ne_zero]); exact appRow (.inl rfl) rfl roI
    · have ei : i = x.cells.length := by omega
      subst ei
      refine FinK.cell1 ?_ ?_ ?_
      all_goals (try refine amF (h := ?_))
      all_goals (try with_reducible apply True.intro)
      all_goals (first | exact .refl _)
theorem okNode_at {B : Nat} {l : List DNode} (h : okNodeS B l) {i : Nat} (hi : i < l.length) : okNode B (l.getD i default) := h.2 _ (getD_mem hi)
set_option maxHeartbeats 4000000 in
theorem cloneNodeI (x : DNode) (u v : Bool) (h : okNode (2 ^ 40) x) : ACalls Tryz.prog 122 [.agg (cNode u v x)] (fun r => r = .val (.agg (cNode true true x))) := by
  have hk := h.2.2.1.1
  have ha := h.2.2.2.2.2.2.1.1
  have nt : Tryz.f122.ntmps = 16 := rfl
  have rs : Tryz.f122.results = #[.cell 2 67] := rfl
  refine ACalls.of_run (m := 400) mixed Tryz.func122 rfl rfl (Nat.le_of_ble_eq_true rfl) ?_
  simp only [nt, rs]
  clear nt rs
  (try refine am (h := ?_)); (try with_reducible apply True.intro)
  first | refine CallK.one (cloneI x.kids _ (by omega)) (fun _ => amC) ?_ | refine CallE.one (cloneI x.kids _ (by omega)) (fun _ => amC) rfl ?_ | refine CallG.one rfl (fun hg => cloneI x.kids _ (by omega)) ?_ | refine CallEG.one rfl rfl (fun hg => cloneI x.kids _ (by omega)) ?_
  (try refine am (h := ?_)); (try with_reducible apply True.intro)
  repeat' (first | (with_reducible refine And.intro ?_ ?_) | (with_reducible intro _))
  all_goals try (first | omega | with_reducible rfl | ((with_reducible refine eqId ?_); exact rfl) | with_reducible (first | assumption | exact pl ‹_› | exact pr ‹_› | exact plr ‹_› | exact pll ‹_› | exact prl ‹_› | exact plll ‹_› | exact prll ‹_›))
  first | refine CallK.one (cloneStatsI x.stats _ _ h.2.2.2.2.1) (fun _ => amC) ?_ | refine CallE.one (cloneStatsI x.stats _ _ h.2.2.2.2.1) (fun _ => amC) rfl ?_ | refine CallG.one rfl (fun hg => cloneStatsI x.stats _ _ h.2.2.2.2.1) ?_ | refine CallEG.one rfl rfl (fun hg => cloneStatsI x.stats _ _ h.2.2.2.2.1) ?_
  (try refine am (h := ?_)); (try with_reducible apply True.intro)
  repeat' (first | (with_reducible refine And.intro ?_ ?_) | (with_reducible intro _))
  all_goals try (first | omega | with_reducible rfl | ((with_reducible refine eqId ?_); exact rfl) | with_reducible (first | assumption | exact pl ‹_› | exact pr ‹_› | exact plr ‹_› | exact pll ‹_› | exact prl ‹_› | exact plll ‹_› | exact prll ‹_›))
  first | refine CallK.one (cloneI x.attrs _ (by omega)) (fun _ => amC) ?_ | refine CallE.one (cloneI x.attrs _ (by omega)) (fun _ => amC) rfl ?_ | refine CallG.one rfl (fun hg => cloneI x.attrs _ (by omega)) ?_ | refine CallEG.one rfl rfl (fun hg => cloneI x.attrs _ (by omega)) ?_
  (try refine am (h := ?_)); (try with_reducible apply True.intro)
  repeat' (first | (with_reducible refine And.intro ?_ ?_) | (with_reducible intro _))
  all_goals try (first | omega | with_reducible rfl | ((with_reducible refine eqId ?_); exact rfl) | with_reducible (first | assumption | exact pl ‹_› | exact pr ‹_› | exact plr ‹_› | exact pll ‹_› | exact prl ‹_› | exact plll ‹_› | exact prll ‹_›))
  refine FinK.cell1 ?_ ?_ ?_
  all_goals (try refine amF (h := ?_))
  all_goals (try with_reducible apply True.intro)
  all_goals (first | exact .refl _)
set_option maxHeartbeats 4000000 in
theorem l19CopyNodeI (x : DNode) (u v : Bool) (h : okNode (2 ^ 40) x) : ACalls Tryz.prog 116 [.agg (cNode u v x)] (fun r => r = .val (.agg (cNode true true x))) := by
  have hk := h.2.2.1.1
  have ha := h.2.2.2.2.2.2.1.1
  have nt : Tryz.f116.ntmps = 20 := rfl
  have rs : Tryz.f116.results = #[.cell 2 67] := rfl
  refine ACalls.of_run (m := 400) mixed Tryz.func116 rfl rfl (Nat.le_of_ble_eq_true rfl) ?_
  simp only [nt, rs]
  clear nt rs
  (try refine am (h := ?_)); (try with_reducible apply True.intro)
  repeat' (first | (with_reducible refine And.intro ?_ ?_) | (with_reducible intro _))
  all_goals try (first | omega | with_reducible rfl | ((with_reducible refine eqId ?_); exact rfl) | with_reducible (first | assumption | exact pl ‹_› | exact pr ‹_› | exact plr ‹_› | exact pll ‹_› | exact prl ‹_› | exact plll ‹_› | exact prll ‹_›))
  first | refine CallK.one (l8CopyI x.stats _ _ h.2.2.2.2.1) (fun _ => amC) ?_ | refine CallE.one (l8CopyI x.stats _ _ h.2.2.2.2.1) (fun _ => amC) rfl ?_ | refine CallG.one rfl (fun hg => l8CopyI x.stats _ _ h.2.2.2.2.1) ?_ | refine CallEG.one rfl rfl (fun hg => l8CopyI x.stats _ _ h.2.2.2.2.1) ?_
  (try refine am (h := ?_)); (try with_reducible apply True.intro)
  repeat' (first | (with_reducible refine And.intro ?_ ?_) | (with_reducible intro _))
  all_goals try (first | omega | with_reducible rfl | ((with_reducible refine eqId ?_); exact rfl) | with_reducible (first | assumption | exact pl ‹_› | exact pr ‹_› | exact plr ‹_› | exact pll ‹_› | exact prl ‹_› | exact plll ‹_› | exact prll ‹_›))
  refine FinK.cell1 ?_ ?_ ?_
  all_goals (try refine amF (h := ?_))
  all_goals (try with_reducible apply True.intro)
  exact ⟨roI, roI⟩
theorem nodeRow {l : List DNode} {i n : Nat} {nl nl' : Option Bool} {g : Nat → Nat → AV} (hnl : nl' = none ∨ nl' = nl) (hn : n = i + 1) (hg : ∀ j, j < 12 → ALe (g 0 j) (fNode true l i j)) : ALe (.sl true nl 12 n (apF i (fNode true l) g)) (.sl true nl' 12 (i + 1) (fNode true l)) := by
  refine ALe.of hnl hn (fun a ha j hj => ?_)
  unfold apF
  by_cases e : a < i
  · rw [if_pos e]; exact .refl _
  · rw [if_neg e]
    obtain rfl : a = i := by omega
    rw [Nat.sub_self]
    exact hg j hj
set_option maxHeartbeats 4000000 in
theorem cloneTreeI (t : DTree) (u v : Bool) (h : okTree (2 ^ 40) t) (hn : t.nodes.length ≤ 2 ^ 38) : ACalls Tryz.prog 62 [.agg (cTree u v t)] (fun r => r = .val (.agg (cTree true true t))) := by
  have hl := h.1.1
  have nt : Tryz.f62.ntmps = 25 := rfl
  have rs : Tryz.f62.results = #[.cell 2 37] := rfl
  refine ACalls.of_run (m := 400) mixed Tryz.func62 rfl rfl (Nat.le_of_ble_eq_true rfl) ?_
  simp only [nt, rs]
  clear nt rs
  (try refine am (h := ?_)); (try with_reducible apply True.intro)
  refine LoopK.auto (Nat) (fun i => [(12, .one (.av (.int .i64 i))), (3, .one (.ref 302 [] [0] 0 0))]) (fun i => [(302, ⟨.sl true none 2 1 (fun _ j => gl .junk [.sl true none 12 i (fNode true t.nodes), .int .i64 t.seen] j), []⟩)]) [2, 10, 11] (k0 := ?k03) (keepH := ?kh3) 400 (fun i => i ≤ t.nodes.length) (fun i => t.nodes.length - i) (0) ?kea3 ?keb3 ?_ ?_ ?_
  case kea3 => exact amN
  case keb3 => exact amN
  · exact Nat.zero_le _
  · refine Le.auto [] (r0 := ?r05) (ren := ?ren5) ?ea5 ?eb5 ?a5 ?b5 ?c5 ?d5 ?ho5 ?hn5 ?ht5
    case ea5 => exact amR
    case eb5 => exact amR
    case a5 => exact rfl
    case b5 => exact rfl
    case c5 => exact rfl
    case d5 => exact rfl
    all_goals (try refine amL (h := ?_))
    all_goals (try with_reducible apply True.intro)
    refine ALe.of (.inl rfl) rfl (fun i' hi' j hj => ?_)
    have hj' : j = 0 ∨ j = 1 := by omega
    obtain rfl : i' = 0 := by omega
    rcases hj' with rfl | rfl
    · (try simp only [gl, true_and, and_true, and_self, false_and, and_false, if_true, if_false, reduceIte, Nat.le_refl, Nat.lt_irrefl, Nat.zero_le, Nat.reduceLT, Nat.reduceLeDiff, Nat.reduceSub, Nat.reduceEqDiff, Nat.sub_self, Nat.sub_zero, Nat.add_zero, Nat.zero_add, Nat.reduceAdd, OfNat.ofNat_ne_zero, OfNat.zero_ne_ofNat, zero_ne_one, one_ne_zero, Nat.zero_ne_one, Nat.one_ne_zero, Nat.not_lt_zero, Nat.succ_ne_zero]); exact .nil _ _ _ _ _
    · (try simp only [gl, true_and, and_true, and_self, false_and, and_false, if_true, if_false, reduceIte, Nat.le_refl, Nat.lt_irrefl, Nat.zero_le, Nat.reduceLT, Nat.reduceLeDiff, Nat.reduceSub, Nat.reduceEqDiff, Nat.sub_self, Nat.sub_zero, Nat.add_zero, Nat.zero_add, Nat.reduceAdd, OfNat.ofNat_ne_zero, OfNat.zero_ne_ofNat, zero_ne_one, one_ne_zero, Nat.zero_ne_one, Nat.one_ne_zero, Nat.not_lt_zero, Nat.succ_ne_zero]); exact .refl _
  · intro i hi
    (try refine am (h := ?_)); (try with_reducible apply True.intro)
    repeat' (first | (with_reducible refine And.intro ?_ ?_) | (with_reducible intro _))
    all_goals try (first | omega | with_reducible rfl | ((with_reducible refine eqId ?_); exact rfl) | with_reducible (first | assumption | exact pl ‹_› | exact pr ‹_› | exact plr ‹_› | exact pll ‹_› | exact prl ‹_› | exact plll ‹_› | exact prll ‹_›))
    · have hlt : i < t.nodes.length := by assumption
      first | refine CallK.one (cloneNodeI (t.nodes.getD i default) _ _ (okNode_at h.1 hlt)) (fun _ => amC) ?_ | refine CallE.one (cloneNodeI (t.nodes.getD i default) _ _ (okNode_at h.1 hlt)) (fun _ => amC) rfl ?_ | refine CallG.one rfl (fun hg => cloneNodeI (t.nodes.getD i default) _ _ (okNode_at h.1 hlt)) ?_ | refine CallEG.one rfl rfl (fun hg => cloneNodeI (t.nodes.getD i default) _ _ (okNode_at h.1 hlt)) ?_
      (try refine am (h := ?_)); (try with_reducible apply True.intro)
      repeat' (first | (with_reducible refine And.intro ?_ ?_) | (with_reducible intro _))
      all_goals try (first | omega | with_reducible rfl | ((with_reducible refine eqId ?_); exact rfl) | with_reducible (first | assumption | exact pl ‹_› | exact pr ‹_› | exact plr ‹_› | exact pll ‹_› | exact prl ‹_› | exact plll ‹_› | exact prll ‹_›))
      refine ⟨i + 1, ?_, by omega, by omega⟩
      refine Le.auto [] (r0 := ?r06) (ren := ?ren6) ?ea6 ?eb6 ?a6 ?b6 ?c6 ?d6 ?ho6 ?hn6 ?ht6
      case ea6 => exact amR
      case eb6 => exact amR
      case a6 => exact rfl
      case b6 => exact rfl
      case c6 => exact rfl
      case d6 => exact rfl
      all_goals (try refine amL (h := ?_))
      all_goals (try with_reducible apply True.intro)
      refine ALe.of (.inl rfl) rfl (fun i' hi' j hj => ?_)
      have hj' : j = 0 ∨ j = 1 := by omega
      obtain rfl : i' = 0 := by omega
      rcases hj' with rfl | rfl
      · (try simp only [gl, true_and, and_true, and_self, false_and, and_false, if_true, if_false, reduceIte, Nat.le_refl, Nat.lt_irrefl, Nat.zero_le, Nat.reduceLT, Nat.reduceLeDiff, Nat.reduceSub, Nat.reduceEqDiff, Nat.sub_self, Nat.sub_zero, Nat.add_zero, Nat.zero_add, Nat.reduceAdd, OfNat.ofNat_ne_zero, OfNat.zero_ne_ofNat, zero_ne_one, one_ne_zero, Nat.zero_ne_one, Nat.one_ne_zero, Nat.not_lt_zero, Nat.succ_ne_zero]); exact nodeRow (.inl rfl) rfl (fun j _ => .refl _)
      · (try simp only [gl, true_and, and_true, and_self, false_and, and_false, if_true, if_false, reduceIte, Nat.le_refl, Nat.lt_irrefl, Nat.zero_le, Nat.reduceLT, Nat.reduceLeDiff, Nat.reduceSub, Nat.reduceEqDiff, Nat.sub_self, Nat.sub_zero, Nat.add_zero, Nat.zero_add, Nat.reduceAdd, OfNat.ofNat_ne_zero, OfNat.zero_ne_ofNat, zero_ne_one, one_ne_zero, Nat.zero_ne_one, Nat.one_ne_zero, Nat.not_lt_zero, Nat.succ_ne_zero]); exact .refl _
    · have ei : i = t.nodes.length := by omega
      subst ei
      refine FinK.cell1 ?_ ?_ ?_
      all_goals (try refine amF (h := ?_))
      all_goals (try with_reducible apply True.intro)
      all_goals (first | exact .refl _)
set_option maxHeartbeats 4000000 in
theorem l19CopyI (t : DTree) (u v : Bool) (h : okTree (2 ^ 40) t) (hn : t.nodes.length ≤ 2 ^ 38) : ACalls Tryz.prog 50 [.agg (cTree u v t)] (fun r => r = .val (.agg (cTree true true t))) := by
  have hl := h.1.1
  have nt : Tryz.f50.ntmps = 27 := rfl
  have rs : Tryz.f50.results = #[.cell 2 37] := rfl
  refine ACalls.of_run (m := 400) mixed Tryz.func50 rfl rfl (Nat.le_of_ble_eq_true rfl) ?_
  simp only [nt, rs]
  clear nt rs
  (try refine am (h := ?_)); (try with_reducible apply True.intro)
  refine LoopK.auto (Nat) (fun i => [(4, .one (.av (.int .i64 i))), (3, .one (.ref 302 [] [0] 0 0))]) (fun i => [(302, ⟨.sl true none 2 1 (fun _ j => gl .junk [.sl true none 12 i (fNode true t.nodes), .int .i64 t.seen] j), []⟩)]) [1, 2] (k0 := ?k04) (keepH := ?kh4) 400 (fun i => i ≤ t.nodes.length) (fun i => t.nodes.length - i) (0) ?kea4 ?keb4 ?_ ?_ ?_
  case kea4 => exact amN
  case keb4 => exact amN
  · exact Nat.zero_le _
  · refine Le.auto [] (r0 := ?r07) (ren := ?ren7) ?ea7 ?eb7 ?a7 ?b7 ?c7 ?d7 ?ho7 ?hn7 ?ht7
    case ea7 => exact amR
    case eb7 => exact amR
    case a7 => exact rfl
    case b7 => exact rfl
    case c7 => exact rfl
    case d7 => exact rfl
    all_goals (try refine amL (h := ?_))
    all_goals (try with_reducible apply True.intro)
    refine ALe.of (.inl rfl) rfl (fun i' hi' j hj => ?_)
    have hj' : j = 0 ∨ j = 1 := by omega
    obtain rfl : i' = 0 := by omega
    rcases hj' with rfl | rfl
    · (try simp only [gl, true_and, and_true, and_self, false_and, and_false, if_true, if_false, reduceIte, Nat.le_refl, Nat.lt_irrefl, Nat.zero_le, Nat.reduceLT, Nat.reduceLeDiff, Nat.reduceSub, Nat.reduceEqDiff, Nat.sub_self, Nat.sub_zero, Nat.add_zero, Nat.zero_add, Nat.reduceAdd, OfNat.ofNat_ne_zero, OfNat.zero_ne_ofNat, zero_ne_one, one_ne_zero, Nat.zero_ne_one, Nat.one_ne_zero, Nat.not_lt_zero, Nat.succ_ne_zero]); exact .nil _ _ _ _ _
    · (try simp only [gl, true_and, and_true, and_self, false_and, and_false, if_true, if_false, reduceIte, Nat.le_refl, Nat.lt_irrefl, Nat.zero_le, Nat.reduceLT, Nat.reduceLeDiff, Nat.reduceSub, Nat.reduceEqDiff, Nat.sub_self, Nat.sub_zero, Nat.add_zero, Nat.zero_add, Nat.reduceAdd, OfNat.ofNat_ne_zero, OfNat.zero_ne_ofNat, zero_ne_one, one_ne_zero, Nat.zero_ne_one, Nat.one_ne_zero, Nat.not_lt_zero, Nat.succ_ne_zero]); exact .refl _
  · intro i hi
    (try refine am (h := ?_)); (try with_reducible apply True.intro)
    repeat' (first | (with_reducible refine And.intro ?_ ?_) | (with_reducible intro _))
    all_goals try (first | omega | with_reducible rfl | ((with_reducible refine eqId ?_); exact rfl) | with_reducible (first | assumption | exact pl ‹_› | exact pr ‹_› | exact plr ‹_› | exact pll ‹_› | exact prl ‹_› | exact plll ‹_› | exact prll ‹_›))
    · have hlt : i < t.nodes.length := by assumption
      first | refine CallK.one (l19CopyNodeI (t.nodes.getD i default) _ _ (okNode_at h.1 hlt)) (fun _ => amC) ?_ | refine CallE.one (l19CopyNodeI (t.nodes.getD i default) _ _ (okNode_at h.1 hlt)) (fun _ => amC) rfl ?_ | refine CallG.one rfl (fun hg => l19CopyNodeI (t.nodes.getD i default) _ _ (okNode_at h.1 hlt)) ?_ | refine CallEG.one rfl rfl (fun hg => l19CopyNodeI (t.nodes.getD i default) _ _ (okNode_at h.1 hlt)) ?_
      (try refine am (h := ?_)); (try with_reducible apply True.intro)
      repeat' (first | (with_reducible refine And.intro ?_ ?_) | (with_reducible intro _))
      all_goals try (first | omega | with_reducible rfl | ((with_reducible refine eqId ?_); exact rfl) | with_reducible (first | assumption | exact pl ‹_› | exact pr ‹_› | exact plr ‹_› | exact pll ‹_› | exact prl ‹_› | exact plll ‹_› | exact prll ‹_›))
      refine ⟨i + 1, ?_, by omega, by omega⟩
      refine Le.auto [] (r0 := ?r08) (ren := ?ren8) ?ea8 ?eb8 ?a8 ?b8 ?c8 ?d8 ?ho8 ?hn8 ?ht8
      case ea8 => exact amR
      case eb8 => exact amR
      case a8 => exact rfl
      case b8 => exact rfl
      case c8 => exact rfl
      case d8 => exact rfl
      all_goals (try refine amL (h := ?_))
      all_goals (try with_reducible apply True.intro)
      refine ALe.of (.inl rfl) rfl (fun i' hi' j hj => ?_)
      have hj' : j = 0 ∨ j = 1 := by omega
      obtain rfl : i' = 0 := by omega
      rcases hj' with rfl | rfl
      · (try simp only [gl, true_and, and_true, and_self, false_and, and_false, if_true, if_false, reduceIte, Nat.le_refl, Nat.lt_irrefl, Nat.zero_le, Nat.reduceLT, Nat.reduceLeDiff, Nat.reduceSub, Nat.reduceEqDiff, Nat.sub_self, Nat.sub_zero, Nat.add_zero, Nat.zero_add, Nat.reduceAdd, OfNat.ofNat_ne_zero, OfNat.zero_ne_ofNat, zero_ne_one, one_ne_zero, Nat.zero_ne_one, Nat.one_ne_zero, Nat.not_lt_zero, Nat.succ_ne_zero]); exact nodeRow (.inl rfl) rfl (fun j _ => .refl _)
      · (try simp only [gl, true_and, and_true, and_self, false_and, and_false, if_true, if_false, reduceIte, Nat.le_refl, Nat.lt_irrefl, Nat.zero_le, Nat.reduceLT, Nat.reduceLeDiff, Nat.reduceSub, Nat.reduceEqDiff, Nat.sub_self, Nat.sub_zero, Nat.add_zero, Nat.zero_add, Nat.reduceAdd, OfNat.ofNat_ne_zero, OfNat.zero_ne_ofNat, zero_ne_one, one_ne_zero, Nat.zero_ne_one, Nat.one_ne_zero, Nat.not_lt_zero, Nat.succ_ne_zero]); exact .refl _
    · have ei : i = t.nodes.length := by omega
      subst ei
      refine FinK.cell1 ?_ ?_ ?_
      all_goals (try refine amF (h := ?_))
      all_goals (try with_reducible apply True.intro)
      all_goals (first | exact .refl _)
theorem okI40 {l : List Int} (h : okI (2 ^ 40) l) : okI (2 ^ 47) l := ⟨Nat.le_trans h.1 (by decide), h.2⟩
theorem okL40' {l : List (List Int)} (h : okL (2 ^ 40) l) : okL (2 ^ 47) l := ⟨Nat.le_trans h.1 (by decide), fun x hx => okI40 (h.2 x hx)⟩
theorem okStats47 {x : DStats} (h : okStats (2 ^ 40) x) : okStats (2 ^ 47) x := ⟨okI40 h.1, okL40' h.2⟩
theorem okNode47 {x : DNode} (h : okNode (2 ^ 40) x) : okNode (2 ^ 47) x :=
  ⟨h.1, h.2.1, okI40 h.2.2.1, h.2.2.2.1, okStats47 h.2.2.2.2.1, h.2.2.2.2.2.1, okI40 h.2.2.2.2.2.2.1, h.2.2.2.2.2.2.2⟩
theorem okTree47 {x : DTree} (h : okTree (2 ^ 40) x) : okTree (2 ^ 47) x := ⟨⟨Nat.le_trans h.1.1 (by decide), fun y hy => okNode47 (h.1.2 y hy)⟩, h.2⟩
theorem nodeSet {l : List DNode} {k n : Nat} {x : DNode} {nl nl' : Option Bool} {F : Nat → Nat → AV} (hnl : nl' = none ∨ nl' = nl) (hn : n = l.length) (hk : k < l.length) (h1 : ∀ i j, i ≠ k → j < 12 → ALe (F i j) (fNode true l i j)) (h2 : ∀ j, j < 12 → ALe (F k j) (gl .junk (cNode true true x) j)) : ALe (.sl true nl 12 n F) (.sl true nl' 12 (l.set k x).length (fNode true (l.set k x))) := by
  refine ALe.of hnl (by rw [List.length_set]; exact hn) (fun i hi j hj => ?_)
  rw [fNode_at]
  by_cases e : i = k
  · subst e
    rw [getD_set_eq hk]
    exact h2 j hj
  · rw [getD_set_ne (fun h => e h.symm), ← fNode_at]
    exact h1 i j e hj
theorem appOne {l : List Int} {x : Int} {n : Nat} {nl nl' : Option Bool} {g : Nat → Nat → AV} (hnl : nl' = none ∨ nl' = nl) (hn : n = l.length + 1) (hg : g 0 0 = .int .i64 x) : ALe (.sl true nl 1 n (apF l.length (fI l) g)) (.sl true nl' 1 (l ++ [x]).length (fI (l ++ [x]))) := by
  refine ALe.of hnl (by rw [List.length_append]; exact hn) (fun a ha j hj => ?_)
  obtain rfl : j = 0 := by omega
  unfold apF
  by_cases e : a < l.length
  · rw [if_pos e, fI_at, fI_at, getD_app_l e]; exact .refl _
  · rw [if_neg e]
    obtain rfl : a = l.length := by omega
    rw [Nat.sub_self, hg, fI_at, getD_app_r]; exact .refl _
end Go.AM
namespace Go.AM
open Go Go.Proofs
set_option maxRecDepth 100000
theorem sm_set {α : Type} [Inhabited α] {f : α → Nat} : ∀ {l : List α} {i : Nat} {x : α}, i < l.length → sm f (l.set i x) + f (l.getD i default) = sm f l + f x
  | [], i, x, h => absurd h (Nat.not_lt_zero _)
  | r :: l, 0, x, _ => by show f x + sm f l + f r = f r + sm f l + f x; omega
  | r :: l, i + 1, x, h => by
    have := sm_set (f := f) (l := l) (i := i) (x := x) (Nat.lt_of_succ_lt_succ h)
    show f r + sm f (l.set i x) + f (l.getD i default) = f r + sm f l + f x
    omega
def thinNode (x : DNode) : DNode := { x with stats := thin x.stats, since := 0 }
def enfT (t : DTree) (i : Nat) : DTree := ⟨t.nodes.set i (thinNode (t.nodes.getD i default)), t.seen⟩
def enfC (s : DSchema) (b : Int) (t : DTree) : Bool := decide (b < (sm units t.nodes : Nat)) && decide (0 ≤ poorest s t)
def enfGo (s : DSchema) (b : Int) : Nat → DTree → List Int → DTree × List Int
  | 0, t, l => (t, l)
  | n + 1, t, l => bif enfC s b t then enfGo s b n (enfT t (poorest s t).toNat) (l ++ [poorest s t]) else (t, l)
def enforce (s : DSchema) (t : DTree) (b : Int) : DTree × List Int := if treeOk s t then enfGo s b (activeL t).length t [] else (t, [])
theorem enfGo_end {s : DSchema} {b : Int} {n : Nat} {t : DTree} {l : List Int} (h : enfC s b t = false) : enfGo s b n t l = (t, l) := by
  cases n with
  | zero => rfl
  | succ n => unfold enfGo; rw [h]; rfl
structure EnfInv (s : DSchema) (b : Int) (t0 : DTree) (p : DTree × List Int) : Prop where
  ok : okTree (2 ^ 40) p.1
  z : zTree p.1 ≤ 2 ^ 40
  len : p.2.length + (activeL p.1).length = (activeL t0).length
  eq : enfGo s b (activeL p.1).length p.1 p.2 = enfGo s b (activeL t0).length t0 []
  n : sm nNode p.1.nodes ≤ sm nNode t0.nodes
  k : ∀ x ∈ p.2, inK .i64 x
  c : p.1.nodes.length = t0.nodes.length
theorem EnfInv.start {s : DSchema} {b : Int} {t : DTree} (h : okTree (2 ^ 40) t) (hz : zTree t ≤ 2 ^ 40) : EnfInv s b t (t, []) :=
  ⟨h, hz, Nat.zero_add _, rfl, Nat.le_refl _, fun x hx => (nomatch hx), rfl⟩
theorem boxLe2 {nl : Option Bool} {F G : Nat → Nat → AV} (h0 : ALe (F 0 0) (G 0 0)) (h1 : ALe (F 0 1) (G 0 1)) : ALe (.sl true nl 2 1 F) (.sl true none 2 1 G) := by
  refine ALe.of (.inl rfl) rfl (fun i hi j hj => ?_)
  have hj' : j = 0 ∨ j = 1 := by omega
  obtain rfl : i = 0 := by omega
  rcases hj' with rfl | rfl
  · exact h0
  · exact h1
theorem EnfInv.done {s : DSchema} {b : Int} {t0 : DTree} {p : DTree × List Int} (h : EnfInv s b t0 p) (ht : treeOk s t0) (hc : enfC s b p.1 = false) : enforce s t0 b = p := by
  have e : enforce s t0 b = enfGo s b (activeL t0).length t0 [] := if_pos ht
  rw [e, ← h.eq, enfGo_end hc]
end Go.AM
