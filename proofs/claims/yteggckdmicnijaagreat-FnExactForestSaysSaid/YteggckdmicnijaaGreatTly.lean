/- Lemmas for the proof of this claim. -/
import Derived.Test.YteggckdmicnijaaGreatBas
namespace Go.AM
open Go Go.Proofs
set_option maxRecDepth 100000
def tlyS (s w : List Int) : Nat → Int → Int
  | 0, _ => 0
  | i + 1, c => tlyS s w i c + (if s.getD i 0 = c then w.getD i 0 else 0)
def vOk (n : Int) (s w : List Int) (j : Nat) : Prop := (-1 ≤ s.getD j 0 ∧ s.getD j 0 ≤ n - 1) ∧ 0 ≤ w.getD j 0 ∧ w.getD j 0 ≤ 1000
theorem tlyS_bd {n : Int} {s w : List Int} {c : Int} : ∀ {i : Nat}, (∀ j, j < i → vOk n s w j) → 0 ≤ tlyS s w i c ∧ tlyS s w i c ≤ 1000 * i
  | 0, _ => ⟨Int.le_refl _, by simp [tlyS]⟩
  | i + 1, h => by
    have := tlyS_bd (c := c) (i := i) (fun j hj => h j (by omega))
    have h2 := (h i (by omega)).2
    simp only [tlyS]
    split <;> omega
open Classical in
noncomputable def tly (n : Int) (s w : List Int) : List Int :=
  if (1 ≤ n ∧ n ≤ 3) ∧ s.length = w.length ∧ s.length ≤ 64 ∧ ∀ j, j < s.length → vOk n s w j then (List.range n.toNat).map (fun (c : Nat) => tlyS s w s.length c) else []
theorem rangeLe (g : Nat → Int) (m : Nat) : ALe (.sl true none 1 m (fun i' j => gl .junk [.int .i64 (g i')] j)) (.sl true none 1 ((List.range m).map g).length (fI ((List.range m).map g))) := by
  refine ALe.of (.inl rfl) (by simp) (fun i' hi' j hj => ?_)
  obtain rfl : j = 0 := by omega
  have : ((List.range m).map g).getD i' 0 = g i' := by rw [List.getD_eq_getElem?_getD]; simp [hi']
  show ALe (.int .i64 (g i')) (.int .i64 (((List.range m).map g).getD i' 0))
  rw [this]
  exact .refl _
set_option maxHeartbeats 2000000 in
theorem sTally (m : Nat) (s w : List Int) (u u' : Bool) (nl nl' : Option Bool) (hs : okI (2 ^ 47) s) (hw : okI (2 ^ 47) w) : ACalls Tryz.prog 130 [.one (.int .i64 (m : Int)), .one (.sl u nl 1 s.length (fI s)), .one (.sl u' nl' 1 w.length (fI w))] (fun r => r = .val (.one (aI true (tly m s w)))) := by
  have hsl := hs.1
  have hwl := hw.1
  have nt : Tryz.f130.ntmps = 74 := rfl
  have rs : Tryz.f130.results = #[.tmp 6] := rfl
  refine ACalls.of_run (m := 400) mixed Tryz.func130 rfl rfl (Nat.le_of_ble_eq_true rfl) ?_
  simp only [nt, rs]
  clear nt rs
  (try refine am (h := ?_)); (try with_reducible apply True.intro)
  first | refine CallK.one (l1In m 1 3) (fun _ => amC) ?_ | refine CallE.one (l1In m 1 3) (fun _ => amC) rfl ?_ | refine CallG.one rfl (fun hg => l1In m 1 3) ?_ | refine CallEG.one rfl rfl (fun hg => l1In m 1 3) ?_
  (try refine am (h := ?_)); (try with_reducible apply True.intro)
  refine ⟨fun h => ⟨by omega, ?_⟩, fun h => ?_⟩
  · have e : tly m s w = [] := if_neg (fun hh => by omega)
    rw [e]
    refine FinK.val1 ?_ ?_
    all_goals (try refine amF (h := ?_))
    all_goals (try with_reducible apply True.intro)
    exact ALe.of (.inl rfl) rfl (fun i hi => absurd hi (Nat.not_lt_zero i))
  repeat' (first | (with_reducible refine And.intro ?_ ?_) | (with_reducible intro _))
  all_goals try (first | omega | with_reducible rfl | ((with_reducible refine eqId ?_); exact rfl) | with_reducible (first | assumption | exact pl ‹_› | exact pr ‹_› | exact plr ‹_› | exact pll ‹_› | exact prl ‹_› | exact plll ‹_› | exact prll ‹_›))
  refine LoopK.auto (Nat) (fun i => [(8, .one (.av (.int .i64 i))), (7, .one (.own 302 [] [0]))]) (fun i => [(302, ⟨.sl true none 1 m (fun i' j => gl .junk [.int .i64 (tlyS s w i (i' : Int))] j), []⟩)]) [0, 1, 2] (k0 := ?k01) (keepH := ?kh1) 400 (fun i => i ≤ s.length ∧ ∀ j, j < i → vOk m s w j) (fun i => s.length - i) (0) ?kea1 ?keb1 ?_ ?_ ?_
  case kea1 => exact amN
  case keb1 => exact amN
  · exact ⟨Nat.zero_le _, fun j hj => by omega⟩
  · refine Le.auto [] (r0 := ?r01) (ren := ?ren1) ?ea1 ?eb1 ?a1 ?b1 ?c1 ?d1 ?ho1 ?hn1 ?ht1
    case ea1 => exact amR
    case eb1 => exact amR
    case a1 => exact rfl
    case b1 => exact rfl
    case c1 => exact rfl
    case d1 => exact rfl
    all_goals (try refine amL (h := ?_))
    all_goals (try with_reducible apply True.intro)
    exact ALe.of (.inl rfl) rfl (fun i hi j hj => .refl _)
  · intro i hi
    have hb := fun c => tlyS_bd (c := c) hi.2
    (try refine am (h := ?_)); (try with_reducible apply True.intro)
    refine ⟨fun hlt => ?_, fun hlt => ?_⟩
    · repeat' (first | (with_reducible refine And.intro ?_ ?_) | (with_reducible intro _))
      all_goals try (first | omega | with_reducible rfl | ((with_reducible refine eqId ?_); exact rfl) | with_reducible (first | assumption | exact pl ‹_› | exact pr ‹_› | exact plr ‹_› | exact pll ‹_› | exact prl ‹_› | exact plll ‹_› | exact prll ‹_›))
      first | refine CallK.one (l1In (s.getD i 0) (-1) (m - 1)) (fun _ => amC) ?_ | refine CallE.one (l1In (s.getD i 0) (-1) (m - 1)) (fun _ => amC) rfl ?_ | refine CallG.one rfl (fun hg => l1In (s.getD i 0) (-1) (m - 1)) ?_ | refine CallEG.one rfl rfl (fun hg => l1In (s.getD i 0) (-1) (m - 1)) ?_
      (try refine am (h := ?_)); (try with_reducible apply True.intro)
      repeat' (first | (with_reducible refine And.intro ?_ ?_) | (with_reducible intro _))
      all_goals try (first | omega | with_reducible rfl | ((with_reducible refine eqId ?_); exact rfl) | with_reducible (first | assumption | exact pl ‹_› | exact pr ‹_› | exact plr ‹_› | exact pll ‹_› | exact prl ‹_› | exact plll ‹_› | exact prll ‹_›))
      first | refine CallK.one (l1In (w.getD i 0) 0 1000) (fun _ => amC) ?_ | refine CallE.one (l1In (w.getD i 0) 0 1000) (fun _ => amC) rfl ?_ | refine CallG.one rfl (fun hg => l1In (w.getD i 0) 0 1000) ?_ | refine CallEG.one rfl rfl (fun hg => l1In (w.getD i 0) 0 1000) ?_
      (try refine am (h := ?_)); (try with_reducible apply True.intro)
      refine ⟨fun hh => ⟨by omega, ?_⟩, fun hh => ?_⟩
      · have e : tly m s w = [] := if_neg (fun h2 => by have := h2.2.2.2 i hlt; unfold vOk at this; omega)
        rw [e]
        refine FinK.val1 ?_ ?_
        all_goals (try refine amF (h := ?_))
        all_goals (try with_reducible apply True.intro)
        exact ALe.of (.inl rfl) rfl (fun i hi => absurd hi (Nat.not_lt_zero i))
      have hv : vOk m s w i := by unfold vOk; omega
      have hb0 := hb (s.getD i 0)
      refine ⟨hlt, fun hn => ?_, fun hn => ?_⟩
      · have hb1 := hb ((s.getD i 0).toNat : Int)
        repeat' (first | (with_reducible refine And.intro ?_ ?_) | (with_reducible intro _))
        all_goals try (first | omega | with_reducible rfl | ((with_reducible refine eqId ?_); exact rfl) | with_reducible (first | assumption | exact pl ‹_› | exact pr ‹_› | exact plr ‹_› | exact pll ‹_› | exact prl ‹_› | exact plll ‹_› | exact prll ‹_›))
        refine ⟨i + 1, ?_, ⟨by omega, fun j hj => ?_⟩, by omega⟩
        · refine Le.auto [] (r0 := ?r02) (ren := ?ren2) ?ea2 ?eb2 ?a2 ?b2 ?c2 ?d2 ?ho2 ?hn2 ?ht2
          case ea2 => exact amR
          case eb2 => exact amR
          case a2 => exact rfl
          case b2 => exact rfl
          case c2 => exact rfl
          case d2 => exact rfl
          all_goals (try refine amL (h := ?_))
          all_goals (try with_reducible apply True.intro)
          refine ALe.of (.inl rfl) rfl (fun i' hi' j hj => ?_)
          by_cases e : i' = (s.getD i 0).toNat
          · have e3 : tlyS s w (i + 1) (i' : Int) = tlyS s w i (i' : Int) + w.getD i 0 := by
              simp only [tlyS]; rw [if_pos (by omega)]
            rw [e3, ← e, if_pos ⟨rfl, Nat.zero_le _, hj⟩]
            exact .refl _
          · have e3 : tlyS s w (i + 1) (i' : Int) = tlyS s w i (i' : Int) := by
              simp only [tlyS]; rw [if_neg (by omega)]; omega
            rw [e3, if_neg (fun h => e h.1)]
            exact .refl _
        · by_cases e : j = i
          · rw [e]; exact hv
          · exact hi.2 j (by omega)
      · repeat' (first | (with_reducible refine And.intro ?_ ?_) | (with_reducible intro _))
        all_goals try (first | omega | with_reducible rfl | ((with_reducible refine eqId ?_); exact rfl) | with_reducible (first | assumption | exact pl ‹_› | exact pr ‹_› | exact plr ‹_› | exact pll ‹_› | exact prl ‹_› | exact plll ‹_› | exact prll ‹_›))
        refine ⟨i + 1, ?_, ⟨by omega, fun j hj => ?_⟩, by omega⟩
        · refine Le.auto [] (r0 := ?r03) (ren := ?ren3) ?ea3 ?eb3 ?a3 ?b3 ?c3 ?d3 ?ho3 ?hn3 ?ht3
          case ea3 => exact amR
          case eb3 => exact amR
          case a3 => exact rfl
          case b3 => exact rfl
          case c3 => exact rfl
          case d3 => exact rfl
          all_goals (try refine amL (h := ?_))
          all_goals (try with_reducible apply True.intro)
          refine ALe.of (.inl rfl) rfl (fun i' hi' j hj => ?_)
          have e3 : tlyS s w (i + 1) (i' : Int) = tlyS s w i (i' : Int) := by
            simp only [tlyS]; rw [if_neg (by omega)]; omega
          rw [e3]
          exact .refl _
        · by_cases e : j = i
          · rw [e]; exact hv
          · exact hi.2 j (by omega)
    · have e : i = s.length := by omega
      subst e
      have e : tly m s w = (List.range m).map (fun (c : Nat) => tlyS s w s.length c) := if_pos ⟨by omega, by omega, by omega, hi.2⟩
      rw [e]
      refine FinK.val1 ?_ ?_
      all_goals (try refine amF (h := ?_))
      all_goals (try with_reducible apply True.intro)
      exact rangeLe _ m
set_option maxHeartbeats 2000000 in
theorem iTally (m : Nat) (s w : List Int) (u u' : Bool) (nl nl' : Option Bool) (hs : okI (2 ^ 47) s) (hw : okI (2 ^ 47) w) : ACalls Tryz.prog 134 [.one (.int .i64 (m : Int)), .one (.sl u nl 1 s.length (fI s)), .one (.sl u' nl' 1 w.length (fI w))] (fun r => r = .val (.one (aI true (tly m s w)))) := by
  have hsl := hs.1
  have hwl := hw.1
  have nt : Tryz.f134.ntmps = 61 := rfl
  have rs : Tryz.f134.results = #[.tmp 6] := rfl
  refine ACalls.of_run (m := 400) mixed Tryz.func134 rfl rfl (Nat.le_of_ble_eq_true rfl) ?_
  simp only [nt, rs]
  clear nt rs
  (try refine am (h := ?_)); (try with_reducible apply True.intro)
  first | refine CallK.one (within m 1 3) (fun _ => amC) ?_ | refine CallE.one (within m 1 3) (fun _ => amC) rfl ?_ | refine CallG.one rfl (fun hg => within m 1 3) ?_ | refine CallEG.one rfl rfl (fun hg => within m 1 3) ?_
  (try refine am (h := ?_)); (try with_reducible apply True.intro)
  refine ⟨fun h => ?_, fun h => ?_⟩
  · have e : tly m s w = [] := if_neg (fun hh => by omega)
    rw [e]
    refine FinK.val1 ?_ ?_
    all_goals (try refine amF (h := ?_))
    all_goals (try with_reducible apply True.intro)
    exact .nil _ _ _ _ _
  first | refine CallK.one (zerosI m (by omega)) (fun _ => amC) ?_ | refine CallE.one (zerosI m (by omega)) (fun _ => amC) rfl ?_ | refine CallG.one rfl (fun hg => zerosI m (by omega)) ?_ | refine CallEG.one rfl rfl (fun hg => zerosI m (by omega)) ?_
  (try refine am (h := ?_)); (try with_reducible apply True.intro)
  refine LoopK.auto (Nat) (fun i => [(29, .one (.av (.int .i64 i))), (7, .one (.own 302 [] [0]))]) (fun i => [(302, ⟨.sl true none 1 m (fun i' j => gl .junk [.int .i64 (tlyS s w i (i' : Int))] j), []⟩)]) [0, 2, 27, 28] (k0 := ?k02) (keepH := ?kh2) 400 (fun i => i ≤ s.length ∧ ∀ j, j < i → vOk m s w j) (fun i => s.length - i) (0) ?kea2 ?keb2 ?_ ?_ ?_
  case kea2 => exact amN
  case keb2 => exact amN
  · exact ⟨Nat.zero_le _, fun j hj => by omega⟩
  · refine Le.auto [] (r0 := ?r04) (ren := ?ren4) ?ea4 ?eb4 ?a4 ?b4 ?c4 ?d4 ?ho4 ?hn4 ?ht4
    case ea4 => exact amR
    case eb4 => exact amR
    case a4 => exact rfl
    case b4 => exact rfl
    case c4 => exact rfl
    case d4 => exact rfl
    all_goals (try refine amL (h := ?_))
    all_goals (try with_reducible apply True.intro)
    refine ALe.of (.inl rfl) (by simp) (fun i' hi' j hj => ?_)
    obtain rfl : j = 0 := by omega
    have : (List.replicate m (0 : Int)).getD i' 0 = 0 := by rw [List.getD_eq_getElem?_getD]; (try simp at hi'); simp [hi']
    show ALe (.int .i64 ((List.replicate m (0 : Int)).getD i' 0)) (.int .i64 0)
    rw [this]
    exact .refl _
  · intro i hi
    have hb := fun c => tlyS_bd (c := c) hi.2
    (try refine am (h := ?_)); (try with_reducible apply True.intro)
    refine ⟨fun hlt => ?_, fun hlt => ?_⟩
    · repeat' (first | (with_reducible refine And.intro ?_ ?_) | (with_reducible intro _))
      all_goals try (first | omega | with_reducible rfl | ((with_reducible refine eqId ?_); exact rfl) | with_reducible (first | assumption | exact pl ‹_› | exact pr ‹_› | exact plr ‹_› | exact pll ‹_› | exact prl ‹_› | exact plll ‹_› | exact prll ‹_›))
      first | refine CallK.one (within (s.getD i 0) (-1) (m - 1)) (fun _ => amC) ?_ | refine CallE.one (within (s.getD i 0) (-1) (m - 1)) (fun _ => amC) rfl ?_ | refine CallG.one rfl (fun hg => within (s.getD i 0) (-1) (m - 1)) ?_ | refine CallEG.one rfl rfl (fun hg => within (s.getD i 0) (-1) (m - 1)) ?_
      (try refine am (h := ?_)); (try with_reducible apply True.intro)
      repeat' (first | (with_reducible refine And.intro ?_ ?_) | (with_reducible intro _))
      all_goals try (first | omega | with_reducible rfl | ((with_reducible refine eqId ?_); exact rfl) | with_reducible (first | assumption | exact pl ‹_› | exact pr ‹_› | exact plr ‹_› | exact pll ‹_› | exact prl ‹_› | exact plll ‹_› | exact prll ‹_›))
      first | refine CallK.one (within (w.getD i 0) 0 1000) (fun _ => amC) ?_ | refine CallE.one (within (w.getD i 0) 0 1000) (fun _ => amC) rfl ?_ | refine CallG.one rfl (fun hg => within (w.getD i 0) 0 1000) ?_ | refine CallEG.one rfl rfl (fun hg => within (w.getD i 0) 0 1000) ?_
      (try refine am (h := ?_)); (try with_reducible apply True.intro)
      refine ⟨fun hh => ?_, fun hh => ?_⟩
      · have e : tly m s w = [] := if_neg (fun h2 => by have := h2.2.2.2 i hlt; unfold vOk at this; omega)
        rw [e]
        refine FinK.val1 ?_ ?_
        all_goals (try refine amF (h := ?_))
        all_goals (try with_reducible apply True.intro)
        exact .nil _ _ _ _ _
      have hv : vOk m s w i := by unfold vOk; omega
      have hb0 := hb (s.getD i 0)
      refine ⟨fun hn => ?_, fun hn => ?_⟩
      · have hb1 := hb ((s.getD i 0).toNat : Int)
        repeat' (first | (with_reducible refine And.intro ?_ ?_) | (with_reducible intro _))
        all_goals try (first | omega | with_reducible rfl | ((with_reducible refine eqId ?_); exact rfl) | with_reducible (first | assumption | exact pl ‹_› | exact pr ‹_› | exact plr ‹_› | exact pll ‹_› | exact prl ‹_› | exact plll ‹_› | exact prll ‹_›))
        refine ⟨i + 1, ?_, ⟨by omega, fun j hj => ?_⟩, by omega⟩
        · refine Le.auto [] (r0 := ?r05) (ren := ?ren5) ?ea5 ?eb5 ?a5 ?b5 ?c5 ?d5 ?ho5 ?hn5 ?ht5
          case ea5 => exact amR
          case eb5 => exact amR
          case a5 => exact rfl
          case b5 => exact rfl
          case c5 => exact rfl
          case d5 => exact rfl
          all_goals (try refine amL (h := ?_))
          all_goals (try with_reducible apply True.intro)
          refine ALe.of (.inl rfl) rfl (fun i' hi' j hj => ?_)
          by_cases e : i' = (s.getD i 0).toNat
          · have e3 : tlyS s w (i + 1) (i' : Int) = tlyS s w i (i' : Int) + w.getD i 0 := by
              simp only [tlyS]; rw [if_pos (by omega)]
            rw [e3, ← e, if_pos ⟨rfl, Nat.zero_le _, hj⟩]
            exact .refl _
          · have e3 : tlyS s w (i + 1) (i' : Int) = tlyS s w i (i' : Int) := by
              simp only [tlyS]; rw [if_neg (by omega)]; omega
            rw [e3, if_neg (fun h => e h.1)]
            exact .refl _
        · by_cases e : j = i
          · rw [e]; exact hv
          · exact hi.2 j (by omega)
      · repeat' (first | (with_reducible refine And.intro ?_ ?_) | (with_reducible intro _))
        all_goals try (first | omega | with_reducible rfl | ((with_reducible refine eqId ?_); exact rfl) | with_reducible (first | assumption | exact pl ‹_› | exact pr ‹_› | exact plr ‹_› | exact pll ‹_› | exact prl ‹_› | exact plll ‹_› | exact prll ‹_›))
        refine ⟨i + 1, ?_, ⟨by omega, fun j hj => ?_⟩, by omega⟩
        · refine Le.auto [] (r0 := ?r06) (ren := ?ren6) ?ea6 ?eb6 ?a6 ?b6 ?c6 ?d6 ?ho6 ?hn6 ?ht6
          case ea6 => exact amR
          case eb6 => exact amR
          case a6 => exact rfl
          case b6 => exact rfl
          case c6 => exact rfl
          case d6 => exact rfl
          all_goals (try refine amL (h := ?_))
          all_goals (try with_reducible apply True.intro)
          refine ALe.of (.inl rfl) rfl (fun i' hi' j hj => ?_)
          have e3 : tlyS s w (i + 1) (i' : Int) = tlyS s w i (i' : Int) := by
            simp only [tlyS]; rw [if_neg (by omega)]; omega
          rw [e3]
          exact .refl _
        · by_cases e : j = i
          · rw [e]; exact hv
          · exact hi.2 j (by omega)
    · have e : i = s.length := by omega
      subst e
      have e : tly m s w = (List.range m).map (fun (c : Nat) => tlyS s w s.length c) := if_pos ⟨by omega, by omega, by omega, hi.2⟩
      rw [e]
      refine FinK.val1 ?_ ?_
      all_goals (try refine amF (h := ?_))
      all_goals (try with_reducible apply True.intro)
      exact rangeLe _ m
set_option maxHeartbeats 2000000 in
theorem sTallyN (n : Int) (s w : List Int) (u u' : Bool) (nl nl' : Option Bool) (hs : okI (2 ^ 47) s) (hw : okI (2 ^ 47) w) : ACalls Tryz.prog 130 [.one (.int .i64 n), .one (.sl u nl 1 s.length (fI s)), .one (.sl u' nl' 1 w.length (fI w))] (fun r => r = .val (.one (aI true (tly n s w)))) := by
  by_cases hn : 0 ≤ n
  · obtain ⟨m, rfl⟩ := Int.eq_ofNat_of_zero_le hn
    exact sTally m s w u u' nl nl' hs hw
  have hsl := hs.1
  have hwl := hw.1
  have nt : Tryz.f130.ntmps = 74 := rfl
  have rs : Tryz.f130.results = #[.tmp 6] := rfl
  refine ACalls.of_run (m := 400) mixed Tryz.func130 rfl rfl (Nat.le_of_ble_eq_true rfl) ?_
  simp only [nt, rs]
  clear nt rs
  (try refine am (h := ?_)); (try with_reducible apply True.intro)
  first | refine CallK.one (l1In n 1 3) (fun _ => amC) ?_ | refine CallE.one (l1In n 1 3) (fun _ => amC) rfl ?_ | refine CallG.one rfl (fun hg => l1In n 1 3) ?_ | refine CallEG.one rfl rfl (fun hg => l1In n 1 3) ?_
  (try refine am (h := ?_)); (try with_reducible apply True.intro)
  refine ⟨fun h => ⟨by omega, ?_⟩, fun h => absurd h (by omega)⟩
  have e : tly n s w = [] := if_neg (fun hh => by omega)
  rw [e]
  refine FinK.val1 ?_ ?_
  all_goals (try refine amF (h := ?_))
  all_goals (try with_reducible apply True.intro)
  exact ALe.of (.inl rfl) rfl (fun i hi => absurd hi (Nat.not_lt_zero i))
set_option maxHeartbeats 2000000 in
theorem iTallyN (n : Int) (s w : List Int) (u u' : Bool) (nl nl' : Option Bool) (hs : okI (2 ^ 47) s) (hw : okI (2 ^ 47) w) : ACalls Tryz.prog 134 [.one (.int .i64 n), .one (.sl u nl 1 s.length (fI s)), .one (.sl u' nl' 1 w.length (fI w))] (fun r => r = .val (.one (aI true (tly n s w)))) := by
  by_cases hn : 0 ≤ n
  · obtain ⟨m, rfl⟩ := Int.eq_ofNat_of_zero_le hn
    exact iTally m s w u u' nl nl' hs hw
  have hsl := hs.1
  have hwl := hw.1
  have nt : Tryz.f134.ntmps = 61 := rfl
  have rs : Tryz.f134.results = #[.tmp 6] := rfl
  refine ACalls.of_run (m := 400) mixed Tryz.func134 rfl rfl (Nat.le_of_ble_eq_true rfl) ?_
  simp only [nt, rs]
  clear nt rs
  (try refine am (h := ?_)); (try with_reducible apply True.intro)
  first | refine CallK.one (within n 1 3) (fun _ => amC) ?_ | refine CallE.one (within n 1 3) (fun _ => amC) rfl ?_ | refine CallG.one rfl (fun hg => within n 1 3) ?_ | refine CallEG.one rfl rfl (fun hg => within n 1 3) ?_
  (try refine am (h := ?_)); (try with_reducible apply True.intro)
  refine ⟨fun h => ?_, fun h => absurd h (by omega)⟩
  have e : tly n s w = [] := if_neg (fun hh => by omega)
  rw [e]
  refine FinK.val1 ?_ ?_
  all_goals (try refine amF (h := ?_))
  all_goals (try with_reducible apply True.intro)
  exact .nil _ _ _ _ _
theorem tly_ok (n : Int) (s w : List Int) : okI (2 ^ 47) (tly n s w) := by
  unfold tly
  split
  · rename_i h
    refine ⟨by simp; omega, fun x hx => ?_⟩
    simp only [List.mem_map, List.mem_range] at hx
    obtain ⟨i, hi, rfl⟩ := hx
    have := tlyS_bd (c := (i : Int)) h.2.2.2
    rw [inKi]
    omega
  · exact ⟨by simp, fun x hx => by simp at hx⟩
theorem tly_len (n : Int) (s w : List Int) : (tly n s w).length ≤ 3 := by
  unfold tly
  split
  · simp; omega
  · simp
end Go.AM
