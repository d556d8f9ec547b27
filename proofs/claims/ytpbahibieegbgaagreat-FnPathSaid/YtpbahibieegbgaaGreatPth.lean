/- Lemmas for the proof of this claim. -/
import Derived.Test.YtpbahibieegbgaaGreatTr2
import Derived.Test.YtpbahibieegbgaaGreatUni
namespace Go.AM
open Go Go.Proofs
set_option maxRecDepth 100000
def exOk (s : DSchema) (e : DEx) : Prop := schemaOk s ∧ e.bins.length = s.attrs.length ∧ (-1 ≤ e.cls ∧ e.cls ≤ (s.classes.length : Int) - 1) ∧ ∀ i, i < e.bins.length → -1 ≤ e.bins.getD i 0 ∧ e.bins.getD i 0 ≤ (bins (s.attrs.getD i default) : Int) - 1
instance (s : DSchema) (e : DEx) : Decidable (exOk s e) := by unfold exOk; infer_instance
def brAt (s : DSchema) (e : DEx) (n : DNode) : Int := if 0 ≤ e.bins.getD n.fork.attr.toNat 0 then branchOf s n.fork (e.bins.getD n.fork.attr.toNat 0) else n.miss
def nxt (s : DSchema) (t : DTree) (e : DEx) (i : Nat) : Nat := ((t.nodes.getD i default).kids.getD (brAt s e (t.nodes.getD i default)).toNat 0).toNat
def pos (s : DSchema) (t : DTree) (e : DEx) : Nat → Nat
  | 0 => 0
  | k + 1 => nxt s t e (pos s t e k)
theorem pos_succ (s : DSchema) (t : DTree) (e : DEx) (k : Nat) : pos s t e (k + 1) = nxt s t e (pos s t e k) := rfl
def leafAt (s : DSchema) (t : DTree) (e : DEx) (k : Nat) : Bool := (t.nodes.getD (pos s t e k) default).leaf
def lastK (s : DSchema) (t : DTree) (e : DEx) : Nat := (fidxN (leafAt s t e) 0 t.nodes.length).toNat
def posL (s : DSchema) (t : DTree) (e : DEx) (k : Nat) : List Int := (List.range k).map fun j => ((pos s t e j : Nat) : Int)
theorem posL_len {s : DSchema} {t : DTree} {e : DEx} {k : Nat} : (posL s t e k).length = k := by simp [posL]
theorem posL_get {s : DSchema} {t : DTree} {e : DEx} {j k : Nat} (h : j < k) : (posL s t e k).getD j 0 = (pos s t e j : Int) := by simp [posL, List.getD, h]
theorem posL_succ {s : DSchema} {t : DTree} {e : DEx} {k : Nat} : posL s t e (k + 1) = posL s t e k ++ [((pos s t e k : Nat) : Int)] := by simp [posL, List.range_succ]
def pathL (s : DSchema) (t : DTree) (e : DEx) : List Int := posL s t e (lastK s t e + 1)
theorem walk_facts {s : DSchema} {t : DTree} {e : DEx} {i : Nat} (ht : treeOk s t) (he : exOk s e) (hi : i < t.nodes.length) (hl : (t.nodes.getD i default).leaf = false) :
    forkOk s (t.nodes.getD i default).fork ∧ (0 ≤ (t.nodes.getD i default).fork.attr ∧ (t.nodes.getD i default).fork.attr < (e.bins.length : Int)) ∧ (0 ≤ brAt s e (t.nodes.getD i default) ∧ brAt s e (t.nodes.getD i default) < ((t.nodes.getD i default).kids.length : Int)) ∧
      (t.nodes.getD i default).kids.getD (brAt s e (t.nodes.getD i default)).toNat 0 = (nxt s t e i : Int) ∧ i < nxt s t e i ∧ nxt s t e i < t.nodes.length := by
  have hn := (ht.2.2.2 i hi).1.2
  rw [if_neg (by rw [hl]; simp)] at hn
  obtain ⟨h1, h2, h3, h4, h5, h6, h7⟩ := hn
  have hr := h1.2.1
  have hb := he.2.1
  have hat := h1.1.2.2.2.1 (t.nodes.getD i default).fork.attr.toNat (by omega)
  have hbn := attrOk_bins hat
  have hbr : 0 ≤ brAt s e (t.nodes.getD i default) ∧ brAt s e (t.nodes.getD i default) < ((t.nodes.getD i default).kids.length : Int) := by
    unfold brAt
    by_cases hx : 0 ≤ e.bins.getD (t.nodes.getD i default).fork.attr.toNat 0
    · rw [if_pos hx]
      have hbin := he.2.2.2 (t.nodes.getD i default).fork.attr.toNat (by omega)
      have e1 : branches s (t.nodes.getD i default).fork = if (t.nodes.getD i default).fork.at_ = -1 then bins (s.attrs.getD (t.nodes.getD i default).fork.attr.toNat default) else 2 := if_pos h1
      have e2 : branchOf s (t.nodes.getD i default).fork (e.bins.getD (t.nodes.getD i default).fork.attr.toNat 0) = if (t.nodes.getD i default).fork.at_ = -1 then e.bins.getD (t.nodes.getD i default).fork.attr.toNat 0 else if e.bins.getD (t.nodes.getD i default).fork.attr.toNat 0 = (t.nodes.getD i default).fork.at_ ∨ 0 < (s.attrs.getD (t.nodes.getD i default).fork.attr.toNat default).cuts.length ∧ e.bins.getD (t.nodes.getD i default).fork.attr.toNat 0 < (t.nodes.getD i default).fork.at_ then 0 else 1 := if_pos ⟨h1, hx, hbin.2⟩
      rw [e2, h2, e1]
      by_cases ha : (t.nodes.getD i default).fork.at_ = -1
      · rw [if_pos ha, if_pos ha]; omega
      · rw [if_neg ha, if_neg ha]
        split <;> omega
    · rw [if_neg hx]; omega
  have hk := h7 (brAt s e (t.nodes.getD i default)).toNat (by omega)
  have hk1 := hk.1
  refine ⟨h1, by omega, hbr, ?_, ?_, ?_⟩
  · unfold nxt; omega
  · unfold nxt; omega
  · unfold nxt; omega
theorem pos_lt {s : DSchema} {t : DTree} {e : DEx} (ht : treeOk s t) (he : exOk s e) : ∀ {k : Nat}, (∀ j, j < k → leafAt s t e j = false) → k ≤ pos s t e k ∧ pos s t e k < t.nodes.length
  | 0, _ => ⟨Nat.zero_le _, by have := ht.2.1; show 0 < _; omega⟩
  | k + 1, h => by
    have ih := pos_lt ht he (k := k) (fun j hj => h j (by omega))
    have hw := walk_facts ht he ih.2 (h k (by omega))
    rw [pos_succ]
    omega
theorem lastK_eq {s : DSchema} {t : DTree} {e : DEx} (ht : treeOk s t) (he : exOk s e) {k : Nat} (h : ∀ j, j < k → leafAt s t e j = false) (hl : leafAt s t e k = true) : lastK s t e = k := by
  have h1 := pos_lt ht he h
  unfold lastK
  rw [fidxN_first (i := 0) (j := k) (Nat.zero_le _) (by omega) hl (fun j _ hj => h j hj)]
  rfl
set_option maxHeartbeats 8000000 in
theorem implExOk (s : DSchema) (e : DEx) (u v u' : Bool) (h : okSchema (2 ^ 47) s) (h' : okEx (2 ^ 47) e) : ACalls Tryz.prog 83 [.agg (cSchema u v s), .agg (cEx u' false e)] (fun r => r = .val (.one (.bool (decide (exOk s e))))) := by
  have hl := h.1.1
  have hl2 := h.2.1
  have hl3 := h'.1.1
  have nt : Tryz.f83.ntmps = 48 := rfl
  have rs : Tryz.f83.results = #[.tmp 4] := rfl
  refine ACalls.of_run (m := 400) mixed Tryz.func83 rfl rfl (Nat.le_of_ble_eq_true rfl) ?_
  simp only [nt, rs]
  clear nt rs
  (try refine am (h := ?_)); (try with_reducible apply True.intro)
  refine CallK.one (implSchemaOk s _ _ h) (fun _ => amC) ?_
  (try refine am (h := ?_)); (try with_reducible apply True.intro)
  repeat' with_reducible first | refine And.intro ?_ ?_ | intro _
  all_goals try exact amA
  refine CallG.one rfl (fun hg => within e.cls (-1) _) ?_
  (try refine am (h := ?_)); (try with_reducible apply True.intro)
  repeat' with_reducible first | refine And.intro ?_ ?_ | intro _
  all_goals try exact amA
  · refine FinK.val1 ?_ ?_
    all_goals (try refine amF (h := ?_))
    all_goals (try with_reducible apply True.intro)
    rename_i h1
    refine (decide_eq_false (fun e => ?_)).symm
    obtain ⟨e1, e2, e3, e4⟩ := e
    rcases h1 with (h1 | h1) | h1
    · exact h1 e1
    · omega
    · exact h1 e3
  rename_i h1
  obtain ⟨⟨hS, h2⟩, h3⟩ := h1
  refine LoopK.auto (Nat) (fun i => [(32, .one (.av (.int .i64 i)))]) (fun i => []) [2, 30, 31] (k0 := ?k01) (keepH := ?kh1) 400 (fun i => i ≤ e.bins.length ∧ ∀ j, j < i → -1 ≤ e.bins.getD j 0 ∧ e.bins.getD j 0 ≤ (bins (s.attrs.getD j default) : Int) - 1) (fun i => e.bins.length - i) (0) ?kea1 ?keb1 ?_ ?_ ?_
  case kea1 => exact amN
  case keb1 => exact amN
  · exact ⟨Nat.zero_le _, fun j hj => by omega⟩
  · refine Le.auto [] (r0 := ?r01) (ren := ?ren1) ?ea1 ?eb1 ?a1 ?b1 ?c1 ?d1 ?ho1 ?hn1 ?ht1
    case ea1 => exact amR
    case eb1 => exact amR
    case a1 => exact rfl
    case b1 => exact rfl
    case c1 => exact rfl
    case d1 => exact rfl
    all_goals (try refine amL (h := ?_))
    all_goals (try with_reducible apply True.intro)
  · intro i hi
    (try refine am (h := ?_)); (try with_reducible apply True.intro)
    repeat' with_reducible first | refine And.intro ?_ ?_ | intro _
    all_goals try exact amA
    · have hlt : i < e.bins.length := by assumption
      have hat := hS.2.2.2.1 i (by omega)
      have hbn := attrOk_bins hat
      refine CallK.one (implBins (s.attrs.getD i default) _ false (h.1.2 _ (getD_mem (by omega)))) (fun _ => amC) ?_
      (try refine am (h := ?_)); (try with_reducible apply True.intro)
      repeat' with_reducible first | refine And.intro ?_ ?_ | intro _
      all_goals try exact amA
      refine CallK.one (within (e.bins.getD i 0) (-1) _) (fun _ => amC) ?_
      (try refine am (h := ?_)); (try with_reducible apply True.intro)
      repeat' with_reducible first | refine And.intro ?_ ?_ | intro _
      all_goals try exact amA
      · refine FinK.val1 ?_ ?_
        all_goals (try refine amF (h := ?_))
        all_goals (try with_reducible apply True.intro)
        rename_i h4
        exact (decide_eq_false (fun e => h4 (e.2.2.2 i hlt))).symm
      · rename_i h4
        refine ⟨i + 1, ?_, ⟨by omega, fun j hj => ?_⟩, by omega⟩
        · refine Le.auto [] (r0 := ?r02) (ren := ?ren2) ?ea2 ?eb2 ?a2 ?b2 ?c2 ?d2 ?ho2 ?hn2 ?ht2
          case ea2 => exact amR
          case eb2 => exact amR
          case a2 => exact rfl
          case b2 => exact rfl
          case c2 => exact rfl
          case d2 => exact rfl
          all_goals (try refine amL (h := ?_))
          all_goals (try with_reducible apply True.intro)
        · by_cases e : j = i
          · rw [e]; exact h4
          · exact hi.2 j (by omega)
    · refine FinK.val1 ?_ ?_
      all_goals (try refine amF (h := ?_))
      all_goals (try with_reducible apply True.intro)
      exact (decide_eq_true ⟨hS, by omega, h3, fun j hj => hi.2 j (by omega)⟩).symm
set_option maxHeartbeats 8000000 in
theorem specExOk (s : DSchema) (e : DEx) (u v u' : Bool) (h : okSchema (2 ^ 47) s) (h' : okEx (2 ^ 47) e) : ACalls Tryz.prog 28 [.agg (cSchema u v s), .agg (cEx u' false e)] (fun r => r = .val (.one (.bool (decide (exOk s e))))) := by
  have hl := h.1.1
  have hl2 := h.2.1
  have hl3 := h'.1.1
  have nt : Tryz.f28.ntmps = 49 := rfl
  have rs : Tryz.f28.results = #[.tmp 4] := rfl
  refine ACalls.of_run (m := 400) mixed Tryz.func28 rfl rfl (Nat.le_of_ble_eq_true rfl) ?_
  simp only [nt, rs]
  clear nt rs
  (try refine am (h := ?_)); (try with_reducible apply True.intro)
  refine CallK.one (specSchemaOk s _ _ h) (fun _ => amC) ?_
  (try refine am (h := ?_)); (try with_reducible apply True.intro)
  repeat' with_reducible first | refine And.intro ?_ ?_ | intro _
  all_goals try exact amA
  refine CallG.one rfl (fun hg => l1In e.cls (-1) _) ?_
  (try refine am (h := ?_)); (try with_reducible apply True.intro)
  repeat' with_reducible first | refine And.intro ?_ ?_ | intro _
  all_goals try exact amA
  · refine FinK.val1 ?_ ?_
    all_goals (try refine amF (h := ?_))
    all_goals (try with_reducible apply True.intro)
    rename_i h1
    refine (decide_eq_false (fun e => ?_)).symm
    obtain ⟨e1, e2, e3, e4⟩ := e
    rcases h1 with (h1 | h1) | h1
    · exact h1 e1
    · omega
    · exact h1 e3
  rename_i h1
  obtain ⟨⟨hS, h2⟩, h3⟩ := h1
  refine LoopK.auto (Nat) (fun i => [(5, .one (.av (.int .i64 i)))]) (fun i => []) [2, 3] (k0 := ?k02) (keepH := ?kh2) 400 (fun i => i ≤ e.bins.length ∧ ∀ j, j < i → -1 ≤ e.bins.getD j 0 ∧ e.bins.getD j 0 ≤ (bins (s.attrs.getD j default) : Int) - 1) (fun i => e.bins.length - i) (0) ?kea2 ?keb2 ?_ ?_ ?_
  case kea2 => exact amN
  case keb2 => exact amN
  · exact ⟨Nat.zero_le _, fun j hj => by omega⟩
  · refine Le.auto [] (r0 := ?r03) (ren := ?ren3) ?ea3 ?eb3 ?a3 ?b3 ?c3 ?d3 ?ho3 ?hn3 ?ht3
    case ea3 => exact amR
    case eb3 => exact amR
    case a3 => exact rfl
    case b3 => exact rfl
    case c3 => exact rfl
    case d3 => exact rfl
    all_goals (try refine amL (h := ?_))
    all_goals (try with_reducible apply True.intro)
  · intro i hi
    (try refine am (h := ?_)); (try with_reducible apply True.intro)
    repeat' with_reducible first | refine And.intro ?_ ?_ | intro _
    all_goals try exact amA
    · have hlt : i < e.bins.length := by assumption
      have hat := hS.2.2.2.1 i (by omega)
      have hbn := attrOk_bins hat
      refine CallE.one (specBins (s.attrs.getD i default) _ false (h.1.2 _ (getD_mem (by omega)))) (fun _ => amC) rfl ?_
      (try refine am (h := ?_)); (try with_reducible apply True.intro)
      (try refine am (h := ?_)); (try simp only [if_pos hat]); (try refine am (h := ?_)); (try with_reducible apply True.intro)
      repeat' with_reducible first | refine And.intro ?_ ?_ | intro _
      all_goals try exact amA
      refine CallE.one (l1In (e.bins.getD i 0) (-1) _) (fun _ => amC) rfl ?_
      (try refine am (h := ?_)); (try with_reducible apply True.intro)
      repeat' with_reducible first | refine And.intro ?_ ?_ | intro _
      all_goals try exact amA
      · refine FinK.val1 ?_ ?_
        all_goals (try refine amF (h := ?_))
        all_goals (try with_reducible apply True.intro)
        rename_i h4
        exact (decide_eq_false (fun e => h4 (e.2.2.2 i hlt))).symm
      · rename_i h4
        refine ⟨i + 1, ?_, ⟨by omega, fun j hj => ?_⟩, by omega⟩
        · refine Le.auto [] (r0 := ?r04) (ren := ?ren4) ?ea4 ?eb4 ?a4 ?b4 ?c4 ?d4 ?ho4 ?hn4 ?ht4
          case ea4 => exact amR
          case eb4 => exact amR
          case a4 => exact rfl
          case b4 => exact rfl
          case c4 => exact rfl
          case d4 => exact rfl
          all_goals (try refine amL (h := ?_))
          all_goals (try with_reducible apply True.intro)
        · by_cases e : j = i
          · rw [e]; exact h4
          · exact hi.2 j (by omega)
    · refine FinK.val1 ?_ ?_
      all_goals (try refine amF (h := ?_))
      all_goals (try with_reducible apply True.intro)
      exact (decide_eq_true ⟨hS, by omega, h3, fun j hj => hi.2 j (by omega)⟩).symm
end Go.AM
namespace Go.AM
open Go Go.Proofs
set_option maxRecDepth 100000
set_option maxHeartbeats 8000000 in
theorem pathTo1 (s : DSchema) (t : DTree) (e : DEx) (u v u' v' w : Bool) (h : okSchema (2 ^ 47) s) (h' : okTree (2 ^ 47) t) (he : okEx (2 ^ 47) e) (hT : treeOk s t) (hE : exOk s e) : ACalls Tryz.prog 84 [.agg (cSchema u v s), .agg (cTree u' v' t), .agg (cEx w false e)] (fun r => r = .val (.one (.sl true (some false) 1 (pathL s t e).length (fI (pathL s t e))))) := by
  have hl := h'.1.1
  have nt : Tryz.f84.ntmps = 49 := rfl
  have rs : Tryz.f84.results = #[.tmp 6] := rfl
  refine ACalls.of_run (m := 400) mixed Tryz.func84 rfl rfl (Nat.le_of_ble_eq_true rfl) ?_
  simp only [nt, rs]
  clear nt rs
  (try refine am (h := ?_)); (try with_reducible apply True.intro)
  repeat' with_reducible first | refine And.intro ?_ ?_ | intro _
  all_goals try exact amA
  refine LoopK.auto (Nat) (fun k => [(7, .one (.own 302 [] [0]))]) (fun k => [(302, ⟨.sl true (some false) 1 (k + 1) (fI (posL s t e (k + 1))), []⟩)]) [3, 4, 5] (k0 := ?k01) (keepH := ?kh1) 400 (fun k => ∀ j, j < k → leafAt s t e j = false) (fun k => t.nodes.length - pos s t e k) (0) ?kea1 ?keb1 ?_ ?_ ?_
  case kea1 => exact amN
  case keb1 => exact amN
  · intro j hj; omega
  · refine Le.auto [] (r0 := ?r01) (ren := ?ren1) ?ea1 ?eb1 ?a1 ?b1 ?c1 ?d1 ?ho1 ?hn1 ?ht1
    case ea1 => exact amR
    case eb1 => exact amR
    case a1 => exact rfl
    case b1 => exact rfl
    case c1 => exact rfl
    case d1 => exact rfl
    all_goals (try refine amL (h := ?_))
    all_goals (try with_reducible apply True.intro)
    refine ALe.of (.inr rfl) rfl (fun i hi j hj => ?_)
    obtain rfl : i = 0 := by omega
    obtain rfl : j = 0 := by omega
    rw [fI_at, posL_get (by omega)]
    exact .refl _
  · intro k hk
    have hp := pos_lt hT hE hk
    have hnl := hT.2.1
    have e1 : ((k : Int) + 1 - 1).toNat = k := by omega
    have e2 : (posL s t e (k + 1)).getD k 0 = (pos s t e k : Int) := posL_get (by omega)
    have hn := h'.1.2 _ (getD_mem (d := default) hp.2)
    have hL : (posL s t e (k + 1)).length = k + 1 := posL_len
    cases hlf : (t.nodes.getD (pos s t e k) default).leaf with
    | true =>
      (try refine am (h := ?_)); (try with_reducible apply True.intro)
      (try refine am (h := ?_)); (try simp only [e2]); (try refine am (h := ?_)); (try with_reducible apply True.intro)
      (try refine am (h := ?_)); (try simp only [hlf]); (try refine am (h := ?_)); (try with_reducible apply True.intro)
      repeat' with_reducible first | refine And.intro ?_ ?_ | intro _
      all_goals try exact amA
      refine FinK.val1 ?_ ?_
      all_goals (try refine amF (h := ?_))
      all_goals (try with_reducible apply True.intro)
      have eK := lastK_eq hT hE hk hlf
      unfold pathL
      rw [eK, posL_len]
      exact .refl _
    | false =>
      obtain ⟨g1, g2, g3, g4, g5, g6⟩ := walk_facts hT hE hp.2 hlf
      have hx : ¬ 0 ≤ e.bins.getD (t.nodes.getD (pos s t e k) default).fork.attr.toNat 0 ∨ brAt s e (t.nodes.getD (pos s t e k) default) = branchOf s (t.nodes.getD (pos s t e k) default).fork (e.bins.getD (t.nodes.getD (pos s t e k) default).fork.attr.toNat 0) := by
        by_cases hq : 0 ≤ e.bins.getD (t.nodes.getD (pos s t e k) default).fork.attr.toNat 0
        · exact .inr (if_pos hq)
        · exact .inl hq
      have hy : 0 ≤ e.bins.getD (t.nodes.getD (pos s t e k) default).fork.attr.toNat 0 ∨ brAt s e (t.nodes.getD (pos s t e k) default) = (t.nodes.getD (pos s t e k) default).miss := by
        by_cases hq : 0 ≤ e.bins.getD (t.nodes.getD (pos s t e k) default).fork.attr.toNat 0
        · exact .inl hq
        · exact .inr (if_neg hq)
      have hkl := hn.2.2.1.1
      have hbi : inK .i64 (e.bins.getD (t.nodes.getD (pos s t e k) default).fork.attr.toNat 0) := he.1.2 _ (getD_mem (by omega))
      (try refine am (h := ?_)); (try with_reducible apply True.intro)
      (try refine am (h := ?_)); (try simp only [e2]); (try refine am (h := ?_)); (try with_reducible apply True.intro)
      (try refine am (h := ?_)); (try simp only [hlf]); (try refine am (h := ?_)); (try with_reducible apply True.intro)
      repeat' with_reducible first | refine And.intro ?_ ?_ | intro _
      all_goals try exact amA
      · rename_i hq
        refine CallK.one (implBranchOf s (t.nodes.getD (pos s t e k) default).fork _ _ _ h hn.2.1 hbi) (fun _ => amC) ?_
        (try refine am (h := ?_)); (try with_reducible apply True.intro)
        have eb := hx.resolve_left (fun h => h hq)
        (try refine am (h := ?_)); (try simp only [← eb]); (try refine am (h := ?_)); (try with_reducible apply True.intro)
        repeat' with_reducible first | refine And.intro ?_ ?_ | intro _
        all_goals try exact amA
        refine ⟨k + 1, ?_, fun j hj => ?_, ?_⟩
        · refine Le.auto [] (r0 := ?r02) (ren := ?ren2) ?ea2 ?eb2 ?a2 ?b2 ?c2 ?d2 ?ho2 ?hn2 ?ht2
          case ea2 => exact amR
          case eb2 => exact amR
          case a2 => exact rfl
          case b2 => exact rfl
          case c2 => exact rfl
          case d2 => exact rfl
          all_goals (try refine amL (h := ?_))
          all_goals (try with_reducible apply True.intro)
          have ep := posL_succ (s := s) (t := t) (e := e) (k := k + 1)
          have := appLe1 (cs := cI) (d := 0) (l := posL s t e (k + 1)) (x := ((pos s t e (k + 1) : Nat) : Int)) (nl := some false) (nl' := some false) (es := 1) (ys := [.int .i64 ((t.nodes.getD (pos s t e k) default).kids.getD (brAt s e (t.nodes.getD (pos s t e k) default)).toNat 0)]) ep (by rw [g4]; rfl) (.inr rfl)
          rw [posL_len, posL_len] at this
          exact this
        · by_cases ej : j = k
          · rw [ej]; exact hlf
          · exact hk j (by omega)
        · rw [pos_succ]; omega
      · rename_i hq
        have eb := hy.resolve_left (fun h => hq h)
        refine ⟨k + 1, ?_, fun j hj => ?_, ?_⟩
        · refine Le.auto [] (r0 := ?r03) (ren := ?ren3) ?ea3 ?eb3 ?a3 ?b3 ?c3 ?d3 ?ho3 ?hn3 ?ht3
          case ea3 => exact amR
          case eb3 => exact amR
          case a3 => exact rfl
          case b3 => exact rfl
          case c3 => exact rfl
          case d3 => exact rfl
          all_goals (try refine amL (h := ?_))
          all_goals (try with_reducible apply True.intro)
          have ep := posL_succ (s := s) (t := t) (e := e) (k := k + 1)
          have := appLe1 (cs := cI) (d := 0) (l := posL s t e (k + 1)) (x := ((pos s t e (k + 1) : Nat) : Int)) (nl := some false) (nl' := some false) (es := 1) (ys := [.int .i64 ((t.nodes.getD (pos s t e k) default).kids.getD (t.nodes.getD (pos s t e k) default).miss.toNat 0)]) ep (by rw [← eb, g4]; rfl) (.inr rfl)
          rw [posL_len, posL_len] at this
          exact this
        · by_cases ej : j = k
          · rw [ej]; exact hlf
          · exact hk j (by omega)
        · rw [pos_succ]; omega
set_option maxHeartbeats 8000000 in
theorem specWalk (s : DSchema) (t : DTree) (e : DEx) (u v u' v' w : Bool) (h : okSchema (2 ^ 47) s) (h' : okTree (2 ^ 47) t) (he : okEx (2 ^ 47) e) (hT : treeOk s t) (hE : exOk s e) : ACalls Tryz.prog 216 [.agg (cSchema u v s), .agg (cTree u' v' t), .agg (cEx w false e)] (fun r => r = .val (.one (.sl true (some false) 1 (pathL s t e).length (fI (pathL s t e))))) := by
  have hl := h'.1.1
  have nt : Tryz.f216.ntmps = 58 := rfl
  have rs : Tryz.f216.results = #[.tmp 6] := rfl
  refine ACalls.of_run (m := 400) mixed Tryz.func216 rfl rfl (Nat.le_of_ble_eq_true rfl) ?_
  simp only [nt, rs]
  clear nt rs
  (try refine am (h := ?_)); (try with_reducible apply True.intro)
  repeat' with_reducible first | refine And.intro ?_ ?_ | intro _
  all_goals try exact amA
  refine LoopK.auto (Nat) (fun k => [(7, .one (.own 302 [] [0])), (8, .one (.av (.int .i64 (pos s t e k))))]) (fun k => [(302, ⟨.sl true (some false) 1 k (fI (posL s t e k)), []⟩)]) [3, 4, 5] (k0 := ?k02) (keepH := ?kh2) 400 (fun k => ∀ j, j < k → leafAt s t e j = false) (fun k => t.nodes.length - pos s t e k) (0) ?kea2 ?keb2 ?_ ?_ ?_
  case kea2 => exact amN
  case keb2 => exact amN
  · intro j hj; omega
  · refine Le.auto [] (r0 := ?r04) (ren := ?ren4) ?ea4 ?eb4 ?a4 ?b4 ?c4 ?d4 ?ho4 ?hn4 ?ht4
    case ea4 => exact amR
    case eb4 => exact amR
    case a4 => exact rfl
    case b4 => exact rfl
    case c4 => exact rfl
    case d4 => exact rfl
    all_goals (try refine amL (h := ?_))
    all_goals (try with_reducible apply True.intro)
    all_goals first | rfl | exact ALe.of (.inr rfl) rfl (fun i hi j hj => by omega)
  · intro k hk
    have hp := pos_lt hT hE hk
    have hnl := hT.2.1
    have hn := h'.1.2 _ (getD_mem (d := default) hp.2)
    have hL : (posL s t e k).length = k := posL_len
    cases hlf : (t.nodes.getD (pos s t e k) default).leaf with
    | true =>
      (try refine am (h := ?_)); (try with_reducible apply True.intro)
      (try refine am (h := ?_)); (try simp only [hlf]); (try refine am (h := ?_)); (try with_reducible apply True.intro)
      repeat' with_reducible first | refine And.intro ?_ ?_ | intro _
      all_goals try exact amA
      refine FinK.val1 ?_ ?_
      all_goals (try refine amF (h := ?_))
      all_goals (try with_reducible apply True.intro)
      have eK := lastK_eq hT hE hk hlf
      unfold pathL
      rw [eK, posL_len]
      have := appLe1 (cs := cI) (d := 0) (l := posL s t e k) (x := ((pos s t e k : Nat) : Int)) (nl := some false) (nl' := some false) (es := 1) (ys := [.int .i64 ((pos s t e k : Nat) : Int)]) posL_succ rfl (.inr rfl)
      rw [posL_len, posL_len] at this
      exact this
    | false =>
      obtain ⟨g1, g2, g3, g4, g5, g6⟩ := walk_facts hT hE hp.2 hlf
      have hx : ¬ 0 ≤ e.bins.getD (t.nodes.getD (pos s t e k) default).fork.attr.toNat 0 ∨ brAt s e (t.nodes.getD (pos s t e k) default) = branchOf s (t.nodes.getD (pos s t e k) default).fork (e.bins.getD (t.nodes.getD (pos s t e k) default).fork.attr.toNat 0) := by
        by_cases hq : 0 ≤ e.bins.getD (t.nodes.getD (pos s t e k) default).fork.attr.toNat 0
        · exact .inr (if_pos hq)
        · exact .inl hq
      have hy : 0 ≤ e.bins.getD (t.nodes.getD (pos s t e k) default).fork.attr.toNat 0 ∨ brAt s e (t.nodes.getD (pos s t e k) default) = (t.nodes.getD (pos s t e k) default).miss := by
        by_cases hq : 0 ≤ e.bins.getD (t.nodes.getD (pos s t e k) default).fork.attr.toNat 0
        · exact .inl hq
        · exact .inr (if_neg hq)
      have hkl := hn.2.2.1.1
      have hbi : inK .i64 (e.bins.getD (t.nodes.getD (pos s t e k) default).fork.attr.toNat 0) := he.1.2 _ (getD_mem (by omega))
      (try refine am (h := ?_)); (try with_reducible apply True.intro)
      (try refine am (h := ?_)); (try simp only [hlf]); (try refine am (h := ?_)); (try with_reducible apply True.intro)
      repeat' with_reducible first | refine And.intro ?_ ?_ | intro _
      all_goals try exact amA
      · rename_i hq
        refine CallE.one (specBranchOf s (t.nodes.getD (pos s t e k) default).fork _ _ _ h hn.2.1 hbi) (fun _ => amC) rfl ?_
        (try refine am (h := ?_)); (try with_reducible apply True.intro)
        have eb := hx.resolve_left (fun h => h hq)
        (try refine am (h := ?_)); (try simp only [← eb]); (try refine am (h := ?_)); (try with_reducible apply True.intro)
        repeat' with_reducible first | refine And.intro ?_ ?_ | intro _
        all_goals try exact amA
        refine ⟨k + 1, ?_, fun j hj => ?_, ?_⟩
        · refine Le.auto [] (r0 := ?r05) (ren := ?ren5) ?ea5 ?eb5 ?a5 ?b5 ?c5 ?d5 ?ho5 ?hn5 ?ht5
          case ea5 => exact amR
          case eb5 => exact amR
          case a5 => exact rfl
          case b5 => exact rfl
          case c5 => exact rfl
          case d5 => exact rfl
          all_goals (try refine amL (h := ?_))
          all_goals (try with_reducible apply True.intro)
          all_goals first
            | exact g4
            | (have := appLe1 (cs := cI) (d := 0) (l := posL s t e k) (x := ((pos s t e k : Nat) : Int)) (nl := some false) (nl' := some false) (es := 1) (ys := [.int .i64 ((pos s t e k : Nat) : Int)]) posL_succ rfl (.inr rfl)
               rw [posL_len, posL_len] at this
               exact this)
        · by_cases ej : j = k
          · rw [ej]; exact hlf
          · exact hk j (by omega)
        · rw [pos_succ]; omega
      · rename_i hq
        have eb := hy.resolve_left (fun h => hq h)
        refine ⟨k + 1, ?_, fun j hj => ?_, ?_⟩
        · refine Le.auto [] (r0 := ?r06) (ren := ?ren6) ?ea6 ?eb6 ?a6 ?b6 ?c6 ?d6 ?ho6 ?hn6 ?ht6
          case ea6 => exact amR
          case eb6 => exact amR
          case a6 => exact rfl
          case b6 => exact rfl
          case c6 => exact rfl
          case d6 => exact rfl
          all_goals (try refine amL (h := ?_))
          all_goals (try with_reducible apply True.intro)
          all_goals first
            | (rw [← eb]; exact g4)
            | (have := appLe1 (cs := cI) (d := 0) (l := posL s t e k) (x := ((pos s t e k : Nat) : Int)) (nl := some false) (nl' := some false) (es := 1) (ys := [.int .i64 ((pos s t e k : Nat) : Int)]) posL_succ rfl (.inr rfl)
               rw [posL_len, posL_len] at this
               exact this)
        · by_cases ej : j = k
          · rw [ej]; exact hlf
          · exact hk j (by omega)
        · rw [pos_succ]; omega
end Go.AM
namespace Go.AM
open Go Go.Proofs
set_option maxRecDepth 100000
theorem lastK_ex {s : DSchema} {t : DTree} {e : DEx} (ht : treeOk s t) (he : exOk s e) : (∀ j, j < lastK s t e → leafAt s t e j = false) ∧ leafAt s t e (lastK s t e) = true ∧ ∀ j, j ≤ lastK s t e → pos s t e j < t.nodes.length := by
  have key : ∃ k, (∀ j, j < k → leafAt s t e j = false) ∧ leafAt s t e k = true := by
    by_cases h : ∃ k, (∀ j, j < k → leafAt s t e j = false) ∧ leafAt s t e k = true
    · exact h
    · have all : ∀ k j, j < k → leafAt s t e j = false := by
        intro k
        induction k with
        | zero => intro j hj; omega
        | succ k ih =>
          intro j hj
          by_cases ej : j < k
          · exact ih j ej
          · have e2 : j = k := by omega
            cases hl : leafAt s t e j with
            | false => rfl
            | true => exact absurd ⟨k, ih, by rw [← e2]; exact hl⟩ h
      have := pos_lt ht he (all t.nodes.length)
      omega
  obtain ⟨k, h1, h2⟩ := key
  rw [lastK_eq ht he h1 h2]
  exact ⟨h1, h2, fun j hj => (pos_lt ht he (fun i hi => h1 i (by omega))).2⟩
def routeTo (s : DSchema) (t : DTree) (e : DEx) : Int := if treeOk s t ∧ exOk s e then (pos s t e (lastK s t e) : Int) else -1
set_option maxHeartbeats 8000000 in
theorem implPathTo (s : DSchema) (t : DTree) (e : DEx) (u v u' v' w : Bool) (h : okSchema (2 ^ 47) s) (h' : okTree (2 ^ 47) t) (he : okEx (2 ^ 47) e) (hTE : treeOk s t ∧ exOk s e) : ACalls Tryz.prog 26 [.agg (cSchema u v s), .agg (cTree u' v' t), .agg (cEx w false e)] (fun r => r = .val (.one (.sl true (some false) 1 (pathL s t e).length (fI (pathL s t e))))) := by
  have nt : Tryz.f26.ntmps = 21 := rfl
  have rs : Tryz.f26.results = #[.tmp 6] := rfl
  refine ACalls.of_run (m := 400) mixed Tryz.func26 rfl rfl (Nat.le_of_ble_eq_true rfl) ?_
  simp only [nt, rs]
  clear nt rs
  (try refine am (h := ?_)); (try with_reducible apply True.intro)
  repeat' with_reducible first | refine And.intro ?_ ?_ | intro _
  all_goals try exact amA
  refine CallK.one (implTreeOk s t _ _ _ _ h h') (fun _ => amC) ?_
  (try refine am (h := ?_)); (try with_reducible apply True.intro)
  repeat' with_reducible first | refine And.intro ?_ ?_ | intro _
  all_goals try exact amA
  refine CallG.one rfl (fun hg => implExOk s e _ _ _ h he) ?_
  (try refine am (h := ?_)); (try with_reducible apply True.intro)
  repeat' with_reducible first | refine And.intro ?_ ?_ | intro _
  all_goals try exact amA
  · rename_i h1
    exfalso
    rcases h1 with h1 | h1
    · exact h1 hTE.1
    · exact h1 hTE.2
  refine CallK.one (pathTo1 s t e _ _ _ _ _ h h' he hTE.1 hTE.2) (fun _ => amC) ?_
  (try refine am (h := ?_)); (try with_reducible apply True.intro)
  refine FinK.val1 ?_ ?_
  all_goals (try refine amF (h := ?_))
  all_goals (try with_reducible apply True.intro)
set_option maxHeartbeats 8000000 in
theorem implPathTo0 (s : DSchema) (t : DTree) (e : DEx) (u v u' v' w : Bool) (h : okSchema (2 ^ 47) s) (h' : okTree (2 ^ 47) t) (he : okEx (2 ^ 47) e) (hTE : ¬ (treeOk s t ∧ exOk s e)) : ACalls Tryz.prog 26 [.agg (cSchema u v s), .agg (cTree u' v' t), .agg (cEx w false e)] (fun r => r = .val (.one (nilAV))) := by
  have nt : Tryz.f26.ntmps = 21 := rfl
  have rs : Tryz.f26.results = #[.tmp 6] := rfl
  refine ACalls.of_run (m := 400) mixed Tryz.func26 rfl rfl (Nat.le_of_ble_eq_true rfl) ?_
  simp only [nt, rs]
  clear nt rs
  (try refine am (h := ?_)); (try with_reducible apply True.intro)
  repeat' with_reducible first | refine And.intro ?_ ?_ | intro _
  all_goals try exact amA
  refine CallK.one (implTreeOk s t _ _ _ _ h h') (fun _ => amC) ?_
  (try refine am (h := ?_)); (try with_reducible apply True.intro)
  repeat' with_reducible first | refine And.intro ?_ ?_ | intro _
  all_goals try exact amA
  refine CallG.one rfl (fun hg => implExOk s e _ _ _ h he) ?_
  (try refine am (h := ?_)); (try with_reducible apply True.intro)
  repeat' with_reducible first | refine And.intro ?_ ?_ | intro _
  all_goals try exact amA
  · refine FinK.val1 ?_ ?_
    all_goals (try refine amF (h := ?_))
    all_goals (try with_reducible apply True.intro)
    all_goals first | done | exact ALe.of (.inr rfl) rfl (fun i hi => by omega)
  · rename_i h1
    exact absurd h1 hTE
set_option maxHeartbeats 8000000 in
theorem implRouteTo (s : DSchema) (t : DTree) (e : DEx) (u v u' v' w : Bool) (h : okSchema (2 ^ 47) s) (h' : okTree (2 ^ 47) t) (he : okEx (2 ^ 47) e) : ACalls Tryz.prog 27 [.agg (cSchema u v s), .agg (cTree u' v' t), .agg (cEx w false e)] (fun r => r = .val (.one (.int .i64 (routeTo s t e)))) := by
  by_cases hTE : treeOk s t ∧ exOk s e
  · have er : routeTo s t e = (pos s t e (lastK s t e) : Int) := if_pos hTE
    rw [er]
    have hl : (pathL s t e).length = lastK s t e + 1 := posL_len
    have hk := (lastK_ex hTE.1 hTE.2).2.2 _ (Nat.le_refl _)
    have hp := (pos_lt hTE.1 hTE.2 (lastK_ex hTE.1 hTE.2).1).1
    have hn := hTE.1.2.1
    have e1 : (((pathL s t e).length : Int) - 1).toNat = lastK s t e := by omega
    have e2 : (pathL s t e).getD (lastK s t e) 0 = (pos s t e (lastK s t e) : Int) := posL_get (by omega)
    have nt : Tryz.f27.ntmps = 21 := rfl
    have rs : Tryz.f27.results = #[.tmp 6] := rfl
    refine ACalls.of_run (m := 400) mixed Tryz.func27 rfl rfl (Nat.le_of_ble_eq_true rfl) ?_
    simp only [nt, rs]
    clear nt rs
    (try refine am (h := ?_)); (try with_reducible apply True.intro)
    repeat' with_reducible first | refine And.intro ?_ ?_ | intro _
    all_goals try exact amA
    refine CallK.one (implPathTo s t e _ _ _ _ _ h h' he hTE) (fun _ => amC) ?_
    (try refine am (h := ?_)); (try with_reducible apply True.intro)
    (try refine am (h := ?_)); (try simp only [e1]); (try refine am (h := ?_)); (try with_reducible apply True.intro)
    repeat' with_reducible first | refine And.intro ?_ ?_ | intro _
    all_goals try exact amA
    refine FinK.val1 ?_ ?_
    all_goals (try refine amF (h := ?_))
    all_goals (try with_reducible apply True.intro)
    exact e2
  · have er : routeTo s t e = -1 := if_neg hTE
    rw [er]
    have nt : Tryz.f27.ntmps = 21 := rfl
    have rs : Tryz.f27.results = #[.tmp 6] := rfl
    refine ACalls.of_run (m := 400) mixed Tryz.func27 rfl rfl (Nat.le_of_ble_eq_true rfl) ?_
    simp only [nt, rs]
    clear nt rs
    (try refine am (h := ?_)); (try with_reducible apply True.intro)
    repeat' with_reducible first | refine And.intro ?_ ?_ | intro _
    all_goals try exact amA
    refine CallK.one (implPathTo0 s t e _ _ _ _ _ h h' he hTE) (fun _ => amC) ?_
    (try refine am (h := ?_)); (try with_reducible apply True.intro)
    repeat' with_reducible first | refine And.intro ?_ ?_ | intro _
    all_goals try exact amA
    refine FinK.val1 ?_ ?_
    all_goals (try refine amF (h := ?_))
    all_goals (try with_reducible apply True.intro)
set_option maxHeartbeats 8000000 in
theorem specPathTo (s : DSchema) (t : DTree) (e : DEx) (u v u' v' w : Bool) (h : okSchema (2 ^ 47) s) (h' : okTree (2 ^ 47) t) (he : okEx (2 ^ 47) e) (hTE : treeOk s t ∧ exOk s e) : ACalls Tryz.prog 204 [.agg (cSchema u v s), .agg (cTree u' v' t), .agg (cEx w false e)] (fun r => r = .val (.one (.sl true (some false) 1 (pathL s t e).length (fI (pathL s t e))))) := by
  have nt : Tryz.f204.ntmps = 22 := rfl
  have rs : Tryz.f204.results = #[.tmp 6] := rfl
  refine ACalls.of_run (m := 400) mixed Tryz.func204 rfl rfl (Nat.le_of_ble_eq_true rfl) ?_
  simp only [nt, rs]
  clear nt rs
  (try refine am (h := ?_)); (try with_reducible apply True.intro)
  repeat' with_reducible first | refine And.intro ?_ ?_ | intro _
  all_goals try exact amA
  refine CallK.one (specTreeOk s t _ _ _ _ h h') (fun _ => amC) ?_
  (try refine am (h := ?_)); (try with_reducible apply True.intro)
  repeat' with_reducible first | refine And.intro ?_ ?_ | intro _
  all_goals try exact amA
  refine CallG.one rfl (fun hg => specExOk s e _ _ _ h he) ?_
  (try refine am (h := ?_)); (try with_reducible apply True.intro)
  repeat' with_reducible first | refine And.intro ?_ ?_ | intro _
  all_goals try exact amA
  · rename_i h1
    exfalso
    rcases h1 with h1 | h1
    · exact h1 hTE.1
    · exact h1 hTE.2
  refine CallK.one (specWalk s t e _ _ _ _ _ h h' he hTE.1 hTE.2) (fun _ => amC) ?_
  (try refine am (h := ?_)); (try with_reducible apply True.intro)
  refine FinK.val1 ?_ ?_
  all_goals (try refine amF (h := ?_))
  all_goals (try with_reducible apply True.intro)
set_option maxHeartbeats 8000000 in
theorem specPathTo0 (s : DSchema) (t : DTree) (e : DEx) (u v u' v' w : Bool) (h : okSchema (2 ^ 47) s) (h' : okTree (2 ^ 47) t) (he : okEx (2 ^ 47) e) (hTE : ¬ (treeOk s t ∧ exOk s e)) : ACalls Tryz.prog 204 [.agg (cSchema u v s), .agg (cTree u' v' t), .agg (cEx w false e)] (fun r => r = .val (.one (.sl true (some false) 1 0 (fI [])))) := by
  have nt : Tryz.f204.ntmps = 22 := rfl
  have rs : Tryz.f204.results = #[.tmp 6] := rfl
  refine ACalls.of_run (m := 400) mixed Tryz.func204 rfl rfl (Nat.le_of_ble_eq_true rfl) ?_
  simp only [nt, rs]
  clear nt rs
  (try refine am (h := ?_)); (try with_reducible apply True.intro)
  repeat' with_reducible first | refine And.intro ?_ ?_ | intro _
  all_goals try exact amA
  refine CallK.one (specTreeOk s t _ _ _ _ h h') (fun _ => amC) ?_
  (try refine am (h := ?_)); (try with_reducible apply True.intro)
  repeat' with_reducible first | refine And.intro ?_ ?_ | intro _
  all_goals try exact amA
  refine CallG.one rfl (fun hg => specExOk s e _ _ _ h he) ?_
  (try refine am (h := ?_)); (try with_reducible apply True.intro)
  repeat' with_reducible first | refine And.intro ?_ ?_ | intro _
  all_goals try exact amA
  · refine FinK.val1 ?_ ?_
    all_goals (try refine amF (h := ?_))
    all_goals (try with_reducible apply True.intro)
    all_goals first | done | exact ALe.of (.inr rfl) rfl (fun i hi => by omega)
  · rename_i h1
    exact absurd h1 hTE
set_option maxHeartbeats 8000000 in
theorem specRouteTo (s : DSchema) (t : DTree) (e : DEx) (u v u' v' w : Bool) (h : okSchema (2 ^ 47) s) (h' : okTree (2 ^ 47) t) (he : okEx (2 ^ 47) e) : ACalls Tryz.prog 192 [.agg (cSchema u v s), .agg (cTree u' v' t), .agg (cEx w false e)] (fun r => r = .val (.one (.int .i64 (routeTo s t e)))) := by
  by_cases hTE : treeOk s t ∧ exOk s e
  · have er : routeTo s t e = (pos s t e (lastK s t e) : Int) := if_pos hTE
    rw [er]
    have hl : (pathL s t e).length = lastK s t e + 1 := posL_len
    have hk := (lastK_ex hTE.1 hTE.2).2.2 _ (Nat.le_refl _)
    have hp := (pos_lt hTE.1 hTE.2 (lastK_ex hTE.1 hTE.2).1).1
    have hn := hTE.1.2.1
    have e1 : (((pathL s t e).length : Int) - 1).toNat = lastK s t e := by omega
    have e2 : (pathL s t e).getD (lastK s t e) 0 = (pos s t e (lastK s t e) : Int) := posL_get (by omega)
    have nt : Tryz.f192.ntmps = 21 := rfl
    have rs : Tryz.f192.results = #[.tmp 6] := rfl
    refine ACalls.of_run (m := 400) mixed Tryz.func192 rfl rfl (Nat.le_of_ble_eq_true rfl) ?_
    simp only [nt, rs]
    clear nt rs
    (try refine am (h := ?_)); (try with_reducible apply True.intro)
    repeat' with_reducible first | refine And.intro ?_ ?_ | intro _
    all_goals try exact amA
    refine CallK.one (specPathTo s t e _ _ _ _ _ h h' he hTE) (fun _ => amC) ?_
    (try refine am (h := ?_)); (try with_reducible apply True.intro)
    (try refine am (h := ?_)); (try simp only [e1]); (try refine am (h := ?_)); (try with_reducible apply True.intro)
    repeat' with_reducible first | refine And.intro ?_ ?_ | intro _
    all_goals try exact amA
    refine FinK.val1 ?_ ?_
    all_goals (try refine amF (h := ?_))
    all_goals (try with_reducible apply True.intro)
    exact e2
  · have er : routeTo s t e = -1 := if_neg hTE
    rw [er]
    have nt : Tryz.f192.ntmps = 21 := rfl
    have rs : Tryz.f192.results = #[.tmp 6] := rfl
    refine ACalls.of_run (m := 400) mixed Tryz.func192 rfl rfl (Nat.le_of_ble_eq_true rfl) ?_
    simp only [nt, rs]
    clear nt rs
    (try refine am (h := ?_)); (try with_reducible apply True.intro)
    repeat' with_reducible first | refine And.intro ?_ ?_ | intro _
    all_goals try exact amA
    refine CallK.one (specPathTo0 s t e _ _ _ _ _ h h' he hTE) (fun _ => amC) ?_
    (try refine am (h := ?_)); (try with_reducible apply True.intro)
    repeat' with_reducible first | refine And.intro ?_ ?_ | intro _
    all_goals try exact amA
    refine FinK.val1 ?_ ?_
    all_goals (try refine amF (h := ?_))
    all_goals (try with_reducible apply True.intro)
end Go.AM
namespace Go.AM
open Go Go.Proofs
set_option maxRecDepth 100000
theorem step_facts {s : DSchema} {t : DTree} {e : DEx} (ht : treeOk s t) (he : exOk s e) {k : Nat} (hk : k < lastK s t e) :
    (t.nodes.getD (pos s t e k) default).leaf = false ∧ pos s t e k < t.nodes.length ∧ pos s t e (k + 1) < t.nodes.length ∧ (t.nodes.getD (pos s t e (k + 1)) default).up = (pos s t e k : Int) ∧ (t.nodes.getD (pos s t e (k + 1)) default).depth = (t.nodes.getD (pos s t e k) default).depth + 1 := by
  obtain ⟨h1, h2, h3⟩ := lastK_ex ht he
  have hl : (t.nodes.getD (pos s t e k) default).leaf = false := h1 k hk
  have hi := h3 k (by omega)
  obtain ⟨w1, w2, w3, w4, w5, w6⟩ := walk_facts ht he hi hl
  have hn := (ht.2.2.2 _ hi).1.2
  rw [if_neg (by rw [hl]; simp)] at hn
  have hkid := (hn.2.2.2.2.2.2 (brAt s e (t.nodes.getD (pos s t e k) default)).toNat (by omega)).2
  rw [w4, Int.toNat_natCast] at hkid
  have hlink := (ht.2.2.2 _ w6).2
  unfold linkOk at hlink
  rw [if_neg (by omega)] at hlink
  obtain ⟨_, _, _, q, _⟩ := hlink
  rw [hkid, Int.toNat_natCast] at q
  rw [pos_succ]
  exact ⟨hl, hi, w6, hkid, by omega⟩
theorem pos_depth {s : DSchema} {t : DTree} {e : DEx} (ht : treeOk s t) (he : exOk s e) : ∀ {k : Nat}, k ≤ lastK s t e → (t.nodes.getD (pos s t e k) default).depth = (k : Int)
  | 0, _ => by
    have hl := (ht.2.2.2 0 (by have := ht.2.1; omega)).2
    unfold linkOk at hl
    rw [if_pos rfl] at hl
    show (t.nodes.getD 0 default).depth = 0
    exact hl.2.1
  | k + 1, hk => by
    have ih := pos_depth ht he (k := k) (by omega)
    have := (step_facts ht he (k := k) (by omega)).2.2.2.2
    omega
theorem depthUp_le {l : List DNode} : ∀ {d : Int}, d ≤ depthUp d l ∧ ∀ n ∈ l, n.depth ≤ depthUp d l := by
  induction l with
  | nil => intro d; exact ⟨Int.le_refl _, fun n hn => by simp at hn⟩
  | cons x l ih =>
    intro d
    have h := ih (d := if x.depth > d then x.depth else d)
    have e : depthUp d (x :: l) = depthUp (if x.depth > d then x.depth else d) l := rfl
    rw [e]
    refine ⟨?_, fun n hn => ?_⟩
    · have := h.1
      split at this <;> split <;> omega
    · rcases List.mem_cons.1 hn with rfl | hn
      · have := h.1
        split at this <;> split <;> omega
      · exact h.2 n hn
theorem depthOf_ge {t : DTree} {i : Nat} (hi : i < t.nodes.length) : (t.nodes.getD i default).depth ≤ depthOf t := depthUp_le.2 _ (getD_mem hi)
def cntI (x : Int) : List Int → Nat
  | [] => 0
  | y :: l => (if y = x then 1 else 0) + cntI x l
theorem cntI_app (x : Int) : ∀ (l m : List Int), cntI x (l ++ m) = cntI x l + cntI x m
  | [], m => by simp [cntI]
  | y :: l, m => by simp only [List.cons_append, cntI, cntI_app x l m]; omega
theorem cntI_le (x : Int) : ∀ (l : List Int), cntI x l ≤ l.length
  | [] => Nat.le_refl _
  | y :: l => by have := cntI_le x l; simp only [cntI, List.length_cons]; split <;> omega
theorem cntI_take {x : Int} {l : List Int} {i : Nat} (h : i < l.length) : cntI x (l.take (i + 1)) = cntI x (l.take i) + if l.getD i 0 = x then 1 else 0 := by
  rw [List.take_add_one, cntI_app]
  simp [List.getD, h, cntI]
theorem cnt_ixs {p : DNode → Bool} {l : List DNode} {j : Nat} : ∀ n, cntI (j : Int) (ixs p l n) = if j < n ∧ p (l.getD j default) = true then 1 else 0
  | 0 => by simp [ixs, cntI]
  | n + 1 => by
    rw [ixs_succ]
    have ih := cnt_ixs (p := p) (l := l) (j := j) n
    by_cases hp : p (l.getD n default) = true
    · rw [if_pos hp, cntI_app, ih]
      simp only [cntI]
      by_cases e : n = j
      · subst e
        rw [if_neg (fun q : n < n ∧ p (l.getD n default) = true => Nat.lt_irrefl _ q.1), if_pos rfl, if_pos ⟨Nat.lt_succ_self _, hp⟩]
      · rw [if_neg (show ¬ ((n : Int) = (j : Int)) by omega)]
        by_cases h : j < n ∧ p (l.getD j default) = true
        · rw [if_pos h, if_pos ⟨by omega, h.2⟩]
        · rw [if_neg h, if_neg (fun q => h ⟨by omega, q.2⟩)]
    · rw [if_neg hp, ih]
      by_cases h : j < n ∧ p (l.getD j default) = true
      · rw [if_pos h, if_pos ⟨by omega, h.2⟩]
      · rw [if_neg h, if_neg (fun q => by
          by_cases e : j = n
          · subst e; exact hp q.2
          · exact h ⟨by omega, q.2⟩)]
set_option maxHeartbeats 8000000 in
theorem lawsTimes (l : List Int) (x : Int) (u : Bool) (nl : Option Bool) (hl : l.length ≤ 2 ^ 40) : ACalls Tryz.prog 29 [.one (.sl u nl 1 l.length (fI l)), .one (.int .i64 x)] (fun r => r = .val (.one (.int .i64 (cntI x l)))) := by
  have nt : Tryz.f29.ntmps = 22 := rfl
  have rs : Tryz.f29.results = #[.tmp 4] := rfl
  refine ACalls.of_run (m := 400) mixed Tryz.func29 rfl rfl (Nat.le_of_ble_eq_true rfl) ?_
  simp only [nt, rs]
  clear nt rs
  (try refine am (h := ?_)); (try with_reducible apply True.intro)
  repeat' with_reducible first | refine And.intro ?_ ?_ | intro _
  all_goals try exact amA
  refine LoopK.auto (Nat) (fun i => [(5, .one (.av (.int .i64 (cntI x (l.take i))))), (6, .one (.av (.int .i64 i)))]) (fun i => []) [0, 1] (k0 := ?k01) (keepH := ?kh1) 400 (fun i => i ≤ l.length) (fun i => l.length - i) (0) ?kea1 ?keb1 ?_ ?_ ?_
  case kea1 => exact amN
  case keb1 => exact amN
  · exact Nat.zero_le _
  · refine Le.auto [] (r0 := ?r01) (ren := ?ren1) ?ea1 ?eb1 ?a1 ?b1 ?c1 ?d1 ?ho1 ?hn1 ?ht1
    case ea1 => exact amR
    case eb1 => exact amR
    case a1 => exact rfl
    case b1 => exact rfl
    case c1 => exact rfl
    case d1 => exact rfl
    all_goals (try refine amL (h := ?_))
    all_goals (try with_reducible apply True.intro)
    first | done | rfl
  · intro i hi
    have h1 := cntI_le x (l.take i)
    have h2 : (l.take i).length ≤ l.length := by simp; omega
    (try refine am (h := ?_)); (try with_reducible apply True.intro)
    repeat' with_reducible first | refine And.intro ?_ ?_ | intro _
    all_goals try exact amA
    · have h3 := cntI_take (x := x) (l := l) (i := i) (by assumption)
      rename_i h4 h5
      rw [if_pos h5] at h3
      refine ⟨i + 1, ?_, by omega, by omega⟩
      refine Le.auto [] (r0 := ?r02) (ren := ?ren2) ?ea2 ?eb2 ?a2 ?b2 ?c2 ?d2 ?ho2 ?hn2 ?ht2
      case ea2 => exact amR
      case eb2 => exact amR
      case a2 => exact rfl
      case b2 => exact rfl
      case c2 => exact rfl
      case d2 => exact rfl
      all_goals (try refine amL (h := ?_))
      all_goals (try with_reducible apply True.intro)
      omega
    · have h3 := cntI_take (x := x) (l := l) (i := i) (by assumption)
      rename_i h4 h5
      rw [if_neg h5] at h3
      refine ⟨i + 1, ?_, by omega, by omega⟩
      refine Le.auto [] (r0 := ?r03) (ren := ?ren3) ?ea3 ?eb3 ?a3 ?b3 ?c3 ?d3 ?ho3 ?hn3 ?ht3
      case ea3 => exact amR
      case eb3 => exact amR
      case a3 => exact rfl
      case b3 => exact rfl
      case c3 => exact rfl
      case d3 => exact rfl
      all_goals (try refine amL (h := ?_))
      all_goals (try with_reducible apply True.intro)
      omega
    · refine FinK.val1 ?_ ?_
      all_goals (try refine amF (h := ?_))
      all_goals (try with_reducible apply True.intro)
      have : i = l.length := by omega
      rw [this, List.take_length]
end Go.AM
