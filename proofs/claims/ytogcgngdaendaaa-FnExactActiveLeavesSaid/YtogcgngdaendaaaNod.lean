/- Lemmas for the proof of this claim. -/
import Derived.Test.YtogcgngdaendaaaFam
namespace Go.AM
open Go Go.Proofs
set_option maxRecDepth 100000
/-- The places of a list where p holds, among the first n. -/
def ixs {α : Type} [Inhabited α] (p : α → Bool) (l : List α) (n : Nat) : List Int := ((List.range n).filter fun i => p (l.getD i default)).map fun (i : Nat) => (i : Int)
theorem ixs_succ {α : Type} [Inhabited α] (p : α → Bool) (l : List α) (n : Nat) : ixs p l (n + 1) = if p (l.getD n default) = true then ixs p l n ++ [(n : Int)] else ixs p l n := by
  unfold ixs
  rw [List.range_succ, List.filter_append, List.map_append]
  by_cases h : p (l.getD n default) = true
  · rw [List.filter_cons, if_pos h, if_pos h]; rfl
  · rw [List.filter_cons, if_neg h, if_neg h, List.filter_nil, List.map_nil, List.append_nil]
theorem ixs_len {α : Type} [Inhabited α] (p : α → Bool) (l : List α) (n : Nat) : (ixs p l n).length ≤ n := by
  unfold ixs
  rw [List.length_map]
  have := List.length_filter_le (fun i => p (l.getD i default)) (List.range n)
  rwa [List.length_range] at this
theorem ixs_mem {α : Type} [Inhabited α] {p : α → Bool} {l : List α} {n : Nat} {x : Int} (h : x ∈ ixs p l n) : ∃ i : Nat, x = i ∧ i < n ∧ p (l.getD i default) = true := by
  unfold ixs at h
  obtain ⟨i, h1, rfl⟩ := List.mem_map.1 h
  obtain ⟨h2, h3⟩ := List.mem_filter.1 h1
  exact ⟨i, rfl, List.mem_range.1 h2, h3⟩
def actB (n : DNode) : Bool := n.leaf && decide (0 < n.stats.cells.length)
def activeL (t : DTree) : List Int := ixs actB t.nodes t.nodes.length
set_option maxHeartbeats 4000000 in
theorem active1 (n : DNode) (u v : Bool) (h : okNode (2 ^ 47) n) : ACalls Try.prog 81 [.agg (cNode u v n)] (fun r => r = .val (.one (.bool (actB n)))) := by
  have hc := h.2.2.2.2.1.2.1
  have nt : Try.f81.ntmps = 12 := rfl
  have rs : Try.f81.results = #[.tmp 2] := rfl
  refine ACalls.of_run (m := 400) mixed Try.func81 rfl rfl (Nat.le_of_ble_eq_true rfl) ?_
  simp only [nt, rs]
  clear nt rs
  (try refine am (h := ?_)); (try with_reducible apply True.intro)
  repeat' (first | (with_reducible refine And.intro ?_ ?_) | (with_reducible intro _))
  all_goals try (first | omega | with_reducible rfl | ((with_reducible refine eqId ?_); exact rfl) | with_reducible assumption | (with_reducible exact And.left (by assumption)) | (with_reducible exact And.right (by assumption)) | (with_reducible exact And.left (And.right (by assumption))) | (with_reducible exact And.left (And.left (by assumption))) | (with_reducible exact And.right (And.left (by assumption))) | (with_reducible exact And.left (And.left (And.left (by assumption)))) | (with_reducible exact And.right (And.left (And.left (by assumption)))))
  refine FinK.val1 ?_ ?_
  all_goals (try refine amF (h := ?_))
  all_goals (try with_reducible apply True.intro)
  unfold actB
  simp
set_option maxHeartbeats 4000000 in
theorem nodesWith1 (t : DTree) (p : DNode → Bool) (f : FuncId) (g : Nat → AV) (u v : Bool) (hl : t.nodes.length ≤ 2 ^ 43) (hf : ∀ n ∈ t.nodes, ACalls Try.prog f [.agg (cNode false v n)] (fun r => r = .val (.one (.bool (p n))))) : ACalls Try.prog 77 [.agg (cTree u v t), .one (.fn (.func f) 0 g)] (fun r => r = .val (.one (aI true (ixs p t.nodes t.nodes.length)))) := by
  have nt : Try.f77.ntmps = 26 := rfl
  have rs : Try.f77.results = #[.tmp 4] := rfl
  refine ACalls.of_run (m := 400) mixed Try.func77 rfl rfl (Nat.le_of_ble_eq_true rfl) ?_
  simp only [nt, rs]
  clear nt rs
  (try refine am (h := ?_)); (try with_reducible apply True.intro)
  repeat' (first | (with_reducible refine And.intro ?_ ?_) | (with_reducible intro _))
  all_goals try (first | omega | with_reducible rfl | ((with_reducible refine eqId ?_); exact rfl) | with_reducible assumption | (with_reducible exact And.left (by assumption)) | (with_reducible exact And.right (by assumption)) | (with_reducible exact And.left (And.right (by assumption))) | (with_reducible exact And.left (And.left (by assumption))) | (with_reducible exact And.right (And.left (by assumption))) | (with_reducible exact And.left (And.left (And.left (by assumption)))) | (with_reducible exact And.right (And.left (And.left (by assumption)))))
  refine LoopK.auto (Nat) (fun i => [(12, .one (.av (.int .i64 i))), (5, .one (.own 302 [] [0]))]) (fun i => [(302, ⟨.sl true none 1 (ixs p t.nodes i).length (fI (ixs p t.nodes i)), []⟩)]) [1, 10, 11] (k0 := ?k01) (keepH := ?kh1) 400 (fun i => i ≤ t.nodes.length) (fun i => t.nodes.length - i) (0) ?kea1 ?keb1 ?_ ?_ ?_
  case kea1 => exact amN
  case keb1 => exact amN
  · exact Nat.zero_le _
  · refine Le.auto [] (r0 := ?r01) (ren := ?ren1) ?ea1 ?eb1 ?a1 ?b1 ?c1 ?d1 ?ho1 ?hn1 ?ht1
    case ea1 => exact amR
    case eb1 => exact amR
    case a1 => exact rfl
    case b1 => exact rfl
    case c1 => exact rfl
    case d1 => exact rfl
    all_goals (try refine amL (h := ?_))
    all_goals (try with_reducible apply True.intro)
    exact ALe.of (.inl rfl) rfl (fun i hi => by omega)
  · intro i hi
    have hL := ixs_len p t.nodes i
    (try refine am (h := ?_)); (try with_reducible apply True.intro)
    repeat' (first | (with_reducible refine And.intro ?_ ?_) | (with_reducible intro _))
    all_goals try (first | omega | with_reducible rfl | ((with_reducible refine eqId ?_); exact rfl) | with_reducible assumption | (with_reducible exact And.left (by assumption)) | (with_reducible exact And.right (by assumption)) | (with_reducible exact And.left (And.right (by assumption))) | (with_reducible exact And.left (And.left (by assumption))) | (with_reducible exact And.right (And.left (by assumption))) | (with_reducible exact And.left (And.left (And.left (by assumption)))) | (with_reducible exact And.right (And.left (And.left (by assumption)))))
    · have hlt : i < t.nodes.length := by assumption
      first | refine CallK.one (hf (t.nodes.getD i default) (getD_mem hlt)) (fun _ => amC) ?_ | refine CallE.one (hf (t.nodes.getD i default) (getD_mem hlt)) (fun _ => amC) rfl ?_ | refine CallG.one rfl (fun hg => hf (t.nodes.getD i default) (getD_mem hlt)) ?_ | refine CallEG.one rfl rfl (fun hg => hf (t.nodes.getD i default) (getD_mem hlt)) ?_
      (try refine am (h := ?_)); (try with_reducible apply True.intro)
      repeat' (first | (with_reducible refine And.intro ?_ ?_) | (with_reducible intro _))
      all_goals try (first | omega | with_reducible rfl | ((with_reducible refine eqId ?_); exact rfl) | with_reducible assumption | (with_reducible exact And.left (by assumption)) | (with_reducible exact And.right (by assumption)) | (with_reducible exact And.left (And.right (by assumption))) | (with_reducible exact And.left (And.left (by assumption))) | (with_reducible exact And.right (And.left (by assumption))) | (with_reducible exact And.left (And.left (And.left (by assumption)))) | (with_reducible exact And.right (And.left (And.left (by assumption)))))
      · rename_i h1 h2
        refine ⟨i + 1, ?_, by omega, by omega⟩
        refine Le.auto [] (r0 := ?r02) (ren := ?ren2) ?ea2 ?eb2 ?a2 ?b2 ?c2 ?d2 ?ho2 ?hn2 ?ht2
        case ea2 => exact amR
        case eb2 => exact amR
        case a2 => exact rfl
        case b2 => exact rfl
        case c2 => exact rfl
        case d2 => exact rfl
        all_goals (try refine amL (h := ?_))
        all_goals (try with_reducible apply True.intro)
        refine appLe1 (x := (i : Int)) ?_ rfl (.inl rfl)
        rw [ixs_succ, if_pos h2]
      · rename_i h1 h2
        refine ⟨i + 1, ?_, by omega, by omega⟩
        refine Le.auto [] (r0 := ?r03) (ren := ?ren3) ?ea3 ?eb3 ?a3 ?b3 ?c3 ?d3 ?ho3 ?hn3 ?ht3
        case ea3 => exact amR
        case eb3 => exact amR
        case a3 => exact rfl
        case b3 => exact rfl
        case c3 => exact rfl
        case d3 => exact rfl
        all_goals (try refine amL (h := ?_))
        all_goals (try with_reducible apply True.intro)
        rw [ixs_succ, if_neg (by rw [h2]; simp)]
        exact .refl _
    · have ei : i = t.nodes.length := by omega
      subst ei
      refine FinK.val1 ?_ ?_
      all_goals (try refine amF (h := ?_))
      all_goals (try with_reducible apply True.intro)
set_option maxHeartbeats 4000000 in
theorem implActiveLeaves (t : DTree) (u v : Bool) (hl : t.nodes.length ≤ 2 ^ 43) (h2 : okTree (2 ^ 47) t) : ACalls Try.prog 32 [.agg (cTree u v t)] (fun r => r = .val (.one (aI true (activeL t)))) := by
  have nt : Try.f32.ntmps = 5 := rfl
  have rs : Try.f32.results = #[.tmp 2] := rfl
  refine ACalls.of_run (m := 400) mixed Try.func32 rfl rfl (Nat.le_of_ble_eq_true rfl) ?_
  simp only [nt, rs]
  clear nt rs
  (try refine am (h := ?_)); (try with_reducible apply True.intro)
  first | refine CallK.one (nodesWith1 t actB _ _ _ _ hl (fun n hn => active1 n _ _ (h2.1.2 n hn))) (fun _ => amC) ?_ | refine CallE.one (nodesWith1 t actB _ _ _ _ hl (fun n hn => active1 n _ _ (h2.1.2 n hn))) (fun _ => amC) rfl ?_ | refine CallG.one rfl (fun hg => nodesWith1 t actB _ _ _ _ hl (fun n hn => active1 n _ _ (h2.1.2 n hn))) ?_ | refine CallEG.one rfl rfl (fun hg => nodesWith1 t actB _ _ _ _ hl (fun n hn => active1 n _ _ (h2.1.2 n hn))) ?_
  (try refine am (h := ?_)); (try with_reducible apply True.intro)
  refine FinK.val1 ?_ ?_
  all_goals (try refine amF (h := ?_))
  all_goals (try with_reducible apply True.intro)
  exact .refl _
set_option maxHeartbeats 4000000 in
theorem specActiveLeaves (t : DTree) (u v : Bool) (hl : t.nodes.length ≤ 2 ^ 43) (h2 : okTree (2 ^ 47) t) : ACalls Try.prog 31 [.agg (cTree u v t)] (fun r => r = .val (.one (aI true (activeL t)))) := by
  have nt : Try.f31.ntmps = 35 := rfl
  have rs : Try.f31.results = #[.tmp 2] := rfl
  refine ACalls.of_run (m := 400) mixed Try.func31 rfl rfl (Nat.le_of_ble_eq_true rfl) ?_
  simp only [nt, rs]
  clear nt rs
  (try refine am (h := ?_)); (try with_reducible apply True.intro)
  repeat' (first | (with_reducible refine And.intro ?_ ?_) | (with_reducible intro _))
  all_goals try (first | omega | with_reducible rfl | ((with_reducible refine eqId ?_); exact rfl) | with_reducible assumption | (with_reducible exact And.left (by assumption)) | (with_reducible exact And.right (by assumption)) | (with_reducible exact And.left (And.right (by assumption))) | (with_reducible exact And.left (And.left (by assumption))) | (with_reducible exact And.right (And.left (by assumption))) | (with_reducible exact And.left (And.left (And.left (by assumption)))) | (with_reducible exact And.right (And.left (And.left (by assumption)))))
  refine LoopK.auto (Nat) (fun i => [(4, .one (.av (.int .i64 i))), (3, .one (.own 302 [] [0]))]) (fun i => [(302, ⟨.sl true none 1 (ixs actB t.nodes i).length (fI (ixs actB t.nodes i)), []⟩)]) [1] (k0 := ?k02) (keepH := ?kh2) 400 (fun i => i ≤ t.nodes.length) (fun i => t.nodes.length - i) (0) ?kea2 ?keb2 ?_ ?_ ?_
  case kea2 => exact amN
  case keb2 => exact amN
  · exact Nat.zero_le _
  · refine Le.auto [] (r0 := ?r04) (ren := ?ren4) ?ea4 ?eb4 ?a4 ?b4 ?c4 ?d4 ?ho4 ?hn4 ?ht4
    case ea4 => exact amR
    case eb4 => exact amR
    case a4 => exact rfl
    case b4 => exact rfl
    case c4 => exact rfl
    case d4 => exact rfl
    all_goals (try refine amL (h := ?_))
    all_goals (try with_reducible apply True.intro)
    exact ALe.of (.inl rfl) rfl (fun i hi => by omega)
  · intro i hi
    have hL := ixs_len actB t.nodes i
    have hcl : ¬ i < t.nodes.length ∨ (t.nodes.getD i default).stats.cells.length ≤ 2 ^ 47 := by
      by_cases hlt : i < t.nodes.length
      · exact .inr (h2.1.2 _ (getD_mem (d := default) hlt)).2.2.2.2.1.2.1
      · exact .inl hlt
    (try refine am (h := ?_)); (try with_reducible apply True.intro)
    repeat' (first | (with_reducible refine And.intro ?_ ?_) | (with_reducible intro _))
    all_goals try (first | omega | with_reducible rfl | ((with_reducible refine eqId ?_); exact rfl) | with_reducible assumption | (with_reducible exact And.left (by assumption)) | (with_reducible exact And.right (by assumption)) | (with_reducible exact And.left (And.right (by assumption))) | (with_reducible exact And.left (And.left (by assumption))) | (with_reducible exact And.right (And.left (by assumption))) | (with_reducible exact And.left (And.left (And.left (by assumption)))) | (with_reducible exact And.right (And.left (And.left (by assumption)))))
    · rename_i h1 h2
      refine ⟨i + 1, ?_, by omega, by omega⟩
      refine Le.auto [] (r0 := ?r05) (ren := ?ren5) ?ea5 ?eb5 ?a5 ?b5 ?c5 ?d5 ?ho5 ?hn5 ?ht5
      case ea5 => exact amR
      case eb5 => exact amR
      case a5 => exact rfl
      case b5 => exact rfl
      case c5 => exact rfl
      case d5 => exact rfl
      all_goals (try refine amL (h := ?_))
      all_goals (try with_reducible apply True.intro)
      refine appLe1 (x := (i : Int)) ?_ rfl (.inl rfl)
      rw [ixs_succ, if_pos (by unfold actB; rw [h2.1, Bool.true_and]; exact decide_eq_true (by have := h2.2; omega))]
    · rename_i h1 h2
      refine ⟨i + 1, ?_, by omega, by omega⟩
      refine Le.auto [] (r0 := ?r06) (ren := ?ren6) ?ea6 ?eb6 ?a6 ?b6 ?c6 ?d6 ?ho6 ?hn6 ?ht6
      case ea6 => exact amR
      case eb6 => exact amR
      case a6 => exact rfl
      case b6 => exact rfl
      case c6 => exact rfl
      case d6 => exact rfl
      all_goals (try refine amL (h := ?_))
      all_goals (try with_reducible apply True.intro)
      rw [ixs_succ, if_neg (by
          unfold actB
          rcases h2 with h2 | h2
          · rw [h2]; simp
          · rw [decide_eq_false (p := 0 < (t.nodes.getD i default).stats.cells.length) (by omega)]; simp)]
      exact .refl _
    · have ei : i = t.nodes.length := by omega
      subst ei
      refine FinK.val1 ?_ ?_
      all_goals (try refine amF (h := ?_))
      all_goals (try with_reducible apply True.intro)
      exact .refl _
end Go.AM
namespace Go.AM
open Go Go.Proofs
set_option maxRecDepth 100000
def leafB (n : DNode) : Bool := n.leaf
def leavesL (t : DTree) : List Int := ixs leafB t.nodes t.nodes.length
set_option maxHeartbeats 4000000 in
theorem leaf1 (n : DNode) (u v : Bool) (h : okNode (2 ^ 47) n) : ACalls Try.prog 78 [.agg (cNode u v n)] (fun r => r = .val (.one (.bool (leafB n)))) := by
  have nt : Try.f78.ntmps = 5 := rfl
  have rs : Try.f78.results = #[.tmp 2] := rfl
  refine ACalls.of_run (m := 400) mixed Try.func78 rfl rfl (Nat.le_of_ble_eq_true rfl) ?_
  simp only [nt, rs]
  clear nt rs
  (try refine am (h := ?_)); (try with_reducible apply True.intro)
  repeat' (first | (with_reducible refine And.intro ?_ ?_) | (with_reducible intro _))
  all_goals try (first | omega | with_reducible rfl | ((with_reducible refine eqId ?_); exact rfl) | with_reducible assumption | (with_reducible exact And.left (by assumption)) | (with_reducible exact And.right (by assumption)) | (with_reducible exact And.left (And.right (by assumption))) | (with_reducible exact And.left (And.left (by assumption))) | (with_reducible exact And.right (And.left (by assumption))) | (with_reducible exact And.left (And.left (And.left (by assumption)))) | (with_reducible exact And.right (And.left (And.left (by assumption)))))
  refine FinK.val1 ?_ ?_
  all_goals (try refine amF (h := ?_))
  all_goals (try with_reducible apply True.intro)
  unfold leafB
  simp
set_option maxHeartbeats 4000000 in
theorem implLeaves (t : DTree) (u v : Bool) (hl : t.nodes.length ≤ 2 ^ 43) (h2 : okTree (2 ^ 47) t) : ACalls Try.prog 28 [.agg (cTree u v t)] (fun r => r = .val (.one (aI true (leavesL t)))) := by
  have nt : Try.f28.ntmps = 5 := rfl
  have rs : Try.f28.results = #[.tmp 2] := rfl
  refine ACalls.of_run (m := 400) mixed Try.func28 rfl rfl (Nat.le_of_ble_eq_true rfl) ?_
  simp only [nt, rs]
  clear nt rs
  (try refine am (h := ?_)); (try with_reducible apply True.intro)
  first | refine CallK.one (nodesWith1 t leafB _ _ _ _ hl (fun n hn => leaf1 n _ _ (h2.1.2 n hn))) (fun _ => amC) ?_ | refine CallE.one (nodesWith1 t leafB _ _ _ _ hl (fun n hn => leaf1 n _ _ (h2.1.2 n hn))) (fun _ => amC) rfl ?_ | refine CallG.one rfl (fun hg => nodesWith1 t leafB _ _ _ _ hl (fun n hn => leaf1 n _ _ (h2.1.2 n hn))) ?_ | refine CallEG.one rfl rfl (fun hg => nodesWith1 t leafB _ _ _ _ hl (fun n hn => leaf1 n _ _ (h2.1.2 n hn))) ?_
  (try refine am (h := ?_)); (try with_reducible apply True.intro)
  refine FinK.val1 ?_ ?_
  all_goals (try refine amF (h := ?_))
  all_goals (try with_reducible apply True.intro)
  exact .refl _
set_option maxHeartbeats 4000000 in
theorem specLeaves (t : DTree) (u v : Bool) (hl : t.nodes.length ≤ 2 ^ 43) (h2 : okTree (2 ^ 47) t) : ACalls Try.prog 26 [.agg (cTree u v t)] (fun r => r = .val (.one (aI true (leavesL t)))) := by
  have nt : Try.f26.ntmps = 24 := rfl
  have rs : Try.f26.results = #[.tmp 2] := rfl
  refine ACalls.of_run (m := 400) mixed Try.func26 rfl rfl (Nat.le_of_ble_eq_true rfl) ?_
  simp only [nt, rs]
  clear nt rs
  (try refine am (h := ?_)); (try with_reducible apply True.intro)
  repeat' (first | (with_reducible refine And.intro ?_ ?_) | (with_reducible intro _))
  all_goals try (first | omega | with_reducible rfl | ((with_reducible refine eqId ?_); exact rfl) | with_reducible assumption | (with_reducible exact And.left (by assumption)) | (with_reducible exact And.right (by assumption)) | (with_reducible exact And.left (And.right (by assumption))) | (with_reducible exact And.left (And.left (by assumption))) | (with_reducible exact And.right (And.left (by assumption))) | (with_reducible exact And.left (And.left (And.left (by assumption)))) | (with_reducible exact And.right (And.left (And.left (by assumption)))))
  refine LoopK.auto (Nat) (fun i => [(4, .one (.av (.int .i64 i))), (3, .one (.own 302 [] [0]))]) (fun i => [(302, ⟨.sl true none 1 (ixs leafB t.nodes i).length (fI (ixs leafB t.nodes i)), []⟩)]) [1] (k0 := ?k01) (keepH := ?kh1) 400 (fun i => i ≤ t.nodes.length) (fun i => t.nodes.length - i) (0) ?kea1 ?keb1 ?_ ?_ ?_
  case kea1 => exact amN
  case keb1 => exact amN
  · exact Nat.zero_le _
  · refine Le.auto [] (r0 := ?r01) (ren := ?ren1) ?ea1 ?eb1 ?a1 ?b1 ?c1 ?d1 ?ho1 ?hn1 ?ht1
    case ea1 => exact amR
    case eb1 => exact amR
    case a1 => exact rfl
    case b1 => exact rfl
    case c1 => exact rfl
    case d1 => exact rfl
    all_goals (try refine amL (h := ?_))
    all_goals (try with_reducible apply True.intro)
    exact ALe.of (.inl rfl) rfl (fun i hi => by omega)
  · intro i hi
    have hL := ixs_len leafB t.nodes i
    (try refine am (h := ?_)); (try with_reducible apply True.intro)
    repeat' (first | (with_reducible refine And.intro ?_ ?_) | (with_reducible intro _))
    all_goals try (first | omega | with_reducible rfl | ((with_reducible refine eqId ?_); exact rfl) | with_reducible assumption | (with_reducible exact And.left (by assumption)) | (with_reducible exact And.right (by assumption)) | (with_reducible exact And.left (And.right (by assumption))) | (with_reducible exact And.left (And.left (by assumption))) | (with_reducible exact And.right (And.left (by assumption))) | (with_reducible exact And.left (And.left (And.left (by assumption)))) | (with_reducible exact And.right (And.left (And.left (by assumption)))))
    · rename_i h1 h2
      refine ⟨i + 1, ?_, by omega, by omega⟩
      refine Le.auto [] (r0 := ?r02) (ren := ?ren2) ?ea2 ?eb2 ?a2 ?b2 ?c2 ?d2 ?ho2 ?hn2 ?ht2
      case ea2 => exact amR
      case eb2 => exact amR
      case a2 => exact rfl
      case b2 => exact rfl
      case c2 => exact rfl
      case d2 => exact rfl
      all_goals (try refine amL (h := ?_))
      all_goals (try with_reducible apply True.intro)
      refine appLe1 (x := (i : Int)) ?_ rfl (.inl rfl)
      rw [ixs_succ, if_pos (show leafB _ = true from h2)]
    · rename_i h1 h2
      refine ⟨i + 1, ?_, by omega, by omega⟩
      refine Le.auto [] (r0 := ?r03) (ren := ?ren3) ?ea3 ?eb3 ?a3 ?b3 ?c3 ?d3 ?ho3 ?hn3 ?ht3
      case ea3 => exact amR
      case eb3 => exact amR
      case a3 => exact rfl
      case b3 => exact rfl
      case c3 => exact rfl
      case d3 => exact rfl
      all_goals (try refine amL (h := ?_))
      all_goals (try with_reducible apply True.intro)
      rw [ixs_succ, if_neg (show ¬ leafB _ = true by unfold leafB; rw [h2]; simp)]
      exact .refl _
    · have ei : i = t.nodes.length := by omega
      subst ei
      refine FinK.val1 ?_ ?_
      all_goals (try refine amF (h := ?_))
      all_goals (try with_reducible apply True.intro)
      exact .refl _
theorem ixs_ok {p : DNode → Bool} {l : List DNode} {n : Nat} (h : n ≤ 2 ^ 47) : okI (2 ^ 47) (ixs p l n) := by
  refine ⟨Nat.le_trans (ixs_len p l n) h, fun x hx => ?_⟩
  obtain ⟨i, rfl, hi, _⟩ := ixs_mem hx
  rw [inKi]
  omega
end Go.AM
