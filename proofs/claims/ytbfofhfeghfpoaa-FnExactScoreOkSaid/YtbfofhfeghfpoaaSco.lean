/- Scores: tables and the last predictions. -/
import Derived.Test.YtbfofhfeghfpoaaData
import Derived.Test.YtbfofhfeghfpoaaAm2
import Derived.Test.YtbfofhfeghfpoaaBas
namespace Go.AM
open Go
def pcnt : List DPair → Int → Int → Int
  | [], _, _ => 0
  | p :: r, a, b => (if p.truth = a ∧ p.said = b then 1 else 0) + pcnt r a b
theorem pcnt_app : ∀ (l m : List DPair) (a b : Int), pcnt (l ++ m) a b = pcnt l a b + pcnt m a b
  | [], m, a, b => by simp [pcnt]
  | p :: r, m, a, b => by simp only [List.cons_append, pcnt, pcnt_app r m a b]; omega
theorem pcnt_bd : ∀ (l : List DPair) (a b : Int), 0 ≤ pcnt l a b ∧ pcnt l a b ≤ l.length
  | [], a, b => by simp [pcnt]
  | p :: r, a, b => by
    have := pcnt_bd r a b
    simp only [pcnt, List.length_cons, Int.natCast_add, Int.natCast_one]
    split <;> omega
theorem pcnt_take {l : List DPair} {i : Nat} (h : i < l.length) (a b : Int) : pcnt (l.take (i + 1)) a b = pcnt (l.take i) a b + (if (l.getD i default).truth = a ∧ (l.getD i default).said = b then 1 else 0) := by
  rw [take_succ (d := default) h, pcnt_app]
  simp [pcnt]
theorem pcnt_take_le (l : List DPair) (i : Nat) (a b : Int) : pcnt (l.take i) a b ≤ pcnt l a b := by
  have h := pcnt_app (l.take i) (l.drop i) a b
  rw [List.take_append_drop] at h
  have := pcnt_bd (l.drop i) a b
  omega
def allSum : List (List Int) → Int
  | [] => 0
  | r :: t => tot1 r + allSum t
theorem allSum_app : ∀ (l m : List (List Int)), allSum (l ++ m) = allSum l + allSum m
  | [], m => by simp [allSum]
  | p :: r, m => by simp only [List.cons_append, allSum, allSum_app r m]; omega
theorem allSum_take {l : List (List Int)} {i : Nat} (h : i < l.length) : allSum (l.take (i + 1)) = allSum (l.take i) + tot1 (l.getD i []) := by
  rw [take_succ (d := []) h, allSum_app]
  simp [allSum]
def tab (x : DScore) (i j : Nat) : Int := (x.table.getD i []).getD j 0
def rowOk (n : Int) (r : List Int) : Prop := (r.length : Int) = n ∧ ∀ j, j < r.length → 0 ≤ r.getD j 0 ∧ r.getD j 0 ≤ 9999
def pairOk (n : Int) (p : DPair) : Prop := (0 ≤ p.truth ∧ p.truth ≤ n - 1) ∧ 0 ≤ p.said ∧ p.said ≤ n - 1
def scOk (n : Int) (x : DScore) : Prop :=
  ((2 ≤ n ∧ n ≤ 3) ∧ (x.table.length : Int) = n ∧ (∀ i, i < x.table.length → rowOk n (x.table.getD i []))) ∧ (∀ i j : Nat, (i : Int) < n → (j : Int) < n → pcnt x.last i j ≤ tab x i j) ∧
    (allSum x.table ≤ 9999 ∧ (x.last.length : Int) = (if 20 < allSum x.table then 20 else allSum x.table)) ∧ ∀ k, k < x.last.length → pairOk n (x.last.getD k default)
open Classical in
noncomputable def scoreOk (n : Int) (x : DScore) : Bool := decide (scOk n x)
theorem scoreOk_true {n : Int} {x : DScore} (h : scOk n x) : scoreOk n x = true := @decide_eq_true _ (Classical.propDecidable _) h
theorem scoreOk_false {n : Int} {x : DScore} (h : ¬ scOk n x) : scoreOk n x = false := @decide_eq_false _ (Classical.propDecidable _) h
theorem rowOk_bd {n : Int} {r : List Int} (hn : n ≤ 3) (h : rowOk n r) (i : Nat) : 0 ≤ tot1 (r.take i) ∧ tot1 (r.take i) ≤ 29997 := by
  have hl := h.1
  have := tot1_take_bd (l := r) (c := 9999) (by omega) h.2 i
  have h2 : (r.take i).length ≤ r.length := by simp; omega
  have h3 : (9999 : Int) * (r.take i).length ≤ 9999 * 3 := by omega
  have h4 : (9999 : Int) * r.length ≤ 9999 * 3 := by omega
  omega
theorem rowOk_tot {n : Int} {r : List Int} (hn : n ≤ 3) (h : rowOk n r) : 0 ≤ tot1 r ∧ tot1 r ≤ 29997 := by
  have := rowOk_bd hn h r.length
  rwa [List.take_length] at this
theorem allSum_bd {n : Int} {t : List (List Int)} (hn : n ≤ 3) : ∀ i, (∀ k, k < i → k < t.length → rowOk n (t.getD k [])) → 0 ≤ allSum (t.take i) ∧ allSum (t.take i) ≤ 29997 * i
  | 0, _ => by simp [allSum]
  | i + 1, h => by
    have ih := allSum_bd (t := t) hn i (fun k hk => h k (by omega))
    by_cases hi : i < t.length
    · rw [allSum_take hi]
      have := rowOk_tot hn (h i (by omega) hi)
      simp only [Int.natCast_add, Int.natCast_one]
      omega
    · rw [List.take_of_length_le (by omega)] at ih ⊢
      simp only [Int.natCast_add, Int.natCast_one]
      omega
theorem rowOk_any {n : Int} {r : List Int} (h : rowOk n r) : (r.any fun z => !decide (0 ≤ z ∧ z ≤ 9999)) = false := by
  rw [List.any_eq_false]
  intro z hz
  obtain ⟨j, hj, rfl⟩ := List.getElem_of_mem hz
  have := h.2 j hj
  rw [show r.getD j 0 = r[j] by simp [List.getD, hj]] at this
  simp [this.1, this.2]
theorem rowOk_of {n : Int} {r : List Int} (h1 : (r.length : Int) = n) (h : (r.any fun z => !decide (0 ≤ z ∧ z ≤ 9999)) = false) : rowOk n r := by
  refine ⟨h1, fun j hj => ?_⟩
  rw [List.any_eq_false] at h
  have := h r[j] (List.getElem_mem hj)
  rw [show r.getD j 0 = r[j] by simp [List.getD, hj]]
  simpa using this
def mapOk (es : List (Int × Int × Int)) (l : List DPair) (k : Nat) : Prop := es.length ≤ k ∧ ∀ a b, mget es a b = pcnt (l.take k) a b
theorem mapOk_put {es : List (Int × Int × Int)} {l : List DPair} {k : Nat} (h : mapOk es l k) (hk : k < l.length) : mapOk (mset (ment es (l.getD k default).truth (l.getD k default).said) (mix es (l.getD k default).truth (l.getD k default).said) (mget es (l.getD k default).truth (l.getD k default).said + 1)) l (k + 1) := by
  refine ⟨?_, fun a b => ?_⟩
  · rw [mset_len]
    unfold ment
    have := h.1
    split
    · omega
    · simp; omega
  · rw [mget_put, pcnt_take hk, h.2, h.2]
    by_cases e : (l.getD k default).truth = a ∧ (l.getD k default).said = b
    · obtain ⟨rfl, rfl⟩ := e
      simp
    · rw [if_neg e, if_neg (fun e2 => e ⟨e2.1.symm, e2.2.symm⟩), Int.add_zero]
def lastOk (n : Int) (x : DScore) (k : Nat) : Prop := pairOk n (x.last.getD k default) ∧ pcnt (x.last.take (k + 1)) (x.last.getD k default).truth (x.last.getD k default).said ≤ tab x (x.last.getD k default).truth.toNat (x.last.getD k default).said.toNat
theorem scOk_last {n : Int} {x : DScore} (h : scOk n x) {k : Nat} (hk : k < x.last.length) : lastOk n x k := by
  have h1 := h.2.2.2 k hk
  refine ⟨h1, ?_⟩
  obtain ⟨⟨a1, a2⟩, b1, b2⟩ := h1
  have h2 := h.2.1 (x.last.getD k default).truth.toNat (x.last.getD k default).said.toNat (by omega) (by omega)
  rw [Int.toNat_of_nonneg a1, Int.toNat_of_nonneg b1] at h2
  exact Int.le_trans (pcnt_take_le _ _ _ _) h2
theorem last_cnt {n : Int} {x : DScore} (h : ∀ k, k < x.last.length → lastOk n x k) (h0 : ∀ i j : Nat, (i : Int) < n → (j : Int) < n → 0 ≤ tab x i j) (i j : Nat) (hi : (i : Int) < n) (hj : (j : Int) < n) : ∀ k, k ≤ x.last.length → pcnt (x.last.take k) i j ≤ tab x i j
  | 0, _ => by simpa [pcnt] using h0 i j hi hj
  | k + 1, hk => by
    by_cases e : (x.last.getD k default).truth = i ∧ (x.last.getD k default).said = j
    · have := (h k (by omega)).2
      rw [e.1, e.2] at this
      simpa using this
    · rw [pcnt_take (by omega), if_neg e, Int.add_zero]
      exact last_cnt h h0 i j hi hj k (by omega)
theorem rows_tab {n : Int} {x : DScore} (hl : (x.table.length : Int) = n) (hr : ∀ i, i < x.table.length → rowOk n (x.table.getD i [])) (i j : Nat) (hi : (i : Int) < n) (hj : (j : Int) < n) : 0 ≤ tab x i j ∧ tab x i j ≤ 9999 := by
  have := hr i (by omega)
  exact this.2 j (by have := this.1; omega)
end Go.AM
namespace Go.AM
open Go Go.Proofs
set_option maxRecDepth 100000
set_option maxHeartbeats 2000000 in
theorem l25PairsC (l : List DPair) (a b : Int) (u : Bool) (nl : Option Bool) (hl : l.length ≤ 2 ^ 47) : ACalls Try.prog 62 [.one (.sl u nl 2 l.length (fPair l)), .one (.int .i64 a), .one (.int .i64 b)] (fun r => r = .val (.one (.int .i64 (pcnt l a b)))) := by
  have nt : Try.f62.ntmps = 34 := rfl
  have rs : Try.f62.results = #[.tmp 6] := rfl
  refine ACalls.of_run (m := 400) mixed Try.func62 rfl rfl (Nat.le_of_ble_eq_true rfl) ?_
  simp only [nt, rs]
  clear nt rs
  (try refine am (h := ?_)); (try with_reducible apply True.intro)
  refine LoopK.auto (Nat) (fun i => [(7, .one (.av (.int .i64 (pcnt (l.take i) a b)))), (8, .one (.av (.int .i64 i)))]) (fun i => []) [0, 1, 2] (k0 := ?k01) (keepH := ?kh1) 400 (fun i => i ≤ l.length) (fun i => l.length - i) (0) ?kea1 ?keb1 ?_ ?_ ?_
  case kea1 => exact amN
  case keb1 => exact amN
  · exact Nat.zero_le _
  · refine Le.auto [] (r0 := ?r01) (ren := ?ren1) ?ea1 ?eb1 ?a1 ?b1 ?c1 ?d1 ?ho1 ?hn1 ?ht1
    case ea1 => exact amR
    case eb1 => exact amR
    case a1 => exact rfl
    case b1 => exact rfl
    case c1 => exact rfl
    case d1 => exact rfl
    all_goals (try refine amL (h := ?_))
    all_goals (try with_reducible apply True.intro)
    all_goals first | rfl | exact ⟨rfl, rfl⟩
  · intro i hi
    have hb := pcnt_bd (l.take i) a b
    have hlt : (l.take i).length ≤ l.length := by simp; omega
    (try refine am (h := ?_)); (try with_reducible apply True.intro)
    repeat' (first | (with_reducible refine And.intro ?_ ?_) | (with_reducible intro _))
    all_goals try (first | omega | with_reducible rfl | ((with_reducible refine eqId ?_); exact rfl) | with_reducible (first | assumption | exact pl ‹_› | exact pr ‹_› | exact plr ‹_› | exact pll ‹_› | exact prl ‹_› | exact plll ‹_› | exact prll ‹_›))
    · rename_i hlt2 he
      refine ⟨i + 1, ?_, by omega, by omega⟩
      refine Le.auto [] (r0 := ?r02) (ren := ?ren2) ?ea2 ?eb2 ?a2 ?b2 ?c2 ?d2 ?ho2 ?hn2 ?ht2
      case ea2 => exact amR
      case eb2 => exact amR
      case a2 => exact rfl
      case b2 => exact rfl
      case c2 => exact rfl
      case d2 => exact rfl
      all_goals (try refine amL (h := ?_))
      all_goals (try with_reducible apply True.intro)
      rw [pcnt_take (by omega), if_pos he]
      all_goals first | rfl | exact ⟨rfl, rfl⟩
    · rename_i hlt2 he
      refine ⟨i + 1, ?_, by omega, by omega⟩
      refine Le.auto [] (r0 := ?r03) (ren := ?ren3) ?ea3 ?eb3 ?a3 ?b3 ?c3 ?d3 ?ho3 ?hn3 ?ht3
      case ea3 => exact amR
      case eb3 => exact amR
      case a3 => exact rfl
      case b3 => exact rfl
      case c3 => exact rfl
      case d3 => exact rfl
      all_goals (try refine amL (h := ?_))
      all_goals (try with_reducible apply True.intro)
      rw [pcnt_take (by omega), if_neg he, Int.add_zero]
      all_goals first | rfl | exact ⟨rfl, rfl⟩
    · refine FinK.val1 ?_ ?_
      all_goals (try refine amF (h := ?_))
      all_goals (try with_reducible apply True.intro)
      have : i = l.length := by omega
      rw [this, List.take_length]
set_option maxHeartbeats 2000000 in
theorem l1MinC (a b : Int) : ACalls Try.prog 63 [.one (.int .i64 a), .one (.int .i64 b)] (fun r => r = .val (.one (.int .i64 (if b < a then b else a)))) := by
  have nt : Try.f63.ntmps = 10 := rfl
  have rs : Try.f63.results = #[.tmp 4] := rfl
  refine ACalls.of_run (m := 400) mixed Try.func63 rfl rfl (Nat.le_of_ble_eq_true rfl) ?_
  simp only [nt, rs]
  clear nt rs
  (try refine am (h := ?_)); (try with_reducible apply True.intro)
  repeat' (first | (with_reducible refine And.intro ?_ ?_) | (with_reducible intro _))
  all_goals try (first | omega | with_reducible rfl | ((with_reducible refine eqId ?_); exact rfl) | with_reducible (first | assumption | exact pl ‹_› | exact pr ‹_› | exact plr ‹_› | exact pll ‹_› | exact prl ‹_› | exact plll ‹_› | exact prll ‹_›))
  · refine FinK.val1 ?_ ?_
    all_goals (try refine amF (h := ?_))
    all_goals (try with_reducible apply True.intro)
    rename_i h
    split <;> omega
  · refine FinK.val1 ?_ ?_
    all_goals (try refine amF (h := ?_))
    all_goals (try with_reducible apply True.intro)
    rename_i h
    split <;> omega
set_option maxHeartbeats 8000000 in
theorem specScoreOk (n : Int) (x : DScore) (u v : Bool) (hx : okScore (2 ^ 47) x) : ACalls Try.prog 24 [.one (.int .i64 n), .agg (cScore u v x)] (fun r => r = .val (.one (.bool (scoreOk n x)))) := by
  have hl := hx.1.1
  have hll := hx.2.1
  have nt : Try.f24.ntmps = 112 := rfl
  have rs : Try.f24.results = #[.tmp 4] := rfl
  refine ACalls.of_run (m := 400) mixed Try.func24 rfl rfl (Nat.le_of_ble_eq_true rfl) ?_
  simp only [nt, rs]
  clear nt rs
  (try refine am (h := ?_)); (try with_reducible apply True.intro)
  first | refine CallK.one (l1In n 2 3) (fun _ => amC) ?_ | refine CallE.one (l1In n 2 3) (fun _ => amC) rfl ?_ | refine CallG.one rfl (fun hg => l1In n 2 3) ?_ | refine CallEG.one rfl rfl (fun hg => l1In n 2 3) ?_ | refine CallCE.one (l1In n 2 3) (fun _ => amC) rfl ?_
  (try refine am (h := ?_)); (try with_reducible apply True.intro)
  repeat' (first | (with_reducible refine And.intro ?_ ?_) | (with_reducible intro _))
  all_goals try (first | omega | with_reducible rfl | ((with_reducible refine eqId ?_); exact rfl) | with_reducible (first | assumption | exact pl ‹_› | exact pr ‹_› | exact plr ‹_› | exact pll ‹_› | exact prl ‹_› | exact plll ‹_› | exact prll ‹_›))
  · rw [scoreOk_false (fun h => by have := h.1.1; have := h.1.2.1; omega)]
    refine FinK.val1 ?_ ?_
    all_goals (try refine amF (h := ?_))
    all_goals (try with_reducible apply True.intro)
  refine LoopK.auto (Nat) (fun i => [(5, .one (.av (.int .i64 (allSum (x.table.take i))))), (6, .one (.av (.int .i64 i)))]) (fun i => []) [0, 3] (k0 := ?k02) (keepH := ?kh2) 400 (fun i => i ≤ x.table.length ∧ (∀ k, k < i → rowOk n (x.table.getD k [])) ∧ ∀ k, k < i → ∀ j : Nat, (j : Int) < n → pcnt x.last k j ≤ tab x k j) (fun i => x.table.length - i) (0) ?kea2 ?keb2 ?_ ?_ ?_
  case kea2 => exact amN
  case keb2 => exact amN
  · exact ⟨Nat.zero_le _, fun k hk => by omega, fun k hk => by omega⟩
  · refine Le.auto [] (r0 := ?r04) (ren := ?ren4) ?ea4 ?eb4 ?a4 ?b4 ?c4 ?d4 ?ho4 ?hn4 ?ht4
    case ea4 => exact amR
    case eb4 => exact amR
    case a4 => exact rfl
    case b4 => exact rfl
    case c4 => exact rfl
    case d4 => exact rfl
    all_goals (try refine amL (h := ?_))
    all_goals (try with_reducible apply True.intro)
    all_goals first | rfl | exact ⟨rfl, rfl⟩
  rename_i hn0
  obtain ⟨hn, hlen⟩ := hn0
  · rintro i ⟨hi, hr, hp⟩
    have hs := allSum_bd (t := x.table) hn.2 i (fun k hk _ => hr k hk)
    by_cases hlt : i < x.table.length
    · have hrow := (hx.1.2 _ (getD_mem (d := []) hlt)).1
      (try refine am (h := ?_)); (try with_reducible apply True.intro)
      repeat' (first | (with_reducible refine And.intro ?_ ?_) | (with_reducible intro _))
      all_goals try (first | omega | with_reducible rfl | ((with_reducible refine eqId ?_); exact rfl) | with_reducible (first | assumption | exact pl ‹_› | exact pr ‹_› | exact plr ‹_› | exact pll ‹_› | exact prl ‹_› | exact plll ‹_› | exact prll ‹_›))
      · rw [scoreOk_false (fun h => by have := (h.1.2.2 i hlt).1; omega)]
        refine FinK.val1 ?_ ?_
        all_goals (try refine amF (h := ?_))
        all_goals (try with_reducible apply True.intro)
      rename_i hrl
      refine LoopK.intro (Nat) (fun j => [(5, .one (.av (.int .i64 (allSum (x.table.take i) + tot1 ((x.table.getD i []).take j))))), (7, .one (.av (.int .i64 j)))]) (fun j => []) [0, 3, 6] [1] 700 (fun j => j ≤ (x.table.getD i []).length ∧ (∀ k, k < j → 0 ≤ (x.table.getD i []).getD k 0 ∧ (x.table.getD i []).getD k 0 ≤ 9999) ∧ ∀ k : Nat, k < j → pcnt x.last i k ≤ tab x i k) (fun j => (x.table.getD i []).length - j) (0) ?_ ?_ ?_
      · exact ⟨Nat.zero_le _, fun k hk => by omega, fun k hk => by omega⟩
      · refine Le.auto [] (r0 := ?r05) (ren := ?ren5) ?ea5 ?eb5 ?a5 ?b5 ?c5 ?d5 ?ho5 ?hn5 ?ht5
        case ea5 => exact amR
        case eb5 => exact amR
        case a5 => exact rfl
        case b5 => exact rfl
        case c5 => exact rfl
        case d5 => exact rfl
        all_goals (try refine amL (h := ?_))
        all_goals (try with_reducible apply True.intro)
        all_goals first | rfl | simp [tot1, smI]
      · rintro j ⟨hj, hjr, hjp⟩
        have ht := tot1_pre hj hjr
        have hlt' : (i : Int) < n := by omega
        (try refine am (h := ?_)); (try with_reducible apply True.intro)
        repeat' (first | (with_reducible refine And.intro ?_ ?_) | (with_reducible intro _))
        all_goals try (first | omega | with_reducible rfl | ((with_reducible refine eqId ?_); exact rfl) | with_reducible (first | assumption | exact pl ‹_› | exact pr ‹_› | exact plr ‹_› | exact pll ‹_› | exact prl ‹_› | exact plll ‹_› | exact prll ‹_›))
        · refine CallE.one (l1In ((x.table.getD i []).getD j 0) 0 9999) (fun _ => amC) rfl ?_
          (try refine am (h := ?_)); (try with_reducible apply True.intro)
          repeat' (first | (with_reducible refine And.intro ?_ ?_) | (with_reducible intro _))
          all_goals try (first | omega | with_reducible rfl | ((with_reducible refine eqId ?_); exact rfl) | with_reducible (first | assumption | exact pl ‹_› | exact pr ‹_› | exact plr ‹_› | exact pll ‹_› | exact prl ‹_› | exact plll ‹_› | exact prll ‹_›))
          refine CallEG.one rfl rfl (fun hg => l25PairsC x.last i j _ _ hll) ?_
          (try refine am (h := ?_)); (try with_reducible apply True.intro)
          repeat' (first | (with_reducible refine And.intro ?_ ?_) | (with_reducible intro _))
          all_goals try (first | omega | with_reducible rfl | ((with_reducible refine eqId ?_); exact rfl) | with_reducible (first | assumption | exact pl ‹_› | exact pr ‹_› | exact plr ‹_› | exact pll ‹_› | exact prl ‹_› | exact plll ‹_› | exact prll ‹_›))
          · rw [scoreOk_false (fun h => ?_)]
            · refine FinK.val1 ?_ ?_
              all_goals (try refine amF (h := ?_))
              all_goals (try with_reducible apply True.intro)
            · rename_i hh
              have h1 := (h.1.2.2 i hlt).2 j (by omega)
              have h2 := h.2.1 i j hlt' (by omega)
              unfold tab at h2
              omega
          rename_i hh
          refine ⟨j + 1, ?_, ⟨by omega, fun k hk => ?_, fun k hk => ?_⟩, by omega⟩
          · refine Le.auto [] (r0 := ?r06) (ren := ?ren6) ?ea6 ?eb6 ?a6 ?b6 ?c6 ?d6 ?ho6 ?hn6 ?ht6
            case ea6 => exact amR
            case eb6 => exact amR
            case a6 => exact rfl
            case b6 => exact rfl
            case c6 => exact rfl
            case d6 => exact rfl
            all_goals (try refine amL (h := ?_))
            all_goals (try with_reducible apply True.intro)
            rw [tot1_take (by omega), Int.add_assoc]
            all_goals first | rfl | exact ⟨rfl, rfl⟩
          · by_cases e : k = j
            · subst e; exact hh.1
            · exact hjr k (by omega)
          · by_cases e : k = j
            · subst e; unfold tab; omega
            · exact hjp k (by omega)
        · have ej : j = (x.table.getD i []).length := by omega
          refine ⟨i + 1, ?_, ⟨by omega, fun k hk => ?_, fun k hk m hm => ?_⟩, by omega⟩
          · refine Le.auto [] (r0 := ?r07) (ren := ?ren7) ?ea7 ?eb7 ?a7 ?b7 ?c7 ?d7 ?ho7 ?hn7 ?ht7
            case ea7 => exact amR
            case eb7 => exact amR
            case a7 => exact rfl
            case b7 => exact rfl
            case c7 => exact rfl
            case d7 => exact rfl
            all_goals (try refine amL (h := ?_))
            all_goals (try with_reducible apply True.intro)
            rw [allSum_take hlt, ej, List.take_length]
            all_goals first | rfl | exact ⟨rfl, rfl⟩
          · by_cases e : k = i
            · subst e
              exact ⟨by omega, fun m hm => hjr m (by omega)⟩
            · exact hr k (by omega)
          · by_cases e : k = i
            · subst e
              exact hjp m (by omega)
            · exact hp k (by omega) m hm
    · have ei : i = x.table.length := by omega
      (try refine am (h := ?_)); (try with_reducible apply True.intro)
      repeat' (first | (with_reducible refine And.intro ?_ ?_) | (with_reducible intro _))
      all_goals try (first | omega | with_reducible rfl | ((with_reducible refine eqId ?_); exact rfl) | with_reducible (first | assumption | exact pl ‹_› | exact pr ‹_› | exact plr ‹_› | exact pll ‹_› | exact prl ‹_› | exact plll ‹_› | exact prll ‹_›))
      refine CallEG.one rfl rfl (fun hg => l1MinC (allSum (x.table.take i)) 20) ?_
      (try refine am (h := ?_)); (try with_reducible apply True.intro)
      repeat' (first | (with_reducible refine And.intro ?_ ?_) | (with_reducible intro _))
      all_goals try (first | omega | with_reducible rfl | ((with_reducible refine eqId ?_); exact rfl) | with_reducible (first | assumption | exact pl ‹_› | exact pr ‹_› | exact plr ‹_› | exact pll ‹_› | exact prl ‹_› | exact plll ‹_› | exact prll ‹_›))
      · rw [scoreOk_false (fun h => ?_)]
        · refine FinK.val1 ?_ ?_
          all_goals (try refine amF (h := ?_))
          all_goals (try with_reducible apply True.intro)
        · rename_i hh
          have h3 := h.2.2.1
          rw [ei, List.take_length] at hh
          omega
      rename_i hall
      rw [ei, List.take_length] at hall
      refine LoopK.intro (Nat) (fun k => [(8, .one (.av (.int .i64 k)))]) (fun k => []) [0, 3] [1] 900 (fun k => k ≤ x.last.length ∧ ∀ m, m < k → pairOk n (x.last.getD m default)) (fun k => x.last.length - k) (0) ?_ ?_ ?_
      · exact ⟨Nat.zero_le _, fun m hm => by omega⟩
      · refine Le.auto [] (r0 := ?r08) (ren := ?ren8) ?ea8 ?eb8 ?a8 ?b8 ?c8 ?d8 ?ho8 ?hn8 ?ht8
        case ea8 => exact amR
        case eb8 => exact amR
        case a8 => exact rfl
        case b8 => exact rfl
        case c8 => exact rfl
        case d8 => exact rfl
        all_goals (try refine amL (h := ?_))
        all_goals (try with_reducible apply True.intro)
      · rintro k ⟨hk, hkp⟩
        (try refine am (h := ?_)); (try with_reducible apply True.intro)
        repeat' (first | (with_reducible refine And.intro ?_ ?_) | (with_reducible intro _))
        all_goals try (first | omega | with_reducible rfl | ((with_reducible refine eqId ?_); exact rfl) | with_reducible (first | assumption | exact pl ‹_› | exact pr ‹_› | exact plr ‹_› | exact pll ‹_› | exact prl ‹_› | exact plll ‹_› | exact prll ‹_›))
        · first | refine CallK.one (l1In (x.last.getD k default).truth 0 (n - 1)) (fun _ => amC) ?_ | refine CallE.one (l1In (x.last.getD k default).truth 0 (n - 1)) (fun _ => amC) rfl ?_ | refine CallG.one rfl (fun hg => l1In (x.last.getD k default).truth 0 (n - 1)) ?_ | refine CallEG.one rfl rfl (fun hg => l1In (x.last.getD k default).truth 0 (n - 1)) ?_ | refine CallCE.one (l1In (x.last.getD k default).truth 0 (n - 1)) (fun _ => amC) rfl ?_
          (try refine am (h := ?_)); (try with_reducible apply True.intro)
          repeat' (first | (with_reducible refine And.intro ?_ ?_) | (with_reducible intro _))
          all_goals try (first | omega | with_reducible rfl | ((with_reducible refine eqId ?_); exact rfl) | with_reducible (first | assumption | exact pl ‹_› | exact pr ‹_› | exact plr ‹_› | exact pll ‹_› | exact prl ‹_› | exact plll ‹_› | exact prll ‹_›))
          first | refine CallG.one rfl (fun hg => l1In (x.last.getD k default).said 0 (n - 1)) ?_ | refine CallEG.one rfl rfl (fun hg => l1In (x.last.getD k default).said 0 (n - 1)) ?_
          (try refine am (h := ?_)); (try with_reducible apply True.intro)
          repeat' (first | (with_reducible refine And.intro ?_ ?_) | (with_reducible intro _))
          all_goals try (first | omega | with_reducible rfl | ((with_reducible refine eqId ?_); exact rfl) | with_reducible (first | assumption | exact pl ‹_› | exact pr ‹_› | exact plr ‹_› | exact pll ‹_› | exact prl ‹_› | exact plll ‹_› | exact prll ‹_›))
          · rw [scoreOk_false (fun h => ?_)]
            · refine FinK.val1 ?_ ?_
              all_goals (try refine amF (h := ?_))
              all_goals (try with_reducible apply True.intro)
            · rename_i hh
              have := h.2.2.2 k (by omega)
              unfold pairOk at this
              omega
          · rename_i hh
            refine ⟨k + 1, ?_, ⟨by omega, fun m hm => ?_⟩, by omega⟩
            · refine Le.auto [] (r0 := ?r09) (ren := ?ren9) ?ea9 ?eb9 ?a9 ?b9 ?c9 ?d9 ?ho9 ?hn9 ?ht9
              case ea9 => exact amR
              case eb9 => exact amR
              case a9 => exact rfl
              case b9 => exact rfl
              case c9 => exact rfl
              case d9 => exact rfl
              all_goals (try refine amL (h := ?_))
              all_goals (try with_reducible apply True.intro)
              all_goals rfl
            · by_cases e : m = k
              · subst e; exact hh
              · exact hkp m (by omega)
        · rw [scoreOk_true ?_]
          · refine FinK.val1 ?_ ?_
            all_goals (try refine amF (h := ?_))
            all_goals (try with_reducible apply True.intro)
          · refine ⟨⟨hn, hlen, fun m hm => hr m (by omega)⟩, fun a b ha hb => hp a (by omega) b hb, ?_, fun m hm => hkp m (by omega)⟩
            exact ⟨by omega, hall.2⟩
set_option maxHeartbeats 2000000 in
theorem tableSumC (n : Int) (l : List (List Int)) (u v : Bool) (hn : n ≤ 3) (hl : (l.length : Int) ≤ 3) (hr : ∀ k, k < l.length → rowOk n (l.getD k [])) : ACalls Try.prog 55 [.one (aL u v l)] (fun r => r = .val (.one (.int .i64 (allSum l)))) := by
  have nt : Try.f55.ntmps = 18 := rfl
  have rs : Try.f55.results = #[.tmp 2] := rfl
  refine ACalls.of_run (m := 400) mixed Try.func55 rfl rfl (Nat.le_of_ble_eq_true rfl) ?_
  simp only [nt, rs]
  clear nt rs
  (try refine am (h := ?_)); (try with_reducible apply True.intro)
  refine LoopK.auto (Nat) (fun i => [(3, .one (.av (.int .i64 (allSum (l.take i))))), (8, .one (.av (.int .i64 i)))]) (fun i => []) [6, 7] (k0 := ?k03) (keepH := ?kh3) 400 (fun i => i ≤ l.length) (fun i => l.length - i) (0) ?kea3 ?keb3 ?_ ?_ ?_
  case kea3 => exact amN
  case keb3 => exact amN
  · exact Nat.zero_le _
  · refine Le.auto [] (r0 := ?r010) (ren := ?ren10) ?ea10 ?eb10 ?a10 ?b10 ?c10 ?d10 ?ho10 ?hn10 ?ht10
    case ea10 => exact amR
    case eb10 => exact amR
    case a10 => exact rfl
    case b10 => exact rfl
    case c10 => exact rfl
    case d10 => exact rfl
    all_goals (try refine amL (h := ?_))
    all_goals (try with_reducible apply True.intro)
    all_goals first | rfl | exact ⟨rfl, rfl⟩
  · intro i hi
    have hs := allSum_bd (t := l) hn i (fun k hk => hr k)
    by_cases hlt : i < l.length
    · have hro := hr i hlt
      have hro1 := hro.1
      have ht := rowOk_tot hn hro
      (try refine am (h := ?_)); (try with_reducible apply True.intro)
      repeat' (first | (with_reducible refine And.intro ?_ ?_) | (with_reducible intro _))
      all_goals try (first | omega | with_reducible rfl | ((with_reducible refine eqId ?_); exact rfl) | with_reducible (first | assumption | exact pl ‹_› | exact pr ‹_› | exact plr ‹_› | exact pll ‹_› | exact prl ‹_› | exact plll ‹_› | exact prll ‹_›))
      first | refine CallK.one (totalI (l.getD i []) _ _ 9999 (by omega) (by omega) hro.2 (by omega)) (fun _ => amC) ?_ | refine CallE.one (totalI (l.getD i []) _ _ 9999 (by omega) (by omega) hro.2 (by omega)) (fun _ => amC) rfl ?_ | refine CallG.one rfl (fun hg => totalI (l.getD i []) _ _ 9999 (by omega) (by omega) hro.2 (by omega)) ?_ | refine CallEG.one rfl rfl (fun hg => totalI (l.getD i []) _ _ 9999 (by omega) (by omega) hro.2 (by omega)) ?_ | refine CallCE.one (totalI (l.getD i []) _ _ 9999 (by omega) (by omega) hro.2 (by omega)) (fun _ => amC) rfl ?_
      (try refine am (h := ?_)); (try with_reducible apply True.intro)
      repeat' (first | (with_reducible refine And.intro ?_ ?_) | (with_reducible intro _))
      all_goals try (first | omega | with_reducible rfl | ((with_reducible refine eqId ?_); exact rfl) | with_reducible (first | assumption | exact pl ‹_› | exact pr ‹_› | exact plr ‹_› | exact pll ‹_› | exact prl ‹_› | exact plll ‹_› | exact prll ‹_›))
      refine ⟨i + 1, ?_, by omega, by omega⟩
      refine Le.auto [] (r0 := ?r011) (ren := ?ren11) ?ea11 ?eb11 ?a11 ?b11 ?c11 ?d11 ?ho11 ?hn11 ?ht11
      case ea11 => exact amR
      case eb11 => exact amR
      case a11 => exact rfl
      case b11 => exact rfl
      case c11 => exact rfl
      case d11 => exact rfl
      all_goals (try refine amL (h := ?_))
      all_goals (try with_reducible apply True.intro)
      rw [allSum_take hlt]
      all_goals first | rfl | exact ⟨rfl, rfl⟩
    · (try refine am (h := ?_)); (try with_reducible apply True.intro)
      repeat' (first | (with_reducible refine And.intro ?_ ?_) | (with_reducible intro _))
      all_goals try (first | omega | with_reducible rfl | ((with_reducible refine eqId ?_); exact rfl) | with_reducible (first | assumption | exact pl ‹_› | exact pr ‹_› | exact plr ‹_› | exact pll ‹_› | exact prl ‹_› | exact plll ‹_› | exact prll ‹_›))
      refine FinK.val1 ?_ ?_
      all_goals (try refine amF (h := ?_))
      all_goals (try with_reducible apply True.intro)
      have : i = l.length := by omega
      rw [this, List.take_length]
set_option maxHeartbeats 2000000 in
theorem scoreOk1C (z : Int) : ACalls Try.prog 59 [.one (.int .i64 z)] (fun r => r = .val (.one (.bool (!decide (0 ≤ z ∧ z ≤ 9999))))) := by
  have nt : Try.f59.ntmps = 6 := rfl
  have rs : Try.f59.results = #[.tmp 2] := rfl
  refine ACalls.of_run (m := 400) mixed Try.func59 rfl rfl (Nat.le_of_ble_eq_true rfl) ?_
  simp only [nt, rs]
  clear nt rs
  (try refine am (h := ?_)); (try with_reducible apply True.intro)
  first | refine CallK.one (within z 0 9999) (fun _ => amC) ?_ | refine CallE.one (within z 0 9999) (fun _ => amC) rfl ?_ | refine CallG.one rfl (fun hg => within z 0 9999) ?_ | refine CallEG.one rfl rfl (fun hg => within z 0 9999) ?_ | refine CallCE.one (within z 0 9999) (fun _ => amC) rfl ?_
  (try refine am (h := ?_)); (try with_reducible apply True.intro)
  repeat' (first | (with_reducible refine And.intro ?_ ?_) | (with_reducible intro _))
  all_goals try (first | omega | with_reducible rfl | ((with_reducible refine eqId ?_); exact rfl) | with_reducible (first | assumption | exact pl ‹_› | exact pr ‹_› | exact plr ‹_› | exact pll ‹_› | exact prl ‹_› | exact plll ‹_› | exact prll ‹_›))
  refine FinK.val1 ?_ ?_
  all_goals (try refine amF (h := ?_))
  all_goals (try with_reducible apply True.intro)
set_option maxHeartbeats 8000000 in
theorem implScoreOk (n : Int) (x : DScore) (u v : Bool) (hx : okScore (2 ^ 47) x) : ACalls Try.prog 19 [.one (.int .i64 n), .agg (cScore u v x)] (fun r => r = .val (.one (.bool (scoreOk n x)))) := by
  have hl := hx.1.1
  have hll := hx.2.1
  have nt : Try.f19.ntmps = 95 := rfl
  have rs : Try.f19.results = #[.tmp 4] := rfl
  refine ACalls.of_run (m := 400) mixed Try.func19 rfl rfl (Nat.le_of_ble_eq_true rfl) ?_
  simp only [nt, rs]
  clear nt rs
  (try refine am (h := ?_)); (try with_reducible apply True.intro)
  first | refine CallK.one (within n 2 3) (fun _ => amC) ?_ | refine CallE.one (within n 2 3) (fun _ => amC) rfl ?_ | refine CallG.one rfl (fun hg => within n 2 3) ?_ | refine CallEG.one rfl rfl (fun hg => within n 2 3) ?_ | refine CallCE.one (within n 2 3) (fun _ => amC) rfl ?_
  (try refine am (h := ?_)); (try with_reducible apply True.intro)
  repeat' (first | (with_reducible refine And.intro ?_ ?_) | (with_reducible intro _))
  all_goals try (first | omega | with_reducible rfl | ((with_reducible refine eqId ?_); exact rfl) | with_reducible (first | assumption | exact pl ‹_› | exact pr ‹_› | exact plr ‹_› | exact pll ‹_› | exact prl ‹_› | exact plll ‹_› | exact prll ‹_›))
  · rw [scoreOk_false (fun h => by have := h.1.1; have := h.1.2.1; omega)]
    refine FinK.val1 ?_ ?_
    all_goals (try refine amF (h := ?_))
    all_goals (try with_reducible apply True.intro)
  refine LoopK.auto (Nat) (fun i => [(24, .one (.av (.int .i64 i)))]) (fun i => []) [0, 3, 22, 23] (k0 := ?k04) (keepH := ?kh4) 400 (fun i => i ≤ x.table.length ∧ (∀ k, k < i → rowOk n (x.table.getD k []))) (fun i => x.table.length - i) (0) ?kea4 ?keb4 ?_ ?_ ?_
  case kea4 => exact amN
  case keb4 => exact amN
  · exact ⟨Nat.zero_le _, fun k hk => by omega⟩
  · refine Le.auto [] (r0 := ?r012) (ren := ?ren12) ?ea12 ?eb12 ?a12 ?b12 ?c12 ?d12 ?ho12 ?hn12 ?ht12
    case ea12 => exact amR
    case eb12 => exact amR
    case a12 => exact rfl
    case b12 => exact rfl
    case c12 => exact rfl
    case d12 => exact rfl
    all_goals (try refine amL (h := ?_))
    all_goals (try with_reducible apply True.intro)
    all_goals first | rfl | exact ⟨rfl, rfl⟩
  rename_i hn0
  obtain ⟨hn, hlen⟩ := hn0
  · rintro i ⟨hi, hr⟩
    by_cases hlt : i < x.table.length
    · have hrow := (hx.1.2 _ (getD_mem (d := []) hlt)).1
      (try refine am (h := ?_)); (try with_reducible apply True.intro)
      repeat' (first | (with_reducible refine And.intro ?_ ?_) | (with_reducible intro _))
      all_goals try (first | omega | with_reducible rfl | ((with_reducible refine eqId ?_); exact rfl) | with_reducible (first | assumption | exact pl ‹_› | exact pr ‹_› | exact plr ‹_› | exact pll ‹_› | exact prl ‹_› | exact plll ‹_› | exact prll ‹_›))
      first | refine CallG.one rfl (fun hg => containsFuncI0 (x.table.getD i []) _ _ _ _ (fun z => !decide (0 ≤ z ∧ z ≤ 9999)) hrow (fun z hz => scoreOk1C z)) ?_ | refine CallEG.one rfl rfl (fun hg => containsFuncI0 (x.table.getD i []) _ _ _ _ (fun z => !decide (0 ≤ z ∧ z ≤ 9999)) hrow (fun z hz => scoreOk1C z)) ?_
      (try refine am (h := ?_)); (try with_reducible apply True.intro)
      repeat' (first | (with_reducible refine And.intro ?_ ?_) | (with_reducible intro _))
      all_goals try (first | omega | with_reducible rfl | ((with_reducible refine eqId ?_); exact rfl) | with_reducible (first | assumption | exact pl ‹_› | exact pr ‹_› | exact plr ‹_› | exact pll ‹_› | exact prl ‹_› | exact plll ‹_› | exact prll ‹_›))
      · rw [scoreOk_false (fun h => ?_)]
        · refine FinK.val1 ?_ ?_
          all_goals (try refine amF (h := ?_))
          all_goals (try with_reducible apply True.intro)
        · rename_i hh
          have h1 := h.1.2.2 i hlt
          rcases hh with hh | hh
          · exact hh h1.1
          · rw [rowOk_any h1] at hh
            cases hh
      · rename_i hh
        refine ⟨i + 1, ?_, ⟨by omega, fun k hk => ?_⟩, by omega⟩
        · refine Le.auto [] (r0 := ?r013) (ren := ?ren13) ?ea13 ?eb13 ?a13 ?b13 ?c13 ?d13 ?ho13 ?hn13 ?ht13
          case ea13 => exact amR
          case eb13 => exact amR
          case a13 => exact rfl
          case b13 => exact rfl
          case c13 => exact rfl
          case d13 => exact rfl
          all_goals (try refine amL (h := ?_))
          all_goals (try with_reducible apply True.intro)
          all_goals rfl
        · by_cases e : k = i
          · subst e
            exact rowOk_of hh.1 hh.2
          · exact hr k (by omega)
    · have ei : i = x.table.length := by omega
      subst ei
      have hs := allSum_bd (t := x.table) hn.2 x.table.length (fun k hk _ => hr k hk)
      rw [List.take_length] at hs
      (try refine am (h := ?_)); (try with_reducible apply True.intro)
      repeat' (first | (with_reducible refine And.intro ?_ ?_) | (with_reducible intro _))
      all_goals try (first | omega | with_reducible rfl | ((with_reducible refine eqId ?_); exact rfl) | with_reducible (first | assumption | exact pl ‹_› | exact pr ‹_› | exact plr ‹_› | exact pll ‹_› | exact prl ‹_› | exact plll ‹_› | exact prll ‹_›))
      first | refine CallK.one (tableSumC n x.table _ _ hn.2 (by omega) hr) (fun _ => amC) ?_ | refine CallE.one (tableSumC n x.table _ _ hn.2 (by omega) hr) (fun _ => amC) rfl ?_ | refine CallG.one rfl (fun hg => tableSumC n x.table _ _ hn.2 (by omega) hr) ?_ | refine CallEG.one rfl rfl (fun hg => tableSumC n x.table _ _ hn.2 (by omega) hr) ?_ | refine CallCE.one (tableSumC n x.table _ _ hn.2 (by omega) hr) (fun _ => amC) rfl ?_
      (try refine am (h := ?_)); (try with_reducible apply True.intro)
      repeat' (first | (with_reducible refine And.intro ?_ ?_) | (with_reducible intro _))
      all_goals try (first | omega | with_reducible rfl | ((with_reducible refine eqId ?_); exact rfl) | with_reducible (first | assumption | exact pl ‹_› | exact pr ‹_› | exact plr ‹_› | exact pll ‹_› | exact prl ‹_› | exact plll ‹_› | exact prll ‹_›))
      · rw [scoreOk_false (fun h => ?_)]
        · refine FinK.val1 ?_ ?_
          all_goals (try refine amF (h := ?_))
          all_goals (try with_reducible apply True.intro)
        · rename_i hh
          have h3 := h.2.2.1
          omega
      rename_i hall
      refine LoopK.intro ((Nat × List (Int × Int × Int))) (fun k => [(54, .one (.av (.int .i64 k.1))), (8, .one (.own 303 [] [0]))]) (fun k => [(303, ⟨.mp k.2, []⟩)]) [0, 3, 52, 53] [1] 900 (fun k => k.1 ≤ x.last.length ∧ (∀ m, m < k.1 → lastOk n x m) ∧ mapOk k.2 x.last k.1) (fun k => x.last.length - k.1) ((0, [])) ?_ ?_ ?_
      · exact ⟨Nat.zero_le _, fun m hm => by simp at hm, Nat.le_refl _, fun a b => rfl⟩
      · refine Le.auto [] (r0 := ?r014) (ren := ?ren14) ?ea14 ?eb14 ?a14 ?b14 ?c14 ?d14 ?ho14 ?hn14 ?ht14
        case ea14 => exact amR
        case eb14 => exact amR
        case a14 => exact rfl
        case b14 => exact rfl
        case c14 => exact rfl
        case d14 => exact rfl
        all_goals (try refine amL (h := ?_))
        all_goals (try with_reducible apply True.intro)
        all_goals exact .refl _
      · rintro ⟨k, es⟩ ⟨hk, hlo, hmo⟩
        dsimp only at hk hlo hmo ⊢
        by_cases hkl : k < x.last.length
        · have hg := hmo.2 (x.last.getD k default).truth (x.last.getD k default).said
          have hb := pcnt_bd (x.last.take k) (x.last.getD k default).truth (x.last.getD k default).said
          have hbl : (x.last.take k).length ≤ x.last.length := by simp; omega
          have hix := @mix_lt es (x.last.getD k default).truth (x.last.getD k default).said
          have hel := hmo.1
          have hput := mapOk_put hmo hkl
          (try refine am (h := ?_)); (try with_reducible apply True.intro)
          repeat' (first | (with_reducible refine And.intro ?_ ?_) | (with_reducible intro _))
          all_goals try (first | omega | with_reducible rfl | ((with_reducible refine eqId ?_); exact rfl) | with_reducible (first | assumption | exact pl ‹_› | exact pr ‹_› | exact plr ‹_› | exact pll ‹_› | exact prl ‹_› | exact plll ‹_› | exact prll ‹_›))
          have hrt : (0 ≤ (x.last.getD k default).truth ∧ (x.last.getD k default).truth ≤ n - 1) → ((x.table.getD (x.last.getD k default).truth.toNat []).length : Int) = n := fun h => (hr _ (by omega)).1
          refine CallE.one (within (x.last.getD k default).truth 0 (n - 1)) (fun _ => amC) rfl ?_
          (try refine am (h := ?_)); (try with_reducible apply True.intro)
          repeat' (first | (with_reducible refine And.intro ?_ ?_) | (with_reducible intro _))
          all_goals try (first | omega | with_reducible rfl | ((with_reducible refine eqId ?_); exact rfl) | with_reducible (first | assumption | exact pl ‹_› | exact pr ‹_› | exact plr ‹_› | exact pll ‹_› | exact prl ‹_› | exact plll ‹_› | exact prll ‹_›))
          refine CallEG.one rfl rfl (fun hg => within (x.last.getD k default).said 0 (n - 1)) ?_
          (try refine am (h := ?_)); (try with_reducible apply True.intro)
          repeat' (first | (with_reducible refine And.intro ?_ ?_) | (with_reducible intro _))
          all_goals try (first | omega | with_reducible rfl | ((with_reducible refine eqId ?_); exact rfl) | with_reducible (first | assumption | exact pl ‹_› | exact pr ‹_› | exact plr ‹_› | exact pll ‹_› | exact prl ‹_› | exact plll ‹_› | exact prll ‹_›))
          · rw [scoreOk_false (fun h => ?_)]
            · refine FinK.val1 ?_ ?_
              all_goals (try refine amF (h := ?_))
              all_goals (try with_reducible apply True.intro)
            · rename_i hh
              obtain ⟨h1, h2⟩ := scOk_last h hkl
              rw [hput.2] at hh
              unfold tab at h2
              unfold pairOk at h1
              omega
          · rename_i hh
            refine ⟨(k + 1, mset (ment es (x.last.getD k default).truth (x.last.getD k default).said) (mix es (x.last.getD k default).truth (x.last.getD k default).said) (mget es (x.last.getD k default).truth (x.last.getD k default).said + 1)), ?_, ⟨by simp only; omega, fun m hm => ?_, hput⟩, by simp only; omega⟩
            · refine Le.auto [] (r0 := ?r015) (ren := ?ren15) ?ea15 ?eb15 ?a15 ?b15 ?c15 ?d15 ?ho15 ?hn15 ?ht15
              case ea15 => exact amR
              case eb15 => exact amR
              case a15 => exact rfl
              case b15 => exact rfl
              case c15 => exact rfl
              case d15 => exact rfl
              all_goals (try refine amL (h := ?_))
              all_goals (try with_reducible apply True.intro)
              all_goals exact .refl _
            · by_cases e : m = k
              · subst e
                rw [hput.2] at hh
                exact ⟨⟨by omega, by omega⟩, by unfold tab; omega⟩
              · exact hlo m (by simp only at hm; omega)
        · (try refine am (h := ?_)); (try with_reducible apply True.intro)
          repeat' (first | (with_reducible refine And.intro ?_ ?_) | (with_reducible intro _))
          all_goals try (first | omega | with_reducible rfl | ((with_reducible refine eqId ?_); exact rfl) | with_reducible (first | assumption | exact pl ‹_› | exact pr ‹_› | exact plr ‹_› | exact pll ‹_› | exact prl ‹_› | exact plll ‹_› | exact prll ‹_›))
          rw [scoreOk_true ?_]
          · refine FinK.val1 ?_ ?_
            all_goals (try refine amF (h := ?_))
            all_goals (try with_reducible apply True.intro)
          · have hlo2 : ∀ m, m < x.last.length → lastOk n x m := fun m hm => hlo m (by omega)
            refine ⟨⟨hn, hlen, hr⟩, fun a b ha hb => ?_, ⟨by omega, hall.2⟩, fun m hm => (hlo2 m hm).1⟩
            have := last_cnt hlo2 (fun a b ha hb => (rows_tab hlen hr a b ha hb).1) a b ha hb x.last.length (Nat.le_refl _)
            rwa [List.take_length] at this
end Go.AM
