/- Scores: tables and the last predictions. -/
import Derived.Test.YtbfofhfeghfpoaaData
import Derived.Test.YtbfofhfeghfpoaaAm2
import Derived.Test.YtbfofhfeghfpoaaAm4
import Derived.Laws.IdiomCopy
import Derived.Deep.Draws
import Derived.Test.YtbfofhfeghfpoaaTy
import Derived.Shelf.Slices.Cells
import Derived.Ground.Names2Prog
import Derived.Shelf.Slices.Delete
namespace Go.AM
open Go
def pcnt : List DPair → Int → Int → Int
  | [], _, _ => 0
  | p :: r, a, b => (if p.truth = a ∧ p.said = b then 1 else 0) + pcnt r a b
theorem pcnt_app : ∀ (l m : List DPair) (a b : Int), pcnt (l ++ m) a b = pcnt l a b + pcnt m a b
  | [], m, a, b => by simp [pcnt]
  | p :: r, m, a, b => by simp only [List.cons_append, pcnt, pcnt_app r m a b]; omega
theorem pcnt_bd : ∀ (l : List DPair) (a b : Int), 0 ≤ pcnt l a b ∧ pcnt l a b ≤ l.length
  | [], a, b => by simp [pcnt]
  | p :: r, a, b => by
    have := pcnt_bd r a b
    simp only [pcnt, List.length_cons, Int.natCast_add, Int.natCast_one]
    split <;> omega
theorem pcnt_take {l : List DPair} {i : Nat} (h : i < l.length) (a b : Int) : pcnt (l.take (i + 1)) a b = pcnt (l.take i) a b + (if (l.getD i default).truth = a ∧ (l.getD i default).said = b then 1 else 0) := by
  rw [take_succ (d := default) h, pcnt_app]
  simp [pcnt]
theorem pcnt_take_le (l : List DPair) (i : Nat) (a b : Int) : pcnt (l.take i) a b ≤ pcnt l a b := by
  have h := pcnt_app (l.take i) (l.drop i) a b
  rw [List.take_append_drop] at h
  have := pcnt_bd (l.drop i) a b
  omega
def allSum : List (List Int) → Int
  | [] => 0
  | r :: t => tot1 r + allSum t
theorem allSum_app : ∀ (l m : List (List Int)), allSum (l ++ m) = allSum l + allSum m
  | [], m => by simp [allSum]
  | p :: r, m => by simp only [List.cons_append, allSum, allSum_app r m]; omega
theorem allSum_take {l : List (List Int)} {i : Nat} (h : i < l.length) : allSum (l.take (i + 1)) = allSum (l.take i) + tot1 (l.getD i []) := by
  rw [take_succ (d := []) h, allSum_app]
  simp [allSum]
def tab (x : DScore) (i j : Nat) : Int := (x.table.getD i []).getD j 0
def rowOk (n : Int) (r : List Int) : Prop := (r.length : Int) = n ∧ ∀ j, j < r.length → 0 ≤ r.getD j 0 ∧ r.getD j 0 ≤ 9999
def pairOk (n : Int) (p : DPair) : Prop := (0 ≤ p.truth ∧ p.truth ≤ n - 1) ∧ 0 ≤ p.said ∧ p.said ≤ n - 1
def scOk (n : Int) (x : DScore) : Prop :=
  ((2 ≤ n ∧ n ≤ 3) ∧ (x.table.length : Int) = n ∧ (∀ i, i < x.table.length → rowOk n (x.table.getD i []))) ∧ (∀ i j : Nat, (i : Int) < n → (j : Int) < n → pcnt x.last i j ≤ tab x i j) ∧
    (allSum x.table ≤ 9999 ∧ (x.last.length : Int) = (if 20 < allSum x.table then 20 else allSum x.table)) ∧ ∀ k, k < x.last.length → pairOk n (x.last.getD k default)
open Classical in
noncomputable def scoreOk (n : Int) (x : DScore) : Bool := decide (scOk n x)
theorem scoreOk_true {n : Int} {x : DScore} (h : scOk n x) : scoreOk n x = true := @decide_eq_true _ (Classical.propDecidable _) h
theorem scoreOk_false {n : Int} {x : DScore} (h : ¬ scOk n x) : scoreOk n x = false := @decide_eq_false _ (Classical.propDecidable _) h
theorem rowOk_bd {n : Int} {r : List Int} (hn : n ≤ 3) (h : rowOk n r) (i : Nat) : 0 ≤ tot1 (r.take i) ∧ tot1 (r.take i) ≤ 29997 := by
  have hl := h.1
  have := tot1_take_bd (l := r) (c := 9999) (by omega) h.2 i
  have h2 : (r.take i).length ≤ r.length := by simp; omega
  have h3 : (9999 : Int) * (r.take i).length ≤ 9999 * 3 := by omega
  have h4 : (9999 : Int) * r.length ≤ 9999 * 3 := by omega
  omega
theorem rowOk_tot {n : Int} {r : List Int} (hn : n ≤ 3) (h : rowOk n r) : 0 ≤ tot1 r ∧ tot1 r ≤ 29997 := by
  have := rowOk_bd hn h r.length
  rwa [List.take_length] at this
theorem allSum_bd {n : Int} {t : List (List Int)} (hn : n ≤ 3) : ∀ i, (∀ k, k < i → k < t.length → rowOk n (t.getD k [])) → 0 ≤ allSum (t.take i) ∧ allSum (t.take i) ≤ 29997 * i
  | 0, _ => by simp [allSum]
  | i + 1, h => by
    have ih := allSum_bd (t := t) hn i (fun k hk => h k (by omega))
    by_cases hi : i < t.length
    · rw [allSum_take hi]
      have := rowOk_tot hn (h i (by omega) hi)
      simp only [Int.natCast_add, Int.natCast_one]
      omega
    · rw [List.take_of_length_le (by omega)] at ih ⊢
      simp only [Int.natCast_add, Int.natCast_one]
      omega
theorem rowOk_any {n : Int} {r : List Int} (h : rowOk n r) : (r.any fun z => !decide (0 ≤ z ∧ z ≤ 9999)) = false := by
  rw [List.any_eq_false]
  intro z hz
  obtain ⟨j, hj, rfl⟩ := List.getElem_of_mem hz
  have := h.2 j hj
  rw [show r.getD j 0 = r[j] by simp [List.getD, hj]] at this
  simp [this.1, this.2]
theorem rowOk_of {n : Int} {r : List Int} (h1 : (r.length : Int) = n) (h : (r.any fun z => !decide (0 ≤ z ∧ z ≤ 9999)) = false) : rowOk n r := by
  refine ⟨h1, fun j hj => ?_⟩
  rw [List.any_eq_false] at h
  have := h r[j] (List.getElem_mem hj)
  rw [show r.getD j 0 = r[j] by simp [List.getD, hj]]
  simpa using this
theorem okScore_47 {x : DScore} (h : okScore (2 ^ 40) x) : okScore (2 ^ 47) x := by
  have h1 := h.1.1
  have h2 := h.2.1
  exact ⟨⟨by omega, fun r hr => ⟨by have := (h.1.2 r hr).1; omega, (h.1.2 r hr).2⟩⟩, by omega, h.2.2⟩
def mapOk (es : List (Int × Int × Int)) (l : List DPair) (k : Nat) : Prop := es.length ≤ k ∧ ∀ a b, mget es a b = pcnt (l.take k) a b
theorem mapOk_put {es : List (Int × Int × Int)} {l : List DPair} {k : Nat} (h : mapOk es l k) (hk : k < l.length) : mapOk (mset (ment es (l.getD k default).truth (l.getD k default).said) (mix es (l.getD k default).truth (l.getD k default).said) (mget es (l.getD k default).truth (l.getD k default).said + 1)) l (k + 1) := by
  refine ⟨?_, fun a b => ?_⟩
  · rw [mset_len]
    unfold ment
    have := h.1
    split
    · omega
    · simp; omega
  · rw [mget_put, pcnt_take hk, h.2, h.2]
    by_cases e : (l.getD k default).truth = a ∧ (l.getD k default).said = b
    · obtain ⟨rfl, rfl⟩ := e
      simp
    · rw [if_neg e, if_neg (fun e2 => e ⟨e2.1.symm, e2.2.symm⟩), Int.add_zero]
def lastOk (n : Int) (x : DScore) (k : Nat) : Prop := pairOk n (x.last.getD k default) ∧ pcnt (x.last.take (k + 1)) (x.last.getD k default).truth (x.last.getD k default).said ≤ tab x (x.last.getD k default).truth.toNat (x.last.getD k default).said.toNat
theorem scOk_last {n : Int} {x : DScore} (h : scOk n x) {k : Nat} (hk : k < x.last.length) : lastOk n x k := by
  have h1 := h.2.2.2 k hk
  refine ⟨h1, ?_⟩
  obtain ⟨⟨a1, a2⟩, b1, b2⟩ := h1
  have h2 := h.2.1 (x.last.getD k default).truth.toNat (x.last.getD k default).said.toNat (by omega) (by omega)
  rw [Int.toNat_of_nonneg a1, Int.toNat_of_nonneg b1] at h2
  exact Int.le_trans (pcnt_take_le _ _ _ _) h2
theorem last_cnt {n : Int} {x : DScore} (h : ∀ k, k < x.last.length → lastOk n x k) (h0 : ∀ i j : Nat, (i : Int) < n → (j : Int) < n → 0 ≤ tab x i j) (i j : Nat) (hi : (i : Int) < n) (hj : (j : Int) < n) : ∀ k, k ≤ x.last.length → pcnt (x.last.take k) i j ≤ tab x i j
  | 0, _ => by simpa [pcnt] using h0 i j hi hj
  | k + 1, hk => by
    by_cases e : (x.last.getD k default).truth = i ∧ (x.last.getD k default).said = j
    · have := (h k (by omega)).2
      rw [e.1, e.2] at this
      simpa using this
    · rw [pcnt_take (by omega), if_neg e, Int.add_zero]
      exact last_cnt h h0 i j hi hj k (by omega)
theorem rows_tab {n : Int} {x : DScore} (hl : (x.table.length : Int) = n) (hr : ∀ i, i < x.table.length → rowOk n (x.table.getD i [])) (i j : Nat) (hi : (i : Int) < n) (hj : (j : Int) < n) : 0 ≤ tab x i j ∧ tab x i j ≤ 9999 := by
  have := hr i (by omega)
  exact this.2 j (by have := this.1; omega)
def eqc : List DPair → Int
  | [] => 0
  | p :: r => (if p.truth = p.said then 1 else 0) + eqc r
theorem eqc_app : ∀ (l m : List DPair), eqc (l ++ m) = eqc l + eqc m
  | [], m => by simp [eqc]
  | p :: r, m => by simp only [List.cons_append, eqc, eqc_app r m]; omega
theorem eqc_bd : ∀ l : List DPair, 0 ≤ eqc l ∧ eqc l ≤ l.length
  | [] => by simp [eqc]
  | p :: r => by
    have := eqc_bd r
    simp only [eqc, List.length_cons, Int.natCast_add, Int.natCast_one]
    split <;> omega
theorem eqc_take {l : List DPair} {i : Nat} (h : i < l.length) : eqc (l.take (i + 1)) = eqc (l.take i) + (if (l.getD i default).truth = (l.getD i default).said then 1 else 0) := by
  rw [take_succ (d := default) h, eqc_app]
  simp [eqc]
end Go.AM
/- Scores: one prediction more. -/
namespace Go.AM
open Go
def scAdd (x : DScore) (t s : Nat) : DScore := ⟨x.table.set t ((x.table.getD t []).set s (tab x t s + 1)), if 20 < x.last.length + 1 then (x.last ++ [(⟨(t : Int), (s : Int)⟩ : DPair)]).drop 1 else x.last ++ [(⟨(t : Int), (s : Int)⟩ : DPair)]⟩
theorem tot1_set : ∀ {l : List Int} {s : Nat} {v : Int}, s < l.length → tot1 (l.set s v) = tot1 l - l.getD s 0 + v
  | [], s, v, h => by simp at h
  | x :: l, 0, v, h => by
    show v + smI id l = x + smI id l - x + v
    omega
  | x :: l, s + 1, v, h => by
    have := tot1_set (l := l) (s := s) (v := v) (by simpa using h)
    unfold tot1 at this
    show x + smI id (l.set s v) = x + smI id l - l.getD s 0 + v
    omega
theorem allSum_set : ∀ {T : List (List Int)} {t : Nat} {r : List Int}, t < T.length → allSum (T.set t r) = allSum T - tot1 (T.getD t []) + tot1 r
  | [], t, r, h => by simp at h
  | x :: T, 0, r, h => by
    show tot1 r + allSum T = tot1 x + allSum T - tot1 x + tot1 r
    omega
  | x :: T, t + 1, r, h => by
    have := allSum_set (T := T) (t := t) (r := r) (by simpa using h)
    show tot1 x + allSum (T.set t r) = tot1 x + allSum T - tot1 (T.getD t []) + tot1 r
    omega
theorem getDset {α : Type} {l : List α} {i k : Nat} {v d : α} (h : i < l.length) : (l.set i v).getD k d = if k = i then v else l.getD k d := by
  rw [List.getD_eq_getElem?_getD, List.getElem?_set]
  by_cases e : k = i
  · subst e; rw [if_pos rfl, if_pos h, if_pos rfl]; rfl
  · rw [if_neg (Ne.symm e), if_neg e, ← List.getD_eq_getElem?_getD]
theorem tab_add {x : DScore} {t s i j : Nat} (ht : t < x.table.length) (hs : s < (x.table.getD t []).length) : tab (scAdd x t s) i j = tab x i j + if i = t ∧ j = s then 1 else 0 := by
  unfold scAdd tab
  dsimp only
  rw [getDset ht]
  by_cases e : i = t
  · subst e
    rw [if_pos rfl, getDset hs]
    by_cases e2 : j = s
    · subst e2; simp
    · simp [e2]
  · simp [e]
theorem scOk_ok {n : Int} {x : DScore} (h : scOk n x) : okScore (2 ^ 40) x := by
  obtain ⟨⟨hn, hl, hr⟩, _, ⟨_, hll⟩, hp⟩ := h
  refine ⟨⟨by omega, fun r hr' => ?_⟩, ⟨by split at hll <;> omega, fun p hp' => ?_⟩⟩
  · obtain ⟨i, hi, rfl⟩ := List.getElem_of_mem hr'
    have := hr i hi
    rw [show x.table.getD i [] = x.table[i] by simp [List.getD, hi]] at this
    refine ⟨by have := this.1; omega, fun z hz => ?_⟩
    obtain ⟨j, hj, rfl⟩ := List.getElem_of_mem hz
    have := this.2 j hj
    rw [show x.table[i].getD j 0 = x.table[i][j] by simp [List.getD, hj]] at this
    exact ⟨by show (-9223372036854775808 : Int) ≤ _; omega, by show _ ≤ (9223372036854775807 : Int); omega⟩
  · obtain ⟨i, hi, rfl⟩ := List.getElem_of_mem hp'
    have := hp i hi
    rw [show x.last.getD i default = x.last[i] by simp [List.getD, hi]] at this
    unfold pairOk at this
    exact ⟨⟨by show (-9223372036854775808 : Int) ≤ _; omega, by show _ ≤ (9223372036854775807 : Int); omega⟩, ⟨by show (-9223372036854775808 : Int) ≤ _; omega, by show _ ≤ (9223372036854775807 : Int); omega⟩⟩
theorem pcnt_drop (l : List DPair) (k : Nat) (a b : Int) : pcnt (l.drop k) a b ≤ pcnt l a b := by
  have h := pcnt_app (l.take k) (l.drop k) a b
  rw [List.take_append_drop] at h
  have := pcnt_bd (l.take k) a b
  omega
theorem scAdd_sum {n : Int} {x : DScore} {t s : Nat} (h : scOk n x) (ht : (t : Int) < n) (hs : (s : Int) < n) : allSum (scAdd x t s).table = allSum x.table + 1 := by
  have hl := h.1.2.1
  have hrow := h.1.2.2 t (by omega)
  have hrl := hrow.1
  unfold scAdd
  dsimp only
  rw [allSum_set (by omega), tot1_set (by omega)]
  unfold tab
  omega
theorem scAdd_last {x : DScore} {t s : Nat} : ∃ k, (scAdd x t s).last = (x.last ++ [(⟨(t : Int), (s : Int)⟩ : DPair)]).drop k ∧ k = if 20 < x.last.length + 1 then 1 else 0 := by
  unfold scAdd
  dsimp only
  split
  · exact ⟨1, rfl, rfl⟩
  · exact ⟨0, rfl, rfl⟩
theorem scAdd_ok {n : Int} {x : DScore} {t s : Nat} (h : scOk n x) (ht : (t : Int) < n) (hs : (s : Int) < n) (hall : allSum x.table < 9999) : scOk n (scAdd x t s) := by
  have hsum := scAdd_sum h ht hs
  obtain ⟨k, ek, ek2⟩ := scAdd_last (x := x) (t := t) (s := s)
  have h' := h
  obtain ⟨⟨hn, hl, hr⟩, hp, ⟨ha, hll⟩, hpk⟩ := h'
  have hrow := hr t (by omega)
  have hrl := hrow.1
  have htl : t < x.table.length := by omega
  have hsl : s < (x.table.getD t []).length := by omega
  have hrt := rowOk_tot hn.2 hrow
  have hl2 : (scAdd x t s).table.length = x.table.length := by unfold scAdd; simp
  have htabs : tab x t s ≤ allSum x.table := by
    have e1 := allSum_set (T := x.table) (t := t) (r := []) htl
    have e2 := tot1_set (l := x.table.getD t []) (s := s) (v := 0) hsl
    have b1 : 0 ≤ allSum (x.table.set t []) := by
      have : ∀ (T : List (List Int)), (∀ i, i < T.length → 0 ≤ tot1 (T.getD i [])) → 0 ≤ allSum T := by
        intro T
        induction T with
        | nil => intro _; simp [allSum]
        | cons y T ih =>
          intro hT
          have h0 := hT 0 (by simp)
          have := ih (fun i hi => by have := hT (i + 1) (by simpa using hi); simpa using this)
          simp only [allSum]
          have h0 : 0 ≤ tot1 y := h0
          omega
      refine this _ (fun i hi => ?_)
      rw [getDset htl]
      split
      · show (0 : Int) ≤ 0; omega
      · exact (rowOk_tot hn.2 (hr i (by simpa using hi))).1
    have b2 : 0 ≤ tot1 ((x.table.getD t []).set s 0) := by
      refine (tot1_bd (c := 9999) (fun i hi => ?_)).1
      rw [getDset hsl]
      split
      · omega
      · exact hrow.2 i (by simpa using hi)
    have e3 : tot1 ([] : List Int) = 0 := rfl
    unfold tab
    omega
  refine ⟨⟨hn, by rw [hl2]; exact hl, fun i hi => ?_⟩, fun i j hi hj => ?_, ⟨by omega, ?_⟩, fun m hm => ?_⟩
  · rw [hl2] at hi
    have hri := hr i hi
    have erow : (scAdd x t s).table.getD i [] = if i = t then (x.table.getD t []).set s (tab x t s + 1) else x.table.getD i [] := by
      unfold scAdd; dsimp only; rw [getDset htl]
    rw [erow]
    by_cases e : i = t
    · subst e
      rw [if_pos rfl]
      refine ⟨by simpa using hri.1, fun j hj => ?_⟩
      rw [getDset hsl]
      by_cases e2 : j = s
      · rw [if_pos e2]
        have := hri.2 s hsl
        unfold tab at *
        omega
      · rw [if_neg e2]; exact hri.2 j (by simpa using hj)
    · rw [if_neg e]; exact hri
  · rw [tab_add htl hsl, ek]
    have h1 := pcnt_drop (x.last ++ [(⟨(t : Int), (s : Int)⟩ : DPair)]) k i j
    rw [pcnt_app] at h1
    have h2 := hp i j hi hj
    have h3 : pcnt [(⟨(t : Int), (s : Int)⟩ : DPair)] i j = if i = t ∧ j = s then 1 else 0 := by
      simp only [pcnt, Int.add_zero]
      by_cases e : i = t ∧ j = s
      · obtain ⟨rfl, rfl⟩ := e; simp
      · rw [if_neg e, if_neg (fun h => e ⟨by omega, by omega⟩)]
    omega
  · rw [ek, List.length_drop, List.length_append, hsum, ek2]
    simp only [List.length_cons, List.length_nil]
    split at hll <;> split <;> split <;> omega
  · rw [ek] at hm ⊢
    rw [List.length_drop, List.length_append] at hm
    simp only [List.length_cons, List.length_nil] at hm
    have eg : ((x.last ++ [(⟨(t : Int), (s : Int)⟩ : DPair)]).drop k).getD m default = (x.last ++ [(⟨(t : Int), (s : Int)⟩ : DPair)]).getD (m + k) default := by
      rw [List.getD_eq_getElem?_getD, List.getElem?_drop, List.getD_eq_getElem?_getD, Nat.add_comm]
    rw [eg, List.getD_eq_getElem?_getD]
    by_cases e : m + k < x.last.length
    · rw [List.getElem?_append_left e, ← List.getD_eq_getElem?_getD]
      exact hpk _ e
    · rw [List.getElem?_append_right (by omega), show m + k - x.last.length = 0 by omega]
      exact ⟨⟨by show (0 : Int) ≤ t; omega, by show (t : Int) ≤ n - 1; omega⟩, by show (0 : Int) ≤ s; omega, by show (s : Int) ≤ n - 1; omega⟩
def diag (x : DScore) : Nat → Int
  | 0 => 0
  | k + 1 => diag x k + tab x k k
theorem diag_add {x : DScore} {t s : Nat} (ht : t < x.table.length) (hs : s < (x.table.getD t []).length) : ∀ k, diag (scAdd x t s) k = diag x k + if t = s ∧ t < k then 1 else 0
  | 0 => by simp [diag]
  | k + 1 => by
    simp only [diag, diag_add ht hs k, tab_add ht hs]
    by_cases e : t = s
    · subst e
      by_cases e2 : k = t
      · have n1 : ¬ (t = t ∧ t < k) := by omega
        have n2 : k = t ∧ k = t := ⟨e2, e2⟩
        have n3 : t = t ∧ t < k + 1 := by omega
        rw [if_neg n1, if_pos n2, if_pos n3]; omega
      · have n2 : ¬ (k = t ∧ k = t) := fun h => e2 h.1
        by_cases e3 : t < k
        · have n1 : t = t ∧ t < k := ⟨rfl, e3⟩
          have n3 : t = t ∧ t < k + 1 := by omega
          rw [if_pos n1, if_neg n2, if_pos n3]; omega
        · have n1 : ¬ (t = t ∧ t < k) := fun h => e3 h.2
          have n3 : ¬ (t = t ∧ t < k + 1) := by omega
          rw [if_neg n1, if_neg n2, if_neg n3]; omega
    · have n1 : ¬ (t = s ∧ t < k) := fun h => e h.1
      have n2 : ¬ (k = t ∧ k = s) := fun h => e (h.1.symm.trans h.2)
      have n3 : ¬ (t = s ∧ t < k + 1) := fun h => e h.1
      rw [if_neg n1, if_neg n2, if_neg n3]; omega
structure ScInv (n : Int) (m : Nat) (h : List DPair) (x : DScore) : Prop where
  ok : scOk n x
  all : allSum x.table = h.length
  dg : diag x n.toNat = eqc h
  last : x.last = h.drop (h.length - 20)
theorem ScInv.step {n : Int} {m : Nat} {h : List DPair} {x : DScore} {t s : Nat} (hi : ScInv n m h x) (ht : (t : Int) < n) (hs : (s : Int) < n) (hl : h.length < 9999) : ScInv n m (h ++ [(⟨(t : Int), (s : Int)⟩ : DPair)]) (scAdd x t s) := by
  obtain ⟨h1, h2, h3, h4⟩ := hi
  have hlen := h1.1.2.1
  have hrow := h1.1.2.2 t (by omega)
  have hrl := hrow.1
  refine ⟨scAdd_ok h1 ht hs (by omega), ?_, ?_, ?_⟩
  · rw [scAdd_sum h1 ht hs, h2]; simp
  · rw [diag_add (by omega) (by omega), h3, eqc_app]
    simp only [eqc, Int.add_zero]
    by_cases e : t = s
    · subst e
      rw [if_pos ⟨rfl, by omega⟩, if_pos rfl]
    · rw [if_neg (fun h => e h.1), if_neg (fun h => e (by omega))]
  · obtain ⟨k, e1, e2⟩ := scAdd_last (x := x) (t := t) (s := s)
    rw [e1, h4]
    have hd : (h.drop (h.length - 20)).length = h.length - (h.length - 20) := List.length_drop
    rw [h4, hd] at e2
    rw [List.length_append]
    simp only [List.length_cons, List.length_nil]
    by_cases hc : 20 ≤ h.length
    · rw [if_pos (by omega)] at e2
      subst e2
      rw [List.drop_append_of_le_length (by rw [hd]; omega), List.drop_drop, List.drop_append_of_le_length (by omega)]
      congr 2
      omega
    · rw [if_neg (by omega)] at e2
      subst e2
      rw [show h.length - 20 = 0 by omega, show h.length + (0 + 1) - 20 = 0 by omega]
      rfl
theorem eqc_step (h : List DPair) (m : Nat) (p : DPair) : eqc ((h ++ [p]).drop (m - 20)) = eqc (h.drop (m - 20)) + if p.truth = p.said ∧ m - 20 ≤ h.length then 1 else 0 := by
  by_cases hc : m - 20 ≤ h.length
  · rw [List.drop_append_of_le_length hc, eqc_app]
    simp only [eqc, Int.add_zero, hc, and_true]
  · rw [List.drop_eq_nil_of_le (by simp; omega), List.drop_eq_nil_of_le (by omega), if_neg (fun h => hc h.2)]
    rfl
end Go.AM
/- Windows: one bit more, one row less, in plain words. -/
namespace Go.AM
open Go
end Go.AM
/- A function that deletes a part of a slice of integers takes its argument over. -/
namespace Go.AM
open Go
theorem setCells_heap (b : Nat) : ∀ (vs : List Value) (o : Nat) (w : World) (c : Array Value) (T : TypeId) (fz : Nat × Nat), w.heap[b]? = some (.cells c T fz) → o + vs.length ≤ c.size →
    Keep w (fun x => x = b) (w.setCells b o vs) ∧ (w.setCells b o vs).heap.size = w.heap.size ∧ ∃ c', (w.setCells b o vs).heap[b]? = some (.cells c' T fz) ∧ c'.size = c.size ∧
      (∀ j, j < vs.length → c'[o + j]? = vs[j]?) ∧ (∀ j, j < o → c'[j]? = c[j]?)
  | [], o, w, c, T, fz, h, _ => ⟨Keep.refl _ _, rfl, c, h, rfl, fun j hj => absurd hj (Nat.not_lt_zero _), fun _ _ => rfl⟩
  | v :: r, o, w, c, T, fz, h, hl => by
    have hl' : o + 1 + r.length ≤ c.size := by simp at hl; omega
    have hb : b < w.heap.size := (Array.getElem?_eq_some_iff.1 h).1
    have h1 : (w.setCell ⟨b, o, none⟩ v).heap[b]? = some (.cells (c.setIfInBounds o v) T fz) := by
      show (w.heap.modify b _)[b]? = _
      rw [Array.getElem?_modify, if_pos rfl, h]
      rfl
    have hsz : (w.setCell ⟨b, o, none⟩ v).heap.size = w.heap.size := by
      show (w.heap.modify b _).size = _
      exact Array.size_modify ..
    have hk : Keep w (fun x => x = b) (w.setCell ⟨b, o, none⟩ v) := ⟨rfl, rfl, rfl, Nat.le_of_eq hsz.symm, fun x _ hx => by
      show (w.heap.modify b _)[x]? = _
      rw [Array.getElem?_modify, if_neg (fun e => hx e.symm)]⟩
    obtain ⟨k1, k2, c', g1, g2, g3, g4⟩ := setCells_heap b r (o + 1) _ _ T fz h1 (by rw [Array.size_setIfInBounds]; exact hl')
    refine ⟨⟨k1.os.trans hk.os, k1.tape.trans hk.tape, k1.output.trans hk.output, Nat.le_trans hk.size k1.size, fun x hx hn => (k1.block x (by rw [hsz]; exact hx) hn).trans (hk.block x hx hn)⟩, k2.trans hsz, c', g1, g2.trans (by rw [Array.size_setIfInBounds]), fun j hj => ?_, fun j hj => ?_⟩
    · cases j with
      | zero => rw [Nat.add_zero, g4 o (by omega), Array.getElem?_setIfInBounds, if_pos rfl, if_pos (by simp at hl; omega)]; rfl
      | succ j =>
        have := g3 j (by simpa using hj)
        rw [show o + (j + 1) = o + 1 + j by omega, this]
        rfl
    · rw [g4 j (by omega), Array.getElem?_setIfInBounds, if_neg (by omega)]
end Go.AM
/- The contract of slices.Delete at integers, as a call that takes its first argument over. -/
namespace Go.AM
open Go Go.Proofs
end Go.AM
namespace Go.AM
open Go Go.Proofs Go.Shelf Go.RowKit Go.Lib Go.Sort
theorem setCells_app (b : Nat) : ∀ (l m : List Value) (o : Nat) (w : World), w.setCells b o (l ++ m) = (w.setCells b o l).setCells b (o + l.length) m
  | [], m, o, w => rfl
  | x :: l, m, o, w => by
    show (w.setCell ⟨b, o, none⟩ x).setCells b (o + 1) (l ++ m) = ((w.setCell ⟨b, o, none⟩ x).setCells b (o + 1) l).setCells b _ m
    rw [setCells_app b l m (o + 1), List.length_cons, show o + 1 + l.length = o + (l.length + 1) by omega]
set_option maxHeartbeats 4000000 in
set_option maxRecDepth 1000000 in
theorem delPair (b cap n : Nat) (zs : List Int) (w : World) (hz : zs.length = 2 * n) (hn : 0 < n) (hcap : n ≤ cap) (hm : cap ≤ 9223372036854775807) {c : Array Value} {T : TypeId} (hblk : w.heap[b]? = some (.cells c T (0, 0))) (hcell : ∀ t, t < 2 * n → c[t]? = some (.int .i64 (zs.getD t 0))) :
    Calls Try.prog 56 #[.slice (some ⟨b, 0, none⟩) n cap, .int .i64 0, .int .i64 1] w fun e w' => e = .returned (.slice (some ⟨b, 0, none⟩) (n - 1) cap) ∧ ∃ q, w' = (w.drewN q).setCells b 0 ((zs.drop 2 ++ [0, 0]).map (.int .i64)) := by
  have hc : ∀ t, t < 2 * n → w.cell? ⟨b, t, none⟩ = some (.int .i64 (zs.getD t 0)) := fun t ht => by
    simp only [World.cell?, hblk]
    exact hcell t ht
  have hf : ∀ t, t < 2 * n → w.frozen? ⟨b, t, none⟩ = false := fun t ht => by
    simp only [World.frozen?, hblk]
    simp
  have mixed : Try.prog.follows .mixedOrders = true := by kernel_rfl
  obtain ⟨i0, hi0, hz1⟩ : ∃ i0, Try.prog.info? 85 = some i0 ∧ i0.size = 2 := ⟨_, rfl, by kernel_rfl⟩
  have t0 := Try.underlying0; have t31 := Try.underlying31; have a31 := Try.isAgg31; have z31 := Try.sizeOf31; have v31 := Try.zeroValue31; have z85 := Try.sizeOf85; have a85 := Try.isAgg85; have v85 := Try.zeroValue85
  have t3 := Try.underlying3; have a3 := Try.isAgg3; have z3 := Try.sizeOf3; have v3 := Try.zeroValue3; have t4 := Try.underlying4; have a4 := Try.isAgg4; have z4 := Try.sizeOf4; have v4 := Try.zeroValue4
  obtain ⟨news, hnews⟩ : ∃ news, news = (zs.drop 2).map (Value.int .i64) := ⟨_, rfl⟩
  have hlen : news.length = 2 * n - 2 := by rw [hnews]; simp; omega
  have hget : ∀ t, t < 2 * n - 2 → news[t]? = some (.int .i64 (zs.getD (2 + t) 0)) := by
    intro t ht
    rw [hnews, List.getElem?_map, List.getElem?_drop, List.getD_eq_getElem?_getD, List.getElem?_eq_getElem (by omega)]
    rfl
  obtain ⟨A, hA, hsrc⟩ : ∃ A : Addr, (if cap = 1 then some (⟨b, 0, none⟩ : Addr) else some ⟨b, 2, none⟩) = some A ∧ Hid (∀ t u, news[t]? = some u → w.drew.cell? (A.add t) = some u) := by
    by_cases h : cap = 1
    · refine ⟨⟨b, 0, none⟩, by simp [h], fun t u hu => ?_⟩
      have h0 : news.length = 0 := by rw [hlen]; omega
      rw [List.length_eq_zero_iff.1 h0] at hu
      simp at hu
    · refine ⟨⟨b, 2, none⟩, by simp [h], fun t u hu => ?_⟩
      have ht : t < 2 * n - 2 := by
        have := (List.getElem?_eq_some_iff.1 hu).1
        rwa [hlen] at this
      rw [hget t ht] at hu
      rw [Addr.add_lit]
      exact (hc (2 + t) (by omega)).trans hu
  have s1 : Hid (news.length = (n - 1) * 2) := by show news.length = _; rw [hlen]; omega
  have s2 : Hid (∀ u ∈ news, u.oneCell' = true) := by
    intro u hu
    rw [hnews] at hu
    obtain ⟨x, _, rfl⟩ := List.mem_map.1 hu
    rfl
  have s3 : Hid (∀ t, t < news.length → (w.drew.cell? ⟨b, 0 + 0 * 2 + t, none⟩).isSome = true ∧ w.drew.frozen? ⟨b, 0 + 0 * 2 + t, none⟩ = false) := by
    intro t ht
    rw [hlen] at ht
    rw [show 0 + 0 * 2 + t = t by omega]
    exact ⟨by show (w.cell? _).isSome = true; rw [hc t (by omega)]; rfl, hf t (by omega)⟩
  obtain ⟨W1, hW1⟩ : ∃ W1, W1 = w.drew.setCells b (0 + 0 * 2) news := ⟨_, rfl⟩
  have hW : Hid (W1 = w.drew.setCells b (0 + 0 * 2) news) := hW1
  have hcl : ∀ ty, (Builtin.clear_ #[31] ty #[.slice (some ⟨b, (n - 1) * 2, none⟩) (n - (n - 1)) (cap - (n - 1))]).run Try.prog W1 = .ok (.tuple #[]) (W1.setCells b ((n - 1) * 2) [.int .i64 0, .int .i64 0]) := by
    intro ty
    have hsz : 2 * n ≤ c.size := by
      have := (Array.getElem?_eq_some_iff.1 (hcell (2 * n - 1) (by omega))).1
      omega
    obtain ⟨_, _, c', g1, g2, _, g4⟩ := setCells_heap b news (0 + 0 * 2) w.drew c T (0, 0) hblk (by rw [hlen]; omega)
    rw [← hW1] at g1
    rw [show n - (n - 1) = 1 by omega]
    have hst := run_storeCells_cells (P := Try.prog) b ((n - 1) * 2) [.int .i64 0, .int .i64 0] 0 W1 (fun j hj => by
      have hj : j < 2 := hj
      simp only [World.cell?, g1]
      have : (n - 1) * 2 + 0 + j < c'.size := by rw [g2]; omega
      show (c'[(n - 1) * 2 + 0 + j]?).isSome = true
      rw [Array.getElem?_eq_getElem this]
      rfl) (fun j hj => by
      simp only [World.frozen?, g1]
      simp) (fun v hv => by
      simp only [List.mem_cons, List.not_mem_nil, or_false, or_self] at hv
      subst hv; rfl)
    have hzc : (Builtin.zeroCells (Value.agg #[Value.int IntKind.i64 0, Value.int IntKind.i64 0]).cells 1).toList = [.int .i64 0, .int .i64 0] := by
      simp [Builtin.zeroCells, Value.cells, List.range_succ]
    rw [Nat.add_zero] at hst
    simp [Builtin.clear_, run_underlying t31, v85, hzc, hst]
  have hne : ¬ cap = n - 1 := by omega
  have hle : ((n - 1 : Nat) : Int) ≤ (n : Int) := by omega
  have hle2 : n - 1 ≤ n := by omega
  have h1n : (1 : Int) ≤ (n : Int) := by omega
  have X : Hid (news = (zs.drop 2).map (Value.int .i64)) := hnews
  clear hW1 hget hc hf hlen hnews hcell hblk
  go_enter Try.func56, Try.ntmps56
  go_wp2_with fail
  go_region_law_o (refine step_append_room rfl (.tmp 22) (.tmp 25) 31 rfl 85 i0 2 t31 hi0 hz1 b 0 0 cap (by simp [Act.eval, Act.put]) A (n - 1) (cap - 1) news (by simp [Act.eval, Act.put]) s1.out hsrc.out s2.out (by omega) s3.out ?_; rw [← hW.out])
  go_wp2
  go_ret
  refine ⟨rfl, 1, ?_⟩
  rw [hW.out, List.map_append, setCells_app, ← X.out, s1.out]
  simp only [Nat.zero_mul, Nat.zero_add, Nat.add_zero]
  rfl
def flatP : List DPair → List Int
  | [] => []
  | p :: r => p.truth :: p.said :: flatP r
theorem flatP_len : ∀ l : List DPair, (flatP l).length = 2 * l.length
  | [] => rfl
  | p :: r => by simp only [flatP, List.length_cons, flatP_len r]; omega
theorem flatP_get : ∀ (l : List DPair) (t : Nat), t < l.length → (flatP l)[t * 2]? = some (l.getD t default).truth ∧ (flatP l)[t * 2 + 1]? = some (l.getD t default).said
  | [], t, h => by simp at h
  | p :: r, 0, h => ⟨rfl, rfl⟩
  | p :: r, t + 1, h => by
    have := flatP_get r t (by simpa using h)
    rw [show (t + 1) * 2 = t * 2 + 1 + 1 by omega]
    simpa [flatP] using this
theorem flatP_drop (l : List DPair) (h : 0 < l.length) : (flatP l).drop 2 = flatP (l.drop 1) := by
  cases l with
  | nil => simp at h
  | cons p r => simp [flatP]
set_option maxHeartbeats 1000000 in
theorem c_delP {nl : Option Bool} {l : List DPair} (hl : 0 < l.length) : ATake Try.prog 56 (.sl true nl 2 l.length (fPair l)) [.one (.int .i64 0), .one (.int .i64 1)] (.sl true none 2 (l.drop 1).length (fPair (l.drop 1))) := by
  refine ⟨enter_of Try.func56 rfl rfl, fun own0 w vs v0 hown hrt hvs hv0 how hargs => ?_⟩
  obtain ⟨v1, a1, b1⟩ := hargs 0 _ rfl
  obtain ⟨v2, a2, b2⟩ := hargs 1 _ rfl
  obtain ⟨rfl, _⟩ := b1
  obtain ⟨rfl, _⟩ := b2
  have hvs' : vs = #[v0, .int .i64 0, .int .i64 1] := by
    obtain ⟨L⟩ := vs
    match L, hvs with
    | [x, y, z], _ =>
      simp only [List.getElem?_toArray, List.getElem?_cons_zero, List.getElem?_cons_succ, Option.some.injEq] at hv0 a1 a2
      rw [hv0, a1, a2]
  subst hvs'
  rcases how with ⟨h0, _⟩ | ⟨b, cap, c, T, rfl, hnl, hob, hblk, hnc, hcm, hcs, hcells⟩
  · omega
  have hK : ∀ t, t < l.length → (c[t * 2]? = some (.int .i64 (l.getD t default).truth) ∧ inK .i64 (l.getD t default).truth) ∧ c[t * 2 + 1]? = some (.int .i64 (l.getD t default).said) ∧ inK .i64 (l.getD t default).said := by
    intro t ht
    obtain ⟨x, e1, e2⟩ := hcells t ht 0 (by omega)
    obtain ⟨y, e3, e4⟩ := hcells t ht 1 (by omega)
    have e2 : x = .int .i64 (l.getD t default).truth ∧ inK .i64 (l.getD t default).truth := e2
    have e4 : y = .int .i64 (l.getD t default).said ∧ inK .i64 (l.getD t default).said := e4
    exact ⟨⟨by rw [← e2.1]; simpa using e1, e2.2⟩, by rw [← e4.1]; exact e3, e4.2⟩
  have hflat := flatP_len l
  have hcell : ∀ t, t < 2 * l.length → c[t]? = some (.int .i64 ((flatP l).getD t 0)) := by
    intro t ht
    have hk := hK (t / 2) (by omega)
    have hg := flatP_get l (t / 2) (by omega)
    rcases (show t = t / 2 * 2 ∨ t = t / 2 * 2 + 1 by omega) with e | e
    · rw [List.getD_eq_getElem?_getD]
      rw [e, hg.1, hk.1.1]
      rfl
    · rw [List.getD_eq_getElem?_getD]
      rw [e, hg.2, hk.2.1]
      rfl
  refine (delPair b cap l.length (flatP l) w hflat hl hnc (by simpa [maxLen] using hcm) hblk hcell).mono ?_
  rintro e w' ⟨rfl, q, rfl⟩
  have hcsz : 2 * l.length ≤ c.size := by rw [hcs]; omega
  have hdl := flatP_len (l.drop 1)
  have hdl2 : (l.drop 1).length = l.length - 1 := by simp
  obtain ⟨k1, k2, c', g1, g2, g3, g4⟩ := setCells_heap b (((flatP l).drop 2 ++ [0, 0]).map (Value.int .i64)) 0 (w.drewN q) c T (0, 0) hblk (by simp only [List.length_map, List.length_append, List.length_drop, List.length_cons, List.length_nil]; omega)
  rw [flatP_drop l hl] at *
  refine ⟨_, rfl, ⟨k1.os, k1.tape, k1.output, k1.size, fun x hx hn => k1.block x hx (fun e => hn ⟨[], by rw [e]; exact hob⟩)⟩, own0, fun x y e => ?_, fun x hx e => e, fun x e => e, fun x k p hx e hk => ?_, .inr ⟨b, cap, c', T, ?_, by simp, hob, g1, ?_, hcm, g2.trans hcs, fun t ht u hu => ?_⟩⟩
  · rw [k2]; exact hown x (by rw [e]; exact fun h => nomatch h)
  · rcases hrt x k p e with ⟨h0, _⟩ | h1
    · exact absurd h0 hk
    · exact ⟨p, by rw [← h1]; exact e⟩
  · rw [hdl2]
  · rw [hdl2]; omega
  · have hg := flatP_get (l.drop 1) t ht
    have hgd : (l.drop 1).getD t default = l.getD (t + 1) default := by
      rw [List.getD_eq_getElem?_getD, List.getElem?_drop, List.getD_eq_getElem?_getD, Nat.add_comm]
    have hk := hK (t + 1) (by omega)
    have e1 := g3 (t * 2 + u) (by simp only [List.length_map, List.length_append, List.length_cons, List.length_nil]; omega)
    rw [List.getElem?_map, List.getElem?_append_left (by omega), Nat.zero_add] at e1
    rcases (show u = 0 ∨ u = 1 by omega) with rfl | rfl
    · rw [Nat.add_zero, hg.1] at e1
      refine ⟨_, by rw [Nat.add_zero]; exact e1, rfl, ?_⟩
      rw [hgd]; exact hk.1.2
    · rw [hg.2] at e1
      refine ⟨_, e1, rfl, ?_⟩
      rw [hgd]; exact hk.2.2
theorem ATake.le {P : Program} {f : FuncId} {a b x : AV} {args : List AT} (h : ATake P f b args x) (hle : ALe a b) : ATake P f a args x :=
  ⟨h.enter, fun own0 w vs v0 h1 h2 h3 h4 h5 h6 => h.calls own0 w vs v0 h1 h2 h3 h4 (hle.ow h5) h6⟩
theorem c_delPA {l : List DPair} {p : DPair} : ATake Try.prog 56 (.sl true none 2 (l.length + 1) (apF l.length (fPair l) (rowsF [[.int .i64 p.truth, .int .i64 p.said]]))) [.one (.int .i64 0), .one (.int .i64 1)] (.sl true none 2 ((l ++ [p]).drop 1).length (fPair ((l ++ [p]).drop 1))) :=
  (c_delP (nl := none) (l := l ++ [p]) (by simp)).le (appLe1 rfl rfl (.inl rfl))
end Go.AM
