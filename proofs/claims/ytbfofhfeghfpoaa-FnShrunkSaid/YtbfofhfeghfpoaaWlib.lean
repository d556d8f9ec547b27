/- Windows: one bit more, one row less, in plain words. -/
import Derived.Test.YtbfofhfeghfpoaaData
import Derived.Test.YtbfofhfeghfpoaaAm4
import Derived.Laws.IdiomCopy
import Derived.Deep.Draws
import Derived.Test.YtbfofhfeghfpoaaTy
import Derived.Shelf.Slices.Cells
import Derived.Ground.Names2Prog
namespace Go.AM
open Go
theorem getD_set_eq {α : Type} {d r : α} {l : List α} {p : Nat} (h : p < l.length) : (l.set p r).getD p d = r := by
  rw [List.getD_eq_getElem?_getD, List.getElem?_set_self h]; rfl
theorem getD_set_ne {α : Type} {d r : α} {l : List α} {p i : Nat} (h : p ≠ i) : (l.set p r).getD i d = l.getD i d := by
  rw [List.getD_eq_getElem?_getD, List.getElem?_set_ne h, List.getD_eq_getElem?_getD]
theorem getD_app_l {α : Type} {d : α} {l m : List α} {i : Nat} (h : i < l.length) : (l ++ m).getD i d = l.getD i d := by
  rw [List.getD_eq_getElem?_getD, List.getElem?_append_left h, List.getD_eq_getElem?_getD]
theorem getD_app_r {α : Type} {d x : α} {l : List α} : (l ++ [x]).getD l.length d = x := by
  rw [List.getD_eq_getElem?_getD, List.getElem?_append_right (Nat.le_refl _), Nat.sub_self]; rfl
theorem getD_drop {α : Type} {d : α} {l : List α} {i k : Nat} : (l.drop k).getD i d = l.getD (k + i) d := by
  rw [List.getD_eq_getElem?_getD, List.getElem?_drop, List.getD_eq_getElem?_getD]
def wVal (j : Nat) (row : List Int) : Prop := ∀ i, i < row.length → 0 ≤ row.getD i 0 ∧ row.getD i 0 ≤ 2 ^ j
def wInv (r : Nat) (l : List (List Int)) : Prop := l.length ≤ 8 ∧ r < l.length ∧ (l.getD r []).length ≤ 4 ∧ ∀ j, j < l.length → 1 ≤ (l.getD j []).length ∧ (j ≠ r → (l.getD j []).length ≤ 3) ∧ wVal j (l.getD j [])
def wExt (r : Nat) (l : List (List Int)) : List (List Int) := bif Nat.beq (r + 1) l.length then l ++ [[]] else l
def wSum (row : List Int) : Int := row.getD 0 0 + row.getD 1 0
def wStep (r : Nat) (l : List (List Int)) : List (List Int) := ((wExt r l).set (r + 1) ((wExt r l).getD (r + 1) [] ++ [wSum (l.getD r [])])).set r ((l.getD r []).drop 2)
def wGo : Nat → Nat → List (List Int) → List (List Int)
  | 0, _, l => l
  | k + 1, r, l => bif Nat.blt 3 (l.getD r []).length then (bif Nat.beq r 7 then l.set r ((l.getD r []).drop 1) else wGo k (r + 1) (wStep r l)) else l
def wBase (l : List (List Int)) : List (List Int) := bif Nat.beq l.length 0 then [[]] else l
def wIn (l : List (List Int)) (bit : Int) : List (List Int) := (wBase l).set 0 ((wBase l).getD 0 [] ++ [bit])
def wAdd (l : List (List Int)) (bit : Int) : List (List Int) := wGo 8 0 (wIn l bit)
theorem wVal_nil {j : Nat} : wVal j [] := fun _ hi => absurd hi (Nat.not_lt_zero _)
theorem wVal_drop {j k : Nat} {row : List Int} (h : wVal j row) : wVal j (row.drop k) := by
  intro i hi
  rw [getD_drop]
  rw [List.length_drop] at hi
  exact h _ (by omega)
theorem wVal_app {j : Nat} {row : List Int} {x : Int} (h : wVal j row) (hx : 0 ≤ x ∧ x ≤ 2 ^ j) : wVal j (row ++ [x]) := by
  intro i hi
  rw [List.length_append, List.length_singleton] at hi
  by_cases e : i < row.length
  · rw [getD_app_l e]; exact h i e
  · obtain rfl : i = row.length := by omega
    rw [getD_app_r]; exact hx
theorem wInv_in {l : List (List Int)} {bit : Int} (h : wok l) (hb : 0 ≤ bit ∧ bit ≤ 1) : wInv 0 (wIn l bit) := by
  unfold wIn wBase
  cases e : Nat.beq l.length 0 with
  | true =>
    refine ⟨by simp, by simp, by simp, fun j hj => ?_⟩
    have : j = 0 := by simp at hj; exact hj
    subst this
    refine ⟨by simp, fun h => absurd rfl h, ?_⟩
    exact wVal_app (row := []) wVal_nil hb
  | false =>
    have hl : 0 < l.length := by
      rcases Nat.eq_zero_or_pos l.length with h0 | h0
      · rw [h0] at e; cases e
      · exact h0
    have h0 := h.2 0 hl
    simp only [cond_false]
    refine ⟨by rw [List.length_set]; exact h.1, by rw [List.length_set]; exact hl, by rw [getD_set_eq hl, List.length_append, List.length_singleton]; have := h0.1.2; omega, fun j hj => ?_⟩
    rw [List.length_set] at hj
    by_cases ej : j = 0
    · subst ej
      rw [getD_set_eq hl]
      exact ⟨by rw [List.length_append, List.length_singleton]; omega, fun h => absurd rfl h, wVal_app h0.2 hb⟩
    · rw [getD_set_ne (fun e => ej e.symm)]
      have := h.2 j hj
      exact ⟨this.1.1, fun _ => this.1.2, this.2⟩
theorem wExt_len {r : Nat} {l : List (List Int)} (h : r < l.length) : r + 1 < (wExt r l).length ∧ l.length ≤ (wExt r l).length ∧ ((wExt r l).length = l.length ∨ ((wExt r l).length = l.length + 1 ∧ r + 1 = l.length)) := by
  unfold wExt
  cases e : Nat.beq (r + 1) l.length with
  | true =>
    have := Nat.eq_of_beq_eq_true e
    rw [cond_true, List.length_append, List.length_singleton]
    omega
  | false =>
    have : r + 1 ≠ l.length := Nat.ne_of_beq_eq_false e
    rw [cond_false]
    omega
theorem wExt_get {r : Nat} {l : List (List Int)} {j : Nat} : (wExt r l).getD j [] = l.getD j [] := by
  unfold wExt
  cases e : Nat.beq (r + 1) l.length with
  | true =>
    simp only [cond_true]
    by_cases h : j < l.length
    · rw [getD_app_l h]
    · rw [List.getD_eq_getElem?_getD, List.getD_eq_getElem?_getD, List.getElem?_append_right (by omega), List.getElem?_eq_none (l := l) (by omega)]
      rcases Nat.eq_zero_or_pos (j - l.length) with h0 | h0
      · rw [h0]; rfl
      · rw [List.getElem?_eq_none (by simp; omega)]
  | false => rfl
theorem wStep_len {r : Nat} {l : List (List Int)} : (wStep r l).length = (wExt r l).length := by unfold wStep; simp
theorem wStep_at {r j : Nat} {l : List (List Int)} (h : r < l.length) : (wStep r l).getD j [] = if j = r then (l.getD r []).drop 2 else if j = r + 1 then l.getD (r + 1) [] ++ [wSum (l.getD r [])] else l.getD j [] := by
  have hx := wExt_len h
  unfold wStep
  by_cases e : j = r
  · subst e
    rw [if_pos rfl, getD_set_eq (by rw [List.length_set]; omega)]
  · rw [if_neg e, getD_set_ne (fun h => e h.symm)]
    by_cases e2 : j = r + 1
    · subst e2
      rw [if_pos rfl, getD_set_eq hx.1, wExt_get]
    · rw [if_neg e2, getD_set_ne (fun h => e2 h.symm), wExt_get]
theorem wInv_step {r : Nat} {l : List (List Int)} (h : wInv r l) (h3 : 3 < (l.getD r []).length) (h7 : r ≠ 7) : wInv (r + 1) (wStep r l) := by
  obtain ⟨a, b, c, d⟩ := h
  have hx := wExt_len b
  have hd := (d r b)
  have hs : 0 ≤ wSum (l.getD r []) ∧ wSum (l.getD r []) ≤ 2 ^ (r + 1) := by
    have h0 := hd.2.2 0 (by omega)
    have h1 := hd.2.2 1 (by omega)
    unfold wSum
    rw [Int.pow_succ]
    omega
  have hn : (l.getD (r + 1) []).length ≤ 3 ∧ wVal (r + 1) (l.getD (r + 1) []) := by
    by_cases e : r + 1 < l.length
    · exact ⟨(d _ e).2.1 (by omega), (d _ e).2.2⟩
    · have : l.getD (r + 1) [] = [] := by rw [List.getD_eq_getElem?_getD, List.getElem?_eq_none (by omega)]; rfl
      rw [this]; exact ⟨Nat.zero_le _, wVal_nil⟩
  refine ⟨by rw [wStep_len]; omega, by rw [wStep_len]; exact hx.1, by rw [wStep_at b, if_neg (by omega), if_pos rfl, List.length_append, List.length_singleton]; omega, fun j hj => ?_⟩
  rw [wStep_len] at hj
  rw [wStep_at b]
  by_cases e : j = r
  · subst e
    rw [if_pos rfl, List.length_drop]
    exact ⟨by omega, fun _ => by omega, wVal_drop hd.2.2⟩
  · rw [if_neg e]
    by_cases e2 : j = r + 1
    · subst e2
      rw [if_pos rfl, List.length_append, List.length_singleton]
      exact ⟨by omega, fun h => absurd rfl h, wVal_app hn.2 hs⟩
    · rw [if_neg e2]
      have := d j (by omega)
      exact ⟨this.1, fun _ => this.2.1 e, this.2.2⟩
theorem wInv_done {r : Nat} {l : List (List Int)} (h : wInv r l) (h3 : ¬ 3 < (l.getD r []).length) : wok l := by
  obtain ⟨a, b, c, d⟩ := h
  refine ⟨a, fun j hj => ?_⟩
  have := d j hj
  by_cases e : j = r
  · subst e; exact ⟨⟨this.1, by omega⟩, this.2.2⟩
  · exact ⟨⟨this.1, this.2.1 e⟩, this.2.2⟩
theorem wInv_last {r : Nat} {l : List (List Int)} (h : wInv r l) (h3 : 3 < (l.getD r []).length) : wok (l.set r ((l.getD r []).drop 1)) := by
  obtain ⟨a, b, c, d⟩ := h
  refine ⟨by rw [List.length_set]; exact a, fun j hj => ?_⟩
  rw [List.length_set] at hj
  have := d j hj
  by_cases e : j = r
  · subst e
    rw [getD_set_eq hj]
    exact ⟨by rw [List.length_drop]; omega, wVal_drop this.2.2⟩
  · rw [getD_set_ne (fun h => e h.symm)]
    exact ⟨⟨this.1, this.2.1 e⟩, this.2.2⟩
theorem wGo_ok : ∀ {k r : Nat} {l : List (List Int)}, r + k = 8 → wInv r l → wok (wGo k r l)
  | 0, r, l, h, hi => by have := hi.1; have := hi.2.1; omega
  | k + 1, r, l, h, hi => by
    rw [wGo]
    cases e : Nat.blt 3 (l.getD r []).length with
    | false =>
      refine wInv_done hi (fun h => ?_)
      have : Nat.blt 3 (l.getD r []).length = true := Nat.ble_eq_true_of_le h
      rw [this] at e; cases e
    | true =>
      have h3 : 3 < (l.getD r []).length := Nat.le_of_ble_eq_true e
      cases e7 : Nat.beq r 7 with
      | true => exact wInv_last hi h3
      | false => exact wGo_ok (by omega) (wInv_step hi h3 (Nat.ne_of_beq_eq_false e7))
theorem wAdd_ok {l : List (List Int)} {bit : Int} (h : wok l) (hb : 0 ≤ bit ∧ bit ≤ 1) : wok (wAdd l bit) := wGo_ok rfl (wInv_in h hb)
theorem wGo_end {k r : Nat} {l : List (List Int)} (h : ¬ 3 < (l.getD r []).length) : wGo k r l = l := by
  cases k with
  | zero => rfl
  | succ k =>
    have : Nat.blt 3 (l.getD r []).length = false := by
      rw [Bool.eq_false_iff]; exact fun e => h (Nat.le_of_ble_eq_true e)
    rw [wGo, this]; rfl
theorem wGo_last {k : Nat} {l : List (List Int)} (h : 3 < (l.getD 7 []).length) : wGo (k + 1) 7 l = l.set 7 ((l.getD 7 []).drop 1) := by
  rw [wGo, show Nat.blt 3 (l.getD 7 []).length = true from Nat.ble_eq_true_of_le h]; rfl
theorem wGo_step {k r : Nat} {l : List (List Int)} (h : 3 < (l.getD r []).length) (h7 : r ≠ 7) : wGo (k + 1) r l = wGo k (r + 1) (wStep r l) := by
  rw [wGo, show Nat.blt 3 (l.getD r []).length = true from Nat.ble_eq_true_of_le h, show Nat.beq r 7 = false from (by rw [Bool.eq_false_iff]; exact fun e => h7 (Nat.eq_of_beq_eq_true e))]; rfl
def wDrop (l : List (List Int)) : List (List Int) := bif Nat.ble (l.getD (l.length - 1) []).length 1 then l.take (l.length - 1) else l.set (l.length - 1) ((l.getD (l.length - 1) []).drop 1)
def wDropOk (l : List (List Int)) : Bool := wokB l && decide (0 < l.length)
def wDropA (l : List (List Int)) : List (List Int) := bif wDropOk l then wDrop l else l
theorem wDrop_ok {l : List (List Int)} (h : wok l) (hl : 0 < l.length) : wok (wDrop l) := by
  unfold wDrop
  cases e : Nat.ble (l.getD (l.length - 1) []).length 1 with
  | true =>
    refine ⟨by rw [cond_true, List.length_take]; have := h.1; omega, fun r hr => ?_⟩
    rw [cond_true, List.length_take] at hr
    rw [cond_true, show (l.take (l.length - 1)).getD r [] = l.getD r [] by rw [List.getD_eq_getElem?_getD, List.getD_eq_getElem?_getD, List.getElem?_take, if_pos (by omega)]]
    exact h.2 r (by omega)
  | false =>
    have h1 : 1 < (l.getD (l.length - 1) []).length := by
      rcases Nat.lt_or_ge 1 (l.getD (l.length - 1) []).length with h1 | h1
      · exact h1
      · rw [Nat.ble_eq_true_of_le h1] at e; cases e
    refine ⟨by rw [cond_false, List.length_set]; exact h.1, fun r hr => ?_⟩
    rw [cond_false, List.length_set] at hr
    rw [cond_false]
    by_cases e2 : r = l.length - 1
    · subst e2
      rw [getD_set_eq hr]
      have := h.2 _ hr
      exact ⟨by rw [List.length_drop]; have := this.1; omega, wVal_drop this.2⟩
    · rw [getD_set_ne (fun h => e2 h.symm)]
      exact h.2 r hr
theorem wok_okL {l : List (List Int)} (h : wok l) : okL 8 l := by
  refine ⟨h.1, fun x hx => ?_⟩
  obtain ⟨r, hr, rfl⟩ := List.mem_iff_getElem.1 hx
  have e : l.getD r [] = l[r] := by rw [List.getD_eq_getElem?_getD, List.getElem?_eq_getElem hr]; rfl
  have := h.2 r hr
  rw [e] at this
  refine ⟨by have := this.1; omega, fun y hy => ?_⟩
  obtain ⟨i, hi, rfl⟩ := List.mem_iff_getElem.1 hy
  have e2 : l[r].getD i 0 = l[r][i] := by rw [List.getD_eq_getElem?_getD, List.getElem?_eq_getElem hi]; rfl
  have h2 := this.2 i hi
  rw [e2] at h2
  have hp := pow_bd r (by have := h.1; omega)
  rw [inKi]
  omega
end Go.AM
/- Windows that shrink, and detectors, in plain words. -/
namespace Go.AM
open Go
theorem cutFrom_nn {bs : List DBucket} {k : Int} : ∀ {f i : Nat}, 0 ≤ cutFrom bs k i f
  | 0, i => Int.le_refl _
  | f + 1, i => by
    rw [cutFrom]
    split
    · split
      · omega
      · exact cutFrom_nn
    · exact Int.le_refl _
theorem cutAt_nn {l : List (List Int)} {k : Int} : 0 ≤ cutAt l k := cutFrom_nn
theorem cut_wok {l : List (List Int)} {k : Int} (h : cutAt l k ≠ 0) : wok l ∧ 0 < l.length := by
  by_cases hw : wok l
  · refine ⟨hw, ?_⟩
    rcases Nat.eq_zero_or_pos l.length with h0 | h0
    · exfalso
      apply h
      have : bkts l = [] := by unfold bkts; rw [if_pos hw, h0]; rfl
      unfold cutAt
      rw [this]; rfl
    · exact h0
  · exfalso
    apply h
    have : bkts l = [] := if_neg hw
    unfold cutAt
    rw [this]; rfl
def wMu (l : List (List Int)) : Nat := 3 * l.length - 3 + (l.getD (l.length - 1) []).length
theorem wMu_bd {l : List (List Int)} (h : wok l) : wMu l ≤ 24 := by
  unfold wMu
  rcases Nat.eq_zero_or_pos l.length with h0 | h0
  · have : l = [] := List.eq_nil_of_length_eq_zero h0
    subst this
    exact Nat.zero_le _
  · have h1 := h.1
    have h2 := (h.2 (l.length - 1) (by omega)).1.2
    omega
theorem wMu_drop {l : List (List Int)} (h : wok l) (hl : 0 < l.length) : wMu (wDrop l) < wMu l := by
  have h1 := (h.2 (l.length - 1) (by omega)).1
  have hd := wDrop_ok h hl
  unfold wMu
  cases e : Nat.ble (l.getD (l.length - 1) []).length 1 with
  | true =>
    have ew : wDrop l = l.take (l.length - 1) := by unfold wDrop; rw [e]; rfl
    rw [ew] at hd ⊢
    rw [List.length_take, show min (l.length - 1) l.length = l.length - 1 by omega]
    rcases Nat.lt_or_ge 1 l.length with h2 | h2
    · have h3 := (hd.2 (l.length - 1 - 1) (by rw [List.length_take]; omega)).1.2
      omega
    · have e0 : (l.take (l.length - 1)).getD (l.length - 1 - 1) [] = [] := by
        rw [List.getD_eq_getElem?_getD, List.getElem?_eq_none (by rw [List.length_take]; omega)]; rfl
      rw [e0, List.length_nil]
      omega
  | false =>
    have hn : 1 < (l.getD (l.length - 1) []).length := by
      rcases Nat.lt_or_ge 1 (l.getD (l.length - 1) []).length with h2 | h2
      · exact h2
      · rw [Nat.ble_eq_true_of_le h2] at e; cases e
    have ew : wDrop l = l.set (l.length - 1) ((l.getD (l.length - 1) []).drop 1) := by unfold wDrop; rw [e]; rfl
    rw [ew, List.length_set, getD_set_eq (by omega), List.length_drop]
    omega
def wShr : Nat → List (List Int) → Int → Nat → List (List Int) × Nat
  | 0, l, _, n => (l, n)
  | f + 1, l, k, n => if cutAt l k = 0 then (l, n) else wShr f (wDropA l) k (n + 1)
def shrink (l : List (List Int)) (k : Int) : List (List Int) × Nat := wShr (wMu l + 1) l k 0
theorem wShr_end {f : Nat} {l : List (List Int)} {k : Int} {n : Nat} (h : cutAt l k = 0) : wShr f l k n = (l, n) := by
  cases f with
  | zero => rfl
  | succ f => rw [wShr, if_pos h]
theorem wDropA_cut {l : List (List Int)} {k : Int} (h : cutAt l k ≠ 0) : wDropA l = wDrop l ∧ wok (wDropA l) ∧ wMu (wDropA l) < wMu l := by
  have hw := cut_wok h
  have e : wDropA l = wDrop l := by
    unfold wDropA wDropOk
    rw [wokB_true hw.1, decide_eq_true hw.2]; rfl
  rw [e]
  exact ⟨rfl, wDrop_ok hw.1 hw.2, wMu_drop hw.1 hw.2⟩
def shInv (l : List (List Int)) (k : Int) (p : List (List Int) × Nat) : Prop := okL (2 ^ 40) p.1 ∧ (p.2 = 0 ∨ (wok p.1 ∧ p.2 + wMu p.1 ≤ 24)) ∧ ∃ f, wMu p.1 < f ∧ shrink l k = wShr f p.1 k p.2
theorem wok_okL40 {l : List (List Int)} (h : wok l) : okL (2 ^ 40) l :=
  ⟨Nat.le_trans (wok_okL h).1 (by decide), fun x hx => ⟨Nat.le_trans ((wok_okL h).2 x hx).1 (by decide), ((wok_okL h).2 x hx).2⟩⟩
theorem shInv_start {l : List (List Int)} {k : Int} (h : okL (2 ^ 40) l) : shInv l k (l, 0) := ⟨h, .inl rfl, _, Nat.lt_succ_self _, rfl⟩
theorem shInv_step {l m : List (List Int)} {k : Int} {n : Nat} (h : shInv l k (m, n)) (hc : cutAt m k ≠ 0) : shInv l k (wDropA m, n + 1) := by
  obtain ⟨h1, h2, f, h3, h4⟩ := h
  obtain ⟨_, d1, d2⟩ := wDropA_cut hc
  have hb := wMu_bd (cut_wok hc).1
  refine ⟨wok_okL40 d1, .inr ⟨d1, ?_⟩, ?_⟩
  · show n + 1 + wMu (wDropA m) ≤ 24
    rcases h2 with h2 | h2
    · have : n = 0 := h2
      omega
    · have : n + wMu m ≤ 24 := h2.2
      omega
  · have h3 : wMu m < f := h3
    have h4 : shrink l k = wShr f m k n := h4
    refine ⟨f - 1, show wMu (wDropA m) < f - 1 by omega, ?_⟩
    show shrink l k = wShr (f - 1) (wDropA m) k (n + 1)
    rw [h4, show f = (f - 1) + 1 by omega, wShr, if_neg hc, Nat.add_sub_cancel]
theorem shInv_end {l m : List (List Int)} {k : Int} {n : Nat} (h : shInv l k (m, n)) (hc : cutAt m k = 0) : shrink l k = (m, n) ∧ n ≤ 24 := by
  obtain ⟨h1, h2, f, h3, h4⟩ := h
  refine ⟨h4.trans (wShr_end hc), ?_⟩
  rcases h2 with h2 | h2
  · have : n = 0 := h2
    omega
  · have : n + wMu m ≤ 24 := h2.2
    omega
theorem wShr_ok : ∀ {f : Nat} {l : List (List Int)} {k : Int} {n : Nat}, okL (2 ^ 40) l → okL (2 ^ 40) (wShr f l k n).1
  | 0, l, k, n, h => h
  | f + 1, l, k, n, h => by
    rw [wShr]
    split
    · exact h
    · rename_i hc
      exact wShr_ok (wok_okL40 (wDropA_cut hc).2.1)
theorem shrink_ok {l : List (List Int)} {k : Int} (h : okL (2 ^ 40) l) : okL (2 ^ 40) (shrink l k).1 := wShr_ok h
def wAddOk (l : List (List Int)) (bit : Int) : Bool := wokB l && decide (0 ≤ bit ∧ bit ≤ 1)
def wAddA (l : List (List Int)) (bit : Int) : List (List Int) := bif wAddOk l bit then wAdd l bit else l
end Go.AM
/- How great shrunk windows are. -/
namespace Go.AM
open Go
end Go.AM
/- Windows: what their buckets stand for. -/
namespace Go.AM
open Go
def rbL : Nat → List (List Int) → List DBucket
  | _, [] => []
  | r, row :: rest => rbL (r + 1) rest ++ bkR r row
theorem rbL_app : ∀ (pre m : List (List Int)) (s : Nat), rbL s (pre ++ m) = rbL (s + pre.length) m ++ rbL s pre
  | [], m, s => by simp [rbL]
  | x :: pre, m, s => by
    simp only [List.cons_append, rbL, List.length_cons]
    rw [rbL_app pre m (s + 1), List.append_assoc, show s + 1 + pre.length = s + (pre.length + 1) by omega]
theorem bkUp_rbL (l : List (List Int)) : ∀ n p, n + p = l.length → bkUp l n = rbL p (l.drop p)
  | 0, p, h => by rw [List.drop_eq_nil_of_le (by omega)]; rfl
  | n + 1, p, h => by
    have hp : p < l.length := by omega
    have h1 := bkUp_step (l := l) (p := p) (by omega)
    rw [show l.length - p = n + 1 by omega, show l.length - (p + 1) = n by omega] at h1
    rw [h1, bkUp_rbL l n (p + 1) (by omega), List.drop_eq_getElem_cons hp]
    simp only [rbL]
    congr 2
    simp [List.getD, hp]
theorem bkts_rbL {l : List (List Int)} (h : wok l) : bkts l = rbL 0 l := by
  unfold bkts
  rw [if_pos h, bkUp_rbL l l.length 0 rfl]
  rfl
theorem bkR_app (r : Nat) (a b : List Int) : bkR r (a ++ b) = bkR r a ++ bkR r b := by simp [bkR]
def isum : List Int → Int
  | [] => 0
  | x :: r => x + isum r
def Seg : List DBucket → List Int → Prop
  | [], l => l = []
  | b :: bs, l => ∃ a c, l = a ++ c ∧ (a.length : Int) = b.size ∧ isum a = b.ones ∧ Seg bs c
theorem Seg.app : ∀ {bs cs : List DBucket} {l m : List Int}, Seg bs l → Seg cs m → Seg (bs ++ cs) (l ++ m)
  | [], cs, l, m, h, h' => by have h : l = [] := h; subst h; exact h'
  | b :: bs, cs, l, m, h, h' => by
    obtain ⟨a, c, rfl, h1, h2, h3⟩ := h
    exact ⟨a, c ++ m, by rw [List.append_assoc], h1, h2, Seg.app h3 h'⟩
theorem Seg.split : ∀ {bs cs : List DBucket} {l : List Int}, Seg (bs ++ cs) l → ∃ l1 l2, l = l1 ++ l2 ∧ Seg bs l1 ∧ Seg cs l2
  | [], cs, l, h => ⟨[], l, rfl, rfl, h⟩
  | b :: bs, cs, l, h => by
    obtain ⟨a, c, rfl, h1, h2, h3⟩ := h
    obtain ⟨l1, l2, rfl, k1, k2⟩ := Seg.split h3
    exact ⟨a ++ l1, l2, by rw [List.append_assoc], ⟨a, l1, rfl, h1, h2, k1⟩, k2⟩
theorem Seg.one {b : DBucket} {l : List Int} : Seg [b] l ↔ (l.length : Int) = b.size ∧ isum l = b.ones := by
  constructor
  · rintro ⟨a, c, rfl, h1, h2, h3⟩
    have h3 : c = [] := h3
    subst h3
    simp [h1, h2]
  · rintro ⟨h1, h2⟩
    exact ⟨l, [], by simp, h1, h2, rfl⟩
def Suf (w : List (List Int)) (s : List Int) : Prop := ∃ pre l, s = pre ++ l ∧ Seg (rbL 0 w) l
theorem Suf.nil (s : List Int) : Suf [] s := ⟨s, [], by simp, rfl⟩
theorem Suf.tail {w v : List (List Int)} {s : List Int} {b : DBucket} (h : Suf w s) (e : rbL 0 w = b :: rbL 0 v) : Suf v s := by
  obtain ⟨pre, l, rfl, hl⟩ := h
  rw [e] at hl
  obtain ⟨a, c, rfl, _, _, h3⟩ := hl
  exact ⟨pre ++ a, c, by rw [List.append_assoc], h3⟩
theorem wIn_rbL (l : List (List Int)) (bit : Int) : rbL 0 (wIn l bit) = rbL 0 l ++ [⟨1, bit⟩] := by
  cases l with
  | nil => rfl
  | cons row rest =>
    have e : wIn (row :: rest) bit = (row ++ [bit]) :: rest := rfl
    rw [e]
    simp only [rbL, bkR_app, List.append_assoc]
    rfl
theorem Suf.bit {l : List (List Int)} {s : List Int} {bit : Int} (h : Suf l s) : Suf (wIn l bit) (s ++ [bit]) := by
  obtain ⟨pre, m, rfl, hm⟩ := h
  refine ⟨pre, m ++ [bit], by rw [List.append_assoc], ?_⟩
  rw [wIn_rbL]
  exact hm.app (Seg.one.2 ⟨by simp, by simp [isum]⟩)
theorem at_split {l : List (List Int)} {r : Nat} (h : r < l.length) : ∃ pre rest, l = pre ++ l.getD r [] :: rest ∧ pre.length = r := by
  refine ⟨l.take r, l.drop (r + 1), ?_, by simp; omega⟩
  rw [show l.getD r [] = l[r] by simp [List.getD, h], ← List.drop_eq_getElem_cons h, List.take_append_drop]
theorem set_at {pre rest : List (List Int)} {x y : List Int} : (pre ++ x :: rest).set pre.length y = pre ++ y :: rest := by
  rw [List.set_append, if_neg (by omega)]
  simp
theorem Suf.last {l : List (List Int)} {s : List Int} (h : Suf l s) (hl : 0 < l.length) (h2 : 0 < (l.getD (l.length - 1) []).length) : Suf (l.set (l.length - 1) ((l.getD (l.length - 1) []).drop 1)) s := by
  obtain ⟨pre, rest, e, hp⟩ := at_split (l := l) (r := l.length - 1) (by omega)
  obtain ⟨x, t, ey⟩ : ∃ x t, l.getD (l.length - 1) [] = x :: t := by
    cases hh : l.getD (l.length - 1) [] with
    | nil => rw [hh] at h2; simp at h2
    | cons x t => exact ⟨x, t, rfl⟩
  rw [ey] at e ⊢
  have hr : rest = [] := by
    have := congrArg List.length e
    simp at this
    cases rest with
    | nil => rfl
    | cons z t => simp at this; omega
  subst hr
  rw [← hp]
  refine h.tail (b := ⟨2 ^ (0 + pre.length), x⟩) ?_
  rw [e, set_at, rbL_app, rbL_app]
  simp [rbL, bkR]
theorem Suf.drop {l : List (List Int)} {s : List Int} (h : Suf l s) (hw : wok l) (hl : 0 < l.length) : Suf (wDrop l) s := by
  have h1 := (hw.2 (l.length - 1) (by omega)).1
  unfold wDrop
  cases e : Nat.ble (l.getD (l.length - 1) []).length 1 with
  | true =>
    rw [cond_true]
    have e1 : (l.getD (l.length - 1) []).length = 1 := by have := Nat.le_of_ble_eq_true e; omega
    obtain ⟨x, ey⟩ : ∃ x, l.getD (l.length - 1) [] = [x] := List.length_eq_one_iff.1 e1
    obtain ⟨pre, rest, e2, hp⟩ := at_split (l := l) (r := l.length - 1) (by omega)
    rw [ey] at e2
    have hr : rest = [] := by
      have := congrArg List.length e2
      simp at this
      cases rest with
      | nil => rfl
      | cons z t => simp at this; omega
    subst hr
    refine h.tail (b := ⟨2 ^ (0 + pre.length), x⟩) ?_
    rw [← hp, e2]
    rw [List.take_append_of_le_length (by omega), List.take_length, rbL_app]
    simp [rbL, bkR]
  | false =>
    rw [cond_false]
    exact h.last hl (by omega)
theorem Suf.wShr : ∀ {f : Nat} {l : List (List Int)} {k : Int} {n : Nat} {s : List Int}, Suf l s → Suf (wShr f l k n).1 s
  | 0, l, k, n, s, h => by simpa [AM.wShr] using h
  | f + 1, l, k, n, s, h => by
    simp only [AM.wShr]
    split
    · exact h
    · rename_i hc
      obtain ⟨q1, q2⟩ := cut_wok hc
      refine Suf.wShr ?_
      rw [(wDropA_cut hc).1]
      exact h.drop q1 q2
end Go.AM
/- Shrunk windows: what is left of their buckets. -/
namespace Go.AM
open Go
theorem rbL_last {l : List (List Int)} (hl : 0 < l.length) (h2 : 0 < (l.getD (l.length - 1) []).length) : ∃ b, rbL 0 l = b :: rbL 0 (l.set (l.length - 1) ((l.getD (l.length - 1) []).drop 1)) := by
  obtain ⟨pre, rest, e, hp⟩ := at_split (l := l) (r := l.length - 1) (by omega)
  obtain ⟨x, t, ey⟩ : ∃ x t, l.getD (l.length - 1) [] = x :: t := by
    cases hh : l.getD (l.length - 1) [] with
    | nil => rw [hh] at h2; simp at h2
    | cons x t => exact ⟨x, t, rfl⟩
  rw [ey] at e ⊢
  have hr : rest = [] := by
    have := congrArg List.length e
    simp at this
    cases rest with
    | nil => rfl
    | cons z t => simp at this; omega
  subst hr
  rw [← hp]
  refine ⟨⟨2 ^ (0 + pre.length), x⟩, ?_⟩
  rw [e, set_at, rbL_app, rbL_app]
  simp [rbL, bkR]
theorem rbL_wDrop {l : List (List Int)} (hw : wok l) (hl : 0 < l.length) : ∃ b, rbL 0 l = b :: rbL 0 (wDrop l) := by
  have h1 := (hw.2 (l.length - 1) (by omega)).1
  unfold wDrop
  cases e : Nat.ble (l.getD (l.length - 1) []).length 1 with
  | true =>
    rw [cond_true]
    have e1 : (l.getD (l.length - 1) []).length = 1 := by have := Nat.le_of_ble_eq_true e; omega
    obtain ⟨x, ey⟩ : ∃ x, l.getD (l.length - 1) [] = [x] := List.length_eq_one_iff.1 e1
    obtain ⟨pre, rest, e2, hp⟩ := at_split (l := l) (r := l.length - 1) (by omega)
    rw [ey] at e2
    have hr : rest = [] := by
      have := congrArg List.length e2
      simp at this
      cases rest with
      | nil => rfl
      | cons z t => simp at this; omega
    subst hr
    refine ⟨⟨2 ^ (0 + pre.length), x⟩, ?_⟩
    rw [← hp, e2]
    rw [List.take_append_of_le_length (by omega), List.take_length, rbL_app]
    simp [rbL, bkR]
  | false =>
    rw [cond_false]
    exact rbL_last hl (by omega)
structure Left (l : List (List Int)) (k : Int) (n : Nat) (s : List (List Int) × Nat) : Prop where
  cut : cutAt s.1 k = 0
  le : n ≤ s.2
  len : s.2 - n ≤ (bkts l).length
  bk : bkts s.1 = (bkts l).drop (s.2 - n)
  same : s.2 = n ↔ s.1 = l
  mu : wMu s.1 ≤ wMu l
theorem wShr_left : ∀ {f : Nat} {l : List (List Int)} {k : Int} {n : Nat}, wMu l < f → Left l k n (wShr f l k n)
  | 0, l, k, n, h => by omega
  | f + 1, l, k, n, h => by
    rw [wShr]
    by_cases hc : cutAt l k = 0
    · rw [if_pos hc]
      exact ⟨hc, Nat.le_refl _, by simp, by simp, by simp, Nat.le_refl _⟩
    · rw [if_neg hc]
      obtain ⟨e, hw, hm⟩ := wDropA_cut hc
      obtain ⟨q1, q2⟩ := cut_wok hc
      obtain ⟨b, hb⟩ := rbL_wDrop q1 q2
      have hb2 : bkts l = b :: bkts (wDropA l) := by rw [bkts_rbL q1, bkts_rbL hw, e, hb]
      obtain ⟨g1, g2, g3, g4, g5, g6⟩ := wShr_left (f := f) (l := wDropA l) (k := k) (n := n + 1) (by omega)
      refine ⟨g1, by omega, ?_, ?_, ⟨fun h => by omega, fun h => ?_⟩, by omega⟩
      · rw [hb2, List.length_cons]; omega
      · rw [g4, hb2, show (wShr f (wDropA l) k (n + 1)).2 - n = ((wShr f (wDropA l) k (n + 1)).2 - (n + 1)) + 1 by omega, List.drop_succ_cons]
      · rw [h] at g6; omega
theorem shrink_left (l : List (List Int)) (k : Int) : Left l k 0 (shrink l k) := wShr_left (Nat.lt_succ_self _)
end Go.AM
/- A function that deletes a part of a slice of integers takes its argument over. -/
namespace Go.AM
open Go
theorem setCells_heap (b : Nat) : ∀ (vs : List Value) (o : Nat) (w : World) (c : Array Value) (T : TypeId) (fz : Nat × Nat), w.heap[b]? = some (.cells c T fz) → o + vs.length ≤ c.size →
    Keep w (fun x => x = b) (w.setCells b o vs) ∧ (w.setCells b o vs).heap.size = w.heap.size ∧ ∃ c', (w.setCells b o vs).heap[b]? = some (.cells c' T fz) ∧ c'.size = c.size ∧
      (∀ j, j < vs.length → c'[o + j]? = vs[j]?) ∧ (∀ j, j < o → c'[j]? = c[j]?)
  | [], o, w, c, T, fz, h, _ => ⟨Keep.refl _ _, rfl, c, h, rfl, fun j hj => absurd hj (Nat.not_lt_zero _), fun _ _ => rfl⟩
  | v :: r, o, w, c, T, fz, h, hl => by
    have hl' : o + 1 + r.length ≤ c.size := by simp at hl; omega
    have hb : b < w.heap.size := (Array.getElem?_eq_some_iff.1 h).1
    have h1 : (w.setCell ⟨b, o, none⟩ v).heap[b]? = some (.cells (c.setIfInBounds o v) T fz) := by
      show (w.heap.modify b _)[b]? = _
      rw [Array.getElem?_modify, if_pos rfl, h]
      rfl
    have hsz : (w.setCell ⟨b, o, none⟩ v).heap.size = w.heap.size := by
      show (w.heap.modify b _).size = _
      exact Array.size_modify ..
    have hk : Keep w (fun x => x = b) (w.setCell ⟨b, o, none⟩ v) := ⟨rfl, rfl, rfl, Nat.le_of_eq hsz.symm, fun x _ hx => by
      show (w.heap.modify b _)[x]? = _
      rw [Array.getElem?_modify, if_neg (fun e => hx e.symm)]⟩
    obtain ⟨k1, k2, c', g1, g2, g3, g4⟩ := setCells_heap b r (o + 1) _ _ T fz h1 (by rw [Array.size_setIfInBounds]; exact hl')
    refine ⟨⟨k1.os.trans hk.os, k1.tape.trans hk.tape, k1.output.trans hk.output, Nat.le_trans hk.size k1.size, fun x hx hn => (k1.block x (by rw [hsz]; exact hx) hn).trans (hk.block x hx hn)⟩, k2.trans hsz, c', g1, g2.trans (by rw [Array.size_setIfInBounds]), fun j hj => ?_, fun j hj => ?_⟩
    · cases j with
      | zero => rw [Nat.add_zero, g4 o (by omega), Array.getElem?_setIfInBounds, if_pos rfl, if_pos (by simp at hl; omega)]; rfl
      | succ j =>
        have := g3 j (by simpa using hj)
        rw [show o + (j + 1) = o + 1 + j by omega, this]
        rfl
    · rw [g4 j (by omega), Array.getElem?_setIfInBounds, if_neg (by omega)]
theorem take_of_cells {P : Program} {f : FuncId} (hent : ∀ (vs : Array Value) (w : World), (callFunc f vs).run P w = .ok (.enter f vs) w)
    (h : ∀ (b off n c i j : Nat) (zs : List Int) (w : World), n ≤ zs.length → n ≤ c → c ≤ 9223372036854775807 → i ≤ j → j ≤ n → (∀ j, j < zs.length → w.cell? ⟨b, off + j, none⟩ = some (.int .i64 (zs.getD j 0))) → (∀ j, j < n → w.frozen? ⟨b, off + j, none⟩ = false) → Calls P f #[.slice (some ⟨b, off, none⟩) n c, .int .i64 i, .int .i64 j] w fun e w' => e = .returned (.slice (some ⟨b, off, none⟩) (n - (j - i)) c) ∧ ∃ q, w' = (w.drewN q).setCells b off (((zs.take n).take i ++ (zs.take n).drop j ++ List.replicate (j - i) 0).map (Value.int .i64)))
    {nl : Option Bool} {i j : Nat} {l : List Int} (hl : 0 < l.length) (hij : i ≤ j) (hj : j ≤ l.length) : ATake P f (.sl true nl 1 l.length (fI l)) [.one (.int .i64 i), .one (.int .i64 j)] (.sl true none 1 (l.take i ++ l.drop j).length (fI (l.take i ++ l.drop j))) := by
  refine ⟨hent, fun own0 w vs v0 hown hrt hvs hv0 how hargs => ?_⟩
  obtain ⟨v1, a1, b1⟩ := hargs 0 _ rfl
  obtain ⟨v2, a2, b2⟩ := hargs 1 _ rfl
  obtain ⟨rfl, _⟩ := b1
  obtain ⟨rfl, _⟩ := b2
  have hvs' : vs = #[v0, .int .i64 i, .int .i64 j] := by
    obtain ⟨L⟩ := vs
    match L, hvs with
    | [x, y, z], _ =>
      simp only [List.getElem?_toArray, List.getElem?_cons_zero, List.getElem?_cons_succ, Option.some.injEq] at hv0 a1 a2
      rw [hv0, a1, a2]
  subst hvs'
  rcases how with ⟨h0, _⟩ | ⟨b, cap, c, T, rfl, hnl, hob, hblk, hnc, hcm, hcs, hcells⟩
  · omega
  have hc : ∀ t, t < l.length → c[t]? = some (.int .i64 (l.getD t 0)) := by
    intro t ht
    obtain ⟨x, e1, e2⟩ := hcells t ht 0 (by omega)
    obtain ⟨rfl, _⟩ := e2
    simpa using e1
  have hK : ∀ t, t < l.length → inK .i64 (l.getD t 0) := by
    intro t ht
    obtain ⟨x, e1, e2⟩ := hcells t ht 0 (by omega)
    exact e2.2
  refine (h b 0 l.length cap i j l w (Nat.le_refl _) hnc hcm hij hj (fun t ht => ?_) (fun t ht => ?_)).mono ?_
  · simp only [World.cell?, hblk, Nat.zero_add]
    exact hc t ht
  · simp only [World.frozen?, hblk]
    simp
  rintro e w' ⟨rfl, q, rfl⟩
  obtain ⟨k1, k2, c', g1, g2, g3, g4⟩ := setCells_heap b (((l.take l.length).take i ++ (l.take l.length).drop j ++ List.replicate (j - i) 0).map (Value.int .i64)) 0 (w.drewN q) c T (0, 0) hblk (by rw [List.take_length]; simp; omega)
  refine ⟨_, rfl, ⟨k1.os, k1.tape, k1.output, k1.size, fun x hx hn => k1.block x hx (fun e => hn ⟨[], by rw [e]; exact hob⟩)⟩, own0, fun x y e => ?_, fun x hx e => e, fun x e => e, fun x k p hx e hk => ?_, .inr ⟨b, cap, c', T, ?_, by simp, hob, g1, ?_, hcm, g2.trans hcs, fun t ht u hu => ?_⟩⟩
  · rw [k2]; exact hown x (by rw [e]; exact fun h => nomatch h)
  · rcases hrt x k p e with ⟨h0, _⟩ | h1
    · exact absurd h0 hk
    · exact ⟨p, by rw [← h1]; exact e⟩
  · congr 1; simp; omega
  · simp; omega
  · have hu0 : u = 0 := by omega
    subst hu0
    have hlen : (l.take i ++ l.drop j).length = l.length - (j - i) := by simp; omega
    have e1 := g3 t (by rw [List.take_length]; simp; simp at ht; omega)
    rw [List.take_length, List.getElem?_map, List.getElem?_append_left ht] at e1
    refine ⟨.int .i64 ((l.take i ++ l.drop j).getD t 0), ?_, rfl, ?_⟩
    · rw [show t * 1 + 0 = 0 + t by omega, e1, List.getElem?_eq_getElem ht, List.getD_eq_getElem?_getD, List.getElem?_eq_getElem ht]
      rfl
    · have hm : (l.take i ++ l.drop j).getD t 0 ∈ l := by
        rw [List.getD_eq_getElem?_getD, List.getElem?_eq_getElem ht]
        have := List.getElem_mem ht
        rcases List.mem_append.1 this with h | h
        · exact List.mem_of_mem_take h
        · exact List.mem_of_mem_drop h
      obtain ⟨s, hs, e⟩ := List.mem_iff_getElem.1 hm
      have := hK s hs
      rw [List.getD_eq_getElem?_getD, List.getElem?_eq_getElem hs] at this
      rw [← e]; exact this
end Go.AM
/- The contract of slices.Delete at integers, as a call that takes its first argument over. -/
namespace Go.AM
open Go Go.Proofs
def Try.laysNm223_ren : Go.Shelf.Ren := ⟨fun | 23 => 100 | n => n, fun | 22 => 24 | 3 => 3 | 4 => 4 | 0 => 0 | n => n, fun | n => n⟩
theorem Try.laysNm223 : Go.Proofs.Lays2.n23 Try.prog Try.laysNm223_ren := {
  mixed := by kernel_rfl
  f23 := Try.func100.trans (congrArg some (by kernel_rfl))
  t0 := Try.underlying0
  a0 := Try.isAgg0
  z0 := Try.sizeOf0
  v0 := Try.zeroValue0
  t3 := Try.underlying3
  a3 := Try.isAgg3
  z3 := Try.sizeOf3
  v3 := Try.zeroValue3
  t4 := Try.underlying4
  a4 := Try.isAgg4
  z4 := Try.sizeOf4
  v4 := Try.zeroValue4
  t22 := Try.underlying24
  a22 := Try.isAgg24
  z22 := Try.sizeOf24
  v22 := Try.zeroValue24
  i3 := by kernel_rfl }
theorem c_del {nl : Option Bool} {i j : Nat} {l : List Int} (hl : 0 < l.length) (hij : i ≤ j) (hj : j ≤ l.length) : ATake Try.prog 100 (.sl true nl 1 l.length (fI l)) [.one (.int .i64 i), .one (.int .i64 j)] (.sl true none 1 (l.take i ++ l.drop j).length (fI (l.take i ++ l.drop j))) :=
  take_of_cells (enter_of Try.func100 rfl rfl) (fun b off n c i j zs w h1 h2 h3 h4 h5 h6 h7 => Any.slices_Delete_int_cells Try.laysNm223 b off n c i j zs w h1 h2 h3 h4 h5 h6 h7) hl hij hj
end Go.AM
