/- Windows: one bit more, one row less, in plain words. -/
import Derived.Test.YtpbahibieegbgaaGreatData
namespace Go.AM
open Go
theorem getD_set_eq {α : Type} {d r : α} {l : List α} {p : Nat} (h : p < l.length) : (l.set p r).getD p d = r := by
 rw [List.getD_eq_getElem?_getD, List.getElem?_set_self h]; rfl
theorem getD_set_ne {α : Type} {d r : α} {l : List α} {p i : Nat} (h : p ≠ i) : (l.set p r).getD i d = l.getD i d := by
 rw [List.getD_eq_getElem?_getD, List.getElem?_set_ne h, List.getD_eq_getElem?_getD]
theorem getD_app_l {α : Type} {d : α} {l m : List α} {i : Nat} (h : i < l.length) : (l ++ m).getD i d = l.getD i d := by
 rw [List.getD_eq_getElem?_getD, List.getElem?_append_left h, List.getD_eq_getElem?_getD]
theorem getD_app_r {α : Type} {d x : α} {l : List α} : (l ++ [x]).getD l.length d = x := by
 rw [List.getD_eq_getElem?_getD, List.getElem?_append_right (Nat.le_refl _), Nat.sub_self]; rfl
end Go.AM
