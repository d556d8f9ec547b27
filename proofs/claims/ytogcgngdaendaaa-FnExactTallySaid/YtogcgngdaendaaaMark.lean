/- Lemmas for the proof of this claim. -/
import Derived.Test.YtogcgngdaendaaaFam
import Derived.Test.YtogcgngdaendaaaAm3
import Derived.Test.YtogcgngdaendaaaData
namespace Go.AM
open Go Go.Proofs
set_option maxRecDepth 100000
/-- A row that has just been written, among those that have been. -/
theorem markRow {E G : Nat → List AV} {i i' m j : Nat} (hj : j < m) (hm : (E i).length = m) : ALe (if i' = i ∧ 0 ≤ j ∧ j < m then gl .junk (E i) j else gl .junk (if i' < i then E i' else G i') j) (gl .junk (if i' < i + 1 then E i' else G i') j) := by
  by_cases e : i' = i
  · subst e
    rw [if_pos ⟨rfl, Nat.zero_le _, hj⟩, if_pos (by omega)]; exact .refl _
  · rw [if_neg (fun h => e h.1)]
    by_cases e2 : i' < i
    · rw [if_pos e2, if_pos (by omega)]; exact .refl _
    · rw [if_neg e2, if_neg (by omega)]; exact .refl _
set_option maxHeartbeats 2000000 in
theorem markIntS (l : List Int) (k : Int) (nl : Option Bool) (h : okI (2 ^ 47) l) (h0 : 0 ≤ k) (h1 : k + l.length ≤ 2 ^ 62) : AMut Try.prog 18 (.sl true nl 1 l.length (fI l)) [.one (.int .i64 k)] (aI true (mkI k l)) (k + l.length) := by
  have hl := h.1
  have nt : Try.f18.ntmps = 19 := rfl
  refine AMut.of_run (m := 400) (t := 4) mixed Try.func18 rfl rfl (Nat.le_of_ble_eq_true rfl) rfl ?_
  simp only [nt]
  clear nt
  (try refine am (h := ?_)); (try with_reducible apply True.intro)
  repeat' (first | (with_reducible refine And.intro ?_ ?_) | (with_reducible intro _))
  all_goals try (first | omega | with_reducible rfl | ((with_reducible refine eqId ?_); exact rfl) | with_reducible assumption | (with_reducible exact And.left (by assumption)) | (with_reducible exact And.right (by assumption)) | (with_reducible exact And.left (And.right (by assumption))) | (with_reducible exact And.left (And.left (by assumption))) | (with_reducible exact And.right (And.left (by assumption))) | (with_reducible exact And.left (And.left (And.left (by assumption)))) | (with_reducible exact And.right (And.left (And.left (by assumption)))))
  refine LoopK.auto (Nat) (fun i => [(5, .one (.av (.int .i64 i))), (1, .one (.av (.int .i64 (k + i))))]) (fun i => [(1, ⟨.sl true none 1 l.length (fun i' j => gl .junk (if i' < i then [.int .i64 (k + (i' : Int))] else [.int .i64 (l.getD i' 0)]) j), []⟩)]) [0] (k0 := ?k01) (keepH := ?kh1) 7 (fun i => i ≤ l.length) (fun i => l.length - i) (0) ?kea1 ?keb1 ?_ ?_ ?_
  case kea1 => exact amN
  case keb1 => exact amN
  · exact Nat.zero_le _
  · refine Le.of [(1, 1)] [] rfl rfl rfl rfl ?_ ?_ ?_
    all_goals (try refine amL (h := ?_))
    all_goals (try with_reducible apply True.intro)
    · exact ALe.of (.inl rfl) rfl (fun i hi j hj => by rw [if_neg (by omega)]; exact .refl _)
    · omega
  · intro i hi
    (try refine am (h := ?_)); (try with_reducible apply True.intro)
    repeat' (first | (with_reducible refine And.intro ?_ ?_) | (with_reducible intro _))
    all_goals try (first | omega | with_reducible rfl | ((with_reducible refine eqId ?_); exact rfl) | with_reducible assumption | (with_reducible exact And.left (by assumption)) | (with_reducible exact And.right (by assumption)) | (with_reducible exact And.left (And.right (by assumption))) | (with_reducible exact And.left (And.left (by assumption))) | (with_reducible exact And.right (And.left (by assumption))) | (with_reducible exact And.left (And.left (And.left (by assumption)))) | (with_reducible exact And.right (And.left (And.left (by assumption)))))
    · refine ⟨i + 1, ?_, by omega, by omega⟩
      refine Le.of [(1, 1)] [] rfl rfl rfl rfl ?_ ?_ ?_
      all_goals (try refine amL (h := ?_))
      all_goals (try with_reducible apply True.intro)
      · refine ALe.of (.inl rfl) rfl (fun i' hi' j hj => markRow (E := fun i' => [.int .i64 (k + (i' : Int))]) (G := fun i' => [.int .i64 (l.getD i' 0)]) hj rfl)
      · omega
    · refine FinK.mut (by (try refine am (h := ?_)); (try with_reducible apply True.intro)) ?_ ?_
      all_goals (try refine amF (h := ?_))
      all_goals (try with_reducible apply True.intro)
      refine ⟨ALe.of (.inl rfl) (mkI_len k l).symm (fun i' hi' j hj => ?_), by omega⟩
      obtain rfl : j = 0 := by omega
      rw [if_pos (by omega)]
      show ALe (.int .i64 (k + (i' : Int))) (.int .i64 ((mkI k l).getD i' 0))
      rw [mkI_get k l hi']
      exact .refl _
set_option maxHeartbeats 2000000 in
theorem heldIntS (l : List Int) (k : Int) (u : Bool) (nl : Option Bool) (h : okI (2 ^ 47) l) (h0 : 0 ≤ k) (h1 : k + l.length ≤ 2 ^ 62) : ACalls Try.prog 19 [.one (.sl u nl 1 l.length (fI l)), .one (.int .i64 k)] (fun r => r = .val (.one (.int .i64 (if l = mkI k l then k + l.length else -1)))) := by
  have hl := h.1
  have nt : Try.f19.ntmps = 21 := rfl
  have rs : Try.f19.results = #[.tmp 4] := rfl
  refine ACalls.of_run (m := 400) mixed Try.func19 rfl rfl (Nat.le_of_ble_eq_true rfl) ?_
  simp only [nt, rs]
  clear nt rs
  (try refine am (h := ?_)); (try with_reducible apply True.intro)
  repeat' (first | (with_reducible refine And.intro ?_ ?_) | (with_reducible intro _))
  all_goals try (first | omega | with_reducible rfl | ((with_reducible refine eqId ?_); exact rfl) | with_reducible assumption | (with_reducible exact And.left (by assumption)) | (with_reducible exact And.right (by assumption)) | (with_reducible exact And.left (And.right (by assumption))) | (with_reducible exact And.left (And.left (by assumption))) | (with_reducible exact And.right (And.left (by assumption))) | (with_reducible exact And.left (And.left (And.left (by assumption)))) | (with_reducible exact And.right (And.left (And.left (by assumption)))))
  refine LoopK.auto (Nat) (fun i => [(5, .one (.av (.int .i64 i))), (1, .one (.av (.int .i64 (k + i))))]) (fun i => []) [0] (k0 := ?k02) (keepH := ?kh2) 7 (fun i => i ≤ l.length ∧ ∀ j, j < i → l.getD j 0 = k + (j : Int)) (fun i => l.length - i) (0) ?kea2 ?keb2 ?_ ?_ ?_
  case kea2 => exact amN
  case keb2 => exact amN
  · exact ⟨Nat.zero_le _, fun j hj => by omega⟩
  · refine Le.of [] [] rfl rfl rfl rfl ?_ ?_ ?_
    all_goals (try refine amL (h := ?_))
    all_goals (try with_reducible apply True.intro)
    omega
  · intro i hi
    (try refine am (h := ?_)); (try with_reducible apply True.intro)
    repeat' (first | (with_reducible refine And.intro ?_ ?_) | (with_reducible intro _))
    all_goals try (first | omega | with_reducible rfl | ((with_reducible refine eqId ?_); exact rfl) | with_reducible assumption | (with_reducible exact And.left (by assumption)) | (with_reducible exact And.right (by assumption)) | (with_reducible exact And.left (And.right (by assumption))) | (with_reducible exact And.left (And.left (by assumption))) | (with_reducible exact And.right (And.left (by assumption))) | (with_reducible exact And.left (And.left (And.left (by assumption)))) | (with_reducible exact And.right (And.left (And.left (by assumption)))))
    · refine FinK.val1 ?_ ?_
      all_goals (try refine amF (h := ?_))
      all_goals (try with_reducible apply True.intro)
      rename_i h2
      exact (if_neg (mkI_ne (by assumption) h2)).symm
    · rename_i h2
      refine ⟨i + 1, ?_, ⟨by omega, fun j hj => ?_⟩, by omega⟩
      · refine Le.of [] [] rfl rfl rfl rfl ?_ ?_ ?_
        all_goals (try refine amL (h := ?_))
        all_goals (try with_reducible apply True.intro)
        omega
      · by_cases h3 : j = i
        · rw [h3]; exact h2
        · exact hi.2 j (by omega)
    · refine FinK.val1 ?_ ?_
      all_goals (try refine amF (h := ?_))
      all_goals (try with_reducible apply True.intro)
      have := mkI_iff (k := k) (l := l) (fun j hj => hi.2 j (by omega))
      rw [if_pos this]; omega
theorem heldI (l : List Int) (k : Int) (u : Bool) (nl : Option Bool) (h : okI (2 ^ 47) l) (h0 : 0 ≤ k) (h1 : k + l.length ≤ 2 ^ 62) : ACalls Try.prog 19 [.one (.sl u nl 1 (mkI k l).length (fI (mkI k l))), .one (.int .i64 k)] (fun r => r = .val (.one (.int .i64 (k + l.length)))) := by
  have := heldIntS (mkI k l) k u nl (mkI_okB h0 h.1 h1) h0 (by rw [mkI_len]; exact h1)
  rw [mkI_mkI, if_pos rfl, mkI_len] at this
  rw [mkI_len]
  exact this
end Go.AM
