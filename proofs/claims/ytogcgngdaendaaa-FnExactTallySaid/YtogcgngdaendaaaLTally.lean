/- Lemmas for the proof of this claim. -/
import Derived.Test.YtogcgngdaendaaaTly
import Derived.Test.YtogcgngdaendaaaMark
namespace Go.AM
open Go Go.Proofs
set_option maxRecDepth 100000
set_option maxHeartbeats 2000000 in
theorem sTallyN (n : Int) (s w : List Int) (u u' : Bool) (nl nl' : Option Bool) (hs : okI (2 ^ 47) s) (hw : okI (2 ^ 47) w) : ACalls Try.prog 14 [.one (.int .i64 n), .one (.sl u nl 1 s.length (fI s)), .one (.sl u' nl' 1 w.length (fI w))] (fun r => r = .val (.one (aI true (tly n s w)))) := by
  by_cases hn : 0 ≤ n
  · obtain ⟨m, rfl⟩ := Int.eq_ofNat_of_zero_le hn
    exact sTally m s w u u' nl nl' hs hw
  have hsl := hs.1
  have hwl := hw.1
  have nt : Try.f14.ntmps = 74 := rfl
  have rs : Try.f14.results = #[.tmp 6] := rfl
  refine ACalls.of_run (m := 400) mixed Try.func14 rfl rfl (Nat.le_of_ble_eq_true rfl) ?_
  simp only [nt, rs]
  clear nt rs
  (try refine am (h := ?_)); (try with_reducible apply True.intro)
  first | refine CallK.one (l1In n 1 3) (fun _ => amC) ?_ | refine CallE.one (l1In n 1 3) (fun _ => amC) rfl ?_ | refine CallG.one rfl (fun hg => l1In n 1 3) ?_ | refine CallEG.one rfl rfl (fun hg => l1In n 1 3) ?_
  (try refine am (h := ?_)); (try with_reducible apply True.intro)
  refine ⟨fun h => ⟨by omega, ?_⟩, fun h => absurd h (by omega)⟩
  have e : tly n s w = [] := if_neg (fun hh => by omega)
  rw [e]
  refine FinK.val1 ?_ ?_
  all_goals (try refine amF (h := ?_))
  all_goals (try with_reducible apply True.intro)
  exact ALe.of (.inl rfl) rfl (fun i hi => absurd hi (Nat.not_lt_zero i))
set_option maxHeartbeats 2000000 in
theorem iTallyN (n : Int) (s w : List Int) (u u' : Bool) (nl nl' : Option Bool) (hs : okI (2 ^ 47) s) (hw : okI (2 ^ 47) w) : ACalls Try.prog 16 [.one (.int .i64 n), .one (.sl u nl 1 s.length (fI s)), .one (.sl u' nl' 1 w.length (fI w))] (fun r => r = .val (.one (aI true (tly n s w)))) := by
  by_cases hn : 0 ≤ n
  · obtain ⟨m, rfl⟩ := Int.eq_ofNat_of_zero_le hn
    exact iTally m s w u u' nl nl' hs hw
  have hsl := hs.1
  have hwl := hw.1
  have nt : Try.f16.ntmps = 61 := rfl
  have rs : Try.f16.results = #[.tmp 6] := rfl
  refine ACalls.of_run (m := 400) mixed Try.func16 rfl rfl (Nat.le_of_ble_eq_true rfl) ?_
  simp only [nt, rs]
  clear nt rs
  (try refine am (h := ?_)); (try with_reducible apply True.intro)
  first | refine CallK.one (within n 1 3) (fun _ => amC) ?_ | refine CallE.one (within n 1 3) (fun _ => amC) rfl ?_ | refine CallG.one rfl (fun hg => within n 1 3) ?_ | refine CallEG.one rfl rfl (fun hg => within n 1 3) ?_
  (try refine am (h := ?_)); (try with_reducible apply True.intro)
  refine ⟨fun h => ?_, fun h => absurd h (by omega)⟩
  have e : tly n s w = [] := if_neg (fun hh => by omega)
  rw [e]
  refine FinK.val1 ?_ ?_
  all_goals (try refine amF (h := ?_))
  all_goals (try with_reducible apply True.intro)
  exact .nil _ _ _ _ _
theorem tly_ok (n : Int) (s w : List Int) : okI (2 ^ 47) (tly n s w) := by
  unfold tly
  split
  · rename_i h
    refine ⟨by simp; omega, fun x hx => ?_⟩
    simp only [List.mem_map, List.mem_range] at hx
    obtain ⟨i, hi, rfl⟩ := hx
    have := tlyS_bd (c := (i : Int)) h.2.2.2
    rw [inKi]
    omega
  · exact ⟨by simp, fun x hx => by simp at hx⟩
theorem tly_len (n : Int) (s w : List Int) : (tly n s w).length ≤ 3 := by
  unfold tly
  split
  · simp; omega
  · simp
set_option maxHeartbeats 8000000 in
theorem fnExactTally (n : Int) (s w : List Int) (hn : inK .i64 n) (hs : okI (2 ^ 47) s) (hw : okI (2 ^ 47) w) : ACalls Try.prog 3 [.one (.int .i64 n), .one (aI false s), .one (aI false w)] (fun r => r = .val (.one (.bool true))) := by
  have hsl := hs.1
  have hwl := hw.1
  have nt : Try.f3.ntmps = 92 := rfl
  have rs : Try.f3.results = #[.tmp 6] := rfl
  refine ACalls.of_run (m := 400) mixed Try.func3 rfl rfl (Nat.le_of_ble_eq_true rfl) ?_
  simp only [nt, rs]
  clear nt rs
  (try refine am (h := ?_)); (try with_reducible apply True.intro)
  refine ⟨fun h => ?_, fun h => ?_⟩
  · refine FinK.val1 ?_ ?_
    all_goals (try refine amF (h := ?_))
    all_goals (try with_reducible apply True.intro)
  refine ⟨fun h => ?_, fun h => ?_⟩
  · refine FinK.val1 ?_ ?_
    all_goals (try refine amF (h := ?_))
    all_goals (try with_reducible apply True.intro)
  have hs2 : okI (2 ^ 40) s := ⟨by omega, hs.2⟩
  have hw2 : okI (2 ^ 40) w := ⟨by omega, hw.2⟩
  have ht := tly_ok n s w
  first | refine CallK.one (toIntS s _ _ hs2) (fun _ => amC) ?_ | refine CallE.one (toIntS s _ _ hs2) (fun _ => amC) rfl ?_ | refine CallG.one rfl (fun hg => toIntS s _ _ hs2) ?_ | refine CallEG.one rfl rfl (fun hg => toIntS s _ _ hs2) ?_
  (try refine am (h := ?_)); (try with_reducible apply True.intro)
  first | refine CallK.one (toIntS w _ _ hw2) (fun _ => amC) ?_ | refine CallE.one (toIntS w _ _ hw2) (fun _ => amC) rfl ?_ | refine CallG.one rfl (fun hg => toIntS w _ _ hw2) ?_ | refine CallEG.one rfl rfl (fun hg => toIntS w _ _ hw2) ?_
  (try refine am (h := ?_)); (try with_reducible apply True.intro)
  first | refine CallK.one (sTallyN n s w _ _ _ _ hs hw) (fun _ => amC) ?_ | refine CallE.one (sTallyN n s w _ _ _ _ hs hw) (fun _ => amC) rfl ?_ | refine CallG.one rfl (fun hg => sTallyN n s w _ _ _ _ hs hw) ?_ | refine CallEG.one rfl rfl (fun hg => sTallyN n s w _ _ _ _ hs hw) ?_
  (try refine am (h := ?_)); (try with_reducible apply True.intro)
  first | refine CallK.one (toIntS s _ _ hs2) (fun _ => amC) ?_ | refine CallE.one (toIntS s _ _ hs2) (fun _ => amC) rfl ?_ | refine CallG.one rfl (fun hg => toIntS s _ _ hs2) ?_ | refine CallEG.one rfl rfl (fun hg => toIntS s _ _ hs2) ?_
  (try refine am (h := ?_)); (try with_reducible apply True.intro)
  first | refine CallK.one (toIntS w _ _ hw2) (fun _ => amC) ?_ | refine CallE.one (toIntS w _ _ hw2) (fun _ => amC) rfl ?_ | refine CallG.one rfl (fun hg => toIntS w _ _ hw2) ?_ | refine CallEG.one rfl rfl (fun hg => toIntS w _ _ hw2) ?_
  (try refine am (h := ?_)); (try with_reducible apply True.intro)
  first | refine CallK.one (iTallyN n s w _ _ _ _ hs hw) (fun _ => amC) ?_ | refine CallE.one (iTallyN n s w _ _ _ _ hs hw) (fun _ => amC) rfl ?_ | refine CallG.one rfl (fun hg => iTallyN n s w _ _ _ _ hs hw) ?_ | refine CallEG.one rfl rfl (fun hg => iTallyN n s w _ _ _ _ hs hw) ?_
  (try refine am (h := ?_)); (try with_reducible apply True.intro)
  first | refine CallK.one (eqIntS (tly n s w) (tly n s w) _ _ _ _ ht) (fun _ => amC) ?_ | refine CallE.one (eqIntS (tly n s w) (tly n s w) _ _ _ _ ht) (fun _ => amC) rfl ?_ | refine CallG.one rfl (fun hg => eqIntS (tly n s w) (tly n s w) _ _ _ _ ht) ?_ | refine CallEG.one rfl rfl (fun hg => eqIntS (tly n s w) (tly n s w) _ _ _ _ ht) ?_
  (try refine am (h := ?_)); (try with_reducible apply True.intro)
  (try refine am (h := ?_)); (try simp only [eq_self]); (try refine am (h := ?_)); (try with_reducible apply True.intro)
  first | refine CallK.one (toIntS s _ _ hs2) (fun _ => amC) ?_ | refine CallE.one (toIntS s _ _ hs2) (fun _ => amC) rfl ?_ | refine CallG.one rfl (fun hg => toIntS s _ _ hs2) ?_ | refine CallEG.one rfl rfl (fun hg => toIntS s _ _ hs2) ?_
  (try refine am (h := ?_)); (try with_reducible apply True.intro)
  first | refine CallK.one (eqIntS s s _ _ _ _ hs) (fun _ => amC) ?_ | refine CallE.one (eqIntS s s _ _ _ _ hs) (fun _ => amC) rfl ?_ | refine CallG.one rfl (fun hg => eqIntS s s _ _ _ _ hs) ?_ | refine CallEG.one rfl rfl (fun hg => eqIntS s s _ _ _ _ hs) ?_
  (try refine am (h := ?_)); (try with_reducible apply True.intro)
  (try refine am (h := ?_)); (try simp only [eq_self]); (try refine am (h := ?_)); (try with_reducible apply True.intro)
  first | refine CallK.one (toIntS w _ _ hw2) (fun _ => amC) ?_ | refine CallE.one (toIntS w _ _ hw2) (fun _ => amC) rfl ?_ | refine CallG.one rfl (fun hg => toIntS w _ _ hw2) ?_ | refine CallEG.one rfl rfl (fun hg => toIntS w _ _ hw2) ?_
  (try refine am (h := ?_)); (try with_reducible apply True.intro)
  first | refine CallK.one (eqIntS w w _ _ _ _ hw) (fun _ => amC) ?_ | refine CallE.one (eqIntS w w _ _ _ _ hw) (fun _ => amC) rfl ?_ | refine CallG.one rfl (fun hg => eqIntS w w _ _ _ _ hw) ?_ | refine CallEG.one rfl rfl (fun hg => eqIntS w w _ _ _ _ hw) ?_
  (try refine am (h := ?_)); (try with_reducible apply True.intro)
  (try refine am (h := ?_)); (try simp only [eq_self]); (try refine am (h := ?_)); (try with_reducible apply True.intro)
  refine CallK.mut (markIntS s 1 none hs (by omega) (by omega)) rfl rfl rfl ?_
  (try refine am (h := ?_)); (try with_reducible apply True.intro)
  refine CallK.mut (markIntS w (1 + s.length) none hw (by omega) (by omega)) rfl rfl rfl ?_
  (try refine am (h := ?_)); (try with_reducible apply True.intro)
  first | refine CallK.one (eqIntS (tly n s w) (tly n s w) _ _ _ _ ht) (fun _ => amC) ?_ | refine CallE.one (eqIntS (tly n s w) (tly n s w) _ _ _ _ ht) (fun _ => amC) rfl ?_ | refine CallG.one rfl (fun hg => eqIntS (tly n s w) (tly n s w) _ _ _ _ ht) ?_ | refine CallEG.one rfl rfl (fun hg => eqIntS (tly n s w) (tly n s w) _ _ _ _ ht) ?_
  (try refine am (h := ?_)); (try with_reducible apply True.intro)
  (try refine am (h := ?_)); (try simp only [eq_self]); (try refine am (h := ?_)); (try with_reducible apply True.intro)
  have hk : ¬ (1 + (s.length : Int) + w.length < 0) := by omega
  have htl := tly_len n s w
  (try refine am (h := ?_)); (try simp only [hk]); (try refine am (h := ?_)); (try with_reducible apply True.intro)
  refine CallK.mut (markIntS (tly n s w) 1 none ht (by omega) (by omega)) rfl rfl rfl ?_
  (try refine am (h := ?_)); (try with_reducible apply True.intro)
  first | refine CallK.one (heldI (tly n s w) 1 _ _ ht (by omega) (by omega)) (fun _ => amC) ?_ | refine CallE.one (heldI (tly n s w) 1 _ _ ht (by omega) (by omega)) (fun _ => amC) rfl ?_ | refine CallG.one rfl (fun hg => heldI (tly n s w) 1 _ _ ht (by omega) (by omega)) ?_ | refine CallEG.one rfl rfl (fun hg => heldI (tly n s w) 1 _ _ ht (by omega) (by omega)) ?_
  (try refine am (h := ?_)); (try with_reducible apply True.intro)
  refine ⟨fun hh => absurd hh (by omega), fun _ => ?_⟩
  first | refine CallK.one (toIntS s _ _ hs2) (fun _ => amC) ?_ | refine CallE.one (toIntS s _ _ hs2) (fun _ => amC) rfl ?_ | refine CallG.one rfl (fun hg => toIntS s _ _ hs2) ?_ | refine CallEG.one rfl rfl (fun hg => toIntS s _ _ hs2) ?_
  (try refine am (h := ?_)); (try with_reducible apply True.intro)
  first | refine CallK.one (toIntS w _ _ hw2) (fun _ => amC) ?_ | refine CallE.one (toIntS w _ _ hw2) (fun _ => amC) rfl ?_ | refine CallG.one rfl (fun hg => toIntS w _ _ hw2) ?_ | refine CallEG.one rfl rfl (fun hg => toIntS w _ _ hw2) ?_
  (try refine am (h := ?_)); (try with_reducible apply True.intro)
  first | refine CallK.one (iTallyN n s w _ _ _ _ hs hw) (fun _ => amC) ?_ | refine CallE.one (iTallyN n s w _ _ _ _ hs hw) (fun _ => amC) rfl ?_ | refine CallG.one rfl (fun hg => iTallyN n s w _ _ _ _ hs hw) ?_ | refine CallEG.one rfl rfl (fun hg => iTallyN n s w _ _ _ _ hs hw) ?_
  (try refine am (h := ?_)); (try with_reducible apply True.intro)
  first | refine CallK.one (eqIntS (tly n s w) (tly n s w) _ _ _ _ ht) (fun _ => amC) ?_ | refine CallE.one (eqIntS (tly n s w) (tly n s w) _ _ _ _ ht) (fun _ => amC) rfl ?_ | refine CallG.one rfl (fun hg => eqIntS (tly n s w) (tly n s w) _ _ _ _ ht) ?_ | refine CallEG.one rfl rfl (fun hg => eqIntS (tly n s w) (tly n s w) _ _ _ _ ht) ?_
  (try refine am (h := ?_)); (try with_reducible apply True.intro)
  (try refine am (h := ?_)); (try simp only [eq_self]); (try refine am (h := ?_)); (try with_reducible apply True.intro)
  first | refine CallK.one (heldI (tly n s w) 1 _ _ ht (by omega) (by omega)) (fun _ => amC) ?_ | refine CallE.one (heldI (tly n s w) 1 _ _ ht (by omega) (by omega)) (fun _ => amC) rfl ?_ | refine CallG.one rfl (fun hg => heldI (tly n s w) 1 _ _ ht (by omega) (by omega)) ?_ | refine CallEG.one rfl rfl (fun hg => heldI (tly n s w) 1 _ _ ht (by omega) (by omega)) ?_
  (try refine am (h := ?_)); (try with_reducible apply True.intro)
  refine ⟨fun hh => absurd hh (by omega), fun _ => ?_⟩
  refine FinK.val1 ?_ ?_
  all_goals (try refine amF (h := ?_))
  all_goals (try with_reducible apply True.intro)
end Go.AM
