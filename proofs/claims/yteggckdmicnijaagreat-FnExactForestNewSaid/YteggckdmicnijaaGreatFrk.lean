/- Lemmas for the proof of this claim. -/
import Derived.Test.YteggckdmicnijaaGreatSta
namespace Go.AM
open Go Go.Proofs
set_option maxRecDepth 100000
end Go.AM
namespace Go.AM
open Go Go.Proofs
set_option maxRecDepth 100000
set_option maxHeartbeats 4000000 in
theorem implAttrsOk (s : DSchema) (l : List Int) (u v u' : Bool) (nl : Option Bool) (h : okSchema (2 ^ 47) s) (hl : l.length ≤ 2 ^ 47) : ACalls Tryz.prog 114 [.agg (cSchema u v s), .one (.sl u' nl 1 l.length (fI l))] (fun r => r = .val (.one (.bool (decide (attrsOk s l))))) := by
  have hl0 := h.1.1
  have nt : Tryz.f114.ntmps = 34 := rfl
  have rs : Tryz.f114.results = #[.tmp 4] := rfl
  refine ACalls.of_run (m := 400) mixed Tryz.func114 rfl rfl (Nat.le_of_ble_eq_true rfl) ?_
  simp only [nt, rs]
  clear nt rs
  (try refine am (h := ?_)); (try with_reducible apply True.intro)
  repeat' (first | (with_reducible refine And.intro ?_ ?_) | (with_reducible intro _))
  all_goals try (first | omega | with_reducible rfl | ((with_reducible refine eqId ?_); exact rfl) | with_reducible (first | assumption | exact pl ‹_› | exact pr ‹_› | exact plr ‹_› | exact pll ‹_› | exact prl ‹_› | exact plll ‹_› | exact prll ‹_›))
  first | refine CallK.one (implSchemaOk s _ _ h) (fun _ => amC) ?_ | refine CallE.one (implSchemaOk s _ _ h) (fun _ => amC) rfl ?_ | refine CallG.one rfl (fun hg => implSchemaOk s _ _ h) ?_ | refine CallEG.one rfl rfl (fun hg => implSchemaOk s _ _ h) ?_
  (try refine am (h := ?_)); (try with_reducible apply True.intro)
  repeat' (first | (with_reducible refine And.intro ?_ ?_) | (with_reducible intro _))
  all_goals try (first | omega | with_reducible rfl | ((with_reducible refine eqId ?_); exact rfl) | with_reducible (first | assumption | exact pl ‹_› | exact pr ‹_› | exact plr ‹_› | exact pll ‹_› | exact prl ‹_› | exact plll ‹_› | exact prll ‹_›))
  first | refine CallG.one rfl (fun hg => implAscending l _ _ hl) ?_ | refine CallEG.one rfl rfl (fun hg => implAscending l _ _ hl) ?_
  (try refine am (h := ?_)); (try with_reducible apply True.intro)
  have he : ((l.length : Int) - 1).toNat = l.length - 1 := by omega
  (try refine am (h := ?_)); (try simp only [he]); (try refine am (h := ?_)); (try with_reducible apply True.intro)
  repeat' (first | (with_reducible refine And.intro ?_ ?_) | (with_reducible intro _))
  all_goals try (first | omega | with_reducible rfl | ((with_reducible refine eqId ?_); exact rfl) | with_reducible (first | assumption | exact pl ‹_› | exact pr ‹_› | exact plr ‹_› | exact pll ‹_› | exact prl ‹_› | exact plll ‹_› | exact prll ‹_›))
  refine FinK.val1 ?_ ?_
  all_goals (try refine amF (h := ?_))
  all_goals (try with_reducible apply True.intro)
  refine decide_eq_decide.2 ⟨fun e => ?_, fun e => ?_⟩
  · obtain ⟨⟨⟨⟨e1, e2⟩, e3⟩, e4⟩, e5⟩ := e
    refine ⟨e1, by omega, e3, fun i hi => ?_⟩
    have h1 := asc_le e3 (i := 0) (j := i) (by omega) hi
    have h2 := asc_le e3 (i := i) (j := l.length - 1) (by omega) (by omega)
    omega
  · obtain ⟨e1, e2, e3, e4⟩ := e
    have h1 := e4 0 e2
    have h2 := e4 (l.length - 1) (by omega)
    exact ⟨⟨⟨⟨e1, by omega⟩, e3⟩, by omega⟩, by omega⟩
set_option maxHeartbeats 4000000 in
theorem specAttrsOk (s : DSchema) (l : List Int) (u v u' : Bool) (nl : Option Bool) (h : okSchema (2 ^ 47) s) (hl : l.length ≤ 2 ^ 47) : ACalls Tryz.prog 105 [.agg (cSchema u v s), .one (.sl u' nl 1 l.length (fI l))] (fun r => r = .val (.one (.bool (decide (attrsOk s l))))) := by
  have hl0 := h.1.1
  have nt : Tryz.f105.ntmps = 46 := rfl
  have rs : Tryz.f105.results = #[.tmp 4] := rfl
  refine ACalls.of_run (m := 400) mixed Tryz.func105 rfl rfl (Nat.le_of_ble_eq_true rfl) ?_
  simp only [nt, rs]
  clear nt rs
  (try refine am (h := ?_)); (try with_reducible apply True.intro)
  first | refine CallK.one (specSchemaOk s _ _ h) (fun _ => amC) ?_ | refine CallE.one (specSchemaOk s _ _ h) (fun _ => amC) rfl ?_ | refine CallG.one rfl (fun hg => specSchemaOk s _ _ h) ?_ | refine CallEG.one rfl rfl (fun hg => specSchemaOk s _ _ h) ?_
  (try refine am (h := ?_)); (try with_reducible apply True.intro)
  repeat' (first | (with_reducible refine And.intro ?_ ?_) | (with_reducible intro _))
  all_goals try (first | omega | with_reducible rfl | ((with_reducible refine eqId ?_); exact rfl) | with_reducible (first | assumption | exact pl ‹_› | exact pr ‹_› | exact plr ‹_› | exact pll ‹_› | exact prl ‹_› | exact plll ‹_› | exact prll ‹_›))
  · refine FinK.val1 ?_ ?_
    all_goals (try refine amF (h := ?_))
    all_goals (try with_reducible apply True.intro)
    rename_i h1
    refine (decide_eq_false (fun e => ?_)).symm
    rcases h1 with h1 | h1
    · exact h1 e.1
    · have := e.2.1; omega
  rename_i h1
  refine LoopK.auto (Nat) (fun i => [(5, .one (.av (.int .i64 i)))]) (fun i => []) [1, 2] (k0 := ?k01) (keepH := ?kh1) 400 (fun i => i ≤ l.length ∧ (∀ j, j < i → 0 ≤ l.getD j 0 ∧ l.getD j 0 ≤ (s.attrs.length : Int) - 1) ∧ ∀ j, j + 1 < i → l.getD j 0 < l.getD (j + 1) 0) (fun i => l.length - i) (0) ?kea1 ?keb1 ?_ ?_ ?_
  case kea1 => exact amN
  case keb1 => exact amN
  · exact ⟨Nat.zero_le _, fun j hj => by omega, fun j hj => by omega⟩
  · refine Le.auto [] (r0 := ?r01) (ren := ?ren1) ?ea1 ?eb1 ?a1 ?b1 ?c1 ?d1 ?ho1 ?hn1 ?ht1
    case ea1 => exact amR
    case eb1 => exact amR
    case a1 => exact rfl
    case b1 => exact rfl
    case c1 => exact rfl
    case d1 => exact rfl
    all_goals (try refine amL (h := ?_))
    all_goals (try with_reducible apply True.intro)
  · intro i hi
    (try refine am (h := ?_)); (try with_reducible apply True.intro)
    repeat' (first | (with_reducible refine And.intro ?_ ?_) | (with_reducible intro _))
    all_goals try (first | omega | with_reducible rfl | ((with_reducible refine eqId ?_); exact rfl) | with_reducible (first | assumption | exact pl ‹_› | exact pr ‹_› | exact plr ‹_› | exact pll ‹_› | exact prl ‹_› | exact plll ‹_› | exact prll ‹_›))
    · have hlt : i < l.length := by assumption
      have e1 : ((i : Int) - 1).toNat = i - 1 := by omega
      first | refine CallK.one (l1In (l.getD i 0) 0 _) (fun _ => amC) ?_ | refine CallE.one (l1In (l.getD i 0) 0 _) (fun _ => amC) rfl ?_ | refine CallG.one rfl (fun hg => l1In (l.getD i 0) 0 _) ?_ | refine CallEG.one rfl rfl (fun hg => l1In (l.getD i 0) 0 _) ?_
      (try refine am (h := ?_)); (try with_reducible apply True.intro)
      repeat' (first | (with_reducible refine And.intro ?_ ?_) | (with_reducible intro _))
      all_goals try (first | omega | with_reducible rfl | ((with_reducible refine eqId ?_); exact rfl) | with_reducible (first | assumption | exact pl ‹_› | exact pr ‹_› | exact plr ‹_› | exact pll ‹_› | exact prl ‹_› | exact plll ‹_› | exact prll ‹_›))
      · refine FinK.val1 ?_ ?_
        all_goals (try refine amF (h := ?_))
        all_goals (try with_reducible apply True.intro)
        rename_i h6
        refine (decide_eq_false (fun e => ?_)).symm
        have e3 := e.2.2.2 i hlt
        rcases h6 with h6 | ⟨h6, h7⟩
        · omega
        · have e4 := e.2.2.1 (i - 1) (by omega)
          rw [e1] at h7
          have e5 : i - 1 + 1 = i := by omega
          rw [e5] at e4
          omega
      · rename_i h6
        refine ⟨i + 1, ?_, ⟨by omega, fun j hj => ?_, fun j hj => ?_⟩, by omega⟩
        · refine Le.auto [] (r0 := ?r02) (ren := ?ren2) ?ea2 ?eb2 ?a2 ?b2 ?c2 ?d2 ?ho2 ?hn2 ?ht2
          case ea2 => exact amR
          case eb2 => exact amR
          case a2 => exact rfl
          case b2 => exact rfl
          case c2 => exact rfl
          case d2 => exact rfl
          all_goals (try refine amL (h := ?_))
          all_goals (try with_reducible apply True.intro)
        · by_cases e : j = i
          · rw [e]; exact h6.1
          · exact hi.2.1 j (by omega)
        · by_cases e : j + 1 = i
          · have e5 : j = i - 1 := by omega
            have h7 := h6.2
            rw [e1] at h7
            rw [e, e5]
            omega
          · exact hi.2.2 j (by omega)
    · refine FinK.val1 ?_ ?_
      all_goals (try refine amF (h := ?_))
      all_goals (try with_reducible apply True.intro)
      exact (decide_eq_true ⟨h1.1, by omega, fun j hj => hi.2.2 j (by omega), fun j hj => hi.2.1 j (by omega)⟩).symm
end Go.AM
namespace Go.AM
open Go Go.Proofs
set_option maxRecDepth 100000
end Go.AM
