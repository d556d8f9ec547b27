/- Lemmas for the proof of this claim. -/
import Derived.Test.YteggckdmicnijaaGreatFrk
import Derived.Test.YteggckdmicnijaaGreatBas
namespace Go.AM
open Go Go.Proofs
set_option maxRecDepth 100000
end Go.AM
namespace Go.AM
open Go Go.Proofs
set_option maxRecDepth 100000
set_option maxHeartbeats 4000000 in
theorem implRuleOk (r : DRule) (h : okRule (2 ^ 47) r) : ACalls Tryz.prog 142 [.agg (cRule r)] (fun q => q = .val (.one (.bool (decide (ruleOk r))))) := by
  have nt : Tryz.f142.ntmps = 31 := rfl
  have rs : Tryz.f142.results = #[.tmp 2] := rfl
  refine ACalls.of_run (m := 400) mixed Tryz.func142 rfl rfl (Nat.le_of_ble_eq_true rfl) ?_
  simp only [nt, rs]
  clear nt rs
  (try refine am (h := ?_)); (try with_reducible apply True.intro)
  first | refine CallK.one (within r.sure 1 9) (fun _ => amC) ?_ | refine CallE.one (within r.sure 1 9) (fun _ => amC) rfl ?_ | refine CallG.one rfl (fun hg => within r.sure 1 9) ?_ | refine CallEG.one rfl rfl (fun hg => within r.sure 1 9) ?_
  (try refine am (h := ?_)); (try with_reducible apply True.intro)
  repeat' (first | (with_reducible refine And.intro ?_ ?_) | (with_reducible intro _))
  all_goals try (first | omega | with_reducible rfl | ((with_reducible refine eqId ?_); exact rfl) | with_reducible (first | assumption | exact pl ‹_› | exact pr ‹_› | exact plr ‹_› | exact pll ‹_› | exact prl ‹_› | exact plll ‹_› | exact prll ‹_›))
  first | refine CallK.one (within r.tie 0 999) (fun _ => amC) ?_ | refine CallE.one (within r.tie 0 999) (fun _ => amC) rfl ?_ | refine CallG.one rfl (fun hg => within r.tie 0 999) ?_ | refine CallEG.one rfl rfl (fun hg => within r.tie 0 999) ?_
  (try refine am (h := ?_)); (try with_reducible apply True.intro)
  repeat' (first | (with_reducible refine And.intro ?_ ?_) | (with_reducible intro _))
  all_goals try (first | omega | with_reducible rfl | ((with_reducible refine eqId ?_); exact rfl) | with_reducible (first | assumption | exact pl ‹_› | exact pr ‹_› | exact plr ‹_› | exact pll ‹_› | exact prl ‹_› | exact plll ‹_› | exact prll ‹_›))
  first | refine CallK.one (within r.grace 1 200) (fun _ => amC) ?_ | refine CallE.one (within r.grace 1 200) (fun _ => amC) rfl ?_ | refine CallG.one rfl (fun hg => within r.grace 1 200) ?_ | refine CallEG.one rfl rfl (fun hg => within r.grace 1 200) ?_
  (try refine am (h := ?_)); (try with_reducible apply True.intro)
  repeat' (first | (with_reducible refine And.intro ?_ ?_) | (with_reducible intro _))
  all_goals try (first | omega | with_reducible rfl | ((with_reducible refine eqId ?_); exact rfl) | with_reducible (first | assumption | exact pl ‹_› | exact pr ‹_› | exact plr ‹_› | exact pll ‹_› | exact prl ‹_› | exact plll ‹_› | exact prll ‹_›))
  first | refine CallK.one (within r.depth 0 6) (fun _ => amC) ?_ | refine CallE.one (within r.depth 0 6) (fun _ => amC) rfl ?_ | refine CallG.one rfl (fun hg => within r.depth 0 6) ?_ | refine CallEG.one rfl rfl (fun hg => within r.depth 0 6) ?_
  (try refine am (h := ?_)); (try with_reducible apply True.intro)
  repeat' (first | (with_reducible refine And.intro ?_ ?_) | (with_reducible intro _))
  all_goals try (first | omega | with_reducible rfl | ((with_reducible refine eqId ?_); exact rfl) | with_reducible (first | assumption | exact pl ‹_› | exact pr ‹_› | exact plr ‹_› | exact pll ‹_› | exact prl ‹_› | exact plll ‹_› | exact prll ‹_›))
  first | refine CallK.one (within r.nodes 1 31) (fun _ => amC) ?_ | refine CallE.one (within r.nodes 1 31) (fun _ => amC) rfl ?_ | refine CallG.one rfl (fun hg => within r.nodes 1 31) ?_ | refine CallEG.one rfl rfl (fun hg => within r.nodes 1 31) ?_
  (try refine am (h := ?_)); (try with_reducible apply True.intro)
  repeat' (first | (with_reducible refine And.intro ?_ ?_) | (with_reducible intro _))
  all_goals try (first | omega | with_reducible rfl | ((with_reducible refine eqId ?_); exact rfl) | with_reducible (first | assumption | exact pl ‹_› | exact pr ‹_› | exact plr ‹_› | exact pll ‹_› | exact prl ‹_› | exact plll ‹_› | exact prll ‹_›))
  first | refine CallK.one (within r.units 62 2000) (fun _ => amC) ?_ | refine CallE.one (within r.units 62 2000) (fun _ => amC) rfl ?_ | refine CallG.one rfl (fun hg => within r.units 62 2000) ?_ | refine CallEG.one rfl rfl (fun hg => within r.units 62 2000) ?_
  (try refine am (h := ?_)); (try with_reducible apply True.intro)
  repeat' (first | (with_reducible refine And.intro ?_ ?_) | (with_reducible intro _))
  all_goals try (first | omega | with_reducible rfl | ((with_reducible refine eqId ?_); exact rfl) | with_reducible (first | assumption | exact pl ‹_› | exact pr ‹_› | exact plr ‹_› | exact pll ‹_› | exact prl ‹_› | exact plll ‹_› | exact prll ‹_›))
  refine FinK.val1 ?_ ?_
  all_goals (try refine amF (h := ?_))
  all_goals (try with_reducible apply True.intro)
  refine decide_eq_decide.2 ?_
  unfold ruleOk
  exact ⟨fun ⟨⟨⟨⟨⟨a, b⟩, c⟩, d⟩, e⟩, f⟩ => ⟨a, b, c, d, e, f⟩, fun ⟨a, b, c, d, e, f⟩ => ⟨⟨⟨⟨⟨a, b⟩, c⟩, d⟩, e⟩, f⟩⟩
def fits (s : DSchema) (r : DRule) (t : DTree) : Prop := treeOk s t ∧ ruleOk r ∧ (t.nodes.length : Int) ≤ r.nodes ∧ depthOf t ≤ r.depth ∧ (sm units t.nodes : Int) ≤ r.units
instance (s : DSchema) (r : DRule) (t : DTree) : Decidable (fits s r t) := by unfold fits; infer_instance
set_option maxHeartbeats 4000000 in
theorem specRuleOk (r : DRule) (h : okRule (2 ^ 47) r) : ACalls Tryz.prog 137 [.agg (cRule r)] (fun q => q = .val (.one (.bool (decide (ruleOk r))))) := by
  have nt : Tryz.f137.ntmps = 31 := rfl
  have rs : Tryz.f137.results = #[.tmp 2] := rfl
  refine ACalls.of_run (m := 400) mixed Tryz.func137 rfl rfl (Nat.le_of_ble_eq_true rfl) ?_
  simp only [nt, rs]
  clear nt rs
  (try refine am (h := ?_)); (try with_reducible apply True.intro)
  first | refine CallK.one (l1In r.sure 1 9) (fun _ => amC) ?_ | refine CallE.one (l1In r.sure 1 9) (fun _ => amC) rfl ?_ | refine CallG.one rfl (fun hg => l1In r.sure 1 9) ?_ | refine CallEG.one rfl rfl (fun hg => l1In r.sure 1 9) ?_
  (try refine am (h := ?_)); (try with_reducible apply True.intro)
  repeat' (first | (with_reducible refine And.intro ?_ ?_) | (with_reducible intro _))
  all_goals try (first | omega | with_reducible rfl | ((with_reducible refine eqId ?_); exact rfl) | with_reducible (first | assumption | exact pl ‹_› | exact pr ‹_› | exact plr ‹_› | exact pll ‹_› | exact prl ‹_› | exact plll ‹_› | exact prll ‹_›))
  first | refine CallK.one (l1In r.tie 0 999) (fun _ => amC) ?_ | refine CallE.one (l1In r.tie 0 999) (fun _ => amC) rfl ?_ | refine CallG.one rfl (fun hg => l1In r.tie 0 999) ?_ | refine CallEG.one rfl rfl (fun hg => l1In r.tie 0 999) ?_
  (try refine am (h := ?_)); (try with_reducible apply True.intro)
  repeat' (first | (with_reducible refine And.intro ?_ ?_) | (with_reducible intro _))
  all_goals try (first | omega | with_reducible rfl | ((with_reducible refine eqId ?_); exact rfl) | with_reducible (first | assumption | exact pl ‹_› | exact pr ‹_› | exact plr ‹_› | exact pll ‹_› | exact prl ‹_› | exact plll ‹_› | exact prll ‹_›))
  first | refine CallK.one (l1In r.grace 1 200) (fun _ => amC) ?_ | refine CallE.one (l1In r.grace 1 200) (fun _ => amC) rfl ?_ | refine CallG.one rfl (fun hg => l1In r.grace 1 200) ?_ | refine CallEG.one rfl rfl (fun hg => l1In r.grace 1 200) ?_
  (try refine am (h := ?_)); (try with_reducible apply True.intro)
  repeat' (first | (with_reducible refine And.intro ?_ ?_) | (with_reducible intro _))
  all_goals try (first | omega | with_reducible rfl | ((with_reducible refine eqId ?_); exact rfl) | with_reducible (first | assumption | exact pl ‹_› | exact pr ‹_› | exact plr ‹_› | exact pll ‹_› | exact prl ‹_› | exact plll ‹_› | exact prll ‹_›))
  first | refine CallK.one (l1In r.depth 0 6) (fun _ => amC) ?_ | refine CallE.one (l1In r.depth 0 6) (fun _ => amC) rfl ?_ | refine CallG.one rfl (fun hg => l1In r.depth 0 6) ?_ | refine CallEG.one rfl rfl (fun hg => l1In r.depth 0 6) ?_
  (try refine am (h := ?_)); (try with_reducible apply True.intro)
  repeat' (first | (with_reducible refine And.intro ?_ ?_) | (with_reducible intro _))
  all_goals try (first | omega | with_reducible rfl | ((with_reducible refine eqId ?_); exact rfl) | with_reducible (first | assumption | exact pl ‹_› | exact pr ‹_› | exact plr ‹_› | exact pll ‹_› | exact prl ‹_› | exact plll ‹_› | exact prll ‹_›))
  first | refine CallK.one (l1In r.nodes 1 31) (fun _ => amC) ?_ | refine CallE.one (l1In r.nodes 1 31) (fun _ => amC) rfl ?_ | refine CallG.one rfl (fun hg => l1In r.nodes 1 31) ?_ | refine CallEG.one rfl rfl (fun hg => l1In r.nodes 1 31) ?_
  (try refine am (h := ?_)); (try with_reducible apply True.intro)
  repeat' (first | (with_reducible refine And.intro ?_ ?_) | (with_reducible intro _))
  all_goals try (first | omega | with_reducible rfl | ((with_reducible refine eqId ?_); exact rfl) | with_reducible (first | assumption | exact pl ‹_› | exact pr ‹_› | exact plr ‹_› | exact pll ‹_› | exact prl ‹_› | exact plll ‹_› | exact prll ‹_›))
  first | refine CallK.one (l1In r.units 62 2000) (fun _ => amC) ?_ | refine CallE.one (l1In r.units 62 2000) (fun _ => amC) rfl ?_ | refine CallG.one rfl (fun hg => l1In r.units 62 2000) ?_ | refine CallEG.one rfl rfl (fun hg => l1In r.units 62 2000) ?_
  (try refine am (h := ?_)); (try with_reducible apply True.intro)
  repeat' (first | (with_reducible refine And.intro ?_ ?_) | (with_reducible intro _))
  all_goals try (first | omega | with_reducible rfl | ((with_reducible refine eqId ?_); exact rfl) | with_reducible (first | assumption | exact pl ‹_› | exact pr ‹_› | exact plr ‹_› | exact pll ‹_› | exact prl ‹_› | exact plll ‹_› | exact prll ‹_›))
  refine FinK.val1 ?_ ?_
  all_goals (try refine amF (h := ?_))
  all_goals (try with_reducible apply True.intro)
  refine decide_eq_decide.2 ?_
  unfold ruleOk
  exact ⟨fun ⟨⟨⟨⟨⟨a, b⟩, c⟩, d⟩, e⟩, f⟩ => ⟨a, b, c, d, e, f⟩, fun ⟨a, b, c, d, e, f⟩ => ⟨⟨⟨⟨⟨a, b⟩, c⟩, d⟩, e⟩, f⟩⟩
end Go.AM
