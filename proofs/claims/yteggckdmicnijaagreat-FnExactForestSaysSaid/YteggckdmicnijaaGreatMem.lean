/- Lemmas for the proof of this claim. -/
import Derived.Test.YteggckdmicnijaaGreatCnf
import Derived.Test.YteggckdmicnijaaGreatWin
import Derived.Test.YteggckdmicnijaaGreatSame
namespace Go.AM
open Go Go.Proofs
set_option maxRecDepth 100000
def ATRd : AT → AT → Prop
  | .one a, .one b => RdLe a b
  | .agg l, .agg m => RdLeL l m
  | _, _ => False
def ATRdL : List AT → List AT → Prop
  | [], [] => True
  | a :: r, b :: s => ATRd a b ∧ ATRdL r s
  | _, _ => False
theorem ATRd.rel {a b : AT} {w : World} {own : Own} {v : Value} (h : ATRd a b) (hr : RelA w own a v) : RelA w own b v := by
  cases a with
  | one a => cases b with
    | one b => exact h w own v hr
    | agg m => exact h.elim
  | agg l => cases b with
    | one b => exact h.elim
    | agg m =>
      obtain ⟨cs, rfl, h1, h2⟩ := hr
      obtain ⟨g1, g2⟩ := RdLeL.get h
      refine ⟨cs, rfl, by rw [h1, g1], fun j b hb => ?_⟩
      obtain ⟨a, f1, f2⟩ := g2 j b hb
      obtain ⟨x, f3, f4⟩ := h2 j a f1
      exact ⟨x, f3, f2 w own x f4⟩
theorem ATRdL.get : ∀ {l m : List AT}, ATRdL l m → l.length = m.length ∧ ∀ (i : Nat) (b : AT), m[i]? = some b → ∃ a, l[i]? = some a ∧ ATRd a b
  | [], [], _ => ⟨rfl, fun i b h => by simp at h⟩
  | a :: r, b :: s, h => by
    obtain ⟨h1, h2⟩ := ATRdL.get h.2
    refine ⟨by simp [h1], fun i c hc => ?_⟩
    cases i with
    | zero => simp at hc; subst hc; exact ⟨a, rfl, h.1⟩
    | succ i => simpa using h2 i c (by simpa using hc)
theorem ACalls.weak {P : Program} {f : FuncId} {args args' : List AT} {R : RV → Prop} (h : ACalls P f args' R) (hw : ATRdL args args') : ACalls P f args R := by
  obtain ⟨h1, h2⟩ := hw.get
  refine ⟨h.enter, fun own0 w vs hown hvs hargs => h.calls own0 w vs hown (by rw [hvs, h1]) (fun i t ht => ?_)⟩
  obtain ⟨a, g1, g2⟩ := h2 i t ht
  obtain ⟨v, g3, g4⟩ := hargs i a g1
  exact ⟨v, g3, g2.rel g4⟩
theorem rdLe_nil {u : Bool} {es : Nat} {g : Nat → Nat → AV} : RdLe nilAV (.sl u none es 0 g) := by
  rintro w own v ⟨a, cap, rfl, h1, h2, h3, h4, h5⟩
  exact ⟨a, cap, rfl, h1, h2, ⟨fun e => by simp at e, fun e => by simp at e⟩, h4, fun h => absurd rfl h⟩
theorem rdLe_refl {a : AV} : RdLe a a := fun _ _ _ h => h
def memberOk (c : DConf) (m : DMember) : Prop := confOk c ∧ fits c.schema c.rule m.tree ∧ (wok m.det.warn ∧ wok m.det.drift) ∧ if m.hasYoung = true then fits c.schema c.rule m.young else m.young.nodes.length = 0 ∧ m.young.seen = 0
instance (c : DConf) (m : DMember) : Decidable (memberOk c m) := by unfold memberOk; infer_instance
theorem young0 (t : DTree) : (t = ⟨[], 0⟩) ↔ (t.nodes.length = 0 ∧ t.seen = 0) := by
  cases t
  simp
set_option maxHeartbeats 8000000 in
theorem implMemberOk (c : DConf) (m : DMember) (u v u' v' : Bool) (h : okConf (2 ^ 47) c) (hm : okMember (2 ^ 47) m) (hz : zMember m ≤ 2 ^ 40) : ACalls Tryz.prog 188 [.agg (cConf u v c), .agg (cMember u' v' m)] (fun q => q = .val (.one (.bool (decide (memberOk c m))))) := by
  have hz1 : zTree m.tree ≤ 2 ^ 40 := by unfold zMember at hz; omega
  have hz2 : zTree m.young ≤ 2 ^ 40 := by unfold zMember at hz; omega
  have hyl := hm.2.2.1.1.1
  have nt : Tryz.f188.ntmps = 37 := rfl
  have rs : Tryz.f188.results = #[.tmp 4] := rfl
  refine ACalls.of_run (m := 400) mixed Tryz.func188 rfl rfl (Nat.le_of_ble_eq_true rfl) ?_
  simp only [nt, rs]
  clear nt rs
  (try refine am (h := ?_)); (try with_reducible apply True.intro)
  repeat' (first | (with_reducible refine And.intro ?_ ?_) | (with_reducible intro _))
  all_goals try (first | omega | with_reducible rfl | ((with_reducible refine eqId ?_); exact rfl) | with_reducible (first | assumption | exact pl ‹_› | exact pr ‹_› | exact plr ‹_› | exact pll ‹_› | exact prl ‹_› | exact plll ‹_› | exact prll ‹_›))
  first | refine CallK.one (implConfOk c _ _ h) (fun _ => amC) ?_ | refine CallE.one (implConfOk c _ _ h) (fun _ => amC) rfl ?_ | refine CallG.one rfl (fun hg => implConfOk c _ _ h) ?_ | refine CallEG.one rfl rfl (fun hg => implConfOk c _ _ h) ?_
  (try refine am (h := ?_)); (try with_reducible apply True.intro)
  repeat' (first | (with_reducible refine And.intro ?_ ?_) | (with_reducible intro _))
  all_goals try (first | omega | with_reducible rfl | ((with_reducible refine eqId ?_); exact rfl) | with_reducible (first | assumption | exact pl ‹_› | exact pr ‹_› | exact plr ‹_› | exact pll ‹_› | exact prl ‹_› | exact plll ‹_› | exact prll ‹_›))
  first | refine CallK.one (implFits c.schema c.rule m.tree _ _ _ _ h.1 h.2.1 hm.1 hz1) (fun _ => amC) ?_ | refine CallE.one (implFits c.schema c.rule m.tree _ _ _ _ h.1 h.2.1 hm.1 hz1) (fun _ => amC) rfl ?_ | refine CallG.one rfl (fun hg => implFits c.schema c.rule m.tree _ _ _ _ h.1 h.2.1 hm.1 hz1) ?_ | refine CallEG.one rfl rfl (fun hg => implFits c.schema c.rule m.tree _ _ _ _ h.1 h.2.1 hm.1 hz1) ?_
  (try refine am (h := ?_)); (try with_reducible apply True.intro)
  repeat' (first | (with_reducible refine And.intro ?_ ?_) | (with_reducible intro _))
  all_goals try (first | omega | with_reducible rfl | ((with_reducible refine eqId ?_); exact rfl) | with_reducible (first | assumption | exact pl ‹_› | exact pr ‹_› | exact plr ‹_› | exact pll ‹_› | exact prl ‹_› | exact plll ‹_› | exact prll ‹_›))
  first | refine CallK.one (implDetOk m.det _ _ hm.2.2.2) (fun _ => amC) ?_ | refine CallE.one (implDetOk m.det _ _ hm.2.2.2) (fun _ => amC) rfl ?_ | refine CallG.one rfl (fun hg => implDetOk m.det _ _ hm.2.2.2) ?_ | refine CallEG.one rfl rfl (fun hg => implDetOk m.det _ _ hm.2.2.2) ?_
  (try refine am (h := ?_)); (try with_reducible apply True.intro)
  repeat' (first | (with_reducible refine And.intro ?_ ?_) | (with_reducible intro _))
  all_goals try (first | omega | with_reducible rfl | ((with_reducible refine eqId ?_); exact rfl) | with_reducible (first | assumption | exact pl ‹_› | exact pr ‹_› | exact plr ‹_› | exact pll ‹_› | exact prl ‹_› | exact plll ‹_› | exact prll ‹_›))
  · refine FinK.val1 ?_ ?_
    all_goals (try refine amF (h := ?_))
    all_goals (try with_reducible apply True.intro)
    rename_i h1
    refine (decide_eq_false (fun e => ?_)).symm
    obtain ⟨e1, e2, ⟨e3, e4⟩, e5⟩ := e
    rcases h1 with (h1 | h1) | h1
    · exact h1 e1
    · exact h1 e2
    · simp [wokB, e3, e4] at h1
  · rename_i h1 h2
    obtain ⟨⟨f1, f2⟩, f3⟩ := h1
    have f3 : wok m.det.warn ∧ wok m.det.drift := by simpa [wokB] using f3
    first | refine CallK.one (implFits c.schema c.rule m.young _ _ _ _ h.1 h.2.1 hm.2.2.1 hz2) (fun _ => amC) ?_ | refine CallE.one (implFits c.schema c.rule m.young _ _ _ _ h.1 h.2.1 hm.2.2.1 hz2) (fun _ => amC) rfl ?_ | refine CallG.one rfl (fun hg => implFits c.schema c.rule m.young _ _ _ _ h.1 h.2.1 hm.2.2.1 hz2) ?_ | refine CallEG.one rfl rfl (fun hg => implFits c.schema c.rule m.young _ _ _ _ h.1 h.2.1 hm.2.2.1 hz2) ?_
    (try refine am (h := ?_)); (try with_reducible apply True.intro)
    repeat' (first | (with_reducible refine And.intro ?_ ?_) | (with_reducible intro _))
    all_goals try (first | omega | with_reducible rfl | ((with_reducible refine eqId ?_); exact rfl) | with_reducible (first | assumption | exact pl ‹_› | exact pr ‹_› | exact plr ‹_› | exact pll ‹_› | exact prl ‹_› | exact plll ‹_› | exact prll ‹_›))
    refine FinK.val1 ?_ ?_
    all_goals (try refine amF (h := ?_))
    all_goals (try with_reducible apply True.intro)
    refine decide_eq_decide.2 ?_
    unfold memberOk
    rw [if_pos h2]
    exact ⟨fun e => ⟨f1, f2, f3, e⟩, fun e => e.2.2.2⟩
  · rename_i h1 h2
    obtain ⟨⟨f1, f2⟩, f3⟩ := h1
    have f3 : wok m.det.warn ∧ wok m.det.drift := by simpa [wokB] using f3
    first | refine CallK.one ((ACalls.weak (implTreeSame m.young ⟨[], 0⟩ _ _ false false hm.2.2.1) ⟨RdLeL.refl _, ⟨rdLe_nil, rdLe_refl, trivial⟩, trivial⟩)) (fun _ => amC) ?_ | refine CallE.one ((ACalls.weak (implTreeSame m.young ⟨[], 0⟩ _ _ false false hm.2.2.1) ⟨RdLeL.refl _, ⟨rdLe_nil, rdLe_refl, trivial⟩, trivial⟩)) (fun _ => amC) rfl ?_ | refine CallG.one rfl (fun hg => (ACalls.weak (implTreeSame m.young ⟨[], 0⟩ _ _ false false hm.2.2.1) ⟨RdLeL.refl _, ⟨rdLe_nil, rdLe_refl, trivial⟩, trivial⟩)) ?_ | refine CallEG.one rfl rfl (fun hg => (ACalls.weak (implTreeSame m.young ⟨[], 0⟩ _ _ false false hm.2.2.1) ⟨RdLeL.refl _, ⟨rdLe_nil, rdLe_refl, trivial⟩, trivial⟩)) ?_
    (try refine am (h := ?_)); (try with_reducible apply True.intro)
    repeat' (first | (with_reducible refine And.intro ?_ ?_) | (with_reducible intro _))
    all_goals try (first | omega | with_reducible rfl | ((with_reducible refine eqId ?_); exact rfl) | with_reducible (first | assumption | exact pl ‹_› | exact pr ‹_› | exact plr ‹_› | exact pll ‹_› | exact prl ‹_› | exact plll ‹_› | exact prll ‹_›))
    refine FinK.val1 ?_ ?_
    all_goals (try refine amF (h := ?_))
    all_goals (try with_reducible apply True.intro)
    refine decide_eq_decide.2 ((young0 _).trans ?_)
    unfold memberOk
    rw [if_neg (by rw [h2]; simp)]
    exact ⟨fun e => ⟨f1, f2, f3, e⟩, fun e => e.2.2.2⟩
set_option maxHeartbeats 8000000 in
theorem specMemberOk (c : DConf) (m : DMember) (u v u' v' : Bool) (h : okConf (2 ^ 47) c) (hm : okMember (2 ^ 47) m) (hz : zMember m ≤ 2 ^ 40) : ACalls Tryz.prog 182 [.agg (cConf u v c), .agg (cMember u' v' m)] (fun q => q = .val (.one (.bool (decide (memberOk c m))))) := by
  have hz1 : zTree m.tree ≤ 2 ^ 40 := by unfold zMember at hz; omega
  have hz2 : zTree m.young ≤ 2 ^ 40 := by unfold zMember at hz; omega
  have hyl := hm.2.2.1.1.1
  have nt : Tryz.f182.ntmps = 44 := rfl
  have rs : Tryz.f182.results = #[.tmp 4] := rfl
  refine ACalls.of_run (m := 400) mixed Tryz.func182 rfl rfl (Nat.le_of_ble_eq_true rfl) ?_
  simp only [nt, rs]
  clear nt rs
  (try refine am (h := ?_)); (try with_reducible apply True.intro)
  repeat' (first | (with_reducible refine And.intro ?_ ?_) | (with_reducible intro _))
  all_goals try (first | omega | with_reducible rfl | ((with_reducible refine eqId ?_); exact rfl) | with_reducible (first | assumption | exact pl ‹_› | exact pr ‹_› | exact plr ‹_› | exact pll ‹_› | exact prl ‹_› | exact plll ‹_› | exact prll ‹_›))
  first | refine CallK.one (specConfOk c _ _ h) (fun _ => amC) ?_ | refine CallE.one (specConfOk c _ _ h) (fun _ => amC) rfl ?_ | refine CallG.one rfl (fun hg => specConfOk c _ _ h) ?_ | refine CallEG.one rfl rfl (fun hg => specConfOk c _ _ h) ?_
  (try refine am (h := ?_)); (try with_reducible apply True.intro)
  repeat' (first | (with_reducible refine And.intro ?_ ?_) | (with_reducible intro _))
  all_goals try (first | omega | with_reducible rfl | ((with_reducible refine eqId ?_); exact rfl) | with_reducible (first | assumption | exact pl ‹_› | exact pr ‹_› | exact plr ‹_› | exact pll ‹_› | exact prl ‹_› | exact plll ‹_› | exact prll ‹_›))
  first | refine CallK.one (specFits c.schema c.rule m.tree _ _ _ _ h.1 h.2.1 hm.1 hz1) (fun _ => amC) ?_ | refine CallE.one (specFits c.schema c.rule m.tree _ _ _ _ h.1 h.2.1 hm.1 hz1) (fun _ => amC) rfl ?_ | refine CallG.one rfl (fun hg => specFits c.schema c.rule m.tree _ _ _ _ h.1 h.2.1 hm.1 hz1) ?_ | refine CallEG.one rfl rfl (fun hg => specFits c.schema c.rule m.tree _ _ _ _ h.1 h.2.1 hm.1 hz1) ?_
  (try refine am (h := ?_)); (try with_reducible apply True.intro)
  repeat' (first | (with_reducible refine And.intro ?_ ?_) | (with_reducible intro _))
  all_goals try (first | omega | with_reducible rfl | ((with_reducible refine eqId ?_); exact rfl) | with_reducible (first | assumption | exact pl ‹_› | exact pr ‹_› | exact plr ‹_› | exact pll ‹_› | exact prl ‹_› | exact plll ‹_› | exact prll ‹_›))
  first | refine CallK.one (specDetOk m.det _ _ hm.2.2.2) (fun _ => amC) ?_ | refine CallE.one (specDetOk m.det _ _ hm.2.2.2) (fun _ => amC) rfl ?_ | refine CallG.one rfl (fun hg => specDetOk m.det _ _ hm.2.2.2) ?_ | refine CallEG.one rfl rfl (fun hg => specDetOk m.det _ _ hm.2.2.2) ?_
  (try refine am (h := ?_)); (try with_reducible apply True.intro)
  repeat' (first | (with_reducible refine And.intro ?_ ?_) | (with_reducible intro _))
  all_goals try (first | omega | with_reducible rfl | ((with_reducible refine eqId ?_); exact rfl) | with_reducible (first | assumption | exact pl ‹_› | exact pr ‹_› | exact plr ‹_› | exact pll ‹_› | exact prl ‹_› | exact plll ‹_› | exact prll ‹_›))
  · refine FinK.val1 ?_ ?_
    all_goals (try refine amF (h := ?_))
    all_goals (try with_reducible apply True.intro)
    rename_i h1
    refine (decide_eq_false (fun e => ?_)).symm
    obtain ⟨e1, e2, ⟨e3, e4⟩, e5⟩ := e
    rcases h1 with (h1 | h1) | h1
    · exact h1 e1
    · exact h1 e2
    · simp [wokB, e3, e4] at h1
  · rename_i h1 h2
    obtain ⟨⟨f1, f2⟩, f3⟩ := h1
    have f3 : wok m.det.warn ∧ wok m.det.drift := by simpa [wokB] using f3
    first | refine CallK.one (specFits c.schema c.rule m.young _ _ _ _ h.1 h.2.1 hm.2.2.1 hz2) (fun _ => amC) ?_ | refine CallE.one (specFits c.schema c.rule m.young _ _ _ _ h.1 h.2.1 hm.2.2.1 hz2) (fun _ => amC) rfl ?_ | refine CallG.one rfl (fun hg => specFits c.schema c.rule m.young _ _ _ _ h.1 h.2.1 hm.2.2.1 hz2) ?_ | refine CallEG.one rfl rfl (fun hg => specFits c.schema c.rule m.young _ _ _ _ h.1 h.2.1 hm.2.2.1 hz2) ?_
    (try refine am (h := ?_)); (try with_reducible apply True.intro)
    repeat' (first | (with_reducible refine And.intro ?_ ?_) | (with_reducible intro _))
    all_goals try (first | omega | with_reducible rfl | ((with_reducible refine eqId ?_); exact rfl) | with_reducible (first | assumption | exact pl ‹_› | exact pr ‹_› | exact plr ‹_› | exact pll ‹_› | exact prl ‹_› | exact plll ‹_› | exact prll ‹_›))
    refine FinK.val1 ?_ ?_
    all_goals (try refine amF (h := ?_))
    all_goals (try with_reducible apply True.intro)
    refine decide_eq_decide.2 ?_
    unfold memberOk
    rw [if_pos h2]
    exact ⟨fun e => ⟨f1, f2, f3, e⟩, fun e => e.2.2.2⟩
  · rename_i h1 h2
    obtain ⟨⟨f1, f2⟩, f3⟩ := h1
    have f3 : wok m.det.warn ∧ wok m.det.drift := by simpa [wokB] using f3
    refine FinK.val1 ?_ ?_
    all_goals (try refine amF (h := ?_))
    all_goals (try with_reducible apply True.intro)
    refine decide_eq_decide.2 ?_
    unfold memberOk
    rw [if_neg (by rw [h2]; simp)]
    exact ⟨fun e => ⟨f1, f2, f3, by omega, e.2⟩, fun e => by have := e.2.2.2; omega⟩
def forestOk (c : DConf) (f : DForest) : Prop := confOk c ∧ (f.members.length : Int) = c.members ∧ ∀ i, i < f.members.length → memberOk c (f.members.getD i default)
instance (c : DConf) (f : DForest) : Decidable (forestOk c f) := by unfold forestOk; infer_instance
set_option maxHeartbeats 8000000 in
theorem indexFuncM (l : List DMember) (u v : Bool) (nl : Option Bool) (f : FuncId) (g : Nat → AV) (p : DMember → Bool) (hl : l.length ≤ 2 ^ 47) (hf : ∀ x ∈ l, ACalls Tryz.prog f [.agg (cMember v v x), .one (g 0)] (fun r => r = .val (.one (.bool (p x))))) :
    ACalls Tryz.prog 225 [.one (.sl u nl 7 l.length (fMember v l)), .one (.fn (.func f) 1 g)] (fun r => r = .val (.one (.int .i64 (fidxN (fun j => p (l.getD j default)) 0 l.length)))) := by
  have nt : Tryz.f225.ntmps = 19 := rfl
  have rs : Tryz.f225.results = #[.tmp 4] := rfl
  refine ACalls.of_run (m := 400) mixed Tryz.func225 rfl rfl (Nat.le_of_ble_eq_true rfl) ?_
  simp only [nt, rs]
  clear nt rs
  (try refine am (h := ?_)); (try with_reducible apply True.intro)
  repeat' (first | (with_reducible refine And.intro ?_ ?_) | (with_reducible intro _))
  all_goals try (first | omega | with_reducible rfl | ((with_reducible refine eqId ?_); exact rfl) | with_reducible (first | assumption | exact pl ‹_› | exact pr ‹_› | exact plr ‹_› | exact pll ‹_› | exact prl ‹_› | exact plll ‹_› | exact prll ‹_›))
  refine LoopK.auto (Nat) (fun i => [(8, .one (.av (.int .i64 i)))]) (fun i => []) [0, 1, 7] (k0 := ?k01) (keepH := ?kh1) 400 (fun i => i ≤ l.length ∧ fidxN (fun j => p (l.getD j default)) 0 l.length = fidxN (fun j => p (l.getD j default)) i (l.length - i)) (fun i => l.length - i) (0) ?kea1 ?keb1 ?_ ?_ ?_
  case kea1 => exact amN
  case keb1 => exact amN
  · exact ⟨Nat.zero_le _, by simp⟩
  · refine Le.auto [] (r0 := ?r01) (ren := ?ren1) ?ea1 ?eb1 ?a1 ?b1 ?c1 ?d1 ?ho1 ?hn1 ?ht1
    case ea1 => exact amR
    case eb1 => exact amR
    case a1 => exact rfl
    case b1 => exact rfl
    case c1 => exact rfl
    case d1 => exact rfl
    all_goals (try refine amL (h := ?_))
    all_goals (try with_reducible apply True.intro)
  · rintro i ⟨hi, hs⟩
    (try refine am (h := ?_)); (try with_reducible apply True.intro)
    repeat' (first | (with_reducible refine And.intro ?_ ?_) | (with_reducible intro _))
    all_goals try (first | omega | with_reducible rfl | ((with_reducible refine eqId ?_); exact rfl) | with_reducible (first | assumption | exact pl ‹_› | exact pr ‹_› | exact plr ‹_› | exact pll ‹_› | exact prl ‹_› | exact plll ‹_› | exact prll ‹_›))
    · have hlt : i < l.length := by assumption
      have e : l.length - i = (l.length - (i + 1)) + 1 := by omega
      first | refine CallK.one (hf (l.getD i default) (getD_mem hlt)) (fun _ => amC) ?_ | refine CallE.one (hf (l.getD i default) (getD_mem hlt)) (fun _ => amC) rfl ?_ | refine CallG.one rfl (fun hg => hf (l.getD i default) (getD_mem hlt)) ?_ | refine CallEG.one rfl rfl (fun hg => hf (l.getD i default) (getD_mem hlt)) ?_
      (try refine am (h := ?_)); (try with_reducible apply True.intro)
      repeat' (first | (with_reducible refine And.intro ?_ ?_) | (with_reducible intro _))
      all_goals try (first | omega | with_reducible rfl | ((with_reducible refine eqId ?_); exact rfl) | with_reducible (first | assumption | exact pl ‹_› | exact pr ‹_› | exact plr ‹_› | exact pll ‹_› | exact prl ‹_› | exact plll ‹_› | exact prll ‹_›))
      · refine FinK.val1 ?_ ?_
        all_goals (try refine amF (h := ?_))
        all_goals (try with_reducible apply True.intro)
        rename_i h1 h2
        rw [hs, e, fidxN, if_pos h2]
      · rename_i h1 h2
        rw [e, fidxN, if_neg (by rw [h2]; simp)] at hs
        refine ⟨i + 1, ?_, ⟨by omega, hs⟩, by omega⟩
        refine Le.auto [] (r0 := ?r02) (ren := ?ren2) ?ea2 ?eb2 ?a2 ?b2 ?c2 ?d2 ?ho2 ?hn2 ?ht2
        case ea2 => exact amR
        case eb2 => exact amR
        case a2 => exact rfl
        case b2 => exact rfl
        case c2 => exact rfl
        case d2 => exact rfl
        all_goals (try refine amL (h := ?_))
        all_goals (try with_reducible apply True.intro)
    · refine FinK.val1 ?_ ?_
      all_goals (try refine amF (h := ?_))
      all_goals (try with_reducible apply True.intro)
      have e : l.length - i = 0 := by omega
      rw [hs, e, fidxN]
set_option maxHeartbeats 8000000 in
theorem containsFuncM (l : List DMember) (u v : Bool) (nl : Option Bool) (f : FuncId) (g : Nat → AV) (p : DMember → Bool) (hl : l.length ≤ 2 ^ 47) (hf : ∀ x ∈ l, ACalls Tryz.prog f [.agg (cMember v v x), .one (g 0)] (fun r => r = .val (.one (.bool (p x))))) :
    ACalls Tryz.prog 186 [.one (.sl u nl 7 l.length (fMember v l)), .one (.fn (.func f) 1 g)] (fun r => r = .val (.one (.bool (decide (∃ j, j < l.length ∧ p (l.getD j default) = true))))) := by
  have nt : Tryz.f186.ntmps = 9 := rfl
  have rs : Tryz.f186.results = #[.tmp 4] := rfl
  refine ACalls.of_run (m := 400) mixed Tryz.func186 rfl rfl (Nat.le_of_ble_eq_true rfl) ?_
  simp only [nt, rs]
  clear nt rs
  (try refine am (h := ?_)); (try with_reducible apply True.intro)
  first | refine CallK.one (indexFuncM l _ _ _ f _ p hl (fun x hx => hf x hx)) (fun _ => amC) ?_ | refine CallE.one (indexFuncM l _ _ _ f _ p hl (fun x hx => hf x hx)) (fun _ => amC) rfl ?_ | refine CallG.one rfl (fun hg => indexFuncM l _ _ _ f _ p hl (fun x hx => hf x hx)) ?_ | refine CallEG.one rfl rfl (fun hg => indexFuncM l _ _ _ f _ p hl (fun x hx => hf x hx)) ?_
  (try refine am (h := ?_)); (try with_reducible apply True.intro)
  refine FinK.val1 ?_ ?_
  all_goals (try refine amF (h := ?_))
  all_goals (try with_reducible apply True.intro)
  refine decide_eq_decide.2 ((fidxN_ex _ _ _).trans ?_)
  constructor
  · rintro ⟨j, h1, h2, h3⟩; exact ⟨j, by omega, h3⟩
  · rintro ⟨j, h1, h2⟩; exact ⟨j, by omega, by omega, h2⟩
set_option maxHeartbeats 8000000 in
theorem forestOk1 (c : DConf) (m : DMember) (u v u' v' : Bool) (mm : Nat) (g : Nat → AV) (h : okConf (2 ^ 47) c) (hm : okMember (2 ^ 47) m) (hz : zMember m ≤ 2 ^ 40) (hmm : 14 ≤ mm) (hg : ∀ j, g j = gl .junk (cConf u v c) j) : ACalls Tryz.prog 187 [.agg (cMember u' v' m), .one (.ptr mm g)] (fun r => r = .val (.one (.bool (!decide (memberOk c m))))) := by
  have nt : Tryz.f187.ntmps = 8 := rfl
  have rs : Tryz.f187.results = #[.tmp 3] := rfl
  refine ACalls.of_run (m := 400) mixed Tryz.func187 rfl rfl (Nat.le_of_ble_eq_true rfl) ?_
  simp only [nt, rs]
  clear nt rs
  (try refine am (h := ?_)); (try with_reducible apply True.intro)
  (try refine am (h := ?_)); (try simp only [hg]); (try refine am (h := ?_)); (try with_reducible apply True.intro)
  repeat' (first | (with_reducible refine And.intro ?_ ?_) | (with_reducible intro _))
  all_goals try (first | omega | with_reducible rfl | ((with_reducible refine eqId ?_); exact rfl) | with_reducible (first | assumption | exact pl ‹_› | exact pr ‹_› | exact plr ‹_› | exact pll ‹_› | exact prl ‹_› | exact plll ‹_› | exact prll ‹_›))
  first | refine CallK.one (implMemberOk c m _ _ _ _ h hm hz) (fun _ => amC) ?_ | refine CallE.one (implMemberOk c m _ _ _ _ h hm hz) (fun _ => amC) rfl ?_ | refine CallG.one rfl (fun hg => implMemberOk c m _ _ _ _ h hm hz) ?_ | refine CallEG.one rfl rfl (fun hg => implMemberOk c m _ _ _ _ h hm hz) ?_
  (try refine am (h := ?_)); (try with_reducible apply True.intro)
  repeat' (first | (with_reducible refine And.intro ?_ ?_) | (with_reducible intro _))
  all_goals try (first | omega | with_reducible rfl | ((with_reducible refine eqId ?_); exact rfl) | with_reducible (first | assumption | exact pl ‹_› | exact pr ‹_› | exact plr ‹_› | exact pll ‹_› | exact prl ‹_› | exact plll ‹_› | exact prll ‹_›))
  refine FinK.val1 ?_ ?_
  all_goals (try refine amF (h := ?_))
  all_goals (try with_reducible apply True.intro)
set_option maxHeartbeats 8000000 in
theorem implForestOk (c : DConf) (f : DForest) (u v u' v' : Bool) (h : okConf (2 ^ 47) c) (hf : okForest (2 ^ 47) f) (hz : zForest f ≤ 2 ^ 40) : ACalls Tryz.prog 124 [.agg (cConf u v c), .agg (cForest u' v' f)] (fun q => q = .val (.one (.bool (decide (forestOk c f))))) := by
  have hl := hf.1
  have hzm : ∀ x ∈ f.members, zMember x ≤ 2 ^ 40 := fun x hx => by
    have := sm_mem (f := zMember) hx
    have e : zForest f = f.members.length + sm zMember f.members := rfl
    omega
  have nt : Tryz.f124.ntmps = 22 := rfl
  have rs : Tryz.f124.results = #[.tmp 4] := rfl
  refine ACalls.of_run (m := 400) mixed Tryz.func124 rfl rfl (Nat.le_of_ble_eq_true rfl) ?_
  simp only [nt, rs]
  clear nt rs
  (try refine am (h := ?_)); (try with_reducible apply True.intro)
  first | refine CallK.one (implConfOk c _ _ h) (fun _ => amC) ?_ | refine CallE.one (implConfOk c _ _ h) (fun _ => amC) rfl ?_ | refine CallG.one rfl (fun hg => implConfOk c _ _ h) ?_ | refine CallEG.one rfl rfl (fun hg => implConfOk c _ _ h) ?_
  (try refine am (h := ?_)); (try with_reducible apply True.intro)
  repeat' (first | (with_reducible refine And.intro ?_ ?_) | (with_reducible intro _))
  all_goals try (first | omega | with_reducible rfl | ((with_reducible refine eqId ?_); exact rfl) | with_reducible (first | assumption | exact pl ‹_› | exact pr ‹_› | exact plr ‹_› | exact pll ‹_› | exact prl ‹_› | exact plll ‹_› | exact prll ‹_›))
  first | refine CallK.one (containsFuncM f.members _ _ _ _ _ (fun m => !decide (memberOk c m)) hf.1 (fun x hx => forestOk1 c x _ _ _ _ _ _ h (hf.2 x hx) (hzm x hx) (by omega) (fun j => rfl))) (fun _ => amC) ?_ | refine CallE.one (containsFuncM f.members _ _ _ _ _ (fun m => !decide (memberOk c m)) hf.1 (fun x hx => forestOk1 c x _ _ _ _ _ _ h (hf.2 x hx) (hzm x hx) (by omega) (fun j => rfl))) (fun _ => amC) rfl ?_ | refine CallG.one rfl (fun hg => containsFuncM f.members _ _ _ _ _ (fun m => !decide (memberOk c m)) hf.1 (fun x hx => forestOk1 c x _ _ _ _ _ _ h (hf.2 x hx) (hzm x hx) (by omega) (fun j => rfl))) ?_ | refine CallEG.one rfl rfl (fun hg => containsFuncM f.members _ _ _ _ _ (fun m => !decide (memberOk c m)) hf.1 (fun x hx => forestOk1 c x _ _ _ _ _ _ h (hf.2 x hx) (hzm x hx) (by omega) (fun j => rfl))) ?_
  (try refine am (h := ?_)); (try with_reducible apply True.intro)
  repeat' (first | (with_reducible refine And.intro ?_ ?_) | (with_reducible intro _))
  all_goals try (first | omega | with_reducible rfl | ((with_reducible refine eqId ?_); exact rfl) | with_reducible (first | assumption | exact pl ‹_› | exact pr ‹_› | exact plr ‹_› | exact pll ‹_› | exact prl ‹_› | exact plll ‹_› | exact prll ‹_›))
  refine FinK.val1 ?_ ?_
  all_goals (try refine amF (h := ?_))
  all_goals (try with_reducible apply True.intro)
  have hb : (!decide (∃ j, j < f.members.length ∧ ¬ memberOk c (f.members.getD j default))) = decide (∀ i, i < f.members.length → memberOk c (f.members.getD i default)) := by
    rw [← decide_not]
    exact decide_eq_decide.2 ⟨fun h i hi => Decidable.byContradiction (fun e => h ⟨i, hi, e⟩), fun h ⟨j, h1, h2⟩ => h2 (h j h1)⟩
  simp only [hb, dec_and]
  exact decide_eq_decide.2 ⟨fun ⟨⟨a, b⟩, c⟩ => ⟨a, b, c⟩, fun ⟨a, b, c⟩ => ⟨⟨a, b⟩, c⟩⟩
set_option maxHeartbeats 8000000 in
theorem specForestOk (c : DConf) (f : DForest) (u v u' v' : Bool) (h : okConf (2 ^ 47) c) (hf : okForest (2 ^ 47) f) (hz : zForest f ≤ 2 ^ 40) : ACalls Tryz.prog 119 [.agg (cConf u v c), .agg (cForest u' v' f)] (fun q => q = .val (.one (.bool (decide (forestOk c f))))) := by
  have hl := hf.1
  have hzm : ∀ x ∈ f.members, zMember x ≤ 2 ^ 40 := fun x hx => by
    have := sm_mem (f := zMember) hx
    have e : zForest f = f.members.length + sm zMember f.members := rfl
    omega
  have nt : Tryz.f119.ntmps = 32 := rfl
  have rs : Tryz.f119.results = #[.tmp 4] := rfl
  refine ACalls.of_run (m := 400) mixed Tryz.func119 rfl rfl (Nat.le_of_ble_eq_true rfl) ?_
  simp only [nt, rs]
  clear nt rs
  (try refine am (h := ?_)); (try with_reducible apply True.intro)
  first | refine CallK.one (specConfOk c _ _ h) (fun _ => amC) ?_ | refine CallE.one (specConfOk c _ _ h) (fun _ => amC) rfl ?_ | refine CallG.one rfl (fun hg => specConfOk c _ _ h) ?_ | refine CallEG.one rfl rfl (fun hg => specConfOk c _ _ h) ?_
  (try refine am (h := ?_)); (try with_reducible apply True.intro)
  repeat' (first | (with_reducible refine And.intro ?_ ?_) | (with_reducible intro _))
  all_goals try (first | omega | with_reducible rfl | ((with_reducible refine eqId ?_); exact rfl) | with_reducible (first | assumption | exact pl ‹_› | exact pr ‹_› | exact plr ‹_› | exact pll ‹_› | exact prl ‹_› | exact plll ‹_› | exact prll ‹_›))
  · refine FinK.val1 ?_ ?_
    all_goals (try refine amF (h := ?_))
    all_goals (try with_reducible apply True.intro)
    rename_i h1
    refine (decide_eq_false (fun e => ?_)).symm
    rcases h1 with h1 | h1
    · exact h1 e.1
    · exact h1 e.2.1
  rename_i h1
  refine LoopK.auto (Nat) (fun i => [(5, .one (.av (.int .i64 i)))]) (fun i => []) [2, 3] (k0 := ?k02) (keepH := ?kh2) 400 (fun i => i ≤ f.members.length ∧ ∀ j, j < i → memberOk c (f.members.getD j default)) (fun i => f.members.length - i) (0) ?kea2 ?keb2 ?_ ?_ ?_
  case kea2 => exact amN
  case keb2 => exact amN
  · exact ⟨Nat.zero_le _, fun j hj => by omega⟩
  · refine Le.auto [] (r0 := ?r03) (ren := ?ren3) ?ea3 ?eb3 ?a3 ?b3 ?c3 ?d3 ?ho3 ?hn3 ?ht3
    case ea3 => exact amR
    case eb3 => exact amR
    case a3 => exact rfl
    case b3 => exact rfl
    case c3 => exact rfl
    case d3 => exact rfl
    all_goals (try refine amL (h := ?_))
    all_goals (try with_reducible apply True.intro)
  · intro i hi
    (try refine am (h := ?_)); (try with_reducible apply True.intro)
    repeat' (first | (with_reducible refine And.intro ?_ ?_) | (with_reducible intro _))
    all_goals try (first | omega | with_reducible rfl | ((with_reducible refine eqId ?_); exact rfl) | with_reducible (first | assumption | exact pl ‹_› | exact pr ‹_› | exact plr ‹_› | exact pll ‹_› | exact prl ‹_› | exact plll ‹_› | exact prll ‹_›))
    · have hlt : i < f.members.length := by assumption
      first | refine CallK.one (specMemberOk c (f.members.getD i default) _ _ _ _ h (hf.2 _ (getD_mem hlt)) (hzm _ (getD_mem hlt))) (fun _ => amC) ?_ | refine CallE.one (specMemberOk c (f.members.getD i default) _ _ _ _ h (hf.2 _ (getD_mem hlt)) (hzm _ (getD_mem hlt))) (fun _ => amC) rfl ?_ | refine CallG.one rfl (fun hg => specMemberOk c (f.members.getD i default) _ _ _ _ h (hf.2 _ (getD_mem hlt)) (hzm _ (getD_mem hlt))) ?_ | refine CallEG.one rfl rfl (fun hg => specMemberOk c (f.members.getD i default) _ _ _ _ h (hf.2 _ (getD_mem hlt)) (hzm _ (getD_mem hlt))) ?_
      (try refine am (h := ?_)); (try with_reducible apply True.intro)
      repeat' (first | (with_reducible refine And.intro ?_ ?_) | (with_reducible intro _))
      all_goals try (first | omega | with_reducible rfl | ((with_reducible refine eqId ?_); exact rfl) | with_reducible (first | assumption | exact pl ‹_› | exact pr ‹_› | exact plr ‹_› | exact pll ‹_› | exact prl ‹_› | exact plll ‹_› | exact prll ‹_›))
      · refine FinK.val1 ?_ ?_
        all_goals (try refine amF (h := ?_))
        all_goals (try with_reducible apply True.intro)
        rename_i h2
        exact (decide_eq_false (fun e => h2 (e.2.2 i hlt))).symm
      · rename_i h2
        refine ⟨i + 1, ?_, ⟨by omega, fun j hj => ?_⟩, by omega⟩
        · refine Le.auto [] (r0 := ?r04) (ren := ?ren4) ?ea4 ?eb4 ?a4 ?b4 ?c4 ?d4 ?ho4 ?hn4 ?ht4
          case ea4 => exact amR
          case eb4 => exact amR
          case a4 => exact rfl
          case b4 => exact rfl
          case c4 => exact rfl
          case d4 => exact rfl
          all_goals (try refine amL (h := ?_))
          all_goals (try with_reducible apply True.intro)
        · by_cases e : j = i
          · rw [e]; exact h2
          · exact hi.2 j (by omega)
    · refine FinK.val1 ?_ ?_
      all_goals (try refine amF (h := ?_))
      all_goals (try with_reducible apply True.intro)
      exact (decide_eq_true ⟨h1.1, h1.2, fun j hj => hi.2 j (by omega)⟩).symm
end Go.AM
