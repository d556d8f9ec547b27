/- Lemmas for the proof of this claim. -/
import Derived.Test.YteggckdmicnijaaGreatTre
namespace Go.AM
open Go Go.Proofs
set_option maxRecDepth 100000
theorem Ow.rd_free {w : World} {own own' : Own} {r : Root} (h0 : ∀ b, own b = none → own' b = none) (h1 : ∀ b q, own b = some (r, q) → own' b = none) : ∀ (a : AV) (p : Path) (v : Value), Ow w own r a p v → Rd w own' a v := by
  intro a
  induction a with
  | int | bool | str | junk => intro p v hv; exact hv
  | ptr m f _ => intro p v hv; exact Rd.mono (fun b o e h => ⟨h0 b e, h⟩) _ _ hv
  | fn g m f _ => intro p v hv; exact Rd.mono (fun b o e h => ⟨h0 b e, h⟩) _ _ hv
  | sl u nl es n f ih =>
    intro p v hv
    cases u with
    | false => exact Rd.mono (fun b o e h => ⟨h0 b e, h⟩) _ _ hv
    | true =>
      rcases hv with ⟨rfl, ad, rfl, hnl⟩ | ⟨b, cap, c, T, rfl, hnl, ho, hb, h2, h3, h4, h5⟩
      · exact ⟨ad, 0, rfl, Nat.le_refl _, Nat.zero_le _, hnl, fun _ => rfl, fun h => absurd rfl h⟩
      · refine ⟨some ⟨b, 0, none⟩, cap, rfl, h2, h3, ⟨fun h => absurd h hnl, fun _ => by simp⟩, fun h => by simp at h, fun _ => ⟨b, 0, c, T, (0, 0), rfl, h1 b _ ho, hb, fun i hi j hj => ?_⟩⟩
        obtain ⟨x, hx, hr⟩ := h5 i hi j hj
        exact ⟨x, by simpa using hx, ih i j _ x hr⟩
theorem ACalls.ro1 {P : Program} {f : FuncId} {args : List AT} {nl : Option Bool} {es n : Nat} {g : Nat → Nat → AV} (h : ACalls P f args (fun r => r = .val (.one (.sl true nl es n g)))) : ACalls P f args (fun r => r = .val (.one (.sl false nl es n g))) := by
  refine ⟨h.enter, fun own0 w vs hown hvs hargs => (h.calls own0 w vs hown hvs hargs).mono (fun e w' he => ?_)⟩
  obtain ⟨v, r, rfl, rfl, hk, own', d1, d2, d3, hrel⟩ := he
  refine ⟨v, _, rfl, rfl, hk, fun b => if b < w.heap.size then own' b else none, fun b x e => ?_, fun b hb => ?_, fun b k q hb e => ?_, ?_⟩
  · try dsimp only at e
    split at e
    · exact d1 b x e
    · cases e
  · try dsimp only
    rw [if_pos hb]; exact d2 b hb
  · try dsimp only at e
    rw [if_pos hb] at e; exact d3 b k q hb e
  · show Rd w' _ (.sl false nl es n g) v
    have h2 : Ow w' own' 1 (.sl true nl es n g) [] v := hrel
    refine (Ow.rd_free (fun b e => ?_) (fun b q e => ?_) _ _ _ h2 : Rd w' _ (.sl true nl es n g) v)
    · try dsimp only
      split
      · exact e
      · rfl
    · try dsimp only
      split
      · rename_i hb
        have := d3 b 1 q hb e
        cases this
      · rfl
def jF : Nat → Nat → AV := fun _ _ => .junk
set_option maxHeartbeats 4000000 in
theorem implThr1 : ACalls Tryz.prog 143 [.one (.int .i64 1)] (fun r => r = .val (.one (.sl true (some false) 1 7 jF))) := by
  have nt : Tryz.f143.ntmps = 10 := rfl
  have rs : Tryz.f143.results = #[.tmp 2] := rfl
  refine ACalls.of_run (m := 400) mixed Tryz.func143 rfl rfl (Nat.le_of_ble_eq_true rfl) ?_
  simp only [nt, rs]
  clear nt rs
  (try refine am (h := ?_)); (try with_reducible apply True.intro)
  repeat' (first | (with_reducible refine And.intro ?_ ?_) | (with_reducible intro _))
  all_goals try (first | omega | with_reducible rfl | ((with_reducible refine eqId ?_); exact rfl) | with_reducible (first | assumption | exact pl ‹_› | exact pr ‹_› | exact plr ‹_› | exact pll ‹_› | exact prl ‹_› | exact plll ‹_› | exact prll ‹_›))
  all_goals
    refine FinK.val1 ?_ ?_
    all_goals (try refine amF (h := ?_))
    all_goals (try with_reducible apply True.intro)
    exact ALe.of (.inr rfl) rfl (fun i hi j hj => .junk _)
set_option maxHeartbeats 4000000 in
theorem implThr6 : ACalls Tryz.prog 143 [.one (.int .i64 6)] (fun r => r = .val (.one (.sl true (some false) 1 7 jF))) := by
  have nt : Tryz.f143.ntmps = 10 := rfl
  have rs : Tryz.f143.results = #[.tmp 2] := rfl
  refine ACalls.of_run (m := 400) mixed Tryz.func143 rfl rfl (Nat.le_of_ble_eq_true rfl) ?_
  simp only [nt, rs]
  clear nt rs
  (try refine am (h := ?_)); (try with_reducible apply True.intro)
  repeat' (first | (with_reducible refine And.intro ?_ ?_) | (with_reducible intro _))
  all_goals try (first | omega | with_reducible rfl | ((with_reducible refine eqId ?_); exact rfl) | with_reducible (first | assumption | exact pl ‹_› | exact pr ‹_› | exact plr ‹_› | exact pll ‹_› | exact prl ‹_› | exact plll ‹_› | exact prll ‹_›))
  all_goals
    refine FinK.val1 ?_ ?_
    all_goals (try refine amF (h := ?_))
    all_goals (try with_reducible apply True.intro)
    exact ALe.of (.inr rfl) rfl (fun i hi j hj => .junk _)
set_option maxHeartbeats 4000000 in
theorem implThr0 (n : Int) (h1 : n ≠ 1) (h6 : n ≠ 6) : ACalls Tryz.prog 143 [.one (.int .i64 n)] (fun r => r = .val (.one (nilAV))) := by
  have nt : Tryz.f143.ntmps = 10 := rfl
  have rs : Tryz.f143.results = #[.tmp 2] := rfl
  refine ACalls.of_run (m := 400) mixed Tryz.func143 rfl rfl (Nat.le_of_ble_eq_true rfl) ?_
  simp only [nt, rs]
  clear nt rs
  (try refine am (h := ?_)); (try with_reducible apply True.intro)
  repeat' (first | (with_reducible refine And.intro ?_ ?_) | (with_reducible intro _))
  all_goals try (first | omega | with_reducible rfl | ((with_reducible refine eqId ?_); exact rfl) | with_reducible (first | assumption | exact pl ‹_› | exact pr ‹_› | exact plr ‹_› | exact pll ‹_› | exact prl ‹_› | exact plll ‹_› | exact prll ‹_›))
  all_goals first | exact absurd (by assumption) h1 | exact absurd (by assumption) h6 | skip
  refine FinK.val1 ?_ ?_
  all_goals (try refine amF (h := ?_))
  all_goals (try with_reducible apply True.intro)
  all_goals first | done | exact .refl _ | exact ALe.of (.inr rfl) rfl (fun i hi => by omega)
set_option maxHeartbeats 4000000 in
theorem specThr1 : ACalls Tryz.prog 138 [.one (.int .i64 1)] (fun r => r = .val (.one (.sl true (some false) 1 7 jF))) := by
  have nt : Tryz.f138.ntmps = 11 := rfl
  have rs : Tryz.f138.results = #[.tmp 2] := rfl
  refine ACalls.of_run (m := 400) mixed Tryz.func138 rfl rfl (Nat.le_of_ble_eq_true rfl) ?_
  simp only [nt, rs]
  clear nt rs
  (try refine am (h := ?_)); (try with_reducible apply True.intro)
  repeat' (first | (with_reducible refine And.intro ?_ ?_) | (with_reducible intro _))
  all_goals try (first | omega | with_reducible rfl | ((with_reducible refine eqId ?_); exact rfl) | with_reducible (first | assumption | exact pl ‹_› | exact pr ‹_› | exact plr ‹_› | exact pll ‹_› | exact prl ‹_› | exact plll ‹_› | exact prll ‹_›))
  all_goals
    refine FinK.val1 ?_ ?_
    all_goals (try refine amF (h := ?_))
    all_goals (try with_reducible apply True.intro)
    exact ALe.of (.inr rfl) rfl (fun i hi j hj => .junk _)
set_option maxHeartbeats 4000000 in
theorem specThr6 : ACalls Tryz.prog 138 [.one (.int .i64 6)] (fun r => r = .val (.one (.sl true (some false) 1 7 jF))) := by
  have nt : Tryz.f138.ntmps = 11 := rfl
  have rs : Tryz.f138.results = #[.tmp 2] := rfl
  refine ACalls.of_run (m := 400) mixed Tryz.func138 rfl rfl (Nat.le_of_ble_eq_true rfl) ?_
  simp only [nt, rs]
  clear nt rs
  (try refine am (h := ?_)); (try with_reducible apply True.intro)
  repeat' (first | (with_reducible refine And.intro ?_ ?_) | (with_reducible intro _))
  all_goals try (first | omega | with_reducible rfl | ((with_reducible refine eqId ?_); exact rfl) | with_reducible (first | assumption | exact pl ‹_› | exact pr ‹_› | exact plr ‹_› | exact pll ‹_› | exact prl ‹_› | exact plll ‹_› | exact prll ‹_›))
  all_goals
    refine FinK.val1 ?_ ?_
    all_goals (try refine amF (h := ?_))
    all_goals (try with_reducible apply True.intro)
    exact ALe.of (.inr rfl) rfl (fun i hi j hj => .junk _)
set_option maxHeartbeats 4000000 in
theorem specThr0 (n : Int) (h1 : n ≠ 1) (h6 : n ≠ 6) : ACalls Tryz.prog 138 [.one (.int .i64 n)] (fun r => r = .val (.one (.sl true (some false) 1 0 jF))) := by
  have nt : Tryz.f138.ntmps = 11 := rfl
  have rs : Tryz.f138.results = #[.tmp 2] := rfl
  refine ACalls.of_run (m := 400) mixed Tryz.func138 rfl rfl (Nat.le_of_ble_eq_true rfl) ?_
  simp only [nt, rs]
  clear nt rs
  (try refine am (h := ?_)); (try with_reducible apply True.intro)
  repeat' (first | (with_reducible refine And.intro ?_ ?_) | (with_reducible intro _))
  all_goals try (first | omega | with_reducible rfl | ((with_reducible refine eqId ?_); exact rfl) | with_reducible (first | assumption | exact pl ‹_› | exact pr ‹_› | exact plr ‹_› | exact pll ‹_› | exact prl ‹_› | exact plll ‹_› | exact prll ‹_›))
  all_goals first | exact absurd (by assumption) h1 | exact absurd (by assumption) h6 | skip
  refine FinK.val1 ?_ ?_
  all_goals (try refine amF (h := ?_))
  all_goals (try with_reducible apply True.intro)
  all_goals first | done | exact .refl _ | exact ALe.of (.inr rfl) rfl (fun i hi => by omega)
set_option maxHeartbeats 4000000 in
theorem implConfOk (c : DConf) (u v : Bool) (h : okConf (2 ^ 47) c) : ACalls Tryz.prog 65 [.agg (cConf u v c)] (fun q => q = .val (.one (.bool (decide (confOk c))))) := by
  have hl := h.1.1.1
  by_cases h16 : c.lambda = 1 ∨ c.lambda = 6
  · have nt : Tryz.f65.ntmps = 48 := rfl
    have rs : Tryz.f65.results = #[.tmp 2] := rfl
    refine ACalls.of_run (m := 400) mixed Tryz.func65 rfl rfl (Nat.le_of_ble_eq_true rfl) ?_
    simp only [nt, rs]
    clear nt rs
    (try refine am (h := ?_)); (try with_reducible apply True.intro)
    first | refine CallK.one (implSchemaOk c.schema _ _ h.1) (fun _ => amC) ?_ | refine CallE.one (implSchemaOk c.schema _ _ h.1) (fun _ => amC) rfl ?_ | refine CallG.one rfl (fun hg => implSchemaOk c.schema _ _ h.1) ?_ | refine CallEG.one rfl rfl (fun hg => implSchemaOk c.schema _ _ h.1) ?_
    (try refine am (h := ?_)); (try with_reducible apply True.intro)
    repeat' (first | (with_reducible refine And.intro ?_ ?_) | (with_reducible intro _))
    all_goals try (first | omega | with_reducible rfl | ((with_reducible refine eqId ?_); exact rfl) | with_reducible (first | assumption | exact pl ‹_› | exact pr ‹_› | exact plr ‹_› | exact pll ‹_› | exact prl ‹_› | exact plll ‹_› | exact prll ‹_›))
    first | refine CallK.one (implRuleOk c.rule h.2.1) (fun _ => amC) ?_ | refine CallE.one (implRuleOk c.rule h.2.1) (fun _ => amC) rfl ?_ | refine CallG.one rfl (fun hg => implRuleOk c.rule h.2.1) ?_ | refine CallEG.one rfl rfl (fun hg => implRuleOk c.rule h.2.1) ?_
    (try refine am (h := ?_)); (try with_reducible apply True.intro)
    repeat' (first | (with_reducible refine And.intro ?_ ?_) | (with_reducible intro _))
    all_goals try (first | omega | with_reducible rfl | ((with_reducible refine eqId ?_); exact rfl) | with_reducible (first | assumption | exact pl ‹_› | exact pr ‹_› | exact plr ‹_› | exact pll ‹_› | exact prl ‹_› | exact plll ‹_› | exact prll ‹_›))
    first | refine CallK.one (within c.members 1 4) (fun _ => amC) ?_ | refine CallE.one (within c.members 1 4) (fun _ => amC) rfl ?_ | refine CallG.one rfl (fun hg => within c.members 1 4) ?_ | refine CallEG.one rfl rfl (fun hg => within c.members 1 4) ?_
    (try refine am (h := ?_)); (try with_reducible apply True.intro)
    repeat' (first | (with_reducible refine And.intro ?_ ?_) | (with_reducible intro _))
    all_goals try (first | omega | with_reducible rfl | ((with_reducible refine eqId ?_); exact rfl) | with_reducible (first | assumption | exact pl ‹_› | exact pr ‹_› | exact plr ‹_› | exact pll ‹_› | exact prl ‹_› | exact plll ‹_› | exact prll ‹_›))
    first | refine CallK.one (within c.pick 1 c.schema.attrs.length) (fun _ => amC) ?_ | refine CallE.one (within c.pick 1 c.schema.attrs.length) (fun _ => amC) rfl ?_ | refine CallG.one rfl (fun hg => within c.pick 1 c.schema.attrs.length) ?_ | refine CallEG.one rfl rfl (fun hg => within c.pick 1 c.schema.attrs.length) ?_
    (try refine am (h := ?_)); (try with_reducible apply True.intro)
    repeat' (first | (with_reducible refine And.intro ?_ ?_) | (with_reducible intro _))
    all_goals try (first | omega | with_reducible rfl | ((with_reducible refine eqId ?_); exact rfl) | with_reducible (first | assumption | exact pl ‹_› | exact pr ‹_› | exact plr ‹_› | exact pll ‹_› | exact prl ‹_› | exact plll ‹_› | exact prll ‹_›))
    first | refine CallG.one (a := .one (.sl false (some false) 1 7 jF)) rfl (fun hg => ?_) ?_ | refine CallEG.one (a := .one (.sl false (some false) 1 7 jF)) rfl rfl (fun hg => ?_) ?_
    · rcases h16 with e | e
      · rw [e]; exact ACalls.ro1 implThr1
      · rw [e]; exact ACalls.ro1 implThr6
    (try refine am (h := ?_)); (try with_reducible apply True.intro)
    repeat' (first | (with_reducible refine And.intro ?_ ?_) | (with_reducible intro _))
    all_goals try (first | omega | with_reducible rfl | ((with_reducible refine eqId ?_); exact rfl) | with_reducible (first | assumption | exact pl ‹_› | exact pr ‹_› | exact plr ‹_› | exact pll ‹_› | exact prl ‹_› | exact plll ‹_› | exact prll ‹_›))
    first | refine CallK.one (within c.warn 1 9) (fun _ => amC) ?_ | refine CallE.one (within c.warn 1 9) (fun _ => amC) rfl ?_ | refine CallG.one rfl (fun hg => within c.warn 1 9) ?_ | refine CallEG.one rfl rfl (fun hg => within c.warn 1 9) ?_
    (try refine am (h := ?_)); (try with_reducible apply True.intro)
    repeat' (first | (with_reducible refine And.intro ?_ ?_) | (with_reducible intro _))
    all_goals try (first | omega | with_reducible rfl | ((with_reducible refine eqId ?_); exact rfl) | with_reducible (first | assumption | exact pl ‹_› | exact pr ‹_› | exact plr ‹_› | exact pll ‹_› | exact prl ‹_› | exact plll ‹_› | exact prll ‹_›))
    first | refine CallK.one (within c.drift 1 9) (fun _ => amC) ?_ | refine CallE.one (within c.drift 1 9) (fun _ => amC) rfl ?_ | refine CallG.one rfl (fun hg => within c.drift 1 9) ?_ | refine CallEG.one rfl rfl (fun hg => within c.drift 1 9) ?_
    (try refine am (h := ?_)); (try with_reducible apply True.intro)
    repeat' (first | (with_reducible refine And.intro ?_ ?_) | (with_reducible intro _))
    all_goals try (first | omega | with_reducible rfl | ((with_reducible refine eqId ?_); exact rfl) | with_reducible (first | assumption | exact pl ‹_› | exact pr ‹_› | exact plr ‹_› | exact pll ‹_› | exact prl ‹_› | exact plll ‹_› | exact prll ‹_›))
    refine FinK.val1 ?_ ?_
    all_goals (try refine amF (h := ?_))
    all_goals (try with_reducible apply True.intro)
    refine decide_eq_decide.2 ?_
    unfold confOk
    exact ⟨fun ⟨⟨⟨⟨⟨⟨a, b⟩, c⟩, d⟩, e⟩, f⟩, g⟩ => ⟨a, b, c, d, h16, e, f, g⟩, fun ⟨a, b, c, d, _, e, f, g⟩ => ⟨⟨⟨⟨⟨⟨a, b⟩, c⟩, d⟩, e⟩, f⟩, g⟩⟩
  · have e0 : decide (confOk c) = false := decide_eq_false (fun e => h16 e.2.2.2.2.1)
    rw [e0]
    have nt : Tryz.f65.ntmps = 48 := rfl
    have rs : Tryz.f65.results = #[.tmp 2] := rfl
    refine ACalls.of_run (m := 400) mixed Tryz.func65 rfl rfl (Nat.le_of_ble_eq_true rfl) ?_
    simp only [nt, rs]
    clear nt rs
    (try refine am (h := ?_)); (try with_reducible apply True.intro)
    first | refine CallK.one (implSchemaOk c.schema _ _ h.1) (fun _ => amC) ?_ | refine CallE.one (implSchemaOk c.schema _ _ h.1) (fun _ => amC) rfl ?_ | refine CallG.one rfl (fun hg => implSchemaOk c.schema _ _ h.1) ?_ | refine CallEG.one rfl rfl (fun hg => implSchemaOk c.schema _ _ h.1) ?_
    (try refine am (h := ?_)); (try with_reducible apply True.intro)
    repeat' (first | (with_reducible refine And.intro ?_ ?_) | (with_reducible intro _))
    all_goals try (first | omega | with_reducible rfl | ((with_reducible refine eqId ?_); exact rfl) | with_reducible (first | assumption | exact pl ‹_› | exact pr ‹_› | exact plr ‹_› | exact pll ‹_› | exact prl ‹_› | exact plll ‹_› | exact prll ‹_›))
    first | refine CallK.one (implRuleOk c.rule h.2.1) (fun _ => amC) ?_ | refine CallE.one (implRuleOk c.rule h.2.1) (fun _ => amC) rfl ?_ | refine CallG.one rfl (fun hg => implRuleOk c.rule h.2.1) ?_ | refine CallEG.one rfl rfl (fun hg => implRuleOk c.rule h.2.1) ?_
    (try refine am (h := ?_)); (try with_reducible apply True.intro)
    repeat' (first | (with_reducible refine And.intro ?_ ?_) | (with_reducible intro _))
    all_goals try (first | omega | with_reducible rfl | ((with_reducible refine eqId ?_); exact rfl) | with_reducible (first | assumption | exact pl ‹_› | exact pr ‹_› | exact plr ‹_› | exact pll ‹_› | exact prl ‹_› | exact plll ‹_› | exact prll ‹_›))
    first | refine CallK.one (within c.members 1 4) (fun _ => amC) ?_ | refine CallE.one (within c.members 1 4) (fun _ => amC) rfl ?_ | refine CallG.one rfl (fun hg => within c.members 1 4) ?_ | refine CallEG.one rfl rfl (fun hg => within c.members 1 4) ?_
    (try refine am (h := ?_)); (try with_reducible apply True.intro)
    repeat' (first | (with_reducible refine And.intro ?_ ?_) | (with_reducible intro _))
    all_goals try (first | omega | with_reducible rfl | ((with_reducible refine eqId ?_); exact rfl) | with_reducible (first | assumption | exact pl ‹_› | exact pr ‹_› | exact plr ‹_› | exact pll ‹_› | exact prl ‹_› | exact plll ‹_› | exact prll ‹_›))
    first | refine CallK.one (within c.pick 1 c.schema.attrs.length) (fun _ => amC) ?_ | refine CallE.one (within c.pick 1 c.schema.attrs.length) (fun _ => amC) rfl ?_ | refine CallG.one rfl (fun hg => within c.pick 1 c.schema.attrs.length) ?_ | refine CallEG.one rfl rfl (fun hg => within c.pick 1 c.schema.attrs.length) ?_
    (try refine am (h := ?_)); (try with_reducible apply True.intro)
    repeat' (first | (with_reducible refine And.intro ?_ ?_) | (with_reducible intro _))
    all_goals try (first | omega | with_reducible rfl | ((with_reducible refine eqId ?_); exact rfl) | with_reducible (first | assumption | exact pl ‹_› | exact pr ‹_› | exact plr ‹_› | exact pll ‹_› | exact prl ‹_› | exact plll ‹_› | exact prll ‹_›))
    first | refine CallG.one rfl (fun hg => implThr0 c.lambda (fun e => h16 (.inl e)) (fun e => h16 (.inr e))) ?_ | refine CallEG.one rfl rfl (fun hg => implThr0 c.lambda (fun e => h16 (.inl e)) (fun e => h16 (.inr e))) ?_
    (try refine am (h := ?_)); (try with_reducible apply True.intro)
    repeat' (first | (with_reducible refine And.intro ?_ ?_) | (with_reducible intro _))
    all_goals try (first | omega | with_reducible rfl | ((with_reducible refine eqId ?_); exact rfl) | with_reducible (first | assumption | exact pl ‹_› | exact pr ‹_› | exact plr ‹_› | exact pll ‹_› | exact prl ‹_› | exact plll ‹_› | exact prll ‹_›))
    first | refine CallK.one (within c.warn 1 9) (fun _ => amC) ?_ | refine CallE.one (within c.warn 1 9) (fun _ => amC) rfl ?_ | refine CallG.one rfl (fun hg => within c.warn 1 9) ?_ | refine CallEG.one rfl rfl (fun hg => within c.warn 1 9) ?_
    (try refine am (h := ?_)); (try with_reducible apply True.intro)
    repeat' (first | (with_reducible refine And.intro ?_ ?_) | (with_reducible intro _))
    all_goals try (first | omega | with_reducible rfl | ((with_reducible refine eqId ?_); exact rfl) | with_reducible (first | assumption | exact pl ‹_› | exact pr ‹_› | exact plr ‹_› | exact pll ‹_› | exact prl ‹_› | exact plll ‹_› | exact prll ‹_›))
    first | refine CallK.one (within c.drift 1 9) (fun _ => amC) ?_ | refine CallE.one (within c.drift 1 9) (fun _ => amC) rfl ?_ | refine CallG.one rfl (fun hg => within c.drift 1 9) ?_ | refine CallEG.one rfl rfl (fun hg => within c.drift 1 9) ?_
    (try refine am (h := ?_)); (try with_reducible apply True.intro)
    repeat' (first | (with_reducible refine And.intro ?_ ?_) | (with_reducible intro _))
    all_goals try (first | omega | with_reducible rfl | ((with_reducible refine eqId ?_); exact rfl) | with_reducible (first | assumption | exact pl ‹_› | exact pr ‹_› | exact plr ‹_› | exact pll ‹_› | exact prl ‹_› | exact plll ‹_› | exact prll ‹_›))
    refine FinK.val1 ?_ ?_
    all_goals (try refine amF (h := ?_))
    all_goals (try with_reducible apply True.intro)
set_option maxHeartbeats 4000000 in
theorem specConfOk (c : DConf) (u v : Bool) (h : okConf (2 ^ 47) c) : ACalls Tryz.prog 60 [.agg (cConf u v c)] (fun q => q = .val (.one (.bool (decide (confOk c))))) := by
  have hl := h.1.1.1
  by_cases h16 : c.lambda = 1 ∨ c.lambda = 6
  · have nt : Tryz.f60.ntmps = 49 := rfl
    have rs : Tryz.f60.results = #[.tmp 2] := rfl
    refine ACalls.of_run (m := 400) mixed Tryz.func60 rfl rfl (Nat.le_of_ble_eq_true rfl) ?_
    simp only [nt, rs]
    clear nt rs
    (try refine am (h := ?_)); (try with_reducible apply True.intro)
    first | refine CallK.one (specSchemaOk c.schema _ _ h.1) (fun _ => amC) ?_ | refine CallE.one (specSchemaOk c.schema _ _ h.1) (fun _ => amC) rfl ?_ | refine CallG.one rfl (fun hg => specSchemaOk c.schema _ _ h.1) ?_ | refine CallEG.one rfl rfl (fun hg => specSchemaOk c.schema _ _ h.1) ?_
    (try refine am (h := ?_)); (try with_reducible apply True.intro)
    repeat' (first | (with_reducible refine And.intro ?_ ?_) | (with_reducible intro _))
    all_goals try (first | omega | with_reducible rfl | ((with_reducible refine eqId ?_); exact rfl) | with_reducible (first | assumption | exact pl ‹_› | exact pr ‹_› | exact plr ‹_› | exact pll ‹_› | exact prl ‹_› | exact plll ‹_› | exact prll ‹_›))
    first | refine CallK.one (specRuleOk c.rule h.2.1) (fun _ => amC) ?_ | refine CallE.one (specRuleOk c.rule h.2.1) (fun _ => amC) rfl ?_ | refine CallG.one rfl (fun hg => specRuleOk c.rule h.2.1) ?_ | refine CallEG.one rfl rfl (fun hg => specRuleOk c.rule h.2.1) ?_
    (try refine am (h := ?_)); (try with_reducible apply True.intro)
    repeat' (first | (with_reducible refine And.intro ?_ ?_) | (with_reducible intro _))
    all_goals try (first | omega | with_reducible rfl | ((with_reducible refine eqId ?_); exact rfl) | with_reducible (first | assumption | exact pl ‹_› | exact pr ‹_› | exact plr ‹_› | exact pll ‹_› | exact prl ‹_› | exact plll ‹_› | exact prll ‹_›))
    first | refine CallK.one (l1In c.members 1 4) (fun _ => amC) ?_ | refine CallE.one (l1In c.members 1 4) (fun _ => amC) rfl ?_ | refine CallG.one rfl (fun hg => l1In c.members 1 4) ?_ | refine CallEG.one rfl rfl (fun hg => l1In c.members 1 4) ?_
    (try refine am (h := ?_)); (try with_reducible apply True.intro)
    repeat' (first | (with_reducible refine And.intro ?_ ?_) | (with_reducible intro _))
    all_goals try (first | omega | with_reducible rfl | ((with_reducible refine eqId ?_); exact rfl) | with_reducible (first | assumption | exact pl ‹_› | exact pr ‹_› | exact plr ‹_› | exact pll ‹_› | exact prl ‹_› | exact plll ‹_› | exact prll ‹_›))
    first | refine CallK.one (l1In c.pick 1 c.schema.attrs.length) (fun _ => amC) ?_ | refine CallE.one (l1In c.pick 1 c.schema.attrs.length) (fun _ => amC) rfl ?_ | refine CallG.one rfl (fun hg => l1In c.pick 1 c.schema.attrs.length) ?_ | refine CallEG.one rfl rfl (fun hg => l1In c.pick 1 c.schema.attrs.length) ?_
    (try refine am (h := ?_)); (try with_reducible apply True.intro)
    repeat' (first | (with_reducible refine And.intro ?_ ?_) | (with_reducible intro _))
    all_goals try (first | omega | with_reducible rfl | ((with_reducible refine eqId ?_); exact rfl) | with_reducible (first | assumption | exact pl ‹_› | exact pr ‹_› | exact plr ‹_› | exact pll ‹_› | exact prl ‹_› | exact plll ‹_› | exact prll ‹_›))
    first | refine CallG.one (a := .one (.sl false (some false) 1 7 jF)) rfl (fun hg => ?_) ?_ | refine CallEG.one (a := .one (.sl false (some false) 1 7 jF)) rfl rfl (fun hg => ?_) ?_
    · rcases h16 with e | e
      · rw [e]; exact ACalls.ro1 specThr1
      · rw [e]; exact ACalls.ro1 specThr6
    (try refine am (h := ?_)); (try with_reducible apply True.intro)
    repeat' (first | (with_reducible refine And.intro ?_ ?_) | (with_reducible intro _))
    all_goals try (first | omega | with_reducible rfl | ((with_reducible refine eqId ?_); exact rfl) | with_reducible (first | assumption | exact pl ‹_› | exact pr ‹_› | exact plr ‹_› | exact pll ‹_› | exact prl ‹_› | exact plll ‹_› | exact prll ‹_›))
    first | refine CallK.one (l1In c.warn 1 9) (fun _ => amC) ?_ | refine CallE.one (l1In c.warn 1 9) (fun _ => amC) rfl ?_ | refine CallG.one rfl (fun hg => l1In c.warn 1 9) ?_ | refine CallEG.one rfl rfl (fun hg => l1In c.warn 1 9) ?_
    (try refine am (h := ?_)); (try with_reducible apply True.intro)
    repeat' (first | (with_reducible refine And.intro ?_ ?_) | (with_reducible intro _))
    all_goals try (first | omega | with_reducible rfl | ((with_reducible refine eqId ?_); exact rfl) | with_reducible (first | assumption | exact pl ‹_› | exact pr ‹_› | exact plr ‹_› | exact pll ‹_› | exact prl ‹_› | exact plll ‹_› | exact prll ‹_›))
    first | refine CallK.one (l1In c.drift 1 9) (fun _ => amC) ?_ | refine CallE.one (l1In c.drift 1 9) (fun _ => amC) rfl ?_ | refine CallG.one rfl (fun hg => l1In c.drift 1 9) ?_ | refine CallEG.one rfl rfl (fun hg => l1In c.drift 1 9) ?_
    (try refine am (h := ?_)); (try with_reducible apply True.intro)
    repeat' (first | (with_reducible refine And.intro ?_ ?_) | (with_reducible intro _))
    all_goals try (first | omega | with_reducible rfl | ((with_reducible refine eqId ?_); exact rfl) | with_reducible (first | assumption | exact pl ‹_› | exact pr ‹_› | exact plr ‹_› | exact pll ‹_› | exact prl ‹_› | exact plll ‹_› | exact prll ‹_›))
    refine FinK.val1 ?_ ?_
    all_goals (try refine amF (h := ?_))
    all_goals (try with_reducible apply True.intro)
    refine decide_eq_decide.2 ?_
    unfold confOk
    exact ⟨fun ⟨⟨⟨⟨⟨⟨⟨a, b⟩, c⟩, d⟩, _⟩, e⟩, f⟩, g⟩ => ⟨a, b, c, d, h16, e, f, g⟩, fun ⟨a, b, c, d, _, e, f, g⟩ => ⟨⟨⟨⟨⟨⟨⟨a, b⟩, c⟩, d⟩, by omega⟩, e⟩, f⟩, g⟩⟩
  · have e0 : decide (confOk c) = false := decide_eq_false (fun e => h16 e.2.2.2.2.1)
    rw [e0]
    have nt : Tryz.f60.ntmps = 49 := rfl
    have rs : Tryz.f60.results = #[.tmp 2] := rfl
    refine ACalls.of_run (m := 400) mixed Tryz.func60 rfl rfl (Nat.le_of_ble_eq_true rfl) ?_
    simp only [nt, rs]
    clear nt rs
    (try refine am (h := ?_)); (try with_reducible apply True.intro)
    first | refine CallK.one (specSchemaOk c.schema _ _ h.1) (fun _ => amC) ?_ | refine CallE.one (specSchemaOk c.schema _ _ h.1) (fun _ => amC) rfl ?_ | refine CallG.one rfl (fun hg => specSchemaOk c.schema _ _ h.1) ?_ | refine CallEG.one rfl rfl (fun hg => specSchemaOk c.schema _ _ h.1) ?_
    (try refine am (h := ?_)); (try with_reducible apply True.intro)
    repeat' (first | (with_reducible refine And.intro ?_ ?_) | (with_reducible intro _))
    all_goals try (first | omega | with_reducible rfl | ((with_reducible refine eqId ?_); exact rfl) | with_reducible (first | assumption | exact pl ‹_› | exact pr ‹_› | exact plr ‹_› | exact pll ‹_› | exact prl ‹_› | exact plll ‹_› | exact prll ‹_›))
    first | refine CallK.one (specRuleOk c.rule h.2.1) (fun _ => amC) ?_ | refine CallE.one (specRuleOk c.rule h.2.1) (fun _ => amC) rfl ?_ | refine CallG.one rfl (fun hg => specRuleOk c.rule h.2.1) ?_ | refine CallEG.one rfl rfl (fun hg => specRuleOk c.rule h.2.1) ?_
    (try refine am (h := ?_)); (try with_reducible apply True.intro)
    repeat' (first | (with_reducible refine And.intro ?_ ?_) | (with_reducible intro _))
    all_goals try (first | omega | with_reducible rfl | ((with_reducible refine eqId ?_); exact rfl) | with_reducible (first | assumption | exact pl ‹_› | exact pr ‹_› | exact plr ‹_› | exact pll ‹_› | exact prl ‹_› | exact plll ‹_› | exact prll ‹_›))
    first | refine CallK.one (l1In c.members 1 4) (fun _ => amC) ?_ | refine CallE.one (l1In c.members 1 4) (fun _ => amC) rfl ?_ | refine CallG.one rfl (fun hg => l1In c.members 1 4) ?_ | refine CallEG.one rfl rfl (fun hg => l1In c.members 1 4) ?_
    (try refine am (h := ?_)); (try with_reducible apply True.intro)
    repeat' (first | (with_reducible refine And.intro ?_ ?_) | (with_reducible intro _))
    all_goals try (first | omega | with_reducible rfl | ((with_reducible refine eqId ?_); exact rfl) | with_reducible (first | assumption | exact pl ‹_› | exact pr ‹_› | exact plr ‹_› | exact pll ‹_› | exact prl ‹_› | exact plll ‹_› | exact prll ‹_›))
    first | refine CallK.one (l1In c.pick 1 c.schema.attrs.length) (fun _ => amC) ?_ | refine CallE.one (l1In c.pick 1 c.schema.attrs.length) (fun _ => amC) rfl ?_ | refine CallG.one rfl (fun hg => l1In c.pick 1 c.schema.attrs.length) ?_ | refine CallEG.one rfl rfl (fun hg => l1In c.pick 1 c.schema.attrs.length) ?_
    (try refine am (h := ?_)); (try with_reducible apply True.intro)
    repeat' (first | (with_reducible refine And.intro ?_ ?_) | (with_reducible intro _))
    all_goals try (first | omega | with_reducible rfl | ((with_reducible refine eqId ?_); exact rfl) | with_reducible (first | assumption | exact pl ‹_› | exact pr ‹_› | exact plr ‹_› | exact pll ‹_› | exact prl ‹_› | exact plll ‹_› | exact prll ‹_›))
    first | refine CallG.one rfl (fun hg => ACalls.ro1 (specThr0 c.lambda (fun e => h16 (.inl e)) (fun e => h16 (.inr e)))) ?_ | refine CallEG.one rfl rfl (fun hg => ACalls.ro1 (specThr0 c.lambda (fun e => h16 (.inl e)) (fun e => h16 (.inr e)))) ?_
    (try refine am (h := ?_)); (try with_reducible apply True.intro)
    repeat' (first | (with_reducible refine And.intro ?_ ?_) | (with_reducible intro _))
    all_goals try (first | omega | with_reducible rfl | ((with_reducible refine eqId ?_); exact rfl) | with_reducible (first | assumption | exact pl ‹_› | exact pr ‹_› | exact plr ‹_› | exact pll ‹_› | exact prl ‹_› | exact plll ‹_› | exact prll ‹_›))
    first | refine CallK.one (l1In c.warn 1 9) (fun _ => amC) ?_ | refine CallE.one (l1In c.warn 1 9) (fun _ => amC) rfl ?_ | refine CallG.one rfl (fun hg => l1In c.warn 1 9) ?_ | refine CallEG.one rfl rfl (fun hg => l1In c.warn 1 9) ?_
    (try refine am (h := ?_)); (try with_reducible apply True.intro)
    repeat' (first | (with_reducible refine And.intro ?_ ?_) | (with_reducible intro _))
    all_goals try (first | omega | with_reducible rfl | ((with_reducible refine eqId ?_); exact rfl) | with_reducible (first | assumption | exact pl ‹_› | exact pr ‹_› | exact plr ‹_› | exact pll ‹_› | exact prl ‹_› | exact plll ‹_› | exact prll ‹_›))
    first | refine CallK.one (l1In c.drift 1 9) (fun _ => amC) ?_ | refine CallE.one (l1In c.drift 1 9) (fun _ => amC) rfl ?_ | refine CallG.one rfl (fun hg => l1In c.drift 1 9) ?_ | refine CallEG.one rfl rfl (fun hg => l1In c.drift 1 9) ?_
    (try refine am (h := ?_)); (try with_reducible apply True.intro)
    repeat' (first | (with_reducible refine And.intro ?_ ?_) | (with_reducible intro _))
    all_goals try (first | omega | with_reducible rfl | ((with_reducible refine eqId ?_); exact rfl) | with_reducible (first | assumption | exact pl ‹_› | exact pr ‹_› | exact plr ‹_› | exact pll ‹_› | exact prl ‹_› | exact plll ‹_› | exact prll ‹_›))
    refine FinK.val1 ?_ ?_
    all_goals (try refine amF (h := ?_))
    all_goals (try with_reducible apply True.intro)
end Go.AM
