/- Lemmas for the proof of this claim. -/
import Derived.Test.YteggckdmicnijaaGreatVoi
import Derived.Test.YteggckdmicnijaaGreatPth
import Derived.Test.YteggckdmicnijaaGreatTly
namespace Go.AM
open Go Go.Proofs
set_option maxRecDepth 100000
theorem topS_rng (l : List Int) : ∀ i, -1 ≤ topS l i ∧ topS l i ≤ (i : Int) - 1
  | 0 => ⟨Int.le_refl _, Int.le_refl _⟩
  | i + 1 => by
    have h := topS_rng l i
    rw [topS_succ]
    split <;> omega
theorem topOf_rng (l : List Int) : -1 ≤ topOf l ∧ topOf l ≤ (l.length : Int) - 1 := topS_rng l l.length
def saysL (c : DConf) (f : DForest) (e : DEx) : List Int := f.members.map fun m => topOf (leafVote c.schema m.tree e)
open Classical in
noncomputable def votesA (c : DConf) (f : DForest) (e : DEx) : List Int := if forestOk c f ∧ exOk c.schema e then tly (c.schema.classes.length : Int) (saysL c f e) (voicesL f) else []
theorem saysL_len (c : DConf) (f : DForest) (e : DEx) : (saysL c f e).length = f.members.length := by simp [saysL]
theorem saysL_get (c : DConf) (f : DForest) (e : DEx) {i : Nat} (h : i < f.members.length) : (saysL c f e).getD i 0 = topOf (leafVote c.schema (f.members.getD i default).tree e) := by
  rw [List.getD_eq_getElem?_getD]
  simp [saysL, h, List.getD]
theorem saysL_take (c : DConf) (f : DForest) (e : DEx) {i : Nat} (h : i < f.members.length) : (saysL c f e).take (i + 1) = (saysL c f e).take i ++ [topOf (leafVote c.schema (f.members.getD i default).tree e)] := by
  rw [take_succ (d := (0 : Int)) (by rw [saysL_len]; exact h), saysL_get c f e h]
theorem saysL_ok (c : DConf) (f : DForest) (e : DEx) (hc : okConf (2 ^ 47) c) (hf : okForest (2 ^ 47) f) : okI (2 ^ 47) (saysL c f e) := by
  refine ⟨by rw [saysL_len]; exact hf.1, fun x hx => ?_⟩
  unfold saysL at hx
  obtain ⟨m, hm, rfl⟩ := List.mem_map.1 hx
  have h1 := topOf_rng (leafVote c.schema m.tree e)
  have h2 := (leafVote_ok (s := c.schema) (e := e) hc.1.2.1 (hf.2 m hm).1).1
  rw [inKi]
  omega
theorem votesA_ok (c : DConf) (f : DForest) (e : DEx) : okI (2 ^ 47) (votesA c f e) := by
  unfold votesA
  split
  · exact tly_ok _ _ _
  · exact ⟨Nat.zero_le _, fun x hx => by simp at hx⟩
set_option maxHeartbeats 8000000 in
theorem implForestSays (c : DConf) (f : DForest) (e : DEx) (u v u' v' w : Bool) (h : okConf (2 ^ 47) c) (hf : okForest (2 ^ 47) f) (hz : zForest f ≤ 2 ^ 40) (he : okEx (2 ^ 47) e) : ACalls Tryz.prog 56 [.agg (cConf u v c), .agg (cForest u' v' f), .agg (cEx w false e)] (fun r => r = .tup [.one (.int .i64 (topOf (votesA c f e))), .one (aI true (votesA c f e))]) := by
  have hlen : f.members.length ≤ 2 ^ 40 := by unfold zForest zMemberS at hz; omega
  have nt : Tryz.f56.ntmps = 53 := rfl
  have rs : Tryz.f56.results = #[.tmp 6, .tmp 7] := rfl
  refine ACalls.of_run (m := 400) mixed Tryz.func56 rfl rfl (Nat.le_of_ble_eq_true rfl) ?_
  simp only [nt, rs]
  clear nt rs
  (try refine am (h := ?_)); (try with_reducible apply True.intro)
  repeat' (first | (with_reducible refine And.intro ?_ ?_) | (with_reducible intro _))
  all_goals try (first | omega | with_reducible rfl | ((with_reducible refine eqId ?_); exact rfl) | with_reducible (first | assumption | exact pl ‹_› | exact pr ‹_› | exact plr ‹_› | exact pll ‹_› | exact prl ‹_› | exact plll ‹_› | exact prll ‹_›))
  first | refine CallK.one (implForestOk c f _ _ _ _ h hf hz) (fun _ => amC) ?_ | refine CallE.one (implForestOk c f _ _ _ _ h hf hz) (fun _ => amC) rfl ?_ | refine CallG.one rfl (fun hg => implForestOk c f _ _ _ _ h hf hz) ?_ | refine CallEG.one rfl rfl (fun hg => implForestOk c f _ _ _ _ h hf hz) ?_
  (try refine am (h := ?_)); (try with_reducible apply True.intro)
  repeat' (first | (with_reducible refine And.intro ?_ ?_) | (with_reducible intro _))
  all_goals try (first | omega | with_reducible rfl | ((with_reducible refine eqId ?_); exact rfl) | with_reducible (first | assumption | exact pl ‹_› | exact pr ‹_› | exact plr ‹_› | exact pll ‹_› | exact prl ‹_› | exact plll ‹_› | exact prll ‹_›))
  first | refine CallK.one (implExOk c.schema e _ _ _ h.1 he) (fun _ => amC) ?_ | refine CallE.one (implExOk c.schema e _ _ _ h.1 he) (fun _ => amC) rfl ?_ | refine CallG.one rfl (fun hg => implExOk c.schema e _ _ _ h.1 he) ?_ | refine CallEG.one rfl rfl (fun hg => implExOk c.schema e _ _ _ h.1 he) ?_
  (try refine am (h := ?_)); (try with_reducible apply True.intro)
  refine ⟨fun hs => ?_, fun hs => ?_⟩
  · have e1 : votesA c f e = [] := if_neg (fun hh => by rcases hs with hs | hs; exact hs hh.1; exact hs hh.2)
    rw [e1]
    repeat' (first | (with_reducible refine And.intro ?_ ?_) | (with_reducible intro _))
    all_goals try (first | omega | with_reducible rfl | ((with_reducible refine eqId ?_); exact rfl) | with_reducible (first | assumption | exact pl ‹_› | exact pr ‹_› | exact plr ‹_› | exact pll ‹_› | exact prl ‹_› | exact plll ‹_› | exact prll ‹_›))
    refine FinK.tup ?_ ?_
    all_goals (try refine amF (h := ?_))
    all_goals (try with_reducible apply True.intro)
    exact ⟨rfl, .nil _ _ _ _ _⟩
  have e1 : votesA c f e = tly (c.schema.classes.length : Int) (saysL c f e) (voicesL f) := if_pos hs
  have e2 : voicesA c f = voicesL f := if_pos hs.1
  rw [e1]
  have hso := saysL_ok c f e h hf
  have hvo := voicesA_ok c f hlen
  rw [e2] at hvo
  have hcl := hs.1.1.1.2.1
  repeat' (first | (with_reducible refine And.intro ?_ ?_) | (with_reducible intro _))
  all_goals try (first | omega | with_reducible rfl | ((with_reducible refine eqId ?_); exact rfl) | with_reducible (first | assumption | exact pl ‹_› | exact pr ‹_› | exact plr ‹_› | exact pll ‹_› | exact prl ‹_› | exact plll ‹_› | exact prll ‹_›))
  refine LoopK.auto (Nat) (fun i => [(27, .one (.av (.int .i64 i))), (8, .one (.own 302 [] [0]))]) (fun i => [(302, ⟨.sl true none 1 ((saysL c f e).take i).length (fI ((saysL c f e).take i)), []⟩)]) [3, 4, 5, 25, 26] (k0 := ?k01) (keepH := ?kh1) 400 (fun i => i ≤ f.members.length) (fun i => f.members.length - i) (0) ?kea1 ?keb1 ?_ ?_ ?_
  case kea1 => exact amN
  case keb1 => exact amN
  · exact Nat.zero_le _
  · refine Le.auto [] (r0 := ?r01) (ren := ?ren1) ?ea1 ?eb1 ?a1 ?b1 ?c1 ?d1 ?ho1 ?hn1 ?ht1
    case ea1 => exact amR
    case eb1 => exact amR
    case a1 => exact rfl
    case b1 => exact rfl
    case c1 => exact rfl
    case d1 => exact rfl
    all_goals (try refine amL (h := ?_))
    all_goals (try with_reducible apply True.intro)
    exact ALe.of (.inl rfl) rfl (fun i hi => by simp at hi)
  · intro i hi
    have hL : ((saysL c f e).take i).length = i := by rw [List.length_take, saysL_len]; omega
    (try refine am (h := ?_)); (try with_reducible apply True.intro)
    refine ⟨fun hlt => ?_, fun hlt => ?_⟩
    · have hm := hf.2 _ (getD_mem (d := default) hlt)
      repeat' (first | (with_reducible refine And.intro ?_ ?_) | (with_reducible intro _))
      all_goals try (first | omega | with_reducible rfl | ((with_reducible refine eqId ?_); exact rfl) | with_reducible (first | assumption | exact pl ‹_› | exact pr ‹_› | exact plr ‹_› | exact pll ‹_› | exact prl ‹_› | exact plll ‹_› | exact prll ‹_›))
      first | refine CallK.one (implTreeSays c.schema (f.members.getD i default).tree e _ _ _ _ _ h.1 hm.1 he) (fun _ => amC) ?_ | refine CallE.one (implTreeSays c.schema (f.members.getD i default).tree e _ _ _ _ _ h.1 hm.1 he) (fun _ => amC) rfl ?_ | refine CallG.one rfl (fun hg => implTreeSays c.schema (f.members.getD i default).tree e _ _ _ _ _ h.1 hm.1 he) ?_ | refine CallEG.one rfl rfl (fun hg => implTreeSays c.schema (f.members.getD i default).tree e _ _ _ _ _ h.1 hm.1 he) ?_
      (try refine am (h := ?_)); (try with_reducible apply True.intro)
      repeat' (first | (with_reducible refine And.intro ?_ ?_) | (with_reducible intro _))
      all_goals try (first | omega | with_reducible rfl | ((with_reducible refine eqId ?_); exact rfl) | with_reducible (first | assumption | exact pl ‹_› | exact pr ‹_› | exact plr ‹_› | exact pll ‹_› | exact prl ‹_› | exact plll ‹_› | exact prll ‹_›))
      refine ⟨i + 1, ?_, by omega, by omega⟩
      refine Le.auto [] (r0 := ?r02) (ren := ?ren2) ?ea2 ?eb2 ?a2 ?b2 ?c2 ?d2 ?ho2 ?hn2 ?ht2
      case ea2 => exact amR
      case eb2 => exact amR
      case a2 => exact rfl
      case b2 => exact rfl
      case c2 => exact rfl
      case d2 => exact rfl
      all_goals (try refine amL (h := ?_))
      all_goals (try with_reducible apply True.intro)
      exact appLe1 (x := topOf (leafVote c.schema (f.members.getD i default).tree e)) (saysL_take c f e hlt) rfl (.inl rfl)
    · have ei : (saysL c f e).take i = saysL c f e := List.take_of_length_le (by rw [saysL_len]; omega)
      (try refine am (h := ?_)); (try simp only [ei]); (try refine am (h := ?_)); (try with_reducible apply True.intro)
      repeat' (first | (with_reducible refine And.intro ?_ ?_) | (with_reducible intro _))
      all_goals try (first | omega | with_reducible rfl | ((with_reducible refine eqId ?_); exact rfl) | with_reducible (first | assumption | exact pl ‹_› | exact pr ‹_› | exact plr ‹_› | exact pll ‹_› | exact prl ‹_› | exact plll ‹_› | exact prll ‹_›))
      have hv := implVoices c f
      rw [e2] at hv
      first | refine CallK.one (hv _ _ _ _ h hf hz) (fun _ => amC) ?_ | refine CallE.one (hv _ _ _ _ h hf hz) (fun _ => amC) rfl ?_ | refine CallG.one rfl (fun hg => hv _ _ _ _ h hf hz) ?_ | refine CallEG.one rfl rfl (fun hg => hv _ _ _ _ h hf hz) ?_
      (try refine am (h := ?_)); (try with_reducible apply True.intro)
      repeat' (first | (with_reducible refine And.intro ?_ ?_) | (with_reducible intro _))
      all_goals try (first | omega | with_reducible rfl | ((with_reducible refine eqId ?_); exact rfl) | with_reducible (first | assumption | exact pl ‹_› | exact pr ‹_› | exact plr ‹_› | exact pll ‹_› | exact prl ‹_› | exact plll ‹_› | exact prll ‹_›))
      first | refine CallK.one (iTallyN (c.schema.classes.length : Int) (saysL c f e) (voicesL f) _ _ _ _ hso hvo) (fun _ => amC) ?_ | refine CallE.one (iTallyN (c.schema.classes.length : Int) (saysL c f e) (voicesL f) _ _ _ _ hso hvo) (fun _ => amC) rfl ?_ | refine CallG.one rfl (fun hg => iTallyN (c.schema.classes.length : Int) (saysL c f e) (voicesL f) _ _ _ _ hso hvo) ?_ | refine CallEG.one rfl rfl (fun hg => iTallyN (c.schema.classes.length : Int) (saysL c f e) (voicesL f) _ _ _ _ hso hvo) ?_
      (try refine am (h := ?_)); (try with_reducible apply True.intro)
      repeat' (first | (with_reducible refine And.intro ?_ ?_) | (with_reducible intro _))
      all_goals try (first | omega | with_reducible rfl | ((with_reducible refine eqId ?_); exact rfl) | with_reducible (first | assumption | exact pl ‹_› | exact pr ‹_› | exact plr ‹_› | exact pll ‹_› | exact prl ‹_› | exact plll ‹_› | exact prll ‹_›))
      first | refine CallK.one (implTopOf (tly (c.schema.classes.length : Int) (saysL c f e) (voicesL f)) _ _ (by have := tly_len (c.schema.classes.length : Int) (saysL c f e) (voicesL f); omega)) (fun _ => amC) ?_ | refine CallE.one (implTopOf (tly (c.schema.classes.length : Int) (saysL c f e) (voicesL f)) _ _ (by have := tly_len (c.schema.classes.length : Int) (saysL c f e) (voicesL f); omega)) (fun _ => amC) rfl ?_ | refine CallG.one rfl (fun hg => implTopOf (tly (c.schema.classes.length : Int) (saysL c f e) (voicesL f)) _ _ (by have := tly_len (c.schema.classes.length : Int) (saysL c f e) (voicesL f); omega)) ?_ | refine CallEG.one rfl rfl (fun hg => implTopOf (tly (c.schema.classes.length : Int) (saysL c f e) (voicesL f)) _ _ (by have := tly_len (c.schema.classes.length : Int) (saysL c f e) (voicesL f); omega)) ?_
      (try refine am (h := ?_)); (try with_reducible apply True.intro)
      repeat' (first | (with_reducible refine And.intro ?_ ?_) | (with_reducible intro _))
      all_goals try (first | omega | with_reducible rfl | ((with_reducible refine eqId ?_); exact rfl) | with_reducible (first | assumption | exact pl ‹_› | exact pr ‹_› | exact plr ‹_› | exact pll ‹_› | exact prl ‹_› | exact plll ‹_› | exact prll ‹_›))
      refine FinK.tup ?_ ?_
      all_goals (try refine amF (h := ?_))
      all_goals (try with_reducible apply True.intro)
set_option maxHeartbeats 8000000 in
theorem specForestSays (c : DConf) (f : DForest) (e : DEx) (u v u' v' w : Bool) (h : okConf (2 ^ 47) c) (hf : okForest (2 ^ 47) f) (hz : zForest f ≤ 2 ^ 40) (he : okEx (2 ^ 47) e) : ACalls Tryz.prog 54 [.agg (cConf u v c), .agg (cForest u' v' f), .agg (cEx w false e)] (fun r => r = .tup [.one (.int .i64 (topOf (votesA c f e))), .one (aI true (votesA c f e))]) := by
  have hlen : f.members.length ≤ 2 ^ 40 := by unfold zForest zMemberS at hz; omega
  have nt : Tryz.f54.ntmps = 56 := rfl
  have rs : Tryz.f54.results = #[.tmp 6, .tmp 7] := rfl
  refine ACalls.of_run (m := 400) mixed Tryz.func54 rfl rfl (Nat.le_of_ble_eq_true rfl) ?_
  simp only [nt, rs]
  clear nt rs
  (try refine am (h := ?_)); (try with_reducible apply True.intro)
  repeat' (first | (with_reducible refine And.intro ?_ ?_) | (with_reducible intro _))
  all_goals try (first | omega | with_reducible rfl | ((with_reducible refine eqId ?_); exact rfl) | with_reducible (first | assumption | exact pl ‹_› | exact pr ‹_› | exact plr ‹_› | exact pll ‹_› | exact prl ‹_› | exact plll ‹_› | exact prll ‹_›))
  first | refine CallK.one (specForestOk c f _ _ _ _ h hf hz) (fun _ => amC) ?_ | refine CallE.one (specForestOk c f _ _ _ _ h hf hz) (fun _ => amC) rfl ?_ | refine CallG.one rfl (fun hg => specForestOk c f _ _ _ _ h hf hz) ?_ | refine CallEG.one rfl rfl (fun hg => specForestOk c f _ _ _ _ h hf hz) ?_
  (try refine am (h := ?_)); (try with_reducible apply True.intro)
  repeat' (first | (with_reducible refine And.intro ?_ ?_) | (with_reducible intro _))
  all_goals try (first | omega | with_reducible rfl | ((with_reducible refine eqId ?_); exact rfl) | with_reducible (first | assumption | exact pl ‹_› | exact pr ‹_› | exact plr ‹_› | exact pll ‹_› | exact prl ‹_› | exact plll ‹_› | exact prll ‹_›))
  first | refine CallK.one (specExOk c.schema e _ _ _ h.1 he) (fun _ => amC) ?_ | refine CallE.one (specExOk c.schema e _ _ _ h.1 he) (fun _ => amC) rfl ?_ | refine CallG.one rfl (fun hg => specExOk c.schema e _ _ _ h.1 he) ?_ | refine CallEG.one rfl rfl (fun hg => specExOk c.schema e _ _ _ h.1 he) ?_
  (try refine am (h := ?_)); (try with_reducible apply True.intro)
  refine ⟨fun hs => ?_, fun hs => ?_⟩
  · have e1 : votesA c f e = [] := if_neg (fun hh => by rcases hs with hs | hs; exact hs hh.1; exact hs hh.2)
    rw [e1]
    repeat' (first | (with_reducible refine And.intro ?_ ?_) | (with_reducible intro _))
    all_goals try (first | omega | with_reducible rfl | ((with_reducible refine eqId ?_); exact rfl) | with_reducible (first | assumption | exact pl ‹_› | exact pr ‹_› | exact plr ‹_› | exact pll ‹_› | exact prl ‹_› | exact plll ‹_› | exact prll ‹_›))
    refine FinK.tup ?_ ?_
    all_goals (try refine amF (h := ?_))
    all_goals (try with_reducible apply True.intro)
    exact ⟨rfl, ALe.of (.inl rfl) rfl (fun i hi => by simp at hi)⟩
  have e1 : votesA c f e = tly (c.schema.classes.length : Int) (saysL c f e) (voicesL f) := if_pos hs
  have e2 : voicesA c f = voicesL f := if_pos hs.1
  rw [e1]
  have hso := saysL_ok c f e h hf
  have hvo := voicesA_ok c f hlen
  rw [e2] at hvo
  have hcl := hs.1.1.1.2.1
  repeat' (first | (with_reducible refine And.intro ?_ ?_) | (with_reducible intro _))
  all_goals try (first | omega | with_reducible rfl | ((with_reducible refine eqId ?_); exact rfl) | with_reducible (first | assumption | exact pl ‹_› | exact pr ‹_› | exact plr ‹_› | exact pll ‹_› | exact prl ‹_› | exact plll ‹_› | exact prll ‹_›))
  refine LoopK.auto (Nat) (fun i => [(9, .one (.av (.int .i64 i))), (8, .one (.own 302 [] [0]))]) (fun i => [(302, ⟨.sl true none 1 ((saysL c f e).take i).length (fI ((saysL c f e).take i)), []⟩)]) [3, 4, 5] (k0 := ?k02) (keepH := ?kh2) 400 (fun i => i ≤ f.members.length) (fun i => f.members.length - i) (0) ?kea2 ?keb2 ?_ ?_ ?_
  case kea2 => exact amN
  case keb2 => exact amN
  · exact Nat.zero_le _
  · refine Le.auto [] (r0 := ?r03) (ren := ?ren3) ?ea3 ?eb3 ?a3 ?b3 ?c3 ?d3 ?ho3 ?hn3 ?ht3
    case ea3 => exact amR
    case eb3 => exact amR
    case a3 => exact rfl
    case b3 => exact rfl
    case c3 => exact rfl
    case d3 => exact rfl
    all_goals (try refine amL (h := ?_))
    all_goals (try with_reducible apply True.intro)
    exact ALe.of (.inl rfl) rfl (fun i hi => by simp at hi)
  · intro i hi
    have hL : ((saysL c f e).take i).length = i := by rw [List.length_take, saysL_len]; omega
    (try refine am (h := ?_)); (try with_reducible apply True.intro)
    refine ⟨fun hlt => ?_, fun hlt => ?_⟩
    · have hm := hf.2 _ (getD_mem (d := default) hlt)
      repeat' (first | (with_reducible refine And.intro ?_ ?_) | (with_reducible intro _))
      all_goals try (first | omega | with_reducible rfl | ((with_reducible refine eqId ?_); exact rfl) | with_reducible (first | assumption | exact pl ‹_› | exact pr ‹_› | exact plr ‹_› | exact pll ‹_› | exact prl ‹_› | exact plll ‹_› | exact prll ‹_›))
      first | refine CallK.one (specTreeSays c.schema (f.members.getD i default).tree e _ _ _ _ _ h.1 hm.1 he) (fun _ => amC) ?_ | refine CallE.one (specTreeSays c.schema (f.members.getD i default).tree e _ _ _ _ _ h.1 hm.1 he) (fun _ => amC) rfl ?_ | refine CallG.one rfl (fun hg => specTreeSays c.schema (f.members.getD i default).tree e _ _ _ _ _ h.1 hm.1 he) ?_ | refine CallEG.one rfl rfl (fun hg => specTreeSays c.schema (f.members.getD i default).tree e _ _ _ _ _ h.1 hm.1 he) ?_
      (try refine am (h := ?_)); (try with_reducible apply True.intro)
      repeat' (first | (with_reducible refine And.intro ?_ ?_) | (with_reducible intro _))
      all_goals try (first | omega | with_reducible rfl | ((with_reducible refine eqId ?_); exact rfl) | with_reducible (first | assumption | exact pl ‹_› | exact pr ‹_› | exact plr ‹_› | exact pll ‹_› | exact prl ‹_› | exact plll ‹_› | exact prll ‹_›))
      refine ⟨i + 1, ?_, by omega, by omega⟩
      refine Le.auto [] (r0 := ?r04) (ren := ?ren4) ?ea4 ?eb4 ?a4 ?b4 ?c4 ?d4 ?ho4 ?hn4 ?ht4
      case ea4 => exact amR
      case eb4 => exact amR
      case a4 => exact rfl
      case b4 => exact rfl
      case c4 => exact rfl
      case d4 => exact rfl
      all_goals (try refine amL (h := ?_))
      all_goals (try with_reducible apply True.intro)
      exact appLe1 (x := topOf (leafVote c.schema (f.members.getD i default).tree e)) (saysL_take c f e hlt) rfl (.inl rfl)
    · have ei : (saysL c f e).take i = saysL c f e := List.take_of_length_le (by rw [saysL_len]; omega)
      (try refine am (h := ?_)); (try simp only [ei]); (try refine am (h := ?_)); (try with_reducible apply True.intro)
      repeat' (first | (with_reducible refine And.intro ?_ ?_) | (with_reducible intro _))
      all_goals try (first | omega | with_reducible rfl | ((with_reducible refine eqId ?_); exact rfl) | with_reducible (first | assumption | exact pl ‹_› | exact pr ‹_› | exact plr ‹_› | exact pll ‹_› | exact prl ‹_› | exact plll ‹_› | exact prll ‹_›))
      have hv := specVoices c f
      rw [e2] at hv
      first | refine CallK.one (hv _ _ _ _ h hf hz) (fun _ => amC) ?_ | refine CallE.one (hv _ _ _ _ h hf hz) (fun _ => amC) rfl ?_ | refine CallG.one rfl (fun hg => hv _ _ _ _ h hf hz) ?_ | refine CallEG.one rfl rfl (fun hg => hv _ _ _ _ h hf hz) ?_
      (try refine am (h := ?_)); (try with_reducible apply True.intro)
      repeat' (first | (with_reducible refine And.intro ?_ ?_) | (with_reducible intro _))
      all_goals try (first | omega | with_reducible rfl | ((with_reducible refine eqId ?_); exact rfl) | with_reducible (first | assumption | exact pl ‹_› | exact pr ‹_› | exact plr ‹_› | exact pll ‹_› | exact prl ‹_› | exact plll ‹_› | exact prll ‹_›))
      first | refine CallK.one (sTallyN (c.schema.classes.length : Int) (saysL c f e) (voicesL f) _ _ _ _ hso hvo) (fun _ => amC) ?_ | refine CallE.one (sTallyN (c.schema.classes.length : Int) (saysL c f e) (voicesL f) _ _ _ _ hso hvo) (fun _ => amC) rfl ?_ | refine CallG.one rfl (fun hg => sTallyN (c.schema.classes.length : Int) (saysL c f e) (voicesL f) _ _ _ _ hso hvo) ?_ | refine CallEG.one rfl rfl (fun hg => sTallyN (c.schema.classes.length : Int) (saysL c f e) (voicesL f) _ _ _ _ hso hvo) ?_
      (try refine am (h := ?_)); (try with_reducible apply True.intro)
      repeat' (first | (with_reducible refine And.intro ?_ ?_) | (with_reducible intro _))
      all_goals try (first | omega | with_reducible rfl | ((with_reducible refine eqId ?_); exact rfl) | with_reducible (first | assumption | exact pl ‹_› | exact pr ‹_› | exact plr ‹_› | exact pll ‹_› | exact prl ‹_› | exact plll ‹_› | exact prll ‹_›))
      first | refine CallK.one (specTopOf (tly (c.schema.classes.length : Int) (saysL c f e) (voicesL f)) _ _ (by have := tly_len (c.schema.classes.length : Int) (saysL c f e) (voicesL f); omega)) (fun _ => amC) ?_ | refine CallE.one (specTopOf (tly (c.schema.classes.length : Int) (saysL c f e) (voicesL f)) _ _ (by have := tly_len (c.schema.classes.length : Int) (saysL c f e) (voicesL f); omega)) (fun _ => amC) rfl ?_ | refine CallG.one rfl (fun hg => specTopOf (tly (c.schema.classes.length : Int) (saysL c f e) (voicesL f)) _ _ (by have := tly_len (c.schema.classes.length : Int) (saysL c f e) (voicesL f); omega)) ?_ | refine CallEG.one rfl rfl (fun hg => specTopOf (tly (c.schema.classes.length : Int) (saysL c f e) (voicesL f)) _ _ (by have := tly_len (c.schema.classes.length : Int) (saysL c f e) (voicesL f); omega)) ?_
      (try refine am (h := ?_)); (try with_reducible apply True.intro)
      repeat' (first | (with_reducible refine And.intro ?_ ?_) | (with_reducible intro _))
      all_goals try (first | omega | with_reducible rfl | ((with_reducible refine eqId ?_); exact rfl) | with_reducible (first | assumption | exact pl ‹_› | exact pr ‹_› | exact plr ‹_› | exact pll ‹_› | exact prl ‹_› | exact plll ‹_› | exact prll ‹_›))
      refine FinK.tup ?_ ?_
      all_goals (try refine amF (h := ?_))
      all_goals (try with_reducible apply True.intro)
end Go.AM
