/- Lemmas for the proof of this claim. -/
import Derived.Test.YtbfofhfeghfpoaaMark
import Derived.Test.YtbfofhfeghfpoaaTy
import Derived.Test.YtbfofhfeghfpoaaAm4
namespace Go.AM
open Go Go.Proofs
set_option maxRecDepth 100000
end Go.AM
namespace Go.AM
open Go Go.Proofs
set_option maxRecDepth 100000
set_option maxHeartbeats 2000000 in
theorem heldWindow (l : List (List Int)) (k : Int) (u v : Bool) (h : okL (2 ^ 47) l) (h0 : 0 ≤ k) (h1 : k + tot l ≤ 2 ^ 62) : ACalls Try.prog 82 [.agg [aL u v (mkL k l)], .one (.int .i64 k)] (fun r => r = .val (.one (.int .i64 (k + tot l)))) := by
  have nt : Try.f82.ntmps = 12 := rfl
  have rs : Try.f82.results = #[.tmp 4] := rfl
  refine ACalls.of_run (m := 400) mixed Try.func82 rfl rfl (Nat.le_of_ble_eq_true rfl) ?_
  simp only [nt, rs]
  clear nt rs
  (try refine am (h := ?_)); (try with_reducible apply True.intro)
  first | refine CallK.one (heldL l k _ _ none h h0 h1) (fun _ => amC) ?_ | refine CallE.one (heldL l k _ _ none h h0 h1) (fun _ => amC) rfl ?_ | refine CallG.one rfl (fun hg => heldL l k _ _ none h h0 h1) ?_ | refine CallEG.one rfl rfl (fun hg => heldL l k _ _ none h h0 h1) ?_
  (try refine am (h := ?_)); (try with_reducible apply True.intro)
  repeat' (first | (with_reducible refine And.intro ?_ ?_) | (with_reducible intro _))
  all_goals try (first | omega | with_reducible rfl | ((with_reducible refine eqId ?_); exact rfl) | with_reducible (first | assumption | exact pl ‹_› | exact pr ‹_› | exact plr ‹_› | exact pll ‹_› | exact prl ‹_› | exact plll ‹_› | exact prll ‹_›))
  refine FinK.val1 ?_ ?_
  all_goals (try refine amF (h := ?_))
  all_goals (try with_reducible apply True.intro)
set_option maxHeartbeats 2000000 in
theorem heldDet (x : DDet) (k : Int) (u v : Bool) (h : okDet (2 ^ 47) x) (h0 : 0 ≤ k) (h1 : k + tot x.warn + tot x.drift ≤ 2 ^ 62) : ACalls Try.prog 40 [.agg [aL u v (mkL k x.warn), aL u v (mkL (k + tot x.warn) x.drift)], .one (.int .i64 k)] (fun r => r = .val (.one (.int .i64 (k + tot x.warn + tot x.drift)))) := by
  have nt : Try.f40.ntmps = 18 := rfl
  have rs : Try.f40.results = #[.tmp 4] := rfl
  refine ACalls.of_run (m := 400) mixed Try.func40 rfl rfl (Nat.le_of_ble_eq_true rfl) ?_
  simp only [nt, rs]
  clear nt rs
  (try refine am (h := ?_)); (try with_reducible apply True.intro)
  first | refine CallK.one (heldWindow x.warn k _ _ h.1 h0 (by omega)) (fun _ => amC) ?_ | refine CallE.one (heldWindow x.warn k _ _ h.1 h0 (by omega)) (fun _ => amC) rfl ?_ | refine CallG.one rfl (fun hg => heldWindow x.warn k _ _ h.1 h0 (by omega)) ?_ | refine CallEG.one rfl rfl (fun hg => heldWindow x.warn k _ _ h.1 h0 (by omega)) ?_
  (try refine am (h := ?_)); (try with_reducible apply True.intro)
  repeat' (first | (with_reducible refine And.intro ?_ ?_) | (with_reducible intro _))
  all_goals try (first | omega | with_reducible rfl | ((with_reducible refine eqId ?_); exact rfl) | with_reducible (first | assumption | exact pl ‹_› | exact pr ‹_› | exact plr ‹_› | exact pll ‹_› | exact prl ‹_› | exact plll ‹_› | exact prll ‹_›))
  first | refine CallK.one (heldWindow x.drift (k + tot x.warn) _ _ h.2 (by omega) (by omega)) (fun _ => amC) ?_ | refine CallE.one (heldWindow x.drift (k + tot x.warn) _ _ h.2 (by omega) (by omega)) (fun _ => amC) rfl ?_ | refine CallG.one rfl (fun hg => heldWindow x.drift (k + tot x.warn) _ _ h.2 (by omega) (by omega)) ?_ | refine CallEG.one rfl rfl (fun hg => heldWindow x.drift (k + tot x.warn) _ _ h.2 (by omega) (by omega)) ?_
  (try refine am (h := ?_)); (try with_reducible apply True.intro)
  repeat' (first | (with_reducible refine And.intro ?_ ?_) | (with_reducible intro _))
  all_goals try (first | omega | with_reducible rfl | ((with_reducible refine eqId ?_); exact rfl) | with_reducible (first | assumption | exact pl ‹_› | exact pr ‹_› | exact plr ‹_› | exact pll ‹_› | exact prl ‹_› | exact plll ‹_› | exact prll ‹_›))
  refine FinK.val1 ?_ ?_
  all_goals (try refine amF (h := ?_))
  all_goals (try with_reducible apply True.intro)
end Go.AM
namespace Go.AM
open Go Go.Proofs
set_option maxRecDepth 100000
theorem w_markWindow : WrapOf Try.prog 81 1 [(109, 0)] := by
  refine ⟨enter_of Try.func81 rfl rfl, fun B cs k w Q hcs hch hB => ?_⟩
  obtain ⟨l⟩ := cs
  match l, hcs with
  | [x0], _ =>
    have nt : Try.f81.ntmps = 10 := rfl
    refine calls_of_wp Try.func81 rfl ?_
    rw [nt]
    refine wp_seq (wrap_box (N := 10) (T := 50) (cs := ⟨[x0]⟩) (k := k) rfl (tmps_size (by decide)) (by decide) tmps_0 tmps_1 (fun a0 i0 => ?_))
    have c0 := WCh.start (T := 50) hch hB
    refine wp_seq (wrap_part i0 (by decide) (by rw [tk50]; decide) (by simp only [fldTy, tk50, gl]; rw [tk30]; decide) (load_one i0.blk (by rw [tk30]) (by rw [tk30]) (x := x0) (by simp only [fldOff, tk50]; rfl)) (enter_of Try.func109 rfl rfl _ _) (Calls.mono (c0.part (v := x0) rfl) (fun e w0 he => ?_)))
    obtain ⟨k0, rfl, hb0, c1⟩ := he
    refine ⟨k0, rfl, hb0, fun a1 i1 => ?_⟩
    refine wp_seq (wrap_last i1 (by decide) (fun a hd hk => ?_))
    exact wp_ret (wrap_end rfl c1 hd hk)
theorem w_markDet : WrapOf Try.prog 39 2 [(109, 0), (109, 1)] := by
  refine ⟨enter_of Try.func39 rfl rfl, fun B cs k w Q hcs hch hB => ?_⟩
  obtain ⟨l⟩ := cs
  match l, hcs with
  | [x0, x1], _ =>
    have nt : Try.f39.ntmps = 14 := rfl
    refine calls_of_wp Try.func39 rfl ?_
    rw [nt]
    refine wp_seq (wrap_box (N := 14) (T := 61) (cs := ⟨[x0, x1]⟩) (k := k) rfl (tmps_size (by decide)) (by decide) tmps_0 tmps_1 (fun a0 i0 => ?_))
    have c0 := WCh.start (T := 61) hch hB
    refine wp_seq (wrap_part i0 (by decide) (by rw [tk61]; decide) (by simp only [fldTy, tk61, gl]; rw [tk50]; decide) (v := .agg (Array.extract ⟨[x0, x1]⟩ 0 (0 + 1))) (hv := by have := load_agg (t := 50) (o := 0) i0.blk (by rw [tk50]; decide) (by rw [tk50]) (by rw [tk50]; exact Nat.le_of_ble_eq_true rfl); rw [tk50] at this; simp only [fldOff, tk61]; exact this) (hent := enter_of Try.func81 rfl rfl _ _) (hc := Calls.mono (c0.wrap (o := 0) (m := 1) (r := [(109, 1)]) rfl w_markWindow (Nat.le_of_ble_eq_true rfl)) (fun e w0 he => ?_)))
    obtain ⟨k0, rfl, hb0, c1⟩ := he
    refine ⟨k0, rfl, hb0, fun a1 i1 => ?_⟩
    refine wp_seq (wrap_part i1 (by decide) (by rw [tk61]; decide) (by simp only [fldTy, tk61, gl]; rw [tk50]; decide) (v := .agg (Array.extract ⟨[x0, x1]⟩ 1 (1 + 1))) (hv := by have := load_agg (t := 50) (o := 1) i1.blk (by rw [tk50]; decide) (by rw [tk50]) (by rw [tk50]; exact Nat.le_of_ble_eq_true rfl); rw [tk50] at this; simp only [fldOff, tk61]; exact this) (hent := enter_of Try.func81 rfl rfl _ _) (hc := Calls.mono (c1.wrap (o := 1) (m := 1) (r := []) rfl w_markWindow (Nat.le_of_ble_eq_true rfl)) (fun e w1 he => ?_)))
    obtain ⟨k1, rfl, hb1, c2⟩ := he
    refine ⟨k1, rfl, hb1, fun a2 i2 => ?_⟩
    refine wp_seq (wrap_last i2 (by decide) (fun a hd hk => ?_))
    exact wp_ret (wrap_end rfl c2 hd hk)
end Go.AM
