/- Lemmas for the proof of this claim. -/
import Derived.Test.YtbfofhfeghfpoaaFam
namespace Go.AM
open Go Go.Proofs
set_option maxRecDepth 100000
set_option maxHeartbeats 2000000 in
theorem within (n lo hi : Int) : ACalls Try.prog 51 [.one (.int .i64 n), .one (.int .i64 lo), .one (.int .i64 hi)] (fun r => r = .val (.one (.bool (decide (lo ≤ n ∧ n ≤ hi))))) := by
  have nt : Try.f51.ntmps = 15 := rfl
  have rs : Try.f51.results = #[.tmp 6] := rfl
  refine ACalls.of_run (m := 400) mixed Try.func51 rfl rfl (Nat.le_of_ble_eq_true rfl) ?_
  simp only [nt, rs]
  clear nt rs
  (try refine am (h := ?_)); (try with_reducible apply True.intro)
  refine FinK.val1 ?_ ?_
  all_goals (try refine amF (h := ?_))
  all_goals (try with_reducible apply True.intro)
set_option maxHeartbeats 2000000 in
theorem indexFuncI0 (l : List Int) (u : Bool) (nl : Option Bool) (f : FuncId) (g : Nat → AV) (p : Int → Bool) (hl : l.length ≤ 2 ^ 47) (hf : ∀ x ∈ l, ACalls Try.prog f [.one (.int .i64 x)] (fun r => r = .val (.one (.bool (p x))))) :
    ACalls Try.prog 95 [.one (.sl u nl 1 l.length (fI l)), .one (.fn (.func f) 0 g)] (fun r => r = .val (.one (.int .i64 (fidx p l 0)))) := by
  have nt : Try.f95.ntmps = 19 := rfl
  have rs : Try.f95.results = #[.tmp 4] := rfl
  refine ACalls.of_run (m := 400) mixed Try.func95 rfl rfl (Nat.le_of_ble_eq_true rfl) ?_
  simp only [nt, rs]
  clear nt rs
  (try refine am (h := ?_)); (try with_reducible apply True.intro)
  refine LoopK.auto (Nat) (fun i => [(8, .one (.av (.int .i64 i)))]) (fun i => []) [0, 1, 7] (k0 := ?k01) (keepH := ?kh1) 400 (fun i => i ≤ l.length ∧ fidx p l 0 = fidx p (l.drop i) i) (fun i => l.length - i) (0) ?kea1 ?keb1 ?_ ?_ ?_
  case kea1 => exact amN
  case keb1 => exact amN
  · exact ⟨Nat.zero_le _, by simp⟩
  · refine Le.auto [] (r0 := ?r01) (ren := ?ren1) ?ea1 ?eb1 ?a1 ?b1 ?c1 ?d1 ?ho1 ?hn1 ?ht1
    case ea1 => exact amR
    case eb1 => exact amR
    case a1 => exact rfl
    case b1 => exact rfl
    case c1 => exact rfl
    case d1 => exact rfl
    all_goals (try refine amL (h := ?_))
    all_goals (try with_reducible apply True.intro)
  · rintro i ⟨hi, hs⟩
    (try refine am (h := ?_)); (try with_reducible apply True.intro)
    repeat' (first | (with_reducible refine And.intro ?_ ?_) | (with_reducible intro _))
    all_goals try (first | omega | with_reducible rfl | ((with_reducible refine eqId ?_); exact rfl) | with_reducible (first | assumption | exact pl ‹_› | exact pr ‹_› | exact plr ‹_› | exact pll ‹_› | exact prl ‹_› | exact plll ‹_› | exact prll ‹_›))
    · have hlt : i < l.length := by assumption
      first | refine CallK.one (hf _ (getD_mem hlt)) (fun _ => amC) ?_ | refine CallE.one (hf _ (getD_mem hlt)) (fun _ => amC) rfl ?_ | refine CallG.one rfl (fun hg => hf _ (getD_mem hlt)) ?_ | refine CallEG.one rfl rfl (fun hg => hf _ (getD_mem hlt)) ?_ | refine CallCE.one (hf _ (getD_mem hlt)) (fun _ => amC) rfl ?_
      (try refine am (h := ?_)); (try with_reducible apply True.intro)
      rw [drop_cons (d := 0) hlt] at hs
      simp only [fidx] at hs
      repeat' (first | (with_reducible refine And.intro ?_ ?_) | (with_reducible intro _))
      all_goals try (first | omega | with_reducible rfl | ((with_reducible refine eqId ?_); exact rfl) | with_reducible (first | assumption | exact pl ‹_› | exact pr ‹_› | exact plr ‹_› | exact pll ‹_› | exact prl ‹_› | exact plll ‹_› | exact prll ‹_›))
      · refine FinK.val1 ?_ ?_
        all_goals (try refine amF (h := ?_))
        all_goals (try with_reducible apply True.intro)
        have hp : p (l.getD i 0) = true := by assumption
        rw [hp] at hs
        exact hs.symm
      · have hp : p (l.getD i 0) = false := by assumption
        rw [hp] at hs
        refine ⟨i + 1, ?_, ⟨by omega, hs⟩, by omega⟩
        refine Le.auto [] (r0 := ?r02) (ren := ?ren2) ?ea2 ?eb2 ?a2 ?b2 ?c2 ?d2 ?ho2 ?hn2 ?ht2
        case ea2 => exact amR
        case eb2 => exact amR
        case a2 => exact rfl
        case b2 => exact rfl
        case c2 => exact rfl
        case d2 => exact rfl
        all_goals (try refine amL (h := ?_))
        all_goals (try with_reducible apply True.intro)
    · refine FinK.val1 ?_ ?_
      all_goals (try refine amF (h := ?_))
      all_goals (try with_reducible apply True.intro)
      have : i = l.length := by omega
      subst this
      rw [List.drop_length] at hs
      exact hs.symm
set_option maxHeartbeats 2000000 in
theorem containsFuncI0 (l : List Int) (u : Bool) (nl : Option Bool) (f : FuncId) (g : Nat → AV) (p : Int → Bool) (hl : l.length ≤ 2 ^ 47) (hf : ∀ x ∈ l, ACalls Try.prog f [.one (.int .i64 x)] (fun r => r = .val (.one (.bool (p x))))) :
    ACalls Try.prog 58 [.one (.sl u nl 1 l.length (fI l)), .one (.fn (.func f) 0 g)] (fun r => r = .val (.one (.bool (l.any p)))) := by
  have nt : Try.f58.ntmps = 9 := rfl
  have rs : Try.f58.results = #[.tmp 4] := rfl
  refine ACalls.of_run (m := 400) mixed Try.func58 rfl rfl (Nat.le_of_ble_eq_true rfl) ?_
  simp only [nt, rs]
  clear nt rs
  (try refine am (h := ?_)); (try with_reducible apply True.intro)
  first | refine CallK.one (indexFuncI0 l _ _ f _ p hl (fun x hx => hf x hx)) (fun _ => amC) ?_ | refine CallE.one (indexFuncI0 l _ _ f _ p hl (fun x hx => hf x hx)) (fun _ => amC) rfl ?_ | refine CallG.one rfl (fun hg => indexFuncI0 l _ _ f _ p hl (fun x hx => hf x hx)) ?_ | refine CallEG.one rfl rfl (fun hg => indexFuncI0 l _ _ f _ p hl (fun x hx => hf x hx)) ?_ | refine CallCE.one (indexFuncI0 l _ _ f _ p hl (fun x hx => hf x hx)) (fun _ => amC) rfl ?_
  (try refine am (h := ?_)); (try with_reducible apply True.intro)
  refine FinK.val1 ?_ ?_
  all_goals (try refine amF (h := ?_))
  all_goals (try with_reducible apply True.intro)
  exact fidx_any p l 0 (by omega)
set_option maxHeartbeats 2000000 in
theorem cloneI (l : List Int) (u : Bool) (hl : l.length ≤ 2 ^ 43) : ACalls Try.prog 113 [.one (.sl u none 1 l.length (fI l))] (fun r => r = .val (.one (aI true l))) := by
  refine ACalls.nl1 (fun h0 => ?_) ?_
  · have nt : Try.f113.ntmps = 8 := rfl
    have rs : Try.f113.results = #[.tmp 2] := rfl
    refine ACalls.of_run (m := 400) mixed Try.func113 rfl rfl (Nat.le_of_ble_eq_true rfl) ?_
    simp only [nt, rs]
    clear nt rs
    (try refine am (h := ?_)); (try with_reducible apply True.intro)
    refine FinK.val1 ?_ ?_
    all_goals (try refine amF (h := ?_))
    all_goals (try with_reducible apply True.intro)
    rw [h0]
    exact ALe.nil _ _ _ _ _
  · have nt : Try.f113.ntmps = 8 := rfl
    have rs : Try.f113.results = #[.tmp 2] := rfl
    refine ACalls.of_run (m := 400) mixed Try.func113 rfl rfl (Nat.le_of_ble_eq_true rfl) ?_
    simp only [nt, rs]
    clear nt rs
    (try refine am (h := ?_)); (try with_reducible apply True.intro)
    repeat' (first | (with_reducible refine And.intro ?_ ?_) | (with_reducible intro _))
    all_goals try (first | omega | with_reducible rfl | ((with_reducible refine eqId ?_); exact rfl) | with_reducible (first | assumption | exact pl ‹_› | exact pr ‹_› | exact plr ‹_› | exact pll ‹_› | exact prl ‹_› | exact plll ‹_› | exact prll ‹_›))
    refine FinK.val1 ?_ ?_
    all_goals (try refine amF (h := ?_))
    all_goals (try with_reducible apply True.intro)
    refine ALe.of (.inl rfl) (by omega) (fun i hi j hj => ?_)
    obtain rfl : j = 0 := by omega
    simp only [apF, Nat.not_lt_zero, if_false, Nat.sub_zero]
    exact .refl _
set_option maxHeartbeats 2000000 in
theorem zerosI (n : Nat) (hn : n ≤ 2 ^ 40) : ACalls Try.prog 52 [.one (.int .i64 n)] (fun r => r = .val (.one (.sl true (some false) 1 n (fI (List.replicate n 0))))) := by
  have nt : Try.f52.ntmps = 5 := rfl
  have rs : Try.f52.results = #[.tmp 2] := rfl
  refine ACalls.of_run (m := 400) mixed Try.func52 rfl rfl (Nat.le_of_ble_eq_true rfl) ?_
  simp only [nt, rs]
  clear nt rs
  (try refine am (h := ?_)); (try with_reducible apply True.intro)
  repeat' (first | (with_reducible refine And.intro ?_ ?_) | (with_reducible intro _))
  all_goals try (first | omega | with_reducible rfl | ((with_reducible refine eqId ?_); exact rfl) | with_reducible (first | assumption | exact pl ‹_› | exact pr ‹_› | exact plr ‹_› | exact pll ‹_› | exact prl ‹_› | exact plll ‹_› | exact prll ‹_›))
  refine FinK.val1 ?_ ?_
  all_goals (try refine amF (h := ?_))
  all_goals (try with_reducible apply True.intro)
  refine ALe.of (.inr rfl) rfl (fun i hi j hj => ?_)
  obtain rfl : j = 0 := by omega
  (try refine am (h := ?_)); (try with_reducible apply True.intro)
  simp [List.getD, hi]
set_option maxHeartbeats 2000000 in
theorem totalI (l : List Int) (u : Bool) (nl : Option Bool) (c : Int) (hc : 0 ≤ c) (hl : l.length ≤ 2 ^ 47) (hb : ∀ i, i < l.length → 0 ≤ l.getD i 0 ∧ l.getD i 0 ≤ c) (hs : c * l.length ≤ 2 ^ 50) : ACalls Try.prog 93 [.one (.sl u nl 1 l.length (fI l))] (fun r => r = .val (.one (.int .i64 (tot1 l)))) := by
  have nt : Try.f93.ntmps = 17 := rfl
  have rs : Try.f93.results = #[.tmp 2] := rfl
  refine ACalls.of_run (m := 400) mixed Try.func93 rfl rfl (Nat.le_of_ble_eq_true rfl) ?_
  simp only [nt, rs]
  clear nt rs
  (try refine am (h := ?_)); (try with_reducible apply True.intro)
  refine LoopK.auto (Nat) (fun i => [(3, .one (.av (.int .i64 (tot1 (l.take i))))), (8, .one (.av (.int .i64 i)))]) (fun i => []) [6, 7] (k0 := ?k05) (keepH := ?kh5) 400 (fun i => i ≤ l.length) (fun i => l.length - i) (0) ?kea5 ?keb5 ?_ ?_ ?_
  case kea5 => exact amN
  case keb5 => exact amN
  · exact Nat.zero_le _
  · refine Le.auto [] (r0 := ?r09) (ren := ?ren9) ?ea9 ?eb9 ?a9 ?b9 ?c9 ?d9 ?ho9 ?hn9 ?ht9
    case ea9 => exact amR
    case eb9 => exact amR
    case a9 => exact rfl
    case b9 => exact rfl
    case c9 => exact rfl
    case d9 => exact rfl
    all_goals (try refine amL (h := ?_))
    all_goals (try with_reducible apply True.intro)
    rfl
  · intro i hi
    have ht := tot1_take_bd hc hb i
    have ht2 := tot1_take_bd hc hb (i + 1)
    (try refine am (h := ?_)); (try with_reducible apply True.intro)
    repeat' (first | (with_reducible refine And.intro ?_ ?_) | (with_reducible intro _))
    all_goals try (first | omega | with_reducible rfl | ((with_reducible refine eqId ?_); exact rfl) | with_reducible (first | assumption | exact pl ‹_› | exact pr ‹_› | exact plr ‹_› | exact pll ‹_› | exact prl ‹_› | exact plll ‹_› | exact prll ‹_›))
    · have := tot1_take (by assumption : i < l.length)
      omega
    · have := tot1_take (by assumption : i < l.length)
      omega
    · have := tot1_take (by assumption : i < l.length)
      refine ⟨i + 1, ?_, by omega, by omega⟩
      refine Le.auto [] (r0 := ?r010) (ren := ?ren10) ?ea10 ?eb10 ?a10 ?b10 ?c10 ?d10 ?ho10 ?hn10 ?ht10
      case ea10 => exact amR
      case eb10 => exact amR
      case a10 => exact rfl
      case b10 => exact rfl
      case c10 => exact rfl
      case d10 => exact rfl
      all_goals (try refine amL (h := ?_))
      all_goals (try with_reducible apply True.intro)
      exact this.symm
    · refine FinK.val1 ?_ ?_
      all_goals (try refine amF (h := ?_))
      all_goals (try with_reducible apply True.intro)
      have : i = l.length := by omega
      rw [this, List.take_length]
end Go.AM
