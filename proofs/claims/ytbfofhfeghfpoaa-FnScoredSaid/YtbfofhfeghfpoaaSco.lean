/- Lemmas for the proof of this claim. -/
import Derived.Test.YtbfofhfeghfpoaaBas
import Derived.Test.YtbfofhfeghfpoaaSco0
import Derived.Test.YtbfofhfeghfpoaaClo
import Derived.Test.YtbfofhfeghfpoaaData
namespace Go.AM
open Go Go.Proofs
set_option maxRecDepth 100000
set_option maxHeartbeats 2000000 in
theorem tableSumC (n : Int) (l : List (List Int)) (u v : Bool) (hn : n ≤ 3) (hl : (l.length : Int) ≤ 3) (hr : ∀ k, k < l.length → rowOk n (l.getD k [])) : ACalls Try.prog 55 [.one (aL u v l)] (fun r => r = .val (.one (.int .i64 (allSum l)))) := by
  have nt : Try.f55.ntmps = 18 := rfl
  have rs : Try.f55.results = #[.tmp 2] := rfl
  refine ACalls.of_run (m := 400) mixed Try.func55 rfl rfl (Nat.le_of_ble_eq_true rfl) ?_
  simp only [nt, rs]
  clear nt rs
  (try refine am (h := ?_)); (try with_reducible apply True.intro)
  refine LoopK.auto (Nat) (fun i => [(3, .one (.av (.int .i64 (allSum (l.take i))))), (8, .one (.av (.int .i64 i)))]) (fun i => []) [6, 7] (k0 := ?k03) (keepH := ?kh3) 400 (fun i => i ≤ l.length) (fun i => l.length - i) (0) ?kea3 ?keb3 ?_ ?_ ?_
  case kea3 => exact amN
  case keb3 => exact amN
  · exact Nat.zero_le _
  · refine Le.auto [] (r0 := ?r010) (ren := ?ren10) ?ea10 ?eb10 ?a10 ?b10 ?c10 ?d10 ?ho10 ?hn10 ?ht10
    case ea10 => exact amR
    case eb10 => exact amR
    case a10 => exact rfl
    case b10 => exact rfl
    case c10 => exact rfl
    case d10 => exact rfl
    all_goals (try refine amL (h := ?_))
    all_goals (try with_reducible apply True.intro)
    all_goals first | rfl | exact ⟨rfl, rfl⟩
  · intro i hi
    have hs := allSum_bd (t := l) hn i (fun k hk => hr k)
    by_cases hlt : i < l.length
    · have hro := hr i hlt
      have hro1 := hro.1
      have ht := rowOk_tot hn hro
      (try refine am (h := ?_)); (try with_reducible apply True.intro)
      repeat' (first | (with_reducible refine And.intro ?_ ?_) | (with_reducible intro _))
      all_goals try (first | omega | with_reducible rfl | ((with_reducible refine eqId ?_); exact rfl) | with_reducible (first | assumption | exact pl ‹_› | exact pr ‹_› | exact plr ‹_› | exact pll ‹_› | exact prl ‹_› | exact plll ‹_› | exact prll ‹_›))
      first | refine CallK.one (totalI (l.getD i []) _ _ 9999 (by omega) (by omega) hro.2 (by omega)) (fun _ => amC) ?_ | refine CallE.one (totalI (l.getD i []) _ _ 9999 (by omega) (by omega) hro.2 (by omega)) (fun _ => amC) rfl ?_ | refine CallG.one rfl (fun hg => totalI (l.getD i []) _ _ 9999 (by omega) (by omega) hro.2 (by omega)) ?_ | refine CallEG.one rfl rfl (fun hg => totalI (l.getD i []) _ _ 9999 (by omega) (by omega) hro.2 (by omega)) ?_ | refine CallCE.one (totalI (l.getD i []) _ _ 9999 (by omega) (by omega) hro.2 (by omega)) (fun _ => amC) rfl ?_
      (try refine am (h := ?_)); (try with_reducible apply True.intro)
      repeat' (first | (with_reducible refine And.intro ?_ ?_) | (with_reducible intro _))
      all_goals try (first | omega | with_reducible rfl | ((with_reducible refine eqId ?_); exact rfl) | with_reducible (first | assumption | exact pl ‹_› | exact pr ‹_› | exact plr ‹_› | exact pll ‹_› | exact prl ‹_› | exact plll ‹_› | exact prll ‹_›))
      refine ⟨i + 1, ?_, by omega, by omega⟩
      refine Le.auto [] (r0 := ?r011) (ren := ?ren11) ?ea11 ?eb11 ?a11 ?b11 ?c11 ?d11 ?ho11 ?hn11 ?ht11
      case ea11 => exact amR
      case eb11 => exact amR
      case a11 => exact rfl
      case b11 => exact rfl
      case c11 => exact rfl
      case d11 => exact rfl
      all_goals (try refine amL (h := ?_))
      all_goals (try with_reducible apply True.intro)
      rw [allSum_take hlt]
      all_goals first | rfl | exact ⟨rfl, rfl⟩
    · (try refine am (h := ?_)); (try with_reducible apply True.intro)
      repeat' (first | (with_reducible refine And.intro ?_ ?_) | (with_reducible intro _))
      all_goals try (first | omega | with_reducible rfl | ((with_reducible refine eqId ?_); exact rfl) | with_reducible (first | assumption | exact pl ‹_› | exact pr ‹_› | exact plr ‹_› | exact pll ‹_› | exact prl ‹_› | exact plll ‹_› | exact prll ‹_›))
      refine FinK.val1 ?_ ?_
      all_goals (try refine amF (h := ?_))
      all_goals (try with_reducible apply True.intro)
      have : i = l.length := by omega
      rw [this, List.take_length]
set_option maxHeartbeats 2000000 in
theorem scoreOk1C (z : Int) : ACalls Try.prog 59 [.one (.int .i64 z)] (fun r => r = .val (.one (.bool (!decide (0 ≤ z ∧ z ≤ 9999))))) := by
  have nt : Try.f59.ntmps = 6 := rfl
  have rs : Try.f59.results = #[.tmp 2] := rfl
  refine ACalls.of_run (m := 400) mixed Try.func59 rfl rfl (Nat.le_of_ble_eq_true rfl) ?_
  simp only [nt, rs]
  clear nt rs
  (try refine am (h := ?_)); (try with_reducible apply True.intro)
  first | refine CallK.one (within z 0 9999) (fun _ => amC) ?_ | refine CallE.one (within z 0 9999) (fun _ => amC) rfl ?_ | refine CallG.one rfl (fun hg => within z 0 9999) ?_ | refine CallEG.one rfl rfl (fun hg => within z 0 9999) ?_ | refine CallCE.one (within z 0 9999) (fun _ => amC) rfl ?_
  (try refine am (h := ?_)); (try with_reducible apply True.intro)
  repeat' (first | (with_reducible refine And.intro ?_ ?_) | (with_reducible intro _))
  all_goals try (first | omega | with_reducible rfl | ((with_reducible refine eqId ?_); exact rfl) | with_reducible (first | assumption | exact pl ‹_› | exact pr ‹_› | exact plr ‹_› | exact pll ‹_› | exact prl ‹_› | exact plll ‹_› | exact prll ‹_›))
  refine FinK.val1 ?_ ?_
  all_goals (try refine amF (h := ?_))
  all_goals (try with_reducible apply True.intro)
set_option maxHeartbeats 8000000 in
theorem implScoreOk (n : Int) (x : DScore) (u v : Bool) (hx : okScore (2 ^ 47) x) : ACalls Try.prog 19 [.one (.int .i64 n), .agg (cScore u v x)] (fun r => r = .val (.one (.bool (scoreOk n x)))) := by
  have hl := hx.1.1
  have hll := hx.2.1
  have nt : Try.f19.ntmps = 95 := rfl
  have rs : Try.f19.results = #[.tmp 4] := rfl
  refine ACalls.of_run (m := 400) mixed Try.func19 rfl rfl (Nat.le_of_ble_eq_true rfl) ?_
  simp only [nt, rs]
  clear nt rs
  (try refine am (h := ?_)); (try with_reducible apply True.intro)
  first | refine CallK.one (within n 2 3) (fun _ => amC) ?_ | refine CallE.one (within n 2 3) (fun _ => amC) rfl ?_ | refine CallG.one rfl (fun hg => within n 2 3) ?_ | refine CallEG.one rfl rfl (fun hg => within n 2 3) ?_ | refine CallCE.one (within n 2 3) (fun _ => amC) rfl ?_
  (try refine am (h := ?_)); (try with_reducible apply True.intro)
  repeat' (first | (with_reducible refine And.intro ?_ ?_) | (with_reducible intro _))
  all_goals try (first | omega | with_reducible rfl | ((with_reducible refine eqId ?_); exact rfl) | with_reducible (first | assumption | exact pl ‹_› | exact pr ‹_› | exact plr ‹_› | exact pll ‹_› | exact prl ‹_› | exact plll ‹_› | exact prll ‹_›))
  · rw [scoreOk_false (fun h => by have := h.1.1; have := h.1.2.1; omega)]
    refine FinK.val1 ?_ ?_
    all_goals (try refine amF (h := ?_))
    all_goals (try with_reducible apply True.intro)
  refine LoopK.auto (Nat) (fun i => [(24, .one (.av (.int .i64 i)))]) (fun i => []) [0, 3, 22, 23] (k0 := ?k04) (keepH := ?kh4) 400 (fun i => i ≤ x.table.length ∧ (∀ k, k < i → rowOk n (x.table.getD k []))) (fun i => x.table.length - i) (0) ?kea4 ?keb4 ?_ ?_ ?_
  case kea4 => exact amN
  case keb4 => exact amN
  · exact ⟨Nat.zero_le _, fun k hk => by omega⟩
  · refine Le.auto [] (r0 := ?r012) (ren := ?ren12) ?ea12 ?eb12 ?a12 ?b12 ?c12 ?d12 ?ho12 ?hn12 ?ht12
    case ea12 => exact amR
    case eb12 => exact amR
    case a12 => exact rfl
    case b12 => exact rfl
    case c12 => exact rfl
    case d12 => exact rfl
    all_goals (try refine amL (h := ?_))
    all_goals (try with_reducible apply True.intro)
    all_goals first | rfl | exact ⟨rfl, rfl⟩
  rename_i hn0
  obtain ⟨hn, hlen⟩ := hn0
  · rintro i ⟨hi, hr⟩
    by_cases hlt : i < x.table.length
    · have hrow := (hx.1.2 _ (getD_mem (d := []) hlt)).1
      (try refine am (h := ?_)); (try with_reducible apply True.intro)
      repeat' (first | (with_reducible refine And.intro ?_ ?_) | (with_reducible intro _))
      all_goals try (first | omega | with_reducible rfl | ((with_reducible refine eqId ?_); exact rfl) | with_reducible (first | assumption | exact pl ‹_› | exact pr ‹_› | exact plr ‹_› | exact pll ‹_› | exact prl ‹_› | exact plll ‹_› | exact prll ‹_›))
      first | refine CallG.one rfl (fun hg => containsFuncI0 (x.table.getD i []) _ _ _ _ (fun z => !decide (0 ≤ z ∧ z ≤ 9999)) hrow (fun z hz => scoreOk1C z)) ?_ | refine CallEG.one rfl rfl (fun hg => containsFuncI0 (x.table.getD i []) _ _ _ _ (fun z => !decide (0 ≤ z ∧ z ≤ 9999)) hrow (fun z hz => scoreOk1C z)) ?_
      (try refine am (h := ?_)); (try with_reducible apply True.intro)
      repeat' (first | (with_reducible refine And.intro ?_ ?_) | (with_reducible intro _))
      all_goals try (first | omega | with_reducible rfl | ((with_reducible refine eqId ?_); exact rfl) | with_reducible (first | assumption | exact pl ‹_› | exact pr ‹_› | exact plr ‹_› | exact pll ‹_› | exact prl ‹_› | exact plll ‹_› | exact prll ‹_›))
      · rw [scoreOk_false (fun h => ?_)]
        · refine FinK.val1 ?_ ?_
          all_goals (try refine amF (h := ?_))
          all_goals (try with_reducible apply True.intro)
        · rename_i hh
          have h1 := h.1.2.2 i hlt
          rcases hh with hh | hh
          · exact hh h1.1
          · rw [rowOk_any h1] at hh
            cases hh
      · rename_i hh
        refine ⟨i + 1, ?_, ⟨by omega, fun k hk => ?_⟩, by omega⟩
        · refine Le.auto [] (r0 := ?r013) (ren := ?ren13) ?ea13 ?eb13 ?a13 ?b13 ?c13 ?d13 ?ho13 ?hn13 ?ht13
          case ea13 => exact amR
          case eb13 => exact amR
          case a13 => exact rfl
          case b13 => exact rfl
          case c13 => exact rfl
          case d13 => exact rfl
          all_goals (try refine amL (h := ?_))
          all_goals (try with_reducible apply True.intro)
          all_goals rfl
        · by_cases e : k = i
          · subst e
            exact rowOk_of hh.1 hh.2
          · exact hr k (by omega)
    · have ei : i = x.table.length := by omega
      subst ei
      have hs := allSum_bd (t := x.table) hn.2 x.table.length (fun k hk _ => hr k hk)
      rw [List.take_length] at hs
      (try refine am (h := ?_)); (try with_reducible apply True.intro)
      repeat' (first | (with_reducible refine And.intro ?_ ?_) | (with_reducible intro _))
      all_goals try (first | omega | with_reducible rfl | ((with_reducible refine eqId ?_); exact rfl) | with_reducible (first | assumption | exact pl ‹_› | exact pr ‹_› | exact plr ‹_› | exact pll ‹_› | exact prl ‹_› | exact plll ‹_› | exact prll ‹_›))
      first | refine CallK.one (tableSumC n x.table _ _ hn.2 (by omega) hr) (fun _ => amC) ?_ | refine CallE.one (tableSumC n x.table _ _ hn.2 (by omega) hr) (fun _ => amC) rfl ?_ | refine CallG.one rfl (fun hg => tableSumC n x.table _ _ hn.2 (by omega) hr) ?_ | refine CallEG.one rfl rfl (fun hg => tableSumC n x.table _ _ hn.2 (by omega) hr) ?_ | refine CallCE.one (tableSumC n x.table _ _ hn.2 (by omega) hr) (fun _ => amC) rfl ?_
      (try refine am (h := ?_)); (try with_reducible apply True.intro)
      repeat' (first | (with_reducible refine And.intro ?_ ?_) | (with_reducible intro _))
      all_goals try (first | omega | with_reducible rfl | ((with_reducible refine eqId ?_); exact rfl) | with_reducible (first | assumption | exact pl ‹_› | exact pr ‹_› | exact plr ‹_› | exact pll ‹_› | exact prl ‹_› | exact plll ‹_› | exact prll ‹_›))
      · rw [scoreOk_false (fun h => ?_)]
        · refine FinK.val1 ?_ ?_
          all_goals (try refine amF (h := ?_))
          all_goals (try with_reducible apply True.intro)
        · rename_i hh
          have h3 := h.2.2.1
          omega
      rename_i hall
      refine LoopK.intro ((Nat × List (Int × Int × Int))) (fun k => [(54, .one (.av (.int .i64 k.1))), (8, .one (.own 303 [] [0]))]) (fun k => [(303, ⟨.mp k.2, []⟩)]) [0, 3, 52, 53] [1] 900 (fun k => k.1 ≤ x.last.length ∧ (∀ m, m < k.1 → lastOk n x m) ∧ mapOk k.2 x.last k.1) (fun k => x.last.length - k.1) ((0, [])) ?_ ?_ ?_
      · exact ⟨Nat.zero_le _, fun m hm => by simp at hm, Nat.le_refl _, fun a b => rfl⟩
      · refine Le.auto [] (r0 := ?r014) (ren := ?ren14) ?ea14 ?eb14 ?a14 ?b14 ?c14 ?d14 ?ho14 ?hn14 ?ht14
        case ea14 => exact amR
        case eb14 => exact amR
        case a14 => exact rfl
        case b14 => exact rfl
        case c14 => exact rfl
        case d14 => exact rfl
        all_goals (try refine amL (h := ?_))
        all_goals (try with_reducible apply True.intro)
        all_goals exact .refl _
      · rintro ⟨k, es⟩ ⟨hk, hlo, hmo⟩
        dsimp only at hk hlo hmo ⊢
        by_cases hkl : k < x.last.length
        · have hg := hmo.2 (x.last.getD k default).truth (x.last.getD k default).said
          have hb := pcnt_bd (x.last.take k) (x.last.getD k default).truth (x.last.getD k default).said
          have hbl : (x.last.take k).length ≤ x.last.length := by simp; omega
          have hix := @mix_lt es (x.last.getD k default).truth (x.last.getD k default).said
          have hel := hmo.1
          have hput := mapOk_put hmo hkl
          (try refine am (h := ?_)); (try with_reducible apply True.intro)
          repeat' (first | (with_reducible refine And.intro ?_ ?_) | (with_reducible intro _))
          all_goals try (first | omega | with_reducible rfl | ((with_reducible refine eqId ?_); exact rfl) | with_reducible (first | assumption | exact pl ‹_› | exact pr ‹_› | exact plr ‹_› | exact pll ‹_› | exact prl ‹_› | exact plll ‹_› | exact prll ‹_›))
          have hrt : (0 ≤ (x.last.getD k default).truth ∧ (x.last.getD k default).truth ≤ n - 1) → ((x.table.getD (x.last.getD k default).truth.toNat []).length : Int) = n := fun h => (hr _ (by omega)).1
          refine CallE.one (within (x.last.getD k default).truth 0 (n - 1)) (fun _ => amC) rfl ?_
          (try refine am (h := ?_)); (try with_reducible apply True.intro)
          repeat' (first | (with_reducible refine And.intro ?_ ?_) | (with_reducible intro _))
          all_goals try (first | omega | with_reducible rfl | ((with_reducible refine eqId ?_); exact rfl) | with_reducible (first | assumption | exact pl ‹_› | exact pr ‹_› | exact plr ‹_› | exact pll ‹_› | exact prl ‹_› | exact plll ‹_› | exact prll ‹_›))
          refine CallEG.one rfl rfl (fun hg => within (x.last.getD k default).said 0 (n - 1)) ?_
          (try refine am (h := ?_)); (try with_reducible apply True.intro)
          repeat' (first | (with_reducible refine And.intro ?_ ?_) | (with_reducible intro _))
          all_goals try (first | omega | with_reducible rfl | ((with_reducible refine eqId ?_); exact rfl) | with_reducible (first | assumption | exact pl ‹_› | exact pr ‹_› | exact plr ‹_› | exact pll ‹_› | exact prl ‹_› | exact plll ‹_› | exact prll ‹_›))
          · rw [scoreOk_false (fun h => ?_)]
            · refine FinK.val1 ?_ ?_
              all_goals (try refine amF (h := ?_))
              all_goals (try with_reducible apply True.intro)
            · rename_i hh
              obtain ⟨h1, h2⟩ := scOk_last h hkl
              rw [hput.2] at hh
              unfold tab at h2
              unfold pairOk at h1
              omega
          · rename_i hh
            refine ⟨(k + 1, mset (ment es (x.last.getD k default).truth (x.last.getD k default).said) (mix es (x.last.getD k default).truth (x.last.getD k default).said) (mget es (x.last.getD k default).truth (x.last.getD k default).said + 1)), ?_, ⟨by simp only; omega, fun m hm => ?_, hput⟩, by simp only; omega⟩
            · refine Le.auto [] (r0 := ?r015) (ren := ?ren15) ?ea15 ?eb15 ?a15 ?b15 ?c15 ?d15 ?ho15 ?hn15 ?ht15
              case ea15 => exact amR
              case eb15 => exact amR
              case a15 => exact rfl
              case b15 => exact rfl
              case c15 => exact rfl
              case d15 => exact rfl
              all_goals (try refine amL (h := ?_))
              all_goals (try with_reducible apply True.intro)
              all_goals exact .refl _
            · by_cases e : m = k
              · subst e
                rw [hput.2] at hh
                exact ⟨⟨by omega, by omega⟩, by unfold tab; omega⟩
              · exact hlo m (by simp only at hm; omega)
        · (try refine am (h := ?_)); (try with_reducible apply True.intro)
          repeat' (first | (with_reducible refine And.intro ?_ ?_) | (with_reducible intro _))
          all_goals try (first | omega | with_reducible rfl | ((with_reducible refine eqId ?_); exact rfl) | with_reducible (first | assumption | exact pl ‹_› | exact pr ‹_› | exact plr ‹_› | exact pll ‹_› | exact prl ‹_› | exact plll ‹_› | exact prll ‹_›))
          rw [scoreOk_true ?_]
          · refine FinK.val1 ?_ ?_
            all_goals (try refine amF (h := ?_))
            all_goals (try with_reducible apply True.intro)
          · have hlo2 : ∀ m, m < x.last.length → lastOk n x m := fun m hm => hlo m (by omega)
            refine ⟨⟨hn, hlen, hr⟩, fun a b ha hb => ?_, ⟨by omega, hall.2⟩, fun m hm => (hlo2 m hm).1⟩
            have := last_cnt hlo2 (fun a b ha hb => (rows_tab hlen hr a b ha hb).1) a b ha hb x.last.length (Nat.le_refl _)
            rwa [List.take_length] at this
end Go.AM
namespace Go.AM
open Go Go.Proofs
set_option maxRecDepth 100000
set_option maxHeartbeats 4000000 in
theorem at0C (code : List UInt8) (i : Int) (hc : code.length ≤ 2 ^ 47) (hi : 0 ≤ i ∧ i ≤ 1000) (u : Bool) : ACalls Try.prog 15 [.one (aB u code), .one (.int .i64 i)] (fun r => ∃ z : Int, (0 ≤ z ∧ z ≤ 255) ∧ r = .val (.one (.int .i64 z))) := by
  have nt : Try.f15.ntmps = 20 := rfl
  have rs : Try.f15.results = #[.tmp 4] := rfl
  refine ACalls.of_run (m := 400) mixed Try.func15 rfl rfl (Nat.le_of_ble_eq_true rfl) ?_
  simp only [nt, rs]
  clear nt rs
  (try refine am (h := ?_)); (try with_reducible apply True.intro)
  repeat' (first | (with_reducible refine And.intro ?_ ?_) | (with_reducible intro _))
  all_goals try (first | omega | with_reducible rfl | ((with_reducible refine eqId ?_); exact rfl) | with_reducible (first | assumption | exact pl ‹_› | exact pr ‹_› | exact plr ‹_› | exact pll ‹_› | exact prl ‹_› | exact plll ‹_› | exact prll ‹_›))
  · have hb : (code.getD i.toNat 0).toNat < 256 := (code.getD i.toNat 0).toNat_lt
    have hw : IntKind.i64.wrap ((code.getD i.toNat 0).toNat : Int) = ((code.getD i.toNat 0).toNat : Int) := wrap_inK ⟨by show (-9223372036854775808 : Int) ≤ _; omega, by show _ ≤ (9223372036854775807 : Int); omega⟩
    refine FinK.ex (((code.getD i.toNat 0).toNat : Int)) ?hq1 ?_
    case hq1 => exact by omega
    refine FinK.val1 ?_ ?_
    all_goals (try refine amF (h := ?_))
    all_goals (try with_reducible apply True.intro)
    exact hw
  · have h0 : 0 ≤ i * 7 + (code.length : Int) := by omega
    refine FinK.ex ((i * 7 + (code.length : Int)).tmod 256) ?hq2 ?_
    case hq2 => exact by rw [Int.tmod_eq_emod_of_nonneg h0]; omega
    refine FinK.val1 ?_ ?_
    all_goals (try refine amF (h := ?_))
    all_goals (try with_reducible apply True.intro)
set_option maxHeartbeats 2000000 in
theorem clonePairC (l : List DPair) (u : Bool) (hl : l.length ≤ 2 ^ 40) : ACalls Try.prog 92 [.one (.sl u none 2 l.length (fPair l))] (fun r => r = .val (.one (aPair true l))) := by
  refine ACalls.nl1 (fun h0 => ?_) ?_
  · have nt : Try.f92.ntmps = 8 := rfl
    have rs : Try.f92.results = #[.tmp 2] := rfl
    refine ACalls.of_run (m := 400) mixed Try.func92 rfl rfl (Nat.le_of_ble_eq_true rfl) ?_
    simp only [nt, rs]
    clear nt rs
    (try refine am (h := ?_)); (try with_reducible apply True.intro)
    refine FinK.val1 ?_ ?_
    all_goals (try refine amF (h := ?_))
    all_goals (try with_reducible apply True.intro)
    rw [h0]
    exact ALe.nil _ _ _ _ _
  · have nt : Try.f92.ntmps = 8 := rfl
    have rs : Try.f92.results = #[.tmp 2] := rfl
    refine ACalls.of_run (m := 400) mixed Try.func92 rfl rfl (Nat.le_of_ble_eq_true rfl) ?_
    simp only [nt, rs]
    clear nt rs
    (try refine am (h := ?_)); (try with_reducible apply True.intro)
    repeat' (first | (with_reducible refine And.intro ?_ ?_) | (with_reducible intro _))
    all_goals try (first | omega | with_reducible rfl | ((with_reducible refine eqId ?_); exact rfl) | with_reducible (first | assumption | exact pl ‹_› | exact pr ‹_› | exact plr ‹_› | exact pll ‹_› | exact prl ‹_› | exact plll ‹_› | exact prll ‹_›))
    · rename_i i _ j hj
      rcases (show j = 0 ∨ j = 1 by omega) with rfl | rfl <;> rfl
    refine FinK.val1 ?_ ?_
    all_goals (try refine amF (h := ?_))
    all_goals (try with_reducible apply True.intro)
    refine ALe.of (.inl rfl) (by omega) (fun i hi j hj => ?_)
    simp only [apF, Nat.not_lt_zero, if_false, Nat.sub_zero]
    rcases (show j = 0 ∨ j = 1 by omega) with rfl | rfl <;> exact .refl _
set_option maxHeartbeats 4000000 in
theorem cloneScoreC (x : DScore) (u v : Bool) (hx : okL (2 ^ 40) x.table ∧ x.last.length ≤ 2 ^ 40) : ACalls Try.prog 54 [.agg (cScore u v x)] (fun r => r = .val (.agg (cScore true true x))) := by
  have hl := hx.1.1
  have hll := hx.2
  have nt : Try.f54.ntmps = 10 := rfl
  have rs : Try.f54.results = #[.cell 2 33] := rfl
  refine ACalls.of_run (m := 400) mixed Try.func54 rfl rfl (Nat.le_of_ble_eq_true rfl) ?_
  simp only [nt, rs]
  clear nt rs
  (try refine am (h := ?_)); (try with_reducible apply True.intro)
  repeat' (first | (with_reducible refine And.intro ?_ ?_) | (with_reducible intro _))
  all_goals try (first | omega | with_reducible rfl | ((with_reducible refine eqId ?_); exact rfl) | with_reducible (first | assumption | exact pl ‹_› | exact pr ‹_› | exact plr ‹_› | exact pll ‹_› | exact prl ‹_› | exact plll ‹_› | exact prll ‹_›))
  refine CallE.one (cloneListsI x.table _ _ hx.1) (fun _ => amC) rfl ?_
  (try refine am (h := ?_)); (try with_reducible apply True.intro)
  repeat' (first | (with_reducible refine And.intro ?_ ?_) | (with_reducible intro _))
  all_goals try (first | omega | with_reducible rfl | ((with_reducible refine eqId ?_); exact rfl) | with_reducible (first | assumption | exact pl ‹_› | exact pr ‹_› | exact plr ‹_› | exact pll ‹_› | exact prl ‹_› | exact plll ‹_› | exact prll ‹_›))
  refine CallE.one (clonePairC x.last _ hx.2) (fun _ => amC) rfl ?_
  (try refine am (h := ?_)); (try with_reducible apply True.intro)
  repeat' (first | (with_reducible refine And.intro ?_ ?_) | (with_reducible intro _))
  all_goals try (first | omega | with_reducible rfl | ((with_reducible refine eqId ?_); exact rfl) | with_reducible (first | assumption | exact pl ‹_› | exact pr ‹_› | exact plr ‹_› | exact pll ‹_› | exact prl ‹_› | exact plll ‹_› | exact prll ‹_›))
  refine FinK.cell1 ?_ ?_ ?_
  all_goals (try refine amF (h := ?_))
  all_goals (try with_reducible apply True.intro)
theorem tabLe {T : List (List Int)} {t s : Nat} {z : Int} (ht : t < T.length) : ALe (.sl true none 1 T.length fun i' j' => if i' = t ∧ j' = 0 then .sl true none 1 (T.getD t []).length fun i' j' => if i' = s ∧ 0 ≤ j' ∧ j' < 1 then gl .junk [.int .i64 z] j' else fI (T.getD t []) i' j' else fL true T i' j') (.sl true none 1 (T.set t ((T.getD t []).set s z)).length (fL true (T.set t ((T.getD t []).set s z)))) := by
  refine rowsLe2 (by simp) (fun i hi => ?_)
  by_cases e : i = t
  · subst e
    have e1 : (T.set i ((T.getD i []).set s z)).getD i [] = (T.getD i []).set s z := by
      rw [List.getD_eq_getElem?_getD, List.getElem?_set]; simp [hi]
    rw [if_pos ⟨rfl, rfl⟩, e1]
    refine ALe.of (.inl rfl) (by simp) (fun a ha j hj => ?_)
    obtain rfl : j = 0 := by omega
    by_cases e2 : a = s
    · subst e2
      rw [if_pos ⟨rfl, Nat.le_refl _, Nat.zero_lt_one⟩, fI_at]
      have : ((T.getD i []).set a z).getD a 0 = z := by rw [List.getD_eq_getElem?_getD, List.getElem?_set, if_pos rfl, if_pos ha]; rfl
      rw [this]
      exact .refl _
    · rw [if_neg (fun h => e2 h.1), fI_at, fI_at]
      have : ((T.getD i []).set s z).getD a 0 = (T.getD i []).getD a 0 := by rw [List.getD_eq_getElem?_getD, List.getElem?_set, if_neg (Ne.symm e2), ← List.getD_eq_getElem?_getD]
      rw [this]
      exact .refl _
  · have e1 : (T.set t ((T.getD t []).set s z)).getD i [] = T.getD i [] := by rw [List.getD_eq_getElem?_getD, List.getElem?_set, if_neg (Ne.symm e), ← List.getD_eq_getElem?_getD]
    rw [if_neg (fun h => e h.1), e1]
    exact .refl _
set_option maxHeartbeats 8000000 in
theorem scoreAddC (n : Int) (x : DScore) (t s : Nat) (u v : Bool) (ho : scOk n x) (hok : okScore (2 ^ 40) x) (ht : (t : Int) < n) (hs : (s : Int) < n) (hall : allSum x.table < 9999) : ACalls Try.prog 17 [.one (.int .i64 n), .agg (cScore u v x), .one (.int .i64 t), .one (.int .i64 s)] (fun r => r = .tup [.agg (cScore true true (scAdd x t s)), .one (.bool true)]) := by
  have h47 := okScore_47 hok
  have hn := ho.1.1
  have hlen := ho.1.2.1
  have hrow := ho.1.2.2 t (by omega)
  have hrl := hrow.1
  have htab := hrow.2 s (by omega)
  have hll := hok.2.1
  have nt : Try.f17.ntmps = 65 := rfl
  have rs : Try.f17.results = #[.cell 8 33, .tmp 9] := rfl
  refine ACalls.of_run (m := 400) mixed Try.func17 rfl rfl (Nat.le_of_ble_eq_true rfl) ?_
  simp only [nt, rs]
  clear nt rs
  (try refine am (h := ?_)); (try with_reducible apply True.intro)
  first | refine CallK.one (cloneScoreC x _ _ ⟨hok.1, by have := hok.2.1; omega⟩) (fun _ => amC) ?_ | refine CallE.one (cloneScoreC x _ _ ⟨hok.1, by have := hok.2.1; omega⟩) (fun _ => amC) rfl ?_ | refine CallG.one rfl (fun hg => cloneScoreC x _ _ ⟨hok.1, by have := hok.2.1; omega⟩) ?_ | refine CallEG.one rfl rfl (fun hg => cloneScoreC x _ _ ⟨hok.1, by have := hok.2.1; omega⟩) ?_ | refine CallCE.one (cloneScoreC x _ _ ⟨hok.1, by have := hok.2.1; omega⟩) (fun _ => amC) rfl ?_
  (try refine am (h := ?_)); (try with_reducible apply True.intro)
  repeat' (first | (with_reducible refine And.intro ?_ ?_) | (with_reducible intro _))
  all_goals try (first | omega | with_reducible rfl | ((with_reducible refine eqId ?_); exact rfl) | with_reducible (first | assumption | exact pl ‹_› | exact pr ‹_› | exact plr ‹_› | exact pll ‹_› | exact prl ‹_› | exact plll ‹_› | exact prll ‹_›))
  first | refine CallK.one (implScoreOk n x _ _ h47) (fun _ => amC) ?_ | refine CallE.one (implScoreOk n x _ _ h47) (fun _ => amC) rfl ?_ | refine CallG.one rfl (fun hg => implScoreOk n x _ _ h47) ?_ | refine CallEG.one rfl rfl (fun hg => implScoreOk n x _ _ h47) ?_ | refine CallCE.one (implScoreOk n x _ _ h47) (fun _ => amC) rfl ?_
  (try refine am (h := ?_)); (try with_reducible apply True.intro)
  rw [scoreOk_true ho]
  repeat' (first | (with_reducible refine And.intro ?_ ?_) | (with_reducible intro _))
  all_goals try (first | omega | with_reducible rfl | ((with_reducible refine eqId ?_); exact rfl) | with_reducible (first | assumption | exact pl ‹_› | exact pr ‹_› | exact plr ‹_› | exact pll ‹_› | exact prl ‹_› | exact plll ‹_› | exact prll ‹_›))
  first | refine CallG.one rfl (fun hg => within t 0 (n - 1)) ?_ | refine CallEG.one rfl rfl (fun hg => within t 0 (n - 1)) ?_
  (try refine am (h := ?_)); (try with_reducible apply True.intro)
  repeat' (first | (with_reducible refine And.intro ?_ ?_) | (with_reducible intro _))
  all_goals try (first | omega | with_reducible rfl | ((with_reducible refine eqId ?_); exact rfl) | with_reducible (first | assumption | exact pl ‹_› | exact pr ‹_› | exact plr ‹_› | exact pll ‹_› | exact prl ‹_› | exact plll ‹_› | exact prll ‹_›))
  rw [decide_eq_true (show (t : Int) ≤ n - 1 by omega)]
  first | refine CallG.one rfl (fun hg => within s 0 (n - 1)) ?_ | refine CallEG.one rfl rfl (fun hg => within s 0 (n - 1)) ?_
  (try refine am (h := ?_)); (try with_reducible apply True.intro)
  repeat' (first | (with_reducible refine And.intro ?_ ?_) | (with_reducible intro _))
  all_goals try (first | omega | with_reducible rfl | ((with_reducible refine eqId ?_); exact rfl) | with_reducible (first | assumption | exact pl ‹_› | exact pr ‹_› | exact plr ‹_› | exact pll ‹_› | exact prl ‹_› | exact plll ‹_› | exact prll ‹_›))
  rw [decide_eq_true (show (s : Int) ≤ n - 1 by omega)]
  have hall2 : ¬ allSum x.table = 9999 := by omega
  first | refine CallG.one rfl (fun hg => tableSumC n x.table _ _ hn.2 (by omega) ho.1.2.2) ?_ | refine CallEG.one rfl rfl (fun hg => tableSumC n x.table _ _ hn.2 (by omega) ho.1.2.2) ?_
  (try refine am (h := ?_)); (try with_reducible apply True.intro)
  repeat' (first | (with_reducible refine And.intro ?_ ?_) | (with_reducible intro _))
  all_goals try (first | omega | with_reducible rfl | ((with_reducible refine eqId ?_); exact rfl) | with_reducible (first | assumption | exact pl ‹_› | exact pr ‹_› | exact plr ‹_› | exact pll ‹_› | exact prl ‹_› | exact plll ‹_› | exact prll ‹_›))
  · first | refine CallK.take (c_delPA (l := x.last) (p := ⟨(t : Int), (s : Int)⟩)) ?ta1 ?tb1 ?tc1 ?td1 | refine CallE.take (c_delPA (l := x.last) (p := ⟨(t : Int), (s : Int)⟩)) ?ta1 ?tb1 ?tc1 ?td1
    case ta1 => first | exact rfl | (simp only [St.H, lk_cons, AV.at, Nat.lt_irrefl, gl, beq_self, cond_true, reduceIte, false_and, and_false, true_and, and_true, if_false, if_true, Nat.le_refl, Nat.zero_lt_one]; first | done | exact rfl) | (simp [St.H, lk_cons, AV.at, gl]; done)
    case tb1 => exact rfl
    case tc1 => exact rfl
    (try refine am (h := ?_)); (try with_reducible apply True.intro)
    repeat' (first | (with_reducible refine And.intro ?_ ?_) | (with_reducible intro _))
    all_goals try (first | omega | with_reducible rfl | ((with_reducible refine eqId ?_); exact rfl) | with_reducible (first | assumption | exact pl ‹_› | exact pr ‹_› | exact plr ‹_› | exact pll ‹_› | exact prl ‹_› | exact plll ‹_› | exact prll ‹_›))
    refine FinK.tup ?_ ?_
    all_goals (try refine amF (h := ?_))
    all_goals (try with_reducible apply True.intro)
    have e : (scAdd x t s).last = (x.last ++ [(⟨(t : Int), (s : Int)⟩ : DPair)]).drop 1 := if_pos (by omega)
    rw [e]
    exact ⟨tabLe (by omega), .refl _⟩
  · refine FinK.tup ?_ ?_
    all_goals (try refine amF (h := ?_))
    all_goals (try with_reducible apply True.intro)
    have e : (scAdd x t s).last = x.last ++ [(⟨(t : Int), (s : Int)⟩ : DPair)] := if_neg (by omega)
    rw [e]
    exact ⟨tabLe (by omega), appLe1 rfl rfl (.inl rfl)⟩
end Go.AM
namespace Go.AM
open Go Go.Proofs
set_option maxRecDepth 100000
set_option maxHeartbeats 2000000 in
theorem gcdC (a b : Nat) (ha : a ≤ 2 ^ 60) (hb : b ≤ 2 ^ 60) : ACalls Try.prog 115 [.one (.int .i64 a), .one (.int .i64 b)] (fun r => r = .val (.one (.int .i64 (Nat.gcd a b : Nat)))) := by
  have nt : Try.f115.ntmps = 18 := rfl
  have rs : Try.f115.results = #[.tmp 4] := rfl
  refine ACalls.of_run (m := 400) mixed Try.func115 rfl rfl (Nat.le_of_ble_eq_true rfl) ?_
  simp only [nt, rs]
  clear nt rs
  (try refine am (h := ?_)); (try with_reducible apply True.intro)
  repeat' (first | (with_reducible refine And.intro ?_ ?_) | (with_reducible intro _))
  all_goals try (first | omega | with_reducible rfl | ((with_reducible refine eqId ?_); exact rfl) | with_reducible (first | assumption | exact pl ‹_› | exact pr ‹_› | exact plr ‹_› | exact pll ‹_› | exact prl ‹_› | exact plll ‹_› | exact prll ‹_›))
  refine LoopK.auto ((Nat × Nat)) (fun x => [(0, .one (.av (.int .i64 x.1))), (1, .one (.av (.int .i64 x.2)))]) (fun x => []) [] (k0 := ?k01) (keepH := ?kh1) 400 (fun x => (x.1 ≤ 2 ^ 60 ∧ x.2 ≤ 2 ^ 60) ∧ Nat.gcd x.1 x.2 = Nat.gcd a b) (fun x => x.2) ((a, b)) ?kea1 ?keb1 ?_ ?_ ?_
  case kea1 => exact amN
  case keb1 => exact amN
  · exact ⟨⟨ha, hb⟩, rfl⟩
  · refine Le.auto [] (r0 := ?r01) (ren := ?ren1) ?ea1 ?eb1 ?a1 ?b1 ?c1 ?d1 ?ho1 ?hn1 ?ht1
    case ea1 => exact amR
    case eb1 => exact amR
    case a1 => exact rfl
    case b1 => exact rfl
    case c1 => exact rfl
    case d1 => exact rfl
    all_goals (try refine amL (h := ?_))
    all_goals (try with_reducible apply True.intro)
    all_goals first | rfl | exact ⟨rfl, rfl⟩
  · rintro ⟨x, y⟩ ⟨⟨hx, hy⟩, hg⟩
    dsimp only at hx hy hg ⊢
    have hm : ((x : Int).tmod (y : Int)) = ((x % y : Nat) : Int) := (Int.ofNat_tmod x y).symm
    by_cases h0 : y = 0
    · subst h0
      (try refine am (h := ?_)); (try with_reducible apply True.intro)
      repeat' (first | (with_reducible refine And.intro ?_ ?_) | (with_reducible intro _))
      all_goals try (first | omega | with_reducible rfl | ((with_reducible refine eqId ?_); exact rfl) | with_reducible (first | assumption | exact pl ‹_› | exact pr ‹_› | exact plr ‹_› | exact pll ‹_› | exact prl ‹_› | exact plll ‹_› | exact prll ‹_›))
      refine FinK.val1 ?_ ?_
      all_goals (try refine amF (h := ?_))
      all_goals (try with_reducible apply True.intro)
      rw [← hg, Nat.gcd_zero_right]
    · have hlt := Nat.mod_lt x (Nat.pos_of_ne_zero h0)
      (try refine am (h := ?_)); (try with_reducible apply True.intro)
      repeat' (first | (with_reducible refine And.intro ?_ ?_) | (with_reducible intro _))
      all_goals try (first | omega | with_reducible rfl | ((with_reducible refine eqId ?_); exact rfl) | with_reducible (first | assumption | exact pl ‹_› | exact pr ‹_› | exact plr ‹_› | exact pll ‹_› | exact prl ‹_› | exact plll ‹_› | exact prll ‹_›))
      refine ⟨(y, x % y), ?_, ⟨⟨hy, by simp only; omega⟩, ?_⟩, hlt⟩
      · refine Le.auto [] (r0 := ?r02) (ren := ?ren2) ?ea2 ?eb2 ?a2 ?b2 ?c2 ?d2 ?ho2 ?hn2 ?ht2
        case ea2 => exact amR
        case eb2 => exact amR
        case a2 => exact rfl
        case b2 => exact rfl
        case c2 => exact rfl
        case d2 => exact rfl
        all_goals (try refine amL (h := ?_))
        all_goals (try with_reducible apply True.intro)
        all_goals first | rfl | exact ⟨rfl, hm⟩
      · simp only
        rw [← hg, Nat.gcd_comm x y, Nat.gcd_rec y x, Nat.gcd_comm]
set_option maxHeartbeats 2000000 in
theorem fracOkC (a b : Int) : ACalls Try.prog 114 [.agg [.int .i64 a, .int .i64 b]] (fun r => r = .val (.one (.bool (decide ((0 ≤ a ∧ a ≤ 4000000000000000) ∧ 1 ≤ b ∧ b ≤ 4000000000000000))))) := by
  have nt : Try.f114.ntmps = 11 := rfl
  have rs : Try.f114.results = #[.tmp 2] := rfl
  refine ACalls.of_run (m := 400) mixed Try.func114 rfl rfl (Nat.le_of_ble_eq_true rfl) ?_
  simp only [nt, rs]
  clear nt rs
  (try refine am (h := ?_)); (try with_reducible apply True.intro)
  repeat' (first | (with_reducible refine And.intro ?_ ?_) | (with_reducible intro _))
  all_goals try (first | omega | with_reducible rfl | ((with_reducible refine eqId ?_); exact rfl) | with_reducible (first | assumption | exact pl ‹_› | exact pr ‹_› | exact plr ‹_› | exact pll ‹_› | exact prl ‹_› | exact plll ‹_› | exact prll ‹_›))
  first | refine CallK.one (within a 0 4000000000000000) (fun _ => amC) ?_ | refine CallE.one (within a 0 4000000000000000) (fun _ => amC) rfl ?_ | refine CallG.one rfl (fun hg => within a 0 4000000000000000) ?_ | refine CallEG.one rfl rfl (fun hg => within a 0 4000000000000000) ?_ | refine CallCE.one (within a 0 4000000000000000) (fun _ => amC) rfl ?_
  (try refine am (h := ?_)); (try with_reducible apply True.intro)
  repeat' (first | (with_reducible refine And.intro ?_ ?_) | (with_reducible intro _))
  all_goals try (first | omega | with_reducible rfl | ((with_reducible refine eqId ?_); exact rfl) | with_reducible (first | assumption | exact pl ‹_› | exact pr ‹_› | exact plr ‹_› | exact pll ‹_› | exact prl ‹_› | exact plll ‹_› | exact prll ‹_›))
  first | refine CallG.one rfl (fun hg => within b 1 4000000000000000) ?_ | refine CallEG.one rfl rfl (fun hg => within b 1 4000000000000000) ?_
  (try refine am (h := ?_)); (try with_reducible apply True.intro)
  repeat' (first | (with_reducible refine And.intro ?_ ?_) | (with_reducible intro _))
  all_goals try (first | omega | with_reducible rfl | ((with_reducible refine eqId ?_); exact rfl) | with_reducible (first | assumption | exact pl ‹_› | exact pr ‹_› | exact plr ‹_› | exact pll ‹_› | exact prl ‹_› | exact plll ‹_› | exact prll ‹_›))
  refine FinK.val1 ?_ ?_
  all_goals (try refine amF (h := ?_))
  all_goals (try with_reducible apply True.intro)
set_option maxHeartbeats 2000000 in
theorem fracLowC (a b : Nat) (ha : a ≤ 2 ^ 40) (hb : b ≤ 2 ^ 40) (hb0 : 0 < b) : ACalls Try.prog 94 [.agg [.int .i64 a, .int .i64 b]] (fun r => r = .val (.agg [.int .i64 ((a / Nat.gcd a b : Nat) : Int), .int .i64 ((b / Nat.gcd a b : Nat) : Int)])) := by
  have hg : 0 < Nat.gcd a b := Nat.gcd_pos_of_pos_right a hb0
  have e1 : (a : Int).tdiv (Nat.gcd a b : Nat) = ((a / Nat.gcd a b : Nat) : Int) := (Int.ofNat_tdiv _ _).symm
  have e2 : (b : Int).tdiv (Nat.gcd a b : Nat) = ((b / Nat.gcd a b : Nat) : Int) := (Int.ofNat_tdiv _ _).symm
  have h1 : a / Nat.gcd a b ≤ a := Nat.div_le_self _ _
  have h2 : b / Nat.gcd a b ≤ b := Nat.div_le_self _ _
  have h3 : (0 : Int) ≤ ((a / Nat.gcd a b : Nat) : Int) := Int.natCast_nonneg _
  have h4 : (0 : Int) ≤ ((b / Nat.gcd a b : Nat) : Int) := Int.natCast_nonneg _
  have nt : Try.f94.ntmps = 22 := rfl
  have rs : Try.f94.results = #[.cell 2 38] := rfl
  refine ACalls.of_run (m := 400) mixed Try.func94 rfl rfl (Nat.le_of_ble_eq_true rfl) ?_
  simp only [nt, rs]
  clear nt rs
  (try refine am (h := ?_)); (try with_reducible apply True.intro)
  first | refine CallK.one (fracOkC a b) (fun _ => amC) ?_ | refine CallE.one (fracOkC a b) (fun _ => amC) rfl ?_ | refine CallG.one rfl (fun hg => fracOkC a b) ?_ | refine CallEG.one rfl rfl (fun hg => fracOkC a b) ?_ | refine CallCE.one (fracOkC a b) (fun _ => amC) rfl ?_
  (try refine am (h := ?_)); (try with_reducible apply True.intro)
  repeat' (first | (with_reducible refine And.intro ?_ ?_) | (with_reducible intro _))
  all_goals try (first | omega | with_reducible rfl | ((with_reducible refine eqId ?_); exact rfl) | with_reducible (first | assumption | exact pl ‹_› | exact pr ‹_› | exact plr ‹_› | exact pll ‹_› | exact prl ‹_› | exact plll ‹_› | exact prll ‹_›))
  first | refine CallK.one (gcdC a b (by omega) (by omega)) (fun _ => amC) ?_ | refine CallE.one (gcdC a b (by omega) (by omega)) (fun _ => amC) rfl ?_ | refine CallG.one rfl (fun hg => gcdC a b (by omega) (by omega)) ?_ | refine CallEG.one rfl rfl (fun hg => gcdC a b (by omega) (by omega)) ?_ | refine CallCE.one (gcdC a b (by omega) (by omega)) (fun _ => amC) rfl ?_
  (try refine am (h := ?_)); (try with_reducible apply True.intro)
  (try refine am (h := ?_)); (try simp only [e1, e2]); (try refine am (h := ?_)); (try with_reducible apply True.intro)
  repeat' (first | (with_reducible refine And.intro ?_ ?_) | (with_reducible intro _))
  all_goals try (first | omega | with_reducible rfl | ((with_reducible refine eqId ?_); exact rfl) | with_reducible (first | assumption | exact pl ‹_› | exact pr ‹_› | exact plr ‹_› | exact pll ‹_› | exact prl ‹_› | exact plll ‹_› | exact prll ‹_›))
  refine FinK.cell1 ?_ ?_ ?_
  all_goals (try refine amF (h := ?_))
  all_goals (try with_reducible apply True.intro)
def shN (a b : Nat) : Int := if b = 0 then 0 else ((a / Nat.gcd a b : Nat) : Int)
def shD (a b : Nat) : Int := if b = 0 then 1 else ((b / Nat.gcd a b : Nat) : Int)
theorem sh_mul {a b : Nat} (hb : 0 < b) : shN a b * b = a * shD a b ∧ 1 ≤ shD a b := by
  have hg : 0 < Nat.gcd a b := Nat.gcd_pos_of_pos_right a hb
  obtain ⟨p, hp⟩ := Nat.gcd_dvd_left a b
  obtain ⟨q, hq⟩ := Nat.gcd_dvd_right a b
  have e1 : a / Nat.gcd a b = p := by
    conv => lhs; lhs; rw [hp]
    exact Nat.mul_div_cancel_left _ hg
  have e2 : b / Nat.gcd a b = q := by
    conv => lhs; lhs; rw [hq]
    exact Nat.mul_div_cancel_left _ hg
  unfold shN shD
  rw [if_neg (by omega), if_neg (by omega), e1, e2]
  have hq0 : 0 < q := Nat.pos_of_ne_zero (fun h => by rw [h, Nat.mul_zero] at hq; omega)
  refine ⟨?_, by omega⟩
  have : p * b = a * q := by
    conv => lhs; rw [hq]
    conv => rhs; rw [hp]
    rw [Nat.mul_comm (Nat.gcd a b) q, ← Nat.mul_assoc, Nat.mul_comm, ← Nat.mul_assoc]
  exact_mod_cast this
theorem sh_bd (a b : Nat) : 0 ≤ shN a b ∧ shN a b ≤ a ∧ 0 ≤ shD a b ∧ shD a b ≤ b + 1 := by
  have h1 : a / Nat.gcd a b ≤ a := Nat.div_le_self _ _
  have h2 : b / Nat.gcd a b ≤ b := Nat.div_le_self _ _
  have h3 : (0 : Int) ≤ ((a / Nat.gcd a b : Nat) : Int) := Int.natCast_nonneg _
  have h4 : (0 : Int) ≤ ((b / Nat.gcd a b : Nat) : Int) := Int.natCast_nonneg _
  unfold shN shD
  split <;> omega
set_option maxHeartbeats 2000000 in
theorem shareC (a b : Nat) (ha : a ≤ 2 ^ 40) (hb : b ≤ 2 ^ 40) : ACalls Try.prog 57 [.one (.int .i64 a), .one (.int .i64 b)] (fun r => r = .val (.agg [.int .i64 (shN a b), .int .i64 (shD a b)])) := by
  have nt : Try.f57.ntmps = 12 := rfl
  have rs : Try.f57.results = #[.cell 4 38] := rfl
  refine ACalls.of_run (m := 400) mixed Try.func57 rfl rfl (Nat.le_of_ble_eq_true rfl) ?_
  simp only [nt, rs]
  clear nt rs
  (try refine am (h := ?_)); (try with_reducible apply True.intro)
  repeat' (first | (with_reducible refine And.intro ?_ ?_) | (with_reducible intro _))
  all_goals try (first | omega | with_reducible rfl | ((with_reducible refine eqId ?_); exact rfl) | with_reducible (first | assumption | exact pl ‹_› | exact pr ‹_› | exact plr ‹_› | exact pll ‹_› | exact prl ‹_› | exact plll ‹_› | exact prll ‹_›))
  · rename_i h
    have e1 : shN a b = 0 := if_pos (by omega)
    have e2 : shD a b = 1 := if_pos (by omega)
    rw [e1, e2]
    refine FinK.cell1 ?_ ?_ ?_
    all_goals (try refine amF (h := ?_))
    all_goals (try with_reducible apply True.intro)
  · rename_i h
    have e1 : shN a b = ((a / Nat.gcd a b : Nat) : Int) := if_neg (by omega)
    have e2 : shD a b = ((b / Nat.gcd a b : Nat) : Int) := if_neg (by omega)
    rw [e1, e2]
    first | refine CallK.one (fracLowC a b ha hb (by omega)) (fun _ => amC) ?_ | refine CallE.one (fracLowC a b ha hb (by omega)) (fun _ => amC) rfl ?_ | refine CallG.one rfl (fun hg => fracLowC a b ha hb (by omega)) ?_ | refine CallEG.one rfl rfl (fun hg => fracLowC a b ha hb (by omega)) ?_ | refine CallCE.one (fracLowC a b ha hb (by omega)) (fun _ => amC) rfl ?_
    (try refine am (h := ?_)); (try with_reducible apply True.intro)
    repeat' (first | (with_reducible refine And.intro ?_ ?_) | (with_reducible intro _))
    all_goals try (first | omega | with_reducible rfl | ((with_reducible refine eqId ?_); exact rfl) | with_reducible (first | assumption | exact pl ‹_› | exact pr ‹_› | exact plr ‹_› | exact pll ‹_› | exact prl ‹_› | exact plll ‹_› | exact prll ‹_›))
    refine FinK.cell1 ?_ ?_ ?_
    all_goals (try refine amF (h := ?_))
    all_goals (try with_reducible apply True.intro)
set_option maxHeartbeats 2000000 in
theorem countC (n : Int) (x : DScore) (u v : Bool) (ho : scOk n x) (hok : okScore (2 ^ 40) x) : ACalls Try.prog 20 [.one (.int .i64 n), .agg (cScore u v x)] (fun r => r = .val (.one (.int .i64 (allSum x.table)))) := by
  have hn := ho.1.1
  have hlen := ho.1.2.1
  have nt : Try.f20.ntmps = 12 := rfl
  have rs : Try.f20.results = #[.tmp 4] := rfl
  refine ACalls.of_run (m := 400) mixed Try.func20 rfl rfl (Nat.le_of_ble_eq_true rfl) ?_
  simp only [nt, rs]
  clear nt rs
  (try refine am (h := ?_)); (try with_reducible apply True.intro)
  first | refine CallK.one (implScoreOk n x _ _ (okScore_47 hok)) (fun _ => amC) ?_ | refine CallE.one (implScoreOk n x _ _ (okScore_47 hok)) (fun _ => amC) rfl ?_ | refine CallG.one rfl (fun hg => implScoreOk n x _ _ (okScore_47 hok)) ?_ | refine CallEG.one rfl rfl (fun hg => implScoreOk n x _ _ (okScore_47 hok)) ?_ | refine CallCE.one (implScoreOk n x _ _ (okScore_47 hok)) (fun _ => amC) rfl ?_
  (try refine am (h := ?_)); (try with_reducible apply True.intro)
  rw [scoreOk_true ho]
  repeat' (first | (with_reducible refine And.intro ?_ ?_) | (with_reducible intro _))
  all_goals try (first | omega | with_reducible rfl | ((with_reducible refine eqId ?_); exact rfl) | with_reducible (first | assumption | exact pl ‹_› | exact pr ‹_› | exact plr ‹_› | exact pll ‹_› | exact prl ‹_› | exact plll ‹_› | exact prll ‹_›))
  · rename_i h
    cases h
  first | refine CallK.one (tableSumC n x.table _ _ hn.2 (by omega) ho.1.2.2) (fun _ => amC) ?_ | refine CallE.one (tableSumC n x.table _ _ hn.2 (by omega) ho.1.2.2) (fun _ => amC) rfl ?_ | refine CallG.one rfl (fun hg => tableSumC n x.table _ _ hn.2 (by omega) ho.1.2.2) ?_ | refine CallEG.one rfl rfl (fun hg => tableSumC n x.table _ _ hn.2 (by omega) ho.1.2.2) ?_ | refine CallCE.one (tableSumC n x.table _ _ hn.2 (by omega) ho.1.2.2) (fun _ => amC) rfl ?_
  (try refine am (h := ?_)); (try with_reducible apply True.intro)
  repeat' (first | (with_reducible refine And.intro ?_ ?_) | (with_reducible intro _))
  all_goals try (first | omega | with_reducible rfl | ((with_reducible refine eqId ?_); exact rfl) | with_reducible (first | assumption | exact pl ‹_› | exact pr ‹_› | exact plr ‹_› | exact pll ‹_› | exact prl ‹_› | exact plll ‹_› | exact prll ‹_›))
  refine FinK.val1 ?_ ?_
  all_goals (try refine amF (h := ?_))
  all_goals (try with_reducible apply True.intro)
theorem diag_bd {n : Int} {x : DScore} (ho : scOk n x) : ∀ k : Nat, (k : Int) ≤ n → 0 ≤ diag x k ∧ diag x k ≤ 9999 * k
  | 0, _ => by simp [diag]
  | k + 1, h => by
    have := diag_bd ho k (by omega)
    have h2 := rows_tab ho.1.2.1 ho.1.2.2 k k (by omega) (by omega)
    simp only [diag, Int.natCast_add, Int.natCast_one]
    omega
set_option maxHeartbeats 4000000 in
theorem rightC (n : Int) (x : DScore) (u v : Bool) (ho : scOk n x) (hok : okScore (2 ^ 40) x) : ACalls Try.prog 21 [.one (.int .i64 n), .agg (cScore u v x)] (fun r => r = .val (.one (.int .i64 (diag x n.toNat)))) := by
  have hn := ho.1.1
  have hlen := ho.1.2.1
  have nt : Try.f21.ntmps = 27 := rfl
  have rs : Try.f21.results = #[.tmp 4] := rfl
  refine ACalls.of_run (m := 400) mixed Try.func21 rfl rfl (Nat.le_of_ble_eq_true rfl) ?_
  simp only [nt, rs]
  clear nt rs
  (try refine am (h := ?_)); (try with_reducible apply True.intro)
  first | refine CallK.one (implScoreOk n x _ _ (okScore_47 hok)) (fun _ => amC) ?_ | refine CallE.one (implScoreOk n x _ _ (okScore_47 hok)) (fun _ => amC) rfl ?_ | refine CallG.one rfl (fun hg => implScoreOk n x _ _ (okScore_47 hok)) ?_ | refine CallEG.one rfl rfl (fun hg => implScoreOk n x _ _ (okScore_47 hok)) ?_ | refine CallCE.one (implScoreOk n x _ _ (okScore_47 hok)) (fun _ => amC) rfl ?_
  (try refine am (h := ?_)); (try with_reducible apply True.intro)
  rw [scoreOk_true ho]
  repeat' (first | (with_reducible refine And.intro ?_ ?_) | (with_reducible intro _))
  all_goals try (first | omega | with_reducible rfl | ((with_reducible refine eqId ?_); exact rfl) | with_reducible (first | assumption | exact pl ‹_› | exact pr ‹_› | exact plr ‹_› | exact pll ‹_› | exact prl ‹_› | exact plll ‹_› | exact prll ‹_›))
  · rename_i h
    cases h
  refine LoopK.intro (Nat) (fun i => [(5, .one (.av (.int .i64 (diag x i)))), (12, .one (.av (.int .i64 i)))]) (fun i => []) [3, 11] [1] 400 (fun i => (i : Int) ≤ n) (fun i => n.toNat - i) (0) ?_ ?_ ?_
  · exact Int.le_trans (by decide) hn.1
  · refine Le.auto [] (r0 := ?r03) (ren := ?ren3) ?ea3 ?eb3 ?a3 ?b3 ?c3 ?d3 ?ho3 ?hn3 ?ht3
    case ea3 => exact amR
    case eb3 => exact amR
    case a3 => exact rfl
    case b3 => exact rfl
    case c3 => exact rfl
    case d3 => exact rfl
    all_goals (try refine amL (h := ?_))
    all_goals (try with_reducible apply True.intro)
    all_goals first | rfl | exact ⟨rfl, rfl⟩
  · intro i hi
    have hd := diag_bd ho i hi
    by_cases hlt : (i : Int) < n
    · have hrow := ho.1.2.2 i (by omega)
      have hrl := hrow.1
      have htb := hrow.2 i (by omega)
      (try refine am (h := ?_)); (try with_reducible apply True.intro)
      repeat' (first | (with_reducible refine And.intro ?_ ?_) | (with_reducible intro _))
      all_goals try (first | omega | with_reducible rfl | ((with_reducible refine eqId ?_); exact rfl) | with_reducible (first | assumption | exact pl ‹_› | exact pr ‹_› | exact plr ‹_› | exact pll ‹_› | exact prl ‹_› | exact plll ‹_› | exact prll ‹_›))
      refine ⟨i + 1, ?_, by omega, by omega⟩
      refine Le.auto [] (r0 := ?r04) (ren := ?ren4) ?ea4 ?eb4 ?a4 ?b4 ?c4 ?d4 ?ho4 ?hn4 ?ht4
      case ea4 => exact amR
      case eb4 => exact amR
      case a4 => exact rfl
      case b4 => exact rfl
      case c4 => exact rfl
      case d4 => exact rfl
      all_goals (try refine amL (h := ?_))
      all_goals (try with_reducible apply True.intro)
      all_goals first | rfl | exact ⟨rfl, rfl⟩
    · have ei : i = n.toNat := by omega
      (try refine am (h := ?_)); (try with_reducible apply True.intro)
      repeat' (first | (with_reducible refine And.intro ?_ ?_) | (with_reducible intro _))
      all_goals try (first | omega | with_reducible rfl | ((with_reducible refine eqId ?_); exact rfl) | with_reducible (first | assumption | exact pl ‹_› | exact pr ‹_› | exact plr ‹_› | exact pll ‹_› | exact prl ‹_› | exact plll ‹_› | exact prll ‹_›))
      refine FinK.val1 ?_ ?_
      all_goals (try refine amF (h := ?_))
      all_goals (try with_reducible apply True.intro)
      rw [ei]
set_option maxHeartbeats 4000000 in
theorem lastRightC (n : Int) (x : DScore) (u v : Bool) (ho : scOk n x) (hok : okScore (2 ^ 40) x) : ACalls Try.prog 22 [.one (.int .i64 n), .agg (cScore u v x)] (fun r => r = .val (.one (.int .i64 (eqc x.last)))) := by
  have hn := ho.1.1
  have hll := hok.2.1
  have nt : Try.f22.ntmps = 28 := rfl
  have rs : Try.f22.results = #[.tmp 4] := rfl
  refine ACalls.of_run (m := 400) mixed Try.func22 rfl rfl (Nat.le_of_ble_eq_true rfl) ?_
  simp only [nt, rs]
  clear nt rs
  (try refine am (h := ?_)); (try with_reducible apply True.intro)
  first | refine CallK.one (implScoreOk n x _ _ (okScore_47 hok)) (fun _ => amC) ?_ | refine CallE.one (implScoreOk n x _ _ (okScore_47 hok)) (fun _ => amC) rfl ?_ | refine CallG.one rfl (fun hg => implScoreOk n x _ _ (okScore_47 hok)) ?_ | refine CallEG.one rfl rfl (fun hg => implScoreOk n x _ _ (okScore_47 hok)) ?_ | refine CallCE.one (implScoreOk n x _ _ (okScore_47 hok)) (fun _ => amC) rfl ?_
  (try refine am (h := ?_)); (try with_reducible apply True.intro)
  rw [scoreOk_true ho]
  repeat' (first | (with_reducible refine And.intro ?_ ?_) | (with_reducible intro _))
  all_goals try (first | omega | with_reducible rfl | ((with_reducible refine eqId ?_); exact rfl) | with_reducible (first | assumption | exact pl ‹_› | exact pr ‹_› | exact plr ‹_› | exact pll ‹_› | exact prl ‹_› | exact plll ‹_› | exact prll ‹_›))
  · rename_i h
    cases h
  refine LoopK.auto (Nat) (fun i => [(5, .one (.av (.int .i64 (eqc (x.last.take i))))), (15, .one (.av (.int .i64 i)))]) (fun i => []) [13, 14] (k0 := ?k02) (keepH := ?kh2) 400 (fun i => i ≤ x.last.length) (fun i => x.last.length - i) (0) ?kea2 ?keb2 ?_ ?_ ?_
  case kea2 => exact amN
  case keb2 => exact amN
  · exact Nat.zero_le _
  · refine Le.auto [] (r0 := ?r05) (ren := ?ren5) ?ea5 ?eb5 ?a5 ?b5 ?c5 ?d5 ?ho5 ?hn5 ?ht5
    case ea5 => exact amR
    case eb5 => exact amR
    case a5 => exact rfl
    case b5 => exact rfl
    case c5 => exact rfl
    case d5 => exact rfl
    all_goals (try refine amL (h := ?_))
    all_goals (try with_reducible apply True.intro)
    all_goals first | rfl | exact ⟨rfl, rfl⟩
  · intro i hi
    have hb := eqc_bd (x.last.take i)
    have hbl : (x.last.take i).length ≤ x.last.length := by simp; omega
    (try refine am (h := ?_)); (try with_reducible apply True.intro)
    repeat' (first | (with_reducible refine And.intro ?_ ?_) | (with_reducible intro _))
    all_goals try (first | omega | with_reducible rfl | ((with_reducible refine eqId ?_); exact rfl) | with_reducible (first | assumption | exact pl ‹_› | exact pr ‹_› | exact plr ‹_› | exact pll ‹_› | exact prl ‹_› | exact plll ‹_› | exact prll ‹_›))
    · rename_i hlt he
      refine ⟨i + 1, ?_, by omega, by omega⟩
      refine Le.auto [] (r0 := ?r06) (ren := ?ren6) ?ea6 ?eb6 ?a6 ?b6 ?c6 ?d6 ?ho6 ?hn6 ?ht6
      case ea6 => exact amR
      case eb6 => exact amR
      case a6 => exact rfl
      case b6 => exact rfl
      case c6 => exact rfl
      case d6 => exact rfl
      all_goals (try refine amL (h := ?_))
      all_goals (try with_reducible apply True.intro)
      rw [eqc_take hlt, if_pos he]
      all_goals first | rfl | exact ⟨rfl, rfl⟩
    · rename_i hlt he
      refine ⟨i + 1, ?_, by omega, by omega⟩
      refine Le.auto [] (r0 := ?r07) (ren := ?ren7) ?ea7 ?eb7 ?a7 ?b7 ?c7 ?d7 ?ho7 ?hn7 ?ht7
      case ea7 => exact amR
      case eb7 => exact amR
      case a7 => exact rfl
      case b7 => exact rfl
      case c7 => exact rfl
      case d7 => exact rfl
      all_goals (try refine amL (h := ?_))
      all_goals (try with_reducible apply True.intro)
      rw [eqc_take hlt, if_neg he, Int.add_zero]
      all_goals first | rfl | exact ⟨rfl, rfl⟩
    · refine FinK.val1 ?_ ?_
      all_goals (try refine amF (h := ?_))
      all_goals (try with_reducible apply True.intro)
      have : i = x.last.length := by omega
      rw [this, List.take_length]
set_option maxHeartbeats 4000000 in
theorem accuracyC (n : Int) (x : DScore) (u v : Bool) (ho : scOk n x) (hok : okScore (2 ^ 40) x) (a b : Nat) (ha : diag x n.toNat = a) (hb : allSum x.table = b) (ha2 : a ≤ 2 ^ 40) (hb2 : b ≤ 2 ^ 40) : ACalls Try.prog 18 [.one (.int .i64 n), .agg (cScore u v x)] (fun r => r = .val (.agg [.int .i64 (shN a b), .int .i64 (shD a b)])) := by
  have nt : Try.f18.ntmps = 17 := rfl
  have rs : Try.f18.results = #[.cell 4 38] := rfl
  refine ACalls.of_run (m := 400) mixed Try.func18 rfl rfl (Nat.le_of_ble_eq_true rfl) ?_
  simp only [nt, rs]
  clear nt rs
  (try refine am (h := ?_)); (try with_reducible apply True.intro)
  first | refine CallK.one (implScoreOk n x _ _ (okScore_47 hok)) (fun _ => amC) ?_ | refine CallE.one (implScoreOk n x _ _ (okScore_47 hok)) (fun _ => amC) rfl ?_ | refine CallG.one rfl (fun hg => implScoreOk n x _ _ (okScore_47 hok)) ?_ | refine CallEG.one rfl rfl (fun hg => implScoreOk n x _ _ (okScore_47 hok)) ?_ | refine CallCE.one (implScoreOk n x _ _ (okScore_47 hok)) (fun _ => amC) rfl ?_
  (try refine am (h := ?_)); (try with_reducible apply True.intro)
  rw [scoreOk_true ho]
  repeat' (first | (with_reducible refine And.intro ?_ ?_) | (with_reducible intro _))
  all_goals try (first | omega | with_reducible rfl | ((with_reducible refine eqId ?_); exact rfl) | with_reducible (first | assumption | exact pl ‹_› | exact pr ‹_› | exact plr ‹_› | exact pll ‹_› | exact prl ‹_› | exact plll ‹_› | exact prll ‹_›))
  · rename_i h
    cases h
  refine CallE.one (rightC n x _ _ ho hok) (fun _ => amC) rfl ?_
  (try refine am (h := ?_)); (try with_reducible apply True.intro)
  repeat' (first | (with_reducible refine And.intro ?_ ?_) | (with_reducible intro _))
  all_goals try (first | omega | with_reducible rfl | ((with_reducible refine eqId ?_); exact rfl) | with_reducible (first | assumption | exact pl ‹_› | exact pr ‹_› | exact plr ‹_› | exact pll ‹_› | exact prl ‹_› | exact plll ‹_› | exact prll ‹_›))
  refine CallE.one (countC n x _ _ ho hok) (fun _ => amC) rfl ?_
  (try refine am (h := ?_)); (try with_reducible apply True.intro)
  rw [ha, hb]
  repeat' (first | (with_reducible refine And.intro ?_ ?_) | (with_reducible intro _))
  all_goals try (first | omega | with_reducible rfl | ((with_reducible refine eqId ?_); exact rfl) | with_reducible (first | assumption | exact pl ‹_› | exact pr ‹_› | exact plr ‹_› | exact pll ‹_› | exact prl ‹_› | exact plll ‹_› | exact prll ‹_›))
  refine CallE.one (shareC a b ha2 hb2) (fun _ => amC) rfl ?_
  (try refine am (h := ?_)); (try with_reducible apply True.intro)
  repeat' (first | (with_reducible refine And.intro ?_ ?_) | (with_reducible intro _))
  all_goals try (first | omega | with_reducible rfl | ((with_reducible refine eqId ?_); exact rfl) | with_reducible (first | assumption | exact pl ‹_› | exact pr ‹_› | exact plr ‹_› | exact pll ‹_› | exact prl ‹_› | exact plll ‹_› | exact prll ‹_›))
  refine FinK.cell1 ?_ ?_ ?_
  all_goals (try refine amF (h := ?_))
  all_goals (try with_reducible apply True.intro)
end Go.AM
