/- Lemmas for the proof of this claim. -/
import Derived.Test.YtbfofhfeghfpoaaSco
import Derived.Test.YtbfofhfeghfpoaaSco0
import Derived.Test.YtbfofhfeghfpoaaDrw
namespace Go.AM
open Go Go.Proofs
set_option maxRecDepth 100000
theorem scoreNew_inv {n : Int} (h : 2 ≤ n ∧ n ≤ 3) (m : Nat) : ScInv n m [] (scoreNew n) := by
  have e : n = 2 ∨ n = 3 := by omega
  have key : ∀ k : Nat, k = 2 ∨ k = 3 → ScInv (k : Int) m [] (scoreNew k) := by
    intro k hk
    have es : scoreNew (k : Int) = ⟨List.replicate k (List.replicate k 0), []⟩ := if_pos (by omega)
    rw [es]
    rcases hk with rfl | rfl
    · refine ⟨⟨⟨by omega, rfl, fun i hi => ?_⟩, fun i j hi hj => ?_, ⟨by decide, by decide⟩, fun i hi => by simp at hi⟩, rfl, rfl, rfl⟩
      · rcases (show i = 0 ∨ i = 1 by simp at hi; omega) with rfl | rfl <;> refine ⟨rfl, fun j hj => ?_⟩ <;> rcases (show j = 0 ∨ j = 1 by simp at hj; omega) with rfl | rfl <;> decide
      · rcases (show i = 0 ∨ i = 1 by omega) with rfl | rfl <;> rcases (show j = 0 ∨ j = 1 by omega) with rfl | rfl <;> decide
    · refine ⟨⟨⟨by omega, rfl, fun i hi => ?_⟩, fun i j hi hj => ?_, ⟨by decide, by decide⟩, fun i hi => by simp at hi⟩, rfl, rfl, rfl⟩
      · rcases (show i = 0 ∨ i = 1 ∨ i = 2 by simp at hi; omega) with rfl | rfl | rfl <;> refine ⟨rfl, fun j hj => ?_⟩ <;> rcases (show j = 0 ∨ j = 1 ∨ j = 2 by simp at hj; omega) with rfl | rfl | rfl <;> decide
      · rcases (show i = 0 ∨ i = 1 ∨ i = 2 by omega) with rfl | rfl | rfl <;> rcases (show j = 0 ∨ j = 1 ∨ j = 2 by omega) with rfl | rfl | rfl <;> decide
  rcases e with rfl | rfl
  · exact key 2 (.inl rfl)
  · exact key 3 (.inr rfl)
theorem scLe {A B A' B' : AV} {C : Nat → Nat → AV} (h1 : ALe A A') (h2 : ALe B B') : ALe (.sl true none 2 1 fun i' j' => if i' = 0 ∧ 0 ≤ j' ∧ j' < 2 then gl .junk [A, B] j' else C i' j') (.sl true none 2 1 fun _ j => gl .junk [A', B'] j) := by
  refine ALe.of (.inl rfl) rfl (fun i hi j hj => ?_)
  rw [if_pos ⟨by omega, Nat.zero_le _, hj⟩]
  rcases (show j = 0 ∨ j = 1 by omega) with rfl | rfl
  · exact h1
  · exact h2
set_option maxHeartbeats 8000000 in
theorem fnScored (code : List UInt8) (h : code.length ≤ 2 ^ 47 ∧ ∀ x ∈ code, True) : ACalls Try.prog 4 [.one (aB false code)] (fun r => r = .val (.one (.bool true))) := by
  obtain ⟨h, _⟩ := h
  have nt : Try.f4.ntmps = 109 := rfl
  have rs : Try.f4.results = #[.tmp 2] := rfl
  refine ACalls.of_runC (m := 400) mixed Try.func4 rfl rfl (Nat.le_of_ble_eq_true rfl) ?_
  simp only [nt, rs]
  clear nt rs
  (try refine am (h := ?_)); (try with_reducible apply True.intro)
  first | refine CallK.one (lawsBig code h _) (fun _ => amC) ?_ | refine CallE.one (lawsBig code h _) (fun _ => amC) rfl ?_ | refine CallG.one rfl (fun hg => lawsBig code h _) ?_ | refine CallEG.one rfl rfl (fun hg => lawsBig code h _) ?_ | refine CallCE.one (lawsBig code h _) (fun _ => amC) rfl ?_
  (try refine am (h := ?_)); (try with_reducible apply True.intro)
  repeat' (first | (with_reducible refine And.intro ?_ ?_) | (with_reducible intro _))
  all_goals try (first | omega | with_reducible rfl | ((with_reducible refine eqId ?_); exact rfl) | with_reducible (first | assumption | exact pl ‹_› | exact pr ‹_› | exact plr ‹_› | exact pll ‹_› | exact prl ‹_› | exact plll ‹_› | exact prll ‹_›))
  · refine FinK.val1 ?_ ?_
    all_goals (try refine amF (h := ?_))
    all_goals (try with_reducible apply True.intro)
  refine CallK.ex (at0C code 0 h (by omega) false) (fun _ _ _ => amC) ?_
  rintro z1 hz1
  (try refine am (h := ?_)); (try with_reducible apply True.intro)
  have hm1 : 0 ≤ z1.tmod 2 ∧ z1.tmod 2 ≤ 1 := by rw [Int.tmod_eq_emod_of_nonneg hz1.1]; omega
  repeat' (first | (with_reducible refine And.intro ?_ ?_) | (with_reducible intro _))
  all_goals try (first | omega | with_reducible rfl | ((with_reducible refine eqId ?_); exact rfl) | with_reducible (first | assumption | exact pl ‹_› | exact pr ‹_› | exact plr ‹_› | exact pll ‹_› | exact prl ‹_› | exact plll ‹_› | exact prll ‹_›))
  refine CallK.ex (at0C code 1 h (by omega) false) (fun _ _ _ => amC) ?_
  rintro z2 hz2
  (try refine am (h := ?_)); (try with_reducible apply True.intro)
  have hm2 : 0 ≤ z2.tmod 50 ∧ z2.tmod 50 ≤ 49 := by rw [Int.tmod_eq_emod_of_nonneg hz2.1]; omega
  obtain ⟨m, hm⟩ := Int.eq_ofNat_of_zero_le hm2.1
  rw [hm] at hm2 ⊢
  have hn2 : 2 ≤ 2 + z1.tmod 2 ∧ 2 + z1.tmod 2 ≤ 3 := by omega
  generalize 2 + z1.tmod 2 = n at *
  repeat' (first | (with_reducible refine And.intro ?_ ?_) | (with_reducible intro _))
  all_goals try (first | omega | with_reducible rfl | ((with_reducible refine eqId ?_); exact rfl) | with_reducible (first | assumption | exact pl ‹_› | exact pr ‹_› | exact plr ‹_› | exact pll ‹_› | exact prl ‹_› | exact plll ‹_› | exact prll ‹_›))
  first | refine CallK.one (implScoreNew n) (fun _ => amC) ?_ | refine CallE.one (implScoreNew n) (fun _ => amC) rfl ?_ | refine CallG.one rfl (fun hg => implScoreNew n) ?_ | refine CallEG.one rfl rfl (fun hg => implScoreNew n) ?_ | refine CallCE.one (implScoreNew n) (fun _ => amC) rfl ?_
  (try refine am (h := ?_)); (try with_reducible apply True.intro)
  have hnew := scoreNew_inv hn2 m
  repeat' (first | (with_reducible refine And.intro ?_ ?_) | (with_reducible intro _))
  all_goals try (first | omega | with_reducible rfl | ((with_reducible refine eqId ?_); exact rfl) | with_reducible (first | assumption | exact pl ‹_› | exact pr ‹_› | exact plr ‹_› | exact pll ‹_› | exact prl ‹_› | exact plll ‹_› | exact prll ‹_›))
  refine LoopK.auto ((DScore × List DPair)) (fun x => [(8, .one (.av (.int .i64 x.2.length))), (6, .one (.av (.int .i64 (eqc x.2)))), (7, .one (.av (.int .i64 (eqc (x.2.drop (m - 20)))))), (5, .one (.ref 302 [] [0] 0 0))]) (fun x => [(302, ⟨.sl true none 2 1 (fun _ j => gl .junk (cScore true true x.1) j), []⟩)]) [0, 3, 4] (k0 := ?k01) (keepH := ?kh1) 500 (fun x => x.2.length ≤ m ∧ ScInv n m x.2 x.1) (fun x => m - x.2.length) ((scoreNew n, [])) ?kea1 ?keb1 ?_ ?_ ?_
  case kea1 => exact amN
  case keb1 => exact amN
  · exact ⟨Nat.zero_le _, hnew⟩
  · refine Le.auto [] (r0 := ?r01) (ren := ?ren1) ?ea1 ?eb1 ?a1 ?b1 ?c1 ?d1 ?ho1 ?hn1 ?ht1
    case ea1 => exact amR
    case eb1 => exact amR
    case a1 => exact rfl
    case b1 => exact rfl
    case c1 => exact rfl
    case d1 => exact rfl
    all_goals (try refine amL (h := ?_))
    all_goals (try with_reducible apply True.intro)
    · exact scLe (.refl _) (.refl _)
    · exact ⟨rfl, by rw [List.drop_nil]; rfl⟩
  · rintro ⟨x, hs⟩ ⟨hl, hi⟩
    dsimp only at hl hi ⊢
    have hok := scOk_ok hi.ok
    have he := eqc_bd hs
    have he2 := eqc_bd (hs.drop (m - 20))
    have hel : (hs.drop (m - 20)).length ≤ hs.length := by simp
    (try refine am (h := ?_)); (try with_reducible apply True.intro)
    repeat' (first | (with_reducible refine And.intro ?_ ?_) | (with_reducible intro _))
    all_goals try (first | omega | with_reducible rfl | ((with_reducible refine eqId ?_); exact rfl) | with_reducible (first | assumption | exact pl ‹_› | exact pr ‹_› | exact plr ‹_› | exact pll ‹_› | exact prl ‹_› | exact plll ‹_› | exact prll ‹_›))
    · refine CallK.ex (at0C code (2 + hs.length) h (by omega) false) (fun _ _ _ => amC) ?_
      rintro t ht
      (try refine am (h := ?_)); (try with_reducible apply True.intro)
      repeat' (first | (with_reducible refine And.intro ?_ ?_) | (with_reducible intro _))
      all_goals try (first | omega | with_reducible rfl | ((with_reducible refine eqId ?_); exact rfl) | with_reducible (first | assumption | exact pl ‹_› | exact pr ‹_› | exact plr ‹_› | exact pll ‹_› | exact prl ‹_› | exact plll ‹_› | exact prll ‹_›))
      refine CallK.ex (at0C code (60 + hs.length) h (by omega) false) (fun _ _ _ => amC) ?_
      rintro z hz
      (try refine am (h := ?_)); (try with_reducible apply True.intro)
      have hn0 : 0 < n := by omega
      obtain ⟨a, ha⟩ := Int.eq_ofNat_of_zero_le (show 0 ≤ t.tmod n by rw [Int.tmod_eq_emod_of_nonneg ht.1]; exact Int.emod_nonneg _ (by omega))
      obtain ⟨b, hb⟩ := Int.eq_ofNat_of_zero_le (show 0 ≤ z.tmod n by rw [Int.tmod_eq_emod_of_nonneg hz.1]; exact Int.emod_nonneg _ (by omega))
      have ha2 : (a : Int) < n := by rw [← ha, Int.tmod_eq_emod_of_nonneg ht.1]; exact Int.emod_lt_of_pos _ hn0
      have hb2 : (b : Int) < n := by rw [← hb, Int.tmod_eq_emod_of_nonneg hz.1]; exact Int.emod_lt_of_pos _ hn0
      rw [ha, hb]
      have hall := hi.all
      have hst := hi.step ha2 hb2 (by omega)
      have hes := eqc_step hs m ⟨(a : Int), (b : Int)⟩
      have hea := eqc_app hs [⟨(a : Int), (b : Int)⟩]
      repeat' (first | (with_reducible refine And.intro ?_ ?_) | (with_reducible intro _))
      all_goals try (first | omega | with_reducible rfl | ((with_reducible refine eqId ?_); exact rfl) | with_reducible (first | assumption | exact pl ‹_› | exact pr ‹_› | exact plr ‹_› | exact pll ‹_› | exact prl ‹_› | exact plll ‹_› | exact prll ‹_›))
      first | refine CallK.one (scoreAddC n x a b _ _ hi.ok hok ha2 hb2 (by omega)) (fun _ => amC) ?_ | refine CallE.one (scoreAddC n x a b _ _ hi.ok hok ha2 hb2 (by omega)) (fun _ => amC) rfl ?_ | refine CallG.one rfl (fun hg => scoreAddC n x a b _ _ hi.ok hok ha2 hb2 (by omega)) ?_ | refine CallEG.one rfl rfl (fun hg => scoreAddC n x a b _ _ hi.ok hok ha2 hb2 (by omega)) ?_ | refine CallCE.one (scoreAddC n x a b _ _ hi.ok hok ha2 hb2 (by omega)) (fun _ => amC) rfl ?_
      (try refine am (h := ?_)); (try with_reducible apply True.intro)
      repeat' (first | (with_reducible refine And.intro ?_ ?_) | (with_reducible intro _))
      all_goals try (first | omega | with_reducible rfl | ((with_reducible refine eqId ?_); exact rfl) | with_reducible (first | assumption | exact pl ‹_› | exact pr ‹_› | exact plr ‹_› | exact pll ‹_› | exact prl ‹_› | exact plll ‹_› | exact prll ‹_›))
      · rename_i h1 h2
        have e1 : eqc (hs ++ [(⟨(a : Int), (b : Int)⟩ : DPair)]) = eqc hs + 1 := by rw [hea]; simp only [eqc]; rw [if_pos (by omega)]; omega
        have e2 : eqc ((hs ++ [(⟨(a : Int), (b : Int)⟩ : DPair)]).drop (m - 20)) = eqc (hs.drop (m - 20)) + 1 := by rw [hes]; dsimp only; rw [if_pos ⟨by omega, by omega⟩]
        have e3 : (hs ++ [(⟨(a : Int), (b : Int)⟩ : DPair)]).length = hs.length + 1 := by simp
        refine ⟨(scAdd x a b, hs ++ [(⟨(a : Int), (b : Int)⟩ : DPair)]), ?_, ⟨by simp only; omega, hst⟩, by simp only; omega⟩
        refine Le.auto [] (r0 := ?r02) (ren := ?ren2) ?ea2 ?eb2 ?a2 ?b2 ?c2 ?d2 ?ho2 ?hn2 ?ht2
        case ea2 => exact amR
        case eb2 => exact amR
        case a2 => exact rfl
        case b2 => exact rfl
        case c2 => exact rfl
        case d2 => exact rfl
        all_goals (try refine amL (h := ?_))
        all_goals (try with_reducible apply True.intro)
        · exact scLe (.refl _) (.refl _)
        · rw [e1, e2, e3]
          all_goals first | rfl | exact ⟨rfl, rfl⟩ | exact ⟨rfl, rfl, rfl⟩ | exact ⟨rfl, rfl, rfl, rfl⟩ | simp
      · rename_i h1 h2
        have e1 : eqc (hs ++ [(⟨(a : Int), (b : Int)⟩ : DPair)]) = eqc hs + 1 := by rw [hea]; simp only [eqc]; rw [if_pos (by omega)]; omega
        have e2 : eqc ((hs ++ [(⟨(a : Int), (b : Int)⟩ : DPair)]).drop (m - 20)) = eqc (hs.drop (m - 20)) := by rw [hes]; dsimp only; rw [if_neg (by omega)]; omega
        have e3 : (hs ++ [(⟨(a : Int), (b : Int)⟩ : DPair)]).length = hs.length + 1 := by simp
        refine ⟨(scAdd x a b, hs ++ [(⟨(a : Int), (b : Int)⟩ : DPair)]), ?_, ⟨by simp only; omega, hst⟩, by simp only; omega⟩
        refine Le.auto [] (r0 := ?r03) (ren := ?ren3) ?ea3 ?eb3 ?a3 ?b3 ?c3 ?d3 ?ho3 ?hn3 ?ht3
        case ea3 => exact amR
        case eb3 => exact amR
        case a3 => exact rfl
        case b3 => exact rfl
        case c3 => exact rfl
        case d3 => exact rfl
        all_goals (try refine amL (h := ?_))
        all_goals (try with_reducible apply True.intro)
        · exact scLe (.refl _) (.refl _)
        · rw [e1, e2, e3]
          all_goals first | rfl | exact ⟨rfl, rfl⟩ | exact ⟨rfl, rfl, rfl⟩ | exact ⟨rfl, rfl, rfl, rfl⟩ | simp
      · rename_i h1
        have e1 : eqc (hs ++ [(⟨(a : Int), (b : Int)⟩ : DPair)]) = eqc hs := by rw [hea]; simp only [eqc]; rw [if_neg (by omega)]; omega
        have e2 : eqc ((hs ++ [(⟨(a : Int), (b : Int)⟩ : DPair)]).drop (m - 20)) = eqc (hs.drop (m - 20)) := by rw [hes]; dsimp only; rw [if_neg (by omega)]; omega
        have e3 : (hs ++ [(⟨(a : Int), (b : Int)⟩ : DPair)]).length = hs.length + 1 := by simp
        refine ⟨(scAdd x a b, hs ++ [(⟨(a : Int), (b : Int)⟩ : DPair)]), ?_, ⟨by simp only; omega, hst⟩, by simp only; omega⟩
        refine Le.auto [] (r0 := ?r04) (ren := ?ren4) ?ea4 ?eb4 ?a4 ?b4 ?c4 ?d4 ?ho4 ?hn4 ?ht4
        case ea4 => exact amR
        case eb4 => exact amR
        case a4 => exact rfl
        case b4 => exact rfl
        case c4 => exact rfl
        case d4 => exact rfl
        all_goals (try refine amL (h := ?_))
        all_goals (try with_reducible apply True.intro)
        · exact scLe (.refl _) (.refl _)
        · rw [e1, e2, e3]
          all_goals first | rfl | exact ⟨rfl, rfl⟩ | exact ⟨rfl, rfl, rfl⟩ | exact ⟨rfl, rfl, rfl, rfl⟩ | simp
    · have em : hs.length = m := by omega
      obtain ⟨r, hr⟩ := Int.eq_ofNat_of_zero_le he.1
      have hallm : allSum x.table = (m : Int) := by rw [hi.all, em]
      have hdg : diag x n.toNat = (r : Int) := by rw [hi.dg, hr]
      have hlr : eqc x.last = eqc (hs.drop (m - 20)) := by rw [hi.last, em]
      have hrb : r ≤ 49 := by omega
      obtain ⟨s1, s2, s3, s4⟩ := sh_bd r m
      have b1 : 0 ≤ shN r m * (m : Int) := Int.mul_nonneg s1 (by omega)
      have b2 : shN r m * (m : Int) ≤ 49 * 49 := Int.mul_le_mul (by omega) (by omega) (by omega) (by omega)
      have b3 : 0 ≤ (r : Int) * shD r m := Int.mul_nonneg (by omega) s3
      have b4 : (r : Int) * shD r m ≤ 49 * 50 := Int.mul_le_mul (by omega) (by omega) s3 (by omega)
      first | refine CallK.one (accuracyC n x _ _ hi.ok hok r m hdg hallm (by omega) (by omega)) (fun _ => amC) ?_ | refine CallE.one (accuracyC n x _ _ hi.ok hok r m hdg hallm (by omega) (by omega)) (fun _ => amC) rfl ?_ | refine CallG.one rfl (fun hg => accuracyC n x _ _ hi.ok hok r m hdg hallm (by omega) (by omega)) ?_ | refine CallEG.one rfl rfl (fun hg => accuracyC n x _ _ hi.ok hok r m hdg hallm (by omega) (by omega)) ?_ | refine CallCE.one (accuracyC n x _ _ hi.ok hok r m hdg hallm (by omega) (by omega)) (fun _ => amC) rfl ?_
      (try refine am (h := ?_)); (try with_reducible apply True.intro)
      rw [hr]
      repeat' (first | (with_reducible refine And.intro ?_ ?_) | (with_reducible intro _))
      all_goals try (first | omega | with_reducible rfl | ((with_reducible refine eqId ?_); exact rfl) | with_reducible (first | assumption | exact pl ‹_› | exact pr ‹_› | exact plr ‹_› | exact pll ‹_› | exact prl ‹_› | exact plll ‹_› | exact prll ‹_›))
      · exfalso
        rename_i hh
        obtain ⟨q1, q2⟩ := sh_mul (a := r) (b := m) (by omega)
        rcases hh.2 with hh | hh
        · exact hh q1
        · omega
      · first | refine CallK.one (implScoreOk n x _ _ (okScore_47 hok)) (fun _ => amC) ?_ | refine CallE.one (implScoreOk n x _ _ (okScore_47 hok)) (fun _ => amC) rfl ?_ | refine CallG.one rfl (fun hg => implScoreOk n x _ _ (okScore_47 hok)) ?_ | refine CallEG.one rfl rfl (fun hg => implScoreOk n x _ _ (okScore_47 hok)) ?_ | refine CallCE.one (implScoreOk n x _ _ (okScore_47 hok)) (fun _ => amC) rfl ?_
        (try refine am (h := ?_)); (try with_reducible apply True.intro)
        rw [scoreOk_true hi.ok]
        repeat' (first | (with_reducible refine And.intro ?_ ?_) | (with_reducible intro _))
        all_goals try (first | omega | with_reducible rfl | ((with_reducible refine eqId ?_); exact rfl) | with_reducible (first | assumption | exact pl ‹_› | exact pr ‹_› | exact plr ‹_› | exact pll ‹_› | exact prl ‹_› | exact plll ‹_› | exact prll ‹_›))
        first | refine CallG.one rfl (fun hg => countC n x _ _ hi.ok hok) ?_ | refine CallEG.one rfl rfl (fun hg => countC n x _ _ hi.ok hok) ?_
        (try refine am (h := ?_)); (try with_reducible apply True.intro)
        rw [hallm]
        repeat' (first | (with_reducible refine And.intro ?_ ?_) | (with_reducible intro _))
        all_goals try (first | omega | with_reducible rfl | ((with_reducible refine eqId ?_); exact rfl) | with_reducible (first | assumption | exact pl ‹_› | exact pr ‹_› | exact plr ‹_› | exact pll ‹_› | exact prl ‹_› | exact plll ‹_› | exact prll ‹_›))
        rw [decide_eq_true (rfl : (m : Int) = m)]
        first | refine CallG.one rfl (fun hg => rightC n x _ _ hi.ok hok) ?_ | refine CallEG.one rfl rfl (fun hg => rightC n x _ _ hi.ok hok) ?_
        (try refine am (h := ?_)); (try with_reducible apply True.intro)
        rw [hdg]
        repeat' (first | (with_reducible refine And.intro ?_ ?_) | (with_reducible intro _))
        all_goals try (first | omega | with_reducible rfl | ((with_reducible refine eqId ?_); exact rfl) | with_reducible (first | assumption | exact pl ‹_› | exact pr ‹_› | exact plr ‹_› | exact pll ‹_› | exact prl ‹_› | exact plll ‹_› | exact prll ‹_›))
        rw [decide_eq_true (rfl : (r : Int) = r)]
        first | refine CallG.one rfl (fun hg => lastRightC n x _ _ hi.ok hok) ?_ | refine CallEG.one rfl rfl (fun hg => lastRightC n x _ _ hi.ok hok) ?_
        (try refine am (h := ?_)); (try with_reducible apply True.intro)
        rw [hlr]
        repeat' (first | (with_reducible refine And.intro ?_ ?_) | (with_reducible intro _))
        all_goals try (first | omega | with_reducible rfl | ((with_reducible refine eqId ?_); exact rfl) | with_reducible (first | assumption | exact pl ‹_› | exact pr ‹_› | exact plr ‹_› | exact pll ‹_› | exact prl ‹_› | exact plll ‹_› | exact prll ‹_›))
        refine FinK.val1 ?_ ?_
        all_goals (try refine amF (h := ?_))
        all_goals (try with_reducible apply True.intro)
end Go.AM
