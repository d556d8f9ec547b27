/- Lemmas for the proof of this claim. -/
import Derived.Test.YtbfofhfeghfpoaaWinb
import Derived.Test.YtbfofhfeghfpoaaWina
import Derived.Test.YtbfofhfeghfpoaaWlib
namespace Go.AM
open Go Go.Proofs
set_option maxRecDepth 100000
set_option maxHeartbeats 8000000 in
theorem specWindowAdd (l : List (List Int)) (bit : Int) (u v : Bool) (h : okL (2 ^ 40) l) (hbit : inK .i64 bit) : ACalls Try.prog 118 [.agg [aL u v l], .one (.int .i64 bit)] (fun r => r = .tup [.agg [aL true true (wAddA l bit)], .one (.bool (wAddOk l bit))]) := by
  have hl := h.1
  have h47 : okL (2 ^ 47) l := ⟨by omega, fun r hr => ⟨by have := (h.2 r hr).1; omega, (h.2 r hr).2⟩⟩
  by_cases hc : wokB l = true ∧ 0 ≤ bit ∧ bit ≤ 1
  case neg =>
    have e : wAddOk l bit = false := by
      unfold wAddOk
      cases hw : wokB l with
      | false => rfl
      | true => rw [decide_eq_false (fun h => hc ⟨hw, h⟩), Bool.and_false]
    have e2 : wAddA l bit = l := by unfold wAddA; rw [e]; rfl
    rw [e, e2]
    have nt : Try.f118.ntmps = 126 := rfl
    have rs : Try.f118.results = #[.cell 4 50, .tmp 5] := rfl
    refine ACalls.of_run (m := 400) mixed Try.func118 rfl rfl (Nat.le_of_ble_eq_true rfl) ?_
    simp only [nt, rs]
    clear nt rs
    (try refine am (h := ?_)); (try with_reducible apply True.intro)
    first | refine CallK.one (l16CopyI l _ _ h) (fun _ => amC) ?_ | refine CallE.one (l16CopyI l _ _ h) (fun _ => amC) rfl ?_ | refine CallG.one rfl (fun hg => l16CopyI l _ _ h) ?_ | refine CallEG.one rfl rfl (fun hg => l16CopyI l _ _ h) ?_ | refine CallCE.one (l16CopyI l _ _ h) (fun _ => amC) rfl ?_
    (try refine am (h := ?_)); (try with_reducible apply True.intro)
    repeat' (first | (with_reducible refine And.intro ?_ ?_) | (with_reducible intro _))
    all_goals try (first | omega | with_reducible rfl | ((with_reducible refine eqId ?_); exact rfl) | with_reducible (first | assumption | exact pl ‹_› | exact pr ‹_› | exact plr ‹_› | exact pll ‹_› | exact prl ‹_› | exact plll ‹_› | exact prll ‹_›))
    first | refine CallK.one (specWindowOk l _ _ h47.1 (fun r hr => (h47.2 r hr).1)) (fun _ => amC) ?_ | refine CallE.one (specWindowOk l _ _ h47.1 (fun r hr => (h47.2 r hr).1)) (fun _ => amC) rfl ?_ | refine CallG.one rfl (fun hg => specWindowOk l _ _ h47.1 (fun r hr => (h47.2 r hr).1)) ?_ | refine CallEG.one rfl rfl (fun hg => specWindowOk l _ _ h47.1 (fun r hr => (h47.2 r hr).1)) ?_ | refine CallCE.one (specWindowOk l _ _ h47.1 (fun r hr => (h47.2 r hr).1)) (fun _ => amC) rfl ?_
    (try refine am (h := ?_)); (try with_reducible apply True.intro)
    repeat' (first | (with_reducible refine And.intro ?_ ?_) | (with_reducible intro _))
    all_goals try (first | omega | with_reducible rfl | ((with_reducible refine eqId ?_); exact rfl) | with_reducible (first | assumption | exact pl ‹_› | exact pr ‹_› | exact plr ‹_› | exact pll ‹_› | exact prl ‹_› | exact plll ‹_› | exact prll ‹_›))
    first | refine CallG.one rfl (fun hg => l1In bit 0 1) ?_ | refine CallEG.one rfl rfl (fun hg => l1In bit 0 1) ?_
    (try refine am (h := ?_)); (try with_reducible apply True.intro)
    refine ⟨fun _ => ?_, fun hh => absurd hh hc⟩
    refine FinK.tup ?_ ?_
    all_goals (try refine amF (h := ?_))
    all_goals (try with_reducible apply True.intro)
  have hwk : wok l := by simpa [wokB] using hc.1
  have h8 := hwk.1
  have hb := hc.2
  have e : wAddOk l bit = true := by unfold wAddOk; rw [hc.1, decide_eq_true hb]; rfl
  have e2 : wAddA l bit = wAdd l bit := by unfold wAddA; rw [e]; rfl
  rw [e, e2]
  have hi0 := wInv_in hwk hb
  have hx : (wokB l = false ∨ ¬ (0 ≤ bit ∧ bit ≤ 1)) → False := fun hh => by
    rcases hh with hh | hh
    · rw [hc.1] at hh; cases hh
    · exact hh hb
  have nt : Try.f118.ntmps = 126 := rfl
  have rs : Try.f118.results = #[.cell 4 50, .tmp 5] := rfl
  refine ACalls.of_run (m := 400) mixed Try.func118 rfl rfl (Nat.le_of_ble_eq_true rfl) ?_
  simp only [nt, rs]
  clear nt rs
  (try refine am (h := ?_)); (try with_reducible apply True.intro)
  first | refine CallK.one (l16CopyI l _ _ h) (fun _ => amC) ?_ | refine CallE.one (l16CopyI l _ _ h) (fun _ => amC) rfl ?_ | refine CallG.one rfl (fun hg => l16CopyI l _ _ h) ?_ | refine CallEG.one rfl rfl (fun hg => l16CopyI l _ _ h) ?_ | refine CallCE.one (l16CopyI l _ _ h) (fun _ => amC) rfl ?_
  (try refine am (h := ?_)); (try with_reducible apply True.intro)
  repeat' (first | (with_reducible refine And.intro ?_ ?_) | (with_reducible intro _))
  all_goals try (first | omega | with_reducible rfl | ((with_reducible refine eqId ?_); exact rfl) | with_reducible (first | assumption | exact pl ‹_› | exact pr ‹_› | exact plr ‹_› | exact pll ‹_› | exact prl ‹_› | exact plll ‹_› | exact prll ‹_›))
  first | refine CallK.one (specWindowOk l _ _ h47.1 (fun r hr => (h47.2 r hr).1)) (fun _ => amC) ?_ | refine CallE.one (specWindowOk l _ _ h47.1 (fun r hr => (h47.2 r hr).1)) (fun _ => amC) rfl ?_ | refine CallG.one rfl (fun hg => specWindowOk l _ _ h47.1 (fun r hr => (h47.2 r hr).1)) ?_ | refine CallEG.one rfl rfl (fun hg => specWindowOk l _ _ h47.1 (fun r hr => (h47.2 r hr).1)) ?_ | refine CallCE.one (specWindowOk l _ _ h47.1 (fun r hr => (h47.2 r hr).1)) (fun _ => amC) rfl ?_
  (try refine am (h := ?_)); (try with_reducible apply True.intro)
  repeat' (first | (with_reducible refine And.intro ?_ ?_) | (with_reducible intro _))
  all_goals try (first | omega | with_reducible rfl | ((with_reducible refine eqId ?_); exact rfl) | with_reducible (first | assumption | exact pl ‹_› | exact pr ‹_› | exact plr ‹_› | exact pll ‹_› | exact prl ‹_› | exact plll ‹_› | exact prll ‹_›))
  first | refine CallG.one rfl (fun hg => l1In bit 0 1) ?_ | refine CallEG.one rfl rfl (fun hg => l1In bit 0 1) ?_
  (try refine am (h := ?_)); (try with_reducible apply True.intro)
  refine ⟨fun hh => (hx hh).elim, fun _ => ?_⟩
  refine ⟨fun hl0 => ?_, fun hl0 => ?_⟩
  · have hap : ∀ f g : Nat → Nat → AV, apF l.length f g 0 0 = g 0 0 := apF_r (by omega)
    have hro : ∀ a : AV, rowsF [[a]] 0 0 = a := fun _ => rfl
    (try refine am (h := ?_)); (try simp only [hap, hro]); (try refine am (h := ?_)); (try with_reducible apply True.intro)
    (try refine am (h := ?_)); (try simp only [hap, hro]); (try refine am (h := ?_)); (try with_reducible apply True.intro)
    repeat' (first | (with_reducible refine And.intro ?_ ?_) | (with_reducible intro _))
    all_goals try (first | omega | with_reducible rfl | ((with_reducible refine eqId ?_); exact rfl) | with_reducible (first | assumption | exact pl ‹_› | exact pr ‹_› | exact plr ‹_› | exact pll ‹_› | exact prl ‹_› | exact plll ‹_› | exact prll ‹_›))
    refine LoopK.auto ((Nat × List (List Int))) (fun p => [(7, .one (.av (.int .i64 p.1))), (6, .one (.ref 302 [] [0] 0 0))]) (fun p => [(302, ⟨.sl true none 1 1 (fun _ _ => .sl true none 1 p.2.length (fL true p.2)), []⟩)]) [4] (k0 := ?k01) (keepH := ?kh1) 400 (fun p => p.1 < 8 ∧ wInv p.1 p.2 ∧ wAdd l bit = wGo (8 - p.1) p.1 p.2) (fun p => 8 - p.1) ((0, wIn l bit)) ?kea1 ?keb1 ?_ ?_ ?_
    case kea1 => exact amN
    case keb1 => exact amN
    · exact ⟨by omega, hi0, rfl⟩
    · refine Le.auto [] (r0 := ?r01) (ren := ?ren1) ?ea1 ?eb1 ?a1 ?b1 ?c1 ?d1 ?ho1 ?hn1 ?ht1
      case ea1 => exact amR
      case eb1 => exact amR
      case a1 => exact rfl
      case b1 => exact rfl
      case c1 => exact rfl
      case d1 => exact rfl
      all_goals (try refine amL (h := ?_))
      all_goals (try with_reducible apply True.intro)
      refine boxLe ?_
      have ew : wIn l bit = [[bit]] := by unfold wIn wBase; rw [show Nat.beq l.length 0 = true by rw [show l.length = 0 by omega]; rfl]; rfl
      rw [ew]
      refine rowsLe2 (by rw [show l.length = 0 by omega]; rfl) (fun a ha => ?_)
      obtain rfl : a = 0 := by omega
      first | exact oneInt | exact oneInt2
    · rintro ⟨i, m⟩ ⟨hi, hinv, he⟩
      replace hi : i < 8 := hi
      have hinv' := hinv
      obtain ⟨w1, w2, w3, w4⟩ := hinv'
      replace w1 : m.length ≤ 8 := w1
      replace w2 : i < m.length := w2
      replace w3 : (m.getD i []).length ≤ 4 := w3
      replace he : wAdd l bit = wGo (8 - i) i m := he
      replace hinv : wInv i m := hinv
      have hwr := (w4 i w2).1
      replace hwr : 1 ≤ (m.getD i []).length := hwr
      have htn : ((i : Int) + 1).toNat = i + 1 := by omega
      have hn1 : (i + 1 = i) = False := eq_false (by omega)
      have hn2 : (i = i + 1) = False := eq_false (by omega)
      have hbd : (2 : Int) ^ i ≤ 128 := (by decide : ∀ i, i < 8 → (2 : Int) ^ i ≤ 128) i hi
      have hv0 : ¬ 3 < (m.getD i []).length ∨ ((0 ≤ (m.getD i []).getD 0 0 ∧ (m.getD i []).getD 0 0 ≤ 2 ^ i) ∧ (0 ≤ (m.getD i []).getD 1 0 ∧ (m.getD i []).getD 1 0 ≤ 2 ^ i)) := by
        by_cases h3 : 3 < (m.getD i []).length
        · exact .inr ⟨(w4 i w2).2.2 0 (show 0 < (m.getD i []).length by omega), (w4 i w2).2.2 1 (show 1 < (m.getD i []).length by omega)⟩
        · exact .inl h3
      have hn3 : (m.getD (i + 1) []).length ≤ 3 := by
        by_cases e : i + 1 < m.length
        · exact (w4 (i + 1) e).2.1 (show i + 1 ≠ i by omega)
        · have : m.getD (i + 1) [] = [] := by rw [List.getD_eq_getElem?_getD, List.getElem?_eq_none (by omega)]; rfl
          rw [this]; exact Nat.zero_le _
      by_cases hx : i + 1 = m.length
      · have hx' : ((i : Int) + 1 = (m.length : Int)) = True := eq_true (by omega)
        have ha1 : ∀ f g : Nat → Nat → AV, apF m.length f g i 0 = f i 0 := apF_l w2
        have ha2 : ∀ f g : Nat → Nat → AV, apF m.length f g (i + 1) 0 = g 0 0 := apF_r hx
        have hro2 : ∀ a : AV, rowsF [[a]] 0 0 = a := fun _ => rfl
        (try refine am (e := by simp (maxSteps := 10000000) (maxDischargeDepth := 4) only [arun, drun_nil, drun_cons, DrawK, drunC_nil, drunC_cons, DrawC, zipN, isCall, isField, simpleOp, gdst, gcond, unc, cok, cok1, cndOf, gro, coks, hasBlk, unw, dOk, St.put, St.ρ, opd, St.T, St.H, lk_cons, lk_nil, o_i64, o_bool, pickT0, pickH0, rst0, rstS, rstT, aop, slOf, lenOf, apOp, apOld, apMv, mvSrc, owns1, ownsN, knN, shl, shx, rdE, wrE, ctOp, ctOf, dbl, sgl, memN, apSrc, slc, optI, uwb, ixOk, OB.live, AV.okp, AV.at, verTake, bump, sto, sto1, stoL, stoParts, CV.tv, TK.can, ldTV, ldc, cellsF, inOrder, fldOff, fldTy, gl, kn_int, kn_sl, AV.ro, AV.setR, AV.n, AV.es, AV.cut, OB.cut, plain, fr_int, fr_rows1, freeN, lim, b_add, b_eql, b_lss, b_leq, b_geq, fI_at, fL_at, Op.operands, Call.operands, gbf, Array.toList_append, List.nil_append, List.cons_append, List.append_nil, List.length_cons, List.length_nil, List.all_cons, List.all_nil, Option.map, Option.bind, Option.isSome, Option.getD, Option.some.injEq, List.getElem?_toArray, List.getElem?_cons_zero, List.getElem?_cons_succ, Nat.reduceAdd, Nat.reduceMul, Nat.reduceLeDiff, Nat.reduceLT, Nat.blt, Nat.ble, Nat.beq, Nat.add_zero, Nat.zero_add, Nat.sub_zero, beq_self, Int.toNat_natCast, Int.reduceLE, Int.reduceNeg, Int.reduceToNat, Int.natCast_nonneg, Int.ofNat_lt, Int.ofNat_le, Int.natCast_add, Int.natCast_one, inKi, maxLen_eq, bif_or, dec_or, and_self, imp_self, reduceIte, reduceCtorEq, true_and, and_true, false_and, or_true, or_false, ne_eq, not_false_eq_true, decide_true, decide_eq_true_eq, decide_eq_false_iff_not, Bool.and_self, Bool.and_true, Bool.or_false, Bool.or_true, Bool.not_true, Bool.not_false, Bool.not_eq_true', Bool.false_eq_true, cond_true, cond_false, forall_const, false_implies, implies_true, exists_eq_left', eq_self, List.not_mem_nil, List.mem_cons, forall_eq, nilAV, tk3, tk24, tk30, tk50, hx', ha2, hro2, htn, hn1]; exact rfl) (h := ?_)); (try with_reducible apply True.intro)
        repeat' (first | (with_reducible refine And.intro ?_ ?_) | (with_reducible intro _))
        all_goals try (first | omega | with_reducible rfl | ((with_reducible refine eqId ?_); exact rfl) | with_reducible (first | assumption | exact pl ‹_› | exact pr ‹_› | exact plr ‹_› | exact pll ‹_› | exact prl ‹_› | exact plll ‹_› | exact prll ‹_›))
        all_goals (try (exact fI_free (by assumption)))
        · have h3' : ¬ 3 < (m.getD i []).length := by omega
          rw [he, wGo_end h3']
          refine FinK.tup ?_ ?_
          all_goals (try refine amF (h := ?_))
          all_goals (try with_reducible apply True.intro)
        · have h3 : 3 < (m.getD i []).length := by omega
          obtain rfl : i = 7 := by omega
          rw [he, show 8 - 7 = 0 + 1 from rfl, wGo_last h3]
          refine FinK.tup ?_ ?_
          all_goals (try refine amF (h := ?_))
          all_goals (try with_reducible apply True.intro)
          refine rowsLe2 (by rw [List.length_set]) (fun a ha => ?_)
          by_cases e1 : a = 7
          · subst e1
            rw [getD_set_eq w2]
            simp only [and_true, if_true, Nat.le_refl, Nat.zero_lt_one, gl]
            all_goals (first | exact dropLe rfl)
          · simp only [e1, false_and, if_false]
            rw [fL_at, getD_set_ne (fun e => e1 e.symm)]
            exact .refl _
        · have h3 : 3 < (m.getD i []).length := by omega
          have h7 : i ≠ 7 := by omega
          refine ⟨(i + 1, wStep i m), ?_, ⟨show i + 1 < 8 by omega, wInv_step hinv h3 h7, ?_⟩, show 8 - (i + 1) < 8 - i by omega⟩
          · refine Le.auto [] (r0 := ?r02) (ren := ?ren2) ?ea2 ?eb2 ?a2 ?b2 ?c2 ?d2 ?ho2 ?hn2 ?ht2
            case ea2 => exact amR
            case eb2 => exact amR
            case a2 => exact rfl
            case b2 => exact rfl
            case c2 => exact rfl
            case d2 => exact rfl
            all_goals (try refine amL (h := ?_))
            all_goals (try with_reducible apply True.intro)
            refine boxLe ?_
            have hlen : (wStep i m).length = m.length + 1 := by rw [wStep_len]; have := wExt_len (r := i) w2; omega
            refine rowsLe2 (by rw [hlen]) (fun a ha => ?_)
            rw [wStep_at w2]
            by_cases e1 : a = i
            · subst e1
              simp only [hn2, ha1, and_true, if_false, if_true, Nat.le_refl, Nat.zero_lt_one, gl]
              all_goals (first | exact dropLe rfl)
            · by_cases e2 : a = i + 1
              · subst e2
                have em : m.getD (i + 1) [] = [] := by rw [List.getD_eq_getElem?_getD, List.getElem?_eq_none (by omega)]; rfl
                simp only [hn1, em, and_true, if_false, if_true, Nat.le_refl, Nat.zero_lt_one, gl]
                all_goals (first | exact oneInt2)
              · have ea := apF_l (i := a) (n := m.length) (by omega)
                simp only [e1, e2, ea, false_and, if_false]
                all_goals (first | exact .refl _)
          · show wAdd l bit = wGo (8 - (i + 1)) (i + 1) (wStep i m)
            rw [he, show 8 - i = (8 - (i + 1)) + 1 by omega, wGo_step h3 h7]
      · have hx' : ((i : Int) + 1 = (m.length : Int)) = False := eq_false (by omega)
        (try refine am (e := by simp (maxSteps := 10000000) (maxDischargeDepth := 4) only [arun, drun_nil, drun_cons, DrawK, drunC_nil, drunC_cons, DrawC, zipN, isCall, isField, simpleOp, gdst, gcond, unc, cok, cok1, cndOf, gro, coks, hasBlk, unw, dOk, St.put, St.ρ, opd, St.T, St.H, lk_cons, lk_nil, o_i64, o_bool, pickT0, pickH0, rst0, rstS, rstT, aop, slOf, lenOf, apOp, apOld, apMv, mvSrc, owns1, ownsN, knN, rows_at0, shl, shx, rdE, wrE, ctOp, ctOf, dbl, sgl, memN, apSrc, slc, optI, uwb, bad, ixOk, OB.live, AV.okp, AV.at, verTake, bump, sto, sto1, stoL, stoParts, CV.tv, TK.can, ldTV, ldc, cellsF, inOrder, fldOff, fldTy, gl, kn_int, kn_sl, AV.ro, AV.setR, AV.n, AV.es, AV.cut, OB.cut, plain, fr_int, fr_rows1, freeN, lim, b_add, b_eql, b_lss, b_leq, b_geq, fI_at, fL_at, Op.operands, Call.operands, gbf, Array.toList_append, List.nil_append, List.cons_append, List.append_nil, List.length_cons, List.length_nil, List.all_cons, List.all_nil, Option.map, Option.bind, Option.isSome, Option.getD, Option.some.injEq, List.getElem?_toArray, List.getElem?_cons_zero, List.getElem?_cons_succ, Nat.reduceAdd, Nat.reduceMul, Nat.reduceLeDiff, Nat.reduceLT, Nat.blt, Nat.ble, Nat.beq, Nat.add_zero, Nat.zero_add, Nat.sub_zero, beq_self, Int.toNat_natCast, Int.reduceLE, Int.reduceNeg, Int.reduceToNat, Int.natCast_nonneg, Int.ofNat_lt, Int.ofNat_le, Int.natCast_add, Int.natCast_one, inKi, maxLen_eq, bif_or, dec_or, and_self, imp_self, reduceIte, reduceCtorEq, true_and, and_true, false_and, or_true, or_false, ne_eq, not_false_eq_true, decide_true, decide_false, decide_eq_true_eq, decide_eq_false_iff_not, Bool.and_self, Bool.and_true, Bool.or_false, Bool.or_true, Bool.not_true, Bool.not_false, Bool.not_eq_true', Bool.false_eq_true, cond_true, cond_false, forall_const, false_implies, implies_true, exists_eq_left', eq_self, List.not_mem_nil, List.mem_cons, forall_eq, nilAV, tk3, tk24, tk30, tk50, hx', htn, hn1]; exact rfl) (h := ?_)); (try with_reducible apply True.intro)
        repeat' (first | (with_reducible refine And.intro ?_ ?_) | (with_reducible intro _))
        all_goals try (first | omega | with_reducible rfl | ((with_reducible refine eqId ?_); exact rfl) | with_reducible (first | assumption | exact pl ‹_› | exact pr ‹_› | exact plr ‹_› | exact pll ‹_› | exact prl ‹_› | exact plll ‹_› | exact prll ‹_›))
        all_goals (try (exact fI_free (by assumption)))
        · have h3' : ¬ 3 < (m.getD i []).length := by omega
          rw [he, wGo_end h3']
          refine FinK.tup ?_ ?_
          all_goals (try refine amF (h := ?_))
          all_goals (try with_reducible apply True.intro)
        · have h3 : 3 < (m.getD i []).length := by omega
          have h7 : i ≠ 7 := by omega
          refine ⟨(i + 1, wStep i m), ?_, ⟨show i + 1 < 8 by omega, wInv_step hinv h3 h7, ?_⟩, show 8 - (i + 1) < 8 - i by omega⟩
          · refine Le.auto [] (r0 := ?r03) (ren := ?ren3) ?ea3 ?eb3 ?a3 ?b3 ?c3 ?d3 ?ho3 ?hn3 ?ht3
            case ea3 => exact amR
            case eb3 => exact amR
            case a3 => exact rfl
            case b3 => exact rfl
            case c3 => exact rfl
            case d3 => exact rfl
            all_goals (try refine amL (h := ?_))
            all_goals (try with_reducible apply True.intro)
            refine boxLe ?_
            have hlen : (wStep i m).length = m.length := by rw [wStep_len]; have := wExt_len (r := i) w2; omega
            refine rowsLe2 (by rw [hlen]) (fun a ha => ?_)
            rw [wStep_at w2]
            by_cases e1 : a = i
            · subst e1
              simp only [hn2, and_true, if_false, if_true, Nat.le_refl, Nat.zero_lt_one, gl]
              all_goals (first | exact dropLe rfl)
            · by_cases e2 : a = i + 1
              · subst e2
                simp only [hn1, and_true, if_false, if_true, Nat.le_refl, Nat.zero_lt_one, gl]
                all_goals (first | exact appInt rfl)
              · simp only [e1, e2, false_and, if_false]
                all_goals (first | exact .refl _)
          · show wAdd l bit = wGo (8 - (i + 1)) (i + 1) (wStep i m)
            rw [he, show 8 - i = (8 - (i + 1)) + 1 by omega, wGo_step h3 h7]
  · have hro := hwk.2 0 (by omega)
    have hr3 := hro.1
    (try refine am (h := ?_)); (try with_reducible apply True.intro)
    repeat' (first | (with_reducible refine And.intro ?_ ?_) | (with_reducible intro _))
    all_goals try (first | omega | with_reducible rfl | ((with_reducible refine eqId ?_); exact rfl) | with_reducible (first | assumption | exact pl ‹_› | exact pr ‹_› | exact plr ‹_› | exact pll ‹_› | exact prl ‹_› | exact plll ‹_› | exact prll ‹_›))
    refine LoopK.auto ((Nat × List (List Int))) (fun p => [(7, .one (.av (.int .i64 p.1))), (6, .one (.ref 302 [] [0] 0 0))]) (fun p => [(302, ⟨.sl true none 1 1 (fun _ _ => .sl true none 1 p.2.length (fL true p.2)), []⟩)]) [4] (k0 := ?k02) (keepH := ?kh2) 400 (fun p => p.1 < 8 ∧ wInv p.1 p.2 ∧ wAdd l bit = wGo (8 - p.1) p.1 p.2) (fun p => 8 - p.1) ((0, wIn l bit)) ?kea2 ?keb2 ?_ ?_ ?_
    case kea2 => exact amN
    case keb2 => exact amN
    · exact ⟨by omega, hi0, rfl⟩
    · refine Le.auto [] (r0 := ?r04) (ren := ?ren4) ?ea4 ?eb4 ?a4 ?b4 ?c4 ?d4 ?ho4 ?hn4 ?ht4
      case ea4 => exact amR
      case eb4 => exact amR
      case a4 => exact rfl
      case b4 => exact rfl
      case c4 => exact rfl
      case d4 => exact rfl
      all_goals (try refine amL (h := ?_))
      all_goals (try with_reducible apply True.intro)
      refine boxLe ?_
      have hl0' : 0 < l.length := by omega
      have ew : wIn l bit = l.set 0 (l.getD 0 [] ++ [bit]) := by unfold wIn wBase; rw [show Nat.beq l.length 0 = false by rw [Bool.eq_false_iff]; intro hh; have := Nat.eq_of_beq_eq_true hh; omega]; rfl
      rw [ew]
      refine rowsLe2 (by rw [List.length_set]) (fun a ha => ?_)
      by_cases e3 : a = 0
      · subst e3
        rw [getD_set_eq hl0']
        exact appInt rfl
      · simp only [e3, false_and, if_false]
        rw [fL_at, getD_set_ne (fun e => e3 e.symm)]
        exact .refl _
    · rintro ⟨i, m⟩ ⟨hi, hinv, he⟩
      replace hi : i < 8 := hi
      have hinv' := hinv
      obtain ⟨w1, w2, w3, w4⟩ := hinv'
      replace w1 : m.length ≤ 8 := w1
      replace w2 : i < m.length := w2
      replace w3 : (m.getD i []).length ≤ 4 := w3
      replace he : wAdd l bit = wGo (8 - i) i m := he
      replace hinv : wInv i m := hinv
      have hwr := (w4 i w2).1
      replace hwr : 1 ≤ (m.getD i []).length := hwr
      have htn : ((i : Int) + 1).toNat = i + 1 := by omega
      have hn1 : (i + 1 = i) = False := eq_false (by omega)
      have hn2 : (i = i + 1) = False := eq_false (by omega)
      have hbd : (2 : Int) ^ i ≤ 128 := (by decide : ∀ i, i < 8 → (2 : Int) ^ i ≤ 128) i hi
      have hv0 : ¬ 3 < (m.getD i []).length ∨ ((0 ≤ (m.getD i []).getD 0 0 ∧ (m.getD i []).getD 0 0 ≤ 2 ^ i) ∧ (0 ≤ (m.getD i []).getD 1 0 ∧ (m.getD i []).getD 1 0 ≤ 2 ^ i)) := by
        by_cases h3 : 3 < (m.getD i []).length
        · exact .inr ⟨(w4 i w2).2.2 0 (show 0 < (m.getD i []).length by omega), (w4 i w2).2.2 1 (show 1 < (m.getD i []).length by omega)⟩
        · exact .inl h3
      have hn3 : (m.getD (i + 1) []).length ≤ 3 := by
        by_cases e : i + 1 < m.length
        · exact (w4 (i + 1) e).2.1 (show i + 1 ≠ i by omega)
        · have : m.getD (i + 1) [] = [] := by rw [List.getD_eq_getElem?_getD, List.getElem?_eq_none (by omega)]; rfl
          rw [this]; exact Nat.zero_le _
      by_cases hx : i + 1 = m.length
      · have hx' : ((i : Int) + 1 = (m.length : Int)) = True := eq_true (by omega)
        have ha1 : ∀ f g : Nat → Nat → AV, apF m.length f g i 0 = f i 0 := apF_l w2
        have ha2 : ∀ f g : Nat → Nat → AV, apF m.length f g (i + 1) 0 = g 0 0 := apF_r hx
        have hro2 : ∀ a : AV, rowsF [[a]] 0 0 = a := fun _ => rfl
        (try refine am (e := by simp (maxSteps := 10000000) (maxDischargeDepth := 4) only [arun, drun_nil, drun_cons, DrawK, drunC_nil, drunC_cons, DrawC, zipN, isCall, isField, simpleOp, gdst, gcond, unc, cok, cok1, cndOf, gro, coks, hasBlk, unw, dOk, St.put, St.ρ, opd, St.T, St.H, lk_cons, lk_nil, o_i64, o_bool, pickT0, pickH0, rst0, rstS, rstT, aop, slOf, lenOf, apOp, apOld, apMv, mvSrc, owns1, ownsN, knN, shl, shx, rdE, wrE, ctOp, ctOf, dbl, sgl, memN, apSrc, slc, optI, uwb, ixOk, OB.live, AV.okp, AV.at, verTake, bump, sto, sto1, stoL, stoParts, CV.tv, TK.can, ldTV, ldc, cellsF, inOrder, fldOff, fldTy, gl, kn_int, kn_sl, AV.ro, AV.setR, AV.n, AV.es, AV.cut, OB.cut, plain, fr_int, fr_rows1, freeN, lim, b_add, b_eql, b_lss, b_leq, b_geq, fI_at, fL_at, Op.operands, Call.operands, gbf, Array.toList_append, List.nil_append, List.cons_append, List.append_nil, List.length_cons, List.length_nil, List.all_cons, List.all_nil, Option.map, Option.bind, Option.isSome, Option.getD, Option.some.injEq, List.getElem?_toArray, List.getElem?_cons_zero, List.getElem?_cons_succ, Nat.reduceAdd, Nat.reduceMul, Nat.reduceLeDiff, Nat.reduceLT, Nat.blt, Nat.ble, Nat.beq, Nat.add_zero, Nat.zero_add, Nat.sub_zero, beq_self, Int.toNat_natCast, Int.reduceLE, Int.reduceNeg, Int.reduceToNat, Int.natCast_nonneg, Int.ofNat_lt, Int.ofNat_le, Int.natCast_add, Int.natCast_one, inKi, maxLen_eq, bif_or, dec_or, and_self, imp_self, reduceIte, reduceCtorEq, true_and, and_true, false_and, or_true, or_false, ne_eq, not_false_eq_true, decide_true, decide_eq_true_eq, decide_eq_false_iff_not, Bool.and_self, Bool.and_true, Bool.or_false, Bool.or_true, Bool.not_true, Bool.not_false, Bool.not_eq_true', Bool.false_eq_true, cond_true, cond_false, forall_const, false_implies, implies_true, exists_eq_left', eq_self, List.not_mem_nil, List.mem_cons, forall_eq, nilAV, tk3, tk24, tk30, tk50, hx', ha2, hro2, htn, hn1]; exact rfl) (h := ?_)); (try with_reducible apply True.intro)
        repeat' (first | (with_reducible refine And.intro ?_ ?_) | (with_reducible intro _))
        all_goals try (first | omega | with_reducible rfl | ((with_reducible refine eqId ?_); exact rfl) | with_reducible (first | assumption | exact pl ‹_› | exact pr ‹_› | exact plr ‹_› | exact pll ‹_› | exact prl ‹_› | exact plll ‹_› | exact prll ‹_›))
        all_goals (try (exact fI_free (by assumption)))
        · have h3' : ¬ 3 < (m.getD i []).length := by omega
          rw [he, wGo_end h3']
          refine FinK.tup ?_ ?_
          all_goals (try refine amF (h := ?_))
          all_goals (try with_reducible apply True.intro)
        · have h3 : 3 < (m.getD i []).length := by omega
          obtain rfl : i = 7 := by omega
          rw [he, show 8 - 7 = 0 + 1 from rfl, wGo_last h3]
          refine FinK.tup ?_ ?_
          all_goals (try refine amF (h := ?_))
          all_goals (try with_reducible apply True.intro)
          refine rowsLe2 (by rw [List.length_set]) (fun a ha => ?_)
          by_cases e1 : a = 7
          · subst e1
            rw [getD_set_eq w2]
            simp only [and_true, if_true, Nat.le_refl, Nat.zero_lt_one, gl]
            all_goals (first | exact dropLe rfl)
          · simp only [e1, false_and, if_false]
            rw [fL_at, getD_set_ne (fun e => e1 e.symm)]
            exact .refl _
        · have h3 : 3 < (m.getD i []).length := by omega
          have h7 : i ≠ 7 := by omega
          refine ⟨(i + 1, wStep i m), ?_, ⟨show i + 1 < 8 by omega, wInv_step hinv h3 h7, ?_⟩, show 8 - (i + 1) < 8 - i by omega⟩
          · refine Le.auto [] (r0 := ?r05) (ren := ?ren5) ?ea5 ?eb5 ?a5 ?b5 ?c5 ?d5 ?ho5 ?hn5 ?ht5
            case ea5 => exact amR
            case eb5 => exact amR
            case a5 => exact rfl
            case b5 => exact rfl
            case c5 => exact rfl
            case d5 => exact rfl
            all_goals (try refine amL (h := ?_))
            all_goals (try with_reducible apply True.intro)
            refine boxLe ?_
            have hlen : (wStep i m).length = m.length + 1 := by rw [wStep_len]; have := wExt_len (r := i) w2; omega
            refine rowsLe2 (by rw [hlen]) (fun a ha => ?_)
            rw [wStep_at w2]
            by_cases e1 : a = i
            · subst e1
              simp only [hn2, ha1, and_true, if_false, if_true, Nat.le_refl, Nat.zero_lt_one, gl]
              all_goals (first | exact dropLe rfl)
            · by_cases e2 : a = i + 1
              · subst e2
                have em : m.getD (i + 1) [] = [] := by rw [List.getD_eq_getElem?_getD, List.getElem?_eq_none (by omega)]; rfl
                simp only [hn1, em, and_true, if_false, if_true, Nat.le_refl, Nat.zero_lt_one, gl]
                all_goals (first | exact oneInt2)
              · have ea := apF_l (i := a) (n := m.length) (by omega)
                simp only [e1, e2, ea, false_and, if_false]
                all_goals (first | exact .refl _)
          · show wAdd l bit = wGo (8 - (i + 1)) (i + 1) (wStep i m)
            rw [he, show 8 - i = (8 - (i + 1)) + 1 by omega, wGo_step h3 h7]
      · have hx' : ((i : Int) + 1 = (m.length : Int)) = False := eq_false (by omega)
        (try refine am (e := by simp (maxSteps := 10000000) (maxDischargeDepth := 4) only [arun, drun_nil, drun_cons, DrawK, drunC_nil, drunC_cons, DrawC, zipN, isCall, isField, simpleOp, gdst, gcond, unc, cok, cok1, cndOf, gro, coks, hasBlk, unw, dOk, St.put, St.ρ, opd, St.T, St.H, lk_cons, lk_nil, o_i64, o_bool, pickT0, pickH0, rst0, rstS, rstT, aop, slOf, lenOf, apOp, apOld, apMv, mvSrc, owns1, ownsN, knN, rows_at0, shl, shx, rdE, wrE, ctOp, ctOf, dbl, sgl, memN, apSrc, slc, optI, uwb, bad, ixOk, OB.live, AV.okp, AV.at, verTake, bump, sto, sto1, stoL, stoParts, CV.tv, TK.can, ldTV, ldc, cellsF, inOrder, fldOff, fldTy, gl, kn_int, kn_sl, AV.ro, AV.setR, AV.n, AV.es, AV.cut, OB.cut, plain, fr_int, fr_rows1, freeN, lim, b_add, b_eql, b_lss, b_leq, b_geq, fI_at, fL_at, Op.operands, Call.operands, gbf, Array.toList_append, List.nil_append, List.cons_append, List.append_nil, List.length_cons, List.length_nil, List.all_cons, List.all_nil, Option.map, Option.bind, Option.isSome, Option.getD, Option.some.injEq, List.getElem?_toArray, List.getElem?_cons_zero, List.getElem?_cons_succ, Nat.reduceAdd, Nat.reduceMul, Nat.reduceLeDiff, Nat.reduceLT, Nat.blt, Nat.ble, Nat.beq, Nat.add_zero, Nat.zero_add, Nat.sub_zero, beq_self, Int.toNat_natCast, Int.reduceLE, Int.reduceNeg, Int.reduceToNat, Int.natCast_nonneg, Int.ofNat_lt, Int.ofNat_le, Int.natCast_add, Int.natCast_one, inKi, maxLen_eq, bif_or, dec_or, and_self, imp_self, reduceIte, reduceCtorEq, true_and, and_true, false_and, or_true, or_false, ne_eq, not_false_eq_true, decide_true, decide_false, decide_eq_true_eq, decide_eq_false_iff_not, Bool.and_self, Bool.and_true, Bool.or_false, Bool.or_true, Bool.not_true, Bool.not_false, Bool.not_eq_true', Bool.false_eq_true, cond_true, cond_false, forall_const, false_implies, implies_true, exists_eq_left', eq_self, List.not_mem_nil, List.mem_cons, forall_eq, nilAV, tk3, tk24, tk30, tk50, hx', htn, hn1]; exact rfl) (h := ?_)); (try with_reducible apply True.intro)
        repeat' (first | (with_reducible refine And.intro ?_ ?_) | (with_reducible intro _))
        all_goals try (first | omega | with_reducible rfl | ((with_reducible refine eqId ?_); exact rfl) | with_reducible (first | assumption | exact pl ‹_› | exact pr ‹_› | exact plr ‹_› | exact pll ‹_› | exact prl ‹_› | exact plll ‹_› | exact prll ‹_›))
        all_goals (try (exact fI_free (by assumption)))
        · have h3' : ¬ 3 < (m.getD i []).length := by omega
          rw [he, wGo_end h3']
          refine FinK.tup ?_ ?_
          all_goals (try refine amF (h := ?_))
          all_goals (try with_reducible apply True.intro)
        · have h3 : 3 < (m.getD i []).length := by omega
          have h7 : i ≠ 7 := by omega
          refine ⟨(i + 1, wStep i m), ?_, ⟨show i + 1 < 8 by omega, wInv_step hinv h3 h7, ?_⟩, show 8 - (i + 1) < 8 - i by omega⟩
          · refine Le.auto [] (r0 := ?r06) (ren := ?ren6) ?ea6 ?eb6 ?a6 ?b6 ?c6 ?d6 ?ho6 ?hn6 ?ht6
            case ea6 => exact amR
            case eb6 => exact amR
            case a6 => exact rfl
            case b6 => exact rfl
            case c6 => exact rfl
            case d6 => exact rfl
            all_goals (try refine amL (h := ?_))
            all_goals (try with_reducible apply True.intro)
            refine boxLe ?_
            have hlen : (wStep i m).length = m.length := by rw [wStep_len]; have := wExt_len (r := i) w2; omega
            refine rowsLe2 (by rw [hlen]) (fun a ha => ?_)
            rw [wStep_at w2]
            by_cases e1 : a = i
            · subst e1
              simp only [hn2, and_true, if_false, if_true, Nat.le_refl, Nat.zero_lt_one, gl]
              all_goals (first | exact dropLe rfl)
            · by_cases e2 : a = i + 1
              · subst e2
                simp only [hn1, and_true, if_false, if_true, Nat.le_refl, Nat.zero_lt_one, gl]
                all_goals (first | exact appInt rfl)
              · simp only [e1, e2, false_and, if_false]
                all_goals (first | exact .refl _)
          · show wAdd l bit = wGo (8 - (i + 1)) (i + 1) (wStep i m)
            rw [he, show 8 - i = (8 - (i + 1)) + 1 by omega, wGo_step h3 h7]
end Go.AM
namespace Go.AM
open Go Go.Proofs
set_option maxRecDepth 100000
theorem okL47 {m : List (List Int)} (hm : okL (2 ^ 40) m) : okL (2 ^ 47) m := ⟨by have := hm.1; omega, fun r hr => ⟨by have := (hm.2 r hr).1; omega, (hm.2 r hr).2⟩⟩
set_option maxHeartbeats 8000000 in
theorem implShrink (l : List (List Int)) (k : Int) (u v : Bool) (h : okL (2 ^ 40) l) (hk : inK .i64 k) : ACalls Try.prog 28 [.agg [aL u v l], .one (.int .i64 k)] (fun r => r = .tup [.agg [aL true true (shrink l k).1], .one (.int .i64 (shrink l k).2)]) := by
  have hl := h.1
  have nt : Try.f28.ntmps = 23 := rfl
  have rs : Try.f28.results = #[.cell 4 50, .tmp 5] := rfl
  refine ACalls.of_run (m := 400) mixed Try.func28 rfl rfl (Nat.le_of_ble_eq_true rfl) ?_
  simp only [nt, rs]
  clear nt rs
  (try refine am (h := ?_)); (try with_reducible apply True.intro)
  first | refine CallK.one (cloneWindowI l _ _ h) (fun _ => amC) ?_ | refine CallE.one (cloneWindowI l _ _ h) (fun _ => amC) rfl ?_ | refine CallG.one rfl (fun hg => cloneWindowI l _ _ h) ?_ | refine CallEG.one rfl rfl (fun hg => cloneWindowI l _ _ h) ?_ | refine CallCE.one (cloneWindowI l _ _ h) (fun _ => amC) rfl ?_
  (try refine am (h := ?_)); (try with_reducible apply True.intro)
  repeat' (first | (with_reducible refine And.intro ?_ ?_) | (with_reducible intro _))
  all_goals try (first | omega | with_reducible rfl | ((with_reducible refine eqId ?_); exact rfl) | with_reducible (first | assumption | exact pl ‹_› | exact pr ‹_› | exact plr ‹_› | exact pll ‹_› | exact prl ‹_› | exact plll ‹_› | exact prll ‹_›))
  refine LoopK.auto ((List (List Int) × Nat)) (fun p => [(7, .one (.av (.int .i64 p.2))), (6, .one (.ref 302 [] [0] 0 0))]) (fun p => [(302, ⟨.sl true none 1 1 (fun _ _ => .sl true none 1 p.1.length (fL true p.1)), []⟩)]) [1, 4] (k0 := ?k01) (keepH := ?kh1) 400 (fun p => shInv l k p) (fun p => wMu p.1) ((l, 0)) ?kea1 ?keb1 ?_ ?_ ?_
  case kea1 => exact amN
  case keb1 => exact amN
  · exact shInv_start h
  · refine Le.auto [] (r0 := ?r01) (ren := ?ren1) ?ea1 ?eb1 ?a1 ?b1 ?c1 ?d1 ?ho1 ?hn1 ?ht1
    case ea1 => exact amR
    case eb1 => exact amR
    case a1 => exact rfl
    case b1 => exact rfl
    case c1 => exact rfl
    case d1 => exact rfl
    all_goals (try refine amL (h := ?_))
    all_goals (try with_reducible apply True.intro)
    exact boxLe (.refl _)
  · rintro ⟨m, n⟩ hinv
    have hm : okL (2 ^ 40) m := hinv.1
    have hn : n ≤ 24 := by
      rcases hinv.2.1 with h0 | h0
      · have : n = 0 := h0
        omega
      · have : n + wMu m ≤ 24 := h0.2
        omega
    have hnn := cutAt_nn (l := m) (k := k)
    (try refine am (h := ?_)); (try with_reducible apply True.intro)
    first | refine CallK.one (implCutAt m k _ _ (okL47 hm) hk) (fun _ => amC) ?_ | refine CallE.one (implCutAt m k _ _ (okL47 hm) hk) (fun _ => amC) rfl ?_ | refine CallG.one rfl (fun hg => implCutAt m k _ _ (okL47 hm) hk) ?_ | refine CallEG.one rfl rfl (fun hg => implCutAt m k _ _ (okL47 hm) hk) ?_ | refine CallCE.one (implCutAt m k _ _ (okL47 hm) hk) (fun _ => amC) rfl ?_
    (try refine am (h := ?_)); (try with_reducible apply True.intro)
    repeat' (first | (with_reducible refine And.intro ?_ ?_) | (with_reducible intro _))
    all_goals try (first | omega | with_reducible rfl | ((with_reducible refine eqId ?_); exact rfl) | with_reducible (first | assumption | exact pl ‹_› | exact pr ‹_› | exact plr ‹_› | exact pll ‹_› | exact prl ‹_› | exact plll ‹_› | exact prll ‹_›))
    · have hc : cutAt m k ≠ 0 := by omega
      first | refine CallK.one (implWindowDrop m _ _ hm) (fun _ => amC) ?_ | refine CallE.one (implWindowDrop m _ _ hm) (fun _ => amC) rfl ?_ | refine CallG.one rfl (fun hg => implWindowDrop m _ _ hm) ?_ | refine CallEG.one rfl rfl (fun hg => implWindowDrop m _ _ hm) ?_ | refine CallCE.one (implWindowDrop m _ _ hm) (fun _ => amC) rfl ?_
      (try refine am (h := ?_)); (try with_reducible apply True.intro)
      repeat' (first | (with_reducible refine And.intro ?_ ?_) | (with_reducible intro _))
      all_goals try (first | omega | with_reducible rfl | ((with_reducible refine eqId ?_); exact rfl) | with_reducible (first | assumption | exact pl ‹_› | exact pr ‹_› | exact plr ‹_› | exact pll ‹_› | exact prl ‹_› | exact plll ‹_› | exact prll ‹_›))
      refine ⟨(wDropA m, n + 1), ?_, shInv_step hinv hc, (wDropA_cut hc).2.2⟩
      refine Le.auto [] (r0 := ?r02) (ren := ?ren2) ?ea2 ?eb2 ?a2 ?b2 ?c2 ?d2 ?ho2 ?hn2 ?ht2
      case ea2 => exact amR
      case eb2 => exact amR
      case a2 => exact rfl
      case b2 => exact rfl
      case c2 => exact rfl
      case d2 => exact rfl
      all_goals (try refine amL (h := ?_))
      all_goals (try with_reducible apply True.intro)
      all_goals (first | exact boxLe (.refl _))
    · have hc : cutAt m k = 0 := by omega
      have he := shInv_end hinv hc
      rw [he.1]
      refine FinK.tup ?_ ?_
      all_goals (try refine amF (h := ?_))
      all_goals (try with_reducible apply True.intro)
set_option maxHeartbeats 8000000 in
theorem specShrink (l : List (List Int)) (k : Int) (u v : Bool) (h : okL (2 ^ 40) l) (hk : inK .i64 k) : ACalls Try.prog 29 [.agg [aL u v l], .one (.int .i64 k)] (fun r => r = .tup [.agg [aL true true (shrink l k).1], .one (.int .i64 (shrink l k).2)]) := by
  have hl := h.1
  have nt : Try.f29.ntmps = 23 := rfl
  have rs : Try.f29.results = #[.cell 4 50, .tmp 5] := rfl
  refine ACalls.of_run (m := 400) mixed Try.func29 rfl rfl (Nat.le_of_ble_eq_true rfl) ?_
  simp only [nt, rs]
  clear nt rs
  (try refine am (h := ?_)); (try with_reducible apply True.intro)
  first | refine CallK.one (l16CopyI l _ _ h) (fun _ => amC) ?_ | refine CallE.one (l16CopyI l _ _ h) (fun _ => amC) rfl ?_ | refine CallG.one rfl (fun hg => l16CopyI l _ _ h) ?_ | refine CallEG.one rfl rfl (fun hg => l16CopyI l _ _ h) ?_ | refine CallCE.one (l16CopyI l _ _ h) (fun _ => amC) rfl ?_
  (try refine am (h := ?_)); (try with_reducible apply True.intro)
  repeat' (first | (with_reducible refine And.intro ?_ ?_) | (with_reducible intro _))
  all_goals try (first | omega | with_reducible rfl | ((with_reducible refine eqId ?_); exact rfl) | with_reducible (first | assumption | exact pl ‹_› | exact pr ‹_› | exact plr ‹_› | exact pll ‹_› | exact prl ‹_› | exact plll ‹_› | exact prll ‹_›))
  refine LoopK.auto ((List (List Int) × Nat)) (fun p => [(7, .one (.av (.int .i64 p.2))), (6, .one (.ref 302 [] [0] 0 0))]) (fun p => [(302, ⟨.sl true none 1 1 (fun _ _ => .sl true none 1 p.1.length (fL true p.1)), []⟩)]) [1, 4] (k0 := ?k02) (keepH := ?kh2) 400 (fun p => shInv l k p) (fun p => wMu p.1) ((l, 0)) ?kea2 ?keb2 ?_ ?_ ?_
  case kea2 => exact amN
  case keb2 => exact amN
  · exact shInv_start h
  · refine Le.auto [] (r0 := ?r03) (ren := ?ren3) ?ea3 ?eb3 ?a3 ?b3 ?c3 ?d3 ?ho3 ?hn3 ?ht3
    case ea3 => exact amR
    case eb3 => exact amR
    case a3 => exact rfl
    case b3 => exact rfl
    case c3 => exact rfl
    case d3 => exact rfl
    all_goals (try refine amL (h := ?_))
    all_goals (try with_reducible apply True.intro)
    exact boxLe (.refl _)
  · rintro ⟨m, n⟩ hinv
    have hm : okL (2 ^ 40) m := hinv.1
    have hn : n ≤ 24 := by
      rcases hinv.2.1 with h0 | h0
      · have : n = 0 := h0
        omega
      · have : n + wMu m ≤ 24 := h0.2
        omega
    have hnn := cutAt_nn (l := m) (k := k)
    (try refine am (h := ?_)); (try with_reducible apply True.intro)
    first | refine CallK.one (specCutAt m k _ _ (okL47 hm) hk) (fun _ => amC) ?_ | refine CallE.one (specCutAt m k _ _ (okL47 hm) hk) (fun _ => amC) rfl ?_ | refine CallG.one rfl (fun hg => specCutAt m k _ _ (okL47 hm) hk) ?_ | refine CallEG.one rfl rfl (fun hg => specCutAt m k _ _ (okL47 hm) hk) ?_ | refine CallCE.one (specCutAt m k _ _ (okL47 hm) hk) (fun _ => amC) rfl ?_
    (try refine am (h := ?_)); (try with_reducible apply True.intro)
    repeat' (first | (with_reducible refine And.intro ?_ ?_) | (with_reducible intro _))
    all_goals try (first | omega | with_reducible rfl | ((with_reducible refine eqId ?_); exact rfl) | with_reducible (first | assumption | exact pl ‹_› | exact pr ‹_› | exact plr ‹_› | exact pll ‹_› | exact prl ‹_› | exact plll ‹_› | exact prll ‹_›))
    · have hc : cutAt m k ≠ 0 := by omega
      first | refine CallK.one (specWindowDrop m _ _ hm) (fun _ => amC) ?_ | refine CallE.one (specWindowDrop m _ _ hm) (fun _ => amC) rfl ?_ | refine CallG.one rfl (fun hg => specWindowDrop m _ _ hm) ?_ | refine CallEG.one rfl rfl (fun hg => specWindowDrop m _ _ hm) ?_ | refine CallCE.one (specWindowDrop m _ _ hm) (fun _ => amC) rfl ?_
      (try refine am (h := ?_)); (try with_reducible apply True.intro)
      repeat' (first | (with_reducible refine And.intro ?_ ?_) | (with_reducible intro _))
      all_goals try (first | omega | with_reducible rfl | ((with_reducible refine eqId ?_); exact rfl) | with_reducible (first | assumption | exact pl ‹_› | exact pr ‹_› | exact plr ‹_› | exact pll ‹_› | exact prl ‹_› | exact plll ‹_› | exact prll ‹_›))
      refine ⟨(wDropA m, n + 1), ?_, shInv_step hinv hc, (wDropA_cut hc).2.2⟩
      refine Le.auto [] (r0 := ?r04) (ren := ?ren4) ?ea4 ?eb4 ?a4 ?b4 ?c4 ?d4 ?ho4 ?hn4 ?ht4
      case ea4 => exact amR
      case eb4 => exact amR
      case a4 => exact rfl
      case b4 => exact rfl
      case c4 => exact rfl
      case d4 => exact rfl
      all_goals (try refine amL (h := ?_))
      all_goals (try with_reducible apply True.intro)
      all_goals (first | exact boxLe (.refl _))
    · have hc : cutAt m k = 0 := by omega
      have he := shInv_end hinv hc
      rw [he.1]
      refine FinK.tup ?_ ?_
      all_goals (try refine amF (h := ?_))
      all_goals (try with_reducible apply True.intro)
end Go.AM
namespace Go.AM
open Go Go.Proofs
set_option maxRecDepth 100000
end Go.AM
