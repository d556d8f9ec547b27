/- Lemmas for the proof of this claim. -/
import Derived.Test.YtpbahibieegbgaaGreatDll
import Derived.Test.YtpbahibieegbgaaGreatAm4
import Derived.Test.YtpbahibieegbgaaGreatSpl
import Derived.Test.YtpbahibieegbgaaGreatPth
namespace Go.AM
open Go Go.Proofs
set_option maxRecDepth 100000
set_option maxHeartbeats 8000000 in
theorem spec_DrawPathTo (code : List UInt8) (h : code.length ≤ 2 ^ 40) : ACalls Tryz.prog 19 [.one (aB false code)] (fun r => ∃ x : DSchema × DTree × DEx, (okSchema (2 ^ 10) x.1 ∧ (okTree (2 ^ 12) x.2.1 ∧ x.2.1.nodes.length ≤ 31) ∧ okEx (2 ^ 20 + 1) x.2.2) ∧ r = .tup [.agg (cSchema true true x.1), .agg (cTree true true x.2.1), .agg (cEx true false x.2.2)]) := by
 have nt : Tryz.f19.ntmps = 20 := rfl
 have rs : Tryz.f19.results = #[.cell 2 27, .cell 3 30, .cell 4 50] := rfl
 refine ACalls.of_runC (m := 400) mixed Tryz.func19 rfl rfl (Nat.le_of_ble_eq_true rfl) ?_
 simp only [nt, rs]
 clear nt rs
 (try refine am (h := ?_)); (try exact amT)
 repeat' with_reducible first|apply And.intro|intro _
 all_goals try exact amA
 refine CallK.new (spec_l1New code h) ?_
 rintro xc
 (try refine am (h := ?_)); (try exact amT)
 repeat' with_reducible first|apply And.intro|intro _
 all_goals try exact amA
 refine CallK.cur (spec_l5Right code.length h) rfl rfl rfl (fun _ _ _ => amC) ?_
 rintro s ⟨hs, hs1, hs2, _⟩
 (try refine am (h := ?_)); (try exact amT)
 have hs20 : okSchema (2 ^ 20) s := okSchema_up hs
 repeat' with_reducible first|apply And.intro|intro _
 all_goals try exact amA
 refine CallK.cur (spec_l19Draw code.length h s _ _ hs20 hs2) rfl rfl rfl (fun _ _ _ => amC) ?_
 rintro t ht
 (try refine am (h := ?_)); (try exact amT)
 repeat' with_reducible first|apply And.intro|intro _
 all_goals try exact amA
 refine CallCE.cur (spec_l7Draw code.length h s _ _ hs20) rfl (⟨[], 0⟩) ?hcq rfl rfl rfl (fun _ _ _ => amC) (fun _ => rfl) (fun _ => rfl) ?_
 case hcq => exact ⟨⟨Nat.zero_le _, fun x hx => by simp at hx⟩, ⟨by show IntKind.i64.min ≤ (0 : Int); decide, by show (0 : Int) ≤ IntKind.i64.max; decide⟩⟩
 rintro e he
 (try refine am (h := ?_)); (try exact amT)
 repeat' with_reducible first|apply And.intro|intro _
 all_goals try exact amA
 refine FinK.ex ((s, t, e)) ?hq1 ?_
 case hq1 => exact ⟨hs, ht, he⟩
 refine FinK.tup ?_ ?_
 all_goals (try refine amF (h := ?_))
 all_goals (try exact amT)
theorem rowApp2 {l : List (List Int)} {q : List Int} {nl : Option Bool} {F : AV} (hF : ALe F (.sl true none 1 q.length (fI q))) : ALe (.sl true nl 1 (l.length + 1) (apF l.length (fL true l) (rowsF [[F]]))) (.sl true none 1 (l ++ [q]).length (fL true (l ++ [q]))) := by
 refine rowsLe2 (by simp) (fun i hi => ?_)
 unfold apF
 by_cases e : i < l.length
 ·have e1 : (l ++ [q]).getD i [] = l.getD i [] := by rw [List.getD_eq_getElem?_getD, List.getElem?_append_left e, ← List.getD_eq_getElem?_getD]
  rw [if_pos e, e1]
  exact .refl _
 ·obtain rfl : i = l.length := by omega
  have e1 : (l ++ [q]).getD l.length [] = q := by rw [List.getD_eq_getElem?_getD, List.getElem?_append_right (Nat.le_refl _), Nat.sub_self]; rfl
  rw [if_neg e, Nat.sub_self, e1]
  exact hF
theorem rowSt3 {l : List (List Int)} {r : List Int} (hk : 0 < l.length) {F : AV} (hF : ALe F (.sl true none 1 r.length (fI r))) : ALe (.sl true none 1 l.length fun i' j' => if i' = 0 ∧ 0 ≤ j' ∧ j' < 1 then gl .junk [F] j' else fL true l i' j') (.sl true none 1 (l.set 0 r).length (fL true (l.set 0 r))) := by
 refine rowsLe2 (by simp) (fun i hi => ?_)
 by_cases e : i = 0
 ·subst e
  have e1 : (l.set 0 r).getD 0 [] = r := by rw [List.getD_eq_getElem?_getD, List.getElem?_set]; simp [hk]
  rw [if_pos ⟨rfl, Nat.le_refl _, Nat.zero_lt_one⟩, e1]
  exact hF
 ·have e1 : (l.set 0 r).getD i [] = l.getD i [] := by rw [List.getD_eq_getElem?_getD, List.getElem?_set, if_neg (Ne.symm e), ← List.getD_eq_getElem?_getD]
  rw [if_neg (fun h => e h.1), e1]
  exact .refl _
set_option maxHeartbeats 16000000 in
theorem spec_DrawSplitAt (code : List UInt8) (h : code.length ≤ 2 ^ 40) : ACalls Tryz.prog 21 [.one (aB false code)] (fun r => ∃ x : DSchema × DTree × Int × DFork × List (List Int), (okSchema (2 ^ 10) x.1 ∧ (okTree (2 ^ 12) x.2.1 ∧ x.2.1.nodes.length ≤ 31) ∧ inK .i64 x.2.2.1 ∧ okFork (2 ^ 20) x.2.2.2.1 ∧ okL (2 ^ 10) x.2.2.2.2) ∧ r = .tup [.agg (cSchema true true x.1), .agg (cTree true true x.2.1), .one (.int .i64 x.2.2.1), .agg (cFork x.2.2.2.1), .one (aL true true x.2.2.2.2)]) := by
 have nt : Tryz.f21.ntmps = 92 := rfl
 have rs : Tryz.f21.results = #[.cell 2 27, .cell 3 30, .tmp 4, .cell 5 43, .tmp 6] := rfl
 refine ACalls.of_runC (m := 400) mixed Tryz.func21 rfl rfl (Nat.le_of_ble_eq_true rfl) ?_
 simp only [nt, rs]
 clear nt rs
 (try refine am (h := ?_)); (try exact amT)
 repeat' with_reducible first|apply And.intro|intro _
 all_goals try exact amA
 refine CallK.new (spec_l1New code h) ?_
 rintro xc
 (try refine am (h := ?_)); (try exact amT)
 repeat' with_reducible first|apply And.intro|intro _
 all_goals try exact amA
 refine CallK.cur (spec_l5Right code.length h) rfl rfl rfl (fun _ _ _ => amC) ?_
 rintro s ⟨hs, hs1, hs2, _⟩
 (try refine am (h := ?_)); (try exact amT)
 have hs20 : okSchema (2 ^ 20) s := okSchema_up hs
 have hs47 : okSchema (2 ^ 47) s := okSchema_up hs
 repeat' with_reducible first|apply And.intro|intro _
 all_goals try exact amA
 refine CallK.cur (spec_l19Draw code.length h s _ _ hs20 hs2) rfl rfl rfl (fun _ _ _ => amC) ?_
 rintro t ⟨ht, htl⟩
 (try refine am (h := ?_)); (try exact amT)
 have ht47 : okTree (2 ^ 47) t := okTree_up ht
 repeat' with_reducible first|apply And.intro|intro _
 all_goals try exact amA
 refine CallK.cur (spec_l9Draw code.length h s _ _ hs20) rfl rfl rfl (fun _ _ _ => amC) ?_
 rintro f hf
 (try refine am (h := ?_)); (try exact amT)
 have hbr := branches_le s f
 repeat' with_reducible first|apply And.intro|intro _
 all_goals try exact amA
 refine LoopK.auto ((List (List Int))) (fun x => [(12, .one (.av (.int .i64 x.length))), (11, .one (.own 302 [] [0]))]) (fun x => [(302, ⟨.sl true none 1 x.length (fL true x), []⟩)]) [2, 3, 5, 7, 8, 9, 10] (k0 := ?k01) (keepH := ?kh1) 900 (fun x => x.length ≤ branches s f ∧ ∀ l ∈ x, okI 10 l) (fun x => branches s f - x.length) ([]) ?kea1 ?keb1 ?_ ?_ ?_
 case kea1 => exact amN
 case keb1 => exact amN
 ·exact ⟨Nat.zero_le _, fun l hl => by simp at hl⟩
 ·refine Le.auto [] (r0 := ?r01) (ren := ?ren1) ?ea1 ?eb1 ?a1 ?b1 ?c1 ?d1 ?ho1 ?hn1 ?ht1
  case ea1 => exact amR
  case eb1 => exact amR
  case a1 => exact rfl
  case b1 => exact rfl
  case c1 => exact rfl
  case d1 => exact rfl
  all_goals (try refine amL (h := ?_))
  all_goals (try exact amT)
  exact ALe.of (.inl rfl) rfl (fun i hi => by omega)
 ·intro l hl0
  obtain ⟨hl, hb⟩ := hl0
  (try refine am (h := ?_)); (try exact amT)
  refine CallK.one (specBranches s f _ _ hs47 hf) (fun _ => amC) ?_
  (try refine am (h := ?_)); (try exact amT)
  repeat' with_reducible first|apply And.intro|intro _
  all_goals try exact amA
  ·refine CallK.cur (spec_l9RightAttrs code.length h s _ _ hs20) rfl rfl rfl (fun _ _ _ => amC) ?_
   rintro q hq
   (try refine am (h := ?_)); (try exact amT)
   repeat' with_reducible first|apply And.intro|intro _
   all_goals try exact amA
   refine ⟨l ++ [q], ?_, ⟨by simp; omega, fun y hy => ?_⟩, by simp; omega⟩
   ·refine Le.auto [] (r0 := ?r02) (ren := ?ren2) ?ea2 ?eb2 ?a2 ?b2 ?c2 ?d2 ?ho2 ?hn2 ?ht2
    case ea2 => exact amR
    case eb2 => exact amR
    case a2 => exact rfl
    case b2 => exact rfl
    case c2 => exact rfl
    case d2 => exact rfl
    all_goals (try refine amL (h := ?_))
    all_goals (try exact amT)
    ·exact rowApp rfl
    ·simp
   ·rcases List.mem_append.1 hy with h | h
    ·exact hb y h
    ·have : y = q := by simpa using h
     subst this; exact okI_up hq (by omega)
  ·have hL : ∀ (m : List (List Int)), m.length ≤ 10 → (∀ y ∈ m, okI 10 y) → okL (2 ^ 10) m := fun m h1 h2 => ⟨by omega, fun y hy => okI_up (h2 y hy) (by decide)⟩
   have hkk : ∀ z : Int, (-1000000 ≤ z ∧ z ≤ 1000000) → inK .i64 z := fun z h => ⟨by show (-9223372036854775808 : Int) ≤ z; omega, by show z ≤ (9223372036854775807 : Int); omega⟩
   refine CallK.cur (spec_l1Below code.length h 10) rfl rfl rfl (fun _ _ _ => amC) ?_
   rintro z ⟨hz0, hz1⟩
   (try refine am (h := ?_)); (try exact amT)
   repeat' with_reducible first|apply And.intro|intro _
   all_goals try exact amA
   ·have hsets : okL (2 ^ 10) (l ++ [[0]]) := hL _ (by simp; omega) (fun y hy => by rcases List.mem_append.1 hy with h | h; exact hb y h; obtain rfl : y = [0] := (by simpa using h); exact ⟨by decide, fun x hx => by simp at hx; subst hx; exact ⟨by decide, by decide⟩⟩)
    refine CallK.cur (spec_l1Below code.length h _) rfl rfl rfl (fun _ _ _ => amC) ?_
    rintro a ⟨ha0, ha1⟩
    (try refine am (h := ?_)); (try exact amT)
    repeat' with_reducible first|apply And.intro|intro _
    all_goals try exact amA
    refine CallK.one (specActiveLeaves t _ _ (by omega) ht47) (fun _ => amC) ?_
    (try refine am (h := ?_)); (try exact amT)
    repeat' with_reducible first|apply And.intro|intro _
    all_goals try exact amA
    by_cases h0 : (0 : Int) < ((activeL t).length : Int)
    ·simp only [decide_eq_true h0]
     refine CallG.cur (spec_l1Once code.length h 4) rfl rfl rfl (fun _ _ _ => amC) ?_
     rintro b hb
     (try refine am (h := ?_)); (try exact amT)
     repeat' with_reducible first|apply And.intro|intro _
     all_goals try exact amA
     ·refine CallK.cur (spec_l1Below code.length h _) rfl rfl rfl (fun _ _ _ => amC) ?_
      rintro d ⟨hd0, hd1⟩
      (try refine am (h := ?_)); (try exact amT)
      have har := activeL_rng t d.toNat (by omega)
      repeat' with_reducible first|apply And.intro|intro _
      all_goals try exact amA
      refine FinK.ex ((s, t, (activeL t).getD d.toNat 0, f, l ++ [[0]])) ?hq3 ?_
      case hq3 => exact ⟨hs, ⟨ht, htl⟩, hkk _ (by dsimp only; omega), hf, hsets⟩
      refine FinK.tup ?_ ?_
      all_goals (try refine amF (h := ?_))
      all_goals (try exact amT)
      exact rowApp2 oneI0
     ·refine FinK.ex ((s, t, a - 1, f, l ++ [[0]])) ?hq4 ?_
      case hq4 => exact ⟨hs, ⟨ht, htl⟩, hkk _ (by dsimp only; omega), hf, hsets⟩
      refine FinK.tup ?_ ?_
      all_goals (try refine amF (h := ?_))
      all_goals (try exact amT)
      exact rowApp2 oneI0
    ·simp only [decide_eq_false h0]
     refine CallG.skip ((.one (.bool true))) ?_
     (try refine am (h := ?_)); (try exact amT)
     repeat' with_reducible first|apply And.intro|intro _
     all_goals try exact amA
     refine FinK.ex ((s, t, a - 1, f, l ++ [[0]])) ?hq5 ?_
     case hq5 => exact ⟨hs, ⟨ht, htl⟩, hkk _ (by dsimp only; omega), hf, hsets⟩
     refine FinK.tup ?_ ?_
     all_goals (try refine amF (h := ?_))
     all_goals (try exact amT)
     exact rowApp2 oneI0
   ·refine CallK.cur (spec_l9Attrs code.length h s _ _ hs20) rfl rfl rfl (fun _ _ _ => amC) ?_
    rintro q hq
    (try refine am (h := ?_)); (try exact amT)
    repeat' with_reducible first|apply And.intro|intro _
    all_goals try exact amA
    have hsets : okL (2 ^ 10) (l ++ [q]) := hL _ (by simp; omega) (fun y hy => by rcases List.mem_append.1 hy with h | h; exact hb y h; obtain rfl : y = q := (by simpa using h); exact okI_up hq (by omega))
    refine CallK.cur (spec_l1Below code.length h _) rfl rfl rfl (fun _ _ _ => amC) ?_
    rintro a ⟨ha0, ha1⟩
    (try refine am (h := ?_)); (try exact amT)
    repeat' with_reducible first|apply And.intro|intro _
    all_goals try exact amA
    refine CallK.one (specActiveLeaves t _ _ (by omega) ht47) (fun _ => amC) ?_
    (try refine am (h := ?_)); (try exact amT)
    repeat' with_reducible first|apply And.intro|intro _
    all_goals try exact amA
    by_cases h0 : (0 : Int) < ((activeL t).length : Int)
    ·simp only [decide_eq_true h0]
     refine CallG.cur (spec_l1Once code.length h 4) rfl rfl rfl (fun _ _ _ => amC) ?_
     rintro b hb
     (try refine am (h := ?_)); (try exact amT)
     repeat' with_reducible first|apply And.intro|intro _
     all_goals try exact amA
     ·refine CallK.cur (spec_l1Below code.length h _) rfl rfl rfl (fun _ _ _ => amC) ?_
      rintro d ⟨hd0, hd1⟩
      (try refine am (h := ?_)); (try exact amT)
      have har := activeL_rng t d.toNat (by omega)
      repeat' with_reducible first|apply And.intro|intro _
      all_goals try exact amA
      refine FinK.ex ((s, t, (activeL t).getD d.toNat 0, f, l ++ [q])) ?hq6 ?_
      case hq6 => exact ⟨hs, ⟨ht, htl⟩, hkk _ (by dsimp only; omega), hf, hsets⟩
      refine FinK.tup ?_ ?_
      all_goals (try refine amF (h := ?_))
      all_goals (try exact amT)
      exact rowApp rfl
     ·refine FinK.ex ((s, t, a - 1, f, l ++ [q])) ?hq7 ?_
      case hq7 => exact ⟨hs, ⟨ht, htl⟩, hkk _ (by dsimp only; omega), hf, hsets⟩
      refine FinK.tup ?_ ?_
      all_goals (try refine amF (h := ?_))
      all_goals (try exact amT)
      exact rowApp rfl
    ·simp only [decide_eq_false h0]
     refine CallG.skip ((.one (.bool true))) ?_
     (try refine am (h := ?_)); (try exact amT)
     repeat' with_reducible first|apply And.intro|intro _
     all_goals try exact amA
     refine FinK.ex ((s, t, a - 1, f, l ++ [q])) ?hq8 ?_
     case hq8 => exact ⟨hs, ⟨ht, htl⟩, hkk _ (by dsimp only; omega), hf, hsets⟩
     refine FinK.tup ?_ ?_
     all_goals (try refine amF (h := ?_))
     all_goals (try exact amT)
     exact rowApp rfl
   ·have hsets : okL (2 ^ 10) (l.set 0 []) := okL_setK (hL l (by omega) hb) ⟨Nat.zero_le _, fun x hx => by simp at hx⟩
    refine CallK.cur (spec_l1Below code.length h _) rfl rfl rfl (fun _ _ _ => amC) ?_
    rintro a ⟨ha0, ha1⟩
    (try refine am (h := ?_)); (try exact amT)
    repeat' with_reducible first|apply And.intro|intro _
    all_goals try exact amA
    refine CallK.one (specActiveLeaves t _ _ (by omega) ht47) (fun _ => amC) ?_
    (try refine am (h := ?_)); (try exact amT)
    repeat' with_reducible first|apply And.intro|intro _
    all_goals try exact amA
    by_cases h0 : (0 : Int) < ((activeL t).length : Int)
    ·simp only [decide_eq_true h0]
     refine CallG.cur (spec_l1Once code.length h 4) rfl rfl rfl (fun _ _ _ => amC) ?_
     rintro b hb
     (try refine am (h := ?_)); (try exact amT)
     repeat' with_reducible first|apply And.intro|intro _
     all_goals try exact amA
     ·refine CallK.cur (spec_l1Below code.length h _) rfl rfl rfl (fun _ _ _ => amC) ?_
      rintro d ⟨hd0, hd1⟩
      (try refine am (h := ?_)); (try exact amT)
      have har := activeL_rng t d.toNat (by omega)
      repeat' with_reducible first|apply And.intro|intro _
      all_goals try exact amA
      refine FinK.ex ((s, t, (activeL t).getD d.toNat 0, f, l.set 0 [])) ?hq9 ?_
      case hq9 => exact ⟨hs, ⟨ht, htl⟩, hkk _ (by dsimp only; omega), hf, hsets⟩
      refine FinK.tup ?_ ?_
      all_goals (try refine amF (h := ?_))
      all_goals (try exact amT)
      exact rowSt3 (by omega) (ALe.of (.inl rfl) rfl (fun i hi => by omega))
     ·refine FinK.ex ((s, t, a - 1, f, l.set 0 [])) ?hq10 ?_
      case hq10 => exact ⟨hs, ⟨ht, htl⟩, hkk _ (by dsimp only; omega), hf, hsets⟩
      refine FinK.tup ?_ ?_
      all_goals (try refine amF (h := ?_))
      all_goals (try exact amT)
      exact rowSt3 (by omega) (ALe.of (.inl rfl) rfl (fun i hi => by omega))
    ·simp only [decide_eq_false h0]
     refine CallG.skip ((.one (.bool true))) ?_
     (try refine am (h := ?_)); (try exact amT)
     repeat' with_reducible first|apply And.intro|intro _
     all_goals try exact amA
     refine FinK.ex ((s, t, a - 1, f, l.set 0 [])) ?hq11 ?_
     case hq11 => exact ⟨hs, ⟨ht, htl⟩, hkk _ (by dsimp only; omega), hf, hsets⟩
     refine FinK.tup ?_ ?_
     all_goals (try refine amF (h := ?_))
     all_goals (try exact amT)
     exact rowSt3 (by omega) (ALe.of (.inl rfl) rfl (fun i hi => by omega))
   ·have hsets : okL (2 ^ 10) (l) := hL l (by omega) hb
    refine CallK.cur (spec_l1Below code.length h _) rfl rfl rfl (fun _ _ _ => amC) ?_
    rintro a ⟨ha0, ha1⟩
    (try refine am (h := ?_)); (try exact amT)
    repeat' with_reducible first|apply And.intro|intro _
    all_goals try exact amA
    refine CallK.one (specActiveLeaves t _ _ (by omega) ht47) (fun _ => amC) ?_
    (try refine am (h := ?_)); (try exact amT)
    repeat' with_reducible first|apply And.intro|intro _
    all_goals try exact amA
    by_cases h0 : (0 : Int) < ((activeL t).length : Int)
    ·simp only [decide_eq_true h0]
     refine CallG.cur (spec_l1Once code.length h 4) rfl rfl rfl (fun _ _ _ => amC) ?_
     rintro b hb
     (try refine am (h := ?_)); (try exact amT)
     repeat' with_reducible first|apply And.intro|intro _
     all_goals try exact amA
     ·refine CallK.cur (spec_l1Below code.length h _) rfl rfl rfl (fun _ _ _ => amC) ?_
      rintro d ⟨hd0, hd1⟩
      (try refine am (h := ?_)); (try exact amT)
      have har := activeL_rng t d.toNat (by omega)
      repeat' with_reducible first|apply And.intro|intro _
      all_goals try exact amA
      refine FinK.ex ((s, t, (activeL t).getD d.toNat 0, f, l)) ?hq12 ?_
      case hq12 => exact ⟨hs, ⟨ht, htl⟩, hkk _ (by dsimp only; omega), hf, hsets⟩
      refine FinK.tup ?_ ?_
      all_goals (try refine amF (h := ?_))
      all_goals (try exact amT)
     ·refine FinK.ex ((s, t, a - 1, f, l)) ?hq13 ?_
      case hq13 => exact ⟨hs, ⟨ht, htl⟩, hkk _ (by dsimp only; omega), hf, hsets⟩
      refine FinK.tup ?_ ?_
      all_goals (try refine amF (h := ?_))
      all_goals (try exact amT)
    ·simp only [decide_eq_false h0]
     refine CallG.skip ((.one (.bool true))) ?_
     (try refine am (h := ?_)); (try exact amT)
     repeat' with_reducible first|apply And.intro|intro _
     all_goals try exact amA
     refine FinK.ex ((s, t, a - 1, f, l)) ?hq14 ?_
     case hq14 => exact ⟨hs, ⟨ht, htl⟩, hkk _ (by dsimp only; omega), hf, hsets⟩
     refine FinK.tup ?_ ?_
     all_goals (try refine amF (h := ?_))
     all_goals (try exact amT)
   ·have hsets : okL (2 ^ 10) (l) := hL l (by omega) hb
    refine CallK.cur (spec_l1Below code.length h _) rfl rfl rfl (fun _ _ _ => amC) ?_
    rintro a ⟨ha0, ha1⟩
    (try refine am (h := ?_)); (try exact amT)
    repeat' with_reducible first|apply And.intro|intro _
    all_goals try exact amA
    refine CallK.one (specActiveLeaves t _ _ (by omega) ht47) (fun _ => amC) ?_
    (try refine am (h := ?_)); (try exact amT)
    repeat' with_reducible first|apply And.intro|intro _
    all_goals try exact amA
    by_cases h0 : (0 : Int) < ((activeL t).length : Int)
    ·simp only [decide_eq_true h0]
     refine CallG.cur (spec_l1Once code.length h 4) rfl rfl rfl (fun _ _ _ => amC) ?_
     rintro b hb
     (try refine am (h := ?_)); (try exact amT)
     repeat' with_reducible first|apply And.intro|intro _
     all_goals try exact amA
     ·refine CallK.cur (spec_l1Below code.length h _) rfl rfl rfl (fun _ _ _ => amC) ?_
      rintro d ⟨hd0, hd1⟩
      (try refine am (h := ?_)); (try exact amT)
      have har := activeL_rng t d.toNat (by omega)
      repeat' with_reducible first|apply And.intro|intro _
      all_goals try exact amA
      refine FinK.ex ((s, t, (activeL t).getD d.toNat 0, f, l)) ?hq15 ?_
      case hq15 => exact ⟨hs, ⟨ht, htl⟩, hkk _ (by dsimp only; omega), hf, hsets⟩
      refine FinK.tup ?_ ?_
      all_goals (try refine amF (h := ?_))
      all_goals (try exact amT)
     ·refine FinK.ex ((s, t, a - 1, f, l)) ?hq16 ?_
      case hq16 => exact ⟨hs, ⟨ht, htl⟩, hkk _ (by dsimp only; omega), hf, hsets⟩
      refine FinK.tup ?_ ?_
      all_goals (try refine amF (h := ?_))
      all_goals (try exact amT)
    ·simp only [decide_eq_false h0]
     refine CallG.skip ((.one (.bool true))) ?_
     (try refine am (h := ?_)); (try exact amT)
     repeat' with_reducible first|apply And.intro|intro _
     all_goals try exact amA
     refine FinK.ex ((s, t, a - 1, f, l)) ?hq17 ?_
     case hq17 => exact ⟨hs, ⟨ht, htl⟩, hkk _ (by dsimp only; omega), hf, hsets⟩
     refine FinK.tup ?_ ?_
     all_goals (try refine amF (h := ?_))
     all_goals (try exact amT)
end Go.AM
namespace Go.AM
open Go Go.Proofs
set_option maxRecDepth 100000
theorem spec_DrawPathToR (code : List UInt8) (h : code.length ≤ 2 ^ 40) : ACalls Tryz.prog 19 [.one (aB false code)] (fun r => ∃ x : DSchema × DTree × DEx, (okSchema (2 ^ 10) x.1 ∧ (okTree (2 ^ 12) x.2.1 ∧ x.2.1.nodes.length ≤ 31) ∧ okEx (2 ^ 20 + 1) x.2.2) ∧ r = .tup [.agg (cSchema false true x.1), .agg (cTree false true x.2.1), .agg (cEx false false x.2.2)]) :=
 ACalls.roX (spec_DrawPathTo code h)
theorem spec_DrawSplitAtR (code : List UInt8) (h : code.length ≤ 2 ^ 40) : ACalls Tryz.prog 21 [.one (aB false code)] (fun r => ∃ x : DSchema × DTree × Int × DFork × List (List Int), (okSchema (2 ^ 10) x.1 ∧ (okTree (2 ^ 12) x.2.1 ∧ x.2.1.nodes.length ≤ 31) ∧ inK .i64 x.2.2.1 ∧ okFork (2 ^ 20) x.2.2.2.1 ∧ okL (2 ^ 10) x.2.2.2.2) ∧ r = .tup [.agg (cSchema false true x.1), .agg (cTree false true x.2.1), .one (.int .i64 x.2.2.1), .agg (cFork x.2.2.2.1), .one (aL false true x.2.2.2.2)]) :=
 ACalls.roX (spec_DrawSplitAt code h)
end Go.AM
namespace Go.AM
open Go Go.Proofs
set_option maxRecDepth 100000
set_option maxHeartbeats 4000000 in
theorem implStatsTotal (s : DSchema) (t : DStats) (u v u' v' : Bool) (h : okSchema (2 ^ 47) s) (h' : okStats (2 ^ 47) t) : ACalls Tryz.prog 24 [.agg (cSchema u v s), .agg (cStats u' v' t)] (fun r => r = .val (.one (.int .i64 (if statsOk s t then tot1 t.totals else 0)))) := by
 have hl := h'.1.1
 have nt : Tryz.f24.ntmps = 12 := rfl
 have rs : Tryz.f24.results = #[.tmp 4] := rfl
 refine ACalls.of_run (m := 400) mixed Tryz.func24 rfl rfl (Nat.le_of_ble_eq_true rfl) ?_
 simp only [nt, rs]
 clear nt rs
 (try refine am (h := ?_)); (try exact amT)
 refine CallK.one (implStatsOk s t _ _ _ _ h h') (fun _ => amC) ?_
 (try refine am (h := ?_)); (try exact amT)
 repeat' with_reducible first|apply And.intro|intro _
 all_goals try exact amA
 ·refine FinK.val1 ?_ ?_
  all_goals (try refine amF (h := ?_))
  all_goals (try exact amT)
  rename_i h
  exact (if_neg h).symm
 rename_i hs
 have hm := statsOk_mx hs
 rw [if_pos hs]
 refine CallK.one (totalI t.totals _ _ 999 (by omega) hl hs.2.1.2 (by omega)) (fun _ => amC) ?_
 (try refine am (h := ?_)); (try exact amT)
 repeat' with_reducible first|apply And.intro|intro _
 all_goals try exact amA
 refine FinK.val1 ?_ ?_
 all_goals (try refine amF (h := ?_))
 all_goals (try exact amT)
theorem implSplitAtR (s : DSchema) (t : DTree) (i : Int) (f : DFork) (l : List (List Int)) (u v u' v' u2 v2 : Bool) (h : okSchema (2 ^ 47) s) (h' : okTree (2 ^ 40) t) (hn : t.nodes.length ≤ 2 ^ 38) (hi : inK .i64 i) (hf : okFork (2 ^ 47) f) (hl : okL (2 ^ 40) l) : ACalls Tryz.prog 22 [.agg (cSchema u v s), .agg (cTree u' v' t), .one (.int .i64 i), .agg (cFork f), .one (aL u2 v2 l)] (fun r => r = .tup [.agg (cTree false true (splitA s t i f l)), .one (.bool (decide (splitP s t i f l)))]) :=
 ACalls.ro1 (implSplitAt s t i f l u v u' v' u2 v2 h h' hn hi hf hl)
theorem specSplitAtR (s : DSchema) (t : DTree) (i : Int) (f : DFork) (l : List (List Int)) (u v u' v' u2 v2 : Bool) (h : okSchema (2 ^ 47) s) (h' : okTree (2 ^ 40) t) (hn : t.nodes.length ≤ 2 ^ 38) (hi : inK .i64 i) (hf : okFork (2 ^ 47) f) (hl : okL (2 ^ 40) l) : ACalls Tryz.prog 23 [.agg (cSchema u v s), .agg (cTree u' v' t), .one (.int .i64 i), .agg (cFork f), .one (aL u2 v2 l)] (fun r => r = .tup [.agg (cTree false true (splitA s t i f l)), .one (.bool (decide (splitP s t i f l)))]) :=
 ACalls.ro1 (specSplitAt s t i f l u v u' v' u2 v2 h h' hn hi hf hl)
theorem implLeafVoteR (s : DSchema) (t : DTree) (e : DEx) (u v u' v' w : Bool) (h : okSchema (2 ^ 47) s) (h' : okTree (2 ^ 47) t) (he : okEx (2 ^ 47) e) (hTE : treeOk s t ∧ exOk s e) : ACalls Tryz.prog 25 [.agg (cSchema u v s), .agg (cTree u' v' t), .agg (cEx w false e)] (fun r => r = .val (.one (aI false (leafVote s t e)))) :=
 ACalls.ro1 (implLeafVote s t e u v u' v' w h h' he hTE)
end Go.AM
