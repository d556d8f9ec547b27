/- Lemmas for the proof of this claim. -/
import Derived.Test.YtbfofhfeghfpoaaBas
import Derived.Test.YtbfofhfeghfpoaaData
import Derived.Test.YtbfofhfeghfpoaaWina
import Derived.Test.YtbfofhfeghfpoaaWinc
import Derived.Test.YtbfofhfeghfpoaaWlib
namespace Go.AM
open Go Go.Proofs
set_option maxRecDepth 100000
theorem appIntD {row : List Int} {x : Int} {nl : Option Bool} {n : Nat} (hn : n = row.length + 1) : ALe (.sl true nl 1 n (apF row.length (fI row) (rowsF [[.int .i64 x]]))) (.sl true none 1 (row ++ [x]).length (fI (row ++ [x]))) := by
  refine ALe.of (.inl rfl) (by simp [hn]) (fun i hi j hj => ?_)
  obtain rfl : j = 0 := by omega
  unfold apF
  by_cases h : i < row.length
  · rw [if_pos h, fI_at, fI_at, getD_app, if_pos h]; exact .refl _
  · obtain rfl : i = row.length := by omega
    rw [if_neg h, fI_at, getD_app, if_neg h]
    simp [rowsF, gl]
    exact .refl _
theorem okI_app1 {A B : Nat} {l : List Int} {x : Int} (h : okI A l) (hx : -1000000000000 ≤ x ∧ x ≤ 1000000000000) (hB : A + 1 ≤ B) : okI B (l ++ [x]) := by
  refine ⟨by have := h.1; simp; omega, fun y hy => ?_⟩
  simp only [List.mem_append, List.mem_singleton] at hy
  rcases hy with e | e
  · exact h.2 y e
  · subst e; exact ⟨by show (-9223372036854775808 : Int) ≤ y; omega, by show y ≤ (9223372036854775807 : Int); omega⟩
theorem okI_up {A B : Nat} {l : List Int} (h : okI A l) (hB : A ≤ B) : okI B l := ⟨by have := h.1; omega, h.2⟩
theorem okL_up {A B : Nat} {l : List (List Int)} (h : okL A l) (hB : A ≤ B := by decide) : okL B l := ⟨by have := h.1; omega, fun r hr => okI_up (h.2 r hr) hB⟩
theorem mem_app1 {l : List Int} {x y : Int} (h : y ∈ l ++ [x]) : y ∈ l ∨ y = x := by simpa using h
theorem ale_cur {xc : Value} {nb : Nat} {f : Nat → Nat → AV} (h0 : ALe (f 0 0) (.pin xc (curS nb))) (h1 : ALe (f 0 1) (.rng .i64 0 9223372036854775807)) (h2 : ALe (f 0 2) (AV.full .i64)) : ALe (.sl true none 3 1 f) (curA xc nb) := by
  refine .sl _ _ _ _ _ _ (fun i hi j hj => ?_)
  obtain rfl : i = 0 := by omega
  match j, hj with
  | 0, _ => exact h0
  | 1, _ => exact h1
  | 2, _ => exact h2
def anyV {α : Type} (x : α) : Prop := True
theorem anyV.mk {α : Type} (x : α) : anyV x := trivial
set_option maxHeartbeats 4000000 in
theorem spec_l1Byte (nb : Nat) (hn : nb ≤ 2 ^ 40) : ACur Try.prog 90 nb [] (fun r => ∃ z : Int, (0 ≤ z ∧ z ≤ 255) ∧ r = .val (.one (.int .i64 z))) := by
  refine ACur.unrng ?_
  have nt : Try.f90.ntmps = 58 := rfl
  have rs : Try.f90.results = #[.tmp 2] := rfl
  refine ACur.of_run0 (m := 400) (fun x (i : { i : Int // 0 ≤ i ∧ i ≤ 9223372036854775807 }) => curI x nb i.1) cur_open (fun _ _ => rfl) mixed Try.func90 rfl rfl (Nat.le_of_ble_eq_true rfl) (fun xc ix => ?_)
  obtain ⟨ic, hic0, hic1⟩ := ix
  simp only [nt, rs, curI, curS]
  clear nt rs
  (try refine am (h := ?_)); (try with_reducible apply True.intro)
  repeat' (first | (with_reducible refine And.intro ?_ ?_) | (with_reducible intro _))
  all_goals try (first | omega | with_reducible rfl | ((with_reducible refine eqId ?_); exact rfl) | with_reducible (first | assumption | exact pl ‹_› | exact pr ‹_› | exact plr ‹_› | exact pll ‹_› | exact prl ‹_› | exact plll ‹_› | exact prll ‹_›))
  · refine FinK.cur (x := xc) (n := nb) (ale_cur ?_ ?_ ?_) ⟨trivial, rfl⟩ rfl ?_
    · exact .refl _
    · exact ale_rng _ _ _ _ (by omega)
    · exact .refl _
    · refine FinK.val1 ?_ ?_
      all_goals (try refine amF (h := ?_))
      all_goals (try with_reducible apply True.intro)
  · refine FinK.cur (x := xc) (n := nb) (ale_cur ?_ ?_ ?_) ⟨trivial, rfl⟩ rfl ?_
    · exact .refl _
    · exact ale_rng _ _ _ _ (by omega)
    · exact .refl _
    · refine FinK.val1 ?_ ?_
      all_goals (try refine amF (h := ?_))
      all_goals (try with_reducible apply True.intro)
set_option maxHeartbeats 4000000 in
theorem spec_l1Below (nb : Nat) (hn : nb ≤ 2 ^ 40) (n : Int) : ACur Try.prog 49 nb [.one (.int .i64 n)] (fun r => ∃ z : Int, (0 ≤ z ∧ (z < n ∨ z = 0)) ∧ r = .val (.one (.int .i64 z))) := by
  have nt : Try.f49.ntmps = 37 := rfl
  have rs : Try.f49.results = #[.tmp 4] := rfl
  refine ACur.of_run (m := 400) mixed Try.func49 rfl rfl (Nat.le_of_ble_eq_true rfl) (fun xc => ?_)
  simp only [nt, rs]
  clear nt rs
  (try refine am (h := ?_)); (try with_reducible apply True.intro)
  repeat' (first | (with_reducible refine And.intro ?_ ?_) | (with_reducible intro _))
  all_goals try (first | omega | with_reducible rfl | ((with_reducible refine eqId ?_); exact rfl) | with_reducible (first | assumption | exact pl ‹_› | exact pr ‹_› | exact plr ‹_› | exact pll ‹_› | exact prl ‹_› | exact plll ‹_› | exact prll ‹_›))
  · refine FinK.cur (.refl _) ⟨trivial, rfl⟩ rfl ?_
    refine FinK.ex (0) ?hq1 ?_
    case hq1 => exact by omega
    refine FinK.val1 ?_ ?_
    all_goals (try refine amF (h := ?_))
    all_goals (try with_reducible apply True.intro)
  · refine CallK.cur (spec_l1Byte nb hn) rfl rfl rfl (fun _ _ _ => amC) ?_
    rintro z ⟨hz0, hz1⟩
    (try refine am (h := ?_)); (try with_reducible apply True.intro)
    repeat' (first | (with_reducible refine And.intro ?_ ?_) | (with_reducible intro _))
    all_goals try (first | omega | with_reducible rfl | ((with_reducible refine eqId ?_); exact rfl) | with_reducible (first | assumption | exact pl ‹_› | exact pr ‹_› | exact plr ‹_› | exact pll ‹_› | exact prl ‹_› | exact plll ‹_› | exact prll ‹_›))
    refine FinK.cur (.refl _) ⟨trivial, rfl⟩ rfl ?_
    refine FinK.ex (z.tmod n) ?hq2 ?_
    case hq2 => exact ⟨Int.tmod_nonneg _ hz0, .inl (Int.tmod_lt_of_pos _ (by omega))⟩
    refine FinK.val1 ?_ ?_
    all_goals (try refine amF (h := ?_))
    all_goals (try with_reducible apply True.intro)
  · refine CallK.cur (spec_l1Byte nb hn) rfl rfl rfl (fun _ _ _ => amC) ?_
    rintro z ⟨hz0, hz1⟩
    (try refine am (h := ?_)); (try with_reducible apply True.intro)
    repeat' (first | (with_reducible refine And.intro ?_ ?_) | (with_reducible intro _))
    all_goals try (first | omega | with_reducible rfl | ((with_reducible refine eqId ?_); exact rfl) | with_reducible (first | assumption | exact pl ‹_› | exact pr ‹_› | exact plr ‹_› | exact pll ‹_› | exact prl ‹_› | exact plll ‹_› | exact prll ‹_›))
    refine CallK.cur (spec_l1Byte nb hn) rfl rfl rfl (fun _ _ _ => amC) ?_
    rintro y ⟨hy0, hy1⟩
    (try refine am (h := ?_)); (try with_reducible apply True.intro)
    repeat' (first | (with_reducible refine And.intro ?_ ?_) | (with_reducible intro _))
    all_goals try (first | omega | with_reducible rfl | ((with_reducible refine eqId ?_); exact rfl) | with_reducible (first | assumption | exact pl ‹_› | exact pr ‹_› | exact plr ‹_› | exact pll ‹_› | exact prl ‹_› | exact plll ‹_› | exact prll ‹_›))
    refine CallK.cur (spec_l1Byte nb hn) rfl rfl rfl (fun _ _ _ => amC) ?_
    rintro x ⟨hx0, hx1⟩
    (try refine am (h := ?_)); (try with_reducible apply True.intro)
    repeat' (first | (with_reducible refine And.intro ?_ ?_) | (with_reducible intro _))
    all_goals try (first | omega | with_reducible rfl | ((with_reducible refine eqId ?_); exact rfl) | with_reducible (first | assumption | exact pl ‹_› | exact pr ‹_› | exact plr ‹_› | exact pll ‹_› | exact prl ‹_› | exact plll ‹_› | exact prll ‹_›))
    refine CallK.cur (spec_l1Byte nb hn) rfl rfl rfl (fun _ _ _ => amC) ?_
    rintro w ⟨hw0, hw1⟩
    (try refine am (h := ?_)); (try with_reducible apply True.intro)
    repeat' (first | (with_reducible refine And.intro ?_ ?_) | (with_reducible intro _))
    all_goals try (first | omega | with_reducible rfl | ((with_reducible refine eqId ?_); exact rfl) | with_reducible (first | assumption | exact pl ‹_› | exact pr ‹_› | exact plr ‹_› | exact pll ‹_› | exact prl ‹_› | exact plll ‹_› | exact prll ‹_›))
    refine FinK.cur (.refl _) ⟨trivial, rfl⟩ rfl ?_
    refine FinK.ex ((z * 16777216 + y * 65536 + x * 256 + w).tmod n) ?hq3 ?_
    case hq3 => exact ⟨Int.tmod_nonneg _ (by omega), .inl (Int.tmod_lt_of_pos _ (by omega))⟩
    refine FinK.val1 ?_ ?_
    all_goals (try refine amF (h := ?_))
    all_goals (try with_reducible apply True.intro)
set_option maxHeartbeats 4000000 in
theorem spec_l1Once (nb : Nat) (hn : nb ≤ 2 ^ 40) (n : Int) : ACur Try.prog 85 nb [.one (.int .i64 n)] (fun r => ∃ b : Bool, anyV b ∧ r = .val (.one (.bool b))) := by
  have nt : Try.f85.ntmps = 9 := rfl
  have rs : Try.f85.results = #[.tmp 4] := rfl
  refine ACur.of_run (m := 400) mixed Try.func85 rfl rfl (Nat.le_of_ble_eq_true rfl) (fun xc => ?_)
  simp only [nt, rs]
  clear nt rs
  (try refine am (h := ?_)); (try with_reducible apply True.intro)
  repeat' (first | (with_reducible refine And.intro ?_ ?_) | (with_reducible intro _))
  all_goals try (first | omega | with_reducible rfl | ((with_reducible refine eqId ?_); exact rfl) | with_reducible (first | assumption | exact pl ‹_› | exact pr ‹_› | exact plr ‹_› | exact pll ‹_› | exact prl ‹_› | exact plll ‹_› | exact prll ‹_›))
  refine CallK.cur (spec_l1Below nb hn n) rfl rfl rfl (fun _ _ _ => amC) ?_
  rintro z ⟨hz0, hz1⟩
  (try refine am (h := ?_)); (try with_reducible apply True.intro)
  repeat' (first | (with_reducible refine And.intro ?_ ?_) | (with_reducible intro _))
  all_goals try (first | omega | with_reducible rfl | ((with_reducible refine eqId ?_); exact rfl) | with_reducible (first | assumption | exact pl ‹_› | exact pr ‹_› | exact plr ‹_› | exact pll ‹_› | exact prl ‹_› | exact plll ‹_› | exact prll ‹_›))
  refine FinK.cur (.refl _) ⟨trivial, rfl⟩ rfl ?_
  refine FinK.ex (decide (z = 0)) ?hq4 ?_
  case hq4 => exact anyV.mk _
  refine FinK.val1 ?_ ?_
  all_goals (try refine amF (h := ?_))
  all_goals (try with_reducible apply True.intro)
theorem getD_mem' {l : List Int} {i : Nat} (h : i < l.length) : l.getD i 0 ∈ l := by
  rw [List.getD_eq_getElem?_getD, List.getElem?_eq_getElem h]
  exact List.getElem_mem h
def litF (l : List Int) : Nat → Nat → AV := rowsF (l.map fun z => [.int .i64 z])
theorem litF_at (l : List Int) (i : Nat) (h : i < l.length) : litF l i 0 = .int .i64 (l.getD i 0) := by
  unfold litF rowsF
  rw [gl_eq, gl_eq]
  simp [List.getD, h]
set_option maxHeartbeats 4000000 in
theorem spec_l1PickInt (nb : Nat) (hn : nb ≤ 2 ^ 40) (u : Bool) (nl : Option Bool) (l : List Int) (hl : 0 < l.length) (hl2 : l.length ≤ 2 ^ 40) : ACur Try.prog 48 nb [.one (.sl u nl 1 l.length (litF l))] (fun r => ∃ z : Int, z ∈ l ∧ r = .val (.one (.int .i64 z))) := by
  have nt : Try.f48.ntmps = 12 := rfl
  have rs : Try.f48.results = #[.tmp 4] := rfl
  refine ACur.of_run (m := 400) mixed Try.func48 rfl rfl (Nat.le_of_ble_eq_true rfl) (fun xc => ?_)
  simp only [nt, rs]
  clear nt rs
  (try refine am (h := ?_)); (try with_reducible apply True.intro)
  repeat' (first | (with_reducible refine And.intro ?_ ?_) | (with_reducible intro _))
  all_goals try (first | omega | with_reducible rfl | ((with_reducible refine eqId ?_); exact rfl) | with_reducible (first | assumption | exact pl ‹_› | exact pr ‹_› | exact plr ‹_› | exact pll ‹_› | exact prl ‹_› | exact plll ‹_› | exact prll ‹_›))
  refine CallK.cur (spec_l1Below nb hn l.length) rfl rfl rfl (fun _ _ _ => amC) ?_
  rintro z ⟨hz0, hz1⟩
  (try refine am (h := ?_)); (try with_reducible apply True.intro)
  have e := litF_at l z.toNat (by omega)
  repeat' (first | (with_reducible refine And.intro ?_ ?_) | (with_reducible intro _))
  all_goals try (first | omega | with_reducible rfl | ((with_reducible refine eqId ?_); exact rfl) | with_reducible (first | assumption | exact pl ‹_› | exact pr ‹_› | exact plr ‹_› | exact pll ‹_› | exact prl ‹_› | exact plll ‹_› | exact prll ‹_›))
  rw [e]
  refine FinK.cur (.refl _) ⟨trivial, rfl⟩ rfl ?_
  refine FinK.ex (l.getD z.toNat 0) ?hq5 ?_
  case hq5 => exact getD_mem' (by omega)
  refine FinK.val1 ?_ ?_
  all_goals (try refine amF (h := ?_))
  all_goals (try with_reducible apply True.intro)
set_option maxHeartbeats 4000000 in
theorem spec_l1Bit (b : Bool) : ACalls Try.prog 111 [.one (.bool b)] (fun r => r = .val (.one (.int .i64 (if b = true then 1 else 0)))) := by
  have nt : Try.f111.ntmps = 4 := rfl
  have rs : Try.f111.results = #[.tmp 2] := rfl
  refine ACalls.of_run (m := 400) mixed Try.func111 rfl rfl (Nat.le_of_ble_eq_true rfl) ?_
  simp only [nt, rs]
  clear nt rs
  (try refine am (h := ?_)); (try with_reducible apply True.intro)
  repeat' (first | (with_reducible refine And.intro ?_ ?_) | (with_reducible intro _))
  all_goals try (first | omega | with_reducible rfl | ((with_reducible refine eqId ?_); exact rfl) | with_reducible (first | assumption | exact pl ‹_› | exact pr ‹_› | exact plr ‹_› | exact pll ‹_› | exact prl ‹_› | exact plll ‹_› | exact prll ‹_›))
  · refine FinK.val1 ?_ ?_
    all_goals (try refine amF (h := ?_))
    all_goals (try with_reducible apply True.intro)
    simp_all
  · refine FinK.val1 ?_ ?_
    all_goals (try refine amF (h := ?_))
    all_goals (try with_reducible apply True.intro)
    simp_all
set_option maxHeartbeats 4000000 in
theorem spec_l1New (code : List UInt8) (hc : code.length ≤ 2 ^ 40) : ANew Try.prog 47 [.one (.sl false none 1 code.length (fB code))] code.length := by
  have nt : Try.f47.ntmps = 32 := rfl
  refine ANew.of_run (m := 400) (t := 2) mixed Try.func47 rfl rfl (Nat.le_of_ble_eq_true rfl) rfl ?_
  simp only [nt]
  clear nt
  (try refine am (h := ?_)); (try with_reducible apply True.intro)
  repeat' (first | (with_reducible refine And.intro ?_ ?_) | (with_reducible intro _))
  all_goals try (first | omega | with_reducible rfl | ((with_reducible refine eqId ?_); exact rfl) | with_reducible (first | assumption | exact pl ‹_› | exact pr ‹_› | exact plr ‹_› | exact pll ‹_› | exact prl ‹_› | exact plll ‹_› | exact prll ‹_›))
  refine LoopK.auto (Nat) (fun i => [(3, .one (.av (AV.full .i64))), (4, .one (.av (.int .i64 i)))]) (fun i => []) [0] (k0 := ?k01) (keepH := ?kh1) 400 (fun i => i ≤ code.length) (fun i => code.length - i) (0) ?kea1 ?keb1 ?_ ?_ ?_
  case kea1 => exact amN
  case keb1 => exact amN
  · exact Nat.zero_le _
  · refine Le.auto [] (r0 := ?r01) (ren := ?ren1) ?ea1 ?eb1 ?a1 ?b1 ?c1 ?d1 ?ho1 ?hn1 ?ht1
    case ea1 => exact amR
    case eb1 => exact amR
    case a1 => exact rfl
    case b1 => exact rfl
    case c1 => exact rfl
    case d1 => exact rfl
    all_goals (try refine amL (h := ?_))
    all_goals (try with_reducible apply True.intro)
    exact .rng _ _ _ _ (by show (-9223372036854775808 : Int) ≤ _; omega) (by show _ ≤ (9223372036854775807 : Int); omega)
  · rintro i hi
    (try refine am (h := ?_)); (try with_reducible apply True.intro)
    repeat' (first | (with_reducible refine And.intro ?_ ?_) | (with_reducible intro _))
    all_goals try (first | omega | with_reducible rfl | ((with_reducible refine eqId ?_); exact rfl) | with_reducible (first | assumption | exact pl ‹_› | exact pr ‹_› | exact plr ‹_› | exact pll ‹_› | exact prl ‹_› | exact plll ‹_› | exact prll ‹_›))
    · refine ⟨i + 1, ?_, by omega, by omega⟩
      refine Le.auto [] (r0 := ?r02) (ren := ?ren2) ?ea2 ?eb2 ?a2 ?b2 ?c2 ?d2 ?ho2 ?hn2 ?ht2
      case ea2 => exact amR
      case eb2 => exact amR
      case a2 => exact rfl
      case b2 => exact rfl
      case c2 => exact rfl
      case d2 => exact rfl
      all_goals (try refine amL (h := ?_))
      all_goals (try with_reducible apply True.intro)
      all_goals rfl
    · refine ⟨⟨_, rfl, ⟨trivial, rfl⟩, ?_⟩, trivial, .tup [], trivial, trivial⟩
      refine .sl _ _ _ _ _ _ (fun i hi j hj => ?_)
      match j, hj with
      | 0, _ => exact .sl _ _ _ _ _ _ (fun i hi j hj => by
          obtain rfl : j = 0 := by omega
          exact ale_rng _ _ _ _ (by have := (code.getD i 0).toNat_lt; omega))
      | 1, _ => exact ale_rng _ _ _ _ (by omega)
      | 2, _ => exact .refl _
end Go.AM
namespace Go.AM
open Go Go.Proofs
set_option maxRecDepth 100000
set_option maxHeartbeats 4000000 in
theorem spec_l17Sure (nb : Nat) (hn : nb ≤ 2 ^ 40) : ACur Try.prog 86 nb [] (fun r => ∃ z : Int, (0 ≤ z ∧ z ≤ 10) ∧ r = .val (.one (.int .i64 z))) := by
  have nt : Try.f86.ntmps = 6 := rfl
  have rs : Try.f86.results = #[.tmp 2] := rfl
  refine ACur.of_run (m := 400) mixed Try.func86 rfl rfl (Nat.le_of_ble_eq_true rfl) (fun xc => ?_)
  simp only [nt, rs]
  clear nt rs
  (try refine am (h := ?_)); (try with_reducible apply True.intro)
  repeat' (first | (with_reducible refine And.intro ?_ ?_) | (with_reducible intro _))
  all_goals try (first | omega | with_reducible rfl | ((with_reducible refine eqId ?_); exact rfl) | with_reducible (first | assumption | exact pl ‹_› | exact pr ‹_› | exact plr ‹_› | exact pll ‹_› | exact prl ‹_› | exact plll ‹_› | exact prll ‹_›))
  refine CallK.cur (spec_l1PickInt nb hn true (some false) [1, 1, 2, 3, 5, 9, 0, 10] (by simp) (by simp)) rfl rfl rfl (fun _ _ _ => amC) ?_
  rintro z hz
  (try refine am (h := ?_)); (try with_reducible apply True.intro)
  have hz2 : 0 ≤ z ∧ z ≤ 10 := by simp at hz; omega
  repeat' (first | (with_reducible refine And.intro ?_ ?_) | (with_reducible intro _))
  all_goals try (first | omega | with_reducible rfl | ((with_reducible refine eqId ?_); exact rfl) | with_reducible (first | assumption | exact pl ‹_› | exact pr ‹_› | exact plr ‹_› | exact pll ‹_› | exact prl ‹_› | exact plll ‹_› | exact prll ‹_›))
  refine FinK.cur (.refl _) ⟨trivial, rfl⟩ rfl ?_
  refine FinK.ex (z) ?hq3 ?_
  case hq3 => exact hz2
  refine FinK.val1 ?_ ?_
  all_goals (try refine amF (h := ?_))
  all_goals (try with_reducible apply True.intro)
def bits01 (l : List Int) : Prop := ∀ x ∈ l, 0 ≤ x ∧ x ≤ 1
set_option maxHeartbeats 8000000 in
theorem spec_l16Bits (nb : Nat) (hn : nb ≤ 2 ^ 40) (most : Int) (hm : 0 ≤ most ∧ most ≤ 2 ^ 16) : ACur Try.prog 83 nb [.one (.int .i64 most)] (fun r => ∃ l : List Int, (l.length ≤ 2 ^ 17 ∧ bits01 l) ∧ r = .val (.one (aI true l))) := by
  have nt : Try.f83.ntmps = 45 := rfl
  have rs : Try.f83.results = #[.tmp 4] := rfl
  refine ACur.of_run (m := 400) mixed Try.func83 rfl rfl (Nat.le_of_ble_eq_true rfl) (fun xc => ?_)
  simp only [nt, rs]
  clear nt rs
  (try refine am (h := ?_)); (try with_reducible apply True.intro)
  repeat' (first | (with_reducible refine And.intro ?_ ?_) | (with_reducible intro _))
  all_goals try (first | omega | with_reducible rfl | ((with_reducible refine eqId ?_); exact rfl) | with_reducible (first | assumption | exact pl ‹_› | exact pr ‹_› | exact plr ‹_› | exact pll ‹_› | exact prl ‹_› | exact plll ‹_› | exact prll ‹_›))
  refine CallK.cur (spec_l1Below nb hn _) rfl rfl rfl (fun _ _ _ => amC) ?_
  rintro n ⟨hn0, hn1⟩
  (try refine am (h := ?_)); (try with_reducible apply True.intro)
  repeat' (first | (with_reducible refine And.intro ?_ ?_) | (with_reducible intro _))
  all_goals try (first | omega | with_reducible rfl | ((with_reducible refine eqId ?_); exact rfl) | with_reducible (first | assumption | exact pl ‹_› | exact pr ‹_› | exact plr ‹_› | exact pll ‹_› | exact prl ‹_› | exact plll ‹_› | exact prll ‹_›))
  refine CallK.cur (spec_l1Below nb hn _) rfl rfl rfl (fun _ _ _ => amC) ?_
  rintro turn ht
  (try refine am (h := ?_)); (try with_reducible apply True.intro)
  repeat' (first | (with_reducible refine And.intro ?_ ?_) | (with_reducible intro _))
  all_goals try (first | omega | with_reducible rfl | ((with_reducible refine eqId ?_); exact rfl) | with_reducible (first | assumption | exact pl ‹_› | exact pr ‹_› | exact plr ‹_› | exact pll ‹_› | exact prl ‹_› | exact plll ‹_› | exact prll ‹_›))
  refine CallK.cur (spec_l1PickInt nb hn true (some false) [2, 8, 200] (by simp) (by simp)) rfl rfl rfl (fun _ _ _ => amC) ?_
  rintro few hf
  (try refine am (h := ?_)); (try with_reducible apply True.intro)
  repeat' (first | (with_reducible refine And.intro ?_ ?_) | (with_reducible intro _))
  all_goals try (first | omega | with_reducible rfl | ((with_reducible refine eqId ?_); exact rfl) | with_reducible (first | assumption | exact pl ‹_› | exact pr ‹_› | exact plr ‹_› | exact pll ‹_› | exact prl ‹_› | exact plll ‹_› | exact prll ‹_›))
  refine LoopK.auto ((List Int × Nat)) (fun x => [(9, .one (.av (.int .i64 x.2))), (5, .one (.own 302 [] [0]))]) (fun x => [(302, ⟨.sl true none 1 x.1.length (fI x.1), []⟩)]) [0, 6, 7, 8] (k0 := ?k01) (keepH := ?kh1) 500 (fun x => (x.1.length = x.2 ∧ (x.2 : Int) ≤ n) ∧ bits01 x.1) (fun x => n.toNat - x.2) (([], 0)) ?kea1 ?keb1 ?_ ?_ ?_
  case kea1 => exact amN
  case keb1 => exact amN
  · exact ⟨⟨rfl, by simp; omega⟩, fun y hy => by simp at hy⟩
  · refine Le.auto [] (r0 := ?r01) (ren := ?ren1) ?ea1 ?eb1 ?a1 ?b1 ?c1 ?d1 ?ho1 ?hn1 ?ht1
    case ea1 => exact amR
    case eb1 => exact amR
    case a1 => exact rfl
    case b1 => exact rfl
    case c1 => exact rfl
    case d1 => exact rfl
    all_goals (try refine amL (h := ?_))
    all_goals (try with_reducible apply True.intro)
    exact ALe.of (.inl rfl) rfl (fun i hi => by omega)
  · rintro ⟨l, i⟩ ⟨⟨hl, hi⟩, hb⟩
    dsimp only at hl hi hb ⊢
    (try refine am (h := ?_)); (try with_reducible apply True.intro)
    repeat' (first | (with_reducible refine And.intro ?_ ?_) | (with_reducible intro _))
    all_goals try (first | omega | with_reducible rfl | ((with_reducible refine eqId ?_); exact rfl) | with_reducible (first | assumption | exact pl ‹_› | exact pr ‹_› | exact plr ‹_› | exact pll ‹_› | exact prl ‹_› | exact plll ‹_› | exact prll ‹_›))
    · refine CallK.cur (spec_l1Once nb hn few) rfl rfl rfl (fun _ _ _ => amC) ?_
      rintro b hbb
      (try refine am (h := ?_)); (try with_reducible apply True.intro)
      repeat' (first | (with_reducible refine And.intro ?_ ?_) | (with_reducible intro _))
      all_goals try (first | omega | with_reducible rfl | ((with_reducible refine eqId ?_); exact rfl) | with_reducible (first | assumption | exact pl ‹_› | exact pr ‹_› | exact plr ‹_› | exact pll ‹_› | exact prl ‹_› | exact plll ‹_› | exact prll ‹_›))
      first | refine CallK.one (spec_l1Bit b) (fun _ => amC) ?_ | refine CallE.one (spec_l1Bit b) (fun _ => amC) rfl ?_ | refine CallG.one rfl (fun hg => spec_l1Bit b) ?_ | refine CallEG.one rfl rfl (fun hg => spec_l1Bit b) ?_ | refine CallCE.one (spec_l1Bit b) (fun _ => amC) rfl ?_
      (try refine am (h := ?_)); (try with_reducible apply True.intro)
      repeat' (first | (with_reducible refine And.intro ?_ ?_) | (with_reducible intro _))
      all_goals try (first | omega | with_reducible rfl | ((with_reducible refine eqId ?_); exact rfl) | with_reducible (first | assumption | exact pl ‹_› | exact pr ‹_› | exact plr ‹_› | exact pll ‹_› | exact prl ‹_› | exact plll ‹_› | exact prll ‹_›))
      refine ⟨(l ++ [if b = true then 1 else 0], i + 1), ?_, ⟨⟨by simp [hl], by simp only [Int.natCast_add, Int.natCast_one]; omega⟩, fun y hy => ?_⟩, by simp only; omega⟩
      · refine Le.auto [] (r0 := ?r02) (ren := ?ren2) ?ea2 ?eb2 ?a2 ?b2 ?c2 ?d2 ?ho2 ?hn2 ?ht2
        case ea2 => exact amR
        case eb2 => exact amR
        case a2 => exact rfl
        case b2 => exact rfl
        case c2 => exact rfl
        case d2 => exact rfl
        all_goals (try refine amL (h := ?_))
        all_goals (try with_reducible apply True.intro)
        exact appIntD rfl
      · rcases mem_app1 hy with h | h
        · exact hb y h
        · subst h; split <;> omega
    · refine CallK.cur (spec_l1Once nb hn 5) rfl rfl rfl (fun _ _ _ => amC) ?_
      rintro b hbb
      (try refine am (h := ?_)); (try with_reducible apply True.intro)
      repeat' (first | (with_reducible refine And.intro ?_ ?_) | (with_reducible intro _))
      all_goals try (first | omega | with_reducible rfl | ((with_reducible refine eqId ?_); exact rfl) | with_reducible (first | assumption | exact pl ‹_› | exact pr ‹_› | exact plr ‹_› | exact pll ‹_› | exact prl ‹_› | exact plll ‹_› | exact prll ‹_›))
      first | refine CallK.one (spec_l1Bit (!b)) (fun _ => amC) ?_ | refine CallE.one (spec_l1Bit (!b)) (fun _ => amC) rfl ?_ | refine CallG.one rfl (fun hg => spec_l1Bit (!b)) ?_ | refine CallEG.one rfl rfl (fun hg => spec_l1Bit (!b)) ?_ | refine CallCE.one (spec_l1Bit (!b)) (fun _ => amC) rfl ?_
      (try refine am (h := ?_)); (try with_reducible apply True.intro)
      repeat' (first | (with_reducible refine And.intro ?_ ?_) | (with_reducible intro _))
      all_goals try (first | omega | with_reducible rfl | ((with_reducible refine eqId ?_); exact rfl) | with_reducible (first | assumption | exact pl ‹_› | exact pr ‹_› | exact plr ‹_› | exact pll ‹_› | exact prl ‹_› | exact plll ‹_› | exact prll ‹_›))
      refine ⟨(l ++ [if (!b) = true then 1 else 0], i + 1), ?_, ⟨⟨by simp [hl], by simp only [Int.natCast_add, Int.natCast_one]; omega⟩, fun y hy => ?_⟩, by simp only; omega⟩
      · refine Le.auto [] (r0 := ?r03) (ren := ?ren3) ?ea3 ?eb3 ?a3 ?b3 ?c3 ?d3 ?ho3 ?hn3 ?ht3
        case ea3 => exact amR
        case eb3 => exact amR
        case a3 => exact rfl
        case b3 => exact rfl
        case c3 => exact rfl
        case d3 => exact rfl
        all_goals (try refine amL (h := ?_))
        all_goals (try with_reducible apply True.intro)
        exact appIntD rfl
      · rcases mem_app1 hy with h | h
        · exact hb y h
        · subst h; split <;> omega
    · refine FinK.cur (.refl _) ⟨trivial, rfl⟩ rfl ?_
      refine FinK.ex (l) ?hq4 ?_
      case hq4 => exact ⟨by omega, hb⟩
      refine FinK.val1 ?_ ?_
      all_goals (try refine amF (h := ?_))
      all_goals (try with_reducible apply True.intro)
end Go.AM
namespace Go.AM
open Go Go.Proofs
set_option maxRecDepth 100000
set_option maxHeartbeats 4000000 in
theorem lawsBig (code : List UInt8) (hc : code.length ≤ 2 ^ 47) (u : Bool) : ACalls Try.prog 10 [.one (aB u code)] (fun r => r = .val (.one (.bool (decide (1048576 < code.length))))) := by
  have nt : Try.f10.ntmps = 6 := rfl
  have rs : Try.f10.results = #[.tmp 2] := rfl
  refine ACalls.of_run (m := 400) mixed Try.func10 rfl rfl (Nat.le_of_ble_eq_true rfl) ?_
  simp only [nt, rs]
  clear nt rs
  (try refine am (h := ?_)); (try with_reducible apply True.intro)
  repeat' (first | (with_reducible refine And.intro ?_ ?_) | (with_reducible intro _))
  all_goals try (first | omega | with_reducible rfl | ((with_reducible refine eqId ?_); exact rfl) | with_reducible (first | assumption | exact pl ‹_› | exact pr ‹_› | exact plr ‹_› | exact pll ‹_› | exact prl ‹_› | exact plll ‹_› | exact prll ‹_›))
  refine FinK.val1 ?_ ?_
  all_goals (try refine amF (h := ?_))
  all_goals (try with_reducible apply True.intro)
  refine decide_eq_decide.2 ?_
  omega
end Go.AM
namespace Go.AM
open Go Go.Proofs
set_option maxRecDepth 100000
theorem okL_app1 {A B : Nat} {l : List (List Int)} {r : List Int} (h : okL A l) (hr : okI A r) (hB : A + 1 ≤ B) : okL B (l ++ [r]) := by
  refine ⟨by have := h.1; simp; omega, fun x hx => ?_⟩
  rcases List.mem_append.1 hx with hx | hx
  · exact okI_up (h.2 x hx) (by omega)
  · have : x = r := by simpa using hx
    subst this
    exact okI_up hr (by omega)
theorem wAddA_okA {A : Nat} {l : List (List Int)} {bit : Int} (hA : 8 ≤ A) (h : okL A l) : okL A (wAddA l bit) := by
  unfold wAddA
  cases e : wAddOk l bit with
  | false => exact h
  | true =>
    rw [cond_true]
    unfold wAddOk at e
    simp only [Bool.and_eq_true, decide_eq_true_eq] at e
    exact okL_up (wok_okL (wAdd_ok (by simpa [wokB] using e.1) e.2)) hA
theorem okL_set {A B : Nat} {l : List (List Int)} {i : Nat} {r : List Int} (h : okL A l) (hr : okI B r) (hB : A ≤ B) : okL B (l.set i r) := by
  refine ⟨by have := h.1; simp; omega, fun x hx => ?_⟩
  rcases List.mem_or_eq_of_mem_set hx with hx | hx
  · exact okI_up (h.2 x hx) hB
  · subst hx; exact hr
theorem okI_one {z : Int} (h : -1 ≤ z ∧ z ≤ 257) : okI (2 ^ 20) [z] := ⟨by simp, fun y hy => by
  have : y = z := by simpa using hy
  subst this
  exact ⟨by show (-9223372036854775808 : Int) ≤ _; omega, by show _ ≤ (9223372036854775807 : Int); omega⟩⟩
theorem appRows {l : List (List Int)} {r : List Int} {nl : Option Bool} {n : Nat} {g : Nat → Nat → AV} (hn : n = l.length + 1) (hg : ALe (g 0 0) (.sl true none 1 r.length (fI r))) : ALe (.sl true nl 1 n (apF l.length (fL true l) g)) (.sl true none 1 (l ++ [r]).length (fL true (l ++ [r]))) := by
  refine rowsLe2 (by simpa using hn) (fun a ha => ?_)
  unfold apF
  rw [List.getD_eq_getElem?_getD]
  by_cases e : a < l.length
  · rw [if_pos e, List.getElem?_append_left e, ← List.getD_eq_getElem?_getD]; exact .refl _
  · obtain rfl : a = l.length := by omega
    rw [if_neg e, Nat.sub_self]
    simpa using hg
set_option maxHeartbeats 8000000 in
theorem spec_l16Right (nb : Nat) (hn : nb ≤ 2 ^ 40) : ACur Try.prog 116 nb [] (fun r => ∃ l : List (List Int), okL (2 ^ 20) l ∧ r = .val (.agg [aL true true l])) := by
  have nt : Try.f116.ntmps = 72 := rfl
  have rs : Try.f116.results = #[.cell 2 50] := rfl
  refine ACur.of_run (m := 400) mixed Try.func116 rfl rfl (Nat.le_of_ble_eq_true rfl) (fun xc => ?_)
  simp only [nt, rs]
  clear nt rs
  (try refine am (h := ?_)); (try with_reducible apply True.intro)
  repeat' (first | (with_reducible refine And.intro ?_ ?_) | (with_reducible intro _))
  all_goals try (first | omega | with_reducible rfl | ((with_reducible refine eqId ?_); exact rfl) | with_reducible (first | assumption | exact pl ‹_› | exact pr ‹_› | exact plr ‹_› | exact pll ‹_› | exact prl ‹_› | exact plll ‹_› | exact prll ‹_›))
  refine CallK.cur (spec_l1Once nb hn 5) rfl rfl rfl (fun _ _ _ => amC) ?_
  rintro b hb
  (try refine am (h := ?_)); (try with_reducible apply True.intro)
  repeat' (first | (with_reducible refine And.intro ?_ ?_) | (with_reducible intro _))
  all_goals try (first | omega | with_reducible rfl | ((with_reducible refine eqId ?_); exact rfl) | with_reducible (first | assumption | exact pl ‹_› | exact pr ‹_› | exact plr ‹_› | exact pll ‹_› | exact prl ‹_› | exact plll ‹_› | exact prll ‹_›))
  · refine CallK.cur (spec_l1PickInt nb hn true (some false) [1, 4, 7, 8] (by simp) (by simp)) rfl rfl rfl (fun _ _ _ => amC) ?_
    rintro rows hr
    (try refine am (h := ?_)); (try with_reducible apply True.intro)
    have hr2 : 1 ≤ rows ∧ rows ≤ 8 := by simp at hr; omega
    repeat' (first | (with_reducible refine And.intro ?_ ?_) | (with_reducible intro _))
    all_goals try (first | omega | with_reducible rfl | ((with_reducible refine eqId ?_); exact rfl) | with_reducible (first | assumption | exact pl ‹_› | exact pr ‹_› | exact plr ‹_› | exact pll ‹_› | exact prl ‹_› | exact plll ‹_› | exact prll ‹_›))
    refine LoopK.auto ((List (List Int) × Nat)) (fun x => [(5, .one (.av (.int .i64 x.2))), (3, .one (.ref 302 [] [0] 0 0))]) (fun x => [(302, ⟨.sl true none 1 1 (fun _ _ => .sl true none 1 x.1.length (fL true x.1)), []⟩)]) [0, 2, 4] (k0 := ?k01) (keepH := ?kh1) 500 (fun x => (x.1.length = x.2 ∧ (x.2 : Int) ≤ rows) ∧ okL (8 + x.2) x.1) (fun x => rows.toNat - x.2) (([], 0)) ?kea1 ?keb1 ?_ ?_ ?_
    case kea1 => exact amN
    case keb1 => exact amN
    · exact ⟨⟨rfl, by simp; omega⟩, by simp, fun y hy => by simp at hy⟩
    · refine Le.auto [] (r0 := ?r01) (ren := ?ren1) ?ea1 ?eb1 ?a1 ?b1 ?c1 ?d1 ?ho1 ?hn1 ?ht1
      case ea1 => exact amR
      case eb1 => exact amR
      case a1 => exact rfl
      case b1 => exact rfl
      case c1 => exact rfl
      case d1 => exact rfl
      all_goals (try refine amL (h := ?_))
      all_goals (try with_reducible apply True.intro)
      refine boxLe ?_
      rw [if_pos (by decide)]
      exact ALe.nil ..
    · rintro ⟨m, i⟩ ⟨⟨hm, hi⟩, hok⟩
      dsimp only at hm hi hok ⊢
      (try refine am (h := ?_)); (try with_reducible apply True.intro)
      repeat' (first | (with_reducible refine And.intro ?_ ?_) | (with_reducible intro _))
      all_goals try (first | omega | with_reducible rfl | ((with_reducible refine eqId ?_); exact rfl) | with_reducible (first | assumption | exact pl ‹_› | exact pr ‹_› | exact plr ‹_› | exact pll ‹_› | exact prl ‹_› | exact plll ‹_› | exact prll ‹_›))
      · have hbd : (2 : Int) ^ i ≤ 128 := (by decide : ∀ i, i < 8 → (2 : Int) ^ i ≤ 128) i (by omega)
        have hb0 : (0 : Int) < (2 : Int) ^ i := Int.pow_pos (by decide)
        refine CallK.cur (spec_l1Below nb hn _) rfl rfl rfl (fun _ _ _ => amC) ?_
        rintro n ⟨hn0, hn1⟩
        (try refine am (h := ?_)); (try with_reducible apply True.intro)
        repeat' (first | (with_reducible refine And.intro ?_ ?_) | (with_reducible intro _))
        all_goals try (first | omega | with_reducible rfl | ((with_reducible refine eqId ?_); exact rfl) | with_reducible (first | assumption | exact pl ‹_› | exact pr ‹_› | exact plr ‹_› | exact pll ‹_› | exact prl ‹_› | exact plll ‹_› | exact prll ‹_›))
        refine LoopK.intro ((List Int × Nat)) (fun x => [(8, .one (.av (.int .i64 x.2))), (6, .one (.own 303 [] [0]))]) (fun x => [(303, ⟨.sl true none 1 x.1.length (fI x.1), []⟩)]) [0, 2, 3, 4, 5, 7] [302, 5, 1] 800 (fun x => (x.1.length = x.2 ∧ (x.2 : Int) ≤ n + 1) ∧ ∀ y ∈ x.1, 0 ≤ y ∧ y ≤ 128) (fun x => (n + 1).toNat - x.2) (([], 0)) ?_ ?_ ?_
        · exact ⟨⟨rfl, by simp; omega⟩, fun y hy => by simp at hy⟩
        · refine Le.auto [] (r0 := ?r02) (ren := ?ren2) ?ea2 ?eb2 ?a2 ?b2 ?c2 ?d2 ?ho2 ?hn2 ?ht2
          case ea2 => exact amR
          case eb2 => exact amR
          case a2 => exact rfl
          case b2 => exact rfl
          case c2 => exact rfl
          case d2 => exact rfl
          all_goals (try refine amL (h := ?_))
          all_goals (try with_reducible apply True.intro)
          exact ALe.of (.inl rfl) rfl (fun i hi => by omega)
        · rintro ⟨row, j⟩ ⟨⟨hrl, hj⟩, hrb⟩
          dsimp only at hrl hj hrb ⊢
          have hrow : okI 8 row := ⟨by omega, fun x hx => by have := hrb x hx; exact ⟨by show (-9223372036854775808 : Int) ≤ x; omega, by show x ≤ (9223372036854775807 : Int); omega⟩⟩
          (try refine am (h := ?_)); (try with_reducible apply True.intro)
          repeat' (first | (with_reducible refine And.intro ?_ ?_) | (with_reducible intro _))
          all_goals try (first | omega | with_reducible rfl | ((with_reducible refine eqId ?_); exact rfl) | with_reducible (first | assumption | exact pl ‹_› | exact pr ‹_› | exact plr ‹_› | exact pll ‹_› | exact prl ‹_› | exact plll ‹_› | exact prll ‹_›))
          · first | refine CallK.one (l16Power i (by omega)) (fun _ => amC) ?_ | refine CallE.one (l16Power i (by omega)) (fun _ => amC) rfl ?_ | refine CallG.one rfl (fun hg => l16Power i (by omega)) ?_ | refine CallEG.one rfl rfl (fun hg => l16Power i (by omega)) ?_ | refine CallCE.one (l16Power i (by omega)) (fun _ => amC) rfl ?_
            (try refine am (h := ?_)); (try with_reducible apply True.intro)
            repeat' (first | (with_reducible refine And.intro ?_ ?_) | (with_reducible intro _))
            all_goals try (first | omega | with_reducible rfl | ((with_reducible refine eqId ?_); exact rfl) | with_reducible (first | assumption | exact pl ‹_› | exact pr ‹_› | exact plr ‹_› | exact pll ‹_› | exact prl ‹_› | exact plll ‹_› | exact prll ‹_›))
            first | refine CallK.one (l16Power i (by omega)) (fun _ => amC) ?_ | refine CallE.one (l16Power i (by omega)) (fun _ => amC) rfl ?_ | refine CallG.one rfl (fun hg => l16Power i (by omega)) ?_ | refine CallEG.one rfl rfl (fun hg => l16Power i (by omega)) ?_ | refine CallCE.one (l16Power i (by omega)) (fun _ => amC) rfl ?_
            (try refine am (h := ?_)); (try with_reducible apply True.intro)
            repeat' (first | (with_reducible refine And.intro ?_ ?_) | (with_reducible intro _))
            all_goals try (first | omega | with_reducible rfl | ((with_reducible refine eqId ?_); exact rfl) | with_reducible (first | assumption | exact pl ‹_› | exact pr ‹_› | exact plr ‹_› | exact pll ‹_› | exact prl ‹_› | exact plll ‹_› | exact prll ‹_›))
            refine CallK.cur (spec_l1Below nb hn _) rfl rfl rfl (fun _ _ _ => amC) ?_
            rintro z1 ⟨hz0, hz1⟩
            (try refine am (h := ?_)); (try with_reducible apply True.intro)
            repeat' (first | (with_reducible refine And.intro ?_ ?_) | (with_reducible intro _))
            all_goals try (first | omega | with_reducible rfl | ((with_reducible refine eqId ?_); exact rfl) | with_reducible (first | assumption | exact pl ‹_› | exact pr ‹_› | exact plr ‹_› | exact pll ‹_› | exact prl ‹_› | exact plll ‹_› | exact prll ‹_›))
            refine CallK.cur (spec_l1PickInt nb hn true (some false) [0, 2 ^ i, z1] (by simp) (by simp)) rfl rfl rfl (fun _ _ _ => amC) ?_
            rintro z hz
            (try refine am (h := ?_)); (try with_reducible apply True.intro)
            have hz2 : 0 ≤ z ∧ z ≤ 128 := by simp at hz; omega
            repeat' (first | (with_reducible refine And.intro ?_ ?_) | (with_reducible intro _))
            all_goals try (first | omega | with_reducible rfl | ((with_reducible refine eqId ?_); exact rfl) | with_reducible (first | assumption | exact pl ‹_› | exact pr ‹_› | exact plr ‹_› | exact pll ‹_› | exact prl ‹_› | exact plll ‹_› | exact prll ‹_›))
            refine ⟨(row ++ [z], j + 1), ?_, ⟨⟨by simp [hrl], by simp only [Int.natCast_add, Int.natCast_one]; omega⟩, fun y hy => ?_⟩, by simp only; omega⟩
            · refine Le.auto [] (r0 := ?r03) (ren := ?ren3) ?ea3 ?eb3 ?a3 ?b3 ?c3 ?d3 ?ho3 ?hn3 ?ht3
              case ea3 => exact amR
              case eb3 => exact amR
              case a3 => exact rfl
              case b3 => exact rfl
              case c3 => exact rfl
              case d3 => exact rfl
              all_goals (try refine amL (h := ?_))
              all_goals (try with_reducible apply True.intro)
              exact appIntD rfl
            · rcases mem_app1 hy with h | h
              · exact hrb y h
              · subst h; exact hz2
          · refine ⟨(m ++ [row], i + 1), ?_, ⟨⟨by simp [hm], by simp only [Int.natCast_add, Int.natCast_one]; omega⟩, okL_app1 hok (okI_up hrow (by omega)) (by omega)⟩, by simp only; omega⟩
            refine Le.auto [] (r0 := ?r04) (ren := ?ren4) ?ea4 ?eb4 ?a4 ?b4 ?c4 ?d4 ?ho4 ?hn4 ?ht4
            case ea4 => exact amR
            case eb4 => exact amR
            case a4 => exact rfl
            case b4 => exact rfl
            case c4 => exact rfl
            case d4 => exact rfl
            all_goals (try refine amL (h := ?_))
            all_goals (try with_reducible apply True.intro)
            refine boxLe ?_
            rw [if_pos (by decide)]
            exact appRows rfl (.refl _)
      · refine FinK.cur (.refl _) ⟨trivial, rfl⟩ rfl ?_
        refine FinK.ex (m) ?hq1 ?_
        case hq1 => exact okL_up hok (by omega)
        refine FinK.cell1 ?_ ?_ ?_
        all_goals (try refine amF (h := ?_))
        all_goals (try with_reducible apply True.intro)
  · refine CallK.cur (spec_l1PickInt nb hn true (some false) [0, 6, 30, 90] (by simp) (by simp)) rfl rfl rfl (fun _ _ _ => amC) ?_
    rintro sz hsz
    (try refine am (h := ?_)); (try with_reducible apply True.intro)
    have hsz2 : 0 ≤ sz ∧ sz ≤ 90 := by simp at hsz; omega
    repeat' (first | (with_reducible refine And.intro ?_ ?_) | (with_reducible intro _))
    all_goals try (first | omega | with_reducible rfl | ((with_reducible refine eqId ?_); exact rfl) | with_reducible (first | assumption | exact pl ‹_› | exact pr ‹_› | exact plr ‹_› | exact pll ‹_› | exact prl ‹_› | exact plll ‹_› | exact prll ‹_›))
    refine CallK.cur (spec_l16Bits nb hn sz (by omega)) rfl rfl rfl (fun _ _ _ => amC) ?_
    rintro l ⟨hl, hb⟩
    (try refine am (h := ?_)); (try with_reducible apply True.intro)
    repeat' (first | (with_reducible refine And.intro ?_ ?_) | (with_reducible intro _))
    all_goals try (first | omega | with_reducible rfl | ((with_reducible refine eqId ?_); exact rfl) | with_reducible (first | assumption | exact pl ‹_› | exact pr ‹_› | exact plr ‹_› | exact pll ‹_› | exact prl ‹_› | exact plll ‹_› | exact prll ‹_›))
    refine LoopK.intro ((List (List Int) × Nat)) (fun x => [(10, .one (.av (.int .i64 x.2))), (3, .one (.ref 302 [] [0] 0 0)), (0, .one (.ref 1 [] [0] 0 0))]) (fun x => [(302, ⟨.sl true none 1 1 (fun _ _ => .sl true none 1 x.1.length (fL true x.1)), []⟩)]) [2, 9] [18, 5, 1] 500 (fun x => x.2 ≤ l.length ∧ okL (2 ^ 20) x.1) (fun x => l.length - x.2) (([], 0)) ?_ ?_ ?_
    · exact ⟨Nat.zero_le _, by simp, fun y hy => by simp at hy⟩
    · refine Le.auto [] (r0 := ?r05) (ren := ?ren5) ?ea5 ?eb5 ?a5 ?b5 ?c5 ?d5 ?ho5 ?hn5 ?ht5
      case ea5 => exact amR
      case eb5 => exact amR
      case a5 => exact rfl
      case b5 => exact rfl
      case c5 => exact rfl
      case d5 => exact rfl
      all_goals (try refine amL (h := ?_))
      all_goals (try with_reducible apply True.intro)
      refine boxLe ?_
      rw [if_pos (by decide)]
      exact ALe.nil ..
    · rintro ⟨m, i⟩ ⟨hi, hok⟩
      dsimp only at hi hok ⊢
      (try refine am (h := ?_)); (try with_reducible apply True.intro)
      repeat' (first | (with_reducible refine And.intro ?_ ?_) | (with_reducible intro _))
      all_goals try (first | omega | with_reducible rfl | ((with_reducible refine eqId ?_); exact rfl) | with_reducible (first | assumption | exact pl ‹_› | exact pr ‹_› | exact plr ‹_› | exact pll ‹_› | exact prl ‹_› | exact plll ‹_› | exact prll ‹_›))
      · have hbi : inK .i64 (l.getD i 0) := by
          have := hb _ (getD_mem' (l := l) (i := i) (by omega))
          exact ⟨by show (-9223372036854775808 : Int) ≤ _; omega, by show _ ≤ (9223372036854775807 : Int); omega⟩
        first | refine CallK.one (specWindowAdd m (l.getD i 0) _ _ (okL_up hok) hbi) (fun _ => amC) ?_ | refine CallE.one (specWindowAdd m (l.getD i 0) _ _ (okL_up hok) hbi) (fun _ => amC) rfl ?_ | refine CallG.one rfl (fun hg => specWindowAdd m (l.getD i 0) _ _ (okL_up hok) hbi) ?_ | refine CallEG.one rfl rfl (fun hg => specWindowAdd m (l.getD i 0) _ _ (okL_up hok) hbi) ?_ | refine CallCE.one (specWindowAdd m (l.getD i 0) _ _ (okL_up hok) hbi) (fun _ => amC) rfl ?_
        (try refine am (h := ?_)); (try with_reducible apply True.intro)
        repeat' (first | (with_reducible refine And.intro ?_ ?_) | (with_reducible intro _))
        all_goals try (first | omega | with_reducible rfl | ((with_reducible refine eqId ?_); exact rfl) | with_reducible (first | assumption | exact pl ‹_› | exact pr ‹_› | exact plr ‹_› | exact pll ‹_› | exact prl ‹_› | exact plll ‹_› | exact prll ‹_›))
        refine ⟨(wAddA m (l.getD i 0), i + 1), ?_, ⟨by simp only; omega, wAddA_okA (by decide) hok⟩, by simp only; omega⟩
        refine Le.auto [] (r0 := ?r06) (ren := ?ren6) ?ea6 ?eb6 ?a6 ?b6 ?c6 ?d6 ?ho6 ?hn6 ?ht6
        case ea6 => exact amR
        case eb6 => exact amR
        case a6 => exact rfl
        case b6 => exact rfl
        case c6 => exact rfl
        case d6 => exact rfl
        all_goals (try refine amL (h := ?_))
        all_goals (try with_reducible apply True.intro)
        refine boxLe ?_
        first | (rw [if_pos (by decide)]; exact .refl _) | exact .refl _
      · refine FinK.cur (.refl _) ⟨trivial, rfl⟩ rfl ?_
        refine FinK.ex (m) ?hq2 ?_
        case hq2 => exact hok
        refine FinK.cell1 ?_ ?_ ?_
        all_goals (try refine amF (h := ?_))
        all_goals (try with_reducible apply True.intro)
set_option maxHeartbeats 8000000 in
theorem spec_l16Draw (nb : Nat) (hn : nb ≤ 2 ^ 40) : ACur Try.prog 99 nb [] (fun r => ∃ l : List (List Int), okL (2 ^ 30) l ∧ r = .val (.agg [aL true true l])) := by
  have nt : Try.f99.ntmps = 58 := rfl
  have rs : Try.f99.results = #[.cell 2 50] := rfl
  refine ACur.of_run (m := 400) mixed Try.func99 rfl rfl (Nat.le_of_ble_eq_true rfl) (fun xc => ?_)
  simp only [nt, rs]
  clear nt rs
  (try refine am (h := ?_)); (try with_reducible apply True.intro)
  refine CallK.cur (spec_l16Right nb hn) rfl rfl rfl (fun _ _ _ => amC) ?_
  rintro l hl
  (try refine am (h := ?_)); (try with_reducible apply True.intro)
  have hll := hl.1
  repeat' (first | (with_reducible refine And.intro ?_ ?_) | (with_reducible intro _))
  all_goals try (first | omega | with_reducible rfl | ((with_reducible refine eqId ?_); exact rfl) | with_reducible (first | assumption | exact pl ‹_› | exact pr ‹_› | exact plr ‹_› | exact pll ‹_› | exact prl ‹_› | exact plll ‹_› | exact prll ‹_›))
  refine CallK.cur (spec_l1Below nb hn _) rfl rfl rfl (fun _ _ _ => amC) ?_
  rintro b ⟨hb0, hb1⟩
  (try refine am (h := ?_)); (try with_reducible apply True.intro)
  repeat' (first | (with_reducible refine And.intro ?_ ?_) | (with_reducible intro _))
  all_goals try (first | omega | with_reducible rfl | ((with_reducible refine eqId ?_); exact rfl) | with_reducible (first | assumption | exact pl ‹_› | exact pr ‹_› | exact plr ‹_› | exact pll ‹_› | exact prl ‹_› | exact plll ‹_› | exact prll ‹_›))
  · refine FinK.cur (.refl _) ⟨trivial, rfl⟩ rfl ?_
    refine FinK.ex (l ++ [[]]) ?hq3 ?_
    case hq3 => exact okL_app1 hl ⟨Nat.zero_le _, fun y hy => by simp at hy⟩ (by decide)
    refine FinK.cell1 ?_ ?_ ?_
    all_goals (try refine amF (h := ?_))
    all_goals (try with_reducible apply True.intro)
    exact appRows rfl (ALe.of (.inl rfl) rfl (fun i hi => by omega))
  · have hr0 : (l.getD 0 []).length ≤ 2 ^ 20 := (hl.2 _ (getD_mem (by omega))).1
    refine CallCE.cur (spec_l1PickInt nb hn true (some false) [2, -1, 1, 1] (by simp) (by simp)) (2) ?hcq rfl rfl rfl (fun _ _ _ => amC) (fun _ => rfl) (fun _ => rfl) ?_
    case hcq => exact by simp
    rintro z hz
    (try refine am (h := ?_)); (try with_reducible apply True.intro)
    have hz2 : -1 ≤ z ∧ z ≤ 2 := by simp at hz; omega
    repeat' (first | (with_reducible refine And.intro ?_ ?_) | (with_reducible intro _))
    all_goals try (first | omega | with_reducible rfl | ((with_reducible refine eqId ?_); exact rfl) | with_reducible (first | assumption | exact pl ‹_› | exact pr ‹_› | exact plr ‹_› | exact pll ‹_› | exact prl ‹_› | exact plll ‹_› | exact prll ‹_›))
    refine FinK.cur (.refl _) ⟨trivial, rfl⟩ rfl ?_
    refine FinK.ex (l.set 0 (l.getD 0 [] ++ [z])) ?hq4 ?_
    case hq4 => exact okL_set hl (okI_app1 (B := 2 ^ 30) (hl.2 _ (getD_mem (by omega))) (by omega) (by decide)) (by decide)
    refine FinK.cell1 ?_ ?_ ?_
    all_goals (try refine amF (h := ?_))
    all_goals (try with_reducible apply True.intro)
    refine rowsLe2 (by simp) (fun i hi => ?_)
    by_cases e : i = 0
    · subst e
      have e1 : (l.set 0 (l.getD 0 [] ++ [z])).getD 0 [] = l.getD 0 [] ++ [z] := getD_set_eq (by omega)
      rw [e1, if_pos (by decide)]
      exact appIntD rfl
    · have e1 : (l.set 0 (l.getD 0 [] ++ [z])).getD i [] = l.getD i [] := getD_set_ne (by omega)
      rw [e1, if_neg (by omega), if_neg (by omega)]
      exact .refl _
  · refine FinK.cur (.refl _) ⟨trivial, rfl⟩ rfl ?_
    refine FinK.ex (l) ?hq5 ?_
    case hq5 => exact okL_up hl
    refine FinK.cell1 ?_ ?_ ?_
    all_goals (try refine amF (h := ?_))
    all_goals (try with_reducible apply True.intro)
  · refine LoopK.intro ((List (List Int))) (fun x => [(3, .one (.ref 302 [] [0] 0 0)), (0, .one (.ref 1 [] [0] 0 0))]) (fun x => [(302, ⟨.sl true none 1 1 (fun _ _ => .sl true none 1 x.length (fL true x)), []⟩)]) [2] [5, 1] 500 (fun x => okL (2 ^ 30 - 1) x) (fun x => 9 - x.length) (l) ?_ ?_ ?_
    · exact okL_up hl
    · refine Le.auto [] (r0 := ?r07) (ren := ?ren7) ?ea7 ?eb7 ?a7 ?b7 ?c7 ?d7 ?ho7 ?hn7 ?ht7
      case ea7 => exact amR
      case eb7 => exact amR
      case a7 => exact rfl
      case b7 => exact rfl
      case c7 => exact rfl
      case d7 => exact rfl
      all_goals (try refine amL (h := ?_))
      all_goals (try with_reducible apply True.intro)
      refine boxLe ?_
      first | (rw [if_pos (by decide)]; exact .refl _) | exact .refl _
    · intro m hok
      have hml := hok.1
      (try refine am (h := ?_)); (try with_reducible apply True.intro)
      repeat' (first | (with_reducible refine And.intro ?_ ?_) | (with_reducible intro _))
      all_goals try (first | omega | with_reducible rfl | ((with_reducible refine eqId ?_); exact rfl) | with_reducible (first | assumption | exact pl ‹_› | exact pr ‹_› | exact plr ‹_› | exact pll ‹_› | exact prl ‹_› | exact plll ‹_› | exact prll ‹_›))
      · refine ⟨m ++ [[1]], ?_, ?_, by simp; omega⟩
        · refine Le.auto [] (r0 := ?r08) (ren := ?ren8) ?ea8 ?eb8 ?a8 ?b8 ?c8 ?d8 ?ho8 ?hn8 ?ht8
          case ea8 => exact amR
          case eb8 => exact amR
          case a8 => exact rfl
          case b8 => exact rfl
          case c8 => exact rfl
          case d8 => exact rfl
          all_goals (try refine amL (h := ?_))
          all_goals (try with_reducible apply True.intro)
          refine boxLe ?_
          rw [if_pos (by decide)]
          exact appRows rfl oneInt
        · refine ⟨by simp; omega, fun x hx => ?_⟩
          rcases List.mem_append.1 hx with hx | hx
          · exact hok.2 x hx
          · have : x = [1] := by simpa using hx
            subst this
            exact ⟨by decide, fun y hy => by simp at hy; subst hy; exact ⟨by decide, by decide⟩⟩
      · refine FinK.cur (.refl _) ⟨trivial, rfl⟩ rfl ?_
        refine FinK.ex (m) ?hq6 ?_
        case hq6 => exact okL_up hok
        refine FinK.cell1 ?_ ?_ ?_
        all_goals (try refine amF (h := ?_))
        all_goals (try with_reducible apply True.intro)
  · refine CallCE.cur (spec_l1PickInt nb hn true (some false) [256, 257, 1, -1] (by simp) (by simp)) (256) ?hcq rfl rfl rfl (fun _ _ _ => amC) (fun _ => rfl) (fun _ => rfl) ?_
    case hcq => exact by simp
    rintro z hz
    (try refine am (h := ?_)); (try with_reducible apply True.intro)
    have hz2 : -1 ≤ z ∧ z ≤ 257 := by simp at hz; omega
    repeat' (first | (with_reducible refine And.intro ?_ ?_) | (with_reducible intro _))
    all_goals try (first | omega | with_reducible rfl | ((with_reducible refine eqId ?_); exact rfl) | with_reducible (first | assumption | exact pl ‹_› | exact pr ‹_› | exact plr ‹_› | exact pll ‹_› | exact prl ‹_› | exact plll ‹_› | exact prll ‹_›))
    refine FinK.cur (.refl _) ⟨trivial, rfl⟩ rfl ?_
    refine FinK.ex (l ++ [[z]]) ?hq7 ?_
    case hq7 => exact okL_app1 hl (okI_one hz2) (by decide)
    refine FinK.cell1 ?_ ?_ ?_
    all_goals (try refine amF (h := ?_))
    all_goals (try with_reducible apply True.intro)
    exact appRows rfl oneInt
  · refine FinK.cur (.refl _) ⟨trivial, rfl⟩ rfl ?_
    refine FinK.ex (l) ?hq8 ?_
    case hq8 => exact okL_up hl
    refine FinK.cell1 ?_ ?_ ?_
    all_goals (try refine amF (h := ?_))
    all_goals (try with_reducible apply True.intro)
set_option maxHeartbeats 8000000 in
theorem spec_DrawCutAt (code : List UInt8) (hc : code.length ≤ 2 ^ 40) : ACalls Try.prog 68 [.one (aB false code)] (fun r => ∃ x : List (List Int) × Int, (okL (2 ^ 30) x.1 ∧ 0 ≤ x.2 ∧ x.2 ≤ 10) ∧ r = .tup [.agg [aL true true x.1], .one (.int .i64 x.2)]) := by
  have nt : Try.f68.ntmps = 13 := rfl
  have rs : Try.f68.results = #[.cell 2 50, .tmp 3] := rfl
  refine ACalls.of_runC (m := 400) mixed Try.func68 rfl rfl (Nat.le_of_ble_eq_true rfl) ?_
  simp only [nt, rs]
  clear nt rs
  (try refine am (h := ?_)); (try with_reducible apply True.intro)
  repeat' (first | (with_reducible refine And.intro ?_ ?_) | (with_reducible intro _))
  all_goals try (first | omega | with_reducible rfl | ((with_reducible refine eqId ?_); exact rfl) | with_reducible (first | assumption | exact pl ‹_› | exact pr ‹_› | exact plr ‹_› | exact pll ‹_› | exact prl ‹_› | exact plll ‹_› | exact prll ‹_›))
  refine CallK.new (spec_l1New code hc) ?_
  rintro xc
  (try refine am (h := ?_)); (try with_reducible apply True.intro)
  repeat' (first | (with_reducible refine And.intro ?_ ?_) | (with_reducible intro _))
  all_goals try (first | omega | with_reducible rfl | ((with_reducible refine eqId ?_); exact rfl) | with_reducible (first | assumption | exact pl ‹_› | exact pr ‹_› | exact plr ‹_› | exact pll ‹_› | exact prl ‹_› | exact plll ‹_› | exact prll ‹_›))
  refine CallK.cur (spec_l16Draw code.length hc) rfl rfl rfl (fun _ _ _ => amC) ?_
  rintro l hl
  (try refine am (h := ?_)); (try with_reducible apply True.intro)
  repeat' (first | (with_reducible refine And.intro ?_ ?_) | (with_reducible intro _))
  all_goals try (first | omega | with_reducible rfl | ((with_reducible refine eqId ?_); exact rfl) | with_reducible (first | assumption | exact pl ‹_› | exact pr ‹_› | exact plr ‹_› | exact pll ‹_› | exact prl ‹_› | exact plll ‹_› | exact prll ‹_›))
  refine CallCE.cur (spec_l17Sure code.length hc) (0) ?hcq rfl rfl rfl (fun _ _ _ => amC) (fun _ => rfl) (fun _ => rfl) ?_
  case hcq => exact by omega
  rintro z hz
  (try refine am (h := ?_)); (try with_reducible apply True.intro)
  repeat' (first | (with_reducible refine And.intro ?_ ?_) | (with_reducible intro _))
  all_goals try (first | omega | with_reducible rfl | ((with_reducible refine eqId ?_); exact rfl) | with_reducible (first | assumption | exact pl ‹_› | exact pr ‹_› | exact plr ‹_› | exact pll ‹_› | exact prl ‹_› | exact plll ‹_› | exact prll ‹_›))
  refine FinK.ex ((l, z)) ?hq9 ?_
  case hq9 => exact ⟨hl, hz⟩
  refine FinK.tup ?_ ?_
  all_goals (try refine amF (h := ?_))
  all_goals (try with_reducible apply True.intro)
set_option maxHeartbeats 8000000 in
theorem spec_DrawShrink (code : List UInt8) (hc : code.length ≤ 2 ^ 40) : ACalls Try.prog 27 [.one (aB false code)] (fun r => ∃ x : List (List Int) × Int, (okL (2 ^ 30) x.1 ∧ 0 ≤ x.2 ∧ x.2 ≤ 10) ∧ r = .tup [.agg [aL true true x.1], .one (.int .i64 x.2)]) := by
  have nt : Try.f27.ntmps = 8 := rfl
  have rs : Try.f27.results = #[.cell 2 50, .tmp 3] := rfl
  refine ACalls.of_runC (m := 400) mixed Try.func27 rfl rfl (Nat.le_of_ble_eq_true rfl) ?_
  simp only [nt, rs]
  clear nt rs
  (try refine am (h := ?_)); (try with_reducible apply True.intro)
  repeat' (first | (with_reducible refine And.intro ?_ ?_) | (with_reducible intro _))
  all_goals try (first | omega | with_reducible rfl | ((with_reducible refine eqId ?_); exact rfl) | with_reducible (first | assumption | exact pl ‹_› | exact pr ‹_› | exact plr ‹_› | exact pll ‹_› | exact prl ‹_› | exact plll ‹_› | exact prll ‹_›))
  refine CallK.ex (spec_DrawCutAt code hc) (fun _ _ _ => amC) ?_
  rintro ⟨l, z⟩ hx
  (try refine am (h := ?_)); (try with_reducible apply True.intro)
  repeat' (first | (with_reducible refine And.intro ?_ ?_) | (with_reducible intro _))
  all_goals try (first | omega | with_reducible rfl | ((with_reducible refine eqId ?_); exact rfl) | with_reducible (first | assumption | exact pl ‹_› | exact pr ‹_› | exact plr ‹_› | exact pll ‹_› | exact prl ‹_› | exact plll ‹_› | exact prll ‹_›))
  refine FinK.ex ((l, z)) ?hq10 ?_
  case hq10 => exact hx
  refine FinK.tup ?_ ?_
  all_goals (try refine amF (h := ?_))
  all_goals (try with_reducible apply True.intro)
end Go.AM
