/- Lemmas for the proof of this claim. -/
import Derived.Test.YtbfofhfeghfpoaaBas
import Derived.Test.YtbfofhfeghfpoaaData
import Derived.Test.YtbfofhfeghfpoaaWlib
import Derived.Test.YtbfofhfeghfpoaaWina
namespace Go.AM
open Go Go.Proofs
set_option maxRecDepth 100000
theorem appIntD {row : List Int} {x : Int} {nl : Option Bool} {n : Nat} (hn : n = row.length + 1) : ALe (.sl true nl 1 n (apF row.length (fI row) (rowsF [[.int .i64 x]]))) (.sl true none 1 (row ++ [x]).length (fI (row ++ [x]))) := by
  refine ALe.of (.inl rfl) (by simp [hn]) (fun i hi j hj => ?_)
  obtain rfl : j = 0 := by omega
  unfold apF
  by_cases h : i < row.length
  · rw [if_pos h, fI_at, fI_at, getD_app, if_pos h]; exact .refl _
  · obtain rfl : i = row.length := by omega
    rw [if_neg h, fI_at, getD_app, if_neg h]
    simp [rowsF, gl]
    exact .refl _
theorem okI_app1 {A B : Nat} {l : List Int} {x : Int} (h : okI A l) (hx : -1000000000000 ≤ x ∧ x ≤ 1000000000000) (hB : A + 1 ≤ B) : okI B (l ++ [x]) := by
  refine ⟨by have := h.1; simp; omega, fun y hy => ?_⟩
  simp only [List.mem_append, List.mem_singleton] at hy
  rcases hy with e | e
  · exact h.2 y e
  · subst e; exact ⟨by show (-9223372036854775808 : Int) ≤ y; omega, by show y ≤ (9223372036854775807 : Int); omega⟩
theorem okI_up {A B : Nat} {l : List Int} (h : okI A l) (hB : A ≤ B) : okI B l := ⟨by have := h.1; omega, h.2⟩
theorem okL_up {A B : Nat} {l : List (List Int)} (h : okL A l) (hB : A ≤ B := by decide) : okL B l := ⟨by have := h.1; omega, fun r hr => okI_up (h.2 r hr) hB⟩
theorem mem_app1 {l : List Int} {x y : Int} (h : y ∈ l ++ [x]) : y ∈ l ∨ y = x := by simpa using h
theorem ale_cur {xc : Value} {nb : Nat} {f : Nat → Nat → AV} (h0 : ALe (f 0 0) (.pin xc (curS nb))) (h1 : ALe (f 0 1) (.rng .i64 0 9223372036854775807)) (h2 : ALe (f 0 2) (AV.full .i64)) : ALe (.sl true none 3 1 f) (curA xc nb) := by
  refine .sl _ _ _ _ _ _ (fun i hi j hj => ?_)
  obtain rfl : i = 0 := by omega
  match j, hj with
  | 0, _ => exact h0
  | 1, _ => exact h1
  | 2, _ => exact h2
def anyV {α : Type} (x : α) : Prop := True
theorem anyV.mk {α : Type} (x : α) : anyV x := trivial
set_option maxHeartbeats 4000000 in
theorem spec_l1Byte (nb : Nat) (hn : nb ≤ 2 ^ 40) : ACur Try.prog 90 nb [] (fun r => ∃ z : Int, (0 ≤ z ∧ z ≤ 255) ∧ r = .val (.one (.int .i64 z))) := by
  refine ACur.unrng ?_
  have nt : Try.f90.ntmps = 58 := rfl
  have rs : Try.f90.results = #[.tmp 2] := rfl
  refine ACur.of_run0 (m := 400) (fun x (i : { i : Int // 0 ≤ i ∧ i ≤ 9223372036854775807 }) => curI x nb i.1) cur_open (fun _ _ => rfl) mixed Try.func90 rfl rfl (Nat.le_of_ble_eq_true rfl) (fun xc ix => ?_)
  obtain ⟨ic, hic0, hic1⟩ := ix
  simp only [nt, rs, curI, curS]
  clear nt rs
  (try refine am (h := ?_)); (try with_reducible apply True.intro)
  repeat' (first | (with_reducible refine And.intro ?_ ?_) | (with_reducible intro _))
  all_goals try (first | omega | with_reducible rfl | ((with_reducible refine eqId ?_); exact rfl) | with_reducible (first | assumption | exact pl ‹_› | exact pr ‹_› | exact plr ‹_› | exact pll ‹_› | exact prl ‹_› | exact plll ‹_› | exact prll ‹_›))
  · refine FinK.cur (x := xc) (n := nb) (ale_cur ?_ ?_ ?_) ⟨trivial, rfl⟩ rfl ?_
    · exact .refl _
    · exact ale_rng _ _ _ _ (by omega)
    · exact .refl _
    · refine FinK.val1 ?_ ?_
      all_goals (try refine amF (h := ?_))
      all_goals (try with_reducible apply True.intro)
  · refine FinK.cur (x := xc) (n := nb) (ale_cur ?_ ?_ ?_) ⟨trivial, rfl⟩ rfl ?_
    · exact .refl _
    · exact ale_rng _ _ _ _ (by omega)
    · exact .refl _
    · refine FinK.val1 ?_ ?_
      all_goals (try refine amF (h := ?_))
      all_goals (try with_reducible apply True.intro)
set_option maxHeartbeats 4000000 in
theorem spec_l1Below (nb : Nat) (hn : nb ≤ 2 ^ 40) (n : Int) : ACur Try.prog 49 nb [.one (.int .i64 n)] (fun r => ∃ z : Int, (0 ≤ z ∧ (z < n ∨ z = 0)) ∧ r = .val (.one (.int .i64 z))) := by
  have nt : Try.f49.ntmps = 37 := rfl
  have rs : Try.f49.results = #[.tmp 4] := rfl
  refine ACur.of_run (m := 400) mixed Try.func49 rfl rfl (Nat.le_of_ble_eq_true rfl) (fun xc => ?_)
  simp only [nt, rs]
  clear nt rs
  (try refine am (h := ?_)); (try with_reducible apply True.intro)
  repeat' (first | (with_reducible refine And.intro ?_ ?_) | (with_reducible intro _))
  all_goals try (first | omega | with_reducible rfl | ((with_reducible refine eqId ?_); exact rfl) | with_reducible (first | assumption | exact pl ‹_› | exact pr ‹_› | exact plr ‹_› | exact pll ‹_› | exact prl ‹_› | exact plll ‹_› | exact prll ‹_›))
  · refine FinK.cur (.refl _) ⟨trivial, rfl⟩ rfl ?_
    refine FinK.ex (0) ?hq1 ?_
    case hq1 => exact by omega
    refine FinK.val1 ?_ ?_
    all_goals (try refine amF (h := ?_))
    all_goals (try with_reducible apply True.intro)
  · refine CallK.cur (spec_l1Byte nb hn) rfl rfl rfl (fun _ _ _ => amC) ?_
    rintro z ⟨hz0, hz1⟩
    (try refine am (h := ?_)); (try with_reducible apply True.intro)
    repeat' (first | (with_reducible refine And.intro ?_ ?_) | (with_reducible intro _))
    all_goals try (first | omega | with_reducible rfl | ((with_reducible refine eqId ?_); exact rfl) | with_reducible (first | assumption | exact pl ‹_› | exact pr ‹_› | exact plr ‹_› | exact pll ‹_› | exact prl ‹_› | exact plll ‹_› | exact prll ‹_›))
    refine FinK.cur (.refl _) ⟨trivial, rfl⟩ rfl ?_
    refine FinK.ex (z.tmod n) ?hq2 ?_
    case hq2 => exact ⟨Int.tmod_nonneg _ hz0, .inl (Int.tmod_lt_of_pos _ (by omega))⟩
    refine FinK.val1 ?_ ?_
    all_goals (try refine amF (h := ?_))
    all_goals (try with_reducible apply True.intro)
  · refine CallK.cur (spec_l1Byte nb hn) rfl rfl rfl (fun _ _ _ => amC) ?_
    rintro z ⟨hz0, hz1⟩
    (try refine am (h := ?_)); (try with_reducible apply True.intro)
    repeat' (first | (with_reducible refine And.intro ?_ ?_) | (with_reducible intro _))
    all_goals try (first | omega | with_reducible rfl | ((with_reducible refine eqId ?_); exact rfl) | with_reducible (first | assumption | exact pl ‹_› | exact pr ‹_› | exact plr ‹_› | exact pll ‹_› | exact prl ‹_› | exact plll ‹_› | exact prll ‹_›))
    refine CallK.cur (spec_l1Byte nb hn) rfl rfl rfl (fun _ _ _ => amC) ?_
    rintro y ⟨hy0, hy1⟩
    (try refine am (h := ?_)); (try with_reducible apply True.intro)
    repeat' (first | (with_reducible refine And.intro ?_ ?_) | (with_reducible intro _))
    all_goals try (first | omega | with_reducible rfl | ((with_reducible refine eqId ?_); exact rfl) | with_reducible (first | assumption | exact pl ‹_› | exact pr ‹_› | exact plr ‹_› | exact pll ‹_› | exact prl ‹_› | exact plll ‹_› | exact prll ‹_›))
    refine CallK.cur (spec_l1Byte nb hn) rfl rfl rfl (fun _ _ _ => amC) ?_
    rintro x ⟨hx0, hx1⟩
    (try refine am (h := ?_)); (try with_reducible apply True.intro)
    repeat' (first | (with_reducible refine And.intro ?_ ?_) | (with_reducible intro _))
    all_goals try (first | omega | with_reducible rfl | ((with_reducible refine eqId ?_); exact rfl) | with_reducible (first | assumption | exact pl ‹_› | exact pr ‹_› | exact plr ‹_› | exact pll ‹_› | exact prl ‹_› | exact plll ‹_› | exact prll ‹_›))
    refine CallK.cur (spec_l1Byte nb hn) rfl rfl rfl (fun _ _ _ => amC) ?_
    rintro w ⟨hw0, hw1⟩
    (try refine am (h := ?_)); (try with_reducible apply True.intro)
    repeat' (first | (with_reducible refine And.intro ?_ ?_) | (with_reducible intro _))
    all_goals try (first | omega | with_reducible rfl | ((with_reducible refine eqId ?_); exact rfl) | with_reducible (first | assumption | exact pl ‹_› | exact pr ‹_› | exact plr ‹_› | exact pll ‹_› | exact prl ‹_› | exact plll ‹_› | exact prll ‹_›))
    refine FinK.cur (.refl _) ⟨trivial, rfl⟩ rfl ?_
    refine FinK.ex ((z * 16777216 + y * 65536 + x * 256 + w).tmod n) ?hq3 ?_
    case hq3 => exact ⟨Int.tmod_nonneg _ (by omega), .inl (Int.tmod_lt_of_pos _ (by omega))⟩
    refine FinK.val1 ?_ ?_
    all_goals (try refine amF (h := ?_))
    all_goals (try with_reducible apply True.intro)
set_option maxHeartbeats 4000000 in
theorem spec_l1Once (nb : Nat) (hn : nb ≤ 2 ^ 40) (n : Int) : ACur Try.prog 85 nb [.one (.int .i64 n)] (fun r => ∃ b : Bool, anyV b ∧ r = .val (.one (.bool b))) := by
  have nt : Try.f85.ntmps = 9 := rfl
  have rs : Try.f85.results = #[.tmp 4] := rfl
  refine ACur.of_run (m := 400) mixed Try.func85 rfl rfl (Nat.le_of_ble_eq_true rfl) (fun xc => ?_)
  simp only [nt, rs]
  clear nt rs
  (try refine am (h := ?_)); (try with_reducible apply True.intro)
  repeat' (first | (with_reducible refine And.intro ?_ ?_) | (with_reducible intro _))
  all_goals try (first | omega | with_reducible rfl | ((with_reducible refine eqId ?_); exact rfl) | with_reducible (first | assumption | exact pl ‹_› | exact pr ‹_› | exact plr ‹_› | exact pll ‹_› | exact prl ‹_› | exact plll ‹_› | exact prll ‹_›))
  refine CallK.cur (spec_l1Below nb hn n) rfl rfl rfl (fun _ _ _ => amC) ?_
  rintro z ⟨hz0, hz1⟩
  (try refine am (h := ?_)); (try with_reducible apply True.intro)
  repeat' (first | (with_reducible refine And.intro ?_ ?_) | (with_reducible intro _))
  all_goals try (first | omega | with_reducible rfl | ((with_reducible refine eqId ?_); exact rfl) | with_reducible (first | assumption | exact pl ‹_› | exact pr ‹_› | exact plr ‹_› | exact pll ‹_› | exact prl ‹_› | exact plll ‹_› | exact prll ‹_›))
  refine FinK.cur (.refl _) ⟨trivial, rfl⟩ rfl ?_
  refine FinK.ex (decide (z = 0)) ?hq4 ?_
  case hq4 => exact anyV.mk _
  refine FinK.val1 ?_ ?_
  all_goals (try refine amF (h := ?_))
  all_goals (try with_reducible apply True.intro)
theorem getD_mem' {l : List Int} {i : Nat} (h : i < l.length) : l.getD i 0 ∈ l := by
  rw [List.getD_eq_getElem?_getD, List.getElem?_eq_getElem h]
  exact List.getElem_mem h
def litF (l : List Int) : Nat → Nat → AV := rowsF (l.map fun z => [.int .i64 z])
theorem litF_at (l : List Int) (i : Nat) (h : i < l.length) : litF l i 0 = .int .i64 (l.getD i 0) := by
  unfold litF rowsF
  rw [gl_eq, gl_eq]
  simp [List.getD, h]
set_option maxHeartbeats 4000000 in
theorem spec_l1PickInt (nb : Nat) (hn : nb ≤ 2 ^ 40) (u : Bool) (nl : Option Bool) (l : List Int) (hl : 0 < l.length) (hl2 : l.length ≤ 2 ^ 40) : ACur Try.prog 48 nb [.one (.sl u nl 1 l.length (litF l))] (fun r => ∃ z : Int, z ∈ l ∧ r = .val (.one (.int .i64 z))) := by
  have nt : Try.f48.ntmps = 12 := rfl
  have rs : Try.f48.results = #[.tmp 4] := rfl
  refine ACur.of_run (m := 400) mixed Try.func48 rfl rfl (Nat.le_of_ble_eq_true rfl) (fun xc => ?_)
  simp only [nt, rs]
  clear nt rs
  (try refine am (h := ?_)); (try with_reducible apply True.intro)
  repeat' (first | (with_reducible refine And.intro ?_ ?_) | (with_reducible intro _))
  all_goals try (first | omega | with_reducible rfl | ((with_reducible refine eqId ?_); exact rfl) | with_reducible (first | assumption | exact pl ‹_› | exact pr ‹_› | exact plr ‹_› | exact pll ‹_› | exact prl ‹_› | exact plll ‹_› | exact prll ‹_›))
  refine CallK.cur (spec_l1Below nb hn l.length) rfl rfl rfl (fun _ _ _ => amC) ?_
  rintro z ⟨hz0, hz1⟩
  (try refine am (h := ?_)); (try with_reducible apply True.intro)
  have e := litF_at l z.toNat (by omega)
  repeat' (first | (with_reducible refine And.intro ?_ ?_) | (with_reducible intro _))
  all_goals try (first | omega | with_reducible rfl | ((with_reducible refine eqId ?_); exact rfl) | with_reducible (first | assumption | exact pl ‹_› | exact pr ‹_› | exact plr ‹_› | exact pll ‹_› | exact prl ‹_› | exact plll ‹_› | exact prll ‹_›))
  rw [e]
  refine FinK.cur (.refl _) ⟨trivial, rfl⟩ rfl ?_
  refine FinK.ex (l.getD z.toNat 0) ?hq5 ?_
  case hq5 => exact getD_mem' (by omega)
  refine FinK.val1 ?_ ?_
  all_goals (try refine amF (h := ?_))
  all_goals (try with_reducible apply True.intro)
set_option maxHeartbeats 4000000 in
theorem spec_l1Bit (b : Bool) : ACalls Try.prog 111 [.one (.bool b)] (fun r => r = .val (.one (.int .i64 (if b = true then 1 else 0)))) := by
  have nt : Try.f111.ntmps = 4 := rfl
  have rs : Try.f111.results = #[.tmp 2] := rfl
  refine ACalls.of_run (m := 400) mixed Try.func111 rfl rfl (Nat.le_of_ble_eq_true rfl) ?_
  simp only [nt, rs]
  clear nt rs
  (try refine am (h := ?_)); (try with_reducible apply True.intro)
  repeat' (first | (with_reducible refine And.intro ?_ ?_) | (with_reducible intro _))
  all_goals try (first | omega | with_reducible rfl | ((with_reducible refine eqId ?_); exact rfl) | with_reducible (first | assumption | exact pl ‹_› | exact pr ‹_› | exact plr ‹_› | exact pll ‹_› | exact prl ‹_› | exact plll ‹_› | exact prll ‹_›))
  · refine FinK.val1 ?_ ?_
    all_goals (try refine amF (h := ?_))
    all_goals (try with_reducible apply True.intro)
    simp_all
  · refine FinK.val1 ?_ ?_
    all_goals (try refine amF (h := ?_))
    all_goals (try with_reducible apply True.intro)
    simp_all
set_option maxHeartbeats 4000000 in
theorem spec_l1New (code : List UInt8) (hc : code.length ≤ 2 ^ 40) : ANew Try.prog 47 [.one (.sl false none 1 code.length (fB code))] code.length := by
  have nt : Try.f47.ntmps = 32 := rfl
  refine ANew.of_run (m := 400) (t := 2) mixed Try.func47 rfl rfl (Nat.le_of_ble_eq_true rfl) rfl ?_
  simp only [nt]
  clear nt
  (try refine am (h := ?_)); (try with_reducible apply True.intro)
  repeat' (first | (with_reducible refine And.intro ?_ ?_) | (with_reducible intro _))
  all_goals try (first | omega | with_reducible rfl | ((with_reducible refine eqId ?_); exact rfl) | with_reducible (first | assumption | exact pl ‹_› | exact pr ‹_› | exact plr ‹_› | exact pll ‹_› | exact prl ‹_› | exact plll ‹_› | exact prll ‹_›))
  refine LoopK.auto (Nat) (fun i => [(3, .one (.av (AV.full .i64))), (4, .one (.av (.int .i64 i)))]) (fun i => []) [0] (k0 := ?k01) (keepH := ?kh1) 400 (fun i => i ≤ code.length) (fun i => code.length - i) (0) ?kea1 ?keb1 ?_ ?_ ?_
  case kea1 => exact amN
  case keb1 => exact amN
  · exact Nat.zero_le _
  · refine Le.auto [] (r0 := ?r01) (ren := ?ren1) ?ea1 ?eb1 ?a1 ?b1 ?c1 ?d1 ?ho1 ?hn1 ?ht1
    case ea1 => exact amR
    case eb1 => exact amR
    case a1 => exact rfl
    case b1 => exact rfl
    case c1 => exact rfl
    case d1 => exact rfl
    all_goals (try refine amL (h := ?_))
    all_goals (try with_reducible apply True.intro)
    exact .rng _ _ _ _ (by show (-9223372036854775808 : Int) ≤ _; omega) (by show _ ≤ (9223372036854775807 : Int); omega)
  · rintro i hi
    (try refine am (h := ?_)); (try with_reducible apply True.intro)
    repeat' (first | (with_reducible refine And.intro ?_ ?_) | (with_reducible intro _))
    all_goals try (first | omega | with_reducible rfl | ((with_reducible refine eqId ?_); exact rfl) | with_reducible (first | assumption | exact pl ‹_› | exact pr ‹_› | exact plr ‹_› | exact pll ‹_› | exact prl ‹_› | exact plll ‹_› | exact prll ‹_›))
    · refine ⟨i + 1, ?_, by omega, by omega⟩
      refine Le.auto [] (r0 := ?r02) (ren := ?ren2) ?ea2 ?eb2 ?a2 ?b2 ?c2 ?d2 ?ho2 ?hn2 ?ht2
      case ea2 => exact amR
      case eb2 => exact amR
      case a2 => exact rfl
      case b2 => exact rfl
      case c2 => exact rfl
      case d2 => exact rfl
      all_goals (try refine amL (h := ?_))
      all_goals (try with_reducible apply True.intro)
      all_goals rfl
    · refine ⟨⟨_, rfl, ⟨trivial, rfl⟩, ?_⟩, trivial, .tup [], trivial, trivial⟩
      refine .sl _ _ _ _ _ _ (fun i hi j hj => ?_)
      match j, hj with
      | 0, _ => exact .sl _ _ _ _ _ _ (fun i hi j hj => by
          obtain rfl : j = 0 := by omega
          exact ale_rng _ _ _ _ (by have := (code.getD i 0).toNat_lt; omega))
      | 1, _ => exact ale_rng _ _ _ _ (by omega)
      | 2, _ => exact .refl _
end Go.AM
namespace Go.AM
open Go Go.Proofs
set_option maxRecDepth 100000
set_option maxHeartbeats 4000000 in
theorem spec_l1Size (code : List UInt8) (hc : code.length ≤ 2 ^ 40) (most : Int) (hm : 2 ≤ most ∧ most ≤ 2 ^ 20) (u : Bool) : ACalls Try.prog 84 [.one (aB u code), .one (.int .i64 most)] (fun r => ∃ z : Int, (0 ≤ z ∧ z ≤ most) ∧ r = .val (.one (.int .i64 z))) := by
  have nt : Try.f84.ntmps = 15 := rfl
  have rs : Try.f84.results = #[.tmp 4] := rfl
  refine ACalls.of_run (m := 400) mixed Try.func84 rfl rfl (Nat.le_of_ble_eq_true rfl) ?_
  simp only [nt, rs]
  clear nt rs
  (try refine am (h := ?_)); (try with_reducible apply True.intro)
  have hq : 0 ≤ (code.length : Int).tdiv 20 := Int.tdiv_nonneg (by omega) (by omega)
  have hq2 : (code.length : Int).tdiv 20 ≤ code.length := Int.tdiv_le_self _ (by omega)
  repeat' (first | (with_reducible refine And.intro ?_ ?_) | (with_reducible intro _))
  all_goals try (first | omega | with_reducible rfl | ((with_reducible refine eqId ?_); exact rfl) | with_reducible (first | assumption | exact pl ‹_› | exact pr ‹_› | exact plr ‹_› | exact pll ‹_› | exact prl ‹_› | exact plll ‹_› | exact prll ‹_›))
  · refine FinK.ex (most) ?hq1 ?_
    case hq1 => exact by omega
    refine FinK.val1 ?_ ?_
    all_goals (try refine amF (h := ?_))
    all_goals (try with_reducible apply True.intro)
  · refine FinK.ex (2 + (code.length : Int).tdiv 20) ?hq2 ?_
    case hq2 => exact by omega
    refine FinK.val1 ?_ ?_
    all_goals (try refine amF (h := ?_))
    all_goals (try with_reducible apply True.intro)
set_option maxHeartbeats 4000000 in
theorem spec_l17Sure (nb : Nat) (hn : nb ≤ 2 ^ 40) : ACur Try.prog 86 nb [] (fun r => ∃ z : Int, (0 ≤ z ∧ z ≤ 10) ∧ r = .val (.one (.int .i64 z))) := by
  have nt : Try.f86.ntmps = 6 := rfl
  have rs : Try.f86.results = #[.tmp 2] := rfl
  refine ACur.of_run (m := 400) mixed Try.func86 rfl rfl (Nat.le_of_ble_eq_true rfl) (fun xc => ?_)
  simp only [nt, rs]
  clear nt rs
  (try refine am (h := ?_)); (try with_reducible apply True.intro)
  repeat' (first | (with_reducible refine And.intro ?_ ?_) | (with_reducible intro _))
  all_goals try (first | omega | with_reducible rfl | ((with_reducible refine eqId ?_); exact rfl) | with_reducible (first | assumption | exact pl ‹_› | exact pr ‹_› | exact plr ‹_› | exact pll ‹_› | exact prl ‹_› | exact plll ‹_› | exact prll ‹_›))
  refine CallK.cur (spec_l1PickInt nb hn true (some false) [1, 1, 2, 3, 5, 9, 0, 10] (by simp) (by simp)) rfl rfl rfl (fun _ _ _ => amC) ?_
  rintro z hz
  (try refine am (h := ?_)); (try with_reducible apply True.intro)
  have hz2 : 0 ≤ z ∧ z ≤ 10 := by simp at hz; omega
  repeat' (first | (with_reducible refine And.intro ?_ ?_) | (with_reducible intro _))
  all_goals try (first | omega | with_reducible rfl | ((with_reducible refine eqId ?_); exact rfl) | with_reducible (first | assumption | exact pl ‹_› | exact pr ‹_› | exact plr ‹_› | exact pll ‹_› | exact prl ‹_› | exact plll ‹_› | exact prll ‹_›))
  refine FinK.cur (.refl _) ⟨trivial, rfl⟩ rfl ?_
  refine FinK.ex (z) ?hq3 ?_
  case hq3 => exact hz2
  refine FinK.val1 ?_ ?_
  all_goals (try refine amF (h := ?_))
  all_goals (try with_reducible apply True.intro)
def bits01 (l : List Int) : Prop := ∀ x ∈ l, 0 ≤ x ∧ x ≤ 1
theorem bits01_okI {A : Nat} {l : List Int} (h : bits01 l) (hl : l.length ≤ A) : okI A l := ⟨hl, fun x hx => by have := h x hx; exact ⟨by show (-9223372036854775808 : Int) ≤ x; omega, by show x ≤ (9223372036854775807 : Int); omega⟩⟩
set_option maxHeartbeats 8000000 in
theorem spec_l16Bits (nb : Nat) (hn : nb ≤ 2 ^ 40) (most : Int) (hm : 0 ≤ most ∧ most ≤ 2 ^ 16) : ACur Try.prog 83 nb [.one (.int .i64 most)] (fun r => ∃ l : List Int, (l.length ≤ 2 ^ 17 ∧ bits01 l) ∧ r = .val (.one (aI true l))) := by
  have nt : Try.f83.ntmps = 45 := rfl
  have rs : Try.f83.results = #[.tmp 4] := rfl
  refine ACur.of_run (m := 400) mixed Try.func83 rfl rfl (Nat.le_of_ble_eq_true rfl) (fun xc => ?_)
  simp only [nt, rs]
  clear nt rs
  (try refine am (h := ?_)); (try with_reducible apply True.intro)
  repeat' (first | (with_reducible refine And.intro ?_ ?_) | (with_reducible intro _))
  all_goals try (first | omega | with_reducible rfl | ((with_reducible refine eqId ?_); exact rfl) | with_reducible (first | assumption | exact pl ‹_› | exact pr ‹_› | exact plr ‹_› | exact pll ‹_› | exact prl ‹_› | exact plll ‹_› | exact prll ‹_›))
  refine CallK.cur (spec_l1Below nb hn _) rfl rfl rfl (fun _ _ _ => amC) ?_
  rintro n ⟨hn0, hn1⟩
  (try refine am (h := ?_)); (try with_reducible apply True.intro)
  repeat' (first | (with_reducible refine And.intro ?_ ?_) | (with_reducible intro _))
  all_goals try (first | omega | with_reducible rfl | ((with_reducible refine eqId ?_); exact rfl) | with_reducible (first | assumption | exact pl ‹_› | exact pr ‹_› | exact plr ‹_› | exact pll ‹_› | exact prl ‹_› | exact plll ‹_› | exact prll ‹_›))
  refine CallK.cur (spec_l1Below nb hn _) rfl rfl rfl (fun _ _ _ => amC) ?_
  rintro turn ht
  (try refine am (h := ?_)); (try with_reducible apply True.intro)
  repeat' (first | (with_reducible refine And.intro ?_ ?_) | (with_reducible intro _))
  all_goals try (first | omega | with_reducible rfl | ((with_reducible refine eqId ?_); exact rfl) | with_reducible (first | assumption | exact pl ‹_› | exact pr ‹_› | exact plr ‹_› | exact pll ‹_› | exact prl ‹_› | exact plll ‹_› | exact prll ‹_›))
  refine CallK.cur (spec_l1PickInt nb hn true (some false) [2, 8, 200] (by simp) (by simp)) rfl rfl rfl (fun _ _ _ => amC) ?_
  rintro few hf
  (try refine am (h := ?_)); (try with_reducible apply True.intro)
  repeat' (first | (with_reducible refine And.intro ?_ ?_) | (with_reducible intro _))
  all_goals try (first | omega | with_reducible rfl | ((with_reducible refine eqId ?_); exact rfl) | with_reducible (first | assumption | exact pl ‹_› | exact pr ‹_› | exact plr ‹_› | exact pll ‹_› | exact prl ‹_› | exact plll ‹_› | exact prll ‹_›))
  refine LoopK.auto ((List Int × Nat)) (fun x => [(9, .one (.av (.int .i64 x.2))), (5, .one (.own 302 [] [0]))]) (fun x => [(302, ⟨.sl true none 1 x.1.length (fI x.1), []⟩)]) [0, 6, 7, 8] (k0 := ?k01) (keepH := ?kh1) 500 (fun x => (x.1.length = x.2 ∧ (x.2 : Int) ≤ n) ∧ bits01 x.1) (fun x => n.toNat - x.2) (([], 0)) ?kea1 ?keb1 ?_ ?_ ?_
  case kea1 => exact amN
  case keb1 => exact amN
  · exact ⟨⟨rfl, by simp; omega⟩, fun y hy => by simp at hy⟩
  · refine Le.auto [] (r0 := ?r01) (ren := ?ren1) ?ea1 ?eb1 ?a1 ?b1 ?c1 ?d1 ?ho1 ?hn1 ?ht1
    case ea1 => exact amR
    case eb1 => exact amR
    case a1 => exact rfl
    case b1 => exact rfl
    case c1 => exact rfl
    case d1 => exact rfl
    all_goals (try refine amL (h := ?_))
    all_goals (try with_reducible apply True.intro)
    exact ALe.of (.inl rfl) rfl (fun i hi => by omega)
  · rintro ⟨l, i⟩ ⟨⟨hl, hi⟩, hb⟩
    dsimp only at hl hi hb ⊢
    (try refine am (h := ?_)); (try with_reducible apply True.intro)
    repeat' (first | (with_reducible refine And.intro ?_ ?_) | (with_reducible intro _))
    all_goals try (first | omega | with_reducible rfl | ((with_reducible refine eqId ?_); exact rfl) | with_reducible (first | assumption | exact pl ‹_› | exact pr ‹_› | exact plr ‹_› | exact pll ‹_› | exact prl ‹_› | exact plll ‹_› | exact prll ‹_›))
    · refine CallK.cur (spec_l1Once nb hn few) rfl rfl rfl (fun _ _ _ => amC) ?_
      rintro b hbb
      (try refine am (h := ?_)); (try with_reducible apply True.intro)
      repeat' (first | (with_reducible refine And.intro ?_ ?_) | (with_reducible intro _))
      all_goals try (first | omega | with_reducible rfl | ((with_reducible refine eqId ?_); exact rfl) | with_reducible (first | assumption | exact pl ‹_› | exact pr ‹_› | exact plr ‹_› | exact pll ‹_› | exact prl ‹_› | exact plll ‹_› | exact prll ‹_›))
      first | refine CallK.one (spec_l1Bit b) (fun _ => amC) ?_ | refine CallE.one (spec_l1Bit b) (fun _ => amC) rfl ?_ | refine CallG.one rfl (fun hg => spec_l1Bit b) ?_ | refine CallEG.one rfl rfl (fun hg => spec_l1Bit b) ?_ | refine CallCE.one (spec_l1Bit b) (fun _ => amC) rfl ?_
      (try refine am (h := ?_)); (try with_reducible apply True.intro)
      repeat' (first | (with_reducible refine And.intro ?_ ?_) | (with_reducible intro _))
      all_goals try (first | omega | with_reducible rfl | ((with_reducible refine eqId ?_); exact rfl) | with_reducible (first | assumption | exact pl ‹_› | exact pr ‹_› | exact plr ‹_› | exact pll ‹_› | exact prl ‹_› | exact plll ‹_› | exact prll ‹_›))
      refine ⟨(l ++ [if b = true then 1 else 0], i + 1), ?_, ⟨⟨by simp [hl], by simp only [Int.natCast_add, Int.natCast_one]; omega⟩, fun y hy => ?_⟩, by simp only; omega⟩
      · refine Le.auto [] (r0 := ?r02) (ren := ?ren2) ?ea2 ?eb2 ?a2 ?b2 ?c2 ?d2 ?ho2 ?hn2 ?ht2
        case ea2 => exact amR
        case eb2 => exact amR
        case a2 => exact rfl
        case b2 => exact rfl
        case c2 => exact rfl
        case d2 => exact rfl
        all_goals (try refine amL (h := ?_))
        all_goals (try with_reducible apply True.intro)
        exact appIntD rfl
      · rcases mem_app1 hy with h | h
        · exact hb y h
        · subst h; split <;> omega
    · refine CallK.cur (spec_l1Once nb hn 5) rfl rfl rfl (fun _ _ _ => amC) ?_
      rintro b hbb
      (try refine am (h := ?_)); (try with_reducible apply True.intro)
      repeat' (first | (with_reducible refine And.intro ?_ ?_) | (with_reducible intro _))
      all_goals try (first | omega | with_reducible rfl | ((with_reducible refine eqId ?_); exact rfl) | with_reducible (first | assumption | exact pl ‹_› | exact pr ‹_› | exact plr ‹_› | exact pll ‹_› | exact prl ‹_› | exact plll ‹_› | exact prll ‹_›))
      first | refine CallK.one (spec_l1Bit (!b)) (fun _ => amC) ?_ | refine CallE.one (spec_l1Bit (!b)) (fun _ => amC) rfl ?_ | refine CallG.one rfl (fun hg => spec_l1Bit (!b)) ?_ | refine CallEG.one rfl rfl (fun hg => spec_l1Bit (!b)) ?_ | refine CallCE.one (spec_l1Bit (!b)) (fun _ => amC) rfl ?_
      (try refine am (h := ?_)); (try with_reducible apply True.intro)
      repeat' (first | (with_reducible refine And.intro ?_ ?_) | (with_reducible intro _))
      all_goals try (first | omega | with_reducible rfl | ((with_reducible refine eqId ?_); exact rfl) | with_reducible (first | assumption | exact pl ‹_› | exact pr ‹_› | exact plr ‹_› | exact pll ‹_› | exact prl ‹_› | exact plll ‹_› | exact prll ‹_›))
      refine ⟨(l ++ [if (!b) = true then 1 else 0], i + 1), ?_, ⟨⟨by simp [hl], by simp only [Int.natCast_add, Int.natCast_one]; omega⟩, fun y hy => ?_⟩, by simp only; omega⟩
      · refine Le.auto [] (r0 := ?r03) (ren := ?ren3) ?ea3 ?eb3 ?a3 ?b3 ?c3 ?d3 ?ho3 ?hn3 ?ht3
        case ea3 => exact amR
        case eb3 => exact amR
        case a3 => exact rfl
        case b3 => exact rfl
        case c3 => exact rfl
        case d3 => exact rfl
        all_goals (try refine amL (h := ?_))
        all_goals (try with_reducible apply True.intro)
        exact appIntD rfl
      · rcases mem_app1 hy with h | h
        · exact hb y h
        · subst h; split <;> omega
    · refine FinK.cur (.refl _) ⟨trivial, rfl⟩ rfl ?_
      refine FinK.ex (l) ?hq4 ?_
      case hq4 => exact ⟨by omega, hb⟩
      refine FinK.val1 ?_ ?_
      all_goals (try refine amF (h := ?_))
      all_goals (try with_reducible apply True.intro)
set_option maxHeartbeats 8000000 in
theorem spec_DrawDetRun (code : List UInt8) (hc : code.length ≤ 2 ^ 40) : ACalls Try.prog 42 [.one (aB false code)] (fun r => ∃ x : List Int × Int × Int, ((okI (2 ^ 20) x.1 ∧ ∀ y ∈ x.1, 0 ≤ y ∧ y ≤ 2) ∧ (0 ≤ x.2.1 ∧ x.2.1 ≤ 10) ∧ 0 ≤ x.2.2 ∧ x.2.2 ≤ 10) ∧ r = .tup [.one (aI true x.1), .one (.int .i64 x.2.1), .one (.int .i64 x.2.2)]) := by
  have nt : Try.f42.ntmps = 29 := rfl
  have rs : Try.f42.results = #[.tmp 2, .tmp 3, .tmp 4] := rfl
  refine ACalls.of_runC (m := 400) mixed Try.func42 rfl rfl (Nat.le_of_ble_eq_true rfl) ?_
  simp only [nt, rs]
  clear nt rs
  (try refine am (h := ?_)); (try with_reducible apply True.intro)
  repeat' (first | (with_reducible refine And.intro ?_ ?_) | (with_reducible intro _))
  all_goals try (first | omega | with_reducible rfl | ((with_reducible refine eqId ?_); exact rfl) | with_reducible (first | assumption | exact pl ‹_› | exact pr ‹_› | exact plr ‹_› | exact pll ‹_› | exact prl ‹_› | exact plll ‹_› | exact prll ‹_›))
  refine CallK.new (spec_l1New code hc) ?_
  rintro xc
  (try refine am (h := ?_)); (try with_reducible apply True.intro)
  repeat' (first | (with_reducible refine And.intro ?_ ?_) | (with_reducible intro _))
  all_goals try (first | omega | with_reducible rfl | ((with_reducible refine eqId ?_); exact rfl) | with_reducible (first | assumption | exact pl ‹_› | exact pr ‹_› | exact plr ‹_› | exact pll ‹_› | exact prl ‹_› | exact plll ‹_› | exact prll ‹_›))
  refine CallK.ex (spec_l1Size code hc 90 (by omega) false) (fun _ _ _ => amC) ?_
  rintro sz ⟨hs0, hs1⟩
  (try refine am (h := ?_)); (try with_reducible apply True.intro)
  repeat' (first | (with_reducible refine And.intro ?_ ?_) | (with_reducible intro _))
  all_goals try (first | omega | with_reducible rfl | ((with_reducible refine eqId ?_); exact rfl) | with_reducible (first | assumption | exact pl ‹_› | exact pr ‹_› | exact plr ‹_› | exact pll ‹_› | exact prl ‹_› | exact plll ‹_› | exact prll ‹_›))
  refine CallK.cur (spec_l16Bits code.length hc sz (by omega)) rfl rfl rfl (fun _ _ _ => amC) ?_
  rintro l1 ⟨hl1, hb1⟩
  (try refine am (h := ?_)); (try with_reducible apply True.intro)
  repeat' (first | (with_reducible refine And.intro ?_ ?_) | (with_reducible intro _))
  all_goals try (first | omega | with_reducible rfl | ((with_reducible refine eqId ?_); exact rfl) | with_reducible (first | assumption | exact pl ‹_› | exact pr ‹_› | exact plr ‹_› | exact pll ‹_› | exact prl ‹_› | exact plll ‹_› | exact prll ‹_›))
  refine CallK.cur (spec_l1Once code.length hc 2) rfl rfl rfl (fun _ _ _ => amC) ?_
  rintro o1 ho1
  (try refine am (h := ?_)); (try with_reducible apply True.intro)
  repeat' (first | (with_reducible refine And.intro ?_ ?_) | (with_reducible intro _))
  all_goals try (first | omega | with_reducible rfl | ((with_reducible refine eqId ?_); exact rfl) | with_reducible (first | assumption | exact pl ‹_› | exact pr ‹_› | exact plr ‹_› | exact pll ‹_› | exact prl ‹_› | exact plll ‹_› | exact prll ‹_›))
  · refine CallK.cur (spec_l16Bits code.length hc 60 (by omega)) rfl rfl rfl (fun _ _ _ => amC) ?_
    rintro l2 ⟨hl2, hb2⟩
    (try refine am (h := ?_)); (try with_reducible apply True.intro)
    repeat' (first | (with_reducible refine And.intro ?_ ?_) | (with_reducible intro _))
    all_goals try (first | omega | with_reducible rfl | ((with_reducible refine eqId ?_); exact rfl) | with_reducible (first | assumption | exact pl ‹_› | exact pr ‹_› | exact plr ‹_› | exact pll ‹_› | exact prl ‹_› | exact plll ‹_› | exact prll ‹_›))
    refine CallK.cur (spec_l1Once code.length hc 10) rfl rfl rfl (fun _ _ _ => amC) ?_
    rintro o2 ho2
    (try refine am (h := ?_)); (try with_reducible apply True.intro)
    repeat' (first | (with_reducible refine And.intro ?_ ?_) | (with_reducible intro _))
    all_goals try (first | omega | with_reducible rfl | ((with_reducible refine eqId ?_); exact rfl) | with_reducible (first | assumption | exact pl ‹_› | exact pr ‹_› | exact plr ‹_› | exact pll ‹_› | exact prl ‹_› | exact plll ‹_› | exact prll ‹_›))
    · refine CallK.cur (spec_l17Sure code.length hc) rfl rfl rfl (fun _ _ _ => amC) ?_
      rintro w1 hw1
      (try refine am (h := ?_)); (try with_reducible apply True.intro)
      repeat' (first | (with_reducible refine And.intro ?_ ?_) | (with_reducible intro _))
      all_goals try (first | omega | with_reducible rfl | ((with_reducible refine eqId ?_); exact rfl) | with_reducible (first | assumption | exact pl ‹_› | exact pr ‹_› | exact plr ‹_› | exact pll ‹_› | exact prl ‹_› | exact plll ‹_› | exact prll ‹_›))
      refine CallK.cur (spec_l17Sure code.length hc) rfl rfl rfl (fun _ _ _ => amC) ?_
      rintro w2 hw2
      (try refine am (h := ?_)); (try with_reducible apply True.intro)
      repeat' (first | (with_reducible refine And.intro ?_ ?_) | (with_reducible intro _))
      all_goals try (first | omega | with_reducible rfl | ((with_reducible refine eqId ?_); exact rfl) | with_reducible (first | assumption | exact pl ‹_› | exact pr ‹_› | exact plr ‹_› | exact pll ‹_› | exact prl ‹_› | exact plll ‹_› | exact prll ‹_›))
      refine FinK.ex ((l2 ++ [2], w1, w2)) ?hq5 ?_
      case hq5 => exact ⟨⟨okI_app1 (A := 2 ^ 17) (bits01_okI hb2 hl2) (by omega) (by decide), fun y hy => by rcases mem_app1 hy with h | h; (have := hb2 y h; omega); omega⟩, hw1, hw2⟩
      refine FinK.tup ?_ ?_
      all_goals (try refine amF (h := ?_))
      all_goals (try with_reducible apply True.intro)
      exact appIntD rfl
    · refine CallK.cur (spec_l17Sure code.length hc) rfl rfl rfl (fun _ _ _ => amC) ?_
      rintro w1 hw1
      (try refine am (h := ?_)); (try with_reducible apply True.intro)
      repeat' (first | (with_reducible refine And.intro ?_ ?_) | (with_reducible intro _))
      all_goals try (first | omega | with_reducible rfl | ((with_reducible refine eqId ?_); exact rfl) | with_reducible (first | assumption | exact pl ‹_› | exact pr ‹_› | exact plr ‹_› | exact pll ‹_› | exact prl ‹_› | exact plll ‹_› | exact prll ‹_›))
      refine CallK.cur (spec_l17Sure code.length hc) rfl rfl rfl (fun _ _ _ => amC) ?_
      rintro w2 hw2
      (try refine am (h := ?_)); (try with_reducible apply True.intro)
      repeat' (first | (with_reducible refine And.intro ?_ ?_) | (with_reducible intro _))
      all_goals try (first | omega | with_reducible rfl | ((with_reducible refine eqId ?_); exact rfl) | with_reducible (first | assumption | exact pl ‹_› | exact pr ‹_› | exact plr ‹_› | exact pll ‹_› | exact prl ‹_› | exact plll ‹_› | exact prll ‹_›))
      refine FinK.ex ((l2, w1, w2)) ?hq6 ?_
      case hq6 => exact ⟨⟨okI_up (bits01_okI hb2 hl2) (by decide), fun y hy => by have := hb2 y hy; omega⟩, hw1, hw2⟩
      refine FinK.tup ?_ ?_
      all_goals (try refine amF (h := ?_))
      all_goals (try with_reducible apply True.intro)
  · refine CallK.cur (spec_l1Once code.length hc 10) rfl rfl rfl (fun _ _ _ => amC) ?_
    rintro o2 ho2
    (try refine am (h := ?_)); (try with_reducible apply True.intro)
    repeat' (first | (with_reducible refine And.intro ?_ ?_) | (with_reducible intro _))
    all_goals try (first | omega | with_reducible rfl | ((with_reducible refine eqId ?_); exact rfl) | with_reducible (first | assumption | exact pl ‹_› | exact pr ‹_› | exact plr ‹_› | exact pll ‹_› | exact prl ‹_› | exact plll ‹_› | exact prll ‹_›))
    · refine CallK.cur (spec_l17Sure code.length hc) rfl rfl rfl (fun _ _ _ => amC) ?_
      rintro w1 hw1
      (try refine am (h := ?_)); (try with_reducible apply True.intro)
      repeat' (first | (with_reducible refine And.intro ?_ ?_) | (with_reducible intro _))
      all_goals try (first | omega | with_reducible rfl | ((with_reducible refine eqId ?_); exact rfl) | with_reducible (first | assumption | exact pl ‹_› | exact pr ‹_› | exact plr ‹_› | exact pll ‹_› | exact prl ‹_› | exact plll ‹_› | exact prll ‹_›))
      refine CallK.cur (spec_l17Sure code.length hc) rfl rfl rfl (fun _ _ _ => amC) ?_
      rintro w2 hw2
      (try refine am (h := ?_)); (try with_reducible apply True.intro)
      repeat' (first | (with_reducible refine And.intro ?_ ?_) | (with_reducible intro _))
      all_goals try (first | omega | with_reducible rfl | ((with_reducible refine eqId ?_); exact rfl) | with_reducible (first | assumption | exact pl ‹_› | exact pr ‹_› | exact plr ‹_› | exact pll ‹_› | exact prl ‹_› | exact plll ‹_› | exact prll ‹_›))
      refine FinK.ex ((l1 ++ [2], w1, w2)) ?hq7 ?_
      case hq7 => exact ⟨⟨okI_app1 (A := 2 ^ 17) (bits01_okI hb1 hl1) (by omega) (by decide), fun y hy => by rcases mem_app1 hy with h | h; (have := hb1 y h; omega); omega⟩, hw1, hw2⟩
      refine FinK.tup ?_ ?_
      all_goals (try refine amF (h := ?_))
      all_goals (try with_reducible apply True.intro)
      exact appIntD rfl
    · refine CallK.cur (spec_l17Sure code.length hc) rfl rfl rfl (fun _ _ _ => amC) ?_
      rintro w1 hw1
      (try refine am (h := ?_)); (try with_reducible apply True.intro)
      repeat' (first | (with_reducible refine And.intro ?_ ?_) | (with_reducible intro _))
      all_goals try (first | omega | with_reducible rfl | ((with_reducible refine eqId ?_); exact rfl) | with_reducible (first | assumption | exact pl ‹_› | exact pr ‹_› | exact plr ‹_› | exact pll ‹_› | exact prl ‹_› | exact plll ‹_› | exact prll ‹_›))
      refine CallK.cur (spec_l17Sure code.length hc) rfl rfl rfl (fun _ _ _ => amC) ?_
      rintro w2 hw2
      (try refine am (h := ?_)); (try with_reducible apply True.intro)
      repeat' (first | (with_reducible refine And.intro ?_ ?_) | (with_reducible intro _))
      all_goals try (first | omega | with_reducible rfl | ((with_reducible refine eqId ?_); exact rfl) | with_reducible (first | assumption | exact pl ‹_› | exact pr ‹_› | exact plr ‹_› | exact pll ‹_› | exact prl ‹_› | exact plll ‹_› | exact prll ‹_›))
      refine FinK.ex ((l1, w1, w2)) ?hq8 ?_
      case hq8 => exact ⟨⟨okI_up (bits01_okI hb1 hl1) (by decide), fun y hy => by have := hb1 y hy; omega⟩, hw1, hw2⟩
      refine FinK.tup ?_ ?_
      all_goals (try refine amF (h := ?_))
      all_goals (try with_reducible apply True.intro)
end Go.AM
namespace Go.AM
open Go Go.Proofs
set_option maxRecDepth 100000
set_option maxHeartbeats 4000000 in
theorem lawsBig (code : List UInt8) (hc : code.length ≤ 2 ^ 47) (u : Bool) : ACalls Try.prog 10 [.one (aB u code)] (fun r => r = .val (.one (.bool (decide (1048576 < code.length))))) := by
  have nt : Try.f10.ntmps = 6 := rfl
  have rs : Try.f10.results = #[.tmp 2] := rfl
  refine ACalls.of_run (m := 400) mixed Try.func10 rfl rfl (Nat.le_of_ble_eq_true rfl) ?_
  simp only [nt, rs]
  clear nt rs
  (try refine am (h := ?_)); (try with_reducible apply True.intro)
  repeat' (first | (with_reducible refine And.intro ?_ ?_) | (with_reducible intro _))
  all_goals try (first | omega | with_reducible rfl | ((with_reducible refine eqId ?_); exact rfl) | with_reducible (first | assumption | exact pl ‹_› | exact pr ‹_› | exact plr ‹_› | exact pll ‹_› | exact prl ‹_› | exact plll ‹_› | exact prll ‹_›))
  refine FinK.val1 ?_ ?_
  all_goals (try refine amF (h := ?_))
  all_goals (try with_reducible apply True.intro)
  refine decide_eq_decide.2 ?_
  omega
set_option maxHeartbeats 4000000 in
theorem lawsSameInts (l m : List Int) (u u' : Bool) (nl nl' : Option Bool) (hl : l.length ≤ 2 ^ 47) (hm : m.length ≤ 2 ^ 47) : ACalls Try.prog 14 [.one (.sl u nl 1 l.length (fI l)), .one (.sl u' nl' 1 m.length (fI m))] (fun r => r = .val (.one (.bool (decide (l = m))))) := by
  have nt : Try.f14.ntmps = 26 := rfl
  have rs : Try.f14.results = #[.tmp 4] := rfl
  refine ACalls.of_run (m := 400) mixed Try.func14 rfl rfl (Nat.le_of_ble_eq_true rfl) ?_
  simp only [nt, rs]
  clear nt rs
  (try refine am (h := ?_)); (try with_reducible apply True.intro)
  repeat' (first | (with_reducible refine And.intro ?_ ?_) | (with_reducible intro _))
  all_goals try (first | omega | with_reducible rfl | ((with_reducible refine eqId ?_); exact rfl) | with_reducible (first | assumption | exact pl ‹_› | exact pr ‹_› | exact plr ‹_› | exact pll ‹_› | exact prl ‹_› | exact plll ‹_› | exact prll ‹_›))
  · refine FinK.val1 ?_ ?_
    all_goals (try refine amF (h := ?_))
    all_goals (try with_reducible apply True.intro)
    have h : ¬ l = m := fun e => by subst e; omega
    simp [h]
  refine LoopK.auto (Nat) (fun i => [(5, .one (.av (.int .i64 i)))]) (fun i => []) [0, 1] (k0 := ?k01) (keepH := ?kh1) 400 (fun i => i ≤ l.length ∧ ∀ j, j < i → l.getD j 0 = m.getD j 0) (fun i => l.length - i) (0) ?kea1 ?keb1 ?_ ?_ ?_
  case kea1 => exact amN
  case keb1 => exact amN
  · exact ⟨Nat.zero_le _, fun j hj => by omega⟩
  · refine Le.auto [] (r0 := ?r01) (ren := ?ren1) ?ea1 ?eb1 ?a1 ?b1 ?c1 ?d1 ?ho1 ?hn1 ?ht1
    case ea1 => exact amR
    case eb1 => exact amR
    case a1 => exact rfl
    case b1 => exact rfl
    case c1 => exact rfl
    case d1 => exact rfl
    all_goals (try refine amL (h := ?_))
    all_goals (try with_reducible apply True.intro)
  · rintro i ⟨hi, hs⟩
    (try refine am (h := ?_)); (try with_reducible apply True.intro)
    repeat' (first | (with_reducible refine And.intro ?_ ?_) | (with_reducible intro _))
    all_goals try (first | omega | with_reducible rfl | ((with_reducible refine eqId ?_); exact rfl) | with_reducible (first | assumption | exact pl ‹_› | exact pr ‹_› | exact plr ‹_› | exact pll ‹_› | exact prl ‹_› | exact plll ‹_› | exact prll ‹_›))
    · refine FinK.val1 ?_ ?_
      all_goals (try refine amF (h := ?_))
      all_goals (try with_reducible apply True.intro)
      rename_i hne
      have h : ¬ l = m := fun e => by subst e; exact hne rfl
      simp [h]
    · rename_i he
      refine ⟨i + 1, ?_, ⟨by omega, fun j hj => ?_⟩, by omega⟩
      · refine Le.auto [] (r0 := ?r02) (ren := ?ren2) ?ea2 ?eb2 ?a2 ?b2 ?c2 ?d2 ?ho2 ?hn2 ?ht2
        case ea2 => exact amR
        case eb2 => exact amR
        case a2 => exact rfl
        case b2 => exact rfl
        case c2 => exact rfl
        case d2 => exact rfl
        all_goals (try refine amL (h := ?_))
        all_goals (try with_reducible apply True.intro)
        all_goals rfl
      · by_cases e : j = i
        · subst e; simpa using he
        · exact hs j (by omega)
    · refine FinK.val1 ?_ ?_
      all_goals (try refine amF (h := ?_))
      all_goals (try with_reducible apply True.intro)
      have h : l = m := by
        apply List.ext_getElem (by omega)
        intro j h1 h2
        have := hs j (by omega)
        simpa [List.getD, h1, h2] using this
      simp [h]
end Go.AM
namespace Go.AM
open Go Go.Proofs
set_option maxRecDepth 100000
theorem isum_bd {l : List Int} (h : ∀ x ∈ l, 0 ≤ x ∧ x ≤ 2) : 0 ≤ isum l ∧ isum l ≤ 2 * l.length := by
  induction l with
  | nil => simp [isum]
  | cons x l ih =>
    have h1 := ih (fun y hy => h y (List.mem_cons_of_mem _ hy))
    have h2 := h x (List.mem_cons_self ..)
    simp only [isum, List.length_cons, Int.natCast_add, Int.natCast_one]
    omega
theorem isum_take {l : List Int} {i : Nat} (h : i < l.length) : isum (l.take (i + 1)) = isum (l.take i) + l.getD i 0 := by
  rw [take_succ (d := 0) h, isum_app]
  simp [isum]
set_option maxHeartbeats 8000000 in
theorem lawsSuffix (l : List (List Int)) (s : List Int) (u v u' : Bool) (hl : okL (2 ^ 40) l) (hw : wok l) (hs : Suf l s) (hb : ∀ x ∈ s, 0 ≤ x ∧ x ≤ 2) (hsl : s.length ≤ 2 ^ 30) : ACalls Try.prog 44 [.agg [aL u v l], .one (aI u' s)] (fun r => r = .val (.one (.bool true))) := by
  obtain ⟨pre, m, rfl, hm⟩ := hs
  rw [← bkts_rbL hw] at hm
  obtain ⟨q1, q2⟩ := hm.sums
  have hbd := bk_bd (bkts_ok (l := l))
  have hbl := bkts_len (l := l)
  have hpl : (pre ++ m).length = pre.length + m.length := by simp
  have hlen : (pre ++ m).length = pre.length + m.length := by simp
  have nt : Try.f44.ntmps = 39 := rfl
  have rs : Try.f44.results = #[.tmp 4] := rfl
  refine ACalls.of_run (m := 400) mixed Try.func44 rfl rfl (Nat.le_of_ble_eq_true rfl) ?_
  simp only [nt, rs]
  clear nt rs
  (try refine am (h := ?_)); (try with_reducible apply True.intro)
  first | refine CallK.one (specWindowTotal l _ _ (okL_up hl)) (fun _ => amC) ?_ | refine CallE.one (specWindowTotal l _ _ (okL_up hl)) (fun _ => amC) rfl ?_ | refine CallG.one rfl (fun hg => specWindowTotal l _ _ (okL_up hl)) ?_ | refine CallEG.one rfl rfl (fun hg => specWindowTotal l _ _ (okL_up hl)) ?_ | refine CallCE.one (specWindowTotal l _ _ (okL_up hl)) (fun _ => amC) rfl ?_
  (try refine am (h := ?_)); (try with_reducible apply True.intro)
  repeat' (first | (with_reducible refine And.intro ?_ ?_) | (with_reducible intro _))
  all_goals try (first | omega | with_reducible rfl | ((with_reducible refine eqId ?_); exact rfl) | with_reducible (first | assumption | exact pl ‹_› | exact pr ‹_› | exact plr ‹_› | exact pll ‹_› | exact prl ‹_› | exact plll ‹_› | exact prll ‹_›))
  first | refine CallK.one (specWindowOk l _ _ (by have := hl.1; omega) (fun r hr => by have := (hl.2 r hr).1; omega)) (fun _ => amC) ?_ | refine CallE.one (specWindowOk l _ _ (by have := hl.1; omega) (fun r hr => by have := (hl.2 r hr).1; omega)) (fun _ => amC) rfl ?_ | refine CallG.one rfl (fun hg => specWindowOk l _ _ (by have := hl.1; omega) (fun r hr => by have := (hl.2 r hr).1; omega)) ?_ | refine CallEG.one rfl rfl (fun hg => specWindowOk l _ _ (by have := hl.1; omega) (fun r hr => by have := (hl.2 r hr).1; omega)) ?_ | refine CallCE.one (specWindowOk l _ _ (by have := hl.1; omega) (fun r hr => by have := (hl.2 r hr).1; omega)) (fun _ => amC) rfl ?_
  (try refine am (h := ?_)); (try with_reducible apply True.intro)
  rw [wokB_true hw]
  repeat' (first | (with_reducible refine And.intro ?_ ?_) | (with_reducible intro _))
  all_goals try (first | omega | with_reducible rfl | ((with_reducible refine eqId ?_); exact rfl) | with_reducible (first | assumption | exact pl ‹_› | exact pr ‹_› | exact plr ‹_› | exact pll ‹_› | exact prl ‹_› | exact plll ‹_› | exact prll ‹_›))
  · exfalso
    rename_i h
    rcases h with h | h
    · cases h
    · omega
  refine LoopK.auto (Nat) (fun i => [(7, .one (.av (.int .i64 ((pre.length : Int) + (i : Int))))), (6, .one (.av (.int .i64 (isum (m.take i)))))]) (fun i => []) [1, 2] (k0 := ?k01) (keepH := ?kh1) 500 (fun i => i ≤ m.length) (fun i => m.length - i) (0) ?kea1 ?keb1 ?_ ?_ ?_
  case kea1 => exact amN
  case keb1 => exact amN
  · exact Nat.zero_le _
  · refine Le.auto [] (r0 := ?r01) (ren := ?ren1) ?ea1 ?eb1 ?a1 ?b1 ?c1 ?d1 ?ho1 ?hn1 ?ht1
    case ea1 => exact amR
    case eb1 => exact amR
    case a1 => exact rfl
    case b1 => exact rfl
    case c1 => exact rfl
    case d1 => exact rfl
    all_goals (try refine amL (h := ?_))
    all_goals (try with_reducible apply True.intro)
    exact ⟨by omega, by simp [isum]⟩
  · intro i hi
    have hbm : ∀ x ∈ m, 0 ≤ x ∧ x ≤ 2 := fun x hx => hb x (by simp [hx])
    have ht : 0 ≤ isum (m.take i) ∧ isum (m.take i) ≤ 2 * (m.take i).length := isum_bd (fun x hx => hbm x (List.mem_of_mem_take hx))
    have htl : (m.take i).length ≤ m.length := by simp; omega
    have hget : i < m.length → (pre ++ m).getD (((pre.length : Int) + (i : Int)).toNat) 0 = m.getD i 0 ∧ 0 ≤ m.getD i 0 ∧ m.getD i 0 ≤ 2 := fun h => by
      refine ⟨?_, hbm _ (getD_mem h)⟩
      rw [show ((pre.length : Int) + (i : Int)).toNat = pre.length + i by omega, List.getD_eq_getElem?_getD, List.getElem?_append_right (by omega), List.getD_eq_getElem?_getD]
      congr 2
      omega
    (try refine am (h := ?_)); (try with_reducible apply True.intro)
    refine ⟨fun hlt => ?_, fun hlt => ?_⟩
    · obtain ⟨g1, g2, g3⟩ := hget (by omega)
      rw [g1]
      repeat' (first | (with_reducible refine And.intro ?_ ?_) | (with_reducible intro _))
      all_goals try (first | omega | with_reducible rfl | ((with_reducible refine eqId ?_); exact rfl) | with_reducible (first | assumption | exact pl ‹_› | exact pr ‹_› | exact plr ‹_› | exact pll ‹_› | exact prl ‹_› | exact plll ‹_› | exact prll ‹_›))
      refine ⟨i + 1, ?_, by omega, by omega⟩
      refine Le.auto [] (r0 := ?r02) (ren := ?ren2) ?ea2 ?eb2 ?a2 ?b2 ?c2 ?d2 ?ho2 ?hn2 ?ht2
      case ea2 => exact amR
      case eb2 => exact amR
      case a2 => exact rfl
      case b2 => exact rfl
      case c2 => exact rfl
      case d2 => exact rfl
      all_goals (try refine amL (h := ?_))
      all_goals (try with_reducible apply True.intro)
      exact ⟨by omega, by rw [isum_take (by omega)]⟩
    · have ei : i = m.length := by omega
      subst ei
      first | refine CallK.one (specWindowOnes l _ _ (okL_up hl)) (fun _ => amC) ?_ | refine CallE.one (specWindowOnes l _ _ (okL_up hl)) (fun _ => amC) rfl ?_ | refine CallG.one rfl (fun hg => specWindowOnes l _ _ (okL_up hl)) ?_ | refine CallEG.one rfl rfl (fun hg => specWindowOnes l _ _ (okL_up hl)) ?_ | refine CallCE.one (specWindowOnes l _ _ (okL_up hl)) (fun _ => amC) rfl ?_
      (try refine am (h := ?_)); (try with_reducible apply True.intro)
      repeat' (first | (with_reducible refine And.intro ?_ ?_) | (with_reducible intro _))
      all_goals try (first | omega | with_reducible rfl | ((with_reducible refine eqId ?_); exact rfl) | with_reducible (first | assumption | exact pl ‹_› | exact pr ‹_› | exact plr ‹_› | exact pll ‹_› | exact prl ‹_› | exact plll ‹_› | exact prll ‹_›))
      refine FinK.val1 ?_ ?_
      all_goals (try refine amF (h := ?_))
      all_goals (try with_reducible apply True.intro)
      rw [List.take_length, q2]
end Go.AM
