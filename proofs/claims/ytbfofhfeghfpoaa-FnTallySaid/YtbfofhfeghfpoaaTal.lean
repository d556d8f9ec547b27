/- Lemmas for the proof of this claim. -/
import Derived.Test.YtbfofhfeghfpoaaBas
namespace Go.AM
open Go Go.Proofs
set_option maxRecDepth 100000
theorem ACalls.argLe {P : Program} {f : FuncId} {args args' : List AT} {R : RV → Prop} (h : ACalls P f args' R) (hle : ALeTL args args') : ACalls P f args R := by
  have hl : ∀ (l m : List AT), ALeTL l m → l.length = m.length ∧ ∀ (i : Nat) (u : AT), m[i]? = some u → ∃ t, l[i]? = some t ∧ ALeT t u := by
    intro l
    induction l with
    | nil => intro m hm; cases m with
      | nil => exact ⟨rfl, fun i u hi => by simp at hi⟩
      | cons => exact hm.elim
    | cons t l ih =>
      intro m hm
      cases m with
      | nil => exact hm.elim
      | cons u m =>
        obtain ⟨q1, q2⟩ := ih m hm.2
        refine ⟨by simp [q1], fun i v hi => ?_⟩
        cases i with
        | zero => simp at hi; subst hi; exact ⟨t, rfl, hm.1⟩
        | succ i => obtain ⟨t', f1, f2⟩ := q2 i v (by simpa using hi); exact ⟨t', by simpa using f1, f2⟩
  obtain ⟨q1, q2⟩ := hl _ _ hle
  refine ⟨h.enter, fun own0 w vs h1 h2 h3 => h.calls own0 w vs h1 (by rw [h2, q1]) (fun i u hi => ?_)⟩
  obtain ⟨t, f1, f2⟩ := q2 i u hi
  obtain ⟨v, g1, g2⟩ := h3 i t f1
  refine ⟨v, g1, ?_⟩
  cases t with
  | one a => cases u with
    | one b => exact f2.rd g2
    | agg m => exact f2.elim
  | agg l => cases u with
    | one b => exact f2.elim
    | agg m =>
      obtain ⟨cs, rfl, e1, e2⟩ := g2
      obtain ⟨k1, k2⟩ := ALeL.get f2
      refine ⟨cs, rfl, by rw [e1, k1], fun j b hj => ?_⟩
      obtain ⟨x, hx, hxb⟩ := k2 j b hj
      obtain ⟨y, hy, hyr⟩ := e2 j x hx
      exact ⟨y, hy, hxb.rd hyr⟩
theorem appIntD {row : List Int} {x : Int} {nl : Option Bool} {n : Nat} (hn : n = row.length + 1) : ALe (.sl true nl 1 n (apF row.length (fI row) (rowsF [[.int .i64 x]]))) (.sl true none 1 (row ++ [x]).length (fI (row ++ [x]))) := by
  refine ALe.of (.inl rfl) (by simp [hn]) (fun i hi j hj => ?_)
  obtain rfl : j = 0 := by omega
  unfold apF
  by_cases h : i < row.length
  · rw [if_pos h, fI_at, fI_at, getD_app, if_pos h]; exact .refl _
  · obtain rfl : i = row.length := by omega
    rw [if_neg h, fI_at, getD_app, if_neg h]
    simp [rowsF, gl]
    exact .refl _
theorem okI_app1 {A B : Nat} {l : List Int} {x : Int} (h : okI A l) (hx : -1000000000000 ≤ x ∧ x ≤ 1000000000000) (hB : A + 1 ≤ B) : okI B (l ++ [x]) := by
  refine ⟨by have := h.1; simp; omega, fun y hy => ?_⟩
  simp only [List.mem_append, List.mem_singleton] at hy
  rcases hy with e | e
  · exact h.2 y e
  · subst e; exact ⟨by show (-9223372036854775808 : Int) ≤ y; omega, by show y ≤ (9223372036854775807 : Int); omega⟩
theorem okI_up {A B : Nat} {l : List Int} (h : okI A l) (hB : A ≤ B) : okI B l := ⟨by have := h.1; omega, h.2⟩
theorem mem_app1 {l : List Int} {x y : Int} (h : y ∈ l ++ [x]) : y ∈ l ∨ y = x := by simpa using h
theorem ale_cur {xc : Value} {nb : Nat} {f : Nat → Nat → AV} (h0 : ALe (f 0 0) (.pin xc (curS nb))) (h1 : ALe (f 0 1) (.rng .i64 0 9223372036854775807)) (h2 : ALe (f 0 2) (AV.full .i64)) : ALe (.sl true none 3 1 f) (curA xc nb) := by
  refine .sl _ _ _ _ _ _ (fun i hi j hj => ?_)
  obtain rfl : i = 0 := by omega
  match j, hj with
  | 0, _ => exact h0
  | 1, _ => exact h1
  | 2, _ => exact h2
set_option maxHeartbeats 4000000 in
theorem spec_l1Byte (nb : Nat) (hn : nb ≤ 2 ^ 40) : ACur Try.prog 90 nb [] (fun r => ∃ z : Int, (0 ≤ z ∧ z ≤ 255) ∧ r = .val (.one (.int .i64 z))) := by
  refine ACur.unrng ?_
  have nt : Try.f90.ntmps = 58 := rfl
  have rs : Try.f90.results = #[.tmp 2] := rfl
  refine ACur.of_run0 (m := 400) (fun x (i : { i : Int // 0 ≤ i ∧ i ≤ 9223372036854775807 }) => curI x nb i.1) cur_open (fun _ _ => rfl) mixed Try.func90 rfl rfl (Nat.le_of_ble_eq_true rfl) (fun xc ix => ?_)
  obtain ⟨ic, hic0, hic1⟩ := ix
  simp only [nt, rs, curI, curS]
  clear nt rs
  (try refine am (h := ?_)); (try with_reducible apply True.intro)
  repeat' (first | (with_reducible refine And.intro ?_ ?_) | (with_reducible intro _))
  all_goals try (first | omega | with_reducible rfl | ((with_reducible refine eqId ?_); exact rfl) | with_reducible (first | assumption | exact pl ‹_› | exact pr ‹_› | exact plr ‹_› | exact pll ‹_› | exact prl ‹_› | exact plll ‹_› | exact prll ‹_›))
  · refine FinK.cur (x := xc) (n := nb) (ale_cur ?_ ?_ ?_) ⟨trivial, rfl⟩ rfl ?_
    · exact .refl _
    · exact ale_rng _ _ _ _ (by omega)
    · exact .refl _
    · refine FinK.val1 ?_ ?_
      all_goals (try refine amF (h := ?_))
      all_goals (try with_reducible apply True.intro)
  · refine FinK.cur (x := xc) (n := nb) (ale_cur ?_ ?_ ?_) ⟨trivial, rfl⟩ rfl ?_
    · exact .refl _
    · exact ale_rng _ _ _ _ (by omega)
    · exact .refl _
    · refine FinK.val1 ?_ ?_
      all_goals (try refine amF (h := ?_))
      all_goals (try with_reducible apply True.intro)
set_option maxHeartbeats 4000000 in
theorem spec_l1Below (nb : Nat) (hn : nb ≤ 2 ^ 40) (n : Int) : ACur Try.prog 49 nb [.one (.int .i64 n)] (fun r => ∃ z : Int, (0 ≤ z ∧ (z < n ∨ z = 0)) ∧ r = .val (.one (.int .i64 z))) := by
  have nt : Try.f49.ntmps = 37 := rfl
  have rs : Try.f49.results = #[.tmp 4] := rfl
  refine ACur.of_run (m := 400) mixed Try.func49 rfl rfl (Nat.le_of_ble_eq_true rfl) (fun xc => ?_)
  simp only [nt, rs]
  clear nt rs
  (try refine am (h := ?_)); (try with_reducible apply True.intro)
  repeat' (first | (with_reducible refine And.intro ?_ ?_) | (with_reducible intro _))
  all_goals try (first | omega | with_reducible rfl | ((with_reducible refine eqId ?_); exact rfl) | with_reducible (first | assumption | exact pl ‹_› | exact pr ‹_› | exact plr ‹_› | exact pll ‹_› | exact prl ‹_› | exact plll ‹_› | exact prll ‹_›))
  · refine FinK.cur (.refl _) ⟨trivial, rfl⟩ rfl ?_
    refine FinK.ex (0) ?hq1 ?_
    case hq1 => exact by omega
    refine FinK.val1 ?_ ?_
    all_goals (try refine amF (h := ?_))
    all_goals (try with_reducible apply True.intro)
  · refine CallK.cur (spec_l1Byte nb hn) rfl rfl rfl (fun _ _ _ => amC) ?_
    rintro z ⟨hz0, hz1⟩
    (try refine am (h := ?_)); (try with_reducible apply True.intro)
    repeat' (first | (with_reducible refine And.intro ?_ ?_) | (with_reducible intro _))
    all_goals try (first | omega | with_reducible rfl | ((with_reducible refine eqId ?_); exact rfl) | with_reducible (first | assumption | exact pl ‹_› | exact pr ‹_› | exact plr ‹_› | exact pll ‹_› | exact prl ‹_› | exact plll ‹_› | exact prll ‹_›))
    refine FinK.cur (.refl _) ⟨trivial, rfl⟩ rfl ?_
    refine FinK.ex (z.tmod n) ?hq2 ?_
    case hq2 => exact ⟨Int.tmod_nonneg _ hz0, .inl (Int.tmod_lt_of_pos _ (by omega))⟩
    refine FinK.val1 ?_ ?_
    all_goals (try refine amF (h := ?_))
    all_goals (try with_reducible apply True.intro)
  · refine CallK.cur (spec_l1Byte nb hn) rfl rfl rfl (fun _ _ _ => amC) ?_
    rintro z ⟨hz0, hz1⟩
    (try refine am (h := ?_)); (try with_reducible apply True.intro)
    repeat' (first | (with_reducible refine And.intro ?_ ?_) | (with_reducible intro _))
    all_goals try (first | omega | with_reducible rfl | ((with_reducible refine eqId ?_); exact rfl) | with_reducible (first | assumption | exact pl ‹_› | exact pr ‹_› | exact plr ‹_› | exact pll ‹_› | exact prl ‹_› | exact plll ‹_› | exact prll ‹_›))
    refine CallK.cur (spec_l1Byte nb hn) rfl rfl rfl (fun _ _ _ => amC) ?_
    rintro y ⟨hy0, hy1⟩
    (try refine am (h := ?_)); (try with_reducible apply True.intro)
    repeat' (first | (with_reducible refine And.intro ?_ ?_) | (with_reducible intro _))
    all_goals try (first | omega | with_reducible rfl | ((with_reducible refine eqId ?_); exact rfl) | with_reducible (first | assumption | exact pl ‹_› | exact pr ‹_› | exact plr ‹_› | exact pll ‹_› | exact prl ‹_› | exact plll ‹_› | exact prll ‹_›))
    refine CallK.cur (spec_l1Byte nb hn) rfl rfl rfl (fun _ _ _ => amC) ?_
    rintro x ⟨hx0, hx1⟩
    (try refine am (h := ?_)); (try with_reducible apply True.intro)
    repeat' (first | (with_reducible refine And.intro ?_ ?_) | (with_reducible intro _))
    all_goals try (first | omega | with_reducible rfl | ((with_reducible refine eqId ?_); exact rfl) | with_reducible (first | assumption | exact pl ‹_› | exact pr ‹_› | exact plr ‹_› | exact pll ‹_› | exact prl ‹_› | exact plll ‹_› | exact prll ‹_›))
    refine CallK.cur (spec_l1Byte nb hn) rfl rfl rfl (fun _ _ _ => amC) ?_
    rintro w ⟨hw0, hw1⟩
    (try refine am (h := ?_)); (try with_reducible apply True.intro)
    repeat' (first | (with_reducible refine And.intro ?_ ?_) | (with_reducible intro _))
    all_goals try (first | omega | with_reducible rfl | ((with_reducible refine eqId ?_); exact rfl) | with_reducible (first | assumption | exact pl ‹_› | exact pr ‹_› | exact plr ‹_› | exact pll ‹_› | exact prl ‹_› | exact plll ‹_› | exact prll ‹_›))
    refine FinK.cur (.refl _) ⟨trivial, rfl⟩ rfl ?_
    refine FinK.ex ((z * 16777216 + y * 65536 + x * 256 + w).tmod n) ?hq3 ?_
    case hq3 => exact ⟨Int.tmod_nonneg _ (by omega), .inl (Int.tmod_lt_of_pos _ (by omega))⟩
    refine FinK.val1 ?_ ?_
    all_goals (try refine amF (h := ?_))
    all_goals (try with_reducible apply True.intro)
theorem getD_mem' {l : List Int} {i : Nat} (h : i < l.length) : l.getD i 0 ∈ l := by
  rw [List.getD_eq_getElem?_getD, List.getElem?_eq_getElem h]
  exact List.getElem_mem h
def litF (l : List Int) : Nat → Nat → AV := rowsF (l.map fun z => [.int .i64 z])
theorem litF_at (l : List Int) (i : Nat) (h : i < l.length) : litF l i 0 = .int .i64 (l.getD i 0) := by
  unfold litF rowsF
  rw [gl_eq, gl_eq]
  simp [List.getD, h]
set_option maxHeartbeats 4000000 in
theorem spec_l1PickInt (nb : Nat) (hn : nb ≤ 2 ^ 40) (u : Bool) (nl : Option Bool) (l : List Int) (hl : 0 < l.length) (hl2 : l.length ≤ 2 ^ 40) : ACur Try.prog 48 nb [.one (.sl u nl 1 l.length (litF l))] (fun r => ∃ z : Int, z ∈ l ∧ r = .val (.one (.int .i64 z))) := by
  have nt : Try.f48.ntmps = 12 := rfl
  have rs : Try.f48.results = #[.tmp 4] := rfl
  refine ACur.of_run (m := 400) mixed Try.func48 rfl rfl (Nat.le_of_ble_eq_true rfl) (fun xc => ?_)
  simp only [nt, rs]
  clear nt rs
  (try refine am (h := ?_)); (try with_reducible apply True.intro)
  repeat' (first | (with_reducible refine And.intro ?_ ?_) | (with_reducible intro _))
  all_goals try (first | omega | with_reducible rfl | ((with_reducible refine eqId ?_); exact rfl) | with_reducible (first | assumption | exact pl ‹_› | exact pr ‹_› | exact plr ‹_› | exact pll ‹_› | exact prl ‹_› | exact plll ‹_› | exact prll ‹_›))
  refine CallK.cur (spec_l1Below nb hn l.length) rfl rfl rfl (fun _ _ _ => amC) ?_
  rintro z ⟨hz0, hz1⟩
  (try refine am (h := ?_)); (try with_reducible apply True.intro)
  have e := litF_at l z.toNat (by omega)
  repeat' (first | (with_reducible refine And.intro ?_ ?_) | (with_reducible intro _))
  all_goals try (first | omega | with_reducible rfl | ((with_reducible refine eqId ?_); exact rfl) | with_reducible (first | assumption | exact pl ‹_› | exact pr ‹_› | exact plr ‹_› | exact pll ‹_› | exact prl ‹_› | exact plll ‹_› | exact prll ‹_›))
  rw [e]
  refine FinK.cur (.refl _) ⟨trivial, rfl⟩ rfl ?_
  refine FinK.ex (l.getD z.toNat 0) ?hq5 ?_
  case hq5 => exact getD_mem' (by omega)
  refine FinK.val1 ?_ ?_
  all_goals (try refine amF (h := ?_))
  all_goals (try with_reducible apply True.intro)
set_option maxHeartbeats 4000000 in
theorem spec_l1Max (a b : Int) : ACalls Try.prog 50 [.one (.int .i64 a), .one (.int .i64 b)] (fun r => r = .val (.one (.int .i64 (if b < a then a else b)))) := by
  have nt : Try.f50.ntmps = 10 := rfl
  have rs : Try.f50.results = #[.tmp 4] := rfl
  refine ACalls.of_run (m := 400) mixed Try.func50 rfl rfl (Nat.le_of_ble_eq_true rfl) ?_
  simp only [nt, rs]
  clear nt rs
  (try refine am (h := ?_)); (try with_reducible apply True.intro)
  repeat' (first | (with_reducible refine And.intro ?_ ?_) | (with_reducible intro _))
  all_goals try (first | omega | with_reducible rfl | ((with_reducible refine eqId ?_); exact rfl) | with_reducible (first | assumption | exact pl ‹_› | exact pr ‹_› | exact plr ‹_› | exact pll ‹_› | exact prl ‹_› | exact plll ‹_› | exact prll ‹_›))
  · refine FinK.val1 ?_ ?_
    all_goals (try refine amF (h := ?_))
    all_goals (try with_reducible apply True.intro)
    have h : b < a := by omega
    rw [if_pos h]
  · refine FinK.val1 ?_ ?_
    all_goals (try refine amF (h := ?_))
    all_goals (try with_reducible apply True.intro)
    have h : ¬ b < a := by omega
    rw [if_neg h]
set_option maxHeartbeats 4000000 in
theorem spec_l1New (code : List UInt8) (hc : code.length ≤ 2 ^ 40) : ANew Try.prog 47 [.one (.sl false none 1 code.length (fB code))] code.length := by
  have nt : Try.f47.ntmps = 32 := rfl
  refine ANew.of_run (m := 400) (t := 2) mixed Try.func47 rfl rfl (Nat.le_of_ble_eq_true rfl) rfl ?_
  simp only [nt]
  clear nt
  (try refine am (h := ?_)); (try with_reducible apply True.intro)
  repeat' (first | (with_reducible refine And.intro ?_ ?_) | (with_reducible intro _))
  all_goals try (first | omega | with_reducible rfl | ((with_reducible refine eqId ?_); exact rfl) | with_reducible (first | assumption | exact pl ‹_› | exact pr ‹_› | exact plr ‹_› | exact pll ‹_› | exact prl ‹_› | exact plll ‹_› | exact prll ‹_›))
  refine LoopK.auto (Nat) (fun i => [(3, .one (.av (AV.full .i64))), (4, .one (.av (.int .i64 i)))]) (fun i => []) [0] (k0 := ?k01) (keepH := ?kh1) 400 (fun i => i ≤ code.length) (fun i => code.length - i) (0) ?kea1 ?keb1 ?_ ?_ ?_
  case kea1 => exact amN
  case keb1 => exact amN
  · exact Nat.zero_le _
  · refine Le.auto [] (r0 := ?r01) (ren := ?ren1) ?ea1 ?eb1 ?a1 ?b1 ?c1 ?d1 ?ho1 ?hn1 ?ht1
    case ea1 => exact amR
    case eb1 => exact amR
    case a1 => exact rfl
    case b1 => exact rfl
    case c1 => exact rfl
    case d1 => exact rfl
    all_goals (try refine amL (h := ?_))
    all_goals (try with_reducible apply True.intro)
    exact .rng _ _ _ _ (by show (-9223372036854775808 : Int) ≤ _; omega) (by show _ ≤ (9223372036854775807 : Int); omega)
  · rintro i hi
    (try refine am (h := ?_)); (try with_reducible apply True.intro)
    repeat' (first | (with_reducible refine And.intro ?_ ?_) | (with_reducible intro _))
    all_goals try (first | omega | with_reducible rfl | ((with_reducible refine eqId ?_); exact rfl) | with_reducible (first | assumption | exact pl ‹_› | exact pr ‹_› | exact plr ‹_› | exact pll ‹_› | exact prl ‹_› | exact plll ‹_› | exact prll ‹_›))
    · refine ⟨i + 1, ?_, by omega, by omega⟩
      refine Le.auto [] (r0 := ?r02) (ren := ?ren2) ?ea2 ?eb2 ?a2 ?b2 ?c2 ?d2 ?ho2 ?hn2 ?ht2
      case ea2 => exact amR
      case eb2 => exact amR
      case a2 => exact rfl
      case b2 => exact rfl
      case c2 => exact rfl
      case d2 => exact rfl
      all_goals (try refine amL (h := ?_))
      all_goals (try with_reducible apply True.intro)
      all_goals rfl
    · refine ⟨⟨_, rfl, ⟨trivial, rfl⟩, ?_⟩, trivial, .tup [], trivial, trivial⟩
      refine .sl _ _ _ _ _ _ (fun i hi j hj => ?_)
      match j, hj with
      | 0, _ => exact .sl _ _ _ _ _ _ (fun i hi j hj => by
          obtain rfl : j = 0 := by omega
          exact ale_rng _ _ _ _ (by have := (code.getD i 0).toNat_lt; omega))
      | 1, _ => exact ale_rng _ _ _ _ (by omega)
      | 2, _ => exact .refl _
end Go.AM
namespace Go.AM
open Go Go.Proofs
set_option maxRecDepth 100000
set_option maxHeartbeats 4000000 in
theorem lawsBig (code : List UInt8) (hc : code.length ≤ 2 ^ 47) (u : Bool) : ACalls Try.prog 10 [.one (aB u code)] (fun r => r = .val (.one (.bool (decide (1048576 < code.length))))) := by
  have nt : Try.f10.ntmps = 6 := rfl
  have rs : Try.f10.results = #[.tmp 2] := rfl
  refine ACalls.of_run (m := 400) mixed Try.func10 rfl rfl (Nat.le_of_ble_eq_true rfl) ?_
  simp only [nt, rs]
  clear nt rs
  (try refine am (h := ?_)); (try with_reducible apply True.intro)
  repeat' (first | (with_reducible refine And.intro ?_ ?_) | (with_reducible intro _))
  all_goals try (first | omega | with_reducible rfl | ((with_reducible refine eqId ?_); exact rfl) | with_reducible (first | assumption | exact pl ‹_› | exact pr ‹_› | exact plr ‹_› | exact pll ‹_› | exact prl ‹_› | exact plll ‹_› | exact prll ‹_›))
  refine FinK.val1 ?_ ?_
  all_goals (try refine amF (h := ?_))
  all_goals (try with_reducible apply True.intro)
  refine decide_eq_decide.2 ?_
  omega
set_option maxHeartbeats 4000000 in
theorem lawsSameInts (l m : List Int) (u u' : Bool) (nl nl' : Option Bool) (hl : l.length ≤ 2 ^ 47) (hm : m.length ≤ 2 ^ 47) : ACalls Try.prog 14 [.one (.sl u nl 1 l.length (fI l)), .one (.sl u' nl' 1 m.length (fI m))] (fun r => r = .val (.one (.bool (decide (l = m))))) := by
  have nt : Try.f14.ntmps = 26 := rfl
  have rs : Try.f14.results = #[.tmp 4] := rfl
  refine ACalls.of_run (m := 400) mixed Try.func14 rfl rfl (Nat.le_of_ble_eq_true rfl) ?_
  simp only [nt, rs]
  clear nt rs
  (try refine am (h := ?_)); (try with_reducible apply True.intro)
  repeat' (first | (with_reducible refine And.intro ?_ ?_) | (with_reducible intro _))
  all_goals try (first | omega | with_reducible rfl | ((with_reducible refine eqId ?_); exact rfl) | with_reducible (first | assumption | exact pl ‹_› | exact pr ‹_› | exact plr ‹_› | exact pll ‹_› | exact prl ‹_› | exact plll ‹_› | exact prll ‹_›))
  · refine FinK.val1 ?_ ?_
    all_goals (try refine amF (h := ?_))
    all_goals (try with_reducible apply True.intro)
    have h : ¬ l = m := fun e => by subst e; omega
    simp [h]
  refine LoopK.auto (Nat) (fun i => [(5, .one (.av (.int .i64 i)))]) (fun i => []) [0, 1] (k0 := ?k01) (keepH := ?kh1) 400 (fun i => i ≤ l.length ∧ ∀ j, j < i → l.getD j 0 = m.getD j 0) (fun i => l.length - i) (0) ?kea1 ?keb1 ?_ ?_ ?_
  case kea1 => exact amN
  case keb1 => exact amN
  · exact ⟨Nat.zero_le _, fun j hj => by omega⟩
  · refine Le.auto [] (r0 := ?r01) (ren := ?ren1) ?ea1 ?eb1 ?a1 ?b1 ?c1 ?d1 ?ho1 ?hn1 ?ht1
    case ea1 => exact amR
    case eb1 => exact amR
    case a1 => exact rfl
    case b1 => exact rfl
    case c1 => exact rfl
    case d1 => exact rfl
    all_goals (try refine amL (h := ?_))
    all_goals (try with_reducible apply True.intro)
  · rintro i ⟨hi, hs⟩
    (try refine am (h := ?_)); (try with_reducible apply True.intro)
    repeat' (first | (with_reducible refine And.intro ?_ ?_) | (with_reducible intro _))
    all_goals try (first | omega | with_reducible rfl | ((with_reducible refine eqId ?_); exact rfl) | with_reducible (first | assumption | exact pl ‹_› | exact pr ‹_› | exact plr ‹_› | exact pll ‹_› | exact prl ‹_› | exact plll ‹_› | exact prll ‹_›))
    · refine FinK.val1 ?_ ?_
      all_goals (try refine amF (h := ?_))
      all_goals (try with_reducible apply True.intro)
      rename_i hne
      have h : ¬ l = m := fun e => by subst e; exact hne rfl
      simp [h]
    · rename_i he
      refine ⟨i + 1, ?_, ⟨by omega, fun j hj => ?_⟩, by omega⟩
      · refine Le.auto [] (r0 := ?r02) (ren := ?ren2) ?ea2 ?eb2 ?a2 ?b2 ?c2 ?d2 ?ho2 ?hn2 ?ht2
        case ea2 => exact amR
        case eb2 => exact amR
        case a2 => exact rfl
        case b2 => exact rfl
        case c2 => exact rfl
        case d2 => exact rfl
        all_goals (try refine amL (h := ?_))
        all_goals (try with_reducible apply True.intro)
        all_goals rfl
      · by_cases e : j = i
        · subst e; simpa using he
        · exact hs j (by omega)
    · refine FinK.val1 ?_ ?_
      all_goals (try refine amF (h := ?_))
      all_goals (try with_reducible apply True.intro)
      have h : l = m := by
        apply List.ext_getElem (by omega)
        intro j h1 h2
        have := hs j (by omega)
        simpa [List.getD, h1, h2] using this
      simp [h]
set_option maxHeartbeats 8000000 in
theorem spec_DrawTally (code : List UInt8) (hc : code.length ≤ 2 ^ 40) : ACalls Try.prog 11 [.one (aB false code)] (fun r => ∃ x : Int × List Int × List Int, (okI (2 ^ 20) x.2.1 ∧ okI (2 ^ 20) x.2.2) ∧ r = .tup [.one (.int .i64 x.1), .one (aI true x.2.1), .one (aI true x.2.2)]) := by
  have nt : Try.f11.ntmps = 75 := rfl
  have rs : Try.f11.results = #[.tmp 2, .tmp 3, .tmp 4] := rfl
  refine ACalls.of_runC (m := 400) mixed Try.func11 rfl rfl (Nat.le_of_ble_eq_true rfl) ?_
  simp only [nt, rs]
  clear nt rs
  (try refine am (h := ?_)); (try with_reducible apply True.intro)
  repeat' (first | (with_reducible refine And.intro ?_ ?_) | (with_reducible intro _))
  all_goals try (first | omega | with_reducible rfl | ((with_reducible refine eqId ?_); exact rfl) | with_reducible (first | assumption | exact pl ‹_› | exact pr ‹_› | exact plr ‹_› | exact pll ‹_› | exact prl ‹_› | exact plll ‹_› | exact prll ‹_›))
  refine CallK.new (spec_l1New code hc) ?_
  rintro xc
  (try refine am (h := ?_)); (try with_reducible apply True.intro)
  repeat' (first | (with_reducible refine And.intro ?_ ?_) | (with_reducible intro _))
  all_goals try (first | omega | with_reducible rfl | ((with_reducible refine eqId ?_); exact rfl) | with_reducible (first | assumption | exact pl ‹_› | exact pr ‹_› | exact plr ‹_› | exact pll ‹_› | exact prl ‹_› | exact plll ‹_› | exact prll ‹_›))
  refine CallK.cur (spec_l1PickInt code.length hc true (some false) [1, 2, 3, 3, 0, 4] (by decide) (by decide)) rfl rfl rfl (fun _ _ _ => amC) ?_
  rintro n hn
  (try refine am (h := ?_)); (try with_reducible apply True.intro)
  have hn2 : 0 ≤ n ∧ n ≤ 4 := by simp at hn; omega
  repeat' (first | (with_reducible refine And.intro ?_ ?_) | (with_reducible intro _))
  all_goals try (first | omega | with_reducible rfl | ((with_reducible refine eqId ?_); exact rfl) | with_reducible (first | assumption | exact pl ‹_› | exact pr ‹_› | exact plr ‹_› | exact pll ‹_› | exact prl ‹_› | exact plll ‹_› | exact prll ‹_›))
  refine CallK.cur (spec_l1PickInt code.length hc true (some false) [0, 1, 4, 9, 64, 65] (by decide) (by decide)) rfl rfl rfl (fun _ _ _ => amC) ?_
  rintro many hm
  (try refine am (h := ?_)); (try with_reducible apply True.intro)
  have hm2 : 0 ≤ many ∧ many ≤ 65 := by simp at hm; omega
  repeat' (first | (with_reducible refine And.intro ?_ ?_) | (with_reducible intro _))
  all_goals try (first | omega | with_reducible rfl | ((with_reducible refine eqId ?_); exact rfl) | with_reducible (first | assumption | exact pl ‹_› | exact pr ‹_› | exact plr ‹_› | exact pll ‹_› | exact prl ‹_› | exact plll ‹_› | exact prll ‹_›))
  refine LoopK.auto ((List Int × List Int × Nat)) (fun x => [(10, .one (.av (.int .i64 x.2.2))), (7, .one (.own 302 [] [0])), (8, .one (.own 303 [] [0]))]) (fun x => [(302, ⟨.sl true none 1 x.1.length (fI x.1), []⟩), (303, ⟨.sl true none 1 x.2.1.length (fI x.2.1), []⟩)]) [5, 6, 9] (k0 := ?k02) (keepH := ?kh2) 500 (fun x => (x.1.length = x.2.2 ∧ x.2.1.length = x.2.2 ∧ (x.2.2 : Int) ≤ many) ∧ (∀ y ∈ x.1, -10 ≤ y ∧ y ≤ 2000) ∧ (∀ y ∈ x.2.1, -10 ≤ y ∧ y ≤ 2000)) (fun x => 65 - x.2.2) (([], [], 0)) ?kea2 ?keb2 ?_ ?_ ?_
  case kea2 => exact amN
  case keb2 => exact amN
  · exact ⟨⟨rfl, rfl, by simp; omega⟩, fun y hy => by simp at hy, fun y hy => by simp at hy⟩
  · refine Le.auto [] (r0 := ?r03) (ren := ?ren3) ?ea3 ?eb3 ?a3 ?b3 ?c3 ?d3 ?ho3 ?hn3 ?ht3
    case ea3 => exact amR
    case eb3 => exact amR
    case a3 => exact rfl
    case b3 => exact rfl
    case c3 => exact rfl
    case d3 => exact rfl
    all_goals (try refine amL (h := ?_))
    all_goals (try with_reducible apply True.intro)
    all_goals exact ALe.of (.inl rfl) rfl (fun i hi => by omega)
  · rintro ⟨a, b, i⟩ ⟨⟨ha, hb, hi⟩, hA, hB⟩
    dsimp only at ha hb hi hA hB ⊢
    (try refine am (h := ?_)); (try with_reducible apply True.intro)
    repeat' (first | (with_reducible refine And.intro ?_ ?_) | (with_reducible intro _))
    all_goals try (first | omega | with_reducible rfl | ((with_reducible refine eqId ?_); exact rfl) | with_reducible (first | assumption | exact pl ‹_› | exact pr ‹_› | exact plr ‹_› | exact pll ‹_› | exact prl ‹_› | exact plll ‹_› | exact prll ‹_›))
    · first | refine CallK.one (spec_l1Max n 1) (fun _ => amC) ?_ | refine CallE.one (spec_l1Max n 1) (fun _ => amC) rfl ?_ | refine CallG.one rfl (fun hg => spec_l1Max n 1) ?_ | refine CallEG.one rfl rfl (fun hg => spec_l1Max n 1) ?_ | refine CallCE.one (spec_l1Max n 1) (fun _ => amC) rfl ?_
      (try refine am (h := ?_)); (try with_reducible apply True.intro)
      repeat' (first | (with_reducible refine And.intro ?_ ?_) | (with_reducible intro _))
      all_goals try (first | omega | with_reducible rfl | ((with_reducible refine eqId ?_); exact rfl) | with_reducible (first | assumption | exact pl ‹_› | exact pr ‹_› | exact plr ‹_› | exact pll ‹_› | exact prl ‹_› | exact plll ‹_› | exact prll ‹_›))
      refine CallK.cur (spec_l1Below code.length hc _) rfl rfl rfl (fun _ _ _ => amC) ?_
      rintro z ⟨hz0, hz1⟩
      (try refine am (h := ?_)); (try with_reducible apply True.intro)
      repeat' (first | (with_reducible refine And.intro ?_ ?_) | (with_reducible intro _))
      all_goals try (first | omega | with_reducible rfl | ((with_reducible refine eqId ?_); exact rfl) | with_reducible (first | assumption | exact pl ‹_› | exact pr ‹_› | exact plr ‹_› | exact pll ‹_› | exact prl ‹_› | exact plll ‹_› | exact prll ‹_›))
      refine CallK.cur (spec_l1Below code.length hc 1001) rfl rfl rfl (fun _ _ _ => amC) ?_
      rintro z2 ⟨hz20, hz21⟩
      (try refine am (h := ?_)); (try with_reducible apply True.intro)
      repeat' (first | (with_reducible refine And.intro ?_ ?_) | (with_reducible intro _))
      all_goals try (first | omega | with_reducible rfl | ((with_reducible refine eqId ?_); exact rfl) | with_reducible (first | assumption | exact pl ‹_› | exact pr ‹_› | exact plr ‹_› | exact pll ‹_› | exact prl ‹_› | exact plll ‹_› | exact prll ‹_›))
      refine CallK.cur (spec_l1PickInt code.length hc true (some false) [0, 1, 500, 1000, z2] (by simp) (by simp)) rfl rfl rfl (fun _ _ _ => amC) ?_
      rintro z3 hz3
      (try refine am (h := ?_)); (try with_reducible apply True.intro)
      repeat' (first | (with_reducible refine And.intro ?_ ?_) | (with_reducible intro _))
      all_goals try (first | omega | with_reducible rfl | ((with_reducible refine eqId ?_); exact rfl) | with_reducible (first | assumption | exact pl ‹_› | exact pr ‹_› | exact plr ‹_› | exact pll ‹_› | exact prl ‹_› | exact plll ‹_› | exact prll ‹_›))
      have hz2 : z ≤ 4 := by rcases hz1 with h | h; (split at h <;> omega); omega
      have hz4 : 0 ≤ z3 ∧ z3 ≤ 1000 := by simp at hz3; omega
      refine ⟨(a ++ [z - 1], b ++ [z3], i + 1), ?_, ⟨⟨by simp [ha], by simp [hb], by simp only [Int.natCast_add, Int.natCast_one]; omega⟩, fun y hy => ?_, fun y hy => ?_⟩, by simp only; omega⟩
      · refine Le.auto [] (r0 := ?r04) (ren := ?ren4) ?ea4 ?eb4 ?a4 ?b4 ?c4 ?d4 ?ho4 ?hn4 ?ht4
        case ea4 => exact amR
        case eb4 => exact amR
        case a4 => exact rfl
        case b4 => exact rfl
        case c4 => exact rfl
        case d4 => exact rfl
        all_goals (try refine amL (h := ?_))
        all_goals (try with_reducible apply True.intro)
        exact ⟨appIntD rfl, appIntD rfl⟩
      · rcases mem_app1 hy with h | h
        · exact hA y h
        · omega
      · rcases mem_app1 hy with h | h
        · exact hB y h
        · omega
    · have oA : okI (2 ^ 19) a := ⟨by omega, fun y hy => by have := hA y hy; exact ⟨by show (-9223372036854775808 : Int) ≤ y; omega, by show y ≤ (9223372036854775807 : Int); omega⟩⟩
      have oB : okI (2 ^ 19) b := ⟨by omega, fun y hy => by have := hB y hy; exact ⟨by show (-9223372036854775808 : Int) ≤ y; omega, by show y ≤ (9223372036854775807 : Int); omega⟩⟩
      refine CallK.cur (spec_l1Below code.length hc _) rfl rfl rfl (fun _ _ _ => amC) ?_
      rintro z ⟨hz0, hz1⟩
      (try refine am (h := ?_)); (try with_reducible apply True.intro)
      repeat' (first | (with_reducible refine And.intro ?_ ?_) | (with_reducible intro _))
      all_goals try (first | omega | with_reducible rfl | ((with_reducible refine eqId ?_); exact rfl) | with_reducible (first | assumption | exact pl ‹_› | exact pr ‹_› | exact plr ‹_› | exact pll ‹_› | exact prl ‹_› | exact plll ‹_› | exact prll ‹_›))
      · refine FinK.ex ((n, a ++ [0], b)) ?hq1 ?_
        case hq1 => exact ⟨okI_app1 oA (by omega) (by decide), okI_up oB (by decide)⟩
        refine FinK.tup ?_ ?_
        all_goals (try refine amF (h := ?_))
        all_goals (try with_reducible apply True.intro)
        exact appIntD rfl
      · refine CallK.cur (spec_l1PickInt code.length hc true (some false) [-1, 1001] (by simp) (by simp)) rfl rfl rfl (fun _ _ _ => amC) ?_
        rintro z2 hz2
        (try refine am (h := ?_)); (try with_reducible apply True.intro)
        have hz3 : -1 ≤ z2 ∧ z2 ≤ 1001 := by simp at hz2; omega
        repeat' (first | (with_reducible refine And.intro ?_ ?_) | (with_reducible intro _))
        all_goals try (first | omega | with_reducible rfl | ((with_reducible refine eqId ?_); exact rfl) | with_reducible (first | assumption | exact pl ‹_› | exact pr ‹_› | exact plr ‹_› | exact pll ‹_› | exact prl ‹_› | exact plll ‹_› | exact prll ‹_›))
        refine FinK.ex ((n, a ++ [0], b ++ [z2])) ?hq2 ?_
        case hq2 => exact ⟨okI_app1 oA (by omega) (by decide), okI_app1 oB (by omega) (by decide)⟩
        refine FinK.tup ?_ ?_
        all_goals (try refine amF (h := ?_))
        all_goals (try with_reducible apply True.intro)
        exact ⟨appIntD rfl, appIntD rfl⟩
      · refine CallK.cur (spec_l1PickInt code.length hc true (some false) [-2, 3, 9] (by simp) (by simp)) rfl rfl rfl (fun _ _ _ => amC) ?_
        rintro z2 hz2
        (try refine am (h := ?_)); (try with_reducible apply True.intro)
        have hz3 : -2 ≤ z2 ∧ z2 ≤ 9 := by simp at hz2; omega
        repeat' (first | (with_reducible refine And.intro ?_ ?_) | (with_reducible intro _))
        all_goals try (first | omega | with_reducible rfl | ((with_reducible refine eqId ?_); exact rfl) | with_reducible (first | assumption | exact pl ‹_› | exact pr ‹_› | exact plr ‹_› | exact pll ‹_› | exact prl ‹_› | exact plll ‹_› | exact prll ‹_›))
        refine FinK.ex ((n, a ++ [z2], b ++ [1])) ?hq3 ?_
        case hq3 => exact ⟨okI_app1 oA (by omega) (by decide), okI_app1 oB (by omega) (by decide)⟩
        refine FinK.tup ?_ ?_
        all_goals (try refine amF (h := ?_))
        all_goals (try with_reducible apply True.intro)
        exact ⟨appIntD rfl, appIntD rfl⟩
      · refine FinK.ex ((n, a, b)) ?hq4 ?_
        case hq4 => exact ⟨okI_up oA (by decide), okI_up oB (by decide)⟩
        refine FinK.tup ?_ ?_
        all_goals (try refine amF (h := ?_))
        all_goals (try with_reducible apply True.intro)
end Go.AM
namespace Go.AM
open Go Go.Proofs
set_option maxRecDepth 100000
def tlyS (s w : List Int) : Nat → Int → Int
  | 0, _ => 0
  | i + 1, c => tlyS s w i c + (if s.getD i 0 = c then w.getD i 0 else 0)
def vOk (n : Int) (s w : List Int) (j : Nat) : Prop := (-1 ≤ s.getD j 0 ∧ s.getD j 0 ≤ n - 1) ∧ 0 ≤ w.getD j 0 ∧ w.getD j 0 ≤ 1000
theorem tlyS_bd {n : Int} {s w : List Int} {c : Int} : ∀ {i : Nat}, (∀ j, j < i → vOk n s w j) → 0 ≤ tlyS s w i c ∧ tlyS s w i c ≤ 1000 * i
  | 0, _ => ⟨Int.le_refl _, by simp [tlyS]⟩
  | i + 1, h => by
    have := tlyS_bd (c := c) (i := i) (fun j hj => h j (by omega))
    have h2 := (h i (by omega)).2
    simp only [tlyS]
    split <;> omega
open Classical in
noncomputable def tly (n : Int) (s w : List Int) : List Int :=
  if (1 ≤ n ∧ n ≤ 3) ∧ s.length = w.length ∧ s.length ≤ 64 ∧ ∀ j, j < s.length → vOk n s w j then (List.range n.toNat).map (fun (c : Nat) => tlyS s w s.length c) else []
theorem rangeLe (g : Nat → Int) (m : Nat) : ALe (.sl true none 1 m (fun i' j => gl .junk [.int .i64 (g i')] j)) (.sl true none 1 ((List.range m).map g).length (fI ((List.range m).map g))) := by
  refine ALe.of (.inl rfl) (by simp) (fun i' hi' j hj => ?_)
  obtain rfl : j = 0 := by omega
  have : ((List.range m).map g).getD i' 0 = g i' := by rw [List.getD_eq_getElem?_getD]; simp [hi']
  show ALe (.int .i64 (g i')) (.int .i64 (((List.range m).map g).getD i' 0))
  rw [this]
  exact .refl _
set_option maxHeartbeats 2000000 in
theorem sTally (m : Nat) (s w : List Int) (u u' : Bool) (nl nl' : Option Bool) (hs : okI (2 ^ 47) s) (hw : okI (2 ^ 47) w) : ACalls Try.prog 13 [.one (.int .i64 (m : Int)), .one (.sl u nl 1 s.length (fI s)), .one (.sl u' nl' 1 w.length (fI w))] (fun r => r = .val (.one (aI true (tly m s w)))) := by
  have hsl := hs.1
  have hwl := hw.1
  have nt : Try.f13.ntmps = 74 := rfl
  have rs : Try.f13.results = #[.tmp 6] := rfl
  refine ACalls.of_run (m := 400) mixed Try.func13 rfl rfl (Nat.le_of_ble_eq_true rfl) ?_
  simp only [nt, rs]
  clear nt rs
  (try refine am (h := ?_)); (try with_reducible apply True.intro)
  first | refine CallK.one (l1In m 1 3) (fun _ => amC) ?_ | refine CallE.one (l1In m 1 3) (fun _ => amC) rfl ?_ | refine CallG.one rfl (fun hg => l1In m 1 3) ?_ | refine CallEG.one rfl rfl (fun hg => l1In m 1 3) ?_ | refine CallCE.one (l1In m 1 3) (fun _ => amC) rfl ?_
  (try refine am (h := ?_)); (try with_reducible apply True.intro)
  refine ⟨fun h => ⟨by omega, ?_⟩, fun h => ?_⟩
  · have e : tly m s w = [] := if_neg (fun hh => by omega)
    rw [e]
    refine FinK.val1 ?_ ?_
    all_goals (try refine amF (h := ?_))
    all_goals (try with_reducible apply True.intro)
    exact ALe.of (.inl rfl) rfl (fun i hi => absurd hi (Nat.not_lt_zero i))
  repeat' (first | (with_reducible refine And.intro ?_ ?_) | (with_reducible intro _))
  all_goals try (first | omega | with_reducible rfl | ((with_reducible refine eqId ?_); exact rfl) | with_reducible (first | assumption | exact pl ‹_› | exact pr ‹_› | exact plr ‹_› | exact pll ‹_› | exact prl ‹_› | exact plll ‹_› | exact prll ‹_›))
  refine LoopK.auto (Nat) (fun i => [(8, .one (.av (.int .i64 i))), (7, .one (.own 302 [] [0]))]) (fun i => [(302, ⟨.sl true none 1 m (fun i' j => gl .junk [.int .i64 (tlyS s w i (i' : Int))] j), []⟩)]) [0, 1, 2] (k0 := ?k01) (keepH := ?kh1) 400 (fun i => i ≤ s.length ∧ ∀ j, j < i → vOk m s w j) (fun i => s.length - i) (0) ?kea1 ?keb1 ?_ ?_ ?_
  case kea1 => exact amN
  case keb1 => exact amN
  · exact ⟨Nat.zero_le _, fun j hj => by omega⟩
  · refine Le.auto [] (r0 := ?r01) (ren := ?ren1) ?ea1 ?eb1 ?a1 ?b1 ?c1 ?d1 ?ho1 ?hn1 ?ht1
    case ea1 => exact amR
    case eb1 => exact amR
    case a1 => exact rfl
    case b1 => exact rfl
    case c1 => exact rfl
    case d1 => exact rfl
    all_goals (try refine amL (h := ?_))
    all_goals (try with_reducible apply True.intro)
    exact ALe.of (.inl rfl) rfl (fun i hi j hj => .refl _)
  · intro i hi
    have hb := fun c => tlyS_bd (c := c) hi.2
    (try refine am (h := ?_)); (try with_reducible apply True.intro)
    refine ⟨fun hlt => ?_, fun hlt => ?_⟩
    · repeat' (first | (with_reducible refine And.intro ?_ ?_) | (with_reducible intro _))
      all_goals try (first | omega | with_reducible rfl | ((with_reducible refine eqId ?_); exact rfl) | with_reducible (first | assumption | exact pl ‹_› | exact pr ‹_› | exact plr ‹_› | exact pll ‹_› | exact prl ‹_› | exact plll ‹_› | exact prll ‹_›))
      first | refine CallK.one (l1In (s.getD i 0) (-1) (m - 1)) (fun _ => amC) ?_ | refine CallE.one (l1In (s.getD i 0) (-1) (m - 1)) (fun _ => amC) rfl ?_ | refine CallG.one rfl (fun hg => l1In (s.getD i 0) (-1) (m - 1)) ?_ | refine CallEG.one rfl rfl (fun hg => l1In (s.getD i 0) (-1) (m - 1)) ?_ | refine CallCE.one (l1In (s.getD i 0) (-1) (m - 1)) (fun _ => amC) rfl ?_
      (try refine am (h := ?_)); (try with_reducible apply True.intro)
      repeat' (first | (with_reducible refine And.intro ?_ ?_) | (with_reducible intro _))
      all_goals try (first | omega | with_reducible rfl | ((with_reducible refine eqId ?_); exact rfl) | with_reducible (first | assumption | exact pl ‹_› | exact pr ‹_› | exact plr ‹_› | exact pll ‹_› | exact prl ‹_› | exact plll ‹_› | exact prll ‹_›))
      first | refine CallK.one (l1In (w.getD i 0) 0 1000) (fun _ => amC) ?_ | refine CallE.one (l1In (w.getD i 0) 0 1000) (fun _ => amC) rfl ?_ | refine CallG.one rfl (fun hg => l1In (w.getD i 0) 0 1000) ?_ | refine CallEG.one rfl rfl (fun hg => l1In (w.getD i 0) 0 1000) ?_ | refine CallCE.one (l1In (w.getD i 0) 0 1000) (fun _ => amC) rfl ?_
      (try refine am (h := ?_)); (try with_reducible apply True.intro)
      refine ⟨fun hh => ⟨by omega, ?_⟩, fun hh => ?_⟩
      · have e : tly m s w = [] := if_neg (fun h2 => by have := h2.2.2.2 i hlt; unfold vOk at this; omega)
        rw [e]
        refine FinK.val1 ?_ ?_
        all_goals (try refine amF (h := ?_))
        all_goals (try with_reducible apply True.intro)
        exact ALe.of (.inl rfl) rfl (fun i hi => absurd hi (Nat.not_lt_zero i))
      have hv : vOk m s w i := by unfold vOk; omega
      have hb0 := hb (s.getD i 0)
      refine ⟨hlt, fun hn => ?_, fun hn => ?_⟩
      · have hb1 := hb ((s.getD i 0).toNat : Int)
        repeat' (first | (with_reducible refine And.intro ?_ ?_) | (with_reducible intro _))
        all_goals try (first | omega | with_reducible rfl | ((with_reducible refine eqId ?_); exact rfl) | with_reducible (first | assumption | exact pl ‹_› | exact pr ‹_› | exact plr ‹_› | exact pll ‹_› | exact prl ‹_› | exact plll ‹_› | exact prll ‹_›))
        refine ⟨i + 1, ?_, ⟨by omega, fun j hj => ?_⟩, by omega⟩
        · refine Le.auto [] (r0 := ?r02) (ren := ?ren2) ?ea2 ?eb2 ?a2 ?b2 ?c2 ?d2 ?ho2 ?hn2 ?ht2
          case ea2 => exact amR
          case eb2 => exact amR
          case a2 => exact rfl
          case b2 => exact rfl
          case c2 => exact rfl
          case d2 => exact rfl
          all_goals (try refine amL (h := ?_))
          all_goals (try with_reducible apply True.intro)
          refine ALe.of (.inl rfl) rfl (fun i' hi' j hj => ?_)
          by_cases e : i' = (s.getD i 0).toNat
          · have e3 : tlyS s w (i + 1) (i' : Int) = tlyS s w i (i' : Int) + w.getD i 0 := by
              simp only [tlyS]; rw [if_pos (by omega)]
            rw [e3, ← e, if_pos ⟨rfl, Nat.zero_le _, hj⟩]
            exact .refl _
          · have e3 : tlyS s w (i + 1) (i' : Int) = tlyS s w i (i' : Int) := by
              simp only [tlyS]; rw [if_neg (by omega)]; omega
            rw [e3, if_neg (fun h => e h.1)]
            exact .refl _
        · by_cases e : j = i
          · rw [e]; exact hv
          · exact hi.2 j (by omega)
      · repeat' (first | (with_reducible refine And.intro ?_ ?_) | (with_reducible intro _))
        all_goals try (first | omega | with_reducible rfl | ((with_reducible refine eqId ?_); exact rfl) | with_reducible (first | assumption | exact pl ‹_› | exact pr ‹_› | exact plr ‹_› | exact pll ‹_› | exact prl ‹_› | exact plll ‹_› | exact prll ‹_›))
        refine ⟨i + 1, ?_, ⟨by omega, fun j hj => ?_⟩, by omega⟩
        · refine Le.auto [] (r0 := ?r03) (ren := ?ren3) ?ea3 ?eb3 ?a3 ?b3 ?c3 ?d3 ?ho3 ?hn3 ?ht3
          case ea3 => exact amR
          case eb3 => exact amR
          case a3 => exact rfl
          case b3 => exact rfl
          case c3 => exact rfl
          case d3 => exact rfl
          all_goals (try refine amL (h := ?_))
          all_goals (try with_reducible apply True.intro)
          refine ALe.of (.inl rfl) rfl (fun i' hi' j hj => ?_)
          have e3 : tlyS s w (i + 1) (i' : Int) = tlyS s w i (i' : Int) := by
            simp only [tlyS]; rw [if_neg (by omega)]; omega
          rw [e3]
          exact .refl _
        · by_cases e : j = i
          · rw [e]; exact hv
          · exact hi.2 j (by omega)
    · have e : i = s.length := by omega
      subst e
      have e : tly m s w = (List.range m).map (fun (c : Nat) => tlyS s w s.length c) := if_pos ⟨by omega, by omega, by omega, hi.2⟩
      rw [e]
      refine FinK.val1 ?_ ?_
      all_goals (try refine amF (h := ?_))
      all_goals (try with_reducible apply True.intro)
      exact rangeLe _ m
set_option maxHeartbeats 2000000 in
theorem iTally (m : Nat) (s w : List Int) (u u' : Bool) (nl nl' : Option Bool) (hs : okI (2 ^ 47) s) (hw : okI (2 ^ 47) w) : ACalls Try.prog 12 [.one (.int .i64 (m : Int)), .one (.sl u nl 1 s.length (fI s)), .one (.sl u' nl' 1 w.length (fI w))] (fun r => r = .val (.one (aI true (tly m s w)))) := by
  have hsl := hs.1
  have hwl := hw.1
  have nt : Try.f12.ntmps = 61 := rfl
  have rs : Try.f12.results = #[.tmp 6] := rfl
  refine ACalls.of_run (m := 400) mixed Try.func12 rfl rfl (Nat.le_of_ble_eq_true rfl) ?_
  simp only [nt, rs]
  clear nt rs
  (try refine am (h := ?_)); (try with_reducible apply True.intro)
  first | refine CallK.one (within m 1 3) (fun _ => amC) ?_ | refine CallE.one (within m 1 3) (fun _ => amC) rfl ?_ | refine CallG.one rfl (fun hg => within m 1 3) ?_ | refine CallEG.one rfl rfl (fun hg => within m 1 3) ?_ | refine CallCE.one (within m 1 3) (fun _ => amC) rfl ?_
  (try refine am (h := ?_)); (try with_reducible apply True.intro)
  refine ⟨fun h => ?_, fun h => ?_⟩
  · have e : tly m s w = [] := if_neg (fun hh => by omega)
    rw [e]
    refine FinK.val1 ?_ ?_
    all_goals (try refine amF (h := ?_))
    all_goals (try with_reducible apply True.intro)
    exact .nil _ _ _ _ _
  first | refine CallK.one (zerosI m (by omega)) (fun _ => amC) ?_ | refine CallE.one (zerosI m (by omega)) (fun _ => amC) rfl ?_ | refine CallG.one rfl (fun hg => zerosI m (by omega)) ?_ | refine CallEG.one rfl rfl (fun hg => zerosI m (by omega)) ?_ | refine CallCE.one (zerosI m (by omega)) (fun _ => amC) rfl ?_
  (try refine am (h := ?_)); (try with_reducible apply True.intro)
  refine LoopK.auto (Nat) (fun i => [(29, .one (.av (.int .i64 i))), (7, .one (.own 302 [] [0]))]) (fun i => [(302, ⟨.sl true none 1 m (fun i' j => gl .junk [.int .i64 (tlyS s w i (i' : Int))] j), []⟩)]) [0, 2, 27, 28] (k0 := ?k02) (keepH := ?kh2) 400 (fun i => i ≤ s.length ∧ ∀ j, j < i → vOk m s w j) (fun i => s.length - i) (0) ?kea2 ?keb2 ?_ ?_ ?_
  case kea2 => exact amN
  case keb2 => exact amN
  · exact ⟨Nat.zero_le _, fun j hj => by omega⟩
  · refine Le.auto [] (r0 := ?r04) (ren := ?ren4) ?ea4 ?eb4 ?a4 ?b4 ?c4 ?d4 ?ho4 ?hn4 ?ht4
    case ea4 => exact amR
    case eb4 => exact amR
    case a4 => exact rfl
    case b4 => exact rfl
    case c4 => exact rfl
    case d4 => exact rfl
    all_goals (try refine amL (h := ?_))
    all_goals (try with_reducible apply True.intro)
    refine ALe.of (.inl rfl) (by simp) (fun i' hi' j hj => ?_)
    obtain rfl : j = 0 := by omega
    have : (List.replicate m (0 : Int)).getD i' 0 = 0 := by rw [List.getD_eq_getElem?_getD]; (try simp at hi'); simp [hi']
    show ALe (.int .i64 ((List.replicate m (0 : Int)).getD i' 0)) (.int .i64 0)
    rw [this]
    exact .refl _
  · intro i hi
    have hb := fun c => tlyS_bd (c := c) hi.2
    (try refine am (h := ?_)); (try with_reducible apply True.intro)
    refine ⟨fun hlt => ?_, fun hlt => ?_⟩
    · repeat' (first | (with_reducible refine And.intro ?_ ?_) | (with_reducible intro _))
      all_goals try (first | omega | with_reducible rfl | ((with_reducible refine eqId ?_); exact rfl) | with_reducible (first | assumption | exact pl ‹_› | exact pr ‹_› | exact plr ‹_› | exact pll ‹_› | exact prl ‹_› | exact plll ‹_› | exact prll ‹_›))
      first | refine CallK.one (within (s.getD i 0) (-1) (m - 1)) (fun _ => amC) ?_ | refine CallE.one (within (s.getD i 0) (-1) (m - 1)) (fun _ => amC) rfl ?_ | refine CallG.one rfl (fun hg => within (s.getD i 0) (-1) (m - 1)) ?_ | refine CallEG.one rfl rfl (fun hg => within (s.getD i 0) (-1) (m - 1)) ?_ | refine CallCE.one (within (s.getD i 0) (-1) (m - 1)) (fun _ => amC) rfl ?_
      (try refine am (h := ?_)); (try with_reducible apply True.intro)
      repeat' (first | (with_reducible refine And.intro ?_ ?_) | (with_reducible intro _))
      all_goals try (first | omega | with_reducible rfl | ((with_reducible refine eqId ?_); exact rfl) | with_reducible (first | assumption | exact pl ‹_› | exact pr ‹_› | exact plr ‹_› | exact pll ‹_› | exact prl ‹_› | exact plll ‹_› | exact prll ‹_›))
      first | refine CallK.one (within (w.getD i 0) 0 1000) (fun _ => amC) ?_ | refine CallE.one (within (w.getD i 0) 0 1000) (fun _ => amC) rfl ?_ | refine CallG.one rfl (fun hg => within (w.getD i 0) 0 1000) ?_ | refine CallEG.one rfl rfl (fun hg => within (w.getD i 0) 0 1000) ?_ | refine CallCE.one (within (w.getD i 0) 0 1000) (fun _ => amC) rfl ?_
      (try refine am (h := ?_)); (try with_reducible apply True.intro)
      refine ⟨fun hh => ?_, fun hh => ?_⟩
      · have e : tly m s w = [] := if_neg (fun h2 => by have := h2.2.2.2 i hlt; unfold vOk at this; omega)
        rw [e]
        refine FinK.val1 ?_ ?_
        all_goals (try refine amF (h := ?_))
        all_goals (try with_reducible apply True.intro)
        exact .nil _ _ _ _ _
      have hv : vOk m s w i := by unfold vOk; omega
      have hb0 := hb (s.getD i 0)
      refine ⟨fun hn => ?_, fun hn => ?_⟩
      · have hb1 := hb ((s.getD i 0).toNat : Int)
        repeat' (first | (with_reducible refine And.intro ?_ ?_) | (with_reducible intro _))
        all_goals try (first | omega | with_reducible rfl | ((with_reducible refine eqId ?_); exact rfl) | with_reducible (first | assumption | exact pl ‹_› | exact pr ‹_› | exact plr ‹_› | exact pll ‹_› | exact prl ‹_› | exact plll ‹_› | exact prll ‹_›))
        refine ⟨i + 1, ?_, ⟨by omega, fun j hj => ?_⟩, by omega⟩
        · refine Le.auto [] (r0 := ?r05) (ren := ?ren5) ?ea5 ?eb5 ?a5 ?b5 ?c5 ?d5 ?ho5 ?hn5 ?ht5
          case ea5 => exact amR
          case eb5 => exact amR
          case a5 => exact rfl
          case b5 => exact rfl
          case c5 => exact rfl
          case d5 => exact rfl
          all_goals (try refine amL (h := ?_))
          all_goals (try with_reducible apply True.intro)
          refine ALe.of (.inl rfl) rfl (fun i' hi' j hj => ?_)
          by_cases e : i' = (s.getD i 0).toNat
          · have e3 : tlyS s w (i + 1) (i' : Int) = tlyS s w i (i' : Int) + w.getD i 0 := by
              simp only [tlyS]; rw [if_pos (by omega)]
            rw [e3, ← e, if_pos ⟨rfl, Nat.zero_le _, hj⟩]
            exact .refl _
          · have e3 : tlyS s w (i + 1) (i' : Int) = tlyS s w i (i' : Int) := by
              simp only [tlyS]; rw [if_neg (by omega)]; omega
            rw [e3, if_neg (fun h => e h.1)]
            exact .refl _
        · by_cases e : j = i
          · rw [e]; exact hv
          · exact hi.2 j (by omega)
      · repeat' (first | (with_reducible refine And.intro ?_ ?_) | (with_reducible intro _))
        all_goals try (first | omega | with_reducible rfl | ((with_reducible refine eqId ?_); exact rfl) | with_reducible (first | assumption | exact pl ‹_› | exact pr ‹_› | exact plr ‹_› | exact pll ‹_› | exact prl ‹_› | exact plll ‹_› | exact prll ‹_›))
        refine ⟨i + 1, ?_, ⟨by omega, fun j hj => ?_⟩, by omega⟩
        · refine Le.auto [] (r0 := ?r06) (ren := ?ren6) ?ea6 ?eb6 ?a6 ?b6 ?c6 ?d6 ?ho6 ?hn6 ?ht6
          case ea6 => exact amR
          case eb6 => exact amR
          case a6 => exact rfl
          case b6 => exact rfl
          case c6 => exact rfl
          case d6 => exact rfl
          all_goals (try refine amL (h := ?_))
          all_goals (try with_reducible apply True.intro)
          refine ALe.of (.inl rfl) rfl (fun i' hi' j hj => ?_)
          have e3 : tlyS s w (i + 1) (i' : Int) = tlyS s w i (i' : Int) := by
            simp only [tlyS]; rw [if_neg (by omega)]; omega
          rw [e3]
          exact .refl _
        · by_cases e : j = i
          · rw [e]; exact hv
          · exact hi.2 j (by omega)
    · have e : i = s.length := by omega
      subst e
      have e : tly m s w = (List.range m).map (fun (c : Nat) => tlyS s w s.length c) := if_pos ⟨by omega, by omega, by omega, hi.2⟩
      rw [e]
      refine FinK.val1 ?_ ?_
      all_goals (try refine amF (h := ?_))
      all_goals (try with_reducible apply True.intro)
      exact rangeLe _ m
set_option maxHeartbeats 2000000 in
theorem sTallyN (n : Int) (s w : List Int) (u u' : Bool) (nl nl' : Option Bool) (hs : okI (2 ^ 47) s) (hw : okI (2 ^ 47) w) : ACalls Try.prog 13 [.one (.int .i64 n), .one (.sl u nl 1 s.length (fI s)), .one (.sl u' nl' 1 w.length (fI w))] (fun r => r = .val (.one (aI true (tly n s w)))) := by
  by_cases hn : 0 ≤ n
  · obtain ⟨m, rfl⟩ := Int.eq_ofNat_of_zero_le hn
    exact sTally m s w u u' nl nl' hs hw
  have hsl := hs.1
  have hwl := hw.1
  have nt : Try.f13.ntmps = 74 := rfl
  have rs : Try.f13.results = #[.tmp 6] := rfl
  refine ACalls.of_run (m := 400) mixed Try.func13 rfl rfl (Nat.le_of_ble_eq_true rfl) ?_
  simp only [nt, rs]
  clear nt rs
  (try refine am (h := ?_)); (try with_reducible apply True.intro)
  first | refine CallK.one (l1In n 1 3) (fun _ => amC) ?_ | refine CallE.one (l1In n 1 3) (fun _ => amC) rfl ?_ | refine CallG.one rfl (fun hg => l1In n 1 3) ?_ | refine CallEG.one rfl rfl (fun hg => l1In n 1 3) ?_ | refine CallCE.one (l1In n 1 3) (fun _ => amC) rfl ?_
  (try refine am (h := ?_)); (try with_reducible apply True.intro)
  refine ⟨fun h => ⟨by omega, ?_⟩, fun h => absurd h (by omega)⟩
  have e : tly n s w = [] := if_neg (fun hh => by omega)
  rw [e]
  refine FinK.val1 ?_ ?_
  all_goals (try refine amF (h := ?_))
  all_goals (try with_reducible apply True.intro)
  exact ALe.of (.inl rfl) rfl (fun i hi => absurd hi (Nat.not_lt_zero i))
set_option maxHeartbeats 2000000 in
theorem iTallyN (n : Int) (s w : List Int) (u u' : Bool) (nl nl' : Option Bool) (hs : okI (2 ^ 47) s) (hw : okI (2 ^ 47) w) : ACalls Try.prog 12 [.one (.int .i64 n), .one (.sl u nl 1 s.length (fI s)), .one (.sl u' nl' 1 w.length (fI w))] (fun r => r = .val (.one (aI true (tly n s w)))) := by
  by_cases hn : 0 ≤ n
  · obtain ⟨m, rfl⟩ := Int.eq_ofNat_of_zero_le hn
    exact iTally m s w u u' nl nl' hs hw
  have hsl := hs.1
  have hwl := hw.1
  have nt : Try.f12.ntmps = 61 := rfl
  have rs : Try.f12.results = #[.tmp 6] := rfl
  refine ACalls.of_run (m := 400) mixed Try.func12 rfl rfl (Nat.le_of_ble_eq_true rfl) ?_
  simp only [nt, rs]
  clear nt rs
  (try refine am (h := ?_)); (try with_reducible apply True.intro)
  first | refine CallK.one (within n 1 3) (fun _ => amC) ?_ | refine CallE.one (within n 1 3) (fun _ => amC) rfl ?_ | refine CallG.one rfl (fun hg => within n 1 3) ?_ | refine CallEG.one rfl rfl (fun hg => within n 1 3) ?_ | refine CallCE.one (within n 1 3) (fun _ => amC) rfl ?_
  (try refine am (h := ?_)); (try with_reducible apply True.intro)
  refine ⟨fun h => ?_, fun h => absurd h (by omega)⟩
  have e : tly n s w = [] := if_neg (fun hh => by omega)
  rw [e]
  refine FinK.val1 ?_ ?_
  all_goals (try refine amF (h := ?_))
  all_goals (try with_reducible apply True.intro)
  exact .nil _ _ _ _ _
end Go.AM
namespace Go.AM
open Go Go.Proofs
set_option maxRecDepth 100000
def smF (f : Nat → Int) : Nat → Int
  | 0 => 0
  | n + 1 => smF f n + f n
theorem smF_left (f : Nat → Int) : ∀ n, smF f (n + 1) = f 0 + smF (fun k => f (k + 1)) n
  | 0 => by simp [smF]
  | n + 1 => by
    have := smF_left f n
    simp only [smF] at this ⊢
    omega
theorem smF_congr {f g : Nat → Int} : ∀ {n}, (∀ k, k < n → f k = g k) → smF f n = smF g n
  | 0, _ => rfl
  | n + 1, h => by
    simp only [smF]
    rw [smF_congr (n := n) (fun k hk => h k (by omega)), h n (by omega)]
theorem smF_rev : ∀ (n : Nat) (f : Nat → Int), smF (fun k => f (n - 1 - k)) n = smF f n
  | 0, f => rfl
  | n + 1, f => by
    rw [smF_left f n, ← smF_rev n (fun k => f (k + 1))]
    have e : smF (fun k => f (n + 1 - 1 - k)) (n + 1) = smF (fun k => f (n - k)) n + f 0 := by
      simp only [smF, Nat.add_sub_cancel, Nat.sub_self]
    rw [e, smF_congr (f := fun k => f (n - k)) (g := fun k => f (n - 1 - k + 1)) (fun k hk => by rw [show n - 1 - k + 1 = n - k by omega])]
    omega
theorem tlyS_sm (s w : List Int) (c : Int) : ∀ i, tlyS s w i c = smF (fun k => if s.getD k 0 = c then w.getD k 0 else 0) i
  | 0 => rfl
  | i + 1 => by simp only [tlyS, smF]; rw [tlyS_sm s w c i]
def rvI (l : List Int) (i : Nat) : List Int := (List.range i).map fun k => l.getD (l.length - 1 - k) 0
theorem rvI_len (l : List Int) (i : Nat) : (rvI l i).length = i := by simp [rvI]
theorem rvI_succ (l : List Int) (i : Nat) : rvI l (i + 1) = rvI l i ++ [l.getD (l.length - 1 - i) 0] := by
  unfold rvI
  rw [List.range_succ, List.map_append]
  rfl
theorem rvI_at {l : List Int} {i k : Nat} (h : k < i) : (rvI l i).getD k 0 = l.getD (l.length - 1 - k) 0 := by
  unfold rvI
  simp [List.getD, h]
theorem app_at {l m : List Int} {k : Nat} (h : k < l.length) : (l ++ m).getD k 0 = l.getD k 0 := by rw [getD_app, if_pos h]
theorem app_end {l : List Int} {x : Int} : (l ++ [x]).getD l.length 0 = x := by rw [getD_app, if_neg (by omega)]; simp
theorem rv_sum (s w : List Int) (h : s.length = w.length) (a b : List Int) (c : Int) : tlyS (rvI s s.length ++ a) (rvI w s.length ++ b) s.length c = tlyS s w s.length c := by
  rw [tlyS_sm, tlyS_sm, ← smF_rev s.length (fun k => if s.getD k 0 = c then w.getD k 0 else 0)]
  refine smF_congr (fun k hk => ?_)
  rw [app_at (by rw [rvI_len]; exact hk), app_at (by rw [rvI_len]; exact hk), rvI_at hk, rvI_at hk, ← h]
theorem tly_cond {n : Int} {s w : List Int} (h : (tly n s w).length ≠ 0) : (1 ≤ n ∧ n ≤ 3) ∧ s.length = w.length ∧ s.length ≤ 64 ∧ ∀ j, j < s.length → vOk n s w j := by
  unfold tly at h
  split at h
  · assumption
  · exact absurd rfl h
theorem tly_rv {n : Int} {s w : List Int} (h : (tly n s w).length ≠ 0) : (tly n s w).length = n.toNat ∧ tly n (rvI s s.length) (rvI w s.length) = tly n s w ∧ (s.length < 64 → tly n (rvI s s.length ++ [-1]) (rvI w s.length ++ [1000]) = tly n s w) := by
  have hc := tly_cond h
  have e0 : tly n s w = (List.range n.toNat).map (fun (c : Nat) => tlyS s w s.length c) := if_pos hc
  obtain ⟨h1, h2, h3, h4⟩ := hc
  have hv : ∀ j, j < s.length → vOk n (rvI s s.length) (rvI w s.length) j := fun j hj => by
    unfold vOk
    rw [rvI_at hj, rvI_at hj, ← h2]
    exact h4 (s.length - 1 - j) (by omega)
  refine ⟨by rw [e0]; simp, ?_, fun h5 => ?_⟩
  · have e1 : tly n (rvI s s.length) (rvI w s.length) = (List.range n.toNat).map (fun (c : Nat) => tlyS (rvI s s.length) (rvI w s.length) (rvI s s.length).length c) := if_pos ⟨h1, by rw [rvI_len, rvI_len], by rw [rvI_len]; exact h3, fun j hj => hv j (by rwa [rvI_len] at hj)⟩
    rw [e0, e1]
    refine List.map_congr_left (fun c _ => ?_)
    rw [rvI_len]
    have := rv_sum s w h2 [] [] c
    simpa using this
  · have hl : (rvI s s.length ++ [-1]).length = s.length + 1 := by simp [rvI_len]
    have hl2 : (rvI w s.length ++ [1000]).length = s.length + 1 := by simp [rvI_len]
    have hs : (rvI s s.length ++ [-1]).getD s.length 0 = -1 := by
      have := app_end (l := rvI s s.length) (x := -1)
      rwa [rvI_len] at this
    have hw : (rvI w s.length ++ [1000]).getD s.length 0 = 1000 := by
      have := app_end (l := rvI w s.length) (x := 1000)
      rwa [rvI_len] at this
    have e1 : tly n (rvI s s.length ++ [-1]) (rvI w s.length ++ [1000]) = (List.range n.toNat).map (fun (c : Nat) => tlyS (rvI s s.length ++ [-1]) (rvI w s.length ++ [1000]) (rvI s s.length ++ [-1]).length c) := if_pos ⟨h1, by rw [hl, hl2], by rw [hl]; omega, fun j hj => by
      rw [hl] at hj
      by_cases e : j < s.length
      · have := hv j e
        unfold vOk at this ⊢
        rw [app_at (by rw [rvI_len]; exact e), app_at (by rw [rvI_len]; exact e)]
        exact this
      · obtain rfl : j = s.length := by omega
        unfold vOk
        rw [hs, hw]
        omega⟩
    rw [e0, e1]
    refine List.map_congr_left (fun c _ => ?_)
    rw [hl]
    simp only [tlyS]
    rw [rv_sum s w h2 [-1] [1000] c, hs, if_neg (by omega)]
    omega
theorem rvI_ok {A : Nat} {l : List Int} (h : okI A l) {i : Nat} (hi : i ≤ l.length) (hA : A ≤ 2 ^ 40) : okI A (rvI l i) := by
  refine ⟨by rw [rvI_len]; have := h.1; omega, fun x hx => ?_⟩
  unfold rvI at hx
  simp only [List.mem_map, List.mem_range] at hx
  obtain ⟨k, hk, rfl⟩ := hx
  by_cases e : l.length - 1 - k < l.length
  · exact h.2 _ (getD_mem' e)
  · omega
theorem appRv {l : List Int} {i : Nat} {x : Int} {nl : Option Bool} (hx : x = l.getD (l.length - 1 - i) 0) : ALe (.sl true nl 1 (i + 1) (apF i (fI (rvI l i)) (rowsF [[.int .i64 x]]))) (.sl true none 1 (i + 1) (fI (rvI l (i + 1)))) := by
  have h := appIntD (row := rvI l i) (x := x) (nl := nl) (n := i + 1) (by rw [rvI_len])
  rw [hx, ← rvI_succ, rvI_len, rvI_len] at h
  rw [hx]; exact h
end Go.AM
