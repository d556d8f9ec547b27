/- Lemmas for the proof of this claim. -/
import Derived.Test.YteggckdmicnijaaGreatSub
import Derived.Test.YteggckdmicnijaaGreatTNw
import Derived.Test.YteggckdmicnijaaGreatCnf
import Derived.Test.YteggckdmicnijaaGreatData
namespace Go.AM
open Go Go.Proofs
set_option maxRecDepth 100000
def tapeOk (x : DTape) : Prop := x.bytes.length ≤ 600 ∧ 0 ≤ x.at_ ∧ x.at_ ≤ x.bytes.length
instance (x : DTape) : Decidable (tapeOk x) := by unfold tapeOk; infer_instance
def tapeLeft (x : DTape) : Int := if tapeOk x then (x.bytes.length : Int) - x.at_ else 0
def tapeVal (x : DTape) : Int := 256 * ((x.bytes.getD x.at_.toNat 0).toNat : Int) + ((x.bytes.getD (x.at_.toNat + 1) 0).toNat : Int)
def tapeNext (x : DTape) : DTape := ⟨x.bytes, x.at_ + 2⟩
theorem byte_rng (b : UInt8) : 0 ≤ (b.toNat : Int) ∧ (b.toNat : Int) ≤ 255 := by have := b.toNat_lt; omega
theorem tapeVal_rng (x : DTape) : 0 ≤ tapeVal x ∧ tapeVal x ≤ 65535 := by
  have h1 := byte_rng (x.bytes.getD x.at_.toNat 0)
  have h2 := byte_rng (x.bytes.getD (x.at_.toNat + 1) 0)
  unfold tapeVal
  omega
theorem tapeLeft_rng {x : DTape} : 0 ≤ tapeLeft x ∧ tapeLeft x ≤ 600 := by
  by_cases h : tapeOk x
  · have e : tapeLeft x = (x.bytes.length : Int) - x.at_ := if_pos h
    unfold tapeOk at h
    omega
  · have e : tapeLeft x = 0 := if_neg h
    omega
theorem tapeLeft_two {x : DTape} (h : 2 ≤ tapeLeft x) : x.bytes.length ≤ 600 ∧ 0 ≤ x.at_ ∧ x.at_ + 2 ≤ x.bytes.length := by
  by_cases h2 : tapeOk x
  · have e : tapeLeft x = (x.bytes.length : Int) - x.at_ := if_pos h2
    unfold tapeOk at h2
    omega
  · have e : tapeLeft x = 0 := if_neg h2
    omega
def tkOk (x : DTape) : Bool := decide (2 ≤ tapeLeft x)
def tkT (x : DTape) : DTape := bif tkOk x then tapeNext x else x
def tkV (x : DTape) : Int := bif tkOk x then tapeVal x else 0
def takeOk (x : DTape) (n : Int) : Bool := decide (1 ≤ n ∧ n ≤ 65536) && tkOk x
def takeT (x : DTape) (n : Int) : DTape := bif takeOk x n then tapeNext x else x
def takeV (x : DTape) (n : Int) : Int := bif takeOk x n then (tapeVal x).tmod n else 0
theorem tkV_rng (x : DTape) : 0 ≤ tkV x ∧ tkV x ≤ 65535 := by
  unfold tkV
  cases tkOk x with
  | false => show (0 : Int) ≤ 0 ∧ (0 : Int) ≤ 65535; decide
  | true => exact tapeVal_rng x
theorem tmod_rng {a n : Int} (ha : 0 ≤ a) (hn : 1 ≤ n) : 0 ≤ a.tmod n ∧ a.tmod n < n := ⟨Int.tmod_nonneg _ ha, Int.tmod_lt_of_pos _ (by omega)⟩
theorem takeV_rng {x : DTape} {n : Int} (h : takeOk x n = true) : 0 ≤ takeV x n ∧ takeV x n ≤ n - 1 := by
  have h1 := h
  unfold takeOk at h1
  rw [Bool.and_eq_true] at h1
  have hn := of_decide_eq_true h1.1
  have := tmod_rng (tapeVal_rng x).1 hn.1
  unfold takeV
  rw [h]
  show 0 ≤ (tapeVal x).tmod n ∧ (tapeVal x).tmod n ≤ n - 1
  omega
theorem takeV_bd (x : DTape) (n : Int) : 0 ≤ takeV x n ∧ takeV x n ≤ 65535 := by
  cases h : takeOk x n with
  | false => unfold takeV; rw [h]; show (0 : Int) ≤ 0 ∧ (0 : Int) ≤ 65535; decide
  | true =>
    have h1 := takeV_rng h
    unfold takeOk at h
    rw [Bool.and_eq_true] at h
    have hn := of_decide_eq_true h.1
    omega
theorem tkOk_two {x : DTape} (h : tkOk x = true) : x.bytes.length ≤ 600 ∧ 0 ≤ x.at_ ∧ x.at_ + 2 ≤ x.bytes.length := tapeLeft_two (of_decide_eq_true h)
theorem takeT_ok {B : Nat} {x : DTape} {n : Int} (h : okTape B x) : okTape B (takeT x n) := by
  unfold takeT
  cases e : takeOk x n with
  | false => exact h
  | true =>
    unfold takeOk at e
    rw [Bool.and_eq_true] at e
    have := tkOk_two e.2
    exact ⟨h.1, inK_bd (by show _ ≤ x.at_ + 2 ∧ x.at_ + 2 ≤ _; omega)⟩
theorem takeT_bytes (x : DTape) (n : Int) : (takeT x n).bytes = x.bytes := by
  unfold takeT
  cases takeOk x n with
  | false => rfl
  | true => rfl
theorem take_one {x : DTape} {n : Int} (h : 1 ≤ n ∧ n ≤ 65536) : takeOk x n = tkOk x := by
  unfold takeOk
  rw [decide_eq_true h, Bool.true_and]
theorem take_no {x : DTape} {n : Int} (h : ¬ (1 ≤ n ∧ n ≤ 65536)) : takeOk x n = false := by
  unfold takeOk
  rw [decide_eq_false h, Bool.false_and]
theorem take_no2 {x : DTape} {n : Int} (h : tkOk x = false) : takeOk x n = false := by
  unfold takeOk
  rw [h, Bool.and_false]
theorem takeT_no {x : DTape} {n : Int} (h : takeOk x n = false) : takeT x n = x := by unfold takeT; rw [h]; rfl
theorem takeV_no {x : DTape} {n : Int} (h : takeOk x n = false) : takeV x n = 0 := by unfold takeV; rw [h]; rfl
theorem takeT_yes {x : DTape} {n : Int} (h : takeOk x n = true) : takeT x n = tapeNext x := by unfold takeT; rw [h]; rfl
theorem takeV_yes {x : DTape} {n : Int} (h : takeOk x n = true) : takeV x n = (tapeVal x).tmod n := by unfold takeV; rw [h]; rfl
theorem tkT_no {x : DTape} (h : tkOk x = false) : tkT x = x := by unfold tkT; rw [h]; rfl
theorem tkV_no {x : DTape} (h : tkOk x = false) : tkV x = 0 := by unfold tkV; rw [h]; rfl
theorem tkT_yes {x : DTape} (h : tkOk x = true) : tkT x = tapeNext x := by unfold tkT; rw [h]; rfl
theorem tkV_yes {x : DTape} (h : tkOk x = true) : tkV x = tapeVal x := by unfold tkV; rw [h]; rfl
theorem roB {l : List UInt8} {nl : Option Bool} {g : Nat → Nat → AV} : ALe (.sl true nl 1 l.length (apF 0 g fun i j => (fB l i j).ro)) (.sl true none 1 l.length (fB l)) := by
  refine ALe.of (.inl rfl) rfl (fun a ha j hj => ?_)
  obtain rfl : j = 0 := by omega
  exact .refl _
def ssOf (x : DTape) (n p : Int) : List Int := bif takeOk x (binI n p) then subsetAt n p (takeV x (binI n p)) else []
def rootN (c : DConf) : Int := binI c.schema.attrs.length c.pick
def rootTree (c : DConf) (x : DTape) : DTree := bif takeOk x (rootN c) then treeNew c.schema (ssOf x c.schema.attrs.length c.pick) else ⟨[], 0⟩
def memOf (t : DTree) : DMember := ⟨t, false, ⟨[], 0⟩, ⟨[], []⟩⟩
def memNew (c : DConf) (x : DTape) : DMember := if confOk c then memOf (rootTree c x) else memOf ⟨[], 0⟩
def memTape (c : DConf) (x : DTape) : DTape := if confOk c then takeT x (rootN c) else x
def memYes (c : DConf) (x : DTape) : Bool := decide (confOk c) && takeOk x (rootN c)
set_option maxHeartbeats 4000000 in
theorem cloneB (l : List UInt8) (u : Bool) (hl : l.length ≤ 2 ^ 43) : ACalls Tryz.prog 144 [.one (.sl u none 1 l.length (fB l))] (fun r => r = .val (.one (aB true l))) := by
  refine ACalls.nl1 (fun h0 => ?_) ?_
  · have nt : Tryz.f144.ntmps = 8 := rfl
    have rs : Tryz.f144.results = #[.tmp 2] := rfl
    refine ACalls.of_run (m := 400) mixed Tryz.func144 rfl rfl (Nat.le_of_ble_eq_true rfl) ?_
    simp only [nt, rs]
    clear nt rs
    (try refine am (h := ?_)); (try with_reducible apply True.intro)
    refine FinK.val1 ?_ ?_
    all_goals (try refine amF (h := ?_))
    all_goals (try with_reducible apply True.intro)
    rw [h0]
    exact ALe.nil _ _ _ _ _
  · have nt : Tryz.f144.ntmps = 8 := rfl
    have rs : Tryz.f144.results = #[.tmp 2] := rfl
    refine ACalls.of_run (m := 400) mixed Tryz.func144 rfl rfl (Nat.le_of_ble_eq_true rfl) ?_
    simp only [nt, rs]
    clear nt rs
    (try refine am (h := ?_)); (try with_reducible apply True.intro)
    repeat' (first | (with_reducible refine And.intro ?_ ?_) | (with_reducible intro _))
    all_goals try (first | omega | with_reducible rfl | ((with_reducible refine eqId ?_); exact rfl) | with_reducible (first | assumption | exact pl ‹_› | exact pr ‹_› | exact plr ‹_› | exact pll ‹_› | exact prl ‹_› | exact plll ‹_› | exact prll ‹_›))
    refine FinK.val1 ?_ ?_
    all_goals (try refine amF (h := ?_))
    all_goals (try with_reducible apply True.intro)
    refine ALe.of (.inl rfl) (by omega) (fun i hi j hj => ?_)
    obtain rfl : j = 0 := by omega
    simp only [apF, Nat.not_lt_zero, if_false, Nat.sub_zero]
    exact .refl _
set_option maxHeartbeats 4000000 in
theorem cloneTapeI (x : DTape) (u v : Bool) (h : okTape (2 ^ 40) x) : ACalls Tryz.prog 66 [.agg (cTape u v x)] (fun r => r = .val (.agg (cTape true true x))) := by
  have hl := h.1
  have nt : Tryz.f66.ntmps = 9 := rfl
  have rs : Tryz.f66.results = #[.cell 2 45] := rfl
  refine ACalls.of_run (m := 400) mixed Tryz.func66 rfl rfl (Nat.le_of_ble_eq_true rfl) ?_
  simp only [nt, rs]
  clear nt rs
  (try refine am (h := ?_)); (try with_reducible apply True.intro)
  repeat' (first | (with_reducible refine And.intro ?_ ?_) | (with_reducible intro _))
  all_goals try (first | omega | with_reducible rfl | ((with_reducible refine eqId ?_); exact rfl) | with_reducible (first | assumption | exact pl ‹_› | exact pr ‹_› | exact plr ‹_› | exact pll ‹_› | exact prl ‹_› | exact plll ‹_› | exact prll ‹_›))
  refine CallE.one (cloneB x.bytes _ (by omega)) (fun _ => amC) rfl ?_
  (try refine am (h := ?_)); (try with_reducible apply True.intro)
  repeat' (first | (with_reducible refine And.intro ?_ ?_) | (with_reducible intro _))
  all_goals try (first | omega | with_reducible rfl | ((with_reducible refine eqId ?_); exact rfl) | with_reducible (first | assumption | exact pl ‹_› | exact pr ‹_› | exact plr ‹_› | exact pll ‹_› | exact prl ‹_› | exact plll ‹_› | exact prll ‹_›))
  refine FinK.cell1 ?_ ?_ ?_
  all_goals (try refine amF (h := ?_))
  all_goals (try with_reducible apply True.intro)
  all_goals (first | exact .refl _)
set_option maxHeartbeats 4000000 in
theorem l15CopyI (x : DTape) (u v : Bool) (h : okTape (2 ^ 40) x) : ACalls Tryz.prog 61 [.agg (cTape u v x)] (fun r => r = .val (.agg (cTape true true x))) := by
  have hl := h.1
  have nt : Tryz.f61.ntmps = 10 := rfl
  have rs : Tryz.f61.results = #[.cell 2 45] := rfl
  refine ACalls.of_run (m := 400) mixed Tryz.func61 rfl rfl (Nat.le_of_ble_eq_true rfl) ?_
  simp only [nt, rs]
  clear nt rs
  (try refine am (h := ?_)); (try with_reducible apply True.intro)
  repeat' (first | (with_reducible refine And.intro ?_ ?_) | (with_reducible intro _))
  all_goals try (first | omega | with_reducible rfl | ((with_reducible refine eqId ?_); exact rfl) | with_reducible (first | assumption | exact pl ‹_› | exact pr ‹_› | exact plr ‹_› | exact pll ‹_› | exact prl ‹_› | exact plll ‹_› | exact prll ‹_›))
  refine FinK.cell1 ?_ ?_ ?_
  all_goals (try refine amF (h := ?_))
  all_goals (try with_reducible apply True.intro)
  all_goals (first | exact roB)
set_option maxHeartbeats 4000000 in
theorem implTapeOk (x : DTape) (u v : Bool) (h : okTape (2 ^ 40) x) : ACalls Tryz.prog 261 [.agg (cTape u v x)] (fun r => r = .val (.one (.bool (decide (tapeOk x))))) := by
  have hl := h.1
  have nt : Tryz.f261.ntmps = 15 := rfl
  have rs : Tryz.f261.results = #[.tmp 2] := rfl
  refine ACalls.of_run (m := 400) mixed Tryz.func261 rfl rfl (Nat.le_of_ble_eq_true rfl) ?_
  simp only [nt, rs]
  clear nt rs
  (try refine am (h := ?_)); (try with_reducible apply True.intro)
  repeat' (first | (with_reducible refine And.intro ?_ ?_) | (with_reducible intro _))
  all_goals try (first | omega | with_reducible rfl | ((with_reducible refine eqId ?_); exact rfl) | with_reducible (first | assumption | exact pl ‹_› | exact pr ‹_› | exact plr ‹_› | exact pll ‹_› | exact prl ‹_› | exact plll ‹_› | exact prll ‹_›))
  first | refine CallK.one (within x.at_ 0 x.bytes.length) (fun _ => amC) ?_ | refine CallE.one (within x.at_ 0 x.bytes.length) (fun _ => amC) rfl ?_ | refine CallG.one rfl (fun hg => within x.at_ 0 x.bytes.length) ?_ | refine CallEG.one rfl rfl (fun hg => within x.at_ 0 x.bytes.length) ?_
  (try refine am (h := ?_)); (try with_reducible apply True.intro)
  repeat' (first | (with_reducible refine And.intro ?_ ?_) | (with_reducible intro _))
  all_goals try (first | omega | with_reducible rfl | ((with_reducible refine eqId ?_); exact rfl) | with_reducible (first | assumption | exact pl ‹_› | exact pr ‹_› | exact plr ‹_› | exact pll ‹_› | exact prl ‹_› | exact plll ‹_› | exact prll ‹_›))
  refine FinK.val1 ?_ ?_
  all_goals (try refine amF (h := ?_))
  all_goals (try with_reducible apply True.intro)
  refine decide_eq_decide.2 ?_
  unfold tapeOk
  exact ⟨fun e => by omega, fun e => by omega⟩
set_option maxHeartbeats 4000000 in
theorem implTapeLeft (x : DTape) (u v : Bool) (h : okTape (2 ^ 40) x) : ACalls Tryz.prog 256 [.agg (cTape u v x)] (fun r => r = .val (.one (.int .i64 (tapeLeft x)))) := by
  have hl := h.1
  have nt : Tryz.f256.ntmps = 12 := rfl
  have rs : Tryz.f256.results = #[.tmp 2] := rfl
  refine ACalls.of_run (m := 400) mixed Tryz.func256 rfl rfl (Nat.le_of_ble_eq_true rfl) ?_
  simp only [nt, rs]
  clear nt rs
  (try refine am (h := ?_)); (try with_reducible apply True.intro)
  first | refine CallK.one (implTapeOk x _ false h) (fun _ => amC) ?_ | refine CallE.one (implTapeOk x _ false h) (fun _ => amC) rfl ?_ | refine CallG.one rfl (fun hg => implTapeOk x _ false h) ?_ | refine CallEG.one rfl rfl (fun hg => implTapeOk x _ false h) ?_
  (try refine am (h := ?_)); (try with_reducible apply True.intro)
  refine ⟨fun hs => ?_, fun hs => ?_⟩
  · have e : tapeLeft x = 0 := if_neg hs
    rw [e]
    repeat' (first | (with_reducible refine And.intro ?_ ?_) | (with_reducible intro _))
    all_goals try (first | omega | with_reducible rfl | ((with_reducible refine eqId ?_); exact rfl) | with_reducible (first | assumption | exact pl ‹_› | exact pr ‹_› | exact plr ‹_› | exact pll ‹_› | exact prl ‹_› | exact plll ‹_› | exact prll ‹_›))
    refine FinK.val1 ?_ ?_
    all_goals (try refine amF (h := ?_))
    all_goals (try with_reducible apply True.intro)
  have e : tapeLeft x = (x.bytes.length : Int) - x.at_ := if_pos hs
  have hs2 := hs
  unfold tapeOk at hs2
  rw [e]
  repeat' (first | (with_reducible refine And.intro ?_ ?_) | (with_reducible intro _))
  all_goals try (first | omega | with_reducible rfl | ((with_reducible refine eqId ?_); exact rfl) | with_reducible (first | assumption | exact pl ‹_› | exact pr ‹_› | exact plr ‹_› | exact pll ‹_› | exact prl ‹_› | exact plll ‹_› | exact prll ‹_›))
  refine FinK.val1 ?_ ?_
  all_goals (try refine amF (h := ?_))
  all_goals (try with_reducible apply True.intro)
set_option maxHeartbeats 4000000 in
theorem implTake (x : DTape) (u v : Bool) (h : okTape (2 ^ 40) x) : ACalls Tryz.prog 237 [.agg (cTape u v x)] (fun r => r = .tup [.agg (cTape true true (tkT x)), .one (.int .i64 (tkV x)), .one (.bool (tkOk x))]) := by
  have hl := h.1
  have hlr := tapeLeft_rng (x := x)
  have nt : Tryz.f237.ntmps = 34 := rfl
  have rs : Tryz.f237.results = #[.cell 2 45, .tmp 3, .tmp 4] := rfl
  refine ACalls.of_run (m := 400) mixed Tryz.func237 rfl rfl (Nat.le_of_ble_eq_true rfl) ?_
  simp only [nt, rs]
  clear nt rs
  (try refine am (h := ?_)); (try with_reducible apply True.intro)
  first | refine CallK.one (cloneTapeI x _ false h) (fun _ => amC) ?_ | refine CallE.one (cloneTapeI x _ false h) (fun _ => amC) rfl ?_ | refine CallG.one rfl (fun hg => cloneTapeI x _ false h) ?_ | refine CallEG.one rfl rfl (fun hg => cloneTapeI x _ false h) ?_
  (try refine am (h := ?_)); (try with_reducible apply True.intro)
  repeat' (first | (with_reducible refine And.intro ?_ ?_) | (with_reducible intro _))
  all_goals try (first | omega | with_reducible rfl | ((with_reducible refine eqId ?_); exact rfl) | with_reducible (first | assumption | exact pl ‹_› | exact pr ‹_› | exact plr ‹_› | exact pll ‹_› | exact prl ‹_› | exact plll ‹_› | exact prll ‹_›))
  first | refine CallK.one (implTapeLeft x _ false h) (fun _ => amC) ?_ | refine CallE.one (implTapeLeft x _ false h) (fun _ => amC) rfl ?_ | refine CallG.one rfl (fun hg => implTapeLeft x _ false h) ?_ | refine CallEG.one rfl rfl (fun hg => implTapeLeft x _ false h) ?_
  (try refine am (h := ?_)); (try with_reducible apply True.intro)
  refine ⟨fun hneg => ?_, fun hpos => ?_⟩
  · have e : tkOk x = false := decide_eq_false (by omega)
    rw [tkT_no e, tkV_no e, e]
    repeat' (first | (with_reducible refine And.intro ?_ ?_) | (with_reducible intro _))
    all_goals try (first | omega | with_reducible rfl | ((with_reducible refine eqId ?_); exact rfl) | with_reducible (first | assumption | exact pl ‹_› | exact pr ‹_› | exact plr ‹_› | exact pll ‹_› | exact prl ‹_› | exact plll ‹_› | exact prll ‹_›))
    refine FinK.tup ?_ ?_
    all_goals (try refine amF (h := ?_))
    all_goals (try with_reducible apply True.intro)
    all_goals (first | exact .refl _)
  have e : tkOk x = true := decide_eq_true (by omega)
  have h2 := tkOk_two e
  have h3 := byte_rng (x.bytes.getD x.at_.toNat 0)
  have h4 := byte_rng (x.bytes.getD (x.at_.toNat + 1) 0)
  have ea : (x.at_ + 1).toNat = x.at_.toNat + 1 := by omega
  have w1 : IntKind.i64.wrap ((x.bytes.getD x.at_.toNat 0).toNat : Int) = ((x.bytes.getD x.at_.toNat 0).toNat : Int) := wrap_inK (inK_bd (by omega))
  have w2 : IntKind.i64.wrap ((x.bytes.getD (x.at_.toNat + 1) 0).toNat : Int) = ((x.bytes.getD (x.at_.toNat + 1) 0).toNat : Int) := wrap_inK (inK_bd (by omega))
  rw [tkT_yes e, tkV_yes e, e]
  (try refine am (e := by simp (maxSteps := 10000000) (maxDischargeDepth := 4) only [Int.reduceNeg, ea, w1, w2]; exact rfl) (h := ?_)); (try with_reducible apply True.intro)
  repeat' (first | (with_reducible refine And.intro ?_ ?_) | (with_reducible intro _))
  all_goals try (first | omega | with_reducible rfl | ((with_reducible refine eqId ?_); exact rfl) | with_reducible (first | assumption | exact pl ‹_› | exact pr ‹_› | exact plr ‹_› | exact pll ‹_› | exact prl ‹_› | exact plll ‹_› | exact prll ‹_›))
  refine FinK.tup ?_ ?_
  all_goals (try refine amF (h := ?_))
  all_goals (try with_reducible apply True.intro)
  refine ⟨⟨.refl _, rfl⟩, ?_⟩
  unfold tapeVal
  omega
set_option maxHeartbeats 4000000 in
theorem implTakeBelow (x : DTape) (n : Int) (u v : Bool) (h : okTape (2 ^ 40) x) (hn : inK .i64 n) : ACalls Tryz.prog 202 [.agg (cTape u v x), .one (.int .i64 n)] (fun r => r = .tup [.agg (cTape true true (takeT x n)), .one (.int .i64 (takeV x n)), .one (.bool (takeOk x n))]) := by
  have hnn : -9223372036854775808 ≤ n ∧ n ≤ 9223372036854775807 := hn
  have hb := tkV_rng x
  have nt : Tryz.f202.ntmps = 26 := rfl
  have rs : Tryz.f202.results = #[.cell 4 45, .tmp 5, .tmp 6] := rfl
  refine ACalls.of_run (m := 400) mixed Tryz.func202 rfl rfl (Nat.le_of_ble_eq_true rfl) ?_
  simp only [nt, rs]
  clear nt rs
  (try refine am (h := ?_)); (try with_reducible apply True.intro)
  first | refine CallK.one (within n 1 65536) (fun _ => amC) ?_ | refine CallE.one (within n 1 65536) (fun _ => amC) rfl ?_ | refine CallG.one rfl (fun hg => within n 1 65536) ?_ | refine CallEG.one rfl rfl (fun hg => within n 1 65536) ?_
  (try refine am (h := ?_)); (try with_reducible apply True.intro)
  refine ⟨fun hc => ?_, fun hc => ?_⟩
  · have e : takeOk x n = false := take_no hc
    rw [takeT_no e, takeV_no e, e]
    repeat' (first | (with_reducible refine And.intro ?_ ?_) | (with_reducible intro _))
    all_goals try (first | omega | with_reducible rfl | ((with_reducible refine eqId ?_); exact rfl) | with_reducible (first | assumption | exact pl ‹_› | exact pr ‹_› | exact plr ‹_› | exact pll ‹_› | exact prl ‹_› | exact plll ‹_› | exact prll ‹_›))
    first | refine CallK.one (cloneTapeI x _ false h) (fun _ => amC) ?_ | refine CallE.one (cloneTapeI x _ false h) (fun _ => amC) rfl ?_ | refine CallG.one rfl (fun hg => cloneTapeI x _ false h) ?_ | refine CallEG.one rfl rfl (fun hg => cloneTapeI x _ false h) ?_
    (try refine am (h := ?_)); (try with_reducible apply True.intro)
    repeat' (first | (with_reducible refine And.intro ?_ ?_) | (with_reducible intro _))
    all_goals try (first | omega | with_reducible rfl | ((with_reducible refine eqId ?_); exact rfl) | with_reducible (first | assumption | exact pl ‹_› | exact pr ‹_› | exact plr ‹_› | exact pll ‹_› | exact prl ‹_› | exact plll ‹_› | exact prll ‹_›))
    refine FinK.tup ?_ ?_
    all_goals (try refine amF (h := ?_))
    all_goals (try with_reducible apply True.intro)
    all_goals (first | exact .refl _)
  have e : takeOk x n = tkOk x := take_one hc
  have ht := tmod_rng hb.1 hc.1
  repeat' (first | (with_reducible refine And.intro ?_ ?_) | (with_reducible intro _))
  all_goals try (first | omega | with_reducible rfl | ((with_reducible refine eqId ?_); exact rfl) | with_reducible (first | assumption | exact pl ‹_› | exact pr ‹_› | exact plr ‹_› | exact pll ‹_› | exact prl ‹_› | exact plll ‹_› | exact prll ‹_›))
  first | refine CallK.one (implTake x _ false h) (fun _ => amC) ?_ | refine CallE.one (implTake x _ false h) (fun _ => amC) rfl ?_ | refine CallG.one rfl (fun hg => implTake x _ false h) ?_ | refine CallEG.one rfl rfl (fun hg => implTake x _ false h) ?_
  (try refine am (h := ?_)); (try with_reducible apply True.intro)
  repeat' (first | (with_reducible refine And.intro ?_ ?_) | (with_reducible intro _))
  all_goals try (first | omega | with_reducible rfl | ((with_reducible refine eqId ?_); exact rfl) | with_reducible (first | assumption | exact pl ‹_› | exact pr ‹_› | exact plr ‹_› | exact pll ‹_› | exact prl ‹_› | exact plll ‹_› | exact prll ‹_›))
  refine FinK.tup ?_ ?_
  all_goals (try refine amF (h := ?_))
  all_goals (try with_reducible apply True.intro)
  cases hk : tkOk x with
  | false =>
    have e2 := take_no2 (n := n) hk
    rw [takeT_no e2, takeV_no e2, tkT_no hk, tkV_no hk, e2, Int.zero_tmod]
    exact ⟨⟨.refl _, rfl⟩, rfl, rfl⟩
  | true =>
    have e2 := e.trans hk
    rw [takeT_yes e2, takeV_yes e2, tkT_yes hk, tkV_yes hk, e2]
    exact ⟨⟨.refl _, rfl⟩, rfl, rfl⟩
set_option maxHeartbeats 4000000 in
theorem implTakeSubset (x : DTape) (n p : Int) (u v : Bool) (h : okTape (2 ^ 40) x) (hn : 0 ≤ n ∧ n ≤ 5) (hk : 0 ≤ p ∧ p ≤ n) : ACalls Tryz.prog 145 [.agg (cTape u v x), .one (.int .i64 n), .one (.int .i64 p)] (fun r => r = .tup [.agg (cTape true true (takeT x (binI n p))), .one (aI true (ssOf x n p)), .one (.bool (takeOk x (binI n p)))]) := by
  have hb := binI_rng' hn hk
  have hv := takeV_bd x (binI n p)
  have nt : Tryz.f145.ntmps = 29 := rfl
  have rs : Tryz.f145.results = #[.cell 6 45, .tmp 7, .tmp 8] := rfl
  refine ACalls.of_run (m := 400) mixed Tryz.func145 rfl rfl (Nat.le_of_ble_eq_true rfl) ?_
  simp only [nt, rs]
  clear nt rs
  (try refine am (h := ?_)); (try with_reducible apply True.intro)
  repeat' (first | (with_reducible refine And.intro ?_ ?_) | (with_reducible intro _))
  all_goals try (first | omega | with_reducible rfl | ((with_reducible refine eqId ?_); exact rfl) | with_reducible (first | assumption | exact pl ‹_› | exact pr ‹_› | exact plr ‹_› | exact pll ‹_› | exact prl ‹_› | exact plll ‹_› | exact prll ‹_›))
  refine CallE.one (implBinomial n p hn hk) (fun _ => amC) rfl ?_
  (try refine am (h := ?_)); (try with_reducible apply True.intro)
  repeat' (first | (with_reducible refine And.intro ?_ ?_) | (with_reducible intro _))
  all_goals try (first | omega | with_reducible rfl | ((with_reducible refine eqId ?_); exact rfl) | with_reducible (first | assumption | exact pl ‹_› | exact pr ‹_› | exact plr ‹_› | exact pll ‹_› | exact prl ‹_› | exact plll ‹_› | exact prll ‹_›))
  refine CallE.one (implTakeBelow x (binI n p) _ false h (inK_bd (by omega))) (fun _ => amC) rfl ?_
  (try refine am (h := ?_)); (try with_reducible apply True.intro)
  repeat' (first | (with_reducible refine And.intro ?_ ?_) | (with_reducible intro _))
  all_goals try (first | omega | with_reducible rfl | ((with_reducible refine eqId ?_); exact rfl) | with_reducible (first | assumption | exact pl ‹_› | exact pr ‹_› | exact plr ‹_› | exact pll ‹_› | exact prl ‹_› | exact plll ‹_› | exact prll ‹_›))
  · rename_i hc
    have e : ssOf x n p = [] := by unfold ssOf; rw [hc]; rfl
    have e2 := takeT_no hc
    rw [e, hc]
    repeat' (first | (with_reducible refine And.intro ?_ ?_) | (with_reducible intro _))
    all_goals try (first | omega | with_reducible rfl | ((with_reducible refine eqId ?_); exact rfl) | with_reducible (first | assumption | exact pl ‹_› | exact pr ‹_› | exact plr ‹_› | exact pll ‹_› | exact prl ‹_› | exact plll ‹_› | exact prll ‹_›))
    refine FinK.tup ?_ ?_
    all_goals (try refine amF (h := ?_))
    all_goals (try with_reducible apply True.intro)
    all_goals (first | exact .refl _ | exact .nil _ _ _ _ _ | exact ALe.of (.inl rfl) rfl (fun i hi => absurd hi (Nat.not_lt_zero _)))
  rename_i hc
  have e : ssOf x n p = subsetAt n p (takeV x (binI n p)) := by unfold ssOf; rw [hc]; rfl
  rw [e, hc]
  repeat' (first | (with_reducible refine And.intro ?_ ?_) | (with_reducible intro _))
  all_goals try (first | omega | with_reducible rfl | ((with_reducible refine eqId ?_); exact rfl) | with_reducible (first | assumption | exact pl ‹_› | exact pr ‹_› | exact plr ‹_› | exact pll ‹_› | exact prl ‹_› | exact plll ‹_› | exact prll ‹_›))
  first | refine CallK.one (implSubsetAt n p (takeV x (binI n p)) hn hk (inK_bd (by omega))) (fun _ => amC) ?_ | refine CallE.one (implSubsetAt n p (takeV x (binI n p)) hn hk (inK_bd (by omega))) (fun _ => amC) rfl ?_ | refine CallG.one rfl (fun hg => implSubsetAt n p (takeV x (binI n p)) hn hk (inK_bd (by omega))) ?_ | refine CallEG.one rfl rfl (fun hg => implSubsetAt n p (takeV x (binI n p)) hn hk (inK_bd (by omega))) ?_
  (try refine am (h := ?_)); (try with_reducible apply True.intro)
  repeat' (first | (with_reducible refine And.intro ?_ ?_) | (with_reducible intro _))
  all_goals try (first | omega | with_reducible rfl | ((with_reducible refine eqId ?_); exact rfl) | with_reducible (first | assumption | exact pl ‹_› | exact pr ‹_› | exact plr ‹_› | exact pll ‹_› | exact prl ‹_› | exact plll ‹_› | exact prll ‹_›))
  refine FinK.tup ?_ ?_
  all_goals (try refine amF (h := ?_))
  all_goals (try with_reducible apply True.intro)
  all_goals (first | exact .refl _)
set_option maxHeartbeats 4000000 in
theorem implRoot (c : DConf) (x : DTape) (u v u' v' : Bool) (hc : okConf (2 ^ 47) c) (h : okTape (2 ^ 40) x) (hk : confOk c) : ACalls Tryz.prog 67 [.agg (cConf u v c), .agg (cTape u' v' x)] (fun r => r = .tup [.agg (cTree true true (rootTree c x)), .agg (cTape true true (takeT x (rootN c))), .one (.bool (takeOk x (rootN c)))]) := by
  have h1 := hk.1.1
  have h2 := hk.2.2.2.1
  have hss := subsetAt_ok (n := c.schema.attrs.length) (k := c.pick) (r := takeV x (rootN c)) (by omega) (by omega)
  have nt : Tryz.f67.ntmps = 32 := rfl
  have rs : Tryz.f67.results = #[.cell 4 37, .cell 5 45, .tmp 6] := rfl
  refine ACalls.of_run (m := 400) mixed Tryz.func67 rfl rfl (Nat.le_of_ble_eq_true rfl) ?_
  simp only [nt, rs]
  clear nt rs
  (try refine am (h := ?_)); (try with_reducible apply True.intro)
  repeat' (first | (with_reducible refine And.intro ?_ ?_) | (with_reducible intro _))
  all_goals try (first | omega | with_reducible rfl | ((with_reducible refine eqId ?_); exact rfl) | with_reducible (first | assumption | exact pl ‹_› | exact pr ‹_› | exact plr ‹_› | exact pll ‹_› | exact prl ‹_› | exact plll ‹_› | exact prll ‹_›))
  first | refine CallK.one (implTakeSubset x c.schema.attrs.length c.pick _ false h (by omega) (by omega)) (fun _ => amC) ?_ | refine CallE.one (implTakeSubset x c.schema.attrs.length c.pick _ false h (by omega) (by omega)) (fun _ => amC) rfl ?_ | refine CallG.one rfl (fun hg => implTakeSubset x c.schema.attrs.length c.pick _ false h (by omega) (by omega)) ?_ | refine CallEG.one rfl rfl (fun hg => implTakeSubset x c.schema.attrs.length c.pick _ false h (by omega) (by omega)) ?_
  (try refine am (h := ?_)); (try with_reducible apply True.intro)
  refine ⟨fun hx => ?_, fun hx => ?_⟩
  · have hx' : takeOk x (rootN c) = false := hx
    have e : rootTree c x = ⟨[], 0⟩ := by unfold rootTree; rw [hx']; rfl
    rw [e, hx', takeT_no hx']
    repeat' (first | (with_reducible refine And.intro ?_ ?_) | (with_reducible intro _))
    all_goals try (first | omega | with_reducible rfl | ((with_reducible refine eqId ?_); exact rfl) | with_reducible (first | assumption | exact pl ‹_› | exact pr ‹_› | exact plr ‹_› | exact pll ‹_› | exact prl ‹_› | exact plll ‹_› | exact prll ‹_›))
    first | refine CallK.one (cloneTapeI x _ false h) (fun _ => amC) ?_ | refine CallE.one (cloneTapeI x _ false h) (fun _ => amC) rfl ?_ | refine CallG.one rfl (fun hg => cloneTapeI x _ false h) ?_ | refine CallEG.one rfl rfl (fun hg => cloneTapeI x _ false h) ?_
    (try refine am (h := ?_)); (try with_reducible apply True.intro)
    repeat' (first | (with_reducible refine And.intro ?_ ?_) | (with_reducible intro _))
    all_goals try (first | omega | with_reducible rfl | ((with_reducible refine eqId ?_); exact rfl) | with_reducible (first | assumption | exact pl ‹_› | exact pr ‹_› | exact plr ‹_› | exact pll ‹_› | exact prl ‹_› | exact plll ‹_› | exact prll ‹_›))
    refine FinK.tup ?_ ?_
    all_goals (try refine amF (h := ?_))
    all_goals (try with_reducible apply True.intro)
    all_goals (first | exact .refl _ | exact .nil _ _ _ _ _ | exact ⟨.nil _ _ _ _ _, .refl _⟩)
  have hx' : takeOk x (rootN c) = true := hx
  have es : ssOf x c.schema.attrs.length c.pick = subsetAt c.schema.attrs.length c.pick (takeV x (rootN c)) := by unfold ssOf; rw [hx]; rfl
  have e : rootTree c x = treeNew c.schema (ssOf x c.schema.attrs.length c.pick) := by unfold rootTree; rw [hx']; rfl
  have hsl : (ssOf x c.schema.attrs.length c.pick).length ≤ 5 := by rw [es]; exact hss.1
  rw [e, hx']
  repeat' (first | (with_reducible refine And.intro ?_ ?_) | (with_reducible intro _))
  all_goals try (first | omega | with_reducible rfl | ((with_reducible refine eqId ?_); exact rfl) | with_reducible (first | assumption | exact pl ‹_› | exact pr ‹_› | exact plr ‹_› | exact pll ‹_› | exact prl ‹_› | exact plll ‹_› | exact prll ‹_›))
  first | refine CallK.one (implTreeNew c.schema (ssOf x c.schema.attrs.length c.pick) _ _ _ hc.1 (by omega)) (fun _ => amC) ?_ | refine CallE.one (implTreeNew c.schema (ssOf x c.schema.attrs.length c.pick) _ _ _ hc.1 (by omega)) (fun _ => amC) rfl ?_ | refine CallG.one rfl (fun hg => implTreeNew c.schema (ssOf x c.schema.attrs.length c.pick) _ _ _ hc.1 (by omega)) ?_ | refine CallEG.one rfl rfl (fun hg => implTreeNew c.schema (ssOf x c.schema.attrs.length c.pick) _ _ _ hc.1 (by omega)) ?_
  (try refine am (h := ?_)); (try with_reducible apply True.intro)
  repeat' (first | (with_reducible refine And.intro ?_ ?_) | (with_reducible intro _))
  all_goals try (first | omega | with_reducible rfl | ((with_reducible refine eqId ?_); exact rfl) | with_reducible (first | assumption | exact pl ‹_› | exact pr ‹_› | exact plr ‹_› | exact pll ‹_› | exact prl ‹_› | exact plll ‹_› | exact prll ‹_›))
  refine FinK.tup ?_ ?_
  all_goals (try refine amF (h := ?_))
  all_goals (try with_reducible apply True.intro)
  all_goals (first | exact .refl _ | exact ⟨.refl _, rfl⟩)
set_option maxHeartbeats 4000000 in
theorem implMemberNew (c : DConf) (x : DTape) (u v u' v' : Bool) (hc : okConf (2 ^ 47) c) (h : okTape (2 ^ 40) x) : ACalls Tryz.prog 14 [.agg (cConf u v c), .agg (cTape u' v' x)] (fun r => r = .tup [.agg (cMember true true (memNew c x)), .agg (cTape true true (memTape c x)), .one (.bool (memYes c x))]) := by
  have nt : Tryz.f14.ntmps = 27 := rfl
  have rs : Tryz.f14.results = #[.cell 4 44, .cell 5 45, .tmp 6] := rfl
  refine ACalls.of_run (m := 400) mixed Tryz.func14 rfl rfl (Nat.le_of_ble_eq_true rfl) ?_
  simp only [nt, rs]
  clear nt rs
  (try refine am (h := ?_)); (try with_reducible apply True.intro)
  first | refine CallK.one (implConfOk c _ _ hc) (fun _ => amC) ?_ | refine CallE.one (implConfOk c _ _ hc) (fun _ => amC) rfl ?_ | refine CallG.one rfl (fun hg => implConfOk c _ _ hc) ?_ | refine CallEG.one rfl rfl (fun hg => implConfOk c _ _ hc) ?_
  (try refine am (h := ?_)); (try with_reducible apply True.intro)
  refine ⟨fun hk => ?_, fun hk => ?_⟩
  · have e1 : memNew c x = memOf ⟨[], 0⟩ := if_neg hk
    have e2 : memTape c x = x := if_neg hk
    have e3 : memYes c x = false := by unfold memYes; rw [decide_eq_false hk, Bool.false_and]
    rw [e1, e2, e3]
    repeat' (first | (with_reducible refine And.intro ?_ ?_) | (with_reducible intro _))
    all_goals try (first | omega | with_reducible rfl | ((with_reducible refine eqId ?_); exact rfl) | with_reducible (first | assumption | exact pl ‹_› | exact pr ‹_› | exact plr ‹_› | exact pll ‹_› | exact prl ‹_› | exact plll ‹_› | exact prll ‹_›))
    first | refine CallK.one (cloneTapeI x _ false h) (fun _ => amC) ?_ | refine CallE.one (cloneTapeI x _ false h) (fun _ => amC) rfl ?_ | refine CallG.one rfl (fun hg => cloneTapeI x _ false h) ?_ | refine CallEG.one rfl rfl (fun hg => cloneTapeI x _ false h) ?_
    (try refine am (h := ?_)); (try with_reducible apply True.intro)
    repeat' (first | (with_reducible refine And.intro ?_ ?_) | (with_reducible intro _))
    all_goals try (first | omega | with_reducible rfl | ((with_reducible refine eqId ?_); exact rfl) | with_reducible (first | assumption | exact pl ‹_› | exact pr ‹_› | exact plr ‹_› | exact pll ‹_› | exact prl ‹_› | exact plll ‹_› | exact prll ‹_›))
    refine FinK.tup ?_ ?_
    all_goals (try refine amF (h := ?_))
    all_goals (try with_reducible apply True.intro)
    all_goals (first | exact ⟨.nil _ _ _ _ _, rfl, rfl, .nil _ _ _ _ _, rfl, .nil _ _ _ _ _, .nil _ _ _ _ _⟩ | exact .refl _ | skip)
  have e1 : memNew c x = memOf (rootTree c x) := if_pos hk
  have e2 : memTape c x = takeT x (rootN c) := if_pos hk
  have e3 : memYes c x = takeOk x (rootN c) := by unfold memYes; rw [decide_eq_true hk, Bool.true_and]
  rw [e1, e2, e3]
  repeat' (first | (with_reducible refine And.intro ?_ ?_) | (with_reducible intro _))
  all_goals try (first | omega | with_reducible rfl | ((with_reducible refine eqId ?_); exact rfl) | with_reducible (first | assumption | exact pl ‹_› | exact pr ‹_› | exact plr ‹_› | exact pll ‹_› | exact prl ‹_› | exact plll ‹_› | exact prll ‹_›))
  first | refine CallK.one (implRoot c x _ _ _ false hc h hk) (fun _ => amC) ?_ | refine CallE.one (implRoot c x _ _ _ false hc h hk) (fun _ => amC) rfl ?_ | refine CallG.one rfl (fun hg => implRoot c x _ _ _ false hc h hk) ?_ | refine CallEG.one rfl rfl (fun hg => implRoot c x _ _ _ false hc h hk) ?_
  (try refine am (h := ?_)); (try with_reducible apply True.intro)
  repeat' (first | (with_reducible refine And.intro ?_ ?_) | (with_reducible intro _))
  all_goals try (first | omega | with_reducible rfl | ((with_reducible refine eqId ?_); exact rfl) | with_reducible (first | assumption | exact pl ‹_› | exact pr ‹_› | exact plr ‹_› | exact pll ‹_› | exact prl ‹_› | exact plll ‹_› | exact prll ‹_›))
  refine FinK.tup ?_ ?_
  all_goals (try refine amF (h := ?_))
  all_goals (try with_reducible apply True.intro)
  exact ⟨.refl _, rfl, rfl, .nil _ _ _ _ _, rfl, .nil _ _ _ _ _, .nil _ _ _ _ _⟩
set_option maxHeartbeats 4000000 in
theorem specTapeOk (x : DTape) (u v : Bool) (h : okTape (2 ^ 40) x) : ACalls Tryz.prog 260 [.agg (cTape u v x)] (fun r => r = .val (.one (.bool (decide (tapeOk x))))) := by
  have hl := h.1
  have nt : Tryz.f260.ntmps = 15 := rfl
  have rs : Tryz.f260.results = #[.tmp 2] := rfl
  refine ACalls.of_run (m := 400) mixed Tryz.func260 rfl rfl (Nat.le_of_ble_eq_true rfl) ?_
  simp only [nt, rs]
  clear nt rs
  (try refine am (h := ?_)); (try with_reducible apply True.intro)
  repeat' (first | (with_reducible refine And.intro ?_ ?_) | (with_reducible intro _))
  all_goals try (first | omega | with_reducible rfl | ((with_reducible refine eqId ?_); exact rfl) | with_reducible (first | assumption | exact pl ‹_› | exact pr ‹_› | exact plr ‹_› | exact pll ‹_› | exact prl ‹_› | exact plll ‹_› | exact prll ‹_›))
  first | refine CallK.one (l1In x.at_ 0 x.bytes.length) (fun _ => amC) ?_ | refine CallE.one (l1In x.at_ 0 x.bytes.length) (fun _ => amC) rfl ?_ | refine CallG.one rfl (fun hg => l1In x.at_ 0 x.bytes.length) ?_ | refine CallEG.one rfl rfl (fun hg => l1In x.at_ 0 x.bytes.length) ?_
  (try refine am (h := ?_)); (try with_reducible apply True.intro)
  repeat' (first | (with_reducible refine And.intro ?_ ?_) | (with_reducible intro _))
  all_goals try (first | omega | with_reducible rfl | ((with_reducible refine eqId ?_); exact rfl) | with_reducible (first | assumption | exact pl ‹_› | exact pr ‹_› | exact plr ‹_› | exact pll ‹_› | exact prl ‹_› | exact plll ‹_› | exact prll ‹_›))
  refine FinK.val1 ?_ ?_
  all_goals (try refine amF (h := ?_))
  all_goals (try with_reducible apply True.intro)
  refine decide_eq_decide.2 ?_
  unfold tapeOk
  exact ⟨fun e => by omega, fun e => by omega⟩
set_option maxHeartbeats 4000000 in
theorem specTapeLeft (x : DTape) (u v : Bool) (h : okTape (2 ^ 40) x) : ACalls Tryz.prog 252 [.agg (cTape u v x)] (fun r => r = .val (.one (.int .i64 (tapeLeft x)))) := by
  have hl := h.1
  have nt : Tryz.f252.ntmps = 12 := rfl
  have rs : Tryz.f252.results = #[.tmp 2] := rfl
  refine ACalls.of_run (m := 400) mixed Tryz.func252 rfl rfl (Nat.le_of_ble_eq_true rfl) ?_
  simp only [nt, rs]
  clear nt rs
  (try refine am (h := ?_)); (try with_reducible apply True.intro)
  first | refine CallK.one (specTapeOk x _ false h) (fun _ => amC) ?_ | refine CallE.one (specTapeOk x _ false h) (fun _ => amC) rfl ?_ | refine CallG.one rfl (fun hg => specTapeOk x _ false h) ?_ | refine CallEG.one rfl rfl (fun hg => specTapeOk x _ false h) ?_
  (try refine am (h := ?_)); (try with_reducible apply True.intro)
  refine ⟨fun hs => ?_, fun hs => ?_⟩
  · have e : tapeLeft x = 0 := if_neg hs
    rw [e]
    repeat' (first | (with_reducible refine And.intro ?_ ?_) | (with_reducible intro _))
    all_goals try (first | omega | with_reducible rfl | ((with_reducible refine eqId ?_); exact rfl) | with_reducible (first | assumption | exact pl ‹_› | exact pr ‹_› | exact plr ‹_› | exact pll ‹_› | exact prl ‹_› | exact plll ‹_› | exact prll ‹_›))
    refine FinK.val1 ?_ ?_
    all_goals (try refine amF (h := ?_))
    all_goals (try with_reducible apply True.intro)
  have e : tapeLeft x = (x.bytes.length : Int) - x.at_ := if_pos hs
  have hs2 := hs
  unfold tapeOk at hs2
  rw [e]
  repeat' (first | (with_reducible refine And.intro ?_ ?_) | (with_reducible intro _))
  all_goals try (first | omega | with_reducible rfl | ((with_reducible refine eqId ?_); exact rfl) | with_reducible (first | assumption | exact pl ‹_› | exact pr ‹_› | exact plr ‹_› | exact pll ‹_› | exact prl ‹_› | exact plll ‹_› | exact prll ‹_›))
  refine FinK.val1 ?_ ?_
  all_goals (try refine amF (h := ?_))
  all_goals (try with_reducible apply True.intro)
set_option maxHeartbeats 4000000 in
theorem specTake (x : DTape) (u v : Bool) (h : okTape (2 ^ 40) x) : ACalls Tryz.prog 233 [.agg (cTape u v x)] (fun r => r = .tup [.agg (cTape true true (tkT x)), .one (.int .i64 (tkV x)), .one (.bool (tkOk x))]) := by
  have hl := h.1
  have hlr := tapeLeft_rng (x := x)
  have nt : Tryz.f233.ntmps = 34 := rfl
  have rs : Tryz.f233.results = #[.cell 2 45, .tmp 3, .tmp 4] := rfl
  refine ACalls.of_run (m := 400) mixed Tryz.func233 rfl rfl (Nat.le_of_ble_eq_true rfl) ?_
  simp only [nt, rs]
  clear nt rs
  (try refine am (h := ?_)); (try with_reducible apply True.intro)
  first | refine CallK.one (l15CopyI x _ false h) (fun _ => amC) ?_ | refine CallE.one (l15CopyI x _ false h) (fun _ => amC) rfl ?_ | refine CallG.one rfl (fun hg => l15CopyI x _ false h) ?_ | refine CallEG.one rfl rfl (fun hg => l15CopyI x _ false h) ?_
  (try refine am (h := ?_)); (try with_reducible apply True.intro)
  repeat' (first | (with_reducible refine And.intro ?_ ?_) | (with_reducible intro _))
  all_goals try (first | omega | with_reducible rfl | ((with_reducible refine eqId ?_); exact rfl) | with_reducible (first | assumption | exact pl ‹_› | exact pr ‹_› | exact plr ‹_› | exact pll ‹_› | exact prl ‹_› | exact plll ‹_› | exact prll ‹_›))
  first | refine CallK.one (specTapeLeft x _ false h) (fun _ => amC) ?_ | refine CallE.one (specTapeLeft x _ false h) (fun _ => amC) rfl ?_ | refine CallG.one rfl (fun hg => specTapeLeft x _ false h) ?_ | refine CallEG.one rfl rfl (fun hg => specTapeLeft x _ false h) ?_
  (try refine am (h := ?_)); (try with_reducible apply True.intro)
  refine ⟨fun hneg => ?_, fun hpos => ?_⟩
  · have e : tkOk x = false := decide_eq_false (by omega)
    rw [tkT_no e, tkV_no e, e]
    repeat' (first | (with_reducible refine And.intro ?_ ?_) | (with_reducible intro _))
    all_goals try (first | omega | with_reducible rfl | ((with_reducible refine eqId ?_); exact rfl) | with_reducible (first | assumption | exact pl ‹_› | exact pr ‹_› | exact plr ‹_› | exact pll ‹_› | exact prl ‹_› | exact plll ‹_› | exact prll ‹_›))
    refine FinK.tup ?_ ?_
    all_goals (try refine amF (h := ?_))
    all_goals (try with_reducible apply True.intro)
    all_goals (first | exact .refl _)
  have e : tkOk x = true := decide_eq_true (by omega)
  have h2 := tkOk_two e
  have h3 := byte_rng (x.bytes.getD x.at_.toNat 0)
  have h4 := byte_rng (x.bytes.getD (x.at_.toNat + 1) 0)
  have ea : (x.at_ + 1).toNat = x.at_.toNat + 1 := by omega
  have w1 : IntKind.i64.wrap ((x.bytes.getD x.at_.toNat 0).toNat : Int) = ((x.bytes.getD x.at_.toNat 0).toNat : Int) := wrap_inK (inK_bd (by omega))
  have w2 : IntKind.i64.wrap ((x.bytes.getD (x.at_.toNat + 1) 0).toNat : Int) = ((x.bytes.getD (x.at_.toNat + 1) 0).toNat : Int) := wrap_inK (inK_bd (by omega))
  rw [tkT_yes e, tkV_yes e, e]
  (try refine am (e := by simp (maxSteps := 10000000) (maxDischargeDepth := 4) only [Int.reduceNeg, ea, w1, w2]; exact rfl) (h := ?_)); (try with_reducible apply True.intro)
  repeat' (first | (with_reducible refine And.intro ?_ ?_) | (with_reducible intro _))
  all_goals try (first | omega | with_reducible rfl | ((with_reducible refine eqId ?_); exact rfl) | with_reducible (first | assumption | exact pl ‹_› | exact pr ‹_› | exact plr ‹_› | exact pll ‹_› | exact prl ‹_› | exact plll ‹_› | exact prll ‹_›))
  refine FinK.tup ?_ ?_
  all_goals (try refine amF (h := ?_))
  all_goals (try with_reducible apply True.intro)
  refine ⟨⟨.refl _, rfl⟩, ?_⟩
  unfold tapeVal
  omega
set_option maxHeartbeats 4000000 in
theorem specTakeBelow (x : DTape) (n : Int) (u v : Bool) (h : okTape (2 ^ 40) x) (hn : inK .i64 n) : ACalls Tryz.prog 197 [.agg (cTape u v x), .one (.int .i64 n)] (fun r => r = .tup [.agg (cTape true true (takeT x n)), .one (.int .i64 (takeV x n)), .one (.bool (takeOk x n))]) := by
  have hnn : -9223372036854775808 ≤ n ∧ n ≤ 9223372036854775807 := hn
  have hb := tkV_rng x
  have nt : Tryz.f197.ntmps = 29 := rfl
  have rs : Tryz.f197.results = #[.cell 4 45, .tmp 5, .tmp 6] := rfl
  refine ACalls.of_run (m := 400) mixed Tryz.func197 rfl rfl (Nat.le_of_ble_eq_true rfl) ?_
  simp only [nt, rs]
  clear nt rs
  (try refine am (h := ?_)); (try with_reducible apply True.intro)
  first | refine CallK.one (specTake x _ false h) (fun _ => amC) ?_ | refine CallE.one (specTake x _ false h) (fun _ => amC) rfl ?_ | refine CallG.one rfl (fun hg => specTake x _ false h) ?_ | refine CallEG.one rfl rfl (fun hg => specTake x _ false h) ?_
  (try refine am (h := ?_)); (try with_reducible apply True.intro)
  repeat' (first | (with_reducible refine And.intro ?_ ?_) | (with_reducible intro _))
  all_goals try (first | omega | with_reducible rfl | ((with_reducible refine eqId ?_); exact rfl) | with_reducible (first | assumption | exact pl ‹_› | exact pr ‹_› | exact plr ‹_› | exact pll ‹_› | exact prl ‹_› | exact plll ‹_› | exact prll ‹_›))
  first | refine CallG.one rfl (fun hg => l1In n 1 65536) ?_ | refine CallEG.one rfl rfl (fun hg => l1In n 1 65536) ?_
  (try refine am (h := ?_)); (try with_reducible apply True.intro)
  refine ⟨fun hc => ?_, fun hc => ?_⟩
  · have e : takeOk x n = false := by
      rcases hc with hc | hc
      · exact take_no2 hc
      · exact take_no hc
    rw [takeT_no e, takeV_no e, e]
    first | refine CallK.one (l15CopyI x _ false h) (fun _ => amC) ?_ | refine CallE.one (l15CopyI x _ false h) (fun _ => amC) rfl ?_ | refine CallG.one rfl (fun hg => l15CopyI x _ false h) ?_ | refine CallEG.one rfl rfl (fun hg => l15CopyI x _ false h) ?_
    (try refine am (h := ?_)); (try with_reducible apply True.intro)
    repeat' (first | (with_reducible refine And.intro ?_ ?_) | (with_reducible intro _))
    all_goals try (first | omega | with_reducible rfl | ((with_reducible refine eqId ?_); exact rfl) | with_reducible (first | assumption | exact pl ‹_› | exact pr ‹_› | exact plr ‹_› | exact pll ‹_› | exact prl ‹_› | exact plll ‹_› | exact prll ‹_›))
    refine FinK.tup ?_ ?_
    all_goals (try refine amF (h := ?_))
    all_goals (try with_reducible apply True.intro)
    all_goals (first | exact .refl _)
  have hc2 : tkOk x = true ∧ (1 ≤ n ∧ n ≤ 65536) := hc
  have e : takeOk x n = true := (take_one hc2.2).trans hc2.1
  have ht := tmod_rng hb.1 hc2.2.1
  rw [takeT_yes e, takeV_yes e, e, ← tkT_yes hc2.1, ← tkV_yes hc2.1]
  repeat' (first | (with_reducible refine And.intro ?_ ?_) | (with_reducible intro _))
  all_goals try (first | omega | with_reducible rfl | ((with_reducible refine eqId ?_); exact rfl) | with_reducible (first | assumption | exact pl ‹_› | exact pr ‹_› | exact plr ‹_› | exact pll ‹_› | exact prl ‹_› | exact plll ‹_› | exact prll ‹_›))
  refine FinK.tup ?_ ?_
  all_goals (try refine amF (h := ?_))
  all_goals (try with_reducible apply True.intro)
  all_goals (first | exact .refl _)
set_option maxHeartbeats 4000000 in
theorem specTakeSubset (x : DTape) (n p : Int) (u v : Bool) (h : okTape (2 ^ 40) x) (hn : 0 ≤ n ∧ n ≤ 5) (hk : 0 ≤ p ∧ p ≤ n) : ACalls Tryz.prog 139 [.agg (cTape u v x), .one (.int .i64 n), .one (.int .i64 p)] (fun r => r = .tup [.agg (cTape true true (takeT x (binI n p))), .one (aI true (ssOf x n p)), .one (.bool (takeOk x (binI n p)))]) := by
  have hb := binI_rng' hn hk
  have hv := takeV_bd x (binI n p)
  have nt : Tryz.f139.ntmps = 31 := rfl
  have rs : Tryz.f139.results = #[.cell 6 45, .tmp 7, .tmp 8] := rfl
  refine ACalls.of_run (m := 400) mixed Tryz.func139 rfl rfl (Nat.le_of_ble_eq_true rfl) ?_
  simp only [nt, rs]
  clear nt rs
  (try refine am (h := ?_)); (try with_reducible apply True.intro)
  repeat' (first | (with_reducible refine And.intro ?_ ?_) | (with_reducible intro _))
  all_goals try (first | omega | with_reducible rfl | ((with_reducible refine eqId ?_); exact rfl) | with_reducible (first | assumption | exact pl ‹_› | exact pr ‹_› | exact plr ‹_› | exact pll ‹_› | exact prl ‹_› | exact plll ‹_› | exact prll ‹_›))
  refine CallE.one (specBinomial n p hn hk) (fun _ => amC) rfl ?_
  (try refine am (h := ?_)); (try with_reducible apply True.intro)
  repeat' (first | (with_reducible refine And.intro ?_ ?_) | (with_reducible intro _))
  all_goals try (first | omega | with_reducible rfl | ((with_reducible refine eqId ?_); exact rfl) | with_reducible (first | assumption | exact pl ‹_› | exact pr ‹_› | exact plr ‹_› | exact pll ‹_› | exact prl ‹_› | exact plll ‹_› | exact prll ‹_›))
  refine CallE.one (specTakeBelow x (binI n p) _ false h (inK_bd (by omega))) (fun _ => amC) rfl ?_
  (try refine am (h := ?_)); (try with_reducible apply True.intro)
  repeat' (first | (with_reducible refine And.intro ?_ ?_) | (with_reducible intro _))
  all_goals try (first | omega | with_reducible rfl | ((with_reducible refine eqId ?_); exact rfl) | with_reducible (first | assumption | exact pl ‹_› | exact pr ‹_› | exact plr ‹_› | exact pll ‹_› | exact prl ‹_› | exact plll ‹_› | exact prll ‹_›))
  · rename_i hc
    have e : ssOf x n p = [] := by unfold ssOf; rw [hc]; rfl
    have e2 := takeT_no hc
    rw [e, hc]
    repeat' (first | (with_reducible refine And.intro ?_ ?_) | (with_reducible intro _))
    all_goals try (first | omega | with_reducible rfl | ((with_reducible refine eqId ?_); exact rfl) | with_reducible (first | assumption | exact pl ‹_› | exact pr ‹_› | exact plr ‹_› | exact pll ‹_› | exact prl ‹_› | exact plll ‹_› | exact prll ‹_›))
    first | refine CallK.one (l15CopyI x _ false h) (fun _ => amC) ?_ | refine CallE.one (l15CopyI x _ false h) (fun _ => amC) rfl ?_ | refine CallG.one rfl (fun hg => l15CopyI x _ false h) ?_ | refine CallEG.one rfl rfl (fun hg => l15CopyI x _ false h) ?_
    (try refine am (h := ?_)); (try with_reducible apply True.intro)
    repeat' (first | (with_reducible refine And.intro ?_ ?_) | (with_reducible intro _))
    all_goals try (first | omega | with_reducible rfl | ((with_reducible refine eqId ?_); exact rfl) | with_reducible (first | assumption | exact pl ‹_› | exact pr ‹_› | exact plr ‹_› | exact pll ‹_› | exact prl ‹_› | exact plll ‹_› | exact prll ‹_›))
    rw [e2]
    refine FinK.tup ?_ ?_
    all_goals (try refine amF (h := ?_))
    all_goals (try with_reducible apply True.intro)
    all_goals (first | exact .refl _ | exact .nil _ _ _ _ _ | exact ALe.of (.inl rfl) rfl (fun i hi => absurd hi (Nat.not_lt_zero _)))
  rename_i hc
  have e : ssOf x n p = subsetAt n p (takeV x (binI n p)) := by unfold ssOf; rw [hc]; rfl
  rw [e, hc]
  repeat' (first | (with_reducible refine And.intro ?_ ?_) | (with_reducible intro _))
  all_goals try (first | omega | with_reducible rfl | ((with_reducible refine eqId ?_); exact rfl) | with_reducible (first | assumption | exact pl ‹_› | exact pr ‹_› | exact plr ‹_› | exact pll ‹_› | exact prl ‹_› | exact plll ‹_› | exact prll ‹_›))
  first | refine CallK.one (specSubsetAt n p (takeV x (binI n p)) hn hk (inK_bd (by omega))) (fun _ => amC) ?_ | refine CallE.one (specSubsetAt n p (takeV x (binI n p)) hn hk (inK_bd (by omega))) (fun _ => amC) rfl ?_ | refine CallG.one rfl (fun hg => specSubsetAt n p (takeV x (binI n p)) hn hk (inK_bd (by omega))) ?_ | refine CallEG.one rfl rfl (fun hg => specSubsetAt n p (takeV x (binI n p)) hn hk (inK_bd (by omega))) ?_
  (try refine am (h := ?_)); (try with_reducible apply True.intro)
  repeat' (first | (with_reducible refine And.intro ?_ ?_) | (with_reducible intro _))
  all_goals try (first | omega | with_reducible rfl | ((with_reducible refine eqId ?_); exact rfl) | with_reducible (first | assumption | exact pl ‹_› | exact pr ‹_› | exact plr ‹_› | exact pll ‹_› | exact prl ‹_› | exact plll ‹_› | exact prll ‹_›))
  refine FinK.tup ?_ ?_
  all_goals (try refine amF (h := ?_))
  all_goals (try with_reducible apply True.intro)
  all_goals (first | exact .refl _)
set_option maxHeartbeats 4000000 in
theorem specRoot (c : DConf) (x : DTape) (u v u' v' : Bool) (hc : okConf (2 ^ 47) c) (h : okTape (2 ^ 40) x) (hk : confOk c) : ACalls Tryz.prog 62 [.agg (cConf u v c), .agg (cTape u' v' x)] (fun r => r = .tup [.agg (cTree true true (rootTree c x)), .agg (cTape true true (takeT x (rootN c))), .one (.bool (takeOk x (rootN c)))]) := by
  have h1 := hk.1.1
  have h2 := hk.2.2.2.1
  have hss := subsetAt_ok (n := c.schema.attrs.length) (k := c.pick) (r := takeV x (rootN c)) (by omega) (by omega)
  have nt : Tryz.f62.ntmps = 32 := rfl
  have rs : Tryz.f62.results = #[.cell 4 37, .cell 5 45, .tmp 6] := rfl
  refine ACalls.of_run (m := 400) mixed Tryz.func62 rfl rfl (Nat.le_of_ble_eq_true rfl) ?_
  simp only [nt, rs]
  clear nt rs
  (try refine am (h := ?_)); (try with_reducible apply True.intro)
  repeat' (first | (with_reducible refine And.intro ?_ ?_) | (with_reducible intro _))
  all_goals try (first | omega | with_reducible rfl | ((with_reducible refine eqId ?_); exact rfl) | with_reducible (first | assumption | exact pl ‹_› | exact pr ‹_› | exact plr ‹_› | exact pll ‹_› | exact prl ‹_› | exact plll ‹_› | exact prll ‹_›))
  first | refine CallK.one (specTakeSubset x c.schema.attrs.length c.pick _ false h (by omega) (by omega)) (fun _ => amC) ?_ | refine CallE.one (specTakeSubset x c.schema.attrs.length c.pick _ false h (by omega) (by omega)) (fun _ => amC) rfl ?_ | refine CallG.one rfl (fun hg => specTakeSubset x c.schema.attrs.length c.pick _ false h (by omega) (by omega)) ?_ | refine CallEG.one rfl rfl (fun hg => specTakeSubset x c.schema.attrs.length c.pick _ false h (by omega) (by omega)) ?_
  (try refine am (h := ?_)); (try with_reducible apply True.intro)
  refine ⟨fun hx => ?_, fun hx => ?_⟩
  · have hx' : takeOk x (rootN c) = false := hx
    have e : rootTree c x = ⟨[], 0⟩ := by unfold rootTree; rw [hx']; rfl
    rw [e, hx', takeT_no hx']
    repeat' (first | (with_reducible refine And.intro ?_ ?_) | (with_reducible intro _))
    all_goals try (first | omega | with_reducible rfl | ((with_reducible refine eqId ?_); exact rfl) | with_reducible (first | assumption | exact pl ‹_› | exact pr ‹_› | exact plr ‹_› | exact pll ‹_› | exact prl ‹_› | exact plll ‹_› | exact prll ‹_›))
    first | refine CallK.one (l15CopyI x _ false h) (fun _ => amC) ?_ | refine CallE.one (l15CopyI x _ false h) (fun _ => amC) rfl ?_ | refine CallG.one rfl (fun hg => l15CopyI x _ false h) ?_ | refine CallEG.one rfl rfl (fun hg => l15CopyI x _ false h) ?_
    (try refine am (h := ?_)); (try with_reducible apply True.intro)
    repeat' (first | (with_reducible refine And.intro ?_ ?_) | (with_reducible intro _))
    all_goals try (first | omega | with_reducible rfl | ((with_reducible refine eqId ?_); exact rfl) | with_reducible (first | assumption | exact pl ‹_› | exact pr ‹_› | exact plr ‹_› | exact pll ‹_› | exact prl ‹_› | exact plll ‹_› | exact prll ‹_›))
    refine FinK.tup ?_ ?_
    all_goals (try refine amF (h := ?_))
    all_goals (try with_reducible apply True.intro)
    all_goals (first | exact .refl _ | exact .nil _ _ _ _ _ | exact ⟨.nil _ _ _ _ _, .refl _⟩)
  have hx' : takeOk x (rootN c) = true := hx
  have es : ssOf x c.schema.attrs.length c.pick = subsetAt c.schema.attrs.length c.pick (takeV x (rootN c)) := by unfold ssOf; rw [hx]; rfl
  have e : rootTree c x = treeNew c.schema (ssOf x c.schema.attrs.length c.pick) := by unfold rootTree; rw [hx']; rfl
  have hsl : (ssOf x c.schema.attrs.length c.pick).length ≤ 5 := by rw [es]; exact hss.1
  rw [e, hx']
  repeat' (first | (with_reducible refine And.intro ?_ ?_) | (with_reducible intro _))
  all_goals try (first | omega | with_reducible rfl | ((with_reducible refine eqId ?_); exact rfl) | with_reducible (first | assumption | exact pl ‹_› | exact pr ‹_› | exact plr ‹_› | exact pll ‹_› | exact prl ‹_› | exact plll ‹_› | exact prll ‹_›))
  first | refine CallK.one (specTreeNew c.schema (ssOf x c.schema.attrs.length c.pick) _ _ _ _ hc.1 (by omega)) (fun _ => amC) ?_ | refine CallE.one (specTreeNew c.schema (ssOf x c.schema.attrs.length c.pick) _ _ _ _ hc.1 (by omega)) (fun _ => amC) rfl ?_ | refine CallG.one rfl (fun hg => specTreeNew c.schema (ssOf x c.schema.attrs.length c.pick) _ _ _ _ hc.1 (by omega)) ?_ | refine CallEG.one rfl rfl (fun hg => specTreeNew c.schema (ssOf x c.schema.attrs.length c.pick) _ _ _ _ hc.1 (by omega)) ?_
  (try refine am (h := ?_)); (try with_reducible apply True.intro)
  repeat' (first | (with_reducible refine And.intro ?_ ?_) | (with_reducible intro _))
  all_goals try (first | omega | with_reducible rfl | ((with_reducible refine eqId ?_); exact rfl) | with_reducible (first | assumption | exact pl ‹_› | exact pr ‹_› | exact plr ‹_› | exact pll ‹_› | exact prl ‹_› | exact plll ‹_› | exact prll ‹_›))
  refine FinK.tup ?_ ?_
  all_goals (try refine amF (h := ?_))
  all_goals (try with_reducible apply True.intro)
  all_goals (first | exact .refl _ | exact ⟨.refl _, rfl⟩)
set_option maxHeartbeats 4000000 in
theorem specMemberNew (c : DConf) (x : DTape) (u v u' v' : Bool) (hc : okConf (2 ^ 47) c) (h : okTape (2 ^ 40) x) : ACalls Tryz.prog 11 [.agg (cConf u v c), .agg (cTape u' v' x)] (fun r => r = .tup [.agg (cMember true true (memNew c x)), .agg (cTape true true (memTape c x)), .one (.bool (memYes c x))]) := by
  have nt : Tryz.f11.ntmps = 31 := rfl
  have rs : Tryz.f11.results = #[.cell 4 44, .cell 5 45, .tmp 6] := rfl
  refine ACalls.of_run (m := 400) mixed Tryz.func11 rfl rfl (Nat.le_of_ble_eq_true rfl) ?_
  simp only [nt, rs]
  clear nt rs
  (try refine am (h := ?_)); (try with_reducible apply True.intro)
  first | refine CallK.one (specConfOk c _ _ hc) (fun _ => amC) ?_ | refine CallE.one (specConfOk c _ _ hc) (fun _ => amC) rfl ?_ | refine CallG.one rfl (fun hg => specConfOk c _ _ hc) ?_ | refine CallEG.one rfl rfl (fun hg => specConfOk c _ _ hc) ?_
  (try refine am (h := ?_)); (try with_reducible apply True.intro)
  refine ⟨fun hk => ?_, fun hk => ?_⟩
  · have e1 : memNew c x = memOf ⟨[], 0⟩ := if_neg hk
    have e2 : memTape c x = x := if_neg hk
    have e3 : memYes c x = false := by unfold memYes; rw [decide_eq_false hk, Bool.false_and]
    rw [e1, e2, e3]
    repeat' (first | (with_reducible refine And.intro ?_ ?_) | (with_reducible intro _))
    all_goals try (first | omega | with_reducible rfl | ((with_reducible refine eqId ?_); exact rfl) | with_reducible (first | assumption | exact pl ‹_› | exact pr ‹_› | exact plr ‹_› | exact pll ‹_› | exact prl ‹_› | exact plll ‹_› | exact prll ‹_›))
    first | refine CallK.one (l15CopyI x _ false h) (fun _ => amC) ?_ | refine CallE.one (l15CopyI x _ false h) (fun _ => amC) rfl ?_ | refine CallG.one rfl (fun hg => l15CopyI x _ false h) ?_ | refine CallEG.one rfl rfl (fun hg => l15CopyI x _ false h) ?_
    (try refine am (h := ?_)); (try with_reducible apply True.intro)
    repeat' (first | (with_reducible refine And.intro ?_ ?_) | (with_reducible intro _))
    all_goals try (first | omega | with_reducible rfl | ((with_reducible refine eqId ?_); exact rfl) | with_reducible (first | assumption | exact pl ‹_› | exact pr ‹_› | exact plr ‹_› | exact pll ‹_› | exact prl ‹_› | exact plll ‹_› | exact prll ‹_›))
    refine FinK.tup ?_ ?_
    all_goals (try refine amF (h := ?_))
    all_goals (try with_reducible apply True.intro)
    all_goals (first | exact ⟨.nil _ _ _ _ _, rfl, rfl, .nil _ _ _ _ _, rfl, .nil _ _ _ _ _, .nil _ _ _ _ _⟩ | exact .refl _ | skip)
  have e1 : memNew c x = memOf (rootTree c x) := if_pos hk
  have e2 : memTape c x = takeT x (rootN c) := if_pos hk
  have e3 : memYes c x = takeOk x (rootN c) := by unfold memYes; rw [decide_eq_true hk, Bool.true_and]
  rw [e1, e2, e3]
  repeat' (first | (with_reducible refine And.intro ?_ ?_) | (with_reducible intro _))
  all_goals try (first | omega | with_reducible rfl | ((with_reducible refine eqId ?_); exact rfl) | with_reducible (first | assumption | exact pl ‹_› | exact pr ‹_› | exact plr ‹_› | exact pll ‹_› | exact prl ‹_› | exact plll ‹_› | exact prll ‹_›))
  first | refine CallK.one (specRoot c x _ _ _ false hc h hk) (fun _ => amC) ?_ | refine CallE.one (specRoot c x _ _ _ false hc h hk) (fun _ => amC) rfl ?_ | refine CallG.one rfl (fun hg => specRoot c x _ _ _ false hc h hk) ?_ | refine CallEG.one rfl rfl (fun hg => specRoot c x _ _ _ false hc h hk) ?_
  (try refine am (h := ?_)); (try with_reducible apply True.intro)
  repeat' (first | (with_reducible refine And.intro ?_ ?_) | (with_reducible intro _))
  all_goals try (first | omega | with_reducible rfl | ((with_reducible refine eqId ?_); exact rfl) | with_reducible (first | assumption | exact pl ‹_› | exact pr ‹_› | exact plr ‹_› | exact pll ‹_› | exact prl ‹_› | exact plll ‹_› | exact prll ‹_›))
  · rename_i hx
    have er : rootTree c x = ⟨[], 0⟩ := by unfold rootTree; rw [hx]; rfl
    rw [er, takeT_no hx, hx]
    first | refine CallK.one (l15CopyI x _ false h) (fun _ => amC) ?_ | refine CallE.one (l15CopyI x _ false h) (fun _ => amC) rfl ?_ | refine CallG.one rfl (fun hg => l15CopyI x _ false h) ?_ | refine CallEG.one rfl rfl (fun hg => l15CopyI x _ false h) ?_
    (try refine am (h := ?_)); (try with_reducible apply True.intro)
    repeat' (first | (with_reducible refine And.intro ?_ ?_) | (with_reducible intro _))
    all_goals try (first | omega | with_reducible rfl | ((with_reducible refine eqId ?_); exact rfl) | with_reducible (first | assumption | exact pl ‹_› | exact pr ‹_› | exact plr ‹_› | exact pll ‹_› | exact prl ‹_› | exact plll ‹_› | exact prll ‹_›))
    refine FinK.tup ?_ ?_
    all_goals (try refine amF (h := ?_))
    all_goals (try with_reducible apply True.intro)
    all_goals (first | exact ⟨.nil _ _ _ _ _, rfl, rfl, .nil _ _ _ _ _, rfl, .nil _ _ _ _ _, .nil _ _ _ _ _⟩ | exact .refl _ | skip)
  rename_i hx
  refine FinK.tup ?_ ?_
  all_goals (try refine amF (h := ?_))
  all_goals (try with_reducible apply True.intro)
  exact ⟨⟨.refl _, rfl, rfl, .nil _ _ _ _ _, rfl, .nil _ _ _ _ _, .nil _ _ _ _ _⟩, hx.symm⟩
end Go.AM
namespace Go.AM
open Go Go.Proofs
set_option maxRecDepth 100000
def tapeAt (c : DConf) (x : DTape) : Nat → DTape
  | 0 => x
  | i + 1 => memTape c (tapeAt c x i)
def memAt (c : DConf) (x : DTape) (i : Nat) : DMember := memNew c (tapeAt c x i)
def memsAt (c : DConf) (x : DTape) : List DMember := (List.range c.members.toNat).map (memAt c x)
def forYesP (c : DConf) (x : DTape) : Prop := confOk c ∧ ∀ i, i < c.members.toNat → memYes c (tapeAt c x i) = true
instance (c : DConf) (x : DTape) : Decidable (forYesP c x) := by unfold forYesP; infer_instance
def forNew (c : DConf) (x : DTape) : DForest := if forYesP c x then ⟨memsAt c x⟩ else ⟨[]⟩
def forTape (c : DConf) (x : DTape) : DTape := if forYesP c x then tapeAt c x c.members.toNat else x
theorem memTape_ok {B : Nat} {c : DConf} {x : DTape} (h : okTape B x) : okTape B (memTape c x) := by
  unfold memTape
  split
  · exact takeT_ok h
  · exact h
theorem tapeAt_ok {B : Nat} {c : DConf} {x : DTape} (h : okTape B x) : ∀ i, okTape B (tapeAt c x i)
  | 0 => h
  | i + 1 => memTape_ok (tapeAt_ok h i)
theorem memTape_bytes (c : DConf) (x : DTape) : (memTape c x).bytes = x.bytes := by
  unfold memTape
  split
  · exact takeT_bytes x _
  · rfl
theorem tapeAt_bytes (c : DConf) (x : DTape) : ∀ i, (tapeAt c x i).bytes = x.bytes
  | 0 => rfl
  | i + 1 => (memTape_bytes c _).trans (tapeAt_bytes c x i)
theorem memsAt_get (c : DConf) (x : DTape) {i : Nat} (h : i < c.members.toNat) : (memsAt c x).getD i default = memAt c x i := by
  unfold memsAt
  simp [List.getD, h]
theorem memsAt_len (c : DConf) (x : DTape) : (memsAt c x).length = c.members.toNat := by simp [memsAt]
theorem memRow {l : List DMember} {i n : Nat} {nl nl' : Option Bool} {g : Nat → Nat → AV} (hnl : nl' = none ∨ nl' = nl) (hn : n = i + 1) (hg : ∀ j, j < 7 → ALe (g 0 j) (fMember true l i j)) : ALe (.sl true nl 7 n (apF i (fMember true l) g)) (.sl true nl' 7 (i + 1) (fMember true l)) := by
  refine ALe.of hnl hn (fun a ha j hj => ?_)
  unfold apF
  by_cases e : a < i
  · rw [if_pos e]; exact .refl _
  · rw [if_neg e]
    obtain rfl : a = i := by omega
    rw [Nat.sub_self]
    exact hg j hj
theorem boxLe2' {nl : Option Bool} {F G : Nat → Nat → AV} (h0 : ALe (F 0 0) (G 0 0)) (h1 : ALe (F 0 1) (G 0 1)) : ALe (.sl true nl 2 1 F) (.sl true none 2 1 G) := by
  refine ALe.of (.inl rfl) rfl (fun i hi j hj => ?_)
  have hj' : j = 0 ∨ j = 1 := by omega
  obtain rfl : i = 0 := by omega
  rcases hj' with rfl | rfl
  · exact h0
  · exact h1
theorem rootTree_ok {c : DConf} {x : DTape} (hc : confOk c) : okTree (2 ^ 47) (rootTree c x) ∧ sm nNode (rootTree c x).nodes ≤ 76 := by
  have h1 := hc.1.1
  have h2 := hc.2.2.2.1
  unfold rootTree
  cases takeOk x (rootN c) with
  | false => exact ⟨⟨⟨Nat.zero_le _, fun x hx => nomatch hx⟩, inK_bd (by show (_ : Int) ≤ 0 ∧ (0 : Int) ≤ _; omega)⟩, Nat.zero_le _⟩
  | true =>
    have hs : (ssOf x c.schema.attrs.length c.pick).length ≤ 5 ∧ okI (2 ^ 40) (ssOf x c.schema.attrs.length c.pick) := by
      unfold ssOf
      cases takeOk x (binI c.schema.attrs.length c.pick) with
      | false => exact ⟨Nat.zero_le _, Nat.zero_le _, fun y hy => nomatch hy⟩
      | true => exact subsetAt_ok (by omega) (by omega)
    have := treeNew_ok c.schema _ (okI40 hs.2)
    exact ⟨this.1, by have := this.2; show sm nNode (treeNew c.schema _).nodes ≤ 76; omega⟩
theorem memOf_ok {t : DTree} (h : okTree (2 ^ 47) t) : okMember (2 ^ 47) (memOf t) :=
  ⟨h, trivial, ⟨⟨Nat.zero_le _, fun x hx => nomatch hx⟩, inK_bd (by show (_ : Int) ≤ 0 ∧ (0 : Int) ≤ _; omega)⟩, ⟨Nat.zero_le _, fun x hx => nomatch hx⟩, ⟨Nat.zero_le _, fun x hx => nomatch hx⟩⟩
theorem memNew_ok (c : DConf) (x : DTape) : okMember (2 ^ 47) (memNew c x) ∧ sm nNode (memNew c x).tree.nodes ≤ 76 ∧ (memNew c x).young.nodes = [] ∧ (memNew c x).det.warn = [] ∧ (memNew c x).det.drift = [] := by
  unfold memNew
  split
  · rename_i h
    exact ⟨memOf_ok (rootTree_ok h).1, (rootTree_ok h).2, rfl, rfl, rfl⟩
  · exact ⟨memOf_ok ⟨⟨Nat.zero_le _, fun x hx => nomatch hx⟩, inK_bd (by show (_ : Int) ≤ 0 ∧ (0 : Int) ≤ _; omega)⟩, Nat.zero_le _, rfl, rfl, rfl⟩
theorem memNew_n (c : DConf) (x : DTape) : nMember (memNew c x) ≤ 79 := by
  obtain ⟨_, h1, h2, h3, h4⟩ := memNew_ok c x
  have e : nMember (memNew c x) = sm nNode (memNew c x).tree.nodes + 3 + sm nNode (memNew c x).young.nodes + tot (memNew c x).det.warn + tot (memNew c x).det.drift := rfl
  rw [h2, h3, h4] at e
  have e : nMember (memNew c x) = sm nNode (memNew c x).tree.nodes + 3 + 0 + 0 + 0 := e
  omega
theorem forNew_ok (c : DConf) (x : DTape) : okForest (2 ^ 47) (forNew c x) ∧ sm nMember (forNew c x).members ≤ 316 := by
  unfold forNew
  split
  · rename_i h
    have hm := h.1.2.2.1
    refine ⟨⟨by show (memsAt c x).length ≤ _; rw [memsAt_len]; omega, fun y hy => ?_⟩, ?_⟩
    · obtain ⟨i, _, rfl⟩ := List.mem_map.1 hy
      exact (memNew_ok c _).1
    · have := sm_le_mul (f := nMember) (c := 79) (l := memsAt c x) (fun y hy => by
        obtain ⟨i, _, rfl⟩ := List.mem_map.1 hy
        exact memNew_n c _)
      rw [memsAt_len] at this
      show sm nMember (memsAt c x) ≤ 316
      omega
  · exact ⟨⟨Nat.zero_le _, fun y hy => nomatch hy⟩, Nat.zero_le _⟩
theorem forTape_ok {B : Nat} {c : DConf} {x : DTape} (h : okTape B x) : okTape B (forTape c x) ∧ (forTape c x).bytes = x.bytes := by
  unfold forTape
  split
  · exact ⟨tapeAt_ok h _, tapeAt_bytes c x _⟩
  · exact ⟨h, rfl⟩
set_option maxHeartbeats 4000000 in
theorem implForestNew (c : DConf) (x : DTape) (u v u' v' : Bool) (hc : okConf (2 ^ 47) c) (h : okTape (2 ^ 40) x) : ACalls Tryz.prog 24 [.agg (cConf u v c), .agg (cTape u' v' x)] (fun r => r = .tup [.agg (cForest true true (forNew c x)), .agg (cTape true true (forTape c x)), .one (.bool (decide (forYesP c x)))]) := by
  have nt : Tryz.f24.ntmps = 47 := rfl
  have rs : Tryz.f24.results = #[.cell 4 65, .cell 5 45, .tmp 6] := rfl
  refine ACalls.of_run (m := 400) mixed Tryz.func24 rfl rfl (Nat.le_of_ble_eq_true rfl) ?_
  simp only [nt, rs]
  clear nt rs
  (try refine am (h := ?_)); (try with_reducible apply True.intro)
  first | refine CallK.one (implConfOk c _ _ hc) (fun _ => amC) ?_ | refine CallE.one (implConfOk c _ _ hc) (fun _ => amC) rfl ?_ | refine CallG.one rfl (fun hg => implConfOk c _ _ hc) ?_ | refine CallEG.one rfl rfl (fun hg => implConfOk c _ _ hc) ?_
  (try refine am (h := ?_)); (try with_reducible apply True.intro)
  refine ⟨fun hk => ?_, fun hk => ?_⟩
  · have en : ¬ forYesP c x := fun e => hk e.1
    have e1 : forNew c x = ⟨[]⟩ := if_neg en
    have e2 : forTape c x = x := if_neg en
    rw [e1, e2, decide_eq_false en]
    repeat' (first | (with_reducible refine And.intro ?_ ?_) | (with_reducible intro _))
    all_goals try (first | omega | with_reducible rfl | ((with_reducible refine eqId ?_); exact rfl) | with_reducible (first | assumption | exact pl ‹_› | exact pr ‹_› | exact plr ‹_› | exact pll ‹_› | exact prl ‹_› | exact plll ‹_› | exact prll ‹_›))
    first | refine CallK.one (cloneTapeI x _ false h) (fun _ => amC) ?_ | refine CallE.one (cloneTapeI x _ false h) (fun _ => amC) rfl ?_ | refine CallG.one rfl (fun hg => cloneTapeI x _ false h) ?_ | refine CallEG.one rfl rfl (fun hg => cloneTapeI x _ false h) ?_
    (try refine am (h := ?_)); (try with_reducible apply True.intro)
    repeat' (first | (with_reducible refine And.intro ?_ ?_) | (with_reducible intro _))
    all_goals try (first | omega | with_reducible rfl | ((with_reducible refine eqId ?_); exact rfl) | with_reducible (first | assumption | exact pl ‹_› | exact pr ‹_› | exact plr ‹_› | exact pll ‹_› | exact prl ‹_› | exact plll ‹_› | exact prll ‹_›))
    refine FinK.tup ?_ ?_
    all_goals (try refine amF (h := ?_))
    all_goals (try with_reducible apply True.intro)
    all_goals (first | exact .refl _ | exact .nil _ _ _ _ _ | exact ⟨.nil _ _ _ _ _, .refl _⟩ | skip)
  repeat' (first | (with_reducible refine And.intro ?_ ?_) | (with_reducible intro _))
  all_goals try (first | omega | with_reducible rfl | ((with_reducible refine eqId ?_); exact rfl) | with_reducible (first | assumption | exact pl ‹_› | exact pr ‹_› | exact plr ‹_› | exact pll ‹_› | exact prl ‹_› | exact plll ‹_› | exact prll ‹_›))
  first | refine CallK.one (cloneTapeI x _ false h) (fun _ => amC) ?_ | refine CallE.one (cloneTapeI x _ false h) (fun _ => amC) rfl ?_ | refine CallG.one rfl (fun hg => cloneTapeI x _ false h) ?_ | refine CallEG.one rfl rfl (fun hg => cloneTapeI x _ false h) ?_
  (try refine am (h := ?_)); (try with_reducible apply True.intro)
  repeat' (first | (with_reducible refine And.intro ?_ ?_) | (with_reducible intro _))
  all_goals try (first | omega | with_reducible rfl | ((with_reducible refine eqId ?_); exact rfl) | with_reducible (first | assumption | exact pl ‹_› | exact pr ‹_› | exact plr ‹_› | exact pll ‹_› | exact prl ‹_› | exact plll ‹_› | exact prll ‹_›))
  have hmb := hk.2.2.1
  refine LoopK.auto (Nat) (fun i => [(23, .one (.av (.int .i64 i))), (7, .one (.ref 302 [] [0] 0 0)), (8, .one (.ref 303 [] [0] 0 0))]) (fun i => [(302, ⟨.sl true none 1 1 (fun _ _ => .sl true none 7 i (fMember true (memsAt c x))), []⟩), (303, ⟨.sl true none 2 1 (fun _ j => gl .junk (cTape true true (tapeAt c x i)) j), []⟩)]) [2, 3, 4, 5, 22] (k0 := ?k01) (keepH := ?kh1) 400 (fun i => i ≤ c.members.toNat ∧ ∀ j, j < i → memYes c (tapeAt c x j) = true) (fun i => c.members.toNat - i) (0) ?kea1 ?keb1 ?_ ?_ ?_
  case kea1 => exact amN
  case keb1 => exact amN
  · exact ⟨Nat.zero_le _, fun j hj => absurd hj (Nat.not_lt_zero _)⟩
  · refine Le.auto [] (r0 := ?r01) (ren := ?ren1) ?ea1 ?eb1 ?a1 ?b1 ?c1 ?d1 ?ho1 ?hn1 ?ht1
    case ea1 => exact amR
    case eb1 => exact amR
    case a1 => exact rfl
    case b1 => exact rfl
    case c1 => exact rfl
    case d1 => exact rfl
    all_goals (try refine amL (h := ?_))
    all_goals (try with_reducible apply True.intro)
    exact ⟨boxLe2' (.refl _) (.refl _), boxLe (.nil _ _ _ _ _)⟩
  · intro i hi
    have hti := tapeAt_ok h (c := c) i
    (try refine am (h := ?_)); (try with_reducible apply True.intro)
    repeat' (first | (with_reducible refine And.intro ?_ ?_) | (with_reducible intro _))
    all_goals try (first | omega | with_reducible rfl | ((with_reducible refine eqId ?_); exact rfl) | with_reducible (first | assumption | exact pl ‹_› | exact pr ‹_› | exact plr ‹_› | exact pll ‹_› | exact prl ‹_› | exact plll ‹_› | exact prll ‹_›))
    · have hlt : i < c.members.toNat := by omega
      first | refine CallK.one (implMemberNew c (tapeAt c x i) _ _ _ false hc hti) (fun _ => amC) ?_ | refine CallE.one (implMemberNew c (tapeAt c x i) _ _ _ false hc hti) (fun _ => amC) rfl ?_ | refine CallG.one rfl (fun hg => implMemberNew c (tapeAt c x i) _ _ _ false hc hti) ?_ | refine CallEG.one rfl rfl (fun hg => implMemberNew c (tapeAt c x i) _ _ _ false hc hti) ?_
      (try refine am (h := ?_)); (try with_reducible apply True.intro)
      repeat' (first | (with_reducible refine And.intro ?_ ?_) | (with_reducible intro _))
      all_goals try (first | omega | with_reducible rfl | ((with_reducible refine eqId ?_); exact rfl) | with_reducible (first | assumption | exact pl ‹_› | exact pr ‹_› | exact plr ‹_› | exact pll ‹_› | exact prl ‹_› | exact plll ‹_› | exact prll ‹_›))
      · rename_i hx
        have en : ¬ forYesP c x := fun e => by
          have := e.2 i hlt
          rw [hx] at this
          cases this
        have e1 : forNew c x = ⟨[]⟩ := if_neg en
        have e2 : forTape c x = x := if_neg en
        rw [e1, e2, decide_eq_false en]
        first | refine CallK.one (cloneTapeI x _ false h) (fun _ => amC) ?_ | refine CallE.one (cloneTapeI x _ false h) (fun _ => amC) rfl ?_ | refine CallG.one rfl (fun hg => cloneTapeI x _ false h) ?_ | refine CallEG.one rfl rfl (fun hg => cloneTapeI x _ false h) ?_
        (try refine am (h := ?_)); (try with_reducible apply True.intro)
        repeat' (first | (with_reducible refine And.intro ?_ ?_) | (with_reducible intro _))
        all_goals try (first | omega | with_reducible rfl | ((with_reducible refine eqId ?_); exact rfl) | with_reducible (first | assumption | exact pl ‹_› | exact pr ‹_› | exact plr ‹_› | exact pll ‹_› | exact prl ‹_› | exact plll ‹_› | exact prll ‹_›))
        refine FinK.tup ?_ ?_
        all_goals (try refine amF (h := ?_))
        all_goals (try with_reducible apply True.intro)
        all_goals (first | exact .refl _ | exact .nil _ _ _ _ _ | exact ⟨.nil _ _ _ _ _, .refl _⟩ | skip)
      · rename_i hx
        refine ⟨i + 1, ?_, ⟨by omega, fun j hj => ?_⟩, by omega⟩
        · refine Le.auto [] (r0 := ?r02) (ren := ?ren2) ?ea2 ?eb2 ?a2 ?b2 ?c2 ?d2 ?ho2 ?hn2 ?ht2
          case ea2 => exact amR
          case eb2 => exact amR
          case a2 => exact rfl
          case b2 => exact rfl
          case c2 => exact rfl
          case d2 => exact rfl
          all_goals (try refine amL (h := ?_))
          all_goals (try with_reducible apply True.intro)
          refine ⟨boxLe2' (.refl _) (.refl _), boxLe (memRow (.inl rfl) rfl (fun j hj => ?_))⟩
          rw [fMember_at, memsAt_get c x hlt]
          exact .refl _
        · by_cases e : j = i
          · rw [e]; exact hx
          · exact hi.2 j (by omega)
    · have ei : i = c.members.toNat := by omega
      subst ei
      have en : forYesP c x := ⟨hk, hi.2⟩
      have e1 : forNew c x = ⟨memsAt c x⟩ := if_pos en
      have e2 : forTape c x = tapeAt c x c.members.toNat := if_pos en
      rw [e1, e2, decide_eq_true en]
      refine FinK.tup ?_ ?_
      all_goals (try refine amF (h := ?_))
      all_goals (try with_reducible apply True.intro)
      exact ALe.of (.inl rfl) (memsAt_len c x).symm (fun i hi j hj => .refl _)
set_option maxHeartbeats 4000000 in
theorem specForestNew (c : DConf) (x : DTape) (u v u' v' : Bool) (hc : okConf (2 ^ 47) c) (h : okTape (2 ^ 40) x) : ACalls Tryz.prog 23 [.agg (cConf u v c), .agg (cTape u' v' x)] (fun r => r = .tup [.agg (cForest true true (forNew c x)), .agg (cTape true true (forTape c x)), .one (.bool (decide (forYesP c x)))]) := by
  have nt : Tryz.f23.ntmps = 48 := rfl
  have rs : Tryz.f23.results = #[.cell 4 65, .cell 5 45, .tmp 6] := rfl
  refine ACalls.of_run (m := 400) mixed Tryz.func23 rfl rfl (Nat.le_of_ble_eq_true rfl) ?_
  simp only [nt, rs]
  clear nt rs
  (try refine am (h := ?_)); (try with_reducible apply True.intro)
  repeat' (first | (with_reducible refine And.intro ?_ ?_) | (with_reducible intro _))
  all_goals try (first | omega | with_reducible rfl | ((with_reducible refine eqId ?_); exact rfl) | with_reducible (first | assumption | exact pl ‹_› | exact pr ‹_› | exact plr ‹_› | exact pll ‹_› | exact prl ‹_› | exact plll ‹_› | exact prll ‹_›))
  first | refine CallK.one (l15CopyI x _ false h) (fun _ => amC) ?_ | refine CallE.one (l15CopyI x _ false h) (fun _ => amC) rfl ?_ | refine CallG.one rfl (fun hg => l15CopyI x _ false h) ?_ | refine CallEG.one rfl rfl (fun hg => l15CopyI x _ false h) ?_
  (try refine am (h := ?_)); (try with_reducible apply True.intro)
  repeat' (first | (with_reducible refine And.intro ?_ ?_) | (with_reducible intro _))
  all_goals try (first | omega | with_reducible rfl | ((with_reducible refine eqId ?_); exact rfl) | with_reducible (first | assumption | exact pl ‹_› | exact pr ‹_› | exact plr ‹_› | exact pll ‹_› | exact prl ‹_› | exact plll ‹_› | exact prll ‹_›))
  first | refine CallK.one (specConfOk c _ _ hc) (fun _ => amC) ?_ | refine CallE.one (specConfOk c _ _ hc) (fun _ => amC) rfl ?_ | refine CallG.one rfl (fun hg => specConfOk c _ _ hc) ?_ | refine CallEG.one rfl rfl (fun hg => specConfOk c _ _ hc) ?_
  (try refine am (h := ?_)); (try with_reducible apply True.intro)
  refine ⟨fun hk => ?_, fun hk => ?_⟩
  · have en : ¬ forYesP c x := fun e => hk e.1
    have e1 : forNew c x = ⟨[]⟩ := if_neg en
    have e2 : forTape c x = x := if_neg en
    rw [e1, e2, decide_eq_false en]
    repeat' (first | (with_reducible refine And.intro ?_ ?_) | (with_reducible intro _))
    all_goals try (first | omega | with_reducible rfl | ((with_reducible refine eqId ?_); exact rfl) | with_reducible (first | assumption | exact pl ‹_› | exact pr ‹_› | exact plr ‹_› | exact pll ‹_› | exact prl ‹_› | exact plll ‹_› | exact prll ‹_›))
    refine FinK.tup ?_ ?_
    all_goals (try refine amF (h := ?_))
    all_goals (try with_reducible apply True.intro)
    all_goals (first | exact .refl _ | exact .nil _ _ _ _ _ | exact ⟨.nil _ _ _ _ _, .refl _⟩ | skip)
  repeat' (first | (with_reducible refine And.intro ?_ ?_) | (with_reducible intro _))
  all_goals try (first | omega | with_reducible rfl | ((with_reducible refine eqId ?_); exact rfl) | with_reducible (first | assumption | exact pl ‹_› | exact pr ‹_› | exact plr ‹_› | exact pll ‹_› | exact prl ‹_› | exact plll ‹_› | exact prll ‹_›))
  have hmb := hk.2.2.1
  refine LoopK.auto (Nat) (fun i => [(9, .one (.av (.int .i64 i))), (7, .one (.ref 302 [] [0] 0 0)), (8, .one (.ref 303 [] [0] 0 0))]) (fun i => [(302, ⟨.sl true none 1 1 (fun _ _ => .sl true none 7 i (fMember true (memsAt c x))), []⟩), (303, ⟨.sl true none 2 1 (fun _ j => gl .junk (cTape true true (tapeAt c x i)) j), []⟩)]) [2, 3, 4, 5] (k0 := ?k02) (keepH := ?kh2) 400 (fun i => i ≤ c.members.toNat ∧ ∀ j, j < i → memYes c (tapeAt c x j) = true) (fun i => c.members.toNat - i) (0) ?kea2 ?keb2 ?_ ?_ ?_
  case kea2 => exact amN
  case keb2 => exact amN
  · exact ⟨Nat.zero_le _, fun j hj => absurd hj (Nat.not_lt_zero _)⟩
  · refine Le.auto [] (r0 := ?r03) (ren := ?ren3) ?ea3 ?eb3 ?a3 ?b3 ?c3 ?d3 ?ho3 ?hn3 ?ht3
    case ea3 => exact amR
    case eb3 => exact amR
    case a3 => exact rfl
    case b3 => exact rfl
    case c3 => exact rfl
    case d3 => exact rfl
    all_goals (try refine amL (h := ?_))
    all_goals (try with_reducible apply True.intro)
    exact ⟨boxLe2' (.refl _) (.refl _), boxLe (.nil _ _ _ _ _)⟩
  · intro i hi
    have hti := tapeAt_ok h (c := c) i
    (try refine am (h := ?_)); (try with_reducible apply True.intro)
    repeat' (first | (with_reducible refine And.intro ?_ ?_) | (with_reducible intro _))
    all_goals try (first | omega | with_reducible rfl | ((with_reducible refine eqId ?_); exact rfl) | with_reducible (first | assumption | exact pl ‹_› | exact pr ‹_› | exact plr ‹_› | exact pll ‹_› | exact prl ‹_› | exact plll ‹_› | exact prll ‹_›))
    · have hlt : i < c.members.toNat := by omega
      first | refine CallK.one (specMemberNew c (tapeAt c x i) _ _ _ false hc hti) (fun _ => amC) ?_ | refine CallE.one (specMemberNew c (tapeAt c x i) _ _ _ false hc hti) (fun _ => amC) rfl ?_ | refine CallG.one rfl (fun hg => specMemberNew c (tapeAt c x i) _ _ _ false hc hti) ?_ | refine CallEG.one rfl rfl (fun hg => specMemberNew c (tapeAt c x i) _ _ _ false hc hti) ?_
      (try refine am (h := ?_)); (try with_reducible apply True.intro)
      repeat' (first | (with_reducible refine And.intro ?_ ?_) | (with_reducible intro _))
      all_goals try (first | omega | with_reducible rfl | ((with_reducible refine eqId ?_); exact rfl) | with_reducible (first | assumption | exact pl ‹_› | exact pr ‹_› | exact plr ‹_› | exact pll ‹_› | exact prl ‹_› | exact plll ‹_› | exact prll ‹_›))
      · rename_i hx
        have en : ¬ forYesP c x := fun e => by
          have := e.2 i hlt
          rw [hx] at this
          cases this
        have e1 : forNew c x = ⟨[]⟩ := if_neg en
        have e2 : forTape c x = x := if_neg en
        rw [e1, e2, decide_eq_false en]
        first | refine CallK.one (l15CopyI x _ false h) (fun _ => amC) ?_ | refine CallE.one (l15CopyI x _ false h) (fun _ => amC) rfl ?_ | refine CallG.one rfl (fun hg => l15CopyI x _ false h) ?_ | refine CallEG.one rfl rfl (fun hg => l15CopyI x _ false h) ?_
        (try refine am (h := ?_)); (try with_reducible apply True.intro)
        repeat' (first | (with_reducible refine And.intro ?_ ?_) | (with_reducible intro _))
        all_goals try (first | omega | with_reducible rfl | ((with_reducible refine eqId ?_); exact rfl) | with_reducible (first | assumption | exact pl ‹_› | exact pr ‹_› | exact plr ‹_› | exact pll ‹_› | exact prl ‹_› | exact plll ‹_› | exact prll ‹_›))
        refine FinK.tup ?_ ?_
        all_goals (try refine amF (h := ?_))
        all_goals (try with_reducible apply True.intro)
        all_goals (first | exact .refl _ | exact .nil _ _ _ _ _ | exact ⟨.nil _ _ _ _ _, .refl _⟩ | skip)
      · rename_i hx
        refine ⟨i + 1, ?_, ⟨by omega, fun j hj => ?_⟩, by omega⟩
        · refine Le.auto [] (r0 := ?r04) (ren := ?ren4) ?ea4 ?eb4 ?a4 ?b4 ?c4 ?d4 ?ho4 ?hn4 ?ht4
          case ea4 => exact amR
          case eb4 => exact amR
          case a4 => exact rfl
          case b4 => exact rfl
          case c4 => exact rfl
          case d4 => exact rfl
          all_goals (try refine amL (h := ?_))
          all_goals (try with_reducible apply True.intro)
          refine ⟨boxLe2' (.refl _) (.refl _), boxLe (memRow (.inl rfl) rfl (fun j hj => ?_))⟩
          rw [fMember_at, memsAt_get c x hlt]
          exact .refl _
        · by_cases e : j = i
          · rw [e]; exact hx
          · exact hi.2 j (by omega)
    · have ei : i = c.members.toNat := by omega
      subst ei
      have en : forYesP c x := ⟨hk, hi.2⟩
      have e1 : forNew c x = ⟨memsAt c x⟩ := if_pos en
      have e2 : forTape c x = tapeAt c x c.members.toNat := if_pos en
      rw [e1, e2, decide_eq_true en]
      refine FinK.tup ?_ ?_
      all_goals (try refine amF (h := ?_))
      all_goals (try with_reducible apply True.intro)
      exact ALe.of (.inl rfl) (memsAt_len c x).symm (fun i hi j hj => .refl _)
end Go.AM
