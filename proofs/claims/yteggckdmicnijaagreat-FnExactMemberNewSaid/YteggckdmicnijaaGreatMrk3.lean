/- Lemmas for the proof of this claim. -/
import Derived.Test.YteggckdmicnijaaGreatMrk2
namespace Go.AM
open Go Go.Proofs
set_option maxRecDepth 100000
def byN (n : Int) : UInt8 := UInt8.ofNat (n % 256).toNat
theorem wrap_u8 (n : Int) : IntKind.u8.wrap n = ((byN n).toNat : Int) := by
  have e : (byN n).toNat = (n % 256).toNat % 256 := UInt8.toNat_ofNat' ..
  rw [e]
  show (if (false && decide (n % 256 ≥ 128)) = true then n % 256 - 256 else n % 256) = _
  rw [Bool.false_and, if_neg Bool.false_ne_true]
  omega
def mkBy (k : Int) (l : List UInt8) : List UInt8 := (List.range l.length).map fun (i : Nat) => byN (k + (i : Int))
theorem mkBy_len (k : Int) (l : List UInt8) : (mkBy k l).length = l.length := by simp [mkBy]
theorem mkBy_get (k : Int) (l : List UInt8) {i : Nat} (h : i < l.length) : (mkBy k l).getD i 0 = byN (k + (i : Int)) := by
  simp [mkBy, List.getD, h]
set_option maxHeartbeats 2000000 in
theorem markByteS (l : List UInt8) (k : Int) (nl : Option Bool) (h : l.length ≤ 2 ^ 47) (h0 : 0 ≤ k) (h1 : k + l.length ≤ 2 ^ 62) : AMut Tryz.prog 71 (.sl true nl 1 l.length (fB l)) [.one (.int .i64 k)] (aB true (mkBy k l)) (k + l.length) := by
  have hl := h
  have nt : Tryz.f71.ntmps = 20 := rfl
  refine AMut.of_run (m := 400) (t := 4) mixed Tryz.func71 rfl rfl (Nat.le_of_ble_eq_true rfl) rfl ?_
  simp only [nt]
  clear nt
  (try refine am (h := ?_)); (try with_reducible apply True.intro)
  repeat' (first | (with_reducible refine And.intro ?_ ?_) | (with_reducible intro _))
  all_goals try (first | omega | with_reducible rfl | ((with_reducible refine eqId ?_); exact rfl) | with_reducible (first | assumption | exact pl ‹_› | exact pr ‹_› | exact plr ‹_› | exact pll ‹_› | exact prl ‹_› | exact plll ‹_› | exact prll ‹_›))
  refine LoopK.auto (Nat) (fun i => [(5, .one (.av (.int .i64 i))), (1, .one (.av (.int .i64 (k + i))))]) (fun i => [(1, ⟨.sl true none 1 l.length (fun i' j => gl .junk (if i' < i then [.int .u8 ((byN (k + (i' : Int))).toNat : Int)] else [.int .u8 ((l.getD i' 0).toNat : Int)]) j), []⟩)]) [0] (k0 := ?k01) (keepH := ?kh1) 7 (fun i => i ≤ l.length) (fun i => l.length - i) (0) ?kea1 ?keb1 ?_ ?_ ?_
  case kea1 => exact amN
  case keb1 => exact amN
  · exact Nat.zero_le _
  · refine Le.of [(1, 1)] [] rfl rfl rfl rfl ?_ ?_ ?_
    all_goals (try refine amL (h := ?_))
    all_goals (try with_reducible apply True.intro)
    · exact ALe.of (.inl rfl) rfl (fun i hi j hj => by rw [if_neg (by omega)]; exact .refl _)
    · omega
  · intro i hi
    (try refine am (h := ?_)); (try simp only [wrap_u8]); (try refine am (h := ?_)); (try with_reducible apply True.intro)
    repeat' (first | (with_reducible refine And.intro ?_ ?_) | (with_reducible intro _))
    all_goals try (first | omega | with_reducible rfl | ((with_reducible refine eqId ?_); exact rfl) | with_reducible (first | assumption | exact pl ‹_› | exact pr ‹_› | exact plr ‹_› | exact pll ‹_› | exact prl ‹_› | exact plll ‹_› | exact prll ‹_›))
    · refine ⟨i + 1, ?_, by omega, by omega⟩
      refine Le.of [(1, 1)] [] rfl rfl rfl rfl ?_ ?_ ?_
      all_goals (try refine amL (h := ?_))
      all_goals (try with_reducible apply True.intro)
      · refine ALe.of (.inl rfl) rfl (fun i' hi' j hj => markRow (E := fun i' => [.int .u8 ((byN (k + (i' : Int))).toNat : Int)]) (G := fun i' => [.int .u8 ((l.getD i' 0).toNat : Int)]) hj rfl)
      · omega
    · refine FinK.mut (by (try refine am (h := ?_)); (try with_reducible apply True.intro)) ?_ ?_
      all_goals (try refine amF (h := ?_))
      all_goals (try with_reducible apply True.intro)
      refine ⟨ALe.of (.inl rfl) (mkBy_len k l).symm (fun i' hi' j hj => ?_), by omega⟩
      obtain rfl : j = 0 := by omega
      rw [if_pos (by omega)]
      show ALe (.int .u8 ((byN (k + (i' : Int))).toNat : Int)) (.int .u8 (((mkBy k l).getD i' 0).toNat : Int))
      rw [mkBy_get k l hi']
      exact .refl _
set_option maxHeartbeats 2000000 in
theorem heldB (l : List UInt8) (k : Int) (u : Bool) (nl : Option Bool) (h : l.length ≤ 2 ^ 47) (h0 : 0 ≤ k) (h1 : k + l.length ≤ 2 ^ 62) : ACalls Tryz.prog 74 [.one (.sl u nl 1 (mkBy k l).length (fB (mkBy k l))), .one (.int .i64 k)] (fun r => r = .val (.one (.int .i64 (k + l.length)))) := by
  have hml := mkBy_len k l
  have hl2 : (mkBy k l).length ≤ 2 ^ 47 := by omega
  have nt : Tryz.f74.ntmps = 22 := rfl
  have rs : Tryz.f74.results = #[.tmp 4] := rfl
  refine ACalls.of_run (m := 400) mixed Tryz.func74 rfl rfl (Nat.le_of_ble_eq_true rfl) ?_
  simp only [nt, rs]
  clear nt rs
  (try refine am (h := ?_)); (try with_reducible apply True.intro)
  repeat' (first | (with_reducible refine And.intro ?_ ?_) | (with_reducible intro _))
  all_goals try (first | omega | with_reducible rfl | ((with_reducible refine eqId ?_); exact rfl) | with_reducible (first | assumption | exact pl ‹_› | exact pr ‹_› | exact plr ‹_› | exact pll ‹_› | exact prl ‹_› | exact plll ‹_› | exact prll ‹_›))
  refine LoopK.auto (Nat) (fun i => [(5, .one (.av (.int .i64 i))), (1, .one (.av (.int .i64 (k + i))))]) (fun i => []) [0] (k0 := ?k02) (keepH := ?kh2) 7 (fun i => i ≤ l.length) (fun i => l.length - i) (0) ?kea2 ?keb2 ?_ ?_ ?_
  case kea2 => exact amN
  case keb2 => exact amN
  · exact Nat.zero_le _
  · refine Le.of [] [] rfl rfl rfl rfl ?_ ?_ ?_
    all_goals (try refine amL (h := ?_))
    all_goals (try with_reducible apply True.intro)
    omega
  · intro i hi
    (try refine am (h := ?_)); (try with_reducible apply True.intro)
    refine ⟨fun hlt => ?_, fun hlt => ?_⟩
    · have hlt' : i < l.length := by omega
      have hg : (mkBy k l).getD i 0 = byN (k + (i : Int)) := mkBy_get k l hlt'
      (try refine am (h := ?_)); (try simp only [hg, wrap_u8]); (try refine am (h := ?_)); (try with_reducible apply True.intro)
      repeat' (first | (with_reducible refine And.intro ?_ ?_) | (with_reducible intro _))
      all_goals try (first | omega | with_reducible rfl | ((with_reducible refine eqId ?_); exact rfl) | with_reducible (first | assumption | exact pl ‹_› | exact pr ‹_› | exact plr ‹_› | exact pll ‹_› | exact prl ‹_› | exact plll ‹_› | exact prll ‹_›))
      refine ⟨i + 1, ?_, by omega, by omega⟩
      refine Le.of [] [] rfl rfl rfl rfl ?_ ?_ ?_
      all_goals (try refine amL (h := ?_))
      all_goals (try with_reducible apply True.intro)
      omega
    · refine FinK.val1 ?_ ?_
      all_goals (try refine amF (h := ?_))
      all_goals (try with_reducible apply True.intro)
      omega
set_option maxHeartbeats 2000000 in
theorem heldTape (x : DTape) (k : Int) (u v : Bool) (h : x.bytes.length ≤ 2 ^ 47) (h0 : 0 ≤ k) (h1 : k + x.bytes.length ≤ 2 ^ 62) : ACalls Tryz.prog 22 [.agg [aB u (mkBy k x.bytes), .int .i64 x.at_], .one (.int .i64 k)] (fun r => r = .val (.one (.int .i64 (k + x.bytes.length)))) := by
  have nt : Tryz.f22.ntmps = 12 := rfl
  have rs : Tryz.f22.results = #[.tmp 4] := rfl
  refine ACalls.of_run (m := 400) mixed Tryz.func22 rfl rfl (Nat.le_of_ble_eq_true rfl) ?_
  simp only [nt, rs]
  clear nt rs
  (try refine am (h := ?_)); (try with_reducible apply True.intro)
  first | refine CallK.one (heldB x.bytes k _ none h h0 h1) (fun _ => amC) ?_ | refine CallE.one (heldB x.bytes k _ none h h0 h1) (fun _ => amC) rfl ?_ | refine CallG.one rfl (fun hg => heldB x.bytes k _ none h h0 h1) ?_ | refine CallEG.one rfl rfl (fun hg => heldB x.bytes k _ none h h0 h1) ?_
  (try refine am (h := ?_)); (try with_reducible apply True.intro)
  repeat' (first | (with_reducible refine And.intro ?_ ?_) | (with_reducible intro _))
  all_goals try (first | omega | with_reducible rfl | ((with_reducible refine eqId ?_); exact rfl) | with_reducible (first | assumption | exact pl ‹_› | exact pr ‹_› | exact plr ‹_› | exact pll ‹_› | exact prl ‹_› | exact plll ‹_› | exact prll ‹_›))
  refine FinK.val1 ?_ ?_
  all_goals (try refine amF (h := ?_))
  all_goals (try with_reducible apply True.intro)
set_option maxHeartbeats 2000000 in
theorem heldMember (x : DMember) (k : Int) (u v : Bool) (h : okMember (2 ^ 47) x) (h0 : 0 ≤ k) (h1 : k + sm nNode x.tree.nodes + sm nNode x.young.nodes + tot x.det.warn + tot x.det.drift ≤ 2 ^ 62) : ACalls Tryz.prog 21 [.agg [aNode u v (mkNs k x.tree.nodes), .int .i64 x.tree.seen, .bool x.hasYoung, aNode u v (mkNs (k + sm nNode x.tree.nodes) x.young.nodes), .int .i64 x.young.seen, aL u v (mkL (k + sm nNode x.tree.nodes + sm nNode x.young.nodes) x.det.warn), aL u v (mkL (k + sm nNode x.tree.nodes + sm nNode x.young.nodes + tot x.det.warn) x.det.drift)], .one (.int .i64 k)] (fun r => r = .val (.one (.int .i64 (k + sm nNode x.tree.nodes + sm nNode x.young.nodes + tot x.det.warn + tot x.det.drift)))) := by
  have nt : Tryz.f21.ntmps = 24 := rfl
  have rs : Tryz.f21.results = #[.tmp 4] := rfl
  refine ACalls.of_run (m := 400) mixed Tryz.func21 rfl rfl (Nat.le_of_ble_eq_true rfl) ?_
  simp only [nt, rs]
  clear nt rs
  (try refine am (h := ?_)); (try with_reducible apply True.intro)
  first | refine CallK.one (heldTree x.tree k _ _ h.1.1 h0 (by omega)) (fun _ => amC) ?_ | refine CallE.one (heldTree x.tree k _ _ h.1.1 h0 (by omega)) (fun _ => amC) rfl ?_ | refine CallG.one rfl (fun hg => heldTree x.tree k _ _ h.1.1 h0 (by omega)) ?_ | refine CallEG.one rfl rfl (fun hg => heldTree x.tree k _ _ h.1.1 h0 (by omega)) ?_
  (try refine am (h := ?_)); (try with_reducible apply True.intro)
  repeat' (first | (with_reducible refine And.intro ?_ ?_) | (with_reducible intro _))
  all_goals try (first | omega | with_reducible rfl | ((with_reducible refine eqId ?_); exact rfl) | with_reducible (first | assumption | exact pl ‹_› | exact pr ‹_› | exact plr ‹_› | exact pll ‹_› | exact prl ‹_› | exact plll ‹_› | exact prll ‹_›))
  first | refine CallK.one (heldTree x.young (k + sm nNode x.tree.nodes) _ _ h.2.2.1.1 (by omega) (by omega)) (fun _ => amC) ?_ | refine CallE.one (heldTree x.young (k + sm nNode x.tree.nodes) _ _ h.2.2.1.1 (by omega) (by omega)) (fun _ => amC) rfl ?_ | refine CallG.one rfl (fun hg => heldTree x.young (k + sm nNode x.tree.nodes) _ _ h.2.2.1.1 (by omega) (by omega)) ?_ | refine CallEG.one rfl rfl (fun hg => heldTree x.young (k + sm nNode x.tree.nodes) _ _ h.2.2.1.1 (by omega) (by omega)) ?_
  (try refine am (h := ?_)); (try with_reducible apply True.intro)
  repeat' (first | (with_reducible refine And.intro ?_ ?_) | (with_reducible intro _))
  all_goals try (first | omega | with_reducible rfl | ((with_reducible refine eqId ?_); exact rfl) | with_reducible (first | assumption | exact pl ‹_› | exact pr ‹_› | exact plr ‹_› | exact pll ‹_› | exact prl ‹_› | exact plll ‹_› | exact prll ‹_›))
  first | refine CallK.one (heldDet x.det (k + sm nNode x.tree.nodes + sm nNode x.young.nodes) _ _ h.2.2.2 (by omega) (by omega)) (fun _ => amC) ?_ | refine CallE.one (heldDet x.det (k + sm nNode x.tree.nodes + sm nNode x.young.nodes) _ _ h.2.2.2 (by omega) (by omega)) (fun _ => amC) rfl ?_ | refine CallG.one rfl (fun hg => heldDet x.det (k + sm nNode x.tree.nodes + sm nNode x.young.nodes) _ _ h.2.2.2 (by omega) (by omega)) ?_ | refine CallEG.one rfl rfl (fun hg => heldDet x.det (k + sm nNode x.tree.nodes + sm nNode x.young.nodes) _ _ h.2.2.2 (by omega) (by omega)) ?_
  (try refine am (h := ?_)); (try with_reducible apply True.intro)
  repeat' (first | (with_reducible refine And.intro ?_ ?_) | (with_reducible intro _))
  all_goals try (first | omega | with_reducible rfl | ((with_reducible refine eqId ?_); exact rfl) | with_reducible (first | assumption | exact pl ‹_› | exact pr ‹_› | exact plr ‹_› | exact pll ‹_› | exact prl ‹_› | exact plll ‹_› | exact prll ‹_›))
  refine FinK.val1 ?_ ?_
  all_goals (try refine amF (h := ?_))
  all_goals (try with_reducible apply True.intro)
end Go.AM
