/- Lemmas for the proof of this claim. -/
import Derived.Test.YteggckdmicnijaaGreatMrk2
namespace Go.AM
open Go Go.Proofs
set_option maxRecDepth 100000
def byN (n : Int) : UInt8 := UInt8.ofNat (n % 256).toNat
theorem wrap_u8 (n : Int) : IntKind.u8.wrap n = ((byN n).toNat : Int) := by
  have e : (byN n).toNat = (n % 256).toNat % 256 := UInt8.toNat_ofNat' ..
  rw [e]
  show (if (false && decide (n % 256 ≥ 128)) = true then n % 256 - 256 else n % 256) = _
  rw [Bool.false_and, if_neg Bool.false_ne_true]
  omega
def mkBy (k : Int) (l : List UInt8) : List UInt8 := (List.range l.length).map fun (i : Nat) => byN (k + (i : Int))
theorem mkBy_len (k : Int) (l : List UInt8) : (mkBy k l).length = l.length := by simp [mkBy]
theorem mkBy_get (k : Int) (l : List UInt8) {i : Nat} (h : i < l.length) : (mkBy k l).getD i 0 = byN (k + (i : Int)) := by
  simp [mkBy, List.getD, h]
set_option maxHeartbeats 2000000 in
theorem markByteS (l : List UInt8) (k : Int) (nl : Option Bool) (h : l.length ≤ 2 ^ 47) (h0 : 0 ≤ k) (h1 : k + l.length ≤ 2 ^ 62) : AMut Tryz.prog 71 (.sl true nl 1 l.length (fB l)) [.one (.int .i64 k)] (aB true (mkBy k l)) (k + l.length) := by
  have hl := h
  have nt : Tryz.f71.ntmps = 20 := rfl
  refine AMut.of_run (m := 400) (t := 4) mixed Tryz.func71 rfl rfl (Nat.le_of_ble_eq_true rfl) rfl ?_
  simp only [nt]
  clear nt
  (try refine am (h := ?_)); (try with_reducible apply True.intro)
  repeat' (first | (with_reducible refine And.intro ?_ ?_) | (with_reducible intro _))
  all_goals try (first | omega | with_reducible rfl | ((with_reducible refine eqId ?_); exact rfl) | with_reducible (first | assumption | exact pl ‹_› | exact pr ‹_› | exact plr ‹_› | exact pll ‹_› | exact prl ‹_› | exact plll ‹_› | exact prll ‹_›))
  refine LoopK.auto (Nat) (fun i => [(5, .one (.av (.int .i64 i))), (1, .one (.av (.int .i64 (k + i))))]) (fun i => [(1, ⟨.sl true none 1 l.length (fun i' j => gl .junk (if i' < i then [.int .u8 ((byN (k + (i' : Int))).toNat : Int)] else [.int .u8 ((l.getD i' 0).toNat : Int)]) j), []⟩)]) [0] (k0 := ?k01) (keepH := ?kh1) 7 (fun i => i ≤ l.length) (fun i => l.length - i) (0) ?kea1 ?keb1 ?_ ?_ ?_
  case kea1 => exact amN
  case keb1 => exact amN
  · exact Nat.zero_le _
  · refine Le.of [(1, 1)] [] rfl rfl rfl rfl ?_ ?_ ?_
    all_goals (try refine amL (h := ?_))
    all_goals (try with_reducible apply True.intro)
    · exact ALe.of (.inl rfl) rfl (fun i hi j hj => by rw [if_neg (by omega)]; exact .refl _)
    · omega
  · intro i hi
    (try refine am (h := ?_)); (try simp only [wrap_u8]); (try refine am (h := ?_)); (try with_reducible apply True.intro)
    repeat' (first | (with_reducible refine And.intro ?_ ?_) | (with_reducible intro _))
    all_goals try (first | omega | with_reducible rfl | ((with_reducible refine eqId ?_); exact rfl) | with_reducible (first | assumption | exact pl ‹_› | exact pr ‹_› | exact plr ‹_› | exact pll ‹_› | exact prl ‹_› | exact plll ‹_› | exact prll ‹_›))
    · refine ⟨i + 1, ?_, by omega, by omega⟩
      refine Le.of [(1, 1)] [] rfl rfl rfl rfl ?_ ?_ ?_
      all_goals (try refine amL (h := ?_))
      all_goals (try with_reducible apply True.intro)
      · refine ALe.of (.inl rfl) rfl (fun i' hi' j hj => markRow (E := fun i' => [.int .u8 ((byN (k + (i' : Int))).toNat : Int)]) (G := fun i' => [.int .u8 ((l.getD i' 0).toNat : Int)]) hj rfl)
      · omega
    · refine FinK.mut (by (try refine am (h := ?_)); (try with_reducible apply True.intro)) ?_ ?_
      all_goals (try refine amF (h := ?_))
      all_goals (try with_reducible apply True.intro)
      refine ⟨ALe.of (.inl rfl) (mkBy_len k l).symm (fun i' hi' j hj => ?_), by omega⟩
      obtain rfl : j = 0 := by omega
      rw [if_pos (by omega)]
      show ALe (.int .u8 ((byN (k + (i' : Int))).toNat : Int)) (.int .u8 (((mkBy k l).getD i' 0).toNat : Int))
      rw [mkBy_get k l hi']
      exact .refl _
set_option maxHeartbeats 2000000 in
theorem heldB (l : List UInt8) (k : Int) (u : Bool) (nl : Option Bool) (h : l.length ≤ 2 ^ 47) (h0 : 0 ≤ k) (h1 : k + l.length ≤ 2 ^ 62) : ACalls Tryz.prog 74 [.one (.sl u nl 1 (mkBy k l).length (fB (mkBy k l))), .one (.int .i64 k)] (fun r => r = .val (.one (.int .i64 (k + l.length)))) := by
  have hml := mkBy_len k l
  have hl2 : (mkBy k l).length ≤ 2 ^ 47 := by omega
  have nt : Tryz.f74.ntmps = 22 := rfl
  have rs : Tryz.f74.results = #[.tmp 4] := rfl
  refine ACalls.of_run (m := 400) mixed Tryz.func74 rfl rfl (Nat.le_of_ble_eq_true rfl) ?_
  simp only [nt, rs]
  clear nt rs
  (try refine am (h := ?_)); (try with_reducible apply True.intro)
  repeat' (first | (with_reducible refine And.intro ?_ ?_) | (with_reducible intro _))
  all_goals try (first | omega | with_reducible rfl | ((with_reducible refine eqId ?_); exact rfl) | with_reducible (first | assumption | exact pl ‹_› | exact pr ‹_› | exact plr ‹_› | exact pll ‹_› | exact prl ‹_› | exact plll ‹_› | exact prll ‹_›))
  refine LoopK.auto (Nat) (fun i => [(5, .one (.av (.int .i64 i))), (1, .one (.av (.int .i64 (k + i))))]) (fun i => []) [0] (k0 := ?k02) (keepH := ?kh2) 7 (fun i => i ≤ l.length) (fun i => l.length - i) (0) ?kea2 ?keb2 ?_ ?_ ?_
  case kea2 => exact amN
  case keb2 => exact amN
  · exact Nat.zero_le _
  · refine Le.of [] [] rfl rfl rfl rfl ?_ ?_ ?_
    all_goals (try refine amL (h := ?_))
    all_goals (try with_reducible apply True.intro)
    omega
  · intro i hi
    (try refine am (h := ?_)); (try with_reducible apply True.intro)
    refine ⟨fun hlt => ?_, fun hlt => ?_⟩
    · have hlt' : i < l.length := by omega
      have hg : (mkBy k l).getD i 0 = byN (k + (i : Int)) := mkBy_get k l hlt'
      (try refine am (h := ?_)); (try simp only [hg, wrap_u8]); (try refine am (h := ?_)); (try with_reducible apply True.intro)
      repeat' (first | (with_reducible refine And.intro ?_ ?_) | (with_reducible intro _))
      all_goals try (first | omega | with_reducible rfl | ((with_reducible refine eqId ?_); exact rfl) | with_reducible (first | assumption | exact pl ‹_› | exact pr ‹_› | exact plr ‹_› | exact pll ‹_› | exact prl ‹_› | exact plll ‹_› | exact prll ‹_›))
      refine ⟨i + 1, ?_, by omega, by omega⟩
      refine Le.of [] [] rfl rfl rfl rfl ?_ ?_ ?_
      all_goals (try refine amL (h := ?_))
      all_goals (try with_reducible apply True.intro)
      omega
    · refine FinK.val1 ?_ ?_
      all_goals (try refine amF (h := ?_))
      all_goals (try with_reducible apply True.intro)
      omega
set_option maxHeartbeats 2000000 in
theorem heldTape (x : DTape) (k : Int) (u v : Bool) (h : x.bytes.length ≤ 2 ^ 47) (h0 : 0 ≤ k) (h1 : k + x.bytes.length ≤ 2 ^ 62) : ACalls Tryz.prog 22 [.agg [aB u (mkBy k x.bytes), .int .i64 x.at_], .one (.int .i64 k)] (fun r => r = .val (.one (.int .i64 (k + x.bytes.length)))) := by
  have nt : Tryz.f22.ntmps = 12 := rfl
  have rs : Tryz.f22.results = #[.tmp 4] := rfl
  refine ACalls.of_run (m := 400) mixed Tryz.func22 rfl rfl (Nat.le_of_ble_eq_true rfl) ?_
  simp only [nt, rs]
  clear nt rs
  (try refine am (h := ?_)); (try with_reducible apply True.intro)
  first | refine CallK.one (heldB x.bytes k _ none h h0 h1) (fun _ => amC) ?_ | refine CallE.one (heldB x.bytes k _ none h h0 h1) (fun _ => amC) rfl ?_ | refine CallG.one rfl (fun hg => heldB x.bytes k _ none h h0 h1) ?_ | refine CallEG.one rfl rfl (fun hg => heldB x.bytes k _ none h h0 h1) ?_
  (try refine am (h := ?_)); (try with_reducible apply True.intro)
  repeat' (first | (with_reducible refine And.intro ?_ ?_) | (with_reducible intro _))
  all_goals try (first | omega | with_reducible rfl | ((with_reducible refine eqId ?_); exact rfl) | with_reducible (first | assumption | exact pl ‹_› | exact pr ‹_› | exact plr ‹_› | exact pll ‹_› | exact prl ‹_› | exact plll ‹_› | exact prll ‹_›))
  refine FinK.val1 ?_ ?_
  all_goals (try refine amF (h := ?_))
  all_goals (try with_reducible apply True.intro)
set_option maxHeartbeats 4000000 in
theorem heldMs (l : List DMember) (k : Int) (u v : Bool) (nl : Option Bool) (h : okMemberS (2 ^ 47) l) (h0 : 0 ≤ k) (h1 : k + sm nMember l ≤ 2 ^ 62) : ACalls Tryz.prog 77 [.one (.sl u nl 7 (mkMs k l).length (fMember v (mkMs k l))), .one (.int .i64 k)] (fun r => r = .val (.one (.int .i64 (k + sm nMember l)))) := by
  have hl := h.1
  have hml := mkMs_len k l
  have hl2 : (mkMs k l).length ≤ 2 ^ 47 := by omega
  have nt : Tryz.f77.ntmps = 86 := rfl
  have rs : Tryz.f77.results = #[.tmp 4] := rfl
  refine ACalls.of_run (m := 400) mixed Tryz.func77 rfl rfl (Nat.le_of_ble_eq_true rfl) ?_
  simp only [nt, rs]
  clear nt rs
  (try refine am (h := ?_)); (try with_reducible apply True.intro)
  repeat' (first | (with_reducible refine And.intro ?_ ?_) | (with_reducible intro _))
  all_goals try (first | omega | with_reducible rfl | ((with_reducible refine eqId ?_); exact rfl) | with_reducible (first | assumption | exact pl ‹_› | exact pr ‹_› | exact plr ‹_› | exact pll ‹_› | exact prl ‹_› | exact plll ‹_› | exact prll ‹_›))
  refine LoopK.auto (Nat) (fun i => [(5, .one (.av (.int .i64 i))), (1, .one (.av (.int .i64 (k + (sm nMember (l.take i) : Nat)))))]) (fun i => []) [0] (k0 := ?k03) (keepH := ?kh3) 7 (fun i => i ≤ l.length) (fun i => l.length - i) (0) ?kea3 ?keb3 ?_ ?_ ?_
  case kea3 => exact amN
  case keb3 => exact amN
  · exact Nat.zero_le _
  · refine Le.of [] [] rfl rfl rfl rfl ?_ ?_ ?_
    all_goals (try refine amL (h := ?_))
    all_goals (try with_reducible apply True.intro)
    simp [sm]
  · intro i hi
    (try refine am (h := ?_)); (try with_reducible apply True.intro)
    refine ⟨fun hlt => ?_, fun hlt => ?_⟩
    · have hlt' : i < l.length := by omega
      have hs := sm_take (f := nMember) (d := default) hlt'
      have hp := sm_pre (sz := nMember) (d := default) l hlt'
      have hn : nMember (l.getD i default) = sm nNode (l.getD i default).tree.nodes + 3 + sm nNode (l.getD i default).young.nodes + tot (l.getD i default).det.warn + tot (l.getD i default).det.drift := rfl
      obtain ⟨⟨ht, _⟩, _, ⟨hy, _⟩, hw, hd⟩ := h.2 _ (getD_mem (d := default) hlt')
      have hg : (mkMs k l).getD i default = mkMember (k + (sm nMember (l.take i) : Nat)) (l.getD i default) := mkSq_get k l hlt'
      generalize hK : k + ((sm nMember (l.take i) : Nat) : Int) = K at *
      (try refine am (h := ?_)); (try simp only [hg, mkMember]); (try refine am (h := ?_)); (try with_reducible apply True.intro)
      (try refine am (h := ?_)); (try simp only [hg, mkMember]); (try refine am (h := ?_)); (try with_reducible apply True.intro)
      repeat' (first | (with_reducible refine And.intro ?_ ?_) | (with_reducible intro _))
      all_goals try (first | omega | with_reducible rfl | ((with_reducible refine eqId ?_); exact rfl) | with_reducible (first | assumption | exact pl ‹_› | exact pr ‹_› | exact plr ‹_› | exact pll ‹_› | exact prl ‹_› | exact plll ‹_› | exact prll ‹_›))
      first | refine CallK.one (heldN (l.getD i default).tree.nodes K v v none ht (by omega) (by omega)) (fun _ => amC) ?_ | refine CallE.one (heldN (l.getD i default).tree.nodes K v v none ht (by omega) (by omega)) (fun _ => amC) rfl ?_ | refine CallG.one rfl (fun hg => heldN (l.getD i default).tree.nodes K v v none ht (by omega) (by omega)) ?_ | refine CallEG.one rfl rfl (fun hg => heldN (l.getD i default).tree.nodes K v v none ht (by omega) (by omega)) ?_
      (try refine am (h := ?_)); (try with_reducible apply True.intro)
      (try refine am (h := ?_)); (try simp only [hg, mkMember]); (try refine am (h := ?_)); (try with_reducible apply True.intro)
      (try refine am (h := ?_)); (try simp only [hg, mkMember]); (try refine am (h := ?_)); (try with_reducible apply True.intro)
      repeat' (first | (with_reducible refine And.intro ?_ ?_) | (with_reducible intro _))
      all_goals try (first | omega | with_reducible rfl | ((with_reducible refine eqId ?_); exact rfl) | with_reducible (first | assumption | exact pl ‹_› | exact pr ‹_› | exact plr ‹_› | exact pll ‹_› | exact prl ‹_› | exact plll ‹_› | exact prll ‹_›))
      first | refine CallK.one (heldN (l.getD i default).young.nodes (K + sm nNode (l.getD i default).tree.nodes + 1 + 1) v v none hy (by omega) (by omega)) (fun _ => amC) ?_ | refine CallE.one (heldN (l.getD i default).young.nodes (K + sm nNode (l.getD i default).tree.nodes + 1 + 1) v v none hy (by omega) (by omega)) (fun _ => amC) rfl ?_ | refine CallG.one rfl (fun hg => heldN (l.getD i default).young.nodes (K + sm nNode (l.getD i default).tree.nodes + 1 + 1) v v none hy (by omega) (by omega)) ?_ | refine CallEG.one rfl rfl (fun hg => heldN (l.getD i default).young.nodes (K + sm nNode (l.getD i default).tree.nodes + 1 + 1) v v none hy (by omega) (by omega)) ?_
      (try refine am (h := ?_)); (try with_reducible apply True.intro)
      (try refine am (h := ?_)); (try simp only [hg, mkMember]); (try refine am (h := ?_)); (try with_reducible apply True.intro)
      (try refine am (h := ?_)); (try simp only [hg, mkMember]); (try refine am (h := ?_)); (try with_reducible apply True.intro)
      repeat' (first | (with_reducible refine And.intro ?_ ?_) | (with_reducible intro _))
      all_goals try (first | omega | with_reducible rfl | ((with_reducible refine eqId ?_); exact rfl) | with_reducible (first | assumption | exact pl ‹_› | exact pr ‹_› | exact plr ‹_› | exact pll ‹_› | exact prl ‹_› | exact plll ‹_› | exact prll ‹_›))
      first | refine CallK.one (heldL (l.getD i default).det.warn (K + sm nNode (l.getD i default).tree.nodes + 1 + 1 + sm nNode (l.getD i default).young.nodes + 1) v v none hw (by omega) (by omega)) (fun _ => amC) ?_ | refine CallE.one (heldL (l.getD i default).det.warn (K + sm nNode (l.getD i default).tree.nodes + 1 + 1 + sm nNode (l.getD i default).young.nodes + 1) v v none hw (by omega) (by omega)) (fun _ => amC) rfl ?_ | refine CallG.one rfl (fun hg => heldL (l.getD i default).det.warn (K + sm nNode (l.getD i default).tree.nodes + 1 + 1 + sm nNode (l.getD i default).young.nodes + 1) v v none hw (by omega) (by omega)) ?_ | refine CallEG.one rfl rfl (fun hg => heldL (l.getD i default).det.warn (K + sm nNode (l.getD i default).tree.nodes + 1 + 1 + sm nNode (l.getD i default).young.nodes + 1) v v none hw (by omega) (by omega)) ?_
      (try refine am (h := ?_)); (try with_reducible apply True.intro)
      (try refine am (h := ?_)); (try simp only [hg, mkMember]); (try refine am (h := ?_)); (try with_reducible apply True.intro)
      (try refine am (h := ?_)); (try simp only [hg, mkMember]); (try refine am (h := ?_)); (try with_reducible apply True.intro)
      repeat' (first | (with_reducible refine And.intro ?_ ?_) | (with_reducible intro _))
      all_goals try (first | omega | with_reducible rfl | ((with_reducible refine eqId ?_); exact rfl) | with_reducible (first | assumption | exact pl ‹_› | exact pr ‹_› | exact plr ‹_› | exact pll ‹_› | exact prl ‹_› | exact plll ‹_› | exact prll ‹_›))
      first | refine CallK.one (heldL (l.getD i default).det.drift (K + sm nNode (l.getD i default).tree.nodes + 1 + 1 + sm nNode (l.getD i default).young.nodes + 1 + tot (l.getD i default).det.warn) v v none hd (by omega) (by omega)) (fun _ => amC) ?_ | refine CallE.one (heldL (l.getD i default).det.drift (K + sm nNode (l.getD i default).tree.nodes + 1 + 1 + sm nNode (l.getD i default).young.nodes + 1 + tot (l.getD i default).det.warn) v v none hd (by omega) (by omega)) (fun _ => amC) rfl ?_ | refine CallG.one rfl (fun hg => heldL (l.getD i default).det.drift (K + sm nNode (l.getD i default).tree.nodes + 1 + 1 + sm nNode (l.getD i default).young.nodes + 1 + tot (l.getD i default).det.warn) v v none hd (by omega) (by omega)) ?_ | refine CallEG.one rfl rfl (fun hg => heldL (l.getD i default).det.drift (K + sm nNode (l.getD i default).tree.nodes + 1 + 1 + sm nNode (l.getD i default).young.nodes + 1 + tot (l.getD i default).det.warn) v v none hd (by omega) (by omega)) ?_
      (try refine am (h := ?_)); (try with_reducible apply True.intro)
      (try refine am (h := ?_)); (try simp only [hg, mkMember]); (try refine am (h := ?_)); (try with_reducible apply True.intro)
      (try refine am (h := ?_)); (try simp only [hg, mkMember]); (try refine am (h := ?_)); (try with_reducible apply True.intro)
      repeat' (first | (with_reducible refine And.intro ?_ ?_) | (with_reducible intro _))
      all_goals try (first | omega | with_reducible rfl | ((with_reducible refine eqId ?_); exact rfl) | with_reducible (first | assumption | exact pl ‹_› | exact pr ‹_› | exact plr ‹_› | exact pll ‹_› | exact prl ‹_› | exact plll ‹_› | exact prll ‹_›))
      refine ⟨i + 1, ?_, by omega, by omega⟩
      refine Le.of [] [] rfl rfl rfl rfl ?_ ?_ ?_
      all_goals (try refine amL (h := ?_))
      all_goals (try with_reducible apply True.intro)
      omega
    · refine FinK.val1 ?_ ?_
      all_goals (try refine amF (h := ?_))
      all_goals (try with_reducible apply True.intro)
      rw [List.take_of_length_le (by omega)]
set_option maxHeartbeats 2000000 in
theorem heldForest (x : DForest) (k : Int) (u v : Bool) (h : okForest (2 ^ 47) x) (h0 : 0 ≤ k) (h1 : k + sm nMember x.members ≤ 2 ^ 62) : ACalls Tryz.prog 27 [.agg [aMember u v (mkMs k x.members)], .one (.int .i64 k)] (fun r => r = .val (.one (.int .i64 (k + sm nMember x.members)))) := by
  have nt : Tryz.f27.ntmps = 12 := rfl
  have rs : Tryz.f27.results = #[.tmp 4] := rfl
  refine ACalls.of_run (m := 400) mixed Tryz.func27 rfl rfl (Nat.le_of_ble_eq_true rfl) ?_
  simp only [nt, rs]
  clear nt rs
  (try refine am (h := ?_)); (try with_reducible apply True.intro)
  first | refine CallK.one (heldMs x.members k _ _ none h h0 h1) (fun _ => amC) ?_ | refine CallE.one (heldMs x.members k _ _ none h h0 h1) (fun _ => amC) rfl ?_ | refine CallG.one rfl (fun hg => heldMs x.members k _ _ none h h0 h1) ?_ | refine CallEG.one rfl rfl (fun hg => heldMs x.members k _ _ none h h0 h1) ?_
  (try refine am (h := ?_)); (try with_reducible apply True.intro)
  repeat' (first | (with_reducible refine And.intro ?_ ?_) | (with_reducible intro _))
  all_goals try (first | omega | with_reducible rfl | ((with_reducible refine eqId ?_); exact rfl) | with_reducible (first | assumption | exact pl ‹_› | exact pr ‹_› | exact plr ‹_› | exact pll ‹_› | exact prl ‹_› | exact plll ‹_› | exact prll ‹_›))
  refine FinK.val1 ?_ ?_
  all_goals (try refine amF (h := ?_))
  all_goals (try with_reducible apply True.intro)
end Go.AM
