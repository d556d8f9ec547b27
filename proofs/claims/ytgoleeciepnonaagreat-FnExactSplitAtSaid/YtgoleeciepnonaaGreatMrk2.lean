/- Lemmas for the proof of this claim. -/
import Derived.Test.YtgoleeciepnonaaGreatMark
import Derived.Test.YtgoleeciepnonaaGreatTy
import Derived.Test.YtgoleeciepnonaaGreatAm4
namespace Go.AM
open Go Go.Proofs
set_option maxRecDepth 100000
set_option maxHeartbeats 4000000 in
theorem heldN (l : List DNode) (k : Int) (u v : Bool) (nl : Option Bool) (h : okNodeS (2 ^ 47) l) (h0 : 0 ≤ k) (h1 : k + sm nNode l ≤ 2 ^ 62) : ACalls Tryz.prog 81 [.one (.sl u nl 12 (mkNs k l).length (fNode v (mkNs k l))), .one (.int .i64 k)] (fun r => r = .val (.one (.int .i64 (k + sm nNode l)))) := by
  have hl := h.1
  have hml := mkNs_len k l
  have hl2 : (mkNs k l).length ≤ 2 ^ 47 := by omega
  have nt : Tryz.f81.ntmps = 127 := rfl
  have rs : Tryz.f81.results = #[.tmp 4] := rfl
  refine ACalls.of_run (m := 400) mixed Tryz.func81 rfl rfl (Nat.le_of_ble_eq_true rfl) ?_
  simp only [nt, rs]
  clear nt rs
  (try refine am (h := ?_)); (try with_reducible apply True.intro)
  repeat' (first | (with_reducible refine And.intro ?_ ?_) | (with_reducible intro _))
  all_goals try (first | omega | with_reducible rfl | ((with_reducible refine eqId ?_); exact rfl) | with_reducible (first | assumption | exact pl ‹_› | exact pr ‹_› | exact plr ‹_› | exact pll ‹_› | exact prl ‹_› | exact plll ‹_› | exact prll ‹_›))
  refine LoopK.auto (Nat) (fun i => [(5, .one (.av (.int .i64 i))), (1, .one (.av (.int .i64 (k + (sm nNode (l.take i) : Nat)))))]) (fun i => []) [0] (k0 := ?k01) (keepH := ?kh1) 7 (fun i => i ≤ l.length) (fun i => l.length - i) (0) ?kea1 ?keb1 ?_ ?_ ?_
  case kea1 => exact amN
  case keb1 => exact amN
  · exact Nat.zero_le _
  · refine Le.of [] [] rfl rfl rfl rfl ?_ ?_ ?_
    all_goals (try refine amL (h := ?_))
    all_goals (try with_reducible apply True.intro)
    simp [sm]
  · intro i hi
    (try refine am (h := ?_)); (try with_reducible apply True.intro)
    refine ⟨fun hlt => ?_, fun hlt => ?_⟩
    · have hlt' : i < l.length := by omega
      have hs := sm_take (f := nNode) (d := default) hlt'
      have hp := sm_pre (sz := nNode) (d := default) l hlt'
      have hn : nNode (l.getD i default) = 8 + (l.getD i default).kids.length + (l.getD i default).stats.totals.length + tot (l.getD i default).stats.cells + (l.getD i default).attrs.length := rfl
      obtain ⟨_, _, hk, _, ⟨ht, hc⟩, _, ha, _⟩ := h.2 _ (getD_mem (d := default) hlt')
      have hg : (mkNs k l).getD i default = mkNode (k + (sm nNode (l.take i) : Nat)) (l.getD i default) := mkSq_get k l hlt'
      generalize hK : k + ((sm nNode (l.take i) : Nat) : Int) = K at *
      (try refine am (h := ?_)); (try simp only [hg, mkNode]); (try refine am (h := ?_)); (try with_reducible apply True.intro)
      (try refine am (h := ?_)); (try simp only [hg, mkNode]); (try refine am (h := ?_)); (try with_reducible apply True.intro)
      repeat' (first | (with_reducible refine And.intro ?_ ?_) | (with_reducible intro _))
      all_goals try (first | omega | with_reducible rfl | ((with_reducible refine eqId ?_); exact rfl) | with_reducible (first | assumption | exact pl ‹_› | exact pr ‹_› | exact plr ‹_› | exact pll ‹_› | exact prl ‹_› | exact plll ‹_› | exact prll ‹_›))
      first | refine CallK.one (heldI (l.getD i default).kids (K + 1 + 1 + 1) v none hk (by omega) (by omega)) (fun _ => amC) ?_ | refine CallE.one (heldI (l.getD i default).kids (K + 1 + 1 + 1) v none hk (by omega) (by omega)) (fun _ => amC) rfl ?_ | refine CallG.one rfl (fun hg => heldI (l.getD i default).kids (K + 1 + 1 + 1) v none hk (by omega) (by omega)) ?_ | refine CallEG.one rfl rfl (fun hg => heldI (l.getD i default).kids (K + 1 + 1 + 1) v none hk (by omega) (by omega)) ?_
      (try refine am (h := ?_)); (try with_reducible apply True.intro)
      (try refine am (h := ?_)); (try simp only [hg, mkNode]); (try refine am (h := ?_)); (try with_reducible apply True.intro)
      (try refine am (h := ?_)); (try simp only [hg, mkNode]); (try refine am (h := ?_)); (try with_reducible apply True.intro)
      repeat' (first | (with_reducible refine And.intro ?_ ?_) | (with_reducible intro _))
      all_goals try (first | omega | with_reducible rfl | ((with_reducible refine eqId ?_); exact rfl) | with_reducible (first | assumption | exact pl ‹_› | exact pr ‹_› | exact plr ‹_› | exact pll ‹_› | exact prl ‹_› | exact plll ‹_› | exact prll ‹_›))
      first | refine CallK.one (heldI (l.getD i default).stats.totals (K + 1 + 1 + 1 + (l.getD i default).kids.length + 1) v none ht (by omega) (by omega)) (fun _ => amC) ?_ | refine CallE.one (heldI (l.getD i default).stats.totals (K + 1 + 1 + 1 + (l.getD i default).kids.length + 1) v none ht (by omega) (by omega)) (fun _ => amC) rfl ?_ | refine CallG.one rfl (fun hg => heldI (l.getD i default).stats.totals (K + 1 + 1 + 1 + (l.getD i default).kids.length + 1) v none ht (by omega) (by omega)) ?_ | refine CallEG.one rfl rfl (fun hg => heldI (l.getD i default).stats.totals (K + 1 + 1 + 1 + (l.getD i default).kids.length + 1) v none ht (by omega) (by omega)) ?_
      (try refine am (h := ?_)); (try with_reducible apply True.intro)
      (try refine am (h := ?_)); (try simp only [hg, mkNode]); (try refine am (h := ?_)); (try with_reducible apply True.intro)
      (try refine am (h := ?_)); (try simp only [hg, mkNode]); (try refine am (h := ?_)); (try with_reducible apply True.intro)
      repeat' (first | (with_reducible refine And.intro ?_ ?_) | (with_reducible intro _))
      all_goals try (first | omega | with_reducible rfl | ((with_reducible refine eqId ?_); exact rfl) | with_reducible (first | assumption | exact pl ‹_› | exact pr ‹_› | exact plr ‹_› | exact pll ‹_› | exact prl ‹_› | exact plll ‹_› | exact prll ‹_›))
      first | refine CallK.one (heldL (l.getD i default).stats.cells (K + 1 + 1 + 1 + (l.getD i default).kids.length + 1 + (l.getD i default).stats.totals.length) v v none hc (by omega) (by omega)) (fun _ => amC) ?_ | refine CallE.one (heldL (l.getD i default).stats.cells (K + 1 + 1 + 1 + (l.getD i default).kids.length + 1 + (l.getD i default).stats.totals.length) v v none hc (by omega) (by omega)) (fun _ => amC) rfl ?_ | refine CallG.one rfl (fun hg => heldL (l.getD i default).stats.cells (K + 1 + 1 + 1 + (l.getD i default).kids.length + 1 + (l.getD i default).stats.totals.length) v v none hc (by omega) (by omega)) ?_ | refine CallEG.one rfl rfl (fun hg => heldL (l.getD i default).stats.cells (K + 1 + 1 + 1 + (l.getD i default).kids.length + 1 + (l.getD i default).stats.totals.length) v v none hc (by omega) (by omega)) ?_
      (try refine am (h := ?_)); (try with_reducible apply True.intro)
      (try refine am (h := ?_)); (try simp only [hg, mkNode]); (try refine am (h := ?_)); (try with_reducible apply True.intro)
      (try refine am (h := ?_)); (try simp only [hg, mkNode]); (try refine am (h := ?_)); (try with_reducible apply True.intro)
      repeat' (first | (with_reducible refine And.intro ?_ ?_) | (with_reducible intro _))
      all_goals try (first | omega | with_reducible rfl | ((with_reducible refine eqId ?_); exact rfl) | with_reducible (first | assumption | exact pl ‹_› | exact pr ‹_› | exact plr ‹_› | exact pll ‹_› | exact prl ‹_› | exact plll ‹_› | exact prll ‹_›))
      first | refine CallK.one (heldI (l.getD i default).attrs (K + 1 + 1 + 1 + (l.getD i default).kids.length + 1 + (l.getD i default).stats.totals.length + tot (l.getD i default).stats.cells + 1) v none ha (by omega) (by omega)) (fun _ => amC) ?_ | refine CallE.one (heldI (l.getD i default).attrs (K + 1 + 1 + 1 + (l.getD i default).kids.length + 1 + (l.getD i default).stats.totals.length + tot (l.getD i default).stats.cells + 1) v none ha (by omega) (by omega)) (fun _ => amC) rfl ?_ | refine CallG.one rfl (fun hg => heldI (l.getD i default).attrs (K + 1 + 1 + 1 + (l.getD i default).kids.length + 1 + (l.getD i default).stats.totals.length + tot (l.getD i default).stats.cells + 1) v none ha (by omega) (by omega)) ?_ | refine CallEG.one rfl rfl (fun hg => heldI (l.getD i default).attrs (K + 1 + 1 + 1 + (l.getD i default).kids.length + 1 + (l.getD i default).stats.totals.length + tot (l.getD i default).stats.cells + 1) v none ha (by omega) (by omega)) ?_
      (try refine am (h := ?_)); (try with_reducible apply True.intro)
      (try refine am (h := ?_)); (try simp only [hg, mkNode]); (try refine am (h := ?_)); (try with_reducible apply True.intro)
      (try refine am (h := ?_)); (try simp only [hg, mkNode]); (try refine am (h := ?_)); (try with_reducible apply True.intro)
      repeat' (first | (with_reducible refine And.intro ?_ ?_) | (with_reducible intro _))
      all_goals try (first | omega | with_reducible rfl | ((with_reducible refine eqId ?_); exact rfl) | with_reducible (first | assumption | exact pl ‹_› | exact pr ‹_› | exact plr ‹_› | exact pll ‹_› | exact prl ‹_› | exact plll ‹_› | exact prll ‹_›))
      refine ⟨i + 1, ?_, by omega, by omega⟩
      refine Le.of [] [] rfl rfl rfl rfl ?_ ?_ ?_
      all_goals (try refine amL (h := ?_))
      all_goals (try with_reducible apply True.intro)
      omega
    · refine FinK.val1 ?_ ?_
      all_goals (try refine amF (h := ?_))
      all_goals (try with_reducible apply True.intro)
      rw [List.take_of_length_le (by omega)]
end Go.AM
namespace Go.AM
open Go Go.Proofs
set_option maxRecDepth 100000
theorem dgLen (j : Nat) : (bytesOf 1 (rowsF [[AV.int IntKind.u8 (IntKind.u8.wrap (48 + ((j : Int)).tmod 10))]])).length = 1 := rfl
theorem dgAll (j : Nat) : allBytes 1 (rowsF [[AV.int IntKind.u8 (IntKind.u8.wrap (48 + ((j : Int)).tmod 10))]]) := by
  simp [allBytes, rowsF, gl]
set_option maxHeartbeats 2000000 in
theorem markText (k : Int) (h0 : 0 ≤ k) (h1 : k ≤ 2 ^ 62) : ACalls Tryz.prog 130 [.one (.int .i64 k)] (fun r => ∃ s : List UInt8, r = .val (.one (.str s)) ∧ s.length ≤ 2 ^ 62 + 2) := by
  have nt : Tryz.f130.ntmps = 20 := rfl
  have rs : Tryz.f130.results = #[.tmp 2] := rfl
  refine ACalls.of_run (m := 400) mixed Tryz.func130 rfl rfl (Nat.le_of_ble_eq_true rfl) ?_
  simp only [nt, rs]
  clear nt rs
  (try refine am (h := ?_)); (try with_reducible apply True.intro)
  refine ⟨fun h => ?_, fun h => ?_⟩
  · refine FinK.val rfl (.one (.str [109, 48])) trivial (by exact rfl) (ALe.refl _) ⟨_, rfl, by decide⟩ trivial
  refine LoopK.auto ((List UInt8 × Nat)) (fun x => [(0, .one (.av (.int .i64 x.2))), (3, .one (.av (.str x.1)))]) (fun x => []) [] (k0 := ?k01) (keepH := ?kh1) 7 (fun x => x.1.length + x.2 ≤ k.toNat) (fun x => x.2) (([], k.toNat)) ?kea1 ?keb1 ?_ ?_ ?_
  case kea1 => exact amN
  case keb1 => exact amN
  · simp
  · refine Le.of [] [] rfl rfl rfl rfl ?_ ?_ ?_
    all_goals (try refine amL (h := ?_))
    all_goals (try with_reducible apply True.intro)
    omega
  · intro ⟨s, j⟩ hi
    have hl := dgLen j
    have ha := dgAll j
    have hi' : s.length + j ≤ k.toNat := hi
    have hm : 0 ≤ (j : Int).tmod 10 ∧ (j : Int).tmod 10 < 10 := ⟨Int.tmod_nonneg _ (by omega), Int.tmod_lt_of_pos _ (by omega)⟩
    have hd : (j : Int).tdiv 10 = ((j / 10 : Nat) : Int) := rfl
    (try refine am (h := ?_)); (try simp only [hd]); (try refine am (h := ?_)); (try with_reducible apply True.intro)
    generalize hb : bytesOf 1 (rowsF [[AV.int IntKind.u8 (IntKind.u8.wrap (48 + ((j : Int)).tmod 10))]]) = b at *
    repeat' (first | (with_reducible refine And.intro ?_ ?_) | (with_reducible intro _))
    all_goals try (first | omega | with_reducible rfl | ((with_reducible refine eqId ?_); exact rfl) | with_reducible (first | assumption | exact pl ‹_› | exact pr ‹_› | exact plr ‹_› | exact pll ‹_› | exact prl ‹_› | exact plll ‹_› | exact prll ‹_›))
    · refine ⟨(b ++ s, j / 10), ?_, ?_, ?_⟩
      · refine Le.of [] [] rfl rfl rfl rfl ?_ ?_ ?_
        all_goals (try refine amL (h := ?_))
        all_goals (try with_reducible apply True.intro)
      · show (b ++ s).length + j / 10 ≤ k.toNat
        rw [List.length_append]; omega
      · show j / 10 < j
        omega
    · refine FinK.val rfl (.one (.str (109 :: s))) trivial (by exact rfl) (ALe.refl _) ⟨_, rfl, by simp; omega⟩ trivial
def jk : Nat → Nat → AV := fun _ _ => .junk
set_option maxHeartbeats 2000000 in
theorem markStringS (l : List (List UInt8)) (k : Int) (nl : Option Bool) (h : l.length ≤ 2 ^ 47) (h0 : 0 ≤ k) (h1 : k + l.length ≤ 2 ^ 62) : AMut Tryz.prog 78 (.sl true nl 1 l.length (fS l)) [.one (.int .i64 k)] (.sl true none 1 l.length jk) (k + l.length) := by
  have nt : Tryz.f78.ntmps = 20 := rfl
  refine AMut.of_run (m := 400) (t := 4) mixed Tryz.func78 rfl rfl (Nat.le_of_ble_eq_true rfl) rfl ?_
  simp only [nt]
  clear nt
  (try refine am (h := ?_)); (try with_reducible apply True.intro)
  repeat' (first | (with_reducible refine And.intro ?_ ?_) | (with_reducible intro _))
  all_goals try (first | omega | with_reducible rfl | ((with_reducible refine eqId ?_); exact rfl) | with_reducible (first | assumption | exact pl ‹_› | exact pr ‹_› | exact plr ‹_› | exact pll ‹_› | exact prl ‹_› | exact plll ‹_› | exact prll ‹_›))
  refine LoopK.auto (Nat) (fun i => [(5, .one (.av (.int .i64 i))), (1, .one (.av (.int .i64 (k + i))))]) (fun i => [(1, ⟨.sl true none 1 l.length jk, []⟩)]) [0] (k0 := ?k02) (keepH := ?kh2) 7 (fun i => i ≤ l.length) (fun i => l.length - i) (0) ?kea2 ?keb2 ?_ ?_ ?_
  case kea2 => exact amN
  case keb2 => exact amN
  · exact Nat.zero_le _
  · refine Le.of [(1, 1)] [] rfl rfl rfl rfl ?_ ?_ ?_
    all_goals (try refine amL (h := ?_))
    all_goals (try with_reducible apply True.intro)
    · exact ALe.of (.inl rfl) rfl (fun i hi j hj => .junk _)
    · omega
  · intro i hi
    (try refine am (h := ?_)); (try with_reducible apply True.intro)
    refine ⟨fun hlt => ?_, fun hlt => ?_⟩
    · refine .inl ⟨_, markText (k + i) (by omega) (by omega), fun r hr => ?_⟩
      obtain ⟨s, rfl, hs⟩ := hr
      refine ⟨fun _ => trivial, ?_⟩
      (try refine am (h := ?_)); (try with_reducible apply True.intro)
      repeat' (first | (with_reducible refine And.intro ?_ ?_) | (with_reducible intro _))
      all_goals try (first | omega | with_reducible rfl | ((with_reducible refine eqId ?_); exact rfl) | with_reducible (first | assumption | exact pl ‹_› | exact pr ‹_› | exact plr ‹_› | exact pll ‹_› | exact prl ‹_› | exact plll ‹_› | exact prll ‹_›))
      refine ⟨i + 1, ?_, by omega, by omega⟩
      refine Le.of [(1, 1)] [] rfl rfl rfl rfl ?_ ?_ ?_
      all_goals (try refine amL (h := ?_))
      all_goals (try with_reducible apply True.intro)
      · exact ALe.of (.inl rfl) rfl (fun i hi j hj => .junk _)
      · omega
    · refine FinK.mut (by (try refine am (h := ?_)); (try with_reducible apply True.intro)) ?_ ?_
      all_goals (try refine amF (h := ?_))
      all_goals (try with_reducible apply True.intro)
      omega
def nAttr (x : DAttr) : Nat := 1 + x.cuts.length + x.values.length
theorem sm_nAttr_z (l : List DAttr) : sm nAttr l ≤ zAttrS l := by
  unfold zAttrS
  induction l with
  | nil => simp [sm]
  | cons x l ih =>
    have : nAttr x ≤ 1 + zAttr x := by unfold nAttr zAttr szSS; omega
    simp only [sm, List.length_cons]
    omega
theorem nAttr_z (s : DSchema) : sm nAttr s.attrs + s.classes.length ≤ zSchema s := by
  have := sm_nAttr_z s.attrs
  unfold zSchema szSS
  omega
set_option maxHeartbeats 2000000 in
theorem markAttrS (l : List DAttr) (k : Int) (nl : Option Bool) (h : okAttrS (2 ^ 47) l) (h0 : 0 ≤ k) (h1 : k + sm nAttr l ≤ 2 ^ 62) : AMut Tryz.prog 77 (.sl true nl 3 l.length (fAttr true l)) [.one (.int .i64 k)] (.sl true none 3 l.length jk) (k + sm nAttr l) := by
  have hl := h.1
  have nt : Tryz.f77.ntmps = 35 := rfl
  refine AMut.of_run (m := 400) (t := 4) mixed Tryz.func77 rfl rfl (Nat.le_of_ble_eq_true rfl) rfl ?_
  simp only [nt]
  clear nt
  (try refine am (h := ?_)); (try with_reducible apply True.intro)
  repeat' (first | (with_reducible refine And.intro ?_ ?_) | (with_reducible intro _))
  all_goals try (first | omega | with_reducible rfl | ((with_reducible refine eqId ?_); exact rfl) | with_reducible (first | assumption | exact pl ‹_› | exact pr ‹_› | exact plr ‹_› | exact pll ‹_› | exact prl ‹_› | exact plll ‹_› | exact prll ‹_›))
  refine LoopK.auto (Nat) (fun i => [(5, .one (.av (.int .i64 i))), (1, .one (.av (.int .i64 (k + (sm nAttr (l.take i) : Nat)))))]) (fun i => [(1, ⟨.sl true none 3 l.length (fun i' j => gl .junk (if i' < i then [.junk, .junk, .junk] else cAttr true true (l.getD i' default)) j), []⟩)]) [0] (k0 := ?k03) (keepH := ?kh3) 7 (fun i => i ≤ l.length) (fun i => l.length - i) (0) ?kea3 ?keb3 ?_ ?_ ?_
  case kea3 => exact amN
  case keb3 => exact amN
  · exact Nat.zero_le _
  · refine Le.of [(1, 1)] [] rfl rfl rfl rfl ?_ ?_ ?_
    all_goals (try refine amL (h := ?_))
    all_goals (try with_reducible apply True.intro)
    · exact ALe.of (.inl rfl) rfl (fun i hi j hj => by rw [if_neg (by omega)]; exact .refl _)
    · simp [sm]
  · intro i hi
    generalize hK : k + ((sm nAttr (l.take i) : Nat) : Int) = K
    (try refine am (h := ?_)); (try simp only [Nat.lt_irrefl]); (try refine am (h := ?_)); (try with_reducible apply True.intro)
    refine ⟨fun hlt => ?_, fun hlt => ?_⟩
    · have hs := sm_take (f := nAttr) (d := default) hlt
      have hp := sm_pre (sz := nAttr) (d := default) l hlt
      have hn : nAttr (l.getD i default) = 1 + (l.getD i default).cuts.length + (l.getD i default).values.length := rfl
      obtain ⟨_, hc, hv, _⟩ := h.2 _ (getD_mem (d := default) hlt)
      refine .inl ⟨_, markText K (by omega) (by omega), fun r hr => ?_⟩
      obtain ⟨s, rfl, hs⟩ := hr
      refine ⟨fun _ => trivial, ?_⟩
      (try refine am (h := ?_)); (try simp only [Nat.lt_irrefl]); (try refine am (h := ?_)); (try with_reducible apply True.intro)
      repeat' (first | (with_reducible refine And.intro ?_ ?_) | (with_reducible intro _))
      all_goals try (first | omega | with_reducible rfl | ((with_reducible refine eqId ?_); exact rfl) | with_reducible (first | assumption | exact pl ‹_› | exact pr ‹_› | exact plr ‹_› | exact pll ‹_› | exact prl ‹_› | exact plll ‹_› | exact prll ‹_›))
      (try refine am (h := ?_)); (try simp only [Nat.lt_irrefl]); (try refine am (h := ?_)); (try with_reducible apply True.intro)
      repeat' (first | (with_reducible refine And.intro ?_ ?_) | (with_reducible intro _))
      all_goals try (first | omega | with_reducible rfl | ((with_reducible refine eqId ?_); exact rfl) | with_reducible (first | assumption | exact pl ‹_› | exact pr ‹_› | exact plr ‹_› | exact pll ‹_› | exact prl ‹_› | exact plll ‹_› | exact prll ‹_›))
      refine CallK.mut (markIntS (l.getD i default).cuts (K + 1) none hc (by omega) (by omega)) ?ha1 ?hb1 ?hc1 ?hd1
      case ha1 => first | exact rfl | (simp only [St.H, lk_cons, AV.at, Nat.lt_irrefl, gl, beq_self, cond_true, reduceIte]; done) | (simp [St.H, lk_cons, AV.at, gl]; done)
      case hb1 => exact rfl
      case hc1 => exact rfl
      (try refine am (h := ?_)); (try with_reducible apply True.intro)
      (try refine am (h := ?_)); (try simp only [Nat.lt_irrefl]); (try refine am (h := ?_)); (try with_reducible apply True.intro)
      repeat' (first | (with_reducible refine And.intro ?_ ?_) | (with_reducible intro _))
      all_goals try (first | omega | with_reducible rfl | ((with_reducible refine eqId ?_); exact rfl) | with_reducible (first | assumption | exact pl ‹_› | exact pr ‹_› | exact plr ‹_› | exact pll ‹_› | exact prl ‹_› | exact plll ‹_› | exact prll ‹_›))
      (try refine am (h := ?_)); (try simp only [Nat.lt_irrefl]); (try refine am (h := ?_)); (try with_reducible apply True.intro)
      repeat' (first | (with_reducible refine And.intro ?_ ?_) | (with_reducible intro _))
      all_goals try (first | omega | with_reducible rfl | ((with_reducible refine eqId ?_); exact rfl) | with_reducible (first | assumption | exact pl ‹_› | exact pr ‹_› | exact plr ‹_› | exact pll ‹_› | exact prl ‹_› | exact plll ‹_› | exact prll ‹_›))
      refine CallK.mut (markStringS (l.getD i default).values (K + 1 + (l.getD i default).cuts.length) none hv (by omega) (by omega)) ?ha2 ?hb2 ?hc2 ?hd2
      case ha2 => first | exact rfl | (simp only [St.H, lk_cons, AV.at, Nat.lt_irrefl, gl, beq_self, cond_true, reduceIte]; done) | (simp [St.H, lk_cons, AV.at, gl]; done)
      case hb2 => exact rfl
      case hc2 => exact rfl
      (try refine am (h := ?_)); (try with_reducible apply True.intro)
      (try refine am (h := ?_)); (try simp only [Nat.lt_irrefl]); (try refine am (h := ?_)); (try with_reducible apply True.intro)
      repeat' (first | (with_reducible refine And.intro ?_ ?_) | (with_reducible intro _))
      all_goals try (first | omega | with_reducible rfl | ((with_reducible refine eqId ?_); exact rfl) | with_reducible (first | assumption | exact pl ‹_› | exact pr ‹_› | exact plr ‹_› | exact pll ‹_› | exact prl ‹_› | exact plll ‹_› | exact prll ‹_›))
      (try refine am (h := ?_)); (try simp only [Nat.lt_irrefl]); (try refine am (h := ?_)); (try with_reducible apply True.intro)
      repeat' (first | (with_reducible refine And.intro ?_ ?_) | (with_reducible intro _))
      all_goals try (first | omega | with_reducible rfl | ((with_reducible refine eqId ?_); exact rfl) | with_reducible (first | assumption | exact pl ‹_› | exact pr ‹_› | exact plr ‹_› | exact pll ‹_› | exact prl ‹_› | exact plll ‹_› | exact prll ‹_›))
      refine ⟨i + 1, ?_, by omega, by omega⟩
      refine Le.of [(1, 1)] [] rfl rfl rfl rfl ?_ ?_ ?_
      all_goals (try refine amL (h := ?_))
      all_goals (try with_reducible apply True.intro)
      · refine ALe.of (.inl rfl) rfl (fun i' hi' j hj => ?_)
        by_cases e : i' = i
        · subst e
          rw [if_pos (show i' < i' + 1 by omega)]
          have hj' : j = 0 ∨ j = 1 ∨ j = 2 := by omega
          rcases hj' with rfl | rfl | rfl <;> exact .junk _
        · simp only [e, false_and, if_false]
          by_cases e2 : i' < i
          · rw [if_pos e2, if_pos (by omega)]; exact .refl _
          · rw [if_neg e2, if_neg (by omega)]; exact .refl _
      · omega
    · refine FinK.mut (by (try refine am (h := ?_)); (try with_reducible apply True.intro)) ?_ ?_
      all_goals (try refine amF (h := ?_))
      all_goals (try with_reducible apply True.intro)
      refine ⟨ALe.of (.inl rfl) rfl (fun i' hi' j hj => .junk _), by rw [← hK, List.take_of_length_le (by omega)]⟩
set_option maxHeartbeats 2000000 in
theorem heldTree (x : DTree) (k : Int) (u v : Bool) (h : okNodeS (2 ^ 47) x.nodes) (h0 : 0 ≤ k) (h1 : k + sm nNode x.nodes ≤ 2 ^ 62) : ACalls Tryz.prog 22 [.agg [aNode u v (mkNs k x.nodes), .int .i64 x.seen], .one (.int .i64 k)] (fun r => r = .val (.one (.int .i64 (k + sm nNode x.nodes)))) := by
  have nt : Tryz.f22.ntmps = 12 := rfl
  have rs : Tryz.f22.results = #[.tmp 4] := rfl
  refine ACalls.of_run (m := 400) mixed Tryz.func22 rfl rfl (Nat.le_of_ble_eq_true rfl) ?_
  simp only [nt, rs]
  clear nt rs
  (try refine am (h := ?_)); (try with_reducible apply True.intro)
  first | refine CallK.one (heldN x.nodes k _ _ none h h0 h1) (fun _ => amC) ?_ | refine CallE.one (heldN x.nodes k _ _ none h h0 h1) (fun _ => amC) rfl ?_ | refine CallG.one rfl (fun hg => heldN x.nodes k _ _ none h h0 h1) ?_ | refine CallEG.one rfl rfl (fun hg => heldN x.nodes k _ _ none h h0 h1) ?_
  (try refine am (h := ?_)); (try with_reducible apply True.intro)
  repeat' (first | (with_reducible refine And.intro ?_ ?_) | (with_reducible intro _))
  all_goals try (first | omega | with_reducible rfl | ((with_reducible refine eqId ?_); exact rfl) | with_reducible (first | assumption | exact pl ‹_› | exact pr ‹_› | exact plr ‹_› | exact pll ‹_› | exact prl ‹_› | exact plll ‹_› | exact prll ‹_›))
  refine FinK.val1 ?_ ?_
  all_goals (try refine amF (h := ?_))
  all_goals (try with_reducible apply True.intro)
end Go.AM
namespace Go.AM
open Go Go.Proofs
set_option maxRecDepth 100000
theorem w_markTree : WrapOf Tryz.prog 20 2 [(79, 0)] := by
  refine ⟨enter_of Tryz.func20 rfl rfl, fun B cs k w Q hcs hch hB => ?_⟩
  obtain ⟨l⟩ := cs
  match l, hcs with
  | [x0, x1], _ =>
    have nt : Tryz.f20.ntmps = 10 := rfl
    refine calls_of_wp Tryz.func20 rfl ?_
    rw [nt]
    refine wp_seq (wrap_box (N := 10) (T := 37) (cs := ⟨[x0, x1]⟩) (k := k) rfl (tmps_size (by decide)) (by decide) tmps_0 tmps_1 (fun a0 i0 => ?_))
    have c0 := WCh.start (T := 37) hch hB
    refine wp_seq (wrap_part i0 (by decide) (by rw [tk37]; decide) (by simp only [fldTy, tk37, gl]; rw [tk35]; decide) (load_one i0.blk (by rw [tk35]) (by rw [tk35]) (x := x0) (by simp only [fldOff, tk37]; rfl)) (enter_of Tryz.func79 rfl rfl _ _) (Calls.mono (c0.part (v := x0) rfl) (fun e w0 he => ?_)))
    obtain ⟨k0, rfl, hb0, c1⟩ := he
    refine ⟨k0, rfl, hb0, fun a1 i1 => ?_⟩
    refine wp_seq (wrap_last i1 (by decide) (fun a hd hk => ?_))
    exact wp_ret (wrap_end rfl c1 hd hk)
theorem w_markSchema : WrapOf Tryz.prog 19 2 [(77, 0), (78, 1)] := by
  refine ⟨enter_of Tryz.func19 rfl rfl, fun B cs k w Q hcs hch hB => ?_⟩
  obtain ⟨l⟩ := cs
  match l, hcs with
  | [x0, x1], _ =>
    have nt : Tryz.f19.ntmps = 14 := rfl
    refine calls_of_wp Tryz.func19 rfl ?_
    rw [nt]
    refine wp_seq (wrap_box (N := 14) (T := 42) (cs := ⟨[x0, x1]⟩) (k := k) rfl (tmps_size (by decide)) (by decide) tmps_0 tmps_1 (fun a0 i0 => ?_))
    have c0 := WCh.start (T := 42) hch hB
    refine wp_seq (wrap_part i0 (by decide) (by rw [tk42]; decide) (by simp only [fldTy, tk42, gl]; rw [tk40]; decide) (load_one i0.blk (by rw [tk40]) (by rw [tk40]) (x := x0) (by simp only [fldOff, tk42]; rfl)) (enter_of Tryz.func77 rfl rfl _ _) (Calls.mono (c0.part (v := x0) rfl) (fun e w0 he => ?_)))
    obtain ⟨k0, rfl, hb0, c1⟩ := he
    refine ⟨k0, rfl, hb0, fun a1 i1 => ?_⟩
    refine wp_seq (wrap_part i1 (by decide) (by rw [tk42]; decide) (by simp only [fldTy, tk42, gl]; rw [tk23]; decide) (load_one i1.blk (by rw [tk23]) (by rw [tk23]) (x := x1) (by simp only [fldOff, tk42]; rfl)) (enter_of Tryz.func78 rfl rfl _ _) (Calls.mono (c1.part (v := x1) rfl) (fun e w1 he => ?_)))
    obtain ⟨k1, rfl, hb1, c2⟩ := he
    refine ⟨k1, rfl, hb1, fun a2 i2 => ?_⟩
    refine wp_seq (wrap_last i2 (by decide) (fun a hd hk => ?_))
    exact wp_ret (wrap_end rfl c2 hd hk)
end Go.AM
