/- Lemmas for the proof of this claim. -/
import Derived.Test.YteggckdmicnijaaGreatMark
import Derived.Test.YteggckdmicnijaaGreatTy
import Derived.Test.YteggckdmicnijaaGreatAm4
namespace Go.AM
open Go Go.Proofs
set_option maxRecDepth 100000
set_option maxHeartbeats 4000000 in
theorem heldN (l : List DNode) (k : Int) (u v : Bool) (nl : Option Bool) (h : okNodeS (2 ^ 47) l) (h0 : 0 ≤ k) (h1 : k + sm nNode l ≤ 2 ^ 62) : ACalls Tryz.prog 100 [.one (.sl u nl 12 (mkNs k l).length (fNode v (mkNs k l))), .one (.int .i64 k)] (fun r => r = .val (.one (.int .i64 (k + sm nNode l)))) := by
  have hl := h.1
  have hml := mkNs_len k l
  have hl2 : (mkNs k l).length ≤ 2 ^ 47 := by omega
  have nt : Tryz.f100.ntmps = 127 := rfl
  have rs : Tryz.f100.results = #[.tmp 4] := rfl
  refine ACalls.of_run (m := 400) mixed Tryz.func100 rfl rfl (Nat.le_of_ble_eq_true rfl) ?_
  simp only [nt, rs]
  clear nt rs
  (try refine am (h := ?_)); (try with_reducible apply True.intro)
  repeat' (first | (with_reducible refine And.intro ?_ ?_) | (with_reducible intro _))
  all_goals try (first | omega | with_reducible rfl | ((with_reducible refine eqId ?_); exact rfl) | with_reducible (first | assumption | exact pl ‹_› | exact pr ‹_› | exact plr ‹_› | exact pll ‹_› | exact prl ‹_› | exact plll ‹_› | exact prll ‹_›))
  refine LoopK.auto (Nat) (fun i => [(5, .one (.av (.int .i64 i))), (1, .one (.av (.int .i64 (k + (sm nNode (l.take i) : Nat)))))]) (fun i => []) [0] (k0 := ?k01) (keepH := ?kh1) 7 (fun i => i ≤ l.length) (fun i => l.length - i) (0) ?kea1 ?keb1 ?_ ?_ ?_
  case kea1 => exact amN
  case keb1 => exact amN
  · exact Nat.zero_le _
  · refine Le.of [] [] rfl rfl rfl rfl ?_ ?_ ?_
    all_goals (try refine amL (h := ?_))
    all_goals (try with_reducible apply True.intro)
    simp [sm]
  · intro i hi
    (try refine am (h := ?_)); (try with_reducible apply True.intro)
    refine ⟨fun hlt => ?_, fun hlt => ?_⟩
    · have hlt' : i < l.length := by omega
      have hs := sm_take (f := nNode) (d := default) hlt'
      have hp := sm_pre (sz := nNode) (d := default) l hlt'
      have hn : nNode (l.getD i default) = 8 + (l.getD i default).kids.length + (l.getD i default).stats.totals.length + tot (l.getD i default).stats.cells + (l.getD i default).attrs.length := rfl
      obtain ⟨_, _, hk, _, ⟨ht, hc⟩, _, ha, _⟩ := h.2 _ (getD_mem (d := default) hlt')
      have hg : (mkNs k l).getD i default = mkNode (k + (sm nNode (l.take i) : Nat)) (l.getD i default) := mkSq_get k l hlt'
      generalize hK : k + ((sm nNode (l.take i) : Nat) : Int) = K at *
      (try refine am (h := ?_)); (try simp only [hg, mkNode]); (try refine am (h := ?_)); (try with_reducible apply True.intro)
      (try refine am (h := ?_)); (try simp only [hg, mkNode]); (try refine am (h := ?_)); (try with_reducible apply True.intro)
      repeat' (first | (with_reducible refine And.intro ?_ ?_) | (with_reducible intro _))
      all_goals try (first | omega | with_reducible rfl | ((with_reducible refine eqId ?_); exact rfl) | with_reducible (first | assumption | exact pl ‹_› | exact pr ‹_› | exact plr ‹_› | exact pll ‹_› | exact prl ‹_› | exact plll ‹_› | exact prll ‹_›))
      first | refine CallK.one (heldI (l.getD i default).kids (K + 1 + 1 + 1) v none hk (by omega) (by omega)) (fun _ => amC) ?_ | refine CallE.one (heldI (l.getD i default).kids (K + 1 + 1 + 1) v none hk (by omega) (by omega)) (fun _ => amC) rfl ?_ | refine CallG.one rfl (fun hg => heldI (l.getD i default).kids (K + 1 + 1 + 1) v none hk (by omega) (by omega)) ?_ | refine CallEG.one rfl rfl (fun hg => heldI (l.getD i default).kids (K + 1 + 1 + 1) v none hk (by omega) (by omega)) ?_
      (try refine am (h := ?_)); (try with_reducible apply True.intro)
      (try refine am (h := ?_)); (try simp only [hg, mkNode]); (try refine am (h := ?_)); (try with_reducible apply True.intro)
      (try refine am (h := ?_)); (try simp only [hg, mkNode]); (try refine am (h := ?_)); (try with_reducible apply True.intro)
      repeat' (first | (with_reducible refine And.intro ?_ ?_) | (with_reducible intro _))
      all_goals try (first | omega | with_reducible rfl | ((with_reducible refine eqId ?_); exact rfl) | with_reducible (first | assumption | exact pl ‹_› | exact pr ‹_› | exact plr ‹_› | exact pll ‹_› | exact prl ‹_› | exact plll ‹_› | exact prll ‹_›))
      first | refine CallK.one (heldI (l.getD i default).stats.totals (K + 1 + 1 + 1 + (l.getD i default).kids.length + 1) v none ht (by omega) (by omega)) (fun _ => amC) ?_ | refine CallE.one (heldI (l.getD i default).stats.totals (K + 1 + 1 + 1 + (l.getD i default).kids.length + 1) v none ht (by omega) (by omega)) (fun _ => amC) rfl ?_ | refine CallG.one rfl (fun hg => heldI (l.getD i default).stats.totals (K + 1 + 1 + 1 + (l.getD i default).kids.length + 1) v none ht (by omega) (by omega)) ?_ | refine CallEG.one rfl rfl (fun hg => heldI (l.getD i default).stats.totals (K + 1 + 1 + 1 + (l.getD i default).kids.length + 1) v none ht (by omega) (by omega)) ?_
      (try refine am (h := ?_)); (try with_reducible apply True.intro)
      (try refine am (h := ?_)); (try simp only [hg, mkNode]); (try refine am (h := ?_)); (try with_reducible apply True.intro)
      (try refine am (h := ?_)); (try simp only [hg, mkNode]); (try refine am (h := ?_)); (try with_reducible apply True.intro)
      repeat' (first | (with_reducible refine And.intro ?_ ?_) | (with_reducible intro _))
      all_goals try (first | omega | with_reducible rfl | ((with_reducible refine eqId ?_); exact rfl) | with_reducible (first | assumption | exact pl ‹_› | exact pr ‹_› | exact plr ‹_› | exact pll ‹_› | exact prl ‹_› | exact plll ‹_› | exact prll ‹_›))
      first | refine CallK.one (heldL (l.getD i default).stats.cells (K + 1 + 1 + 1 + (l.getD i default).kids.length + 1 + (l.getD i default).stats.totals.length) v v none hc (by omega) (by omega)) (fun _ => amC) ?_ | refine CallE.one (heldL (l.getD i default).stats.cells (K + 1 + 1 + 1 + (l.getD i default).kids.length + 1 + (l.getD i default).stats.totals.length) v v none hc (by omega) (by omega)) (fun _ => amC) rfl ?_ | refine CallG.one rfl (fun hg => heldL (l.getD i default).stats.cells (K + 1 + 1 + 1 + (l.getD i default).kids.length + 1 + (l.getD i default).stats.totals.length) v v none hc (by omega) (by omega)) ?_ | refine CallEG.one rfl rfl (fun hg => heldL (l.getD i default).stats.cells (K + 1 + 1 + 1 + (l.getD i default).kids.length + 1 + (l.getD i default).stats.totals.length) v v none hc (by omega) (by omega)) ?_
      (try refine am (h := ?_)); (try with_reducible apply True.intro)
      (try refine am (h := ?_)); (try simp only [hg, mkNode]); (try refine am (h := ?_)); (try with_reducible apply True.intro)
      (try refine am (h := ?_)); (try simp only [hg, mkNode]); (try refine am (h := ?_)); (try with_reducible apply True.intro)
      repeat' (first | (with_reducible refine And.intro ?_ ?_) | (with_reducible intro _))
      all_goals try (first | omega | with_reducible rfl | ((with_reducible refine eqId ?_); exact rfl) | with_reducible (first | assumption | exact pl ‹_› | exact pr ‹_› | exact plr ‹_› | exact pll ‹_› | exact prl ‹_› | exact plll ‹_› | exact prll ‹_›))
      first | refine CallK.one (heldI (l.getD i default).attrs (K + 1 + 1 + 1 + (l.getD i default).kids.length + 1 + (l.getD i default).stats.totals.length + tot (l.getD i default).stats.cells + 1) v none ha (by omega) (by omega)) (fun _ => amC) ?_ | refine CallE.one (heldI (l.getD i default).attrs (K + 1 + 1 + 1 + (l.getD i default).kids.length + 1 + (l.getD i default).stats.totals.length + tot (l.getD i default).stats.cells + 1) v none ha (by omega) (by omega)) (fun _ => amC) rfl ?_ | refine CallG.one rfl (fun hg => heldI (l.getD i default).attrs (K + 1 + 1 + 1 + (l.getD i default).kids.length + 1 + (l.getD i default).stats.totals.length + tot (l.getD i default).stats.cells + 1) v none ha (by omega) (by omega)) ?_ | refine CallEG.one rfl rfl (fun hg => heldI (l.getD i default).attrs (K + 1 + 1 + 1 + (l.getD i default).kids.length + 1 + (l.getD i default).stats.totals.length + tot (l.getD i default).stats.cells + 1) v none ha (by omega) (by omega)) ?_
      (try refine am (h := ?_)); (try with_reducible apply True.intro)
      (try refine am (h := ?_)); (try simp only [hg, mkNode]); (try refine am (h := ?_)); (try with_reducible apply True.intro)
      (try refine am (h := ?_)); (try simp only [hg, mkNode]); (try refine am (h := ?_)); (try with_reducible apply True.intro)
      repeat' (first | (with_reducible refine And.intro ?_ ?_) | (with_reducible intro _))
      all_goals try (first | omega | with_reducible rfl | ((with_reducible refine eqId ?_); exact rfl) | with_reducible (first | assumption | exact pl ‹_› | exact pr ‹_› | exact plr ‹_› | exact pll ‹_› | exact prl ‹_› | exact plll ‹_› | exact prll ‹_›))
      refine ⟨i + 1, ?_, by omega, by omega⟩
      refine Le.of [] [] rfl rfl rfl rfl ?_ ?_ ?_
      all_goals (try refine amL (h := ?_))
      all_goals (try with_reducible apply True.intro)
      omega
    · refine FinK.val1 ?_ ?_
      all_goals (try refine amF (h := ?_))
      all_goals (try with_reducible apply True.intro)
      rw [List.take_of_length_le (by omega)]
end Go.AM
namespace Go.AM
open Go Go.Proofs
set_option maxRecDepth 100000
theorem dgLen (j : Nat) : (bytesOf 1 (rowsF [[AV.int IntKind.u8 (IntKind.u8.wrap (48 + ((j : Int)).tmod 10))]])).length = 1 := rfl
theorem dgAll (j : Nat) : allBytes 1 (rowsF [[AV.int IntKind.u8 (IntKind.u8.wrap (48 + ((j : Int)).tmod 10))]]) := by
  simp [allBytes, rowsF, gl]
set_option maxHeartbeats 2000000 in
theorem markText (k : Int) (h0 : 0 ≤ k) (h1 : k ≤ 2 ^ 62) : ACalls Tryz.prog 170 [.one (.int .i64 k)] (fun r => ∃ s : List UInt8, r = .val (.one (.str s)) ∧ s.length ≤ 2 ^ 62 + 2) := by
  have nt : Tryz.f170.ntmps = 20 := rfl
  have rs : Tryz.f170.results = #[.tmp 2] := rfl
  refine ACalls.of_run (m := 400) mixed Tryz.func170 rfl rfl (Nat.le_of_ble_eq_true rfl) ?_
  simp only [nt, rs]
  clear nt rs
  (try refine am (h := ?_)); (try with_reducible apply True.intro)
  refine ⟨fun h => ?_, fun h => ?_⟩
  · refine FinK.val rfl (.one (.str [109, 48])) trivial (by exact rfl) (ALe.refl _) ⟨_, rfl, by decide⟩ trivial
  refine LoopK.auto ((List UInt8 × Nat)) (fun x => [(0, .one (.av (.int .i64 x.2))), (3, .one (.av (.str x.1)))]) (fun x => []) [] (k0 := ?k01) (keepH := ?kh1) 7 (fun x => x.1.length + x.2 ≤ k.toNat) (fun x => x.2) (([], k.toNat)) ?kea1 ?keb1 ?_ ?_ ?_
  case kea1 => exact amN
  case keb1 => exact amN
  · simp
  · refine Le.of [] [] rfl rfl rfl rfl ?_ ?_ ?_
    all_goals (try refine amL (h := ?_))
    all_goals (try with_reducible apply True.intro)
    omega
  · intro ⟨s, j⟩ hi
    have hl := dgLen j
    have ha := dgAll j
    have hi' : s.length + j ≤ k.toNat := hi
    have hm : 0 ≤ (j : Int).tmod 10 ∧ (j : Int).tmod 10 < 10 := ⟨Int.tmod_nonneg _ (by omega), Int.tmod_lt_of_pos _ (by omega)⟩
    have hd : (j : Int).tdiv 10 = ((j / 10 : Nat) : Int) := rfl
    (try refine am (h := ?_)); (try simp only [hd]); (try refine am (h := ?_)); (try with_reducible apply True.intro)
    generalize hb : bytesOf 1 (rowsF [[AV.int IntKind.u8 (IntKind.u8.wrap (48 + ((j : Int)).tmod 10))]]) = b at *
    repeat' (first | (with_reducible refine And.intro ?_ ?_) | (with_reducible intro _))
    all_goals try (first | omega | with_reducible rfl | ((with_reducible refine eqId ?_); exact rfl) | with_reducible (first | assumption | exact pl ‹_› | exact pr ‹_› | exact plr ‹_› | exact pll ‹_› | exact prl ‹_› | exact plll ‹_› | exact prll ‹_›))
    · refine ⟨(b ++ s, j / 10), ?_, ?_, ?_⟩
      · refine Le.of [] [] rfl rfl rfl rfl ?_ ?_ ?_
        all_goals (try refine amL (h := ?_))
        all_goals (try with_reducible apply True.intro)
      · show (b ++ s).length + j / 10 ≤ k.toNat
        rw [List.length_append]; omega
      · show j / 10 < j
        omega
    · refine FinK.val rfl (.one (.str (109 :: s))) trivial (by exact rfl) (ALe.refl _) ⟨_, rfl, by simp; omega⟩ trivial
def jk : Nat → Nat → AV := fun _ _ => .junk
set_option maxHeartbeats 2000000 in
theorem markStringS (l : List (List UInt8)) (k : Int) (nl : Option Bool) (h : l.length ≤ 2 ^ 47) (h0 : 0 ≤ k) (h1 : k + l.length ≤ 2 ^ 62) : AMut Tryz.prog 98 (.sl true nl 1 l.length (fS l)) [.one (.int .i64 k)] (.sl true none 1 l.length jk) (k + l.length) := by
  have nt : Tryz.f98.ntmps = 20 := rfl
  refine AMut.of_run (m := 400) (t := 4) mixed Tryz.func98 rfl rfl (Nat.le_of_ble_eq_true rfl) rfl ?_
  simp only [nt]
  clear nt
  (try refine am (h := ?_)); (try with_reducible apply True.intro)
  repeat' (first | (with_reducible refine And.intro ?_ ?_) | (with_reducible intro _))
  all_goals try (first | omega | with_reducible rfl | ((with_reducible refine eqId ?_); exact rfl) | with_reducible (first | assumption | exact pl ‹_› | exact pr ‹_› | exact plr ‹_› | exact pll ‹_› | exact prl ‹_› | exact plll ‹_› | exact prll ‹_›))
  refine LoopK.auto (Nat) (fun i => [(5, .one (.av (.int .i64 i))), (1, .one (.av (.int .i64 (k + i))))]) (fun i => [(1, ⟨.sl true none 1 l.length jk, []⟩)]) [0] (k0 := ?k02) (keepH := ?kh2) 7 (fun i => i ≤ l.length) (fun i => l.length - i) (0) ?kea2 ?keb2 ?_ ?_ ?_
  case kea2 => exact amN
  case keb2 => exact amN
  · exact Nat.zero_le _
  · refine Le.of [(1, 1)] [] rfl rfl rfl rfl ?_ ?_ ?_
    all_goals (try refine amL (h := ?_))
    all_goals (try with_reducible apply True.intro)
    · exact ALe.of (.inl rfl) rfl (fun i hi j hj => .junk _)
    · omega
  · intro i hi
    (try refine am (h := ?_)); (try with_reducible apply True.intro)
    refine ⟨fun hlt => ?_, fun hlt => ?_⟩
    · refine .inl ⟨_, markText (k + i) (by omega) (by omega), fun r hr => ?_⟩
      obtain ⟨s, rfl, hs⟩ := hr
      refine ⟨fun _ => trivial, ?_⟩
      (try refine am (h := ?_)); (try with_reducible apply True.intro)
      repeat' (first | (with_reducible refine And.intro ?_ ?_) | (with_reducible intro _))
      all_goals try (first | omega | with_reducible rfl | ((with_reducible refine eqId ?_); exact rfl) | with_reducible (first | assumption | exact pl ‹_› | exact pr ‹_› | exact plr ‹_› | exact pll ‹_› | exact prl ‹_› | exact plll ‹_› | exact prll ‹_›))
      refine ⟨i + 1, ?_, by omega, by omega⟩
      refine Le.of [(1, 1)] [] rfl rfl rfl rfl ?_ ?_ ?_
      all_goals (try refine amL (h := ?_))
      all_goals (try with_reducible apply True.intro)
      · exact ALe.of (.inl rfl) rfl (fun i hi j hj => .junk _)
      · omega
    · refine FinK.mut (by (try refine am (h := ?_)); (try with_reducible apply True.intro)) ?_ ?_
      all_goals (try refine amF (h := ?_))
      all_goals (try with_reducible apply True.intro)
      omega
def nAttr (x : DAttr) : Nat := 1 + x.cuts.length + x.values.length
theorem sm_nAttr_z (l : List DAttr) : sm nAttr l ≤ zAttrS l := by
  unfold zAttrS
  induction l with
  | nil => simp [sm]
  | cons x l ih =>
    have : nAttr x ≤ 1 + zAttr x := by unfold nAttr zAttr szSS; omega
    simp only [sm, List.length_cons]
    omega
theorem nAttr_z (s : DSchema) : sm nAttr s.attrs + s.classes.length ≤ zSchema s := by
  have := sm_nAttr_z s.attrs
  unfold zSchema szSS
  omega
set_option maxHeartbeats 2000000 in
theorem markAttrS (l : List DAttr) (k : Int) (nl : Option Bool) (h : okAttrS (2 ^ 47) l) (h0 : 0 ≤ k) (h1 : k + sm nAttr l ≤ 2 ^ 62) : AMut Tryz.prog 97 (.sl true nl 3 l.length (fAttr true l)) [.one (.int .i64 k)] (.sl true none 3 l.length jk) (k + sm nAttr l) := by
  have hl := h.1
  have nt : Tryz.f97.ntmps = 35 := rfl
  refine AMut.of_run (m := 400) (t := 4) mixed Tryz.func97 rfl rfl (Nat.le_of_ble_eq_true rfl) rfl ?_
  simp only [nt]
  clear nt
  (try refine am (h := ?_)); (try with_reducible apply True.intro)
  repeat' (first | (with_reducible refine And.intro ?_ ?_) | (with_reducible intro _))
  all_goals try (first | omega | with_reducible rfl | ((with_reducible refine eqId ?_); exact rfl) | with_reducible (first | assumption | exact pl ‹_› | exact pr ‹_› | exact plr ‹_› | exact pll ‹_› | exact prl ‹_› | exact plll ‹_› | exact prll ‹_›))
  refine LoopK.auto (Nat) (fun i => [(5, .one (.av (.int .i64 i))), (1, .one (.av (.int .i64 (k + (sm nAttr (l.take i) : Nat)))))]) (fun i => [(1, ⟨.sl true none 3 l.length (fun i' j => gl .junk (if i' < i then [.junk, .junk, .junk] else cAttr true true (l.getD i' default)) j), []⟩)]) [0] (k0 := ?k03) (keepH := ?kh3) 7 (fun i => i ≤ l.length) (fun i => l.length - i) (0) ?kea3 ?keb3 ?_ ?_ ?_
  case kea3 => exact amN
  case keb3 => exact amN
  · exact Nat.zero_le _
  · refine Le.of [(1, 1)] [] rfl rfl rfl rfl ?_ ?_ ?_
    all_goals (try refine amL (h := ?_))
    all_goals (try with_reducible apply True.intro)
    · exact ALe.of (.inl rfl) rfl (fun i hi j hj => by rw [if_neg (by omega)]; exact .refl _)
    · simp [sm]
  · intro i hi
    generalize hK : k + ((sm nAttr (l.take i) : Nat) : Int) = K
    (try refine am (h := ?_)); (try simp only [Nat.lt_irrefl]); (try refine am (h := ?_)); (try with_reducible apply True.intro)
    refine ⟨fun hlt => ?_, fun hlt => ?_⟩
    · have hs := sm_take (f := nAttr) (d := default) hlt
      have hp := sm_pre (sz := nAttr) (d := default) l hlt
      have hn : nAttr (l.getD i default) = 1 + (l.getD i default).cuts.length + (l.getD i default).values.length := rfl
      obtain ⟨_, hc, hv, _⟩ := h.2 _ (getD_mem (d := default) hlt)
      refine .inl ⟨_, markText K (by omega) (by omega), fun r hr => ?_⟩
      obtain ⟨s, rfl, hs⟩ := hr
      refine ⟨fun _ => trivial, ?_⟩
      (try refine am (h := ?_)); (try simp only [Nat.lt_irrefl]); (try refine am (h := ?_)); (try with_reducible apply True.intro)
      repeat' (first | (with_reducible refine And.intro ?_ ?_) | (with_reducible intro _))
      all_goals try (first | omega | with_reducible rfl | ((with_reducible refine eqId ?_); exact rfl) | with_reducible (first | assumption | exact pl ‹_› | exact pr ‹_› | exact plr ‹_› | exact pll ‹_› | exact prl ‹_› | exact plll ‹_› | exact prll ‹_›))
      (try refine am (h := ?_)); (try simp only [Nat.lt_irrefl]); (try refine am (h := ?_)); (try with_reducible apply True.intro)
      repeat' (first | (with_reducible refine And.intro ?_ ?_) | (with_reducible intro _))
      all_goals try (first | omega | with_reducible rfl | ((with_reducible refine eqId ?_); exact rfl) | with_reducible (first | assumption | exact pl ‹_› | exact pr ‹_› | exact plr ‹_› | exact pll ‹_› | exact prl ‹_› | exact plll ‹_› | exact prll ‹_›))
      refine CallK.mut (markIntS (l.getD i default).cuts (K + 1) none hc (by omega) (by omega)) ?ha1 ?hb1 ?hc1 ?hd1
      case ha1 => first | exact rfl | (simp only [St.H, lk_cons, AV.at, Nat.lt_irrefl, gl, beq_self, cond_true, reduceIte]; done) | (simp [St.H, lk_cons, AV.at, gl]; done)
      case hb1 => exact rfl
      case hc1 => exact rfl
      (try refine am (h := ?_)); (try with_reducible apply True.intro)
      (try refine am (h := ?_)); (try simp only [Nat.lt_irrefl]); (try refine am (h := ?_)); (try with_reducible apply True.intro)
      repeat' (first | (with_reducible refine And.intro ?_ ?_) | (with_reducible intro _))
      all_goals try (first | omega | with_reducible rfl | ((with_reducible refine eqId ?_); exact rfl) | with_reducible (first | assumption | exact pl ‹_› | exact pr ‹_› | exact plr ‹_› | exact pll ‹_› | exact prl ‹_› | exact plll ‹_› | exact prll ‹_›))
      (try refine am (h := ?_)); (try simp only [Nat.lt_irrefl]); (try refine am (h := ?_)); (try with_reducible apply True.intro)
      repeat' (first | (with_reducible refine And.intro ?_ ?_) | (with_reducible intro _))
      all_goals try (first | omega | with_reducible rfl | ((with_reducible refine eqId ?_); exact rfl) | with_reducible (first | assumption | exact pl ‹_› | exact pr ‹_› | exact plr ‹_› | exact pll ‹_› | exact prl ‹_› | exact plll ‹_› | exact prll ‹_›))
      refine CallK.mut (markStringS (l.getD i default).values (K + 1 + (l.getD i default).cuts.length) none hv (by omega) (by omega)) ?ha2 ?hb2 ?hc2 ?hd2
      case ha2 => first | exact rfl | (simp only [St.H, lk_cons, AV.at, Nat.lt_irrefl, gl, beq_self, cond_true, reduceIte]; done) | (simp [St.H, lk_cons, AV.at, gl]; done)
      case hb2 => exact rfl
      case hc2 => exact rfl
      (try refine am (h := ?_)); (try with_reducible apply True.intro)
      (try refine am (h := ?_)); (try simp only [Nat.lt_irrefl]); (try refine am (h := ?_)); (try with_reducible apply True.intro)
      repeat' (first | (with_reducible refine And.intro ?_ ?_) | (with_reducible intro _))
      all_goals try (first | omega | with_reducible rfl | ((with_reducible refine eqId ?_); exact rfl) | with_reducible (first | assumption | exact pl ‹_› | exact pr ‹_› | exact plr ‹_› | exact pll ‹_› | exact prl ‹_› | exact plll ‹_› | exact prll ‹_›))
      (try refine am (h := ?_)); (try simp only [Nat.lt_irrefl]); (try refine am (h := ?_)); (try with_reducible apply True.intro)
      repeat' (first | (with_reducible refine And.intro ?_ ?_) | (with_reducible intro _))
      all_goals try (first | omega | with_reducible rfl | ((with_reducible refine eqId ?_); exact rfl) | with_reducible (first | assumption | exact pl ‹_› | exact pr ‹_› | exact plr ‹_› | exact pll ‹_› | exact prl ‹_› | exact plll ‹_› | exact prll ‹_›))
      refine ⟨i + 1, ?_, by omega, by omega⟩
      refine Le.of [(1, 1)] [] rfl rfl rfl rfl ?_ ?_ ?_
      all_goals (try refine amL (h := ?_))
      all_goals (try with_reducible apply True.intro)
      · refine ALe.of (.inl rfl) rfl (fun i' hi' j hj => ?_)
        by_cases e : i' = i
        · subst e
          rw [if_pos (show i' < i' + 1 by omega)]
          have hj' : j = 0 ∨ j = 1 ∨ j = 2 := by omega
          rcases hj' with rfl | rfl | rfl <;> exact .junk _
        · simp only [e, false_and, if_false]
          by_cases e2 : i' < i
          · rw [if_pos e2, if_pos (by omega)]; exact .refl _
          · rw [if_neg e2, if_neg (by omega)]; exact .refl _
      · omega
    · refine FinK.mut (by (try refine am (h := ?_)); (try with_reducible apply True.intro)) ?_ ?_
      all_goals (try refine amF (h := ?_))
      all_goals (try with_reducible apply True.intro)
      refine ⟨ALe.of (.inl rfl) rfl (fun i' hi' j hj => .junk _), by rw [← hK, List.take_of_length_le (by omega)]⟩
end Go.AM
namespace Go.AM
open Go Go.Proofs
set_option maxRecDepth 100000
set_option maxHeartbeats 4000000 in
theorem markMemberS (l : List DMember) (k : Int) (nl : Option Bool) (h : okMemberS (2 ^ 47) l) (h0 : 0 ≤ k) (h1 : k + sm nMember l ≤ 2 ^ 62) : AMut Tryz.prog 76 (.sl true nl 7 l.length (fMember true l)) [.one (.int .i64 k)] (aMember true true (mkMs k l)) (k + sm nMember l) := by
  have hl := h.1
  have nt : Tryz.f76.ntmps = 72 := rfl
  refine AMut.of_run (m := 400) (t := 4) mixed Tryz.func76 rfl rfl (Nat.le_of_ble_eq_true rfl) rfl ?_
  simp only [nt]
  clear nt
  (try refine am (h := ?_)); (try with_reducible apply True.intro)
  repeat' (first | (with_reducible refine And.intro ?_ ?_) | (with_reducible intro _))
  all_goals try (first | omega | with_reducible rfl | ((with_reducible refine eqId ?_); exact rfl) | with_reducible (first | assumption | exact pl ‹_› | exact pr ‹_› | exact plr ‹_› | exact pll ‹_› | exact prl ‹_› | exact plll ‹_› | exact prll ‹_›))
  refine LoopK.auto (Nat) (fun i => [(5, .one (.av (.int .i64 i))), (1, .one (.av (.int .i64 (k + (sm nMember (l.take i) : Nat)))))]) (fun i => [(1, ⟨.sl true none 7 l.length (fun i' j => gl .junk (if i' < i then cMember true true (mkMember (k + (sm nMember (l.take i') : Nat)) (l.getD i' default)) else cMember true true (l.getD i' default)) j), []⟩)]) [0] (k0 := ?k01) (keepH := ?kh1) 7 (fun i => i ≤ l.length) (fun i => l.length - i) (0) ?kea1 ?keb1 ?_ ?_ ?_
  case kea1 => exact amN
  case keb1 => exact amN
  · exact Nat.zero_le _
  · refine Le.of [(1, 1)] [] rfl rfl rfl rfl ?_ ?_ ?_
    all_goals (try refine amL (h := ?_))
    all_goals (try with_reducible apply True.intro)
    · exact ALe.of (.inl rfl) rfl (fun i hi j hj => by rw [if_neg (by omega)]; exact .refl _)
    · simp [sm]
  · intro i hi
    generalize hK : k + ((sm nMember (l.take i) : Nat) : Int) = K
    (try refine am (h := ?_)); (try simp only [Nat.lt_irrefl]); (try refine am (h := ?_)); (try with_reducible apply True.intro)
    refine ⟨fun hlt => ?_, fun hlt => ?_⟩
    · have hs := sm_take (f := nMember) (d := default) hlt
      have hp := sm_pre (sz := nMember) (d := default) l hlt
      have hn : nMember (l.getD i default) = sm nNode (l.getD i default).tree.nodes + 3 + sm nNode (l.getD i default).young.nodes + tot (l.getD i default).det.warn + tot (l.getD i default).det.drift := rfl
      obtain ⟨⟨ht, _⟩, _, ⟨hy, _⟩, hw, hd⟩ := h.2 _ (getD_mem (d := default) hlt)
      repeat' (first | (with_reducible refine And.intro ?_ ?_) | (with_reducible intro _))
      all_goals try (first | omega | with_reducible rfl | ((with_reducible refine eqId ?_); exact rfl) | with_reducible (first | assumption | exact pl ‹_› | exact pr ‹_› | exact plr ‹_› | exact pll ‹_› | exact prl ‹_› | exact plll ‹_› | exact prll ‹_›))
      (try refine am (h := ?_)); (try simp only [Nat.lt_irrefl]); (try refine am (h := ?_)); (try with_reducible apply True.intro)
      repeat' (first | (with_reducible refine And.intro ?_ ?_) | (with_reducible intro _))
      all_goals try (first | omega | with_reducible rfl | ((with_reducible refine eqId ?_); exact rfl) | with_reducible (first | assumption | exact pl ‹_› | exact pr ‹_› | exact plr ‹_› | exact pll ‹_› | exact prl ‹_› | exact plll ‹_› | exact prll ‹_›))
      refine CallK.mut (markNodeS (l.getD i default).tree.nodes K none ht (by omega) (by omega)) ?ha1 ?hb1 ?hc1 ?hd1
      case ha1 => first | exact rfl | (simp only [St.H, lk_cons, AV.at, Nat.lt_irrefl, gl, beq_self, cond_true, reduceIte]; done) | (simp [St.H, lk_cons, AV.at, gl]; done)
      case hb1 => exact rfl
      case hc1 => exact rfl
      (try refine am (h := ?_)); (try with_reducible apply True.intro)
      (try refine am (h := ?_)); (try simp only [Nat.lt_irrefl]); (try refine am (h := ?_)); (try with_reducible apply True.intro)
      repeat' (first | (with_reducible refine And.intro ?_ ?_) | (with_reducible intro _))
      all_goals try (first | omega | with_reducible rfl | ((with_reducible refine eqId ?_); exact rfl) | with_reducible (first | assumption | exact pl ‹_› | exact pr ‹_› | exact plr ‹_› | exact pll ‹_› | exact prl ‹_› | exact plll ‹_› | exact prll ‹_›))
      (try refine am (h := ?_)); (try simp only [Nat.lt_irrefl]); (try refine am (h := ?_)); (try with_reducible apply True.intro)
      repeat' (first | (with_reducible refine And.intro ?_ ?_) | (with_reducible intro _))
      all_goals try (first | omega | with_reducible rfl | ((with_reducible refine eqId ?_); exact rfl) | with_reducible (first | assumption | exact pl ‹_› | exact pr ‹_› | exact plr ‹_› | exact pll ‹_› | exact prl ‹_› | exact plll ‹_› | exact prll ‹_›))
      refine CallK.mut (markNodeS (l.getD i default).young.nodes (K + sm nNode (l.getD i default).tree.nodes + 1 + 1) none hy (by omega) (by omega)) ?ha2 ?hb2 ?hc2 ?hd2
      case ha2 => first | exact rfl | (simp only [St.H, lk_cons, AV.at, Nat.lt_irrefl, gl, beq_self, cond_true, reduceIte]; done) | (simp [St.H, lk_cons, AV.at, gl]; done)
      case hb2 => exact rfl
      case hc2 => exact rfl
      (try refine am (h := ?_)); (try with_reducible apply True.intro)
      (try refine am (h := ?_)); (try simp only [Nat.lt_irrefl]); (try refine am (h := ?_)); (try with_reducible apply True.intro)
      repeat' (first | (with_reducible refine And.intro ?_ ?_) | (with_reducible intro _))
      all_goals try (first | omega | with_reducible rfl | ((with_reducible refine eqId ?_); exact rfl) | with_reducible (first | assumption | exact pl ‹_› | exact pr ‹_› | exact plr ‹_› | exact pll ‹_› | exact prl ‹_› | exact plll ‹_› | exact prll ‹_›))
      (try refine am (h := ?_)); (try simp only [Nat.lt_irrefl]); (try refine am (h := ?_)); (try with_reducible apply True.intro)
      repeat' (first | (with_reducible refine And.intro ?_ ?_) | (with_reducible intro _))
      all_goals try (first | omega | with_reducible rfl | ((with_reducible refine eqId ?_); exact rfl) | with_reducible (first | assumption | exact pl ‹_› | exact pr ‹_› | exact plr ‹_› | exact pll ‹_› | exact prl ‹_› | exact plll ‹_› | exact prll ‹_›))
      refine CallK.mut (markIntSS (l.getD i default).det.warn (K + sm nNode (l.getD i default).tree.nodes + 1 + 1 + sm nNode (l.getD i default).young.nodes + 1) none hw (by omega) (by omega)) ?ha3 ?hb3 ?hc3 ?hd3
      case ha3 => first | exact rfl | (simp only [St.H, lk_cons, AV.at, Nat.lt_irrefl, gl, beq_self, cond_true, reduceIte]; done) | (simp [St.H, lk_cons, AV.at, gl]; done)
      case hb3 => exact rfl
      case hc3 => exact rfl
      (try refine am (h := ?_)); (try with_reducible apply True.intro)
      (try refine am (h := ?_)); (try simp only [Nat.lt_irrefl]); (try refine am (h := ?_)); (try with_reducible apply True.intro)
      repeat' (first | (with_reducible refine And.intro ?_ ?_) | (with_reducible intro _))
      all_goals try (first | omega | with_reducible rfl | ((with_reducible refine eqId ?_); exact rfl) | with_reducible (first | assumption | exact pl ‹_› | exact pr ‹_› | exact plr ‹_› | exact pll ‹_› | exact prl ‹_› | exact plll ‹_› | exact prll ‹_›))
      (try refine am (h := ?_)); (try simp only [Nat.lt_irrefl]); (try refine am (h := ?_)); (try with_reducible apply True.intro)
      repeat' (first | (with_reducible refine And.intro ?_ ?_) | (with_reducible intro _))
      all_goals try (first | omega | with_reducible rfl | ((with_reducible refine eqId ?_); exact rfl) | with_reducible (first | assumption | exact pl ‹_› | exact pr ‹_› | exact plr ‹_› | exact pll ‹_› | exact prl ‹_› | exact plll ‹_› | exact prll ‹_›))
      refine CallK.mut (markIntSS (l.getD i default).det.drift (K + sm nNode (l.getD i default).tree.nodes + 1 + 1 + sm nNode (l.getD i default).young.nodes + 1 + tot (l.getD i default).det.warn) none hd (by omega) (by omega)) ?ha4 ?hb4 ?hc4 ?hd4
      case ha4 => first | exact rfl | (simp only [St.H, lk_cons, AV.at, Nat.lt_irrefl, gl, beq_self, cond_true, reduceIte]; done) | (simp [St.H, lk_cons, AV.at, gl]; done)
      case hb4 => exact rfl
      case hc4 => exact rfl
      (try refine am (h := ?_)); (try with_reducible apply True.intro)
      (try refine am (h := ?_)); (try simp only [Nat.lt_irrefl]); (try refine am (h := ?_)); (try with_reducible apply True.intro)
      repeat' (first | (with_reducible refine And.intro ?_ ?_) | (with_reducible intro _))
      all_goals try (first | omega | with_reducible rfl | ((with_reducible refine eqId ?_); exact rfl) | with_reducible (first | assumption | exact pl ‹_› | exact pr ‹_› | exact plr ‹_› | exact pll ‹_› | exact prl ‹_› | exact plll ‹_› | exact prll ‹_›))
      (try refine am (h := ?_)); (try simp only [Nat.lt_irrefl]); (try refine am (h := ?_)); (try with_reducible apply True.intro)
      repeat' (first | (with_reducible refine And.intro ?_ ?_) | (with_reducible intro _))
      all_goals try (first | omega | with_reducible rfl | ((with_reducible refine eqId ?_); exact rfl) | with_reducible (first | assumption | exact pl ‹_› | exact pr ‹_› | exact plr ‹_› | exact pll ‹_› | exact prl ‹_› | exact plll ‹_› | exact prll ‹_›))
      refine ⟨i + 1, ?_, by omega, by omega⟩
      refine Le.of [(1, 1)] [] rfl rfl rfl rfl ?_ ?_ ?_
      all_goals (try refine amL (h := ?_))
      all_goals (try with_reducible apply True.intro)
      · refine ALe.of (.inl rfl) rfl (fun i' hi' j hj => ?_)
        by_cases e : i' = i
        · subst e
          rw [if_pos (show i' < i' + 1 by omega), hK]
          have hj' : j = 0 ∨ j = 1 ∨ j = 2 ∨ j = 3 ∨ j = 4 ∨ j = 5 ∨ j = 6 := by omega
          rcases hj' with rfl | rfl | rfl | rfl | rfl | rfl | rfl <;> (simp [cMember, mkMember, gl]; try exact .refl _)
        · simp only [e, false_and, if_false]
          by_cases e2 : i' < i
          · rw [if_pos e2, if_pos (by omega)]; exact .refl _
          · rw [if_neg e2, if_neg (by omega)]; exact .refl _
      · omega
    · refine FinK.mut (by (try refine am (h := ?_)); (try with_reducible apply True.intro)) ?_ ?_
      all_goals (try refine amF (h := ?_))
      all_goals (try with_reducible apply True.intro)
      refine ⟨ALe.of (.inl rfl) (mkMs_len k l).symm (fun i' hi' j hj => ?_), by rw [← hK, List.take_of_length_le (by omega)]⟩
      rw [if_pos (by omega)]
      have := mkSq_get (sz := nMember) (mk := mkMember) (d := default) k l hi'
      show ALe _ (gl .junk (cMember true true ((mkMs k l).getD i' default)) j)
      unfold mkMs
      rw [this]
      exact .refl _
end Go.AM
namespace Go.AM
open Go Go.Proofs
set_option maxRecDepth 100000
theorem w_markSchema : WrapOf Tryz.prog 37 2 [(97, 0), (98, 1)] := by
  refine ⟨enter_of Tryz.func37 rfl rfl, fun B cs k w Q hcs hch hB => ?_⟩
  obtain ⟨l⟩ := cs
  match l, hcs with
  | [x0, x1], _ =>
    have nt : Tryz.f37.ntmps = 14 := rfl
    refine calls_of_wp Tryz.func37 rfl ?_
    rw [nt]
    refine wp_seq (wrap_box (N := 14) (T := 50) (cs := ⟨[x0, x1]⟩) (k := k) rfl (tmps_size (by decide)) (by decide) tmps_0 tmps_1 (fun a0 i0 => ?_))
    have c0 := WCh.start (T := 50) hch hB
    refine wp_seq (wrap_part i0 (by decide) (by rw [tk50]; decide) (by simp only [fldTy, tk50, gl]; rw [tk48]; decide) (load_one i0.blk (by rw [tk48]) (by rw [tk48]) (x := x0) (by simp only [fldOff, tk50]; rfl)) (enter_of Tryz.func97 rfl rfl _ _) (Calls.mono (c0.part (v := x0) rfl) (fun e w0 he => ?_)))
    obtain ⟨k0, rfl, hb0, c1⟩ := he
    refine ⟨k0, rfl, hb0, fun a1 i1 => ?_⟩
    refine wp_seq (wrap_part i1 (by decide) (by rw [tk50]; decide) (by simp only [fldTy, tk50, gl]; rw [tk23]; decide) (load_one i1.blk (by rw [tk23]) (by rw [tk23]) (x := x1) (by simp only [fldOff, tk50]; rfl)) (enter_of Tryz.func98 rfl rfl _ _) (Calls.mono (c1.part (v := x1) rfl) (fun e w1 he => ?_)))
    obtain ⟨k1, rfl, hb1, c2⟩ := he
    refine ⟨k1, rfl, hb1, fun a2 i2 => ?_⟩
    refine wp_seq (wrap_last i2 (by decide) (fun a hd hk => ?_))
    exact wp_ret (wrap_end rfl c2 hd hk)
theorem w_markConf : WrapOf Tryz.prog 18 14 [(97, 0), (98, 1)] := by
  refine ⟨enter_of Tryz.func18 rfl rfl, fun B cs k w Q hcs hch hB => ?_⟩
  obtain ⟨l⟩ := cs
  match l, hcs with
  | [x0, x1, x2, x3, x4, x5, x6, x7, x8, x9, x10, x11, x12, x13], _ =>
    have nt : Tryz.f18.ntmps = 10 := rfl
    refine calls_of_wp Tryz.func18 rfl ?_
    rw [nt]
    refine wp_seq (wrap_box (N := 10) (T := 53) (cs := ⟨[x0, x1, x2, x3, x4, x5, x6, x7, x8, x9, x10, x11, x12, x13]⟩) (k := k) rfl (tmps_size (by decide)) (by decide) tmps_0 tmps_1 (fun a0 i0 => ?_))
    have c0 := WCh.start (T := 53) hch hB
    refine wp_seq (wrap_part i0 (by decide) (by rw [tk53]; decide) (by simp only [fldTy, tk53, gl]; rw [tk50]; decide) (v := .agg (Array.extract ⟨[x0, x1, x2, x3, x4, x5, x6, x7, x8, x9, x10, x11, x12, x13]⟩ 0 (0 + 2))) (hv := by have := load_agg (t := 50) (o := 0) i0.blk (by rw [tk50]; decide) (by rw [tk50]) (by rw [tk50]; exact Nat.le_of_ble_eq_true rfl); rw [tk50] at this; simp only [fldOff, tk53]; exact this) (hent := enter_of Tryz.func37 rfl rfl _ _) (hc := Calls.mono (c0.wrap (o := 0) (m := 2) (r := []) rfl w_markSchema (Nat.le_of_ble_eq_true rfl)) (fun e w0 he => ?_)))
    obtain ⟨k0, rfl, hb0, c1⟩ := he
    refine ⟨k0, rfl, hb0, fun a1 i1 => ?_⟩
    refine wp_seq (wrap_last i1 (by decide) (fun a hd hk => ?_))
    exact wp_ret (wrap_end rfl c1 hd hk)
theorem w_markForest : WrapOf Tryz.prog 26 1 [(76, 0)] := by
  refine ⟨enter_of Tryz.func26 rfl rfl, fun B cs k w Q hcs hch hB => ?_⟩
  obtain ⟨l⟩ := cs
  match l, hcs with
  | [x0], _ =>
    have nt : Tryz.f26.ntmps = 10 := rfl
    refine calls_of_wp Tryz.func26 rfl ?_
    rw [nt]
    refine wp_seq (wrap_box (N := 10) (T := 65) (cs := ⟨[x0]⟩) (k := k) rfl (tmps_size (by decide)) (by decide) tmps_0 tmps_1 (fun a0 i0 => ?_))
    have c0 := WCh.start (T := 65) hch hB
    refine wp_seq (wrap_part i0 (by decide) (by rw [tk65]; decide) (by simp only [fldTy, tk65, gl]; rw [tk63]; decide) (load_one i0.blk (by rw [tk63]) (by rw [tk63]) (x := x0) (by simp only [fldOff, tk65]; rfl)) (enter_of Tryz.func76 rfl rfl _ _) (Calls.mono (c0.part (v := x0) rfl) (fun e w0 he => ?_)))
    obtain ⟨k0, rfl, hb0, c1⟩ := he
    refine ⟨k0, rfl, hb0, fun a1 i1 => ?_⟩
    refine wp_seq (wrap_last i1 (by decide) (fun a hd hk => ?_))
    exact wp_ret (wrap_end rfl c1 hd hk)
theorem w_markTape : WrapOf Tryz.prog 19 2 [(71, 0)] := by
  refine ⟨enter_of Tryz.func19 rfl rfl, fun B cs k w Q hcs hch hB => ?_⟩
  obtain ⟨l⟩ := cs
  match l, hcs with
  | [x0, x1], _ =>
    have nt : Tryz.f19.ntmps = 10 := rfl
    refine calls_of_wp Tryz.func19 rfl ?_
    rw [nt]
    refine wp_seq (wrap_box (N := 10) (T := 45) (cs := ⟨[x0, x1]⟩) (k := k) rfl (tmps_size (by decide)) (by decide) tmps_0 tmps_1 (fun a0 i0 => ?_))
    have c0 := WCh.start (T := 45) hch hB
    refine wp_seq (wrap_part i0 (by decide) (by rw [tk45]; decide) (by simp only [fldTy, tk45, gl]; rw [tk30]; decide) (load_one i0.blk (by rw [tk30]) (by rw [tk30]) (x := x0) (by simp only [fldOff, tk45]; rfl)) (enter_of Tryz.func71 rfl rfl _ _) (Calls.mono (c0.part (v := x0) rfl) (fun e w0 he => ?_)))
    obtain ⟨k0, rfl, hb0, c1⟩ := he
    refine ⟨k0, rfl, hb0, fun a1 i1 => ?_⟩
    refine wp_seq (wrap_last i1 (by decide) (fun a hd hk => ?_))
    exact wp_ret (wrap_end rfl c1 hd hk)
end Go.AM
