/- Windows: one bit more, one row less, in plain words. -/
import Derived.Test.YteggckdmicnijaaGreatData
import Derived.Test.YteggckdmicnijaaGreatBas
namespace Go.AM
open Go
theorem getD_app_l {α : Type} {d : α} {l m : List α} {i : Nat} (h : i < l.length) : (l ++ m).getD i d = l.getD i d := by
  rw [List.getD_eq_getElem?_getD, List.getElem?_append_left h, List.getD_eq_getElem?_getD]
theorem getD_app_r {α : Type} {d x : α} {l : List α} : (l ++ [x]).getD l.length d = x := by
  rw [List.getD_eq_getElem?_getD, List.getElem?_append_right (Nat.le_refl _), Nat.sub_self]; rfl
end Go.AM
namespace Go.AM
open Go Go.Proofs
set_option maxRecDepth 100000
theorem boxLe {nl : Option Bool} {F G : Nat → Nat → AV} (h : ALe (F 0 0) (G 0 0)) : ALe (.sl true nl 1 1 F) (.sl true none 1 1 G) := by
  refine ALe.of (.inl rfl) rfl (fun a ha j hj => ?_)
  obtain rfl : j = 0 := by omega
  obtain rfl : a = 0 := by omega
  exact h
theorem okI40 {l : List Int} (h : okI (2 ^ 40) l) : okI (2 ^ 47) l := ⟨Nat.le_trans h.1 (by decide), h.2⟩
theorem appOne {l : List Int} {x : Int} {n : Nat} {nl nl' : Option Bool} {g : Nat → Nat → AV} (hnl : nl' = none ∨ nl' = nl) (hn : n = l.length + 1) (hg : g 0 0 = .int .i64 x) : ALe (.sl true nl 1 n (apF l.length (fI l) g)) (.sl true nl' 1 (l ++ [x]).length (fI (l ++ [x]))) := by
  refine ALe.of hnl (by rw [List.length_append]; exact hn) (fun a ha j hj => ?_)
  obtain rfl : j = 0 := by omega
  unfold apF
  by_cases e : a < l.length
  · rw [if_pos e, fI_at, fI_at, getD_app_l e]; exact .refl _
  · rw [if_neg e]
    obtain rfl : a = l.length := by omega
    rw [Nat.sub_self, hg, fI_at, getD_app_r]; exact .refl _
end Go.AM
namespace Go.AM
open Go Go.Proofs
set_option maxRecDepth 100000
def binN : Nat → Nat → Int
  | _, 0 => 1
  | 0, _ + 1 => 0
  | n + 1, k + 1 => binN n k + binN n (k + 1)
def binI (n k : Int) : Int := if 0 ≤ k ∧ k ≤ n then binN n.toNat k.toNat else 0
def prodB (n : Int) : Nat → Int
  | 0 => 1
  | i + 1 => (prodB n i * (n - (i : Int))).tdiv ((i : Int) + 1)
theorem prodB_bd : ∀ m, m < 6 → ∀ i, i < 6 → 0 ≤ prodB ((m : Nat) : Int) i ∧ prodB ((m : Nat) : Int) i ≤ 10 ∧ -100 ≤ prodB ((m : Nat) : Int) i * (((m : Nat) : Int) - ((i : Nat) : Int)) ∧ prodB ((m : Nat) : Int) i * (((m : Nat) : Int) - ((i : Nat) : Int)) ≤ 100 := by decide
theorem prodB_eq : ∀ m, m < 6 → ∀ i, i < m + 1 → prodB ((m : Nat) : Int) i = binI ((m : Nat) : Int) ((i : Nat) : Int) := by decide
theorem binI_rng : ∀ m, m < 6 → ∀ i, i < 6 → 0 ≤ binI ((m : Nat) : Int) ((i : Nat) : Int) ∧ binI ((m : Nat) : Int) ((i : Nat) : Int) ≤ 10 := by decide
theorem binI_rng' {n k : Int} (hn : 0 ≤ n ∧ n ≤ 5) (hk : 0 ≤ k ∧ k ≤ n) : 0 ≤ binI n k ∧ binI n k ≤ 10 := by
  obtain ⟨m, rfl⟩ := Int.eq_ofNat_of_zero_le hn.1
  obtain ⟨i, rfl⟩ := Int.eq_ofNat_of_zero_le hk.1
  exact binI_rng m (by omega) i (by omega)
theorem binI_pos {n k : Int} (h : 0 < binI n k) : 0 ≤ k ∧ k ≤ n := by
  unfold binI at h
  by_cases e : 0 ≤ k ∧ k ≤ n
  · exact e
  · rw [if_neg e] at h; omega
theorem binI_pasN : ∀ m, m < 5 → ∀ i, i < 5 → binI (((m : Nat) : Int) + 1) (((i : Nat) : Int) + 1) = binI ((m : Nat) : Int) ((i : Nat) : Int) + binI ((m : Nat) : Int) (((i : Nat) : Int) + 1) := by decide
theorem binI_pas {n k : Int} (hn : 1 ≤ n ∧ n ≤ 5) (hk : 1 ≤ k ∧ k ≤ 5) : binI n k = binI (n - 1) (k - 1) + binI (n - 1) k := by
  obtain ⟨m, hm⟩ := Int.eq_ofNat_of_zero_le (a := n - 1) (by omega)
  obtain ⟨i, hi⟩ := Int.eq_ofNat_of_zero_le (a := k - 1) (by omega)
  obtain rfl : n = m + 1 := by omega
  obtain rfl : k = i + 1 := by omega
  rw [Int.add_sub_cancel, Int.add_sub_cancel]
  exact binI_pasN m (by omega) i (by omega)
set_option maxHeartbeats 4000000 in
theorem implBinomial (n k : Int) (hn : 0 ≤ n ∧ n ≤ 5) (hk : 0 ≤ k ∧ k ≤ n) : ACalls Tryz.prog 203 [.one (.int .i64 n), .one (.int .i64 k)] (fun r => r = .val (.one (.int .i64 (binI n k)))) := by
  obtain ⟨m, rfl⟩ := Int.eq_ofNat_of_zero_le hn.1
  obtain ⟨p, rfl⟩ := Int.eq_ofNat_of_zero_le hk.1
  have hm : m < 6 := by omega
  have hp : p < m + 1 := by omega
  have nt : Tryz.f203.ntmps = 30 := rfl
  have rs : Tryz.f203.results = #[.tmp 4] := rfl
  refine ACalls.of_run (m := 400) mixed Tryz.func203 rfl rfl (Nat.le_of_ble_eq_true rfl) ?_
  simp only [nt, rs]
  clear nt rs
  (try refine am (h := ?_)); (try with_reducible apply True.intro)
  first | refine CallK.one (within (m : Int) 0 20) (fun _ => amC) ?_ | refine CallE.one (within (m : Int) 0 20) (fun _ => amC) rfl ?_ | refine CallG.one rfl (fun hg => within (m : Int) 0 20) ?_ | refine CallEG.one rfl rfl (fun hg => within (m : Int) 0 20) ?_
  (try refine am (h := ?_)); (try with_reducible apply True.intro)
  repeat' (first | (with_reducible refine And.intro ?_ ?_) | (with_reducible intro _))
  all_goals try (first | omega | with_reducible rfl | ((with_reducible refine eqId ?_); exact rfl) | with_reducible (first | assumption | exact pl ‹_› | exact pr ‹_› | exact plr ‹_› | exact pll ‹_› | exact prl ‹_› | exact plll ‹_› | exact prll ‹_›))
  first | refine CallK.one (within (p : Int) 0 m) (fun _ => amC) ?_ | refine CallE.one (within (p : Int) 0 m) (fun _ => amC) rfl ?_ | refine CallG.one rfl (fun hg => within (p : Int) 0 m) ?_ | refine CallEG.one rfl rfl (fun hg => within (p : Int) 0 m) ?_
  (try refine am (h := ?_)); (try with_reducible apply True.intro)
  repeat' (first | (with_reducible refine And.intro ?_ ?_) | (with_reducible intro _))
  all_goals try (first | omega | with_reducible rfl | ((with_reducible refine eqId ?_); exact rfl) | with_reducible (first | assumption | exact pl ‹_› | exact pr ‹_› | exact plr ‹_› | exact pll ‹_› | exact prl ‹_› | exact plll ‹_› | exact prll ‹_›))
  all_goals (try (exfalso; omega))
  refine LoopK.auto (Nat) (fun i => [(5, .one (.av (.int .i64 (prodB m i)))), (17, .one (.av (.int .i64 i)))]) (fun i => []) [0, 16] (k0 := ?k01) (keepH := ?kh1) 400 (fun i => i ≤ p) (fun i => p - i) (0) ?kea1 ?keb1 ?_ ?_ ?_
  case kea1 => exact amN
  case keb1 => exact amN
  · exact Nat.zero_le _
  · refine Le.auto [] (r0 := ?r01) (ren := ?ren1) ?ea1 ?eb1 ?a1 ?b1 ?c1 ?d1 ?ho1 ?hn1 ?ht1
    case ea1 => exact amR
    case eb1 => exact amR
    case a1 => exact rfl
    case b1 => exact rfl
    case c1 => exact rfl
    case d1 => exact rfl
    all_goals (try refine amL (h := ?_))
    all_goals (try with_reducible apply True.intro)
    first | done | rfl
  · intro i hi
    have hb := prodB_bd m hm i (by omega)
    have hb2 := prodB_bd m hm (i + 1) 
    have es : prodB m (i + 1) = (prodB m i * ((m : Int) - (i : Int))).tdiv ((i : Int) + 1) := rfl
    (try refine am (h := ?_)); (try with_reducible apply True.intro)
    repeat' (first | (with_reducible refine And.intro ?_ ?_) | (with_reducible intro _))
    all_goals try (first | omega | with_reducible rfl | ((with_reducible refine eqId ?_); exact rfl) | with_reducible (first | assumption | exact pl ‹_› | exact pr ‹_› | exact plr ‹_› | exact pll ‹_› | exact prl ‹_› | exact plll ‹_› | exact prll ‹_›))
    all_goals (try (have := hb2 (by omega); omega))
    · refine ⟨i + 1, ?_, by omega, by omega⟩
      refine Le.auto [] (r0 := ?r02) (ren := ?ren2) ?ea2 ?eb2 ?a2 ?b2 ?c2 ?d2 ?ho2 ?hn2 ?ht2
      case ea2 => exact amR
      case eb2 => exact amR
      case a2 => exact rfl
      case b2 => exact rfl
      case c2 => exact rfl
      case d2 => exact rfl
      all_goals (try refine amL (h := ?_))
      all_goals (try with_reducible apply True.intro)
      first | done | rfl | exact es.symm
    · refine FinK.val1 ?_ ?_
      all_goals (try refine amF (h := ?_))
      all_goals (try with_reducible apply True.intro)
      have : i = p := by omega
      rw [this]
      exact prodB_eq m hm p hp
def pasc (i : Nat) : List Int := (List.range (i + 1)).map fun j => binN i j
theorem pasc_len (i : Nat) : (pasc i).length = i + 1 := by simp [pasc]
theorem pasc_bd : ∀ i, i < 6 → ∀ j, j < i + 1 → 0 ≤ (pasc i).getD j 0 ∧ (pasc i).getD j 0 ≤ 10 := by decide
theorem pasc_next : ∀ i, i < 5 → ∀ j, j < i → (pasc i).getD j 0 + (pasc i).getD (j + 1) 0 = (pasc (i + 1)).getD (j + 1) 0 := by decide
theorem pasc_last : ∀ i, i < 5 → (pasc (i + 1)).getD (i + 1) 0 = 1 := by decide
theorem pasc_one : ∀ i, i < 6 → (pasc i).getD 0 0 = 1 := by decide
theorem pasc_bin : ∀ i, i < 6 → ∀ j, j < i + 1 → (pasc i).getD j 0 = binI ((i : Nat) : Int) ((j : Nat) : Int) := by decide
theorem appTake {l : List Int} {i n : Nat} {nl nl' : Option Bool} {g : Nat → Nat → AV} (hnl : nl' = none ∨ nl' = nl) (hn : n = i + 1) (hg : g 0 0 = .int .i64 (l.getD i 0)) : ALe (.sl true nl 1 n (apF i (fI l) g)) (.sl true nl' 1 (i + 1) (fI l)) := by
  refine ALe.of hnl hn (fun a ha j hj => ?_)
  obtain rfl : j = 0 := by omega
  unfold apF
  by_cases e : a < i
  · rw [if_pos e]; exact .refl _
  · rw [if_neg e]
    obtain rfl : a = i := by omega
    rw [Nat.sub_self, hg, fI_at]; exact .refl _
theorem oneI {l : List Int} {nl nl' : Option Bool} {n : Nat} {g : Nat → Nat → AV} (hnl : nl' = none ∨ nl' = nl) (hn : n = 1) (hg : g 0 0 = .int .i64 (l.getD 0 0)) : ALe (.sl true nl 1 n g) (.sl true nl' 1 1 (fI l)) := by
  refine ALe.of hnl hn (fun a ha j hj => ?_)
  obtain rfl : j = 0 := by omega
  obtain rfl : a = 0 := by omega
  rw [hg, fI_at]; exact .refl _
set_option maxHeartbeats 4000000 in
theorem specBinomial (n k : Int) (hn : 0 ≤ n ∧ n ≤ 5) (hk : 0 ≤ k ∧ k ≤ n) : ACalls Tryz.prog 198 [.one (.int .i64 n), .one (.int .i64 k)] (fun r => r = .val (.one (.int .i64 (binI n k)))) := by
  obtain ⟨m, rfl⟩ := Int.eq_ofNat_of_zero_le hn.1
  obtain ⟨p, rfl⟩ := Int.eq_ofNat_of_zero_le hk.1
  have hm : m < 6 := by omega
  have hp : p < m + 1 := by omega
  have nt : Tryz.f198.ntmps = 51 := rfl
  have rs : Tryz.f198.results = #[.tmp 4] := rfl
  refine ACalls.of_run (m := 400) mixed Tryz.func198 rfl rfl (Nat.le_of_ble_eq_true rfl) ?_
  simp only [nt, rs]
  clear nt rs
  (try refine am (h := ?_)); (try with_reducible apply True.intro)
  first | refine CallK.one (l1In (m : Int) 0 20) (fun _ => amC) ?_ | refine CallE.one (l1In (m : Int) 0 20) (fun _ => amC) rfl ?_ | refine CallG.one rfl (fun hg => l1In (m : Int) 0 20) ?_ | refine CallEG.one rfl rfl (fun hg => l1In (m : Int) 0 20) ?_
  (try refine am (h := ?_)); (try with_reducible apply True.intro)
  repeat' (first | (with_reducible refine And.intro ?_ ?_) | (with_reducible intro _))
  all_goals try (first | omega | with_reducible rfl | ((with_reducible refine eqId ?_); exact rfl) | with_reducible (first | assumption | exact pl ‹_› | exact pr ‹_› | exact plr ‹_› | exact pll ‹_› | exact prl ‹_› | exact plll ‹_› | exact prll ‹_›))
  first | refine CallK.one (l1In (p : Int) 0 m) (fun _ => amC) ?_ | refine CallE.one (l1In (p : Int) 0 m) (fun _ => amC) rfl ?_ | refine CallG.one rfl (fun hg => l1In (p : Int) 0 m) ?_ | refine CallEG.one rfl rfl (fun hg => l1In (p : Int) 0 m) ?_
  (try refine am (h := ?_)); (try with_reducible apply True.intro)
  repeat' (first | (with_reducible refine And.intro ?_ ?_) | (with_reducible intro _))
  all_goals try (first | omega | with_reducible rfl | ((with_reducible refine eqId ?_); exact rfl) | with_reducible (first | assumption | exact pl ‹_› | exact pr ‹_› | exact plr ‹_› | exact pll ‹_› | exact prl ‹_› | exact plll ‹_› | exact prll ‹_›))
  all_goals (try (exfalso; omega))
  refine LoopK.auto (Nat) (fun i => [(5, .one (.own 302 [] [0])), (6, .one (.av (.int .i64 i)))]) (fun i => [(302, ⟨.sl true none 1 (i + 1) (fI (pasc i)), []⟩)]) [0, 1] (k0 := ?k02) (keepH := ?kh2) 400 (fun i => i ≤ m) (fun i => m - i) (0) ?kea2 ?keb2 ?_ ?_ ?_
  case kea2 => exact amN
  case keb2 => exact amN
  · exact Nat.zero_le _
  · refine Le.auto [] (r0 := ?r03) (ren := ?ren3) ?ea3 ?eb3 ?a3 ?b3 ?c3 ?d3 ?ho3 ?hn3 ?ht3
    case ea3 => exact amR
    case eb3 => exact amR
    case a3 => exact rfl
    case b3 => exact rfl
    case c3 => exact rfl
    case d3 => exact rfl
    all_goals (try refine amL (h := ?_))
    all_goals (try with_reducible apply True.intro)
    exact oneI (.inl rfl) rfl rfl
  · intro i hi
    have hpl := pasc_len i
    (try refine am (h := ?_)); (try with_reducible apply True.intro)
    repeat' (first | (with_reducible refine And.intro ?_ ?_) | (with_reducible intro _))
    all_goals try (first | omega | with_reducible rfl | ((with_reducible refine eqId ?_); exact rfl) | with_reducible (first | assumption | exact pl ‹_› | exact pr ‹_› | exact plr ‹_› | exact pll ‹_› | exact prl ‹_› | exact plll ‹_› | exact prll ‹_›))
    · have hlt : i < m := by omega
      refine LoopK.auto (Nat) (fun j => [(7, .one (.own 303 [] [0])), (8, .one (.av (.int .i64 (j + 1 : Nat))))]) (fun j => [(303, ⟨.sl true none 1 (j + 1) (fI (pasc (i + 1))), []⟩)]) [0, 1, 5, 6] (k0 := ?k03) (keepH := ?kh3) 400 (fun j => j ≤ i) (fun j => i - j) (0) ?kea3 ?keb3 ?_ ?_ ?_
      case kea3 => exact amN
      case keb3 => exact amN
      · exact Nat.zero_le _
      · refine Le.auto [] (r0 := ?r04) (ren := ?ren4) ?ea4 ?eb4 ?a4 ?b4 ?c4 ?d4 ?ho4 ?hn4 ?ht4
        case ea4 => exact amR
        case eb4 => exact amR
        case a4 => exact rfl
        case b4 => exact rfl
        case c4 => exact rfl
        case d4 => exact rfl
        all_goals (try refine amL (h := ?_))
        all_goals (try with_reducible apply True.intro)
        exact oneI (.inl rfl) rfl (by rw [pasc_one (i + 1) (by omega)]; rfl)
      · intro j hj
        have b1 := pasc_bd i (by omega) j (by omega)
        have b2 := pasc_bd i (by omega) (j + 1)
        have ej : ((j : Int) + 1).toNat = j + 1 := by omega
        (try refine am (h := ?_)); (try simp only [ej]); (try refine am (h := ?_)); (try with_reducible apply True.intro)
        repeat' (first | (with_reducible refine And.intro ?_ ?_) | (with_reducible intro _))
        all_goals try (first | omega | with_reducible rfl | ((with_reducible refine eqId ?_); exact rfl) | with_reducible (first | assumption | exact pl ‹_› | exact pr ‹_› | exact plr ‹_› | exact pll ‹_› | exact prl ‹_› | exact plll ‹_› | exact prll ‹_›))
        all_goals (try (have := b2 (by omega); omega))
        · refine ⟨j + 1, ?_, by omega, by omega⟩
          refine Le.auto [] (r0 := ?r05) (ren := ?ren5) ?ea5 ?eb5 ?a5 ?b5 ?c5 ?d5 ?ho5 ?hn5 ?ht5
          case ea5 => exact amR
          case eb5 => exact amR
          case a5 => exact rfl
          case b5 => exact rfl
          case c5 => exact rfl
          case d5 => exact rfl
          all_goals (try refine amL (h := ?_))
          all_goals (try with_reducible apply True.intro)
          all_goals (first | exact appTake (.inl rfl) rfl (congrArg (AV.int IntKind.i64) (pasc_next i (by omega) j (by omega))))
        · refine ⟨i + 1, ?_, by omega, by omega⟩
          obtain rfl : j = i := by omega
          refine Le.auto [] (r0 := ?r06) (ren := ?ren6) ?ea6 ?eb6 ?a6 ?b6 ?c6 ?d6 ?ho6 ?hn6 ?ht6
          case ea6 => exact amR
          case eb6 => exact amR
          case a6 => exact rfl
          case b6 => exact rfl
          case c6 => exact rfl
          case d6 => exact rfl
          all_goals (try refine amL (h := ?_))
          all_goals (try with_reducible apply True.intro)
          all_goals (first | exact appTake (.inl rfl) rfl (congrArg (AV.int IntKind.i64) (pasc_last j (by omega)).symm))
    · refine FinK.val1 ?_ ?_
      all_goals (try refine amF (h := ?_))
      all_goals (try with_reducible apply True.intro)
      have : i = m := by omega
      subst this
      exact pasc_bin i hm p hp
def ssGo (n k : Int) : Nat → Int → List Int → Int → List Int
  | 0, _, out, _ => out
  | f + 1, x, out, r => if (out.length : Int) < k then (if r < binI (n - x - 1) (k - out.length - 1) then ssGo n k f (x + 1) (out ++ [x]) r else ssGo n k f (x + 1) out (r - binI (n - x - 1) (k - out.length - 1))) else out
def subsetAt (n k r : Int) : List Int := if 0 ≤ r ∧ r ≤ binI n k - 1 then ssGo n k (n.toNat + 1) 0 [] r else []
structure SsInv (n k r0 : Int) (p : Int × List Int × Int) : Prop where
  hx : 0 ≤ p.1 ∧ p.1 ≤ n
  hl : (p.2.1.length : Int) ≤ k
  hr : 0 ≤ p.2.2 ∧ p.2.2 < binI (n - p.1) (k - p.2.1.length)
  he : ssGo n k ((n - p.1).toNat + 1) p.1 p.2.1 p.2.2 = ssGo n k (n.toNat + 1) 0 [] r0
theorem SsInv.start {n k r : Int} (hn : 0 ≤ n) (hk : 0 ≤ k) (h : 0 ≤ r ∧ r ≤ binI n k - 1) : SsInv n k r (0, [], r) :=
  ⟨⟨Int.le_refl _, hn⟩, hk, ⟨h.1, by show r < binI (n - 0) (k - 0); rw [Int.sub_zero, Int.sub_zero]; omega⟩, by show ssGo n k ((n - 0).toNat + 1) _ _ _ = _; rw [Int.sub_zero]⟩
theorem SsInv.ready {n k r0 : Int} {p : Int × List Int × Int} (h : SsInv n k r0 p) (hlt : (p.2.1.length : Int) < k) : p.1 < n ∧ k - p.2.1.length ≤ n - p.1 := by
  have h1 := h.hr
  have := binI_pos (Int.lt_of_le_of_lt h1.1 h1.2)
  omega
theorem SsInv.take {n k r0 : Int} {p : Int × List Int × Int} (h : SsInv n k r0 p) (hlt : (p.2.1.length : Int) < k) (hc : p.2.2 < binI (n - p.1 - 1) (k - p.2.1.length - 1)) : SsInv n k r0 (p.1 + 1, p.2.1 ++ [p.1], p.2.2) := by
  have h0 := h.ready hlt
  have h1 := h.hx
  have el : ((p.2.1 ++ [p.1]).length : Int) = p.2.1.length + 1 := by rw [List.length_append]; rfl
  refine ⟨by show 0 ≤ p.1 + 1 ∧ p.1 + 1 ≤ n; omega, by show ((p.2.1 ++ [p.1]).length : Int) ≤ k; omega, ⟨h.hr.1, ?_⟩, ?_⟩
  · show p.2.2 < binI (n - (p.1 + 1)) (k - ((p.2.1 ++ [p.1]).length : Int))
    rw [el, show n - (p.1 + 1) = n - p.1 - 1 by omega, show k - ((p.2.1.length : Int) + 1) = k - p.2.1.length - 1 by omega]
    exact hc
  · rw [← h.he]
    show ssGo n k ((n - (p.1 + 1)).toNat + 1) (p.1 + 1) (p.2.1 ++ [p.1]) p.2.2 = _
    rw [show (n - (p.1 + 1)).toNat + 1 = (n - p.1).toNat by omega]
    conv => rhs; unfold ssGo
    rw [if_pos hlt, if_pos hc]
theorem SsInv.skip {n k r0 : Int} {p : Int × List Int × Int} (h : SsInv n k r0 p) (hn : n ≤ 5) (hk : k ≤ 5) (hlt : (p.2.1.length : Int) < k) (hc : ¬ p.2.2 < binI (n - p.1 - 1) (k - p.2.1.length - 1)) : SsInv n k r0 (p.1 + 1, p.2.1, p.2.2 - binI (n - p.1 - 1) (k - p.2.1.length - 1)) := by
  have h0 := h.ready hlt
  have h1 := h.hx
  have h2 := h.hr
  have hp := binI_pas (n := n - p.1) (k := k - p.2.1.length) (by omega) (by omega)
  refine ⟨by show 0 ≤ p.1 + 1 ∧ p.1 + 1 ≤ n; omega, h.hl, ⟨by show 0 ≤ p.2.2 - _; omega, ?_⟩, ?_⟩
  · show p.2.2 - binI (n - p.1 - 1) (k - p.2.1.length - 1) < binI (n - (p.1 + 1)) (k - p.2.1.length)
    rw [show n - (p.1 + 1) = n - p.1 - 1 by omega]
    omega
  · rw [← h.he]
    show ssGo n k ((n - (p.1 + 1)).toNat + 1) (p.1 + 1) p.2.1 (p.2.2 - binI (n - p.1 - 1) (k - p.2.1.length - 1)) = _
    rw [show (n - (p.1 + 1)).toNat + 1 = (n - p.1).toNat by omega]
    conv => rhs; unfold ssGo
    rw [if_pos hlt, if_neg hc]
theorem SsInv.done {n k r0 : Int} {p : Int × List Int × Int} (h : SsInv n k r0 p) (hlt : ¬ (p.2.1.length : Int) < k) (hr0 : 0 ≤ r0 ∧ r0 ≤ binI n k - 1) : subsetAt n k r0 = p.2.1 := by
  have e : subsetAt n k r0 = ssGo n k (n.toNat + 1) 0 [] r0 := if_pos hr0
  rw [e, ← h.he]
  unfold ssGo
  rw [if_neg hlt]
theorem ssGo_ok {n k : Int} : ∀ {f : Nat} {x : Int} {out : List Int} {r : Int}, (out.length : Int) ≤ k → 0 ≤ x → x + f ≤ 2 ^ 60 → (∀ y ∈ out, inK .i64 y) → ((ssGo n k f x out r).length : Int) ≤ k ∧ ∀ y ∈ ssGo n k f x out r, inK .i64 y
  | 0, x, out, r, h1, _, _, h4 => ⟨h1, h4⟩
  | f + 1, x, out, r, h1, h2, h3, h4 => by
    have h3' : x + ((f + 1 : Nat) : Int) ≤ 1152921504606846976 := h3
    have hf : x + 1 + (f : Int) ≤ 2 ^ 60 := by show _ ≤ (1152921504606846976 : Int); omega
    unfold ssGo
    by_cases c1 : (out.length : Int) < k
    · rw [if_pos c1]
      by_cases c2 : r < binI (n - x - 1) (k - out.length - 1)
      · rw [if_pos c2]
        refine ssGo_ok ?_ (by omega) hf (fun y hy => ?_)
        · rw [List.length_append]; show ((out.length + 1 : Nat) : Int) ≤ k; omega
        · rcases List.mem_append.1 hy with hy | hy
          · exact h4 y hy
          · rw [List.mem_singleton.1 hy]; exact inK_bd (by omega)
      · rw [if_neg c2]
        exact ssGo_ok h1 (by omega) hf h4
    · rw [if_neg c1]
      exact ⟨h1, h4⟩
theorem subsetAt_ok {n k r : Int} (hn : n ≤ 5) (hk : 0 ≤ k ∧ k ≤ 5) : (subsetAt n k r).length ≤ 5 ∧ okI (2 ^ 40) (subsetAt n k r) := by
  unfold subsetAt
  split
  · have h := ssGo_ok (n := n) (k := k) (f := n.toNat + 1) (x := 0) (out := []) (r := r) hk.1 (Int.le_refl _) (by show (0 : Int) + ((n.toNat + 1 : Nat) : Int) ≤ 1152921504606846976; omega) (fun y hy => nomatch hy)
    have h1 := h.1
    exact ⟨by omega, by omega, h.2⟩
  · exact ⟨Nat.zero_le _, Nat.zero_le _, fun y hy => nomatch hy⟩
set_option maxHeartbeats 4000000 in
theorem implSubsetAt (n k r : Int) (hn : 0 ≤ n ∧ n ≤ 5) (hk : 0 ≤ k ∧ k ≤ n) (hr : inK .i64 r) : ACalls Tryz.prog 204 [.one (.int .i64 n), .one (.int .i64 k), .one (.int .i64 r)] (fun q => q = .val (.one (aI true (subsetAt n k r)))) := by
  have hb := binI_rng' hn hk
  have hrr : -9223372036854775808 ≤ r ∧ r ≤ 9223372036854775807 := hr
  have nt : Tryz.f204.ntmps = 45 := rfl
  have rs : Tryz.f204.results = #[.tmp 6] := rfl
  refine ACalls.of_run (m := 400) mixed Tryz.func204 rfl rfl (Nat.le_of_ble_eq_true rfl) ?_
  simp only [nt, rs]
  clear nt rs
  (try refine am (h := ?_)); (try with_reducible apply True.intro)
  first | refine CallK.one (implBinomial n k hn hk) (fun _ => amC) ?_ | refine CallE.one (implBinomial n k hn hk) (fun _ => amC) rfl ?_ | refine CallG.one rfl (fun hg => implBinomial n k hn hk) ?_ | refine CallEG.one rfl rfl (fun hg => implBinomial n k hn hk) ?_
  (try refine am (h := ?_)); (try with_reducible apply True.intro)
  repeat' (first | (with_reducible refine And.intro ?_ ?_) | (with_reducible intro _))
  all_goals try (first | omega | with_reducible rfl | ((with_reducible refine eqId ?_); exact rfl) | with_reducible (first | assumption | exact pl ‹_› | exact pr ‹_› | exact plr ‹_› | exact pll ‹_› | exact prl ‹_› | exact plll ‹_› | exact prll ‹_›))
  first | refine CallK.one (within r 0 (binI n k - 1)) (fun _ => amC) ?_ | refine CallE.one (within r 0 (binI n k - 1)) (fun _ => amC) rfl ?_ | refine CallG.one rfl (fun hg => within r 0 (binI n k - 1)) ?_ | refine CallEG.one rfl rfl (fun hg => within r 0 (binI n k - 1)) ?_
  (try refine am (h := ?_)); (try with_reducible apply True.intro)
  repeat' (first | (with_reducible refine And.intro ?_ ?_) | (with_reducible intro _))
  all_goals try (first | omega | with_reducible rfl | ((with_reducible refine eqId ?_); exact rfl) | with_reducible (first | assumption | exact pl ‹_› | exact pr ‹_› | exact plr ‹_› | exact pll ‹_› | exact prl ‹_› | exact plll ‹_› | exact prll ‹_›))
  · have e : subsetAt n k r = [] := if_neg (by assumption)
    rw [e]
    refine FinK.val1 ?_ ?_
    all_goals (try refine amF (h := ?_))
    all_goals (try with_reducible apply True.intro)
    exact .nil _ _ _ _ _
  rename_i hr0
  refine LoopK.auto ((Int × List Int × Int)) (fun p => [(8, .one (.av (.int .i64 p.1))), (7, .one (.own 302 [] [0])), (2, .one (.av (.int .i64 p.2.2)))]) (fun p => [(302, ⟨.sl true none 1 p.2.1.length (fI p.2.1), []⟩)]) [0, 1] (k0 := ?k04) (keepH := ?kh4) 400 (fun p => SsInv n k r p) (fun p => (n - p.1).toNat) ((0, [], r)) ?kea4 ?keb4 ?_ ?_ ?_
  case kea4 => exact amN
  case keb4 => exact amN
  · exact SsInv.start hn.1 hk.1 hr0
  · refine Le.auto [] (r0 := ?r07) (ren := ?ren7) ?ea7 ?eb7 ?a7 ?b7 ?c7 ?d7 ?ho7 ?hn7 ?ht7
    case ea7 => exact amR
    case eb7 => exact amR
    case a7 => exact rfl
    case b7 => exact rfl
    case c7 => exact rfl
    case d7 => exact rfl
    all_goals (try refine amL (h := ?_))
    all_goals (try with_reducible apply True.intro)
    all_goals (first | exact ALe.of (.inl rfl) rfl (fun i hi => absurd hi (Nat.not_lt_zero _)) | skip)
  · rintro ⟨x, out, q⟩ hi
    have hx : 0 ≤ x ∧ x ≤ n := hi.hx
    have hl : (out.length : Int) ≤ k := hi.hl
    have hq : 0 ≤ q ∧ q < binI (n - x) (k - out.length) := hi.hr
    have hrd := hi.ready
    (try refine am (h := ?_)); (try with_reducible apply True.intro)
    repeat' (first | (with_reducible refine And.intro ?_ ?_) | (with_reducible intro _))
    all_goals try (first | omega | with_reducible rfl | ((with_reducible refine eqId ?_); exact rfl) | with_reducible (first | assumption | exact pl ‹_› | exact pr ‹_› | exact plr ‹_› | exact pll ‹_› | exact prl ‹_› | exact plll ‹_› | exact prll ‹_›))
    · have hlt : (out.length : Int) < k := by assumption
      have hrd' : x < n ∧ k - out.length ≤ n - x := hi.ready hlt
      have hb2 := binI_rng' (n := n - x - 1) (k := k - out.length - 1) (by omega) (by omega)
      have hb3 := binI_rng' (n := n - x) (k := k - out.length) (by omega) (by omega)
      first | refine CallK.one (implBinomial (n - x - 1) (k - out.length - 1) (by omega) (by omega)) (fun _ => amC) ?_ | refine CallE.one (implBinomial (n - x - 1) (k - out.length - 1) (by omega) (by omega)) (fun _ => amC) rfl ?_ | refine CallG.one rfl (fun hg => implBinomial (n - x - 1) (k - out.length - 1) (by omega) (by omega)) ?_ | refine CallEG.one rfl rfl (fun hg => implBinomial (n - x - 1) (k - out.length - 1) (by omega) (by omega)) ?_
      (try refine am (h := ?_)); (try with_reducible apply True.intro)
      repeat' (first | (with_reducible refine And.intro ?_ ?_) | (with_reducible intro _))
      all_goals try (first | omega | with_reducible rfl | ((with_reducible refine eqId ?_); exact rfl) | with_reducible (first | assumption | exact pl ‹_› | exact pr ‹_› | exact plr ‹_› | exact pll ‹_› | exact prl ‹_› | exact plll ‹_› | exact prll ‹_›))
      · refine ⟨(x + 1, out ++ [x], q), ?_, hi.take hlt (by assumption), by show (n - (x + 1)).toNat < (n - x).toNat; have := hrd'.1; omega⟩
        refine Le.auto [] (r0 := ?r08) (ren := ?ren8) ?ea8 ?eb8 ?a8 ?b8 ?c8 ?d8 ?ho8 ?hn8 ?ht8
        case ea8 => exact amR
        case eb8 => exact amR
        case a8 => exact rfl
        case b8 => exact rfl
        case c8 => exact rfl
        case d8 => exact rfl
        all_goals (try refine amL (h := ?_))
        all_goals (try with_reducible apply True.intro)
        all_goals (first | exact appOne (.inl rfl) rfl rfl | skip)
      · refine ⟨(x + 1, out, q - binI (n - x - 1) (k - out.length - 1)), ?_, hi.skip hn.2 (by omega) hlt (by assumption), by show (n - (x + 1)).toNat < (n - x).toNat; have := hrd'.1; omega⟩
        refine Le.auto [] (r0 := ?r09) (ren := ?ren9) ?ea9 ?eb9 ?a9 ?b9 ?c9 ?d9 ?ho9 ?hn9 ?ht9
        case ea9 => exact amR
        case eb9 => exact amR
        case a9 => exact rfl
        case b9 => exact rfl
        case c9 => exact rfl
        case d9 => exact rfl
        all_goals (try refine amL (h := ?_))
        all_goals (try with_reducible apply True.intro)
        all_goals (first | exact .refl _ | skip)
    · have hlt : ¬ (out.length : Int) < k := by assumption
      rw [hi.done hlt hr0]
      refine FinK.val1 ?_ ?_
      all_goals (try refine amF (h := ?_))
      all_goals (try with_reducible apply True.intro)
      all_goals (first | exact .refl _ | skip)
set_option maxHeartbeats 4000000 in
theorem specSubsetAt (n k r : Int) (hn : 0 ≤ n ∧ n ≤ 5) (hk : 0 ≤ k ∧ k ≤ n) (hr : inK .i64 r) : ACalls Tryz.prog 199 [.one (.int .i64 n), .one (.int .i64 k), .one (.int .i64 r)] (fun q => q = .val (.one (aI true (subsetAt n k r)))) := by
  have hb := binI_rng' hn hk
  have hrr : -9223372036854775808 ≤ r ∧ r ≤ 9223372036854775807 := hr
  have nt : Tryz.f199.ntmps = 46 := rfl
  have rs : Tryz.f199.results = #[.tmp 6] := rfl
  refine ACalls.of_run (m := 400) mixed Tryz.func199 rfl rfl (Nat.le_of_ble_eq_true rfl) ?_
  simp only [nt, rs]
  clear nt rs
  (try refine am (h := ?_)); (try with_reducible apply True.intro)
  repeat' (first | (with_reducible refine And.intro ?_ ?_) | (with_reducible intro _))
  all_goals try (first | omega | with_reducible rfl | ((with_reducible refine eqId ?_); exact rfl) | with_reducible (first | assumption | exact pl ‹_› | exact pr ‹_› | exact plr ‹_› | exact pll ‹_› | exact prl ‹_› | exact plll ‹_› | exact prll ‹_›))
  first | refine CallK.one (specBinomial n k hn hk) (fun _ => amC) ?_ | refine CallE.one (specBinomial n k hn hk) (fun _ => amC) rfl ?_ | refine CallG.one rfl (fun hg => specBinomial n k hn hk) ?_ | refine CallEG.one rfl rfl (fun hg => specBinomial n k hn hk) ?_
  (try refine am (h := ?_)); (try with_reducible apply True.intro)
  repeat' (first | (with_reducible refine And.intro ?_ ?_) | (with_reducible intro _))
  all_goals try (first | omega | with_reducible rfl | ((with_reducible refine eqId ?_); exact rfl) | with_reducible (first | assumption | exact pl ‹_› | exact pr ‹_› | exact plr ‹_› | exact pll ‹_› | exact prl ‹_› | exact plll ‹_› | exact prll ‹_›))
  first | refine CallK.one (l1In r 0 (binI n k - 1)) (fun _ => amC) ?_ | refine CallE.one (l1In r 0 (binI n k - 1)) (fun _ => amC) rfl ?_ | refine CallG.one rfl (fun hg => l1In r 0 (binI n k - 1)) ?_ | refine CallEG.one rfl rfl (fun hg => l1In r 0 (binI n k - 1)) ?_
  (try refine am (h := ?_)); (try with_reducible apply True.intro)
  repeat' (first | (with_reducible refine And.intro ?_ ?_) | (with_reducible intro _))
  all_goals try (first | omega | with_reducible rfl | ((with_reducible refine eqId ?_); exact rfl) | with_reducible (first | assumption | exact pl ‹_› | exact pr ‹_› | exact plr ‹_› | exact pll ‹_› | exact prl ‹_› | exact plll ‹_› | exact prll ‹_›))
  · have e : subsetAt n k r = [] := if_neg (by assumption)
    rw [e]
    refine FinK.val1 ?_ ?_
    all_goals (try refine amF (h := ?_))
    all_goals (try with_reducible apply True.intro)
    exact ALe.of (.inl rfl) rfl (fun i hi => absurd hi (Nat.not_lt_zero _))
  rename_i hr0
  refine LoopK.auto ((Int × List Int × Int)) (fun p => [(8, .one (.av (.int .i64 p.1))), (7, .one (.own 302 [] [0])), (2, .one (.av (.int .i64 p.2.2)))]) (fun p => [(302, ⟨.sl true none 1 p.2.1.length (fI p.2.1), []⟩)]) [0, 1] (k0 := ?k05) (keepH := ?kh5) 400 (fun p => SsInv n k r p) (fun p => (n - p.1).toNat) ((0, [], r)) ?kea5 ?keb5 ?_ ?_ ?_
  case kea5 => exact amN
  case keb5 => exact amN
  · exact SsInv.start hn.1 hk.1 hr0
  · refine Le.auto [] (r0 := ?r010) (ren := ?ren10) ?ea10 ?eb10 ?a10 ?b10 ?c10 ?d10 ?ho10 ?hn10 ?ht10
    case ea10 => exact amR
    case eb10 => exact amR
    case a10 => exact rfl
    case b10 => exact rfl
    case c10 => exact rfl
    case d10 => exact rfl
    all_goals (try refine amL (h := ?_))
    all_goals (try with_reducible apply True.intro)
    all_goals (first | exact ALe.of (.inl rfl) rfl (fun i hi => absurd hi (Nat.not_lt_zero _)) | skip)
  · rintro ⟨x, out, q⟩ hi
    have hx : 0 ≤ x ∧ x ≤ n := hi.hx
    have hl : (out.length : Int) ≤ k := hi.hl
    have hq : 0 ≤ q ∧ q < binI (n - x) (k - out.length) := hi.hr
    have hrd := hi.ready
    (try refine am (h := ?_)); (try with_reducible apply True.intro)
    repeat' (first | (with_reducible refine And.intro ?_ ?_) | (with_reducible intro _))
    all_goals try (first | omega | with_reducible rfl | ((with_reducible refine eqId ?_); exact rfl) | with_reducible (first | assumption | exact pl ‹_› | exact pr ‹_› | exact plr ‹_› | exact pll ‹_› | exact prl ‹_› | exact plll ‹_› | exact prll ‹_›))
    · have hlt : (out.length : Int) < k := by assumption
      have hrd' : x < n ∧ k - out.length ≤ n - x := hi.ready hlt
      have hb2 := binI_rng' (n := n - x - 1) (k := k - out.length - 1) (by omega) (by omega)
      have hb3 := binI_rng' (n := n - x) (k := k - out.length) (by omega) (by omega)
      first | refine CallK.one (specBinomial (n - x - 1) (k - out.length - 1) (by omega) (by omega)) (fun _ => amC) ?_ | refine CallE.one (specBinomial (n - x - 1) (k - out.length - 1) (by omega) (by omega)) (fun _ => amC) rfl ?_ | refine CallG.one rfl (fun hg => specBinomial (n - x - 1) (k - out.length - 1) (by omega) (by omega)) ?_ | refine CallEG.one rfl rfl (fun hg => specBinomial (n - x - 1) (k - out.length - 1) (by omega) (by omega)) ?_
      (try refine am (h := ?_)); (try with_reducible apply True.intro)
      repeat' (first | (with_reducible refine And.intro ?_ ?_) | (with_reducible intro _))
      all_goals try (first | omega | with_reducible rfl | ((with_reducible refine eqId ?_); exact rfl) | with_reducible (first | assumption | exact pl ‹_› | exact pr ‹_› | exact plr ‹_› | exact pll ‹_› | exact prl ‹_› | exact plll ‹_› | exact prll ‹_›))
      · refine ⟨(x + 1, out ++ [x], q), ?_, hi.take hlt (by assumption), by show (n - (x + 1)).toNat < (n - x).toNat; have := hrd'.1; omega⟩
        refine Le.auto [] (r0 := ?r011) (ren := ?ren11) ?ea11 ?eb11 ?a11 ?b11 ?c11 ?d11 ?ho11 ?hn11 ?ht11
        case ea11 => exact amR
        case eb11 => exact amR
        case a11 => exact rfl
        case b11 => exact rfl
        case c11 => exact rfl
        case d11 => exact rfl
        all_goals (try refine amL (h := ?_))
        all_goals (try with_reducible apply True.intro)
        all_goals (first | exact appOne (.inl rfl) rfl rfl | skip)
      · refine ⟨(x + 1, out, q - binI (n - x - 1) (k - out.length - 1)), ?_, hi.skip hn.2 (by omega) hlt (by assumption), by show (n - (x + 1)).toNat < (n - x).toNat; have := hrd'.1; omega⟩
        refine Le.auto [] (r0 := ?r012) (ren := ?ren12) ?ea12 ?eb12 ?a12 ?b12 ?c12 ?d12 ?ho12 ?hn12 ?ht12
        case ea12 => exact amR
        case eb12 => exact amR
        case a12 => exact rfl
        case b12 => exact rfl
        case c12 => exact rfl
        case d12 => exact rfl
        all_goals (try refine amL (h := ?_))
        all_goals (try with_reducible apply True.intro)
        all_goals (first | exact .refl _ | skip)
    · have hlt : ¬ (out.length : Int) < k := by assumption
      rw [hi.done hlt hr0]
      refine FinK.val1 ?_ ?_
      all_goals (try refine amF (h := ?_))
      all_goals (try with_reducible apply True.intro)
      all_goals (first | exact .refl _ | skip)
end Go.AM
