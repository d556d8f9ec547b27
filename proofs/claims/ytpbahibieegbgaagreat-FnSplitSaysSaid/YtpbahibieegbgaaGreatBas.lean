/- Lemmas for the proof of this claim. -/
import Derived.Test.YtpbahibieegbgaaGreatFam
namespace Go.AM
open Go Go.Proofs
set_option maxRecDepth 100000
set_option maxHeartbeats 2000000 in
theorem within (n lo hi : Int) : ACalls Tryz.prog 54 [.one (.int .i64 n), .one (.int .i64 lo), .one (.int .i64 hi)] (fun r => r = .val (.one (.bool (decide (lo ≤ n ∧ n ≤ hi))))) := by
 have nt : Tryz.f54.ntmps = 15 := rfl
 have rs : Tryz.f54.results = #[.tmp 6] := rfl
 refine ACalls.of_run (m := 400) mixed Tryz.func54 rfl rfl (Nat.le_of_ble_eq_true rfl) ?_
 simp only [nt, rs]
 clear nt rs
 (try refine am (h := ?_)); (try exact amT)
 refine FinK.val1 ?_ ?_
 all_goals (try refine amF (h := ?_))
 all_goals (try exact amT)
set_option maxHeartbeats 2000000 in
theorem l1In (n lo hi : Int) : ACalls Tryz.prog 45 [.one (.int .i64 n), .one (.int .i64 lo), .one (.int .i64 hi)] (fun r => r = .val (.one (.bool (decide (lo ≤ n ∧ n ≤ hi))))) := by
 have nt : Tryz.f45.ntmps = 15 := rfl
 have rs : Tryz.f45.results = #[.tmp 6] := rfl
 refine ACalls.of_run (m := 400) mixed Tryz.func45 rfl rfl (Nat.le_of_ble_eq_true rfl) ?_
 simp only [nt, rs]
 clear nt rs
 (try refine am (h := ?_)); (try exact amT)
 refine FinK.val1 ?_ ?_
 all_goals (try refine amF (h := ?_))
 all_goals (try exact amT)
set_option maxHeartbeats 2000000 in
theorem indexFuncI0 (l : List Int) (u : Bool) (nl : Option Bool) (f : FuncId) (g : Nat → AV) (p : Int → Bool) (hl : l.length ≤ 2 ^ 47) (hf : ∀ x ∈ l, ACalls Tryz.prog f [.one (.int .i64 x)] (fun r => r = .val (.one (.bool (p x))))) :
 ACalls Tryz.prog 151 [.one (.sl u nl 1 l.length (fI l)), .one (.fn (.func f) 0 g)] (fun r => r = .val (.one (.int .i64 (fidx p l 0)))) := by
 have nt : Tryz.f151.ntmps = 19 := rfl
 have rs : Tryz.f151.results = #[.tmp 4] := rfl
 refine ACalls.of_run (m := 400) mixed Tryz.func151 rfl rfl (Nat.le_of_ble_eq_true rfl) ?_
 simp only [nt, rs]
 clear nt rs
 (try refine am (h := ?_)); (try exact amT)
 refine LoopK.auto (Nat) (fun i => [(8, .one (.av (.int .i64 i)))]) (fun i => []) [0, 1, 7] (k0 := ?k01) (keepH := ?kh1) 400 (fun i => i ≤ l.length ∧ fidx p l 0 = fidx p (l.drop i) i) (fun i => l.length - i) (0) ?kea1 ?keb1 ?_ ?_ ?_
 case kea1 => exact amN
 case keb1 => exact amN
 ·exact ⟨Nat.zero_le _, by simp⟩
 ·refine Le.auto [] (r0 := ?r01) (ren := ?ren1) ?ea1 ?eb1 ?a1 ?b1 ?c1 ?d1 ?ho1 ?hn1 ?ht1
  case ea1 => exact amR
  case eb1 => exact amR
  case a1 => exact rfl
  case b1 => exact rfl
  case c1 => exact rfl
  case d1 => exact rfl
  all_goals (try refine amL (h := ?_))
  all_goals (try exact amT)
 ·rintro i ⟨hi, hs⟩
  (try refine am (h := ?_)); (try exact amT)
  repeat' with_reducible first|apply And.intro|intro _
  all_goals try exact amA
  ·have hlt : i < l.length := by assumption
   refine CallK.one (hf _ (getD_mem hlt)) (fun _ => amC) ?_
   (try refine am (h := ?_)); (try exact amT)
   rw [drop_cons (d := 0) hlt] at hs
   simp only [fidx] at hs
   repeat' with_reducible first|apply And.intro|intro _
   all_goals try exact amA
   ·refine FinK.val1 ?_ ?_
    all_goals (try refine amF (h := ?_))
    all_goals (try exact amT)
    have hp : p (l.getD i 0) = true := by assumption
    rw [hp] at hs
    exact hs.symm
   ·have hp : p (l.getD i 0) = false := by assumption
    rw [hp] at hs
    refine ⟨i + 1, ?_, ⟨by omega, hs⟩, by omega⟩
    refine Le.auto [] (r0 := ?r02) (ren := ?ren2) ?ea2 ?eb2 ?a2 ?b2 ?c2 ?d2 ?ho2 ?hn2 ?ht2
    case ea2 => exact amR
    case eb2 => exact amR
    case a2 => exact rfl
    case b2 => exact rfl
    case c2 => exact rfl
    case d2 => exact rfl
    all_goals (try refine amL (h := ?_))
    all_goals (try exact amT)
  ·refine FinK.val1 ?_ ?_
   all_goals (try refine amF (h := ?_))
   all_goals (try exact amT)
   have : i = l.length := by omega
   subst this
   rw [List.drop_length] at hs
   exact hs.symm
set_option maxHeartbeats 2000000 in
theorem containsFuncI0 (l : List Int) (u : Bool) (nl : Option Bool) (f : FuncId) (g : Nat → AV) (p : Int → Bool) (hl : l.length ≤ 2 ^ 47) (hf : ∀ x ∈ l, ACalls Tryz.prog f [.one (.int .i64 x)] (fun r => r = .val (.one (.bool (p x))))) :
 ACalls Tryz.prog 113 [.one (.sl u nl 1 l.length (fI l)), .one (.fn (.func f) 0 g)] (fun r => r = .val (.one (.bool (l.any p)))) := by
 have nt : Tryz.f113.ntmps = 9 := rfl
 have rs : Tryz.f113.results = #[.tmp 4] := rfl
 refine ACalls.of_run (m := 400) mixed Tryz.func113 rfl rfl (Nat.le_of_ble_eq_true rfl) ?_
 simp only [nt, rs]
 clear nt rs
 (try refine am (h := ?_)); (try exact amT)
 refine CallK.one (indexFuncI0 l _ _ f _ p hl (fun x hx => hf x hx)) (fun _ => amC) ?_
 (try refine am (h := ?_)); (try exact amT)
 refine FinK.val1 ?_ ?_
 all_goals (try refine amF (h := ?_))
 all_goals (try exact amT)
 exact fidx_any p l 0 (by omega)
set_option maxHeartbeats 2000000 in
theorem indexFuncI2 (l : List Int) (u : Bool) (nl : Option Bool) (f : FuncId) (g : Nat → AV) (p : Int → Bool) (hl : l.length ≤ 2 ^ 47) (hf : ∀ x ∈ l, ACalls Tryz.prog f [.one (.int .i64 x), .one (g 0), .one (g 1)] (fun r => r = .val (.one (.bool (p x))))) :
 ACalls Tryz.prog 151 [.one (.sl u nl 1 l.length (fI l)), .one (.fn (.func f) 2 g)] (fun r => r = .val (.one (.int .i64 (fidx p l 0)))) := by
 have nt : Tryz.f151.ntmps = 19 := rfl
 have rs : Tryz.f151.results = #[.tmp 4] := rfl
 refine ACalls.of_run (m := 400) mixed Tryz.func151 rfl rfl (Nat.le_of_ble_eq_true rfl) ?_
 simp only [nt, rs]
 clear nt rs
 (try refine am (h := ?_)); (try exact amT)
 refine LoopK.auto (Nat) (fun i => [(8, .one (.av (.int .i64 i)))]) (fun i => []) [0, 1, 7] (k0 := ?k03) (keepH := ?kh3) 400 (fun i => i ≤ l.length ∧ fidx p l 0 = fidx p (l.drop i) i) (fun i => l.length - i) (0) ?kea3 ?keb3 ?_ ?_ ?_
 case kea3 => exact amN
 case keb3 => exact amN
 ·exact ⟨Nat.zero_le _, by simp⟩
 ·refine Le.auto [] (r0 := ?r05) (ren := ?ren5) ?ea5 ?eb5 ?a5 ?b5 ?c5 ?d5 ?ho5 ?hn5 ?ht5
  case ea5 => exact amR
  case eb5 => exact amR
  case a5 => exact rfl
  case b5 => exact rfl
  case c5 => exact rfl
  case d5 => exact rfl
  all_goals (try refine amL (h := ?_))
  all_goals (try exact amT)
 ·rintro i ⟨hi, hs⟩
  (try refine am (h := ?_)); (try exact amT)
  repeat' with_reducible first|apply And.intro|intro _
  all_goals try exact amA
  ·have hlt : i < l.length := by assumption
   refine CallK.one (hf _ (getD_mem hlt)) (fun _ => amC) ?_
   (try refine am (h := ?_)); (try exact amT)
   rw [drop_cons (d := 0) hlt] at hs
   simp only [fidx] at hs
   repeat' with_reducible first|apply And.intro|intro _
   all_goals try exact amA
   ·refine FinK.val1 ?_ ?_
    all_goals (try refine amF (h := ?_))
    all_goals (try exact amT)
    have hp : p (l.getD i 0) = true := by assumption
    rw [hp] at hs
    exact hs.symm
   ·have hp : p (l.getD i 0) = false := by assumption
    rw [hp] at hs
    refine ⟨i + 1, ?_, ⟨by omega, hs⟩, by omega⟩
    refine Le.auto [] (r0 := ?r06) (ren := ?ren6) ?ea6 ?eb6 ?a6 ?b6 ?c6 ?d6 ?ho6 ?hn6 ?ht6
    case ea6 => exact amR
    case eb6 => exact amR
    case a6 => exact rfl
    case b6 => exact rfl
    case c6 => exact rfl
    case d6 => exact rfl
    all_goals (try refine amL (h := ?_))
    all_goals (try exact amT)
  ·refine FinK.val1 ?_ ?_
   all_goals (try refine amF (h := ?_))
   all_goals (try exact amT)
   have : i = l.length := by omega
   subst this
   rw [List.drop_length] at hs
   exact hs.symm
set_option maxHeartbeats 2000000 in
theorem containsFuncI2 (l : List Int) (u : Bool) (nl : Option Bool) (f : FuncId) (g : Nat → AV) (p : Int → Bool) (hl : l.length ≤ 2 ^ 47) (hf : ∀ x ∈ l, ACalls Tryz.prog f [.one (.int .i64 x), .one (g 0), .one (g 1)] (fun r => r = .val (.one (.bool (p x))))) :
 ACalls Tryz.prog 113 [.one (.sl u nl 1 l.length (fI l)), .one (.fn (.func f) 2 g)] (fun r => r = .val (.one (.bool (l.any p)))) := by
 have nt : Tryz.f113.ntmps = 9 := rfl
 have rs : Tryz.f113.results = #[.tmp 4] := rfl
 refine ACalls.of_run (m := 400) mixed Tryz.func113 rfl rfl (Nat.le_of_ble_eq_true rfl) ?_
 simp only [nt, rs]
 clear nt rs
 (try refine am (h := ?_)); (try exact amT)
 refine CallK.one (indexFuncI2 l _ _ f _ p hl (fun x hx => hf x hx)) (fun _ => amC) ?_
 (try refine am (h := ?_)); (try exact amT)
 refine FinK.val1 ?_ ?_
 all_goals (try refine amF (h := ?_))
 all_goals (try exact amT)
 exact fidx_any p l 0 (by omega)
set_option maxHeartbeats 2000000 in
theorem indexS (l : List (List UInt8)) (n : Nat) (x : List UInt8) (u : Bool) (nl : Option Bool) (hn : n ≤ l.length) (hl : l.length ≤ 2 ^ 47) : ACalls Tryz.prog 176 [.one (.sl u nl 1 n (fS l)), .one (.str x)] (fun r => r = .val (.one (.int .i64 (fidxN (fun j => decide (l.getD j [] = x)) 0 n)))) := by
 have nt : Tryz.f176.ntmps = 19 := rfl
 have rs : Tryz.f176.results = #[.tmp 4] := rfl
 refine ACalls.of_run (m := 400) mixed Tryz.func176 rfl rfl (Nat.le_of_ble_eq_true rfl) ?_
 simp only [nt, rs]
 clear nt rs
 (try refine am (h := ?_)); (try exact amT)
 refine LoopK.auto (Nat) (fun i => [(8, .one (.av (.int .i64 i)))]) (fun i => []) [0, 1, 7] (k0 := ?k05) (keepH := ?kh5) 400 (fun i => i ≤ n ∧ fidxN (fun j => decide (l.getD j [] = x)) 0 n = fidxN (fun j => decide (l.getD j [] = x)) i (n - i)) (fun i => n - i) (0) ?kea5 ?keb5 ?_ ?_ ?_
 case kea5 => exact amN
 case keb5 => exact amN
 ·exact ⟨Nat.zero_le _, by simp⟩
 ·refine Le.auto [] (r0 := ?r09) (ren := ?ren9) ?ea9 ?eb9 ?a9 ?b9 ?c9 ?d9 ?ho9 ?hn9 ?ht9
  case ea9 => exact amR
  case eb9 => exact amR
  case a9 => exact rfl
  case b9 => exact rfl
  case c9 => exact rfl
  case d9 => exact rfl
  all_goals (try refine amL (h := ?_))
  all_goals (try exact amT)
 ·rintro i ⟨hi, hs⟩
  (try refine am (h := ?_)); (try exact amT)
  repeat' with_reducible first|apply And.intro|intro _
  all_goals try exact amA
  ·refine FinK.val1 ?_ ?_
   all_goals (try refine amF (h := ?_))
   all_goals (try exact amT)
   rename_i h1 h2
   have e : n - i = (n - (i + 1)) + 1 := by omega
   rw [hs, e, fidxN, if_pos (by simpa using h2.symm)]
  ·rename_i h1 h2
   have e : n - i = (n - (i + 1)) + 1 := by omega
   rw [e, fidxN, if_neg (by simpa using fun e => h2 e.symm)] at hs
   refine ⟨i + 1, ?_, ⟨by omega, hs⟩, by omega⟩
   refine Le.auto [] (r0 := ?r010) (ren := ?ren10) ?ea10 ?eb10 ?a10 ?b10 ?c10 ?d10 ?ho10 ?hn10 ?ht10
   case ea10 => exact amR
   case eb10 => exact amR
   case a10 => exact rfl
   case b10 => exact rfl
   case c10 => exact rfl
   case d10 => exact rfl
   all_goals (try refine amL (h := ?_))
   all_goals (try exact amT)
  ·refine FinK.val1 ?_ ?_
   all_goals (try refine amF (h := ?_))
   all_goals (try exact amT)
   have e : n - i = 0 := by omega
   rw [hs, e, fidxN]
set_option maxHeartbeats 2000000 in
theorem containsS (l : List (List UInt8)) (n : Nat) (x : List UInt8) (u : Bool) (nl : Option Bool) (hn : n ≤ l.length) (hl : l.length ≤ 2 ^ 47) : ACalls Tryz.prog 149 [.one (.sl u nl 1 n (fS l)), .one (.str x)] (fun r => r = .val (.one (.bool (decide (∃ j, j < n ∧ l.getD j [] = x))))) := by
 have nt : Tryz.f149.ntmps = 9 := rfl
 have rs : Tryz.f149.results = #[.tmp 4] := rfl
 refine ACalls.of_run (m := 400) mixed Tryz.func149 rfl rfl (Nat.le_of_ble_eq_true rfl) ?_
 simp only [nt, rs]
 clear nt rs
 (try refine am (h := ?_)); (try exact amT)
 refine CallK.one (indexS l n x _ _ hn hl) (fun _ => amC) ?_
 (try refine am (h := ?_)); (try exact amT)
 refine FinK.val1 ?_ ?_
 all_goals (try refine amF (h := ?_))
 all_goals (try exact amT)
 refine decide_eq_decide.2 ((fidxN_ex _ _ _).trans ?_)
 constructor
 ·rintro ⟨j, h1, h2, h3⟩; exact ⟨j, by omega, by simpa using h3⟩
 ·rintro ⟨j, h1, h2⟩; exact ⟨j, by omega, by omega, by simpa using h2⟩
set_option maxHeartbeats 2000000 in
theorem indexI (l : List Int) (n : Nat) (x : Int) (u : Bool) (nl : Option Bool) (hn : n ≤ l.length) (hl : l.length ≤ 2 ^ 47) : ACalls Tryz.prog 115 [.one (.sl u nl 1 n (fI l)), .one (.int .i64 x)] (fun r => r = .val (.one (.int .i64 (fidxN (fun j => decide (l.getD j 0 = x)) 0 n)))) := by
 have nt : Tryz.f115.ntmps = 19 := rfl
 have rs : Tryz.f115.results = #[.tmp 4] := rfl
 refine ACalls.of_run (m := 400) mixed Tryz.func115 rfl rfl (Nat.le_of_ble_eq_true rfl) ?_
 simp only [nt, rs]
 clear nt rs
 (try refine am (h := ?_)); (try exact amT)
 refine LoopK.auto (Nat) (fun i => [(8, .one (.av (.int .i64 i)))]) (fun i => []) [0, 1, 7] (k0 := ?k06) (keepH := ?kh6) 400 (fun i => i ≤ n ∧ fidxN (fun j => decide (l.getD j 0 = x)) 0 n = fidxN (fun j => decide (l.getD j 0 = x)) i (n - i)) (fun i => n - i) (0) ?kea6 ?keb6 ?_ ?_ ?_
 case kea6 => exact amN
 case keb6 => exact amN
 ·exact ⟨Nat.zero_le _, by simp⟩
 ·refine Le.auto [] (r0 := ?r011) (ren := ?ren11) ?ea11 ?eb11 ?a11 ?b11 ?c11 ?d11 ?ho11 ?hn11 ?ht11
  case ea11 => exact amR
  case eb11 => exact amR
  case a11 => exact rfl
  case b11 => exact rfl
  case c11 => exact rfl
  case d11 => exact rfl
  all_goals (try refine amL (h := ?_))
  all_goals (try exact amT)
 ·rintro i ⟨hi, hs⟩
  (try refine am (h := ?_)); (try exact amT)
  repeat' with_reducible first|apply And.intro|intro _
  all_goals try exact amA
  ·refine FinK.val1 ?_ ?_
   all_goals (try refine amF (h := ?_))
   all_goals (try exact amT)
   rename_i h1 h2
   have e : n - i = (n - (i + 1)) + 1 := by omega
   rw [hs, e, fidxN, if_pos (by simpa using h2.symm)]
  ·rename_i h1 h2
   have e : n - i = (n - (i + 1)) + 1 := by omega
   rw [e, fidxN, if_neg (by simpa using fun e => h2 e.symm)] at hs
   refine ⟨i + 1, ?_, ⟨by omega, hs⟩, by omega⟩
   refine Le.auto [] (r0 := ?r012) (ren := ?ren12) ?ea12 ?eb12 ?a12 ?b12 ?c12 ?d12 ?ho12 ?hn12 ?ht12
   case ea12 => exact amR
   case eb12 => exact amR
   case a12 => exact rfl
   case b12 => exact rfl
   case c12 => exact rfl
   case d12 => exact rfl
   all_goals (try refine amL (h := ?_))
   all_goals (try exact amT)
  ·refine FinK.val1 ?_ ?_
   all_goals (try refine amF (h := ?_))
   all_goals (try exact amT)
   have e : n - i = 0 := by omega
   rw [hs, e, fidxN]
set_option maxHeartbeats 2000000 in
theorem containsI (l : List Int) (n : Nat) (x : Int) (u : Bool) (nl : Option Bool) (hn : n ≤ l.length) (hl : l.length ≤ 2 ^ 47) : ACalls Tryz.prog 56 [.one (.sl u nl 1 n (fI l)), .one (.int .i64 x)] (fun r => r = .val (.one (.bool (decide (∃ j, j < n ∧ l.getD j 0 = x))))) := by
 have nt : Tryz.f56.ntmps = 9 := rfl
 have rs : Tryz.f56.results = #[.tmp 4] := rfl
 refine ACalls.of_run (m := 400) mixed Tryz.func56 rfl rfl (Nat.le_of_ble_eq_true rfl) ?_
 simp only [nt, rs]
 clear nt rs
 (try refine am (h := ?_)); (try exact amT)
 refine CallK.one (indexI l n x _ _ hn hl) (fun _ => amC) ?_
 (try refine am (h := ?_)); (try exact amT)
 refine FinK.val1 ?_ ?_
 all_goals (try refine amF (h := ?_))
 all_goals (try exact amT)
 refine decide_eq_decide.2 ((fidxN_ex _ _ _).trans ?_)
 constructor
 ·rintro ⟨j, h1, h2, h3⟩; exact ⟨j, by omega, by simpa using h3⟩
 ·rintro ⟨j, h1, h2⟩; exact ⟨j, by omega, by omega, by simpa using h2⟩
set_option maxHeartbeats 2000000 in
theorem maxI (l : List Int) (u : Bool) (nl : Option Bool) (h0 : l.length ≠ 0) (hl : l.length ≤ 2 ^ 47) : ACalls Tryz.prog 62 [.one (.sl u nl 1 l.length (fI l))] (fun r => r = .val (.one (.int .i64 (mx l)))) := by
 have nt : Tryz.f62.ntmps = 25 := rfl
 have rs : Tryz.f62.results = #[.tmp 2] := rfl
 refine ACalls.of_run (m := 400) mixed Tryz.func62 rfl rfl (Nat.le_of_ble_eq_true rfl) ?_
 simp only [nt, rs]
 clear nt rs
 (try refine am (h := ?_)); (try exact amT)
 refine ⟨fun h => by omega, fun _ => ?_⟩
 repeat' with_reducible first|apply And.intro|intro _
 all_goals try exact amA
 refine LoopK.auto (Nat) (fun i => [(3, .one (.av (.int .i64 (mxS l i)))), (4, .one (.av (.int .i64 i)))]) (fun i => []) [0] (k0 := ?k07) (keepH := ?kh7) 400 (fun i => 1 ≤ i ∧ i ≤ l.length) (fun i => l.length - i) (1) ?kea7 ?keb7 ?_ ?_ ?_
 case kea7 => exact amN
 case keb7 => exact amN
 ·omega
 ·refine Le.auto [] (r0 := ?r013) (ren := ?ren13) ?ea13 ?eb13 ?a13 ?b13 ?c13 ?d13 ?ho13 ?hn13 ?ht13
  case ea13 => exact amR
  case eb13 => exact amR
  case a13 => exact rfl
  case b13 => exact rfl
  case c13 => exact rfl
  case d13 => exact rfl
  all_goals (try refine amL (h := ?_))
  all_goals (try exact amT)
  simp [mxS]
 ·intro i hi
  (try refine am (h := ?_)); (try exact amT)
  repeat' with_reducible first|apply And.intro|intro _
  all_goals try exact amA
  ·have hlt : i < l.length := by assumption
   refine ⟨i + 1, ?_, by omega, by omega⟩
   refine Le.auto [] (r0 := ?r014) (ren := ?ren14) ?ea14 ?eb14 ?a14 ?b14 ?c14 ?d14 ?ho14 ?hn14 ?ht14
   case ea14 => exact amR
   case eb14 => exact amR
   case a14 => exact rfl
   case b14 => exact rfl
   case c14 => exact rfl
   case d14 => exact rfl
   all_goals (try refine amL (h := ?_))
   all_goals (try exact amT)
   first | done | rfl
  ·refine FinK.val1 ?_ ?_
   all_goals (try refine amF (h := ?_))
   all_goals (try exact amT)
   have : i = l.length := by omega
   rw [this]; rfl
set_option maxHeartbeats 2000000 in
theorem cloneI (l : List Int) (u : Bool) (hl : l.length ≤ 2 ^ 43) : ACalls Tryz.prog 77 [.one (.sl u none 1 l.length (fI l))] (fun r => r = .val (.one (aI true l))) := by
 refine ACalls.nl1 (fun h0 => ?_) ?_
 ·have nt : Tryz.f77.ntmps = 8 := rfl
  have rs : Tryz.f77.results = #[.tmp 2] := rfl
  refine ACalls.of_run (m := 400) mixed Tryz.func77 rfl rfl (Nat.le_of_ble_eq_true rfl) ?_
  simp only [nt, rs]
  clear nt rs
  (try refine am (h := ?_)); (try exact amT)
  refine FinK.val1 ?_ ?_
  all_goals (try refine amF (h := ?_))
  all_goals (try exact amT)
  rw [h0]
  exact ALe.nil _ _ _ _ _
 ·have nt : Tryz.f77.ntmps = 8 := rfl
  have rs : Tryz.f77.results = #[.tmp 2] := rfl
  refine ACalls.of_run (m := 400) mixed Tryz.func77 rfl rfl (Nat.le_of_ble_eq_true rfl) ?_
  simp only [nt, rs]
  clear nt rs
  (try refine am (h := ?_)); (try exact amT)
  repeat' with_reducible first|apply And.intro|intro _
  all_goals try exact amA
  refine FinK.val1 ?_ ?_
  all_goals (try refine amF (h := ?_))
  all_goals (try exact amT)
  refine ALe.of (.inl rfl) (by omega) (fun i hi j hj => ?_)
  obtain rfl : j = 0 := by omega
  simp only [apF, Nat.not_lt_zero, if_false, Nat.sub_zero]
  exact .refl _
set_option maxHeartbeats 2000000 in
theorem zerosI (n : Nat) (hn : n ≤ 2 ^ 40) : ACalls Tryz.prog 82 [.one (.int .i64 n)] (fun r => r = .val (.one (.sl true (some false) 1 n (fI (List.replicate n 0))))) := by
 have nt : Tryz.f82.ntmps = 5 := rfl
 have rs : Tryz.f82.results = #[.tmp 2] := rfl
 refine ACalls.of_run (m := 400) mixed Tryz.func82 rfl rfl (Nat.le_of_ble_eq_true rfl) ?_
 simp only [nt, rs]
 clear nt rs
 (try refine am (h := ?_)); (try exact amT)
 repeat' with_reducible first|apply And.intro|intro _
 all_goals try exact amA
 refine FinK.val1 ?_ ?_
 all_goals (try refine amF (h := ?_))
 all_goals (try exact amT)
 refine ALe.of (.inr rfl) rfl (fun i hi j hj => ?_)
 obtain rfl : j = 0 := by omega
 (try refine am (h := ?_)); (try exact amT)
 simp [List.getD, hi]
set_option maxHeartbeats 2000000 in
theorem totalI (l : List Int) (u : Bool) (nl : Option Bool) (c : Int) (hc : 0 ≤ c) (hl : l.length ≤ 2 ^ 47) (hb : ∀ i, i < l.length → 0 ≤ l.getD i 0 ∧ l.getD i 0 ≤ c) (hs : c * l.length ≤ 2 ^ 50) : ACalls Tryz.prog 61 [.one (.sl u nl 1 l.length (fI l))] (fun r => r = .val (.one (.int .i64 (tot1 l)))) := by
 have nt : Tryz.f61.ntmps = 17 := rfl
 have rs : Tryz.f61.results = #[.tmp 2] := rfl
 refine ACalls.of_run (m := 400) mixed Tryz.func61 rfl rfl (Nat.le_of_ble_eq_true rfl) ?_
 simp only [nt, rs]
 clear nt rs
 (try refine am (h := ?_)); (try exact amT)
 refine LoopK.auto (Nat) (fun i => [(3, .one (.av (.int .i64 (tot1 (l.take i))))), (8, .one (.av (.int .i64 i)))]) (fun i => []) [6, 7] (k0 := ?k08) (keepH := ?kh8) 400 (fun i => i ≤ l.length) (fun i => l.length - i) (0) ?kea8 ?keb8 ?_ ?_ ?_
 case kea8 => exact amN
 case keb8 => exact amN
 ·exact Nat.zero_le _
 ·refine Le.auto [] (r0 := ?r015) (ren := ?ren15) ?ea15 ?eb15 ?a15 ?b15 ?c15 ?d15 ?ho15 ?hn15 ?ht15
  case ea15 => exact amR
  case eb15 => exact amR
  case a15 => exact rfl
  case b15 => exact rfl
  case c15 => exact rfl
  case d15 => exact rfl
  all_goals (try refine amL (h := ?_))
  all_goals (try exact amT)
  rfl
 ·intro i hi
  have ht := tot1_take_bd hc hb i
  have ht2 := tot1_take_bd hc hb (i + 1)
  (try refine am (h := ?_)); (try exact amT)
  repeat' with_reducible first|apply And.intro|intro _
  all_goals try exact amA
  ·have := tot1_take (by assumption : i < l.length)
   omega
  ·have := tot1_take (by assumption : i < l.length)
   omega
  ·have := tot1_take (by assumption : i < l.length)
   refine ⟨i + 1, ?_, by omega, by omega⟩
   refine Le.auto [] (r0 := ?r016) (ren := ?ren16) ?ea16 ?eb16 ?a16 ?b16 ?c16 ?d16 ?ho16 ?hn16 ?ht16
   case ea16 => exact amR
   case eb16 => exact amR
   case a16 => exact rfl
   case b16 => exact rfl
   case c16 => exact rfl
   case d16 => exact rfl
   all_goals (try refine amL (h := ?_))
   all_goals (try exact amT)
   exact this.symm
  ·refine FinK.val1 ?_ ?_
   all_goals (try refine amF (h := ?_))
   all_goals (try exact amT)
   have : i = l.length := by omega
   rw [this, List.take_length]
set_option maxHeartbeats 2000000 in
theorem l10Sum (l : List Int) (u : Bool) (nl : Option Bool) (c : Int) (hc : 0 ≤ c) (hl : l.length ≤ 2 ^ 47) (hb : ∀ i, i < l.length → 0 ≤ l.getD i 0 ∧ l.getD i 0 ≤ c) (hs : c * l.length ≤ 2 ^ 50) : ACalls Tryz.prog 125 [.one (.sl u nl 1 l.length (fI l))] (fun r => r = .val (.one (.int .i64 (tot1 l)))) := by
 have nt : Tryz.f125.ntmps = 18 := rfl
 have rs : Tryz.f125.results = #[.tmp 2] := rfl
 refine ACalls.of_run (m := 400) mixed Tryz.func125 rfl rfl (Nat.le_of_ble_eq_true rfl) ?_
 simp only [nt, rs]
 clear nt rs
 (try refine am (h := ?_)); (try exact amT)
 refine LoopK.auto (Nat) (fun i => [(3, .one (.av (.int .i64 (tot1 (l.take i))))), (4, .one (.av (.int .i64 i)))]) (fun i => []) [0] (k0 := ?k09) (keepH := ?kh9) 400 (fun i => i ≤ l.length) (fun i => l.length - i) (0) ?kea9 ?keb9 ?_ ?_ ?_
 case kea9 => exact amN
 case keb9 => exact amN
 ·exact Nat.zero_le _
 ·refine Le.auto [] (r0 := ?r017) (ren := ?ren17) ?ea17 ?eb17 ?a17 ?b17 ?c17 ?d17 ?ho17 ?hn17 ?ht17
  case ea17 => exact amR
  case eb17 => exact amR
  case a17 => exact rfl
  case b17 => exact rfl
  case c17 => exact rfl
  case d17 => exact rfl
  all_goals (try refine amL (h := ?_))
  all_goals (try exact amT)
  rfl
 ·intro i hi
  have ht := tot1_take_bd hc hb i
  have ht2 := tot1_take_bd hc hb (i + 1)
  (try refine am (h := ?_)); (try exact amT)
  repeat' with_reducible first|apply And.intro|intro _
  all_goals try exact amA
  ·have := tot1_take (by assumption : i < l.length)
   omega
  ·have := tot1_take (by assumption : i < l.length)
   omega
  ·have := tot1_take (by assumption : i < l.length)
   refine ⟨i + 1, ?_, by omega, by omega⟩
   refine Le.auto [] (r0 := ?r018) (ren := ?ren18) ?ea18 ?eb18 ?a18 ?b18 ?c18 ?d18 ?ho18 ?hn18 ?ht18
   case ea18 => exact amR
   case eb18 => exact amR
   case a18 => exact rfl
   case b18 => exact rfl
   case c18 => exact rfl
   case d18 => exact rfl
   all_goals (try refine amL (h := ?_))
   all_goals (try exact amT)
   exact this.symm
  ·refine FinK.val1 ?_ ?_
   all_goals (try refine amF (h := ?_))
   all_goals (try exact amT)
   have : i = l.length := by omega
   rw [this, List.take_length]
end Go.AM
