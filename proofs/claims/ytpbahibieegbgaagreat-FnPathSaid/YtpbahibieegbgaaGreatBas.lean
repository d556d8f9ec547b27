/- Lemmas for the proof of this claim. -/
import Derived.Test.YtpbahibieegbgaaGreatFam
namespace Go.AM
set_option maxHeartbeats 64000000
open Go Go.Proofs
set_option maxRecDepth 100000
theorem within (n lo hi:Int):ACalls Tryz.prog 54 [.one (.int .i64 n),.one (.int .i64 lo),.one (.int .i64 hi)] (fun r=>r=.val (.one (.bool (decide (lo≤n∧n≤hi))))):=by
 have nt:Tryz.f54.ntmps=15:=rfl
 have rs:Tryz.f54.results=#[.tmp 6]:=rfl
 refine ACalls.of_run (m:=400) mixed Tryz.func54 rfl rfl (Nat.le_of_ble_eq_true rfl) ?_
 simp only[nt,rs]
 clear nt rs
 (try refine am ?_);(try exact amT)
 refine FinK.val1 ?_ ?_
 all_goals try refine amF ?_
 all_goals try exact amT
theorem l1In (n lo hi:Int):ACalls Tryz.prog 45 [.one (.int .i64 n),.one (.int .i64 lo),.one (.int .i64 hi)] (fun r=>r=.val (.one (.bool (decide (lo≤n∧n≤hi))))):=by
 have nt:Tryz.f45.ntmps=15:=rfl
 have rs:Tryz.f45.results=#[.tmp 6]:=rfl
 refine ACalls.of_run (m:=400) mixed Tryz.func45 rfl rfl (Nat.le_of_ble_eq_true rfl) ?_
 simp only[nt,rs]
 clear nt rs
 (try refine am ?_);(try exact amT)
 refine FinK.val1 ?_ ?_
 all_goals try refine amF ?_
 all_goals try exact amT
theorem indexFuncI0 (l:List Int) (u:Bool) (nl:Option Bool) (f:FuncId) (g:Nat→AV) (p:Int→Bool) (hl:l.length≤2^47) (hf:∀x∈l,ACalls Tryz.prog f [.one (.int .i64 x)] (fun r=>r=.val (.one (.bool (p x))))):
 ACalls Tryz.prog 151 [.one (.sl u nl 1 l.length (fI l)),.one (.fn (.func f) 0 g)] (fun r=>r=.val (.one (.int .i64 (fidx p l 0)))):=by
 have nt:Tryz.f151.ntmps=19:=rfl
 have rs:Tryz.f151.results=#[.tmp 4]:=rfl
 refine ACalls.of_run (m:=400) mixed Tryz.func151 rfl rfl (Nat.le_of_ble_eq_true rfl) ?_
 simp only[nt,rs]
 clear nt rs
 (try refine am ?_);(try exact amT)
 refine LoopK.auto (Nat) (fun i=>[(8,.one (.av (.int .i64 i)))]) (fun i=>[]) [0,1,7] (k0:=?k01) (keepH:=?kh1) 400 (fun i=>i≤l.length∧fidx p l 0=fidx p (l.drop i) i) (fun i=>l.length - i) (0) ?kea1 ?keb1 ?_ ?_ ?_
 case kea1=>exact amN
 case keb1=>exact amN
 ·exact⟨Nat.zero_le _,by simp⟩
 ·refine LeA [] ?_ ?_ ?_
  all_goals try refine amL ?_
  all_goals try exact amT
 ·rintro i ⟨hi,hs⟩
  (try refine am ?_);(try exact amT)
  repeat' with_reducible first|apply zA|intro _
  all_goals try exact amA
  ·have hlt:i<l.length:=by assumption
   refine CallK.one (hf _ (getD_mem hlt)) (fun _=>amC) ?_
   (try refine am ?_);(try exact amT)
   rw[drop_cons (d:=0) hlt] at hs
   simp only[fidx] at hs
   repeat' with_reducible first|apply zA|intro _
   all_goals try exact amA
   ·refine FinK.val1 ?_ ?_
    all_goals try refine amF ?_
    all_goals try exact amT
    have hp:p (l.getD i 0)=true:=by assumption
    rw[hp] at hs
    exact hs.symm
   ·have hp:p (l.getD i 0)=false:=by assumption
    rw[hp] at hs
    refine⟨i+1,?_,⟨by omega,hs⟩,by omega⟩
    refine LeA [] ?_ ?_ ?_
    all_goals try refine amL ?_
    all_goals try exact amT
  ·refine FinK.val1 ?_ ?_
   all_goals try refine amF ?_
   all_goals try exact amT
   have:i=l.length:=by omega
   subst this
   rw[List.drop_length] at hs
   exact hs.symm
theorem containsFuncI0 (l:List Int) (u:Bool) (nl:Option Bool) (f:FuncId) (g:Nat→AV) (p:Int→Bool) (hl:l.length≤2^47) (hf:∀x∈l,ACalls Tryz.prog f [.one (.int .i64 x)] (fun r=>r=.val (.one (.bool (p x))))):
 ACalls Tryz.prog 113 [.one (.sl u nl 1 l.length (fI l)),.one (.fn (.func f) 0 g)] (fun r=>r=.val (.one (.bool (l.any p)))):=by
 have nt:Tryz.f113.ntmps=9:=rfl
 have rs:Tryz.f113.results=#[.tmp 4]:=rfl
 refine ACalls.of_run (m:=400) mixed Tryz.func113 rfl rfl (Nat.le_of_ble_eq_true rfl) ?_
 simp only[nt,rs]
 clear nt rs
 (try refine am ?_);(try exact amT)
 refine CallK.one (indexFuncI0 l _ _ f _ p hl (fun x hx=>hf x hx)) (fun _=>amC) ?_
 (try refine am ?_);(try exact amT)
 refine FinK.val1 ?_ ?_
 all_goals try refine amF ?_
 all_goals try exact amT
 exact fidx_any p l 0 (by omega)
theorem indexFuncI2 (l:List Int) (u:Bool) (nl:Option Bool) (f:FuncId) (g:Nat→AV) (p:Int→Bool) (hl:l.length≤2^47) (hf:∀x∈l,ACalls Tryz.prog f [.one (.int .i64 x),.one (g 0),.one (g 1)] (fun r=>r=.val (.one (.bool (p x))))):
 ACalls Tryz.prog 151 [.one (.sl u nl 1 l.length (fI l)),.one (.fn (.func f) 2 g)] (fun r=>r=.val (.one (.int .i64 (fidx p l 0)))):=by
 have nt:Tryz.f151.ntmps=19:=rfl
 have rs:Tryz.f151.results=#[.tmp 4]:=rfl
 refine ACalls.of_run (m:=400) mixed Tryz.func151 rfl rfl (Nat.le_of_ble_eq_true rfl) ?_
 simp only[nt,rs]
 clear nt rs
 (try refine am ?_);(try exact amT)
 refine LoopK.auto (Nat) (fun i=>[(8,.one (.av (.int .i64 i)))]) (fun i=>[]) [0,1,7] (k0:=?k03) (keepH:=?kh3) 400 (fun i=>i≤l.length∧fidx p l 0=fidx p (l.drop i) i) (fun i=>l.length - i) (0) ?kea3 ?keb3 ?_ ?_ ?_
 case kea3=>exact amN
 case keb3=>exact amN
 ·exact⟨Nat.zero_le _,by simp⟩
 ·refine LeA [] ?_ ?_ ?_
  all_goals try refine amL ?_
  all_goals try exact amT
 ·rintro i ⟨hi,hs⟩
  (try refine am ?_);(try exact amT)
  repeat' with_reducible first|apply zA|intro _
  all_goals try exact amA
  ·have hlt:i<l.length:=by assumption
   refine CallK.one (hf _ (getD_mem hlt)) (fun _=>amC) ?_
   (try refine am ?_);(try exact amT)
   rw[drop_cons (d:=0) hlt] at hs
   simp only[fidx] at hs
   repeat' with_reducible first|apply zA|intro _
   all_goals try exact amA
   ·refine FinK.val1 ?_ ?_
    all_goals try refine amF ?_
    all_goals try exact amT
    have hp:p (l.getD i 0)=true:=by assumption
    rw[hp] at hs
    exact hs.symm
   ·have hp:p (l.getD i 0)=false:=by assumption
    rw[hp] at hs
    refine⟨i+1,?_,⟨by omega,hs⟩,by omega⟩
    refine LeA [] ?_ ?_ ?_
    all_goals try refine amL ?_
    all_goals try exact amT
  ·refine FinK.val1 ?_ ?_
   all_goals try refine amF ?_
   all_goals try exact amT
   have:i=l.length:=by omega
   subst this
   rw[List.drop_length] at hs
   exact hs.symm
theorem containsFuncI2 (l:List Int) (u:Bool) (nl:Option Bool) (f:FuncId) (g:Nat→AV) (p:Int→Bool) (hl:l.length≤2^47) (hf:∀x∈l,ACalls Tryz.prog f [.one (.int .i64 x),.one (g 0),.one (g 1)] (fun r=>r=.val (.one (.bool (p x))))):
 ACalls Tryz.prog 113 [.one (.sl u nl 1 l.length (fI l)),.one (.fn (.func f) 2 g)] (fun r=>r=.val (.one (.bool (l.any p)))):=by
 have nt:Tryz.f113.ntmps=9:=rfl
 have rs:Tryz.f113.results=#[.tmp 4]:=rfl
 refine ACalls.of_run (m:=400) mixed Tryz.func113 rfl rfl (Nat.le_of_ble_eq_true rfl) ?_
 simp only[nt,rs]
 clear nt rs
 (try refine am ?_);(try exact amT)
 refine CallK.one (indexFuncI2 l _ _ f _ p hl (fun x hx=>hf x hx)) (fun _=>amC) ?_
 (try refine am ?_);(try exact amT)
 refine FinK.val1 ?_ ?_
 all_goals try refine amF ?_
 all_goals try exact amT
 exact fidx_any p l 0 (by omega)
theorem indexS (l:List (List UInt8)) (n:Nat) (x:List UInt8) (u:Bool) (nl:Option Bool) (hn:n≤l.length) (hl:l.length≤2^47):ACalls Tryz.prog 176 [.one (.sl u nl 1 n (fS l)),.one (.str x)] (fun r=>r=.val (.one (.int .i64 (fidxN (fun j=>decide (l.getD j []=x)) 0 n)))):=by
 have nt:Tryz.f176.ntmps=19:=rfl
 have rs:Tryz.f176.results=#[.tmp 4]:=rfl
 refine ACalls.of_run (m:=400) mixed Tryz.func176 rfl rfl (Nat.le_of_ble_eq_true rfl) ?_
 simp only[nt,rs]
 clear nt rs
 (try refine am ?_);(try exact amT)
 refine LoopK.auto (Nat) (fun i=>[(8,.one (.av (.int .i64 i)))]) (fun i=>[]) [0,1,7] (k0:=?k05) (keepH:=?kh5) 400 (fun i=>i≤n∧fidxN (fun j=>decide (l.getD j []=x)) 0 n=fidxN (fun j=>decide (l.getD j []=x)) i (n - i)) (fun i=>n - i) (0) ?kea5 ?keb5 ?_ ?_ ?_
 case kea5=>exact amN
 case keb5=>exact amN
 ·exact⟨Nat.zero_le _,by simp⟩
 ·refine LeA [] ?_ ?_ ?_
  all_goals try refine amL ?_
  all_goals try exact amT
 ·rintro i ⟨hi,hs⟩
  (try refine am ?_);(try exact amT)
  repeat' with_reducible first|apply zA|intro _
  all_goals try exact amA
  ·refine FinK.val1 ?_ ?_
   all_goals try refine amF ?_
   all_goals try exact amT
   rename_i h1 h2
   have e:n - i=(n - (i+1))+1:=by omega
   rw[hs,e,fidxN,if_pos (by simpa using h2.symm)]
  ·rename_i h1 h2
   have e:n - i=(n - (i+1))+1:=by omega
   rw[e,fidxN,if_neg (by simpa using fun e=>h2 e.symm)] at hs
   refine⟨i+1,?_,⟨by omega,hs⟩,by omega⟩
   refine LeA [] ?_ ?_ ?_
   all_goals try refine amL ?_
   all_goals try exact amT
  ·refine FinK.val1 ?_ ?_
   all_goals try refine amF ?_
   all_goals try exact amT
   have e:n - i=0:=by omega
   rw[hs,e,fidxN]
theorem containsS (l:List (List UInt8)) (n:Nat) (x:List UInt8) (u:Bool) (nl:Option Bool) (hn:n≤l.length) (hl:l.length≤2^47):ACalls Tryz.prog 149 [.one (.sl u nl 1 n (fS l)),.one (.str x)] (fun r=>r=.val (.one (.bool (decide (∃j,j<n∧l.getD j []=x))))):=by
 have nt:Tryz.f149.ntmps=9:=rfl
 have rs:Tryz.f149.results=#[.tmp 4]:=rfl
 refine ACalls.of_run (m:=400) mixed Tryz.func149 rfl rfl (Nat.le_of_ble_eq_true rfl) ?_
 simp only[nt,rs]
 clear nt rs
 (try refine am ?_);(try exact amT)
 refine CallK.one (indexS l n x _ _ hn hl) (fun _=>amC) ?_
 (try refine am ?_);(try exact amT)
 refine FinK.val1 ?_ ?_
 all_goals try refine amF ?_
 all_goals try exact amT
 refine decide_eq_decide.2 ((fidxN_ex _ _ _).trans ?_)
 constructor
 ·rintro⟨j,h1,h2,h3⟩;exact⟨j,by omega,by simpa using h3⟩
 ·rintro⟨j,h1,h2⟩;exact⟨j,by omega,by omega,by simpa using h2⟩
theorem indexI (l:List Int) (n:Nat) (x:Int) (u:Bool) (nl:Option Bool) (hn:n≤l.length) (hl:l.length≤2^47):ACalls Tryz.prog 115 [.one (.sl u nl 1 n (fI l)),.one (.int .i64 x)] (fun r=>r=.val (.one (.int .i64 (fidxN (fun j=>decide (l.getD j 0=x)) 0 n)))):=by
 have nt:Tryz.f115.ntmps=19:=rfl
 have rs:Tryz.f115.results=#[.tmp 4]:=rfl
 refine ACalls.of_run (m:=400) mixed Tryz.func115 rfl rfl (Nat.le_of_ble_eq_true rfl) ?_
 simp only[nt,rs]
 clear nt rs
 (try refine am ?_);(try exact amT)
 refine LoopK.auto (Nat) (fun i=>[(8,.one (.av (.int .i64 i)))]) (fun i=>[]) [0,1,7] (k0:=?k06) (keepH:=?kh6) 400 (fun i=>i≤n∧fidxN (fun j=>decide (l.getD j 0=x)) 0 n=fidxN (fun j=>decide (l.getD j 0=x)) i (n - i)) (fun i=>n - i) (0) ?kea6 ?keb6 ?_ ?_ ?_
 case kea6=>exact amN
 case keb6=>exact amN
 ·exact⟨Nat.zero_le _,by simp⟩
 ·refine LeA [] ?_ ?_ ?_
  all_goals try refine amL ?_
  all_goals try exact amT
 ·rintro i ⟨hi,hs⟩
  (try refine am ?_);(try exact amT)
  repeat' with_reducible first|apply zA|intro _
  all_goals try exact amA
  ·refine FinK.val1 ?_ ?_
   all_goals try refine amF ?_
   all_goals try exact amT
   rename_i h1 h2
   have e:n - i=(n - (i+1))+1:=by omega
   rw[hs,e,fidxN,if_pos (by simpa using h2.symm)]
  ·rename_i h1 h2
   have e:n - i=(n - (i+1))+1:=by omega
   rw[e,fidxN,if_neg (by simpa using fun e=>h2 e.symm)] at hs
   refine⟨i+1,?_,⟨by omega,hs⟩,by omega⟩
   refine LeA [] ?_ ?_ ?_
   all_goals try refine amL ?_
   all_goals try exact amT
  ·refine FinK.val1 ?_ ?_
   all_goals try refine amF ?_
   all_goals try exact amT
   have e:n - i=0:=by omega
   rw[hs,e,fidxN]
theorem containsI (l:List Int) (n:Nat) (x:Int) (u:Bool) (nl:Option Bool) (hn:n≤l.length) (hl:l.length≤2^47):ACalls Tryz.prog 56 [.one (.sl u nl 1 n (fI l)),.one (.int .i64 x)] (fun r=>r=.val (.one (.bool (decide (∃j,j<n∧l.getD j 0=x))))):=by
 have nt:Tryz.f56.ntmps=9:=rfl
 have rs:Tryz.f56.results=#[.tmp 4]:=rfl
 refine ACalls.of_run (m:=400) mixed Tryz.func56 rfl rfl (Nat.le_of_ble_eq_true rfl) ?_
 simp only[nt,rs]
 clear nt rs
 (try refine am ?_);(try exact amT)
 refine CallK.one (indexI l n x _ _ hn hl) (fun _=>amC) ?_
 (try refine am ?_);(try exact amT)
 refine FinK.val1 ?_ ?_
 all_goals try refine amF ?_
 all_goals try exact amT
 refine decide_eq_decide.2 ((fidxN_ex _ _ _).trans ?_)
 constructor
 ·rintro⟨j,h1,h2,h3⟩;exact⟨j,by omega,by simpa using h3⟩
 ·rintro⟨j,h1,h2⟩;exact⟨j,by omega,by omega,by simpa using h2⟩
theorem maxI (l:List Int) (u:Bool) (nl:Option Bool) (h0:l.length≠0) (hl:l.length≤2^47):ACalls Tryz.prog 62 [.one (.sl u nl 1 l.length (fI l))] (fun r=>r=.val (.one (.int .i64 (mx l)))):=by
 have nt:Tryz.f62.ntmps=25:=rfl
 have rs:Tryz.f62.results=#[.tmp 2]:=rfl
 refine ACalls.of_run (m:=400) mixed Tryz.func62 rfl rfl (Nat.le_of_ble_eq_true rfl) ?_
 simp only[nt,rs]
 clear nt rs
 (try refine am ?_);(try exact amT)
 refine⟨fun h=>by omega,fun _=>?_⟩
 repeat' with_reducible first|apply zA|intro _
 all_goals try exact amA
 refine LoopK.auto (Nat) (fun i=>[(3,.one (.av (.int .i64 (mxS l i)))),(4,.one (.av (.int .i64 i)))]) (fun i=>[]) [0] (k0:=?k07) (keepH:=?kh7) 400 (fun i=>1≤i∧i≤l.length) (fun i=>l.length - i) (1) ?kea7 ?keb7 ?_ ?_ ?_
 case kea7=>exact amN
 case keb7=>exact amN
 ·omega
 ·refine LeA [] ?_ ?_ ?_
  all_goals try refine amL ?_
  all_goals try exact amT
  simp[mxS]
 ·intro i hi
  (try refine am ?_);(try exact amT)
  repeat' with_reducible first|apply zA|intro _
  all_goals try exact amA
  ·have hlt:i<l.length:=by assumption
   refine⟨i+1,?_,by omega,by omega⟩
   refine LeA [] ?_ ?_ ?_
   all_goals try refine amL ?_
   all_goals try exact amT
   first|done|rfl
  ·refine FinK.val1 ?_ ?_
   all_goals try refine amF ?_
   all_goals try exact amT
   have:i=l.length:=by omega
   rw[this];rfl
theorem cloneI (l:List Int) (u:Bool) (hl:l.length≤2^43):ACalls Tryz.prog 77 [.one (.sl u none 1 l.length (fI l))] (fun r=>r=.val (.one (aI true l))):=by
 refine ACalls.nl1 (fun h0=>?_) ?_
 ·have nt:Tryz.f77.ntmps=8:=rfl
  have rs:Tryz.f77.results=#[.tmp 2]:=rfl
  refine ACalls.of_run (m:=400) mixed Tryz.func77 rfl rfl (Nat.le_of_ble_eq_true rfl) ?_
  simp only[nt,rs]
  clear nt rs
  (try refine am ?_);(try exact amT)
  refine FinK.val1 ?_ ?_
  all_goals try refine amF ?_
  all_goals try exact amT
  rw[h0]
  exact ALe.nil _ _ _ _ _
 ·have nt:Tryz.f77.ntmps=8:=rfl
  have rs:Tryz.f77.results=#[.tmp 2]:=rfl
  refine ACalls.of_run (m:=400) mixed Tryz.func77 rfl rfl (Nat.le_of_ble_eq_true rfl) ?_
  simp only[nt,rs]
  clear nt rs
  (try refine am ?_);(try exact amT)
  repeat' with_reducible first|apply zA|intro _
  all_goals try exact amA
  refine FinK.val1 ?_ ?_
  all_goals try refine amF ?_
  all_goals try exact amT
  refine ALe.of (.inl rfl) (by omega) (fun i hi j hj=>?_)
  obtain rfl:j=0:=by omega
  simp only[apF,Nat.not_lt_zero,if_false,Nat.sub_zero]
  exact .refl _
theorem zerosI (n:Nat) (hn:n≤2^40):ACalls Tryz.prog 82 [.one (.int .i64 n)] (fun r=>r=.val (.one (.sl true (some false) 1 n (fI (List.replicate n 0))))):=by
 have nt:Tryz.f82.ntmps=5:=rfl
 have rs:Tryz.f82.results=#[.tmp 2]:=rfl
 refine ACalls.of_run (m:=400) mixed Tryz.func82 rfl rfl (Nat.le_of_ble_eq_true rfl) ?_
 simp only[nt,rs]
 clear nt rs
 (try refine am ?_);(try exact amT)
 repeat' with_reducible first|apply zA|intro _
 all_goals try exact amA
 refine FinK.val1 ?_ ?_
 all_goals try refine amF ?_
 all_goals try exact amT
 refine ALe.of (.inr rfl) rfl (fun i hi j hj=>?_)
 obtain rfl:j=0:=by omega
 (try refine am ?_);(try exact amT)
 simp[List.getD,hi]
theorem totalI (l:List Int) (u:Bool) (nl:Option Bool) (c:Int) (hc:0≤c) (hl:l.length≤2^47) (hb:∀i,i<l.length→0≤l.getD i 0∧l.getD i 0≤c) (hs:c*l.length≤2^50):ACalls Tryz.prog 61 [.one (.sl u nl 1 l.length (fI l))] (fun r=>r=.val (.one (.int .i64 (tot1 l)))):=by
 have nt:Tryz.f61.ntmps=17:=rfl
 have rs:Tryz.f61.results=#[.tmp 2]:=rfl
 refine ACalls.of_run (m:=400) mixed Tryz.func61 rfl rfl (Nat.le_of_ble_eq_true rfl) ?_
 simp only[nt,rs]
 clear nt rs
 (try refine am ?_);(try exact amT)
 refine LoopK.auto (Nat) (fun i=>[(3,.one (.av (.int .i64 (tot1 (l.take i))))),(8,.one (.av (.int .i64 i)))]) (fun i=>[]) [6,7] (k0:=?k08) (keepH:=?kh8) 400 (fun i=>i≤l.length) (fun i=>l.length - i) (0) ?kea8 ?keb8 ?_ ?_ ?_
 case kea8=>exact amN
 case keb8=>exact amN
 ·exact Nat.zero_le _
 ·refine LeA [] ?_ ?_ ?_
  all_goals try refine amL ?_
  all_goals try exact amT
  rfl
 ·intro i hi
  have ht:=tot1_take_bd hc hb i
  have ht2:=tot1_take_bd hc hb (i+1)
  (try refine am ?_);(try exact amT)
  repeat' with_reducible first|apply zA|intro _
  all_goals try exact amA
  ·have:=tot1_take (by assumption:i<l.length)
   omega
  ·have:=tot1_take (by assumption:i<l.length)
   omega
  ·have:=tot1_take (by assumption:i<l.length)
   refine⟨i+1,?_,by omega,by omega⟩
   refine LeA [] ?_ ?_ ?_
   all_goals try refine amL ?_
   all_goals try exact amT
   exact this.symm
  ·refine FinK.val1 ?_ ?_
   all_goals try refine amF ?_
   all_goals try exact amT
   have:i=l.length:=by omega
   rw[this,List.take_length]
theorem l10Sum (l:List Int) (u:Bool) (nl:Option Bool) (c:Int) (hc:0≤c) (hl:l.length≤2^47) (hb:∀i,i<l.length→0≤l.getD i 0∧l.getD i 0≤c) (hs:c*l.length≤2^50):ACalls Tryz.prog 125 [.one (.sl u nl 1 l.length (fI l))] (fun r=>r=.val (.one (.int .i64 (tot1 l)))):=by
 have nt:Tryz.f125.ntmps=18:=rfl
 have rs:Tryz.f125.results=#[.tmp 2]:=rfl
 refine ACalls.of_run (m:=400) mixed Tryz.func125 rfl rfl (Nat.le_of_ble_eq_true rfl) ?_
 simp only[nt,rs]
 clear nt rs
 (try refine am ?_);(try exact amT)
 refine LoopK.auto (Nat) (fun i=>[(3,.one (.av (.int .i64 (tot1 (l.take i))))),(4,.one (.av (.int .i64 i)))]) (fun i=>[]) [0] (k0:=?k09) (keepH:=?kh9) 400 (fun i=>i≤l.length) (fun i=>l.length - i) (0) ?kea9 ?keb9 ?_ ?_ ?_
 case kea9=>exact amN
 case keb9=>exact amN
 ·exact Nat.zero_le _
 ·refine LeA [] ?_ ?_ ?_
  all_goals try refine amL ?_
  all_goals try exact amT
  rfl
 ·intro i hi
  have ht:=tot1_take_bd hc hb i
  have ht2:=tot1_take_bd hc hb (i+1)
  (try refine am ?_);(try exact amT)
  repeat' with_reducible first|apply zA|intro _
  all_goals try exact amA
  ·have:=tot1_take (by assumption:i<l.length)
   omega
  ·have:=tot1_take (by assumption:i<l.length)
   omega
  ·have:=tot1_take (by assumption:i<l.length)
   refine⟨i+1,?_,by omega,by omega⟩
   refine LeA [] ?_ ?_ ?_
   all_goals try refine amL ?_
   all_goals try exact amT
   exact this.symm
  ·refine FinK.val1 ?_ ?_
   all_goals try refine amF ?_
   all_goals try exact amT
   have:i=l.length:=by omega
   rw[this,List.take_length]
end Go.AM
