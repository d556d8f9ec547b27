/- Lemmas for the proof of this claim. -/
import Derived.Test.YtpbahibieegbgaaGreatBas
namespace Go.AM
set_option maxHeartbeats 64000000
open Go Go.Proofs
set_option maxRecDepth 100000
theorem l16Power (n:Nat) (hn:n≤61):ACalls Tryz.prog 191 [.one (.int .i64 n)] (fun r=>r=.val (.one (.int .i64 (2^n)))):=by
 have nt:Tryz.f191.ntmps=13:=rfl
 have rs:Tryz.f191.results=#[.tmp 2]:=rfl
 refine ACalls.of_run (m:=400) mixed Tryz.func191 rfl rfl (Nat.le_of_ble_eq_true rfl) ?_
 simp only[nt,rs]
 clear nt rs
 (try refine am ?_);(try exact amT)
 refine LoopK.auto (Nat) (fun i=>[(3,.one (.av (.int .i64 (2^i)))),(4,.one (.av (.int .i64 i)))]) (fun i=>[]) [0] (k0:=?k01) (keepH:=?kh1) 7 (fun i=>i≤n) (fun i=>n - i) (0) ?kea1 ?keb1 ?_ ?_ ?_
 case kea1=>exact amN
 case keb1=>exact amN
 ·exact Nat.zero_le _
 ·refine Le.of [] [] rfl rfl rfl rfl ?_ ?_ ?_
  all_goals try refine amL ?_
  all_goals try exact amT
  rfl
 ·intro i hi
  have hp:=pow_bd i (by omega)
  (try refine am ?_);(try exact amT)
  repeat' with_reducible first|apply zA|intro _
  all_goals try exact amA
  ·have h:i<n:=by assumption
   have:=pow_bd (i+1) (by omega)
   rw[Int.pow_succ] at this
   omega
  ·refine⟨i+1,?_,by omega,by omega⟩
   refine Le.of [] [] rfl rfl rfl rfl ?_ ?_ ?_
   all_goals try refine amL ?_
   all_goals try exact amT
   rw[Int.pow_succ]
  ·refine FinK.val1 ?_ ?_
   all_goals try refine amF ?_
   all_goals try exact amT
   have:i=n:=by omega
   rw[this]
theorem specWindowOk (l:List (List Int)) (u v:Bool) (hl:l.length≤2^47) (hr:∀r∈l,r.length≤2^47):ACalls Tryz.prog 171 [.agg [aL u v l]] (fun r=>r=.val (.one (.bool (wokB l)))):=by
 have nt:Tryz.f171.ntmps=46:=rfl
 have rs:Tryz.f171.results=#[.tmp 2]:=rfl
 refine ACalls.of_run (m:=400) mixed Tryz.func171 rfl rfl (Nat.le_of_ble_eq_true rfl) ?_
 simp only[nt,rs]
 clear nt rs
 (try refine am ?_);(try exact amT)
 repeat' with_reducible first|apply zA|intro _
 all_goals try exact amA
 ·refine FinK.val1 ?_ ?_
  all_goals try refine amF ?_
  all_goals try exact amT
  exact(wokB_false (fun h=>by have:=h.1;omega)).symm
 ·rename_i h8
  refine LoopK.intro (Nat) (fun i=>[(3,.one (.av (.int .i64 i)))]) (fun i=>[]) [1] [1] 50 (fun i=>i≤l.length∧∀r,r<i→rok r (l.getD r [])) (fun i=>l.length - i) (0) ?_ ?_ ?_
  ·exact⟨Nat.zero_le _,fun r hr=>by omega⟩
  ·refine Le.of [(1,1)] [] rfl rfl rfl rfl ?_ ?_ ?_
   all_goals try refine amL ?_
   all_goals try exact amT
  ·rintro i ⟨hi,hok⟩
   (try refine am ?_);(try exact amT)
   repeat' with_reducible first|apply zA|intro _
   all_goals try exact amA
   ·have hlt:i<l.length:=by assumption
    have hm:(l.getD i []).length≤2^47:=hr _ (getD_mem hlt)
    refine CallK.one (l1In _ _ _) (fun _=>amC) ?_
    (try refine am ?_);(try exact amT)
    repeat' with_reducible first|apply zA|intro _
    all_goals try exact amA
    ·refine FinK.val1 ?_ ?_
     all_goals try refine amF ?_
     all_goals try exact amT
     rename_i h2
     exact(wokB_false (fun h=>h2 (by have:=(h.2 i hlt).1;omega))).symm
    ·rename_i h2 h3
     refine LoopK.intro (Nat) (fun j=>[(4,.one (.av (.int .i64 j)))]) (fun j=>[]) [1,3] [1] 50 (fun j=>j≤(l.getD i []).length∧∀k,k<j→0≤(l.getD i []).getD k 0∧(l.getD i []).getD k 0≤2^i) (fun j=>(l.getD i []).length - j) (0) ?_ ?_ ?_
     ·exact⟨Nat.zero_le _,fun r hr=>by omega⟩
     ·refine Le.of [(1,1)] [] rfl rfl rfl rfl ?_ ?_ ?_
      all_goals try refine amL ?_
      all_goals try exact amT
     ·rintro j ⟨hj,hok2⟩
      (try refine am ?_);(try exact amT)
      repeat' with_reducible first|apply zA|intro _
      all_goals try exact amA
      ·have hlt2:j<(l.getD i []).length:=by assumption
       refine CallE.one (l16Power _ (by omega)) (fun _=>amC) rfl ?_
       (try refine am ?_);(try exact amT)
       refine CallE.one (l1In _ _ _) (fun _=>amC) rfl ?_
       (try refine am ?_);(try exact amT)
       repeat' with_reducible first|apply zA|intro _
       all_goals try exact amA
       ·refine FinK.val1 ?_ ?_
        all_goals try refine amF ?_
        all_goals try exact amT
        rename_i h4
        exact(wokB_false (fun h=>h4 ((h.2 i hlt).2 j hlt2))).symm
       ·rename_i h4 h5
        refine⟨j+1,?_,⟨by omega,fun k hk=>?_⟩,by omega⟩
        ·refine Le.of [(1,1)] [] rfl rfl rfl rfl ?_ ?_ ?_
         all_goals try refine amL ?_
         all_goals try exact amT
        ·by_cases e:k=j
         ·subst e;assumption
         ·exact hok2 k (by omega)
      ·refine⟨i+1,?_,⟨by omega,fun r hr=>?_⟩,by omega⟩
       ·refine Le.of [(1,1)] [] rfl rfl rfl rfl ?_ ?_ ?_
        all_goals try refine amL ?_
        all_goals try exact amT
       ·by_cases e:r=i
        ·subst e;exact⟨⟨by omega,by omega⟩,fun k hk=>hok2 k (by omega)⟩
        ·exact hok r (by omega)
   ·refine FinK.val1 ?_ ?_
    all_goals try refine amF ?_
    all_goals try exact amT
    exact(wokB_true ⟨by omega,fun r hr=>hok r (by omega)⟩).symm
theorem indexFunc1 (l:List Int) (u:Bool) (nl:Option Bool) (f:FuncId) (g:Nat→AV) (p:Int→Bool) (hl:l.length≤2^47) (hf:∀x∈l,ACalls Tryz.prog f [.one (.int .i64 x),.one (g 0)] (fun r=>r=.val (.one (.bool (p x))))):
 ACalls Tryz.prog 151 [.one (.sl u nl 1 l.length (fI l)),.one (.fn (.func f) 1 g)] (fun r=>r=.val (.one (.int .i64 (fidx p l 0)))):=by
 have nt:Tryz.f151.ntmps=19:=rfl
 have rs:Tryz.f151.results=#[.tmp 4]:=rfl
 refine ACalls.of_run (m:=400) mixed Tryz.func151 rfl rfl (Nat.le_of_ble_eq_true rfl) ?_
 simp only[nt,rs]
 clear nt rs
 (try refine am ?_);(try exact amT)
 refine LoopK.auto (Nat) (fun i=>[(8,.one (.av (.int .i64 i)))]) (fun i=>[]) [0,1,7] (k0:=?k02) (keepH:=?kh2) 50 (fun i=>i≤l.length∧fidx p l 0=fidx p (l.drop i) i) (fun i=>l.length - i) (0) ?kea2 ?keb2 ?_ ?_ ?_
 case kea2=>exact amN
 case keb2=>exact amN
 ·exact⟨Nat.zero_le _,by simp⟩
 ·refine Le.of [] [] rfl rfl rfl rfl ?_ ?_ ?_
  all_goals try refine amL ?_
  all_goals try exact amT
 ·rintro i ⟨hi,hs⟩
  (try refine am ?_);(try exact amT)
  repeat' with_reducible first|apply zA|intro _
  all_goals try exact amA
  ·have hlt:i<l.length:=by assumption
   refine CallK.one (hf _ (getD_mem hlt)) (fun _=>amC) ?_
   (try refine am ?_);(try exact amT)
   rw[drop_cons (d:=0) hlt] at hs
   simp only[fidx] at hs
   repeat' with_reducible first|apply zA|intro _
   all_goals try exact amA
   ·refine FinK.val1 ?_ ?_
    all_goals try refine amF ?_
    all_goals try exact amT
    have hp:p (l.getD i 0)=true:=by assumption
    rw[hp] at hs
    exact hs.symm
   ·have hp:p (l.getD i 0)=false:=by assumption
    rw[hp] at hs
    refine⟨i+1,?_,⟨by omega,hs⟩,by omega⟩
    refine Le.of [] [] rfl rfl rfl rfl ?_ ?_ ?_
    all_goals try refine amL ?_
    all_goals try exact amT
  ·refine FinK.val1 ?_ ?_
   all_goals try refine amF ?_
   all_goals try exact amT
   have:i=l.length:=by omega
   subst this
   rw[List.drop_length] at hs
   exact hs.symm
theorem containsFunc1 (l:List Int) (u:Bool) (nl:Option Bool) (f:FuncId) (g:Nat→AV) (p:Int→Bool) (hl:l.length≤2^47) (hf:∀x∈l,ACalls Tryz.prog f [.one (.int .i64 x),.one (g 0)] (fun r=>r=.val (.one (.bool (p x))))):
 ACalls Tryz.prog 113 [.one (.sl u nl 1 l.length (fI l)),.one (.fn (.func f) 1 g)] (fun r=>r=.val (.one (.bool (l.any p)))):=by
 have nt:Tryz.f113.ntmps=9:=rfl
 have rs:Tryz.f113.results=#[.tmp 4]:=rfl
 refine ACalls.of_run (m:=400) mixed Tryz.func113 rfl rfl (Nat.le_of_ble_eq_true rfl) ?_
 simp only[nt,rs]
 clear nt rs
 (try refine am ?_);(try exact amT)
 refine CallK.one (indexFunc1 l _ _ f _ p hl (fun x hx=>hf x hx)) (fun _=>amC) ?_
 (try refine am ?_);(try exact amT)
 refine FinK.val1 ?_ ?_
 all_goals try refine amF ?_
 all_goals try exact amT
 exact fidx_any p l 0 (by omega)
theorem windowOk1 (x:Int) (r:Nat) (hr:r≤61) (m:Nat) (hm:1≤m) (g:Nat→AV) (hg:g 0=.int .i64 r):
 ACalls Tryz.prog 190 [.one (.int .i64 x),.one (.ptr m g)] (fun q=>q=.val (.one (.bool (!decide (0≤x∧x≤2^r))))):=by
 have hp:=pow_bd r (by omega)
 have nt:Tryz.f190.ntmps=9:=rfl
 have rs:Tryz.f190.results=#[.tmp 3]:=rfl
 refine ACalls.of_run (m:=400) mixed Tryz.func190 rfl rfl (Nat.le_of_ble_eq_true rfl) ?_
 simp only[nt,rs]
 clear nt rs
 (try refine am ?_);(try exact amT)
 (try refine am ?_);(try simp only[hg]);(try refine am ?_);(try exact amT)
 repeat' with_reducible first|apply zA|intro _
 all_goals try exact amA
 refine CallK.one (within _ _ _) (fun _=>amC) ?_
 (try refine am ?_);(try exact amT)
 refine FinK.val1 ?_ ?_
 all_goals try refine amF ?_
 all_goals try exact amT
theorem implWindowOk (l:List (List Int)) (u v:Bool) (hl:l.length≤2^47) (hr:∀r∈l,r.length≤2^47):ACalls Tryz.prog 169 [.agg [aL u v l]] (fun r=>r=.val (.one (.bool (wokB l)))):=by
 have nt:Tryz.f169.ntmps=27:=rfl
 have rs:Tryz.f169.results=#[.tmp 2]:=rfl
 refine ACalls.of_run (m:=400) mixed Tryz.func169 rfl rfl (Nat.le_of_ble_eq_true rfl) ?_
 simp only[nt,rs]
 clear nt rs
 (try refine am ?_);(try exact amT)
 repeat' with_reducible first|apply zA|intro _
 all_goals try exact amA
 ·refine FinK.val1 ?_ ?_
  all_goals try refine amF ?_
  all_goals try exact amT
  exact(wokB_false (fun h=>by have:=h.1;omega)).symm
 ·rename_i h8
  refine LoopK.intro (Nat) (fun i=>[(12,.one (.av (.int .i64 i)))]) (fun i=>[]) [10,11] [1] 50 (fun i=>i≤l.length∧∀r,r<i→rok r (l.getD r [])) (fun i=>l.length - i) (0) ?_ ?_ ?_
  ·exact⟨Nat.zero_le _,fun r hr=>by omega⟩
  ·refine Le.of [(1,1)] [] rfl rfl rfl rfl ?_ ?_ ?_
   all_goals try refine amL ?_
   all_goals try exact amT
  ·rintro i ⟨hi,hok⟩
   (try refine am ?_);(try exact amT)
   repeat' with_reducible first|apply zA|intro _
   all_goals try exact amA
   ·have hlt:i<l.length:=by assumption
    have hm:(l.getD i []).length≤2^47:=hr _ (getD_mem hlt)
    refine CallK.one (within _ _ _) (fun _=>amC) ?_
    (try refine am ?_);(try exact amT)
    repeat' with_reducible first|apply zA|intro _
    all_goals try exact amA
    refine CallG.one rfl (fun hg=>containsFunc1 _ _ _ _ _ (fun x=> !decide (0≤x∧x≤2^i)) hm (fun x hx=>windowOk1 x i (by omega) _ (by omega) _ rfl)) ?_
    (try refine am ?_);(try exact amT)
    repeat' with_reducible first|apply zA|intro _
    all_goals try exact amA
    ·refine FinK.val1 ?_ ?_
     all_goals try refine amF ?_
     all_goals try exact amT
     rename_i hc
     refine(wokB_false (fun h=>?_)).symm
     have h1:=(rok_iff _ _).1 (h.2 i hlt)
     rcases hc with hc|hc
     ·exact hc (by omega)
     ·rw[h1.2] at hc;cases hc
    ·rename_i hc
     refine⟨i+1,?_,⟨by omega,fun r hr=>?_⟩,by omega⟩
     ·refine Le.of [(1,1)] [] rfl rfl rfl rfl ?_ ?_ ?_
      all_goals try refine amL ?_
      all_goals try exact amT
     ·by_cases e:r=i
      ·subst e;exact(rok_iff _ _).2 ⟨by omega,hc.2⟩
      ·exact hok r (by omega)
   ·refine FinK.val1 ?_ ?_
    all_goals try refine amF ?_
    all_goals try exact amT
    exact(wokB_true ⟨by omega,fun r hr=>hok r (by omega)⟩).symm
end Go.AM
namespace Go.AM
set_option maxHeartbeats 64000000
open Go Go.Proofs
set_option maxRecDepth 100000
theorem bkLe0 {g:Nat→Nat→AV} {nl:Option Bool}:ALe (.sl true nl 2 0 g) (.sl true none 2 0 (fBucket [])):=ALe.of (.inl rfl) rfl (fun i hi=>by omega)
theorem implBuckets (l:List (List Int)) (u v:Bool) (h:okL (2^47) l):ACalls Tryz.prog 137 [.agg [aL u v l]] (fun r=>r=.val (.one (aBucket true (bkts l)))):=by
 have hl:=h.1
 have nt:Tryz.f137.ntmps=38:=rfl
 have rs:Tryz.f137.results=#[.tmp 2]:=rfl
 refine ACalls.of_run (m:=400) mixed Tryz.func137 rfl rfl (Nat.le_of_ble_eq_true rfl) ?_
 simp only[nt,rs]
 clear nt rs
 (try refine am ?_);(try exact amT)
 refine CallK.one (implWindowOk l _ _ h.1 (fun r hr=>(h.2 r hr).1)) (fun _=>amC) ?_
 (try refine am ?_);(try exact amT)
 repeat' with_reducible first|apply zA|intro _
 all_goals try exact amA
 ·rename_i hw
  have hw:¬wok l:=by simpa [wokB] using hw
  refine FinK.val1 ?_ ?_
  all_goals try refine amF ?_
  all_goals try exact amT
  have e:bkts l=[]:=if_neg hw
  rw[e]
  exact ALe.nil _ _ _ _ _
 rename_i hw
 have hw:wok l:=by simpa [wokB] using hw
 have h8:=hw.1
 refine LoopK.auto (Nat) (fun q=>[(4,.one (.av (.int .i64 ((q:Int) - 1)))),(3,.one (.own 302 [] [0]))]) (fun q=>[(302,⟨.sl true none 2 (bkUp l (l.length - q)).length (fBucket (bkUp l (l.length - q))),[]⟩)]) [1] (k0:=?k01) (keepH:=?kh1) 400 (fun q=>q≤l.length) (fun q=>q) (l.length) ?kea1 ?keb1 ?_ ?_ ?_
 case kea1=>exact amN
 case keb1=>exact amN
 ·exact Nat.le_refl _
 ·refine LeA [] ?_ ?_ ?_
  all_goals try refine amL ?_
  all_goals try exact amT
  ·rw[Nat.sub_self];exact bkLe0
 ·intro q hq
  (try refine am ?_);(try exact amT)
  repeat' with_reducible first|apply zA|intro _
  all_goals try exact amA
  ·obtain⟨p,rfl⟩:∃p,q=p+1:=⟨q - 1,by omega⟩
   have ep:((((p+1:Nat):Int) - 1)).toNat=p:=by omega
   have hrk:=hw.2 p (by omega)
   have hlen:=bkUp_len hw (k:=l.length - (p+1)) (by omega)
   have hpw:=pow_bd p (by omega)
   have hl3:=hrk.1.2
   have ep2:(((p+1:Nat):Int) - 1)=(p:Int):=by omega
   (try refine am ?_);(try simp only[ep2]);(try refine am ?_);(try exact amT)
   refine LoopK.auto (Nat) (fun j=>[(25,.one (.av (.int .i64 j))),(3,.one (.own 302 [] [0]))]) (fun j=>[(302,⟨.sl true none 2 (bkUp l (l.length - (p+1))++bkR p ((l.getD p []).take j)).length (fBucket (bkUp l (l.length - (p+1))++bkR p ((l.getD p []).take j))),[]⟩)]) [1,4,23,24] (k0:=?k02) (keepH:=?kh2) 800 (fun j=>j≤(l.getD p []).length) (fun j=>(l.getD p []).length - j) (0) ?kea2 ?keb2 ?_ ?_ ?_
   case kea2=>exact amN
   case keb2=>exact amN
   ·exact Nat.zero_le _
   ·refine LeA [] ?_ ?_ ?_
    all_goals try refine amL ?_
    all_goals try exact amT
    simp[bkR]
    exact .refl _
   ·intro j hj
    have hL:(bkUp l (l.length - (p+1))++bkR p ((l.getD p []).take j)).length≤27:=by
     simp only[List.length_append,bkR_len,List.length_take]
     omega
    (try refine am ?_);(try exact amT)
    repeat' with_reducible first|apply zA|intro _
    all_goals try exact amA
    ·have hlt2:j<(l.getD p []).length:=by assumption
     refine⟨j+1,?_,by omega,by omega⟩
     refine LeA [] ?_ ?_ ?_
     all_goals try refine amL ?_
     all_goals try exact amT
     refine appLe1 (x:=⟨2^p,(l.getD p []).getD j 0⟩) ?_ rfl (.inl rfl)
     rw[bkR_take hlt2,List.append_assoc]
    ·refine⟨p,?_,by omega,by omega⟩
     refine LeA [] ?_ ?_ ?_
     all_goals try refine amL ?_
     all_goals try exact amT
     have e:j=(l.getD p []).length:=by omega
     subst e
     rw[List.take_length,←bkUp_step (by omega)]
     exact .refl _
  ·have e:q=0:=by omega
   subst e
   refine FinK.val1 ?_ ?_
   all_goals try refine amF ?_
   all_goals try exact amT
   have e:bkts l=bkUp l l.length:=if_pos hw
   rw[e]
   exact .refl _
theorem specBuckets (l:List (List Int)) (u v:Bool) (h:okL (2^47) l):ACalls Tryz.prog 238 [.agg [aL u v l]] (fun r=>r=.val (.one (aBucket true (bkts l)))):=by
 have hl:=h.1
 have nt:Tryz.f238.ntmps=44:=rfl
 have rs:Tryz.f238.results=#[.tmp 2]:=rfl
 refine ACalls.of_run (m:=400) mixed Tryz.func238 rfl rfl (Nat.le_of_ble_eq_true rfl) ?_
 simp only[nt,rs]
 clear nt rs
 (try refine am ?_);(try exact amT)
 repeat' with_reducible first|apply zA|intro _
 all_goals try exact amA
 refine CallK.one (specWindowOk l _ _ h.1 (fun r hr=>(h.2 r hr).1)) (fun _=>amC) ?_
 (try refine am ?_);(try exact amT)
 repeat' with_reducible first|apply zA|intro _
 all_goals try exact amA
 ·rename_i hw
  have hw:¬wok l:=by simpa [wokB] using hw
  refine FinK.val1 ?_ ?_
  all_goals try refine amF ?_
  all_goals try exact amT
  have e:bkts l=[]:=if_neg hw
  rw[e]
  exact bkLe0
 rename_i hw
 have hw:wok l:=by simpa [wokB] using hw
 have h8:=hw.1
 refine LoopK.auto (Nat) (fun q=>[(4,.one (.av (.int .i64 ((q:Int) - 1)))),(3,.one (.own 302 [] [0]))]) (fun q=>[(302,⟨.sl true none 2 (bkUp l (l.length - q)).length (fBucket (bkUp l (l.length - q))),[]⟩)]) [1] (k0:=?k03) (keepH:=?kh3) 400 (fun q=>q≤l.length) (fun q=>q) (l.length) ?kea3 ?keb3 ?_ ?_ ?_
 case kea3=>exact amN
 case keb3=>exact amN
 ·exact Nat.le_refl _
 ·refine LeA [] ?_ ?_ ?_
  all_goals try refine amL ?_
  all_goals try exact amT
  ·rw[Nat.sub_self];exact bkLe0
 ·intro q hq
  (try refine am ?_);(try exact amT)
  repeat' with_reducible first|apply zA|intro _
  all_goals try exact amA
  ·obtain⟨p,rfl⟩:∃p,q=p+1:=⟨q - 1,by omega⟩
   have hrk:=hw.2 p (by omega)
   have hlen:=bkUp_len hw (k:=l.length - (p+1)) (by omega)
   have hpw:=pow_bd p (by omega)
   have hl3:=hrk.1.2
   have ep2:(((p+1:Nat):Int) - 1)=(p:Int):=by omega
   (try refine am ?_);(try simp only[ep2]);(try refine am ?_);(try exact amT)
   refine LoopK.auto (Nat) (fun j=>[(5,.one (.av (.int .i64 j))),(3,.one (.own 302 [] [0]))]) (fun j=>[(302,⟨.sl true none 2 (bkUp l (l.length - (p+1))++bkR p ((l.getD p []).take j)).length (fBucket (bkUp l (l.length - (p+1))++bkR p ((l.getD p []).take j))),[]⟩)]) [1,4] (k0:=?k04) (keepH:=?kh4) 800 (fun j=>j≤(l.getD p []).length) (fun j=>(l.getD p []).length - j) (0) ?kea4 ?keb4 ?_ ?_ ?_
   case kea4=>exact amN
   case keb4=>exact amN
   ·exact Nat.zero_le _
   ·refine LeA [] ?_ ?_ ?_
    all_goals try refine amL ?_
    all_goals try exact amT
    simp[bkR]
    exact .refl _
   ·intro j hj
    have hL:(bkUp l (l.length - (p+1))++bkR p ((l.getD p []).take j)).length≤27:=by
     simp only[List.length_append,bkR_len,List.length_take]
     omega
    (try refine am ?_);(try exact amT)
    repeat' with_reducible first|apply zA|intro _
    all_goals try exact amA
    ·have hlt2:j<(l.getD p []).length:=by assumption
     refine CallE.one (l16Power p (by omega)) (fun _=>amC) rfl ?_
     (try refine am ?_);(try exact amT)
     repeat' with_reducible first|apply zA|intro _
     all_goals try exact amA
     refine⟨j+1,?_,by omega,by omega⟩
     refine LeA [] ?_ ?_ ?_
     all_goals try refine amL ?_
     all_goals try exact amT
     refine appLe1 (x:=⟨2^p,(l.getD p []).getD j 0⟩) ?_ rfl (.inl rfl)
     rw[bkR_take hlt2,List.append_assoc]
    ·refine⟨p,?_,by omega,by omega⟩
     refine LeA [] ?_ ?_ ?_
     all_goals try refine amL ?_
     all_goals try exact amT
     have e:j=(l.getD p []).length:=by omega
     subst e
     rw[List.take_length,←bkUp_step (by omega)]
     exact .refl _
  ·have e:q=0:=by omega
   subst e
   refine FinK.val1 ?_ ?_
   all_goals try refine amF ?_
   all_goals try exact amT
   have e:bkts l=bkUp l l.length:=if_pos hw
   rw[e]
   exact .refl _
theorem implWindowTotal (l:List (List Int)) (u v:Bool) (h:okL (2^47) l):ACalls Tryz.prog 92 [.agg [aL u v l]] (fun r=>r=.val (.one (.int .i64 (bSize (bkts l))))):=by
 have hb:=bkts_len (l:=l)
 have nt:Tryz.f92.ntmps=19:=rfl
 have rs:Tryz.f92.results=#[.tmp 2]:=rfl
 refine ACalls.of_run (m:=400) mixed Tryz.func92 rfl rfl (Nat.le_of_ble_eq_true rfl) ?_
 simp only[nt,rs]
 clear nt rs
 (try refine am ?_);(try exact amT)
 refine CallK.one (implBuckets l _ _ h) (fun _=>amC) ?_
 (try refine am ?_);(try exact amT)
 refine LoopK.auto (Nat) (fun i=>[(3,.one (.av (.int .i64 (bSize ((bkts l).take i))))),(9,.one (.av (.int .i64 i)))]) (fun i=>[]) [7,8] (k0:=?k05) (keepH:=?kh5) 400 (fun i=>i≤(bkts l).length) (fun i=>(bkts l).length - i) (0) ?kea5 ?keb5 ?_ ?_ ?_
 case kea5=>exact amN
 case keb5=>exact amN
 ·exact Nat.zero_le _
 ·refine LeA [] ?_ ?_ ?_
  all_goals try refine amL ?_
  all_goals try exact amT
  rfl
 ·intro i hi
  have ht:=bk_take (i:=i) (bkts_ok (l:=l))
  have ht2:=bk_take (i:=i+1) (bkts_ok (l:=l))
  (try refine am ?_);(try exact amT)
  repeat' with_reducible first|apply zA|intro _
  all_goals try exact amA
  ·have:=smI_take (f:=DBucket.size) (d:=default) (by assumption:i<(bkts l).length)
   unfold bSize bOnes at *
   omega
  ·have:=smI_take (f:=DBucket.size) (d:=default) (by assumption:i<(bkts l).length)
   unfold bSize bOnes at *
   omega
  ·have:=smI_take (f:=DBucket.size) (d:=default) (by assumption:i<(bkts l).length)
   refine⟨i+1,?_,by omega,by omega⟩
   refine LeA [] ?_ ?_ ?_
   all_goals try refine amL ?_
   all_goals try exact amT
   exact this.symm
  ·refine FinK.val1 ?_ ?_
   all_goals try refine amF ?_
   all_goals try exact amT
   have:i=(bkts l).length:=by omega
   rw[this,List.take_length]
theorem implWindowOnes (l:List (List Int)) (u v:Bool) (h:okL (2^47) l):ACalls Tryz.prog 94 [.agg [aL u v l]] (fun r=>r=.val (.one (.int .i64 (bOnes (bkts l))))):=by
 have hb:=bkts_len (l:=l)
 have nt:Tryz.f94.ntmps=19:=rfl
 have rs:Tryz.f94.results=#[.tmp 2]:=rfl
 refine ACalls.of_run (m:=400) mixed Tryz.func94 rfl rfl (Nat.le_of_ble_eq_true rfl) ?_
 simp only[nt,rs]
 clear nt rs
 (try refine am ?_);(try exact amT)
 refine CallK.one (implBuckets l _ _ h) (fun _=>amC) ?_
 (try refine am ?_);(try exact amT)
 refine LoopK.auto (Nat) (fun i=>[(3,.one (.av (.int .i64 (bOnes ((bkts l).take i))))),(9,.one (.av (.int .i64 i)))]) (fun i=>[]) [7,8] (k0:=?k06) (keepH:=?kh6) 400 (fun i=>i≤(bkts l).length) (fun i=>(bkts l).length - i) (0) ?kea6 ?keb6 ?_ ?_ ?_
 case kea6=>exact amN
 case keb6=>exact amN
 ·exact Nat.zero_le _
 ·refine LeA [] ?_ ?_ ?_
  all_goals try refine amL ?_
  all_goals try exact amT
  rfl
 ·intro i hi
  have ht:=bk_take (i:=i) (bkts_ok (l:=l))
  have ht2:=bk_take (i:=i+1) (bkts_ok (l:=l))
  (try refine am ?_);(try exact amT)
  repeat' with_reducible first|apply zA|intro _
  all_goals try exact amA
  ·have:=smI_take (f:=DBucket.ones) (d:=default) (by assumption:i<(bkts l).length)
   unfold bSize bOnes at *
   omega
  ·have:=smI_take (f:=DBucket.ones) (d:=default) (by assumption:i<(bkts l).length)
   unfold bSize bOnes at *
   omega
  ·have:=smI_take (f:=DBucket.ones) (d:=default) (by assumption:i<(bkts l).length)
   refine⟨i+1,?_,by omega,by omega⟩
   refine LeA [] ?_ ?_ ?_
   all_goals try refine amL ?_
   all_goals try exact amT
   exact this.symm
  ·refine FinK.val1 ?_ ?_
   all_goals try refine amF ?_
   all_goals try exact amT
   have:i=(bkts l).length:=by omega
   rw[this,List.take_length]
theorem specWindowTotal (l:List (List Int)) (u v:Bool) (h:okL (2^47) l):ACalls Tryz.prog 225 [.agg [aL u v l]] (fun r=>r=.val (.one (.int .i64 (bSize (bkts l))))):=by
 have hb:=bkts_len (l:=l)
 have nt:Tryz.f225.ntmps=22:=rfl
 have rs:Tryz.f225.results=#[.tmp 2]:=rfl
 refine ACalls.of_run (m:=400) mixed Tryz.func225 rfl rfl (Nat.le_of_ble_eq_true rfl) ?_
 simp only[nt,rs]
 clear nt rs
 (try refine am ?_);(try exact amT)
 refine CallK.one (specBuckets l _ _ h) (fun _=>amC) ?_
 (try refine am ?_);(try exact amT)
 refine LoopK.auto (Nat) (fun i=>[(3,.one (.av (.int .i64 (bSize ((bkts l).take i))))),(5,.one (.av (.int .i64 i)))]) (fun i=>[]) [4] (k0:=?k07) (keepH:=?kh7) 400 (fun i=>i≤(bkts l).length) (fun i=>(bkts l).length - i) (0) ?kea7 ?keb7 ?_ ?_ ?_
 case kea7=>exact amN
 case keb7=>exact amN
 ·exact Nat.zero_le _
 ·refine LeA [] ?_ ?_ ?_
  all_goals try refine amL ?_
  all_goals try exact amT
  rfl
 ·intro i hi
  have ht:=bk_take (i:=i) (bkts_ok (l:=l))
  have ht2:=bk_take (i:=i+1) (bkts_ok (l:=l))
  (try refine am ?_);(try exact amT)
  repeat' with_reducible first|apply zA|intro _
  all_goals try exact amA
  ·have:=smI_take (f:=DBucket.size) (d:=default) (by assumption:i<(bkts l).length)
   unfold bSize bOnes at *
   omega
  ·have:=smI_take (f:=DBucket.size) (d:=default) (by assumption:i<(bkts l).length)
   unfold bSize bOnes at *
   omega
  ·have:=smI_take (f:=DBucket.size) (d:=default) (by assumption:i<(bkts l).length)
   refine⟨i+1,?_,by omega,by omega⟩
   refine LeA [] ?_ ?_ ?_
   all_goals try refine amL ?_
   all_goals try exact amT
   exact this.symm
  ·refine FinK.val1 ?_ ?_
   all_goals try refine amF ?_
   all_goals try exact amT
   have:i=(bkts l).length:=by omega
   rw[this,List.take_length]
theorem specWindowOnes (l:List (List Int)) (u v:Bool) (h:okL (2^47) l):ACalls Tryz.prog 224 [.agg [aL u v l]] (fun r=>r=.val (.one (.int .i64 (bOnes (bkts l))))):=by
 have hb:=bkts_len (l:=l)
 have nt:Tryz.f224.ntmps=22:=rfl
 have rs:Tryz.f224.results=#[.tmp 2]:=rfl
 refine ACalls.of_run (m:=400) mixed Tryz.func224 rfl rfl (Nat.le_of_ble_eq_true rfl) ?_
 simp only[nt,rs]
 clear nt rs
 (try refine am ?_);(try exact amT)
 refine CallK.one (specBuckets l _ _ h) (fun _=>amC) ?_
 (try refine am ?_);(try exact amT)
 refine LoopK.auto (Nat) (fun i=>[(3,.one (.av (.int .i64 (bOnes ((bkts l).take i))))),(5,.one (.av (.int .i64 i)))]) (fun i=>[]) [4] (k0:=?k08) (keepH:=?kh8) 400 (fun i=>i≤(bkts l).length) (fun i=>(bkts l).length - i) (0) ?kea8 ?keb8 ?_ ?_ ?_
 case kea8=>exact amN
 case keb8=>exact amN
 ·exact Nat.zero_le _
 ·refine LeA [] ?_ ?_ ?_
  all_goals try refine amL ?_
  all_goals try exact amT
  rfl
 ·intro i hi
  have ht:=bk_take (i:=i) (bkts_ok (l:=l))
  have ht2:=bk_take (i:=i+1) (bkts_ok (l:=l))
  (try refine am ?_);(try exact amT)
  repeat' with_reducible first|apply zA|intro _
  all_goals try exact amA
  ·have:=smI_take (f:=DBucket.ones) (d:=default) (by assumption:i<(bkts l).length)
   unfold bSize bOnes at *
   omega
  ·have:=smI_take (f:=DBucket.ones) (d:=default) (by assumption:i<(bkts l).length)
   unfold bSize bOnes at *
   omega
  ·have:=smI_take (f:=DBucket.ones) (d:=default) (by assumption:i<(bkts l).length)
   refine⟨i+1,?_,by omega,by omega⟩
   refine LeA [] ?_ ?_ ?_
   all_goals try refine amL ?_
   all_goals try exact amT
   exact this.symm
  ·refine FinK.val1 ?_ ?_
   all_goals try refine amF ?_
   all_goals try exact amT
   have:i=(bkts l).length:=by omega
   rw[this,List.take_length]
end Go.AM
namespace Go.AM
set_option maxHeartbeats 64000000
open Go Go.Proofs
set_option maxRecDepth 100000
theorem specLnOf (k:Int) (_:inK .i64 k):ACalls Tryz.prog 235 [.one (.int .i64 k)] (fun r=>r=.val (.one (.int .i64 (lnOf k)))):=by
 have nt:Tryz.f235.ntmps=10:=rfl
 have rs:Tryz.f235.results=#[.tmp 2]:=rfl
 refine ACalls.of_run (m:=400) mixed Tryz.func235 rfl rfl (Nat.le_of_ble_eq_true rfl) ?_
 simp only[nt,rs]
 clear nt rs
 (try refine am ?_);(try exact amT)
 refine CallK.one (l1In k 1 9) (fun _=>amC) ?_
 (try refine am ?_);(try exact amT)
 repeat' with_reducible first|apply zA|intro _
 all_goals try exact amA
 ·refine FinK.val1 ?_ ?_
  all_goals try refine amF ?_
  all_goals try exact amT
  rename_i h
  exact(if_neg (by omega)).symm
 ·have e:(k*2302585+999).tdiv 1000=(k*2302585+999) / 1000:=Int.tdiv_eq_ediv_of_nonneg (by omega)
  omega
 ·have e:(k*2302585+999).tdiv 1000=(k*2302585+999) / 1000:=Int.tdiv_eq_ediv_of_nonneg (by omega)
  omega
 ·refine FinK.val1 ?_ ?_
  all_goals try refine amF ?_
  all_goals try exact amT
  rename_i h
  exact(if_pos (by omega)).symm
theorem specCutHere (n u m v k:Int) (_:inK .i64 n) (_:inK .i64 m) (_:inK .i64 u) (_:inK .i64 v) (hk:inK .i64 k):ACalls Tryz.prog 247 [.one (.int .i64 n),.one (.int .i64 u),.one (.int .i64 m),.one (.int .i64 v),.one (.int .i64 k)] (fun r=>r=.val (.one (.bool (cutHere n u m v k)))):=by
 have key:=cut_bd n u m v k
 have nt:Tryz.f247.ntmps=59:=rfl
 have rs:Tryz.f247.results=#[.tmp 10]:=rfl
 refine ACalls.of_run (m:=400) mixed Tryz.func247 rfl rfl (Nat.le_of_ble_eq_true rfl) ?_
 simp only[nt,rs]
 clear nt rs
 (try refine am ?_);(try exact amT)
 refine CallK.one (l1In n 5 1000) (fun _=>amC) ?_
 (try refine am ?_);(try exact amT)
 repeat' with_reducible first|apply zA|intro _
 all_goals try exact amA
 refine CallG.one rfl (fun hg=>l1In m 5 1000) ?_
 (try refine am ?_);(try exact amT)
 repeat' with_reducible first|apply zA|intro _
 all_goals try exact amA
 refine CallG.one rfl (fun hg=>l1In u 0 n) ?_
 (try refine am ?_);(try exact amT)
 repeat' with_reducible first|apply zA|intro _
 all_goals try exact amA
 refine CallG.one rfl (fun hg=>l1In v 0 m) ?_
 (try refine am ?_);(try exact amT)
 repeat' with_reducible first|apply zA|intro _
 all_goals try exact amA
 refine CallG.one rfl (fun hg=>l1In k 1 9) ?_
 (try refine am ?_);(try exact amT)
 repeat' with_reducible first|apply zA|intro _
 all_goals try exact amA
 ·refine FinK.val1 ?_ ?_
  all_goals try refine amF ?_
  all_goals try exact amT
  rename_i h
  refine(decide_eq_false (fun e=>?_)).symm
  omega
 refine CallK.one (specLnOf k hk) (fun _=>amC) ?_
 (try refine am ?_);(try exact amT)
 repeat' with_reducible first|apply zA|intro _
 all_goals try exact amA
 refine FinK.val1 ?_ ?_
 all_goals try refine amF ?_
 all_goals try exact amT
 unfold cutHere
 exact decide_eq_decide.2 ⟨fun e=>by omega,fun e=>by omega⟩
theorem specCutAt (l:List (List Int)) (k:Int) (u v:Bool) (h:okL (2^47) l) (hk:inK .i64 k):ACalls Tryz.prog 236 [.agg [aL u v l],.one (.int .i64 k)] (fun r=>r=.val (.one (.int .i64 (cutAt l k)))):=by
 have hb:=bkts_len (l:=l)
 have hok:=bkts_ok (l:=l)
 have hbd:=bk_bd hok
 have nt:Tryz.f236.ntmps=50:=rfl
 have rs:Tryz.f236.results=#[.tmp 4]:=rfl
 refine ACalls.of_run (m:=400) mixed Tryz.func236 rfl rfl (Nat.le_of_ble_eq_true rfl) ?_
 simp only[nt,rs]
 clear nt rs
 (try refine am ?_);(try exact amT)
 refine CallK.one (specBuckets l _ _ h) (fun _=>amC) ?_
 (try refine am ?_);(try exact amT)
 repeat' with_reducible first|apply zA|intro _
 all_goals try exact amA
 refine CallK.one (specWindowTotal l _ _ h) (fun _=>amC) ?_
 (try refine am ?_);(try exact amT)
 repeat' with_reducible first|apply zA|intro _
 all_goals try exact amA
 refine CallK.one (specWindowOnes l _ _ h) (fun _=>amC) ?_
 (try refine am ?_);(try exact amT)
 repeat' with_reducible first|apply zA|intro _
 all_goals try exact amA
 refine LoopK.auto (Nat) (fun i=>[(8,.one (.av (.int .i64 (bSize ((bkts l).take i))))),(9,.one (.av (.int .i64 (bOnes ((bkts l).take i))))),(10,.one (.av (.int .i64 i)))]) (fun i=>[]) [1,5,6,7] (k0:=?k01) (keepH:=?kh1) 400 (fun i=>i≤(bkts l).length∧cutAt l k=cutFrom (bkts l) k i ((bkts l).length - i)) (fun i=>(bkts l).length - i) (0) ?kea1 ?keb1 ?_ ?_ ?_
 case kea1=>exact amN
 case keb1=>exact amN
 ·exact⟨Nat.zero_le _,rfl⟩
 ·refine LeA [] ?_ ?_ ?_
  all_goals try refine amL ?_
  all_goals try exact amT
  all_goals first|rfl|exact⟨rfl,rfl⟩
 ·rintro i ⟨hi,he⟩
  have ht:=bk_take (i:=i) hok
  have ht2:=bk_take (i:=i+1) hok
  by_cases hlt:i+1<(bkts l).length
  ·have e1:=smI_take (f:=DBucket.size) (d:=default) (by omega:i<(bkts l).length)
   have e2:=smI_take (f:=DBucket.ones) (d:=default) (by omega:i<(bkts l).length)
   have e1':bSize ((bkts l).take i)+((bkts l).getD i default).size=bSize ((bkts l).take (i+1)):=e1.symm
   have e2':bOnes ((bkts l).take i)+((bkts l).getD i default).ones=bOnes ((bkts l).take (i+1)):=e2.symm
   rw[cutFrom_step hlt] at he
   (try refine am ?_);(try exact amT)
   (try refine am ?_);(try simp only[e1',e2']);(try refine am ?_);(try exact amT)
   repeat' with_reducible first|apply zA|intro _
   all_goals try exact amA
   ·refine CallK.one (specCutHere (bSize ((bkts l).take (i+1))) (bOnes ((bkts l).take (i+1))) (bSize (bkts l) - bSize ((bkts l).take (i+1))) (bOnes (bkts l) - bOnes ((bkts l).take (i+1))) k (inK_bd (by omega)) (inK_bd (by omega)) (inK_bd (by omega)) (inK_bd (by omega)) hk) (fun _=>amC) ?_
    (try refine am ?_);(try exact amT)
    repeat' with_reducible first|apply zA|intro _
    all_goals try exact amA
    ·refine FinK.val1 ?_ ?_
     all_goals try refine amF ?_
     all_goals try exact amT
     rename_i hc
     rw[he,if_pos hc]
    ·rename_i hc
     refine⟨i+1,?_,⟨by omega,?_⟩,by omega⟩
     ·refine LeA [] ?_ ?_ ?_
      all_goals try refine amL ?_
      all_goals try exact amT
     ·rw[he,if_neg (by rw[hc];simp)]
  ·rw[cutFrom_end hlt] at he
   (try refine am ?_);(try exact amT)
   repeat' with_reducible first|apply zA|intro _
   all_goals try exact amA
   refine FinK.val1 ?_ ?_
   all_goals try refine amF ?_
   all_goals try exact amT
   exact he.symm
theorem implDetOk (x:DDet) (u v:Bool) (h:okDet (2^47) x):ACalls Tryz.prog 167 [.agg (cDet u v x)] (fun r=>r=.val (.one (.bool (wokB x.warn&&wokB x.drift)))):=by
 have nt:Tryz.f167.ntmps=11:=rfl
 have rs:Tryz.f167.results=#[.tmp 2]:=rfl
 refine ACalls.of_run (m:=400) mixed Tryz.func167 rfl rfl (Nat.le_of_ble_eq_true rfl) ?_
 simp only[nt,rs]
 clear nt rs
 (try refine am ?_);(try exact amT)
 refine CallK.one (implWindowOk x.warn _ _ h.1.1 (fun r hr=>(h.1.2 r hr).1)) (fun _=>amC) ?_
 (try refine am ?_);(try exact amT)
 repeat' with_reducible first|apply zA|intro _
 all_goals try exact amA
 refine CallG.one rfl (fun hg=>implWindowOk x.drift _ _ h.2.1 (fun r hr=>(h.2.2 r hr).1)) ?_
 (try refine am ?_);(try exact amT)
 repeat' with_reducible first|apply zA|intro _
 all_goals try exact amA
 refine FinK.val1 ?_ ?_
 all_goals try refine amF ?_
 all_goals try exact amT
 first|done|rfl
theorem specDetOk (x:DDet) (u v:Bool) (h:okDet (2^47) x):ACalls Tryz.prog 142 [.agg (cDet u v x)] (fun r=>r=.val (.one (.bool (wokB x.warn&&wokB x.drift)))):=by
 have nt:Tryz.f142.ntmps=11:=rfl
 have rs:Tryz.f142.results=#[.tmp 2]:=rfl
 refine ACalls.of_run (m:=400) mixed Tryz.func142 rfl rfl (Nat.le_of_ble_eq_true rfl) ?_
 simp only[nt,rs]
 clear nt rs
 (try refine am ?_);(try exact amT)
 refine CallK.one (specWindowOk x.warn _ _ h.1.1 (fun r hr=>(h.1.2 r hr).1)) (fun _=>amC) ?_
 (try refine am ?_);(try exact amT)
 repeat' with_reducible first|apply zA|intro _
 all_goals try exact amA
 refine CallG.one rfl (fun hg=>specWindowOk x.drift _ _ h.2.1 (fun r hr=>(h.2.2 r hr).1)) ?_
 (try refine am ?_);(try exact amT)
 repeat' with_reducible first|apply zA|intro _
 all_goals try exact amA
 refine FinK.val1 ?_ ?_
 all_goals try refine amF ?_
 all_goals try exact amT
 first|done|rfl
end Go.AM
