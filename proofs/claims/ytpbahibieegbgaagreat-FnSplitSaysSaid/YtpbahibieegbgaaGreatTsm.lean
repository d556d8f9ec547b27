/- Lemmas for the proof of this claim. -/
import Derived.Test.YtpbahibieegbgaaGreatBas
namespace Go.AM
set_option maxHeartbeats 64000000
open Go Go.Proofs
set_option maxRecDepth 100000
theorem l5SameInts (l m:List (Int)) (u u':Bool) (nl ml:Option Bool) (hl:l.length≤2^47):ACalls Tryz.prog 106 [.one (.sl u nl 1 l.length (fI l)),.one (.sl u' ml 1 m.length (fI m))] (fun r=>r=.val (.one (.bool (decide (l=m))))):=by
 have nt:Tryz.f106.ntmps=26:=rfl
 have rs:Tryz.f106.results=#[.tmp 4]:=rfl
 refine ACalls.of_run (m:=400) mixed Tryz.func106 rfl rfl (Nat.le_of_ble_eq_true rfl) ?_
 simp only[nt,rs]
 clear nt rs
 (try refine am ?_);(try exact amT)
 refine⟨fun h=>?_,fun hlen=>?_⟩
 ·refine FinK.val1 ?_ ?_
  all_goals try refine amF ?_
  all_goals try exact amT
  exact(decide_eq_false (fun e=>h (by rw[e]))).symm
 refine LoopK.auto (Nat) (fun i=>[(5,.one (.av (.int .i64 i)))]) (fun i=>[]) [0,1] (k0:=?k01) (keepH:=?kh1) 400 (fun i=>i≤l.length∧∀j,j<i→l.getD j 0=m.getD j 0) (fun i=>l.length - i) (0) ?kea1 ?keb1 ?_ ?_ ?_
 case kea1=>exact amN
 case keb1=>exact amN
 ·exact⟨Nat.zero_le _,fun j hj=>by omega⟩
 ·refine Le.of [] [] rfl rfl rfl rfl ?_ ?_ ?_
  all_goals try refine amL ?_
  all_goals try exact amT
 ·intro i hi
  (try refine am ?_);(try exact amT)
  repeat' with_reducible first|apply zA|intro _
  all_goals try exact amA
  ·refine FinK.val1 ?_ ?_
   all_goals try refine amF ?_
   all_goals try exact amT
   rename_i h2
   exact(decide_eq_false (fun e=>h2 (by rw[e]))).symm
  ·rename_i h2
   refine⟨i+1,?_,⟨by omega,fun j hj=>?_⟩,by omega⟩
   ·refine Le.of [] [] rfl rfl rfl rfl ?_ ?_ ?_
    all_goals try refine amL ?_
    all_goals try exact amT
   ·by_cases h3:j=i
    ·rw[h3];exact h2
    ·exact hi.2 j (by omega)
  ·refine FinK.val1 ?_ ?_
   all_goals try refine amF ?_
   all_goals try exact amT
   exact(decide_eq_true (getD_ext hlen (fun j hj=>hi.2 j (by omega)))).symm
theorem specStatsSame (x y:DStats) (u v u' v':Bool) (h:okStats (2^47) x):ACalls Tryz.prog 107 [.agg (cStats u v x),.agg (cStats u' v' y)] (fun r=>r=.val (.one (.bool (decide (x=y))))):=by
 obtain⟨x0,l⟩:=x
 obtain⟨y0,m⟩:=y
 have hl:l.length≤2^47:=h.2.1
 have nt:Tryz.f107.ntmps=40:=rfl
 have rs:Tryz.f107.results=#[.tmp 4]:=rfl
 refine ACalls.of_run (m:=400) mixed Tryz.func107 rfl rfl (Nat.le_of_ble_eq_true rfl) ?_
 simp only[nt,rs]
 clear nt rs
 (try refine am ?_);(try exact amT)
 refine CallK.one (l5SameInts x0 y0 _ _ _ _ h.1.1) (fun _=>amC) ?_
 (try refine am ?_);(try exact amT)
 repeat' with_reducible first|apply zA|intro _
 all_goals try exact amA
 ·refine FinK.val1 ?_ ?_
  all_goals try refine amF ?_
  all_goals try exact amT
  rename_i hh
  exact(decide_eq_false (fun e=>by cases e;simp at hh)).symm
 rename_i hh
 obtain⟨h0,hlen⟩:=hh
 subst h0
 refine LoopK.intro (Nat) (fun i=>[(5,.one (.av (.int .i64 i)))]) (fun i=>[]) [2,3] [1,2] 400 (fun i=>i≤l.length∧∀j,j<i→l.getD j []=m.getD j []) (fun i=>l.length - i) (0) ?_ ?_ ?_
 ·exact⟨Nat.zero_le _,fun j hj=>by omega⟩
 ·refine Le.of [(1,1),(2,2)] [] rfl rfl rfl rfl ?_ ?_ ?_
  all_goals try refine amL ?_
  all_goals try exact amT
 ·intro i hi
  (try refine am ?_);(try exact amT)
  repeat' with_reducible first|apply zA|intro _
  all_goals try exact amA
  ·have hlt:i<l.length:=by assumption
   refine CallE.one (l5SameInts _ _ _ _ _ _ (h.2.2 _ (getD_mem hlt)).1) (fun _=>amC) rfl ?_
   (try refine am ?_);(try exact amT)
   repeat' with_reducible first|apply zA|intro _
   all_goals try exact amA
   ·refine FinK.val1 ?_ ?_
    all_goals try refine amF ?_
    all_goals try exact amT
    rename_i h2
    exact(decide_eq_false (fun e=>h2 (by cases e;rfl))).symm
   ·rename_i h2
    refine⟨i+1,?_,⟨by omega,fun j hj=>?_⟩,by omega⟩
    ·refine Le.of [(1,1),(2,2)] [] rfl rfl rfl rfl ?_ ?_ ?_
     all_goals try refine amL ?_
     all_goals try exact amT
    ·by_cases h3:j=i
     ·rw[h3];exact h2
     ·exact hi.2 j (by omega)
  ·refine FinK.val1 ?_ ?_
   all_goals try refine amF ?_
   all_goals try exact amT
   have e:l=m:=getD_ext hlen (fun j hj=>hi.2 j (by omega))
   subst e
   simp
theorem specNodeSame (x y:DNode) (u v u' v':Bool) (h:okNode (2^47) x):ACalls Tryz.prog 49 [.agg (cNode u v x),.agg (cNode u' v' y)] (fun r=>r=.val (.one (.bool (decide (x=y))))):=by
 obtain⟨x0,⟨x1,x1'⟩,x2,x3,x4,x5,x6,x7,x8,x9⟩:=x
 obtain⟨y0,⟨y1,y1'⟩,y2,y3,y4,y5,y6,y7,y8,y9⟩:=y
 have nt:Tryz.f49.ntmps=73:=rfl
 have rs:Tryz.f49.results=#[.tmp 4]:=rfl
 refine ACalls.of_run (m:=400) mixed Tryz.func49 rfl rfl (Nat.le_of_ble_eq_true rfl) ?_
 simp only[nt,rs]
 clear nt rs
 (try refine am ?_);(try exact amT)
 repeat' with_reducible first|apply zA|intro _
 all_goals try exact amA
 refine CallG.one rfl (fun hg=>l5SameInts x2 y2 _ _ _ _ h.2.2.1.1) ?_
 (try refine am ?_);(try exact amT)
 repeat' with_reducible first|apply zA|intro _
 all_goals try exact amA
 refine CallG.one rfl (fun hg=>specStatsSame x4 y4 _ _ _ _ h.2.2.2.2.1) ?_
 (try refine am ?_);(try exact amT)
 repeat' with_reducible first|apply zA|intro _
 all_goals try exact amA
 refine CallG.one rfl (fun hg=>l5SameInts x6 y6 _ _ _ _ h.2.2.2.2.2.2.1.1) ?_
 (try refine am ?_);(try exact amT)
 repeat' with_reducible first|apply zA|intro _
 all_goals try exact amA
 refine FinK.val1 ?_ ?_
 all_goals try refine amF ?_
 all_goals try exact amT
 (first|rfl|(simp_all;done)|(simp_all [Bool.and_assoc];done)|(simp_all [Bool.and_comm];done))
theorem specTreeSame (x y:DTree) (u v u' v':Bool) (h:okTree (2^47) x):ACalls Tryz.prog 11 [.agg (cTree u v x),.agg (cTree u' v' y)] (fun r=>r=.val (.one (.bool (decide (x=y))))):=by
 obtain⟨l,x1⟩:=x
 obtain⟨m,y1⟩:=y
 have hl:l.length≤2^47:=h.1.1
 have nt:Tryz.f11.ntmps=39:=rfl
 have rs:Tryz.f11.results=#[.tmp 4]:=rfl
 refine ACalls.of_run (m:=400) mixed Tryz.func11 rfl rfl (Nat.le_of_ble_eq_true rfl) ?_
 simp only[nt,rs]
 clear nt rs
 (try refine am ?_);(try exact amT)
 repeat' with_reducible first|apply zA|intro _
 all_goals try exact amA
 ·refine FinK.val1 ?_ ?_
  all_goals try refine amF ?_
  all_goals try exact amT
  rename_i hh
  exact(decide_eq_false (fun e=>by cases e;simp at hh)).symm
 rename_i hh
 obtain⟨hlen,h0⟩:=hh
 have hlen:l.length=m.length:=by omega
 have h0:x1=y1:=h0
 subst h0
 refine LoopK.intro (Nat) (fun i=>[(5,.one (.av (.int .i64 i)))]) (fun i=>[]) [2,3] [1,2] 400 (fun i=>i≤l.length∧∀j,j<i→l.getD j default=m.getD j default) (fun i=>l.length - i) (0) ?_ ?_ ?_
 ·exact⟨Nat.zero_le _,fun j hj=>by omega⟩
 ·refine Le.of [(1,1),(2,2)] [] rfl rfl rfl rfl ?_ ?_ ?_
  all_goals try refine amL ?_
  all_goals try exact amT
 ·intro i hi
  (try refine am ?_);(try exact amT)
  repeat' with_reducible first|apply zA|intro _
  all_goals try exact amA
  ·have hlt:i<l.length:=by assumption
   refine CallE.one (specNodeSame (l.getD i default) (m.getD i default) _ _ _ _ (h.1.2 _ (getD_mem hlt))) (fun _=>amC) rfl ?_
   (try refine am ?_);(try exact amT)
   repeat' with_reducible first|apply zA|intro _
   all_goals try exact amA
   ·refine FinK.val1 ?_ ?_
    all_goals try refine amF ?_
    all_goals try exact amT
    rename_i h2
    exact(decide_eq_false (fun e=>h2 (by cases e;rfl))).symm
   ·rename_i h2
    refine⟨i+1,?_,⟨by omega,fun j hj=>?_⟩,by omega⟩
    ·refine Le.of [(1,1),(2,2)] [] rfl rfl rfl rfl ?_ ?_ ?_
     all_goals try refine amL ?_
     all_goals try exact amT
    ·by_cases h3:j=i
     ·rw[h3];exact h2
     ·exact hi.2 j (by omega)
  ·refine FinK.val1 ?_ ?_
   all_goals try refine amF ?_
   all_goals try exact amT
   have e:l=m:=getD_ext hlen (fun j hj=>hi.2 j (by omega))
   subst e
   simp
end Go.AM
