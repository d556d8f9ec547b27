/- Lemmas for the proof of this claim. -/
import Derived.Test.YtpbahibieegbgaaGreatFam
namespace Go.AM
set_option maxHeartbeats 64000000
open Go Go.Proofs
set_option maxRecDepth 100000
theorem equalInts (l m:List (Int)) (u u':Bool) (nl ml:Option Bool) (hl:l.length≤2^47):ACalls Tryz.prog 202 [.one (.sl u nl 1 l.length (fI l)),.one (.sl u' ml 1 m.length (fI m))] (fun r=>r=.val (.one (.bool (decide (l=m))))):=by
 have nt:Tryz.f202.ntmps=26:=rfl
 have rs:Tryz.f202.results=#[.tmp 4]:=rfl
 refine ACalls.of_run (m:=400) mixed Tryz.func202 rfl rfl (Nat.le_of_ble_eq_true rfl) ?_
 simp only[nt,rs]
 clear nt rs
 (try refine am ?_);(try exact amT)
 refine⟨fun h=>?_,fun hlen=>?_⟩
 ·refine FinK.val1 ?_ ?_
  all_goals try refine amF ?_
  all_goals try exact amT
  exact(decide_eq_false (fun e=>h (by rw[e]))).symm
 refine LoopK.auto (Nat) (fun i=>[(13,.one (.av (.int .i64 i)))]) (fun i=>[]) [0,1,12] (k0:=?k02) (keepH:=?kh2) 400 (fun i=>i≤l.length∧∀j,j<i→l.getD j 0=m.getD j 0) (fun i=>l.length - i) (0) ?kea2 ?keb2 ?_ ?_ ?_
 case kea2=>exact amN
 case keb2=>exact amN
 ·exact⟨Nat.zero_le _,fun j hj=>by omega⟩
 ·refine Le.of [] [] rfl rfl rfl rfl ?_ ?_ ?_
  all_goals try refine amL ?_
  all_goals try exact amT
 ·intro i hi
  (try refine am ?_);(try exact amT)
  repeat' with_reducible first|apply zA|intro _
  all_goals try exact amA
  ·refine FinK.val1 ?_ ?_
   all_goals try refine amF ?_
   all_goals try exact amT
   rename_i h2
   exact(decide_eq_false (fun e=>h2 (by rw[e]))).symm
  ·rename_i h2
   refine⟨i+1,?_,⟨by omega,fun j hj=>?_⟩,by omega⟩
   ·refine Le.of [] [] rfl rfl rfl rfl ?_ ?_ ?_
    all_goals try refine amL ?_
    all_goals try exact amT
   ·by_cases h3:j=i
    ·rw[h3];exact h2
    ·exact hi.2 j (by omega)
  ·refine FinK.val1 ?_ ?_
   all_goals try refine amF ?_
   all_goals try exact amT
   exact(decide_eq_true (getD_ext hlen (fun j hj=>hi.2 j (by omega)))).symm
theorem equalFuncInts (l m:List (List (Int))) (u u' v v':Bool) (nl ml:Option Bool) (f:FuncId) (g:Nat→AV) (hl:l.length≤2^47) (hf:∀x∈l,∀y,ACalls Tryz.prog f [.one (aI v x),.one (aI v' y)] (fun r=>r=.val (.one (.bool (decide (x=y)))))):ACalls Tryz.prog 226 [.one (.sl u nl 1 l.length (fL v l)),.one (.sl u' ml 1 m.length (fL v' m)),.one (.fn (.func f) 0 g)] (fun r=>r=.val (.one (.bool (decide (l=m))))):=by
 have nt:Tryz.f226.ntmps=32:=rfl
 have rs:Tryz.f226.results=#[.tmp 6]:=rfl
 refine ACalls.of_run (m:=400) mixed Tryz.func226 rfl rfl (Nat.le_of_ble_eq_true rfl) ?_
 simp only[nt,rs]
 clear nt rs
 (try refine am ?_);(try exact amT)
 refine⟨fun h=>?_,fun hlen=>?_⟩
 ·refine FinK.val1 ?_ ?_
  all_goals try refine amF ?_
  all_goals try exact amT
  exact(decide_eq_false (fun e=>h (by rw[e]))).symm
 refine LoopK.auto (Nat) (fun i=>[(17,.one (.av (.int .i64 i)))]) (fun i=>[]) [1,2,15,16] (k0:=?k03) (keepH:=?kh3) 400 (fun i=>i≤l.length∧∀j,j<i→l.getD j []=m.getD j []) (fun i=>l.length - i) (0) ?kea3 ?keb3 ?_ ?_ ?_
 case kea3=>exact amN
 case keb3=>exact amN
 ·exact⟨Nat.zero_le _,fun j hj=>by omega⟩
 ·refine Le.of [] [] rfl rfl rfl rfl ?_ ?_ ?_
  all_goals try refine amL ?_
  all_goals try exact amT
 ·intro i hi
  (try refine am ?_);(try exact amT)
  repeat' with_reducible first|apply zA|intro _
  all_goals try exact amA
  ·have hlt:i<l.length:=by assumption
   refine CallK.one (hf (l.getD i []) (getD_mem hlt) (m.getD i [])) (fun _=>amC) ?_
   (try refine am ?_);(try exact amT)
   repeat' with_reducible first|apply zA|intro _
   all_goals try exact amA
   ·refine FinK.val1 ?_ ?_
    all_goals try refine amF ?_
    all_goals try exact amT
    rename_i h2
    exact(decide_eq_false (fun e=>h2 (by rw[e]))).symm
   ·rename_i h2
    refine⟨i+1,?_,⟨by omega,fun j hj=>?_⟩,by omega⟩
    ·refine Le.of [] [] rfl rfl rfl rfl ?_ ?_ ?_
     all_goals try refine amL ?_
     all_goals try exact amT
    ·by_cases h3:j=i
     ·rw[h3];exact h2
     ·exact hi.2 j (by omega)
  ·refine FinK.val1 ?_ ?_
   all_goals try refine amF ?_
   all_goals try exact amT
   exact(decide_eq_true (getD_ext hlen (fun j hj=>hi.2 j (by omega)))).symm
theorem equalFuncNode (l m:List (DNode)) (u u' v v':Bool) (nl ml:Option Bool) (f:FuncId) (g:Nat→AV) (hl:l.length≤2^47) (hf:∀x∈l,∀y,ACalls Tryz.prog f [.agg (cNode false v x),.agg (cNode false v' y)] (fun r=>r=.val (.one (.bool (decide (x=y)))))):ACalls Tryz.prog 188 [.one (.sl u nl 12 l.length (fNode v l)),.one (.sl u' ml 12 m.length (fNode v' m)),.one (.fn (.func f) 0 g)] (fun r=>r=.val (.one (.bool (decide (l=m))))):=by
 have nt:Tryz.f188.ntmps=32:=rfl
 have rs:Tryz.f188.results=#[.tmp 6]:=rfl
 refine ACalls.of_run (m:=400) mixed Tryz.func188 rfl rfl (Nat.le_of_ble_eq_true rfl) ?_
 simp only[nt,rs]
 clear nt rs
 (try refine am ?_);(try exact amT)
 refine⟨fun h=>?_,fun hlen=>?_⟩
 ·refine FinK.val1 ?_ ?_
  all_goals try refine amF ?_
  all_goals try exact amT
  exact(decide_eq_false (fun e=>h (by rw[e]))).symm
 refine LoopK.auto (Nat) (fun i=>[(17,.one (.av (.int .i64 i)))]) (fun i=>[]) [1,2,15,16] (k0:=?k04) (keepH:=?kh4) 400 (fun i=>i≤l.length∧∀j,j<i→l.getD j default=m.getD j default) (fun i=>l.length - i) (0) ?kea4 ?keb4 ?_ ?_ ?_
 case kea4=>exact amN
 case keb4=>exact amN
 ·exact⟨Nat.zero_le _,fun j hj=>by omega⟩
 ·refine Le.of [] [] rfl rfl rfl rfl ?_ ?_ ?_
  all_goals try refine amL ?_
  all_goals try exact amT
 ·intro i hi
  (try refine am ?_);(try exact amT)
  repeat' with_reducible first|apply zA|intro _
  all_goals try exact amA
  ·have hlt:i<l.length:=by assumption
   refine CallK.one (hf (l.getD i default) (getD_mem hlt) (m.getD i default)) (fun _=>amC) ?_
   (try refine am ?_);(try exact amT)
   repeat' with_reducible first|apply zA|intro _
   all_goals try exact amA
   ·refine FinK.val1 ?_ ?_
    all_goals try refine amF ?_
    all_goals try exact amT
    rename_i h2
    exact(decide_eq_false (fun e=>h2 (by rw[e]))).symm
   ·rename_i h2
    refine⟨i+1,?_,⟨by omega,fun j hj=>?_⟩,by omega⟩
    ·refine Le.of [] [] rfl rfl rfl rfl ?_ ?_ ?_
     all_goals try refine amL ?_
     all_goals try exact amT
    ·by_cases h3:j=i
     ·rw[h3];exact h2
     ·exact hi.2 j (by omega)
  ·refine FinK.val1 ?_ ?_
   all_goals try refine amF ?_
   all_goals try exact amT
   exact(decide_eq_true (getD_ext hlen (fun j hj=>hi.2 j (by omega)))).symm
theorem sameLists1 (x y:List Int) (u u':Bool) (nl ml:Option Bool) (h:x.length≤2^47):ACalls Tryz.prog 227 [.one (.sl u nl 1 x.length (fI x)),.one (.sl u' ml 1 y.length (fI y))] (fun r=>r=.val (.one (.bool (decide (x=y))))):=by
 have nt:Tryz.f227.ntmps=8:=rfl
 have rs:Tryz.f227.results=#[.tmp 4]:=rfl
 refine ACalls.of_run (m:=400) mixed Tryz.func227 rfl rfl (Nat.le_of_ble_eq_true rfl) ?_
 simp only[nt,rs]
 clear nt rs
 (try refine am ?_);(try exact amT)
 refine CallK.one (equalInts x y _ _ _ _ h) (fun _=>amC) ?_
 (try refine am ?_);(try exact amT)
 refine FinK.val1 ?_ ?_
 all_goals try refine amF ?_
 all_goals try exact amT
theorem sameLists (l m:List (List Int)) (u u' v v':Bool) (nl ml:Option Bool) (h:okL (2^47) l):ACalls Tryz.prog 215 [.one (.sl u nl 1 l.length (fL v l)),.one (.sl u' ml 1 m.length (fL v' m))] (fun r=>r=.val (.one (.bool (decide (l=m))))):=by
 have nt:Tryz.f215.ntmps=8:=rfl
 have rs:Tryz.f215.results=#[.tmp 4]:=rfl
 refine ACalls.of_run (m:=400) mixed Tryz.func215 rfl rfl (Nat.le_of_ble_eq_true rfl) ?_
 simp only[nt,rs]
 clear nt rs
 (try refine am ?_);(try exact amT)
 refine CallK.one (equalFuncInts l m _ _ _ _ _ _ _ _ h.1 (fun x hx y=>sameLists1 x y _ _ _ _ (h.2 x hx).1)) (fun _=>amC) ?_
 (try refine am ?_);(try exact amT)
 refine FinK.val1 ?_ ?_
 all_goals try refine amF ?_
 all_goals try exact amT
theorem implStatsSame (x y:DStats) (u v u' v':Bool) (h:okStats (2^47) x):ACalls Tryz.prog 203 [.agg (cStats u v x),.agg (cStats u' v' y)] (fun r=>r=.val (.one (.bool (decide (x=y))))):=by
 obtain⟨x0,x1⟩:=x
 obtain⟨y0,y1⟩:=y
 have nt:Tryz.f203.ntmps=17:=rfl
 have rs:Tryz.f203.results=#[.tmp 4]:=rfl
 refine ACalls.of_run (m:=400) mixed Tryz.func203 rfl rfl (Nat.le_of_ble_eq_true rfl) ?_
 simp only[nt,rs]
 clear nt rs
 (try refine am ?_);(try exact amT)
 refine CallK.one (equalInts x0 y0 _ _ _ _ h.1.1) (fun _=>amC) ?_
 (try refine am ?_);(try exact amT)
 repeat' with_reducible first|apply zA|intro _
 all_goals try exact amA
 refine CallG.one rfl (fun hg=>sameLists x1 y1 _ _ _ _ _ _ h.2) ?_
 (try refine am ?_);(try exact amT)
 repeat' with_reducible first|apply zA|intro _
 all_goals try exact amA
 refine FinK.val1 ?_ ?_
 all_goals try refine amF ?_
 all_goals try exact amT
 (first|rfl|(simp_all;done)|(simp_all [Bool.and_assoc];done)|(simp_all [Bool.and_comm];done))
theorem implNodeSame (x y:DNode) (u v u' v':Bool) (h:okNode (2^47) x):ACalls Tryz.prog 189 [.agg (cNode u v x),.agg (cNode u' v' y)] (fun r=>r=.val (.one (.bool (decide (x=y))))):=by
 obtain⟨x0,⟨x1,x1'⟩,x2,x3,x4,x5,x6,x7,x8,x9⟩:=x
 obtain⟨y0,⟨y1,y1'⟩,y2,y3,y4,y5,y6,y7,y8,y9⟩:=y
 have nt:Tryz.f189.ntmps=73:=rfl
 have rs:Tryz.f189.results=#[.tmp 4]:=rfl
 refine ACalls.of_run (m:=400) mixed Tryz.func189 rfl rfl (Nat.le_of_ble_eq_true rfl) ?_
 simp only[nt,rs]
 clear nt rs
 (try refine am ?_);(try exact amT)
 repeat' with_reducible first|apply zA|intro _
 all_goals try exact amA
 refine CallG.one rfl (fun hg=>equalInts x2 y2 _ _ _ _ h.2.2.1.1) ?_
 (try refine am ?_);(try exact amT)
 repeat' with_reducible first|apply zA|intro _
 all_goals try exact amA
 refine CallG.one rfl (fun hg=>implStatsSame x4 y4 _ _ _ _ h.2.2.2.2.1) ?_
 (try refine am ?_);(try exact amT)
 repeat' with_reducible first|apply zA|intro _
 all_goals try exact amA
 refine CallG.one rfl (fun hg=>equalInts x6 y6 _ _ _ _ h.2.2.2.2.2.2.1.1) ?_
 (try refine am ?_);(try exact amT)
 repeat' with_reducible first|apply zA|intro _
 all_goals try exact amA
 refine FinK.val1 ?_ ?_
 all_goals try refine amF ?_
 all_goals try exact amT
 (first|rfl|(simp_all;done)|(simp_all [Bool.and_assoc];done)|(simp_all [Bool.and_comm];done))
end Go.AM
namespace Go.AM
set_option maxHeartbeats 64000000
open Go Go.Proofs
set_option maxRecDepth 100000
theorem implTreeSame (x y:DTree) (u v u' v':Bool) (h:okTree (2^47) x):ACalls Tryz.prog 168 [.agg (cTree u v x),.agg (cTree u' v' y)] (fun r=>r=.val (.one (.bool (decide (x=y))))):=by
 obtain⟨x0,x1⟩:=x
 obtain⟨y0,y1⟩:=y
 have nt:Tryz.f168.ntmps=17:=rfl
 have rs:Tryz.f168.results=#[.tmp 4]:=rfl
 refine ACalls.of_run (m:=400) mixed Tryz.func168 rfl rfl (Nat.le_of_ble_eq_true rfl) ?_
 simp only[nt,rs]
 clear nt rs
 (try refine am ?_);(try exact amT)
 repeat' with_reducible first|apply zA|intro _
 all_goals try exact amA
 refine CallG.one rfl (fun hg=>equalFuncNode x0 y0 _ _ _ _ _ _ _ _ h.1.1 (fun a ha b=>implNodeSame a b _ _ _ _ (h.1.2 a ha))) ?_
 (try refine am ?_);(try exact amT)
 repeat' with_reducible first|apply zA|intro _
 all_goals try exact amA
 refine FinK.val1 ?_ ?_
 all_goals try refine amF ?_
 all_goals try exact amT
 simp_all [Bool.and_comm]
end Go.AM
