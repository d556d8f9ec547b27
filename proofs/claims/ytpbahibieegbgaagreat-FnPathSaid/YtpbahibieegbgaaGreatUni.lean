/- Lemmas for the proof of this claim. -/
import Derived.Test.YtpbahibieegbgaaGreatFam
namespace Go.AM
set_option maxHeartbeats 64000000
open Go Go.Proofs
set_option maxRecDepth 100000
def units (x:DNode):Nat:=if x.leaf=true then 2+sm List.length x.stats.cells else 1
theorem units_le (x:DNode):units x≤2+zNode x:=by
 unfold units zNode zStats szW tot
 split<;>omega
theorem implUnitsOf (x:DNode) (u v:Bool) (h:okNode (2^47) x) (hz:zNode x≤2^40):ACalls Tryz.prog 57 [.agg (cNode u v x)] (fun r=>r=.val (.one (.int .i64 (units x)))):=by
 have hc:sm List.length x.stats.cells≤2^40:=by unfold zNode zStats szW tot at hz;omega
 have hl:=h.2.2.2.2.1.2.1
 have nt:Tryz.f57.ntmps=23:=rfl
 have rs:Tryz.f57.results=#[.tmp 2]:=rfl
 refine ACalls.of_run (m:=400) mixed Tryz.func57 rfl rfl (Nat.le_of_ble_eq_true rfl) ?_
 simp only[nt,rs]
 clear nt rs
 (try refine am ?_);(try exact amT)
 repeat' with_reducible first|apply zA|intro _
 all_goals try exact amA
 ·refine FinK.val1 ?_ ?_
  all_goals try refine amF ?_
  all_goals try exact amT
  rename_i h2
  simp[units,h2]
 refine LoopK.auto (Nat) (fun i=>[(3,.one (.av (.int .i64 (2+sm List.length (x.stats.cells.take i):Nat)))),(13,.one (.av (.int .i64 i)))]) (fun i=>[]) [11,12] (k0:=?k01) (keepH:=?kh1) 400 (fun i=>i≤x.stats.cells.length) (fun i=>x.stats.cells.length - i) (0) ?kea1 ?keb1 ?_ ?_ ?_
 case kea1=>exact amN
 case keb1=>exact amN
 ·exact Nat.zero_le _
 ·refine Le.of [] [] rfl rfl rfl rfl ?_ ?_ ?_
  all_goals try refine amL ?_
  all_goals try exact amT
  simp[sm]
 ·intro i hi
  (try refine am ?_);(try exact amT)
  have ht2:=sm_le (f:=List.length) (l:=x.stats.cells) (i:=i+1)
  have ht3:=sm_le (f:=List.length) (l:=x.stats.cells) (i:=i)
  repeat' with_reducible first|apply zA|intro _
  all_goals try exact amA
  ·have ht:=sm_take (f:=List.length) (d:=[]) (by assumption:i<x.stats.cells.length)
   omega
  ·have ht:=sm_take (f:=List.length) (d:=[]) (by assumption:i<x.stats.cells.length)
   refine⟨i+1,?_,by omega,by omega⟩
   refine Le.of [] [] rfl rfl rfl rfl ?_ ?_ ?_
   all_goals try refine amL ?_
   all_goals try exact amT
   omega
  ·refine FinK.val1 ?_ ?_
   all_goals try refine amF ?_
   all_goals try exact amT
   have:i=x.stats.cells.length:=by omega
   subst this
   rename_i h2 _
   simp[units,h2]
theorem specUnitsOf (x:DNode) (u v:Bool) (h:okNode (2^47) x) (hz:zNode x≤2^40):ACalls Tryz.prog 100 [.agg (cNode u v x)] (fun r=>r=.val (.one (.int .i64 (units x)))):=by
 have hc:sm List.length x.stats.cells≤2^40:=by unfold zNode zStats szW tot at hz;omega
 have hl:=h.2.2.2.2.1.2.1
 have nt:Tryz.f100.ntmps=26:=rfl
 have rs:Tryz.f100.results=#[.tmp 2]:=rfl
 refine ACalls.of_run (m:=400) mixed Tryz.func100 rfl rfl (Nat.le_of_ble_eq_true rfl) ?_
 simp only[nt,rs]
 clear nt rs
 (try refine am ?_);(try exact amT)
 repeat' with_reducible first|apply zA|intro _
 all_goals try exact amA
 ·refine FinK.val1 ?_ ?_
  all_goals try refine amF ?_
  all_goals try exact amT
  rename_i h2
  simp[units,h2]
 refine LoopK.intro (Nat) (fun i=>[(3,.one (.av (.int .i64 (2+sm List.length (x.stats.cells.take i):Nat)))),(4,.one (.av (.int .i64 i)))]) (fun i=>[]) [1] [1] 400 (fun i=>i≤x.stats.cells.length) (fun i=>x.stats.cells.length - i) (0) ?_ ?_ ?_
 ·exact Nat.zero_le _
 ·refine Le.of [(1,1)] [] rfl rfl rfl rfl ?_ ?_ ?_
  all_goals try refine amL ?_
  all_goals try exact amT
  simp[sm]
 ·intro i hi
  (try refine am ?_);(try exact amT)
  have ht2:=sm_le (f:=List.length) (l:=x.stats.cells) (i:=i+1)
  have ht3:=sm_le (f:=List.length) (l:=x.stats.cells) (i:=i)
  repeat' with_reducible first|apply zA|intro _
  all_goals try exact amA
  ·have ht:=sm_take (f:=List.length) (d:=[]) (by assumption:i<x.stats.cells.length)
   omega
  ·have ht:=sm_take (f:=List.length) (d:=[]) (by assumption:i<x.stats.cells.length)
   refine⟨i+1,?_,by omega,by omega⟩
   refine Le.of [(1,1)] [] rfl rfl rfl rfl ?_ ?_ ?_
   all_goals try refine amL ?_
   all_goals try exact amT
   omega
  ·refine FinK.val1 ?_ ?_
   all_goals try refine amF ?_
   all_goals try exact amT
   have:i=x.stats.cells.length:=by omega
   subst this
   rename_i h2 _
   simp[units,h2]
end Go.AM
namespace Go.AM
set_option maxHeartbeats 64000000
open Go Go.Proofs
set_option maxRecDepth 100000
theorem smUnits_le {l:List DNode} {i:Nat}:sm units (l.take i)≤2*l.length+sm zNode l:=by
 have h1:sm units (l.take i)≤sm units l:=sm_le
 have h2:sm units l≤sm (fun x=>2+zNode x) l:=sm_mono units_le
 have h3:∀m:List DNode,sm (fun x=>2+zNode x) m=2*m.length+sm zNode m:=by
  intro m
  induction m with
  |nil=>rfl
  |cons r m ih=>simp only[sm,List.length_cons,ih];omega
 rw[h3] at h2
 omega
theorem zNode_mem {B:Nat} {l:List DNode} {i:Nat} (h:i<l.length) (hz:zNodeS l≤B):zNode (l.getD i default)≤B:=by
 have:=sm_mem (f:=zNode) (getD_mem (d:=default) h)
 unfold zNodeS at hz
 omega
theorem implTreeUnits (x:DTree) (u v:Bool) (h:okTree (2^47) x) (hz:zTree x≤2^40):ACalls Tryz.prog 15 [.agg (cTree u v x)] (fun r=>r=.val (.one (.int .i64 (sm units x.nodes:Nat)))):=by
 have hz2:zNodeS x.nodes≤2^40:=hz
 have hc:x.nodes.length+sm zNode x.nodes≤2^40:=hz
 have nt:Tryz.f15.ntmps=19:=rfl
 have rs:Tryz.f15.results=#[.tmp 2]:=rfl
 refine ACalls.of_run (m:=400) mixed Tryz.func15 rfl rfl (Nat.le_of_ble_eq_true rfl) ?_
 simp only[nt,rs]
 clear nt rs
 (try refine am ?_);(try exact amT)
 refine LoopK.auto (Nat) (fun i=>[(3,.one (.av (.int .i64 (sm units (x.nodes.take i):Nat)))),(9,.one (.av (.int .i64 i)))]) (fun i=>[]) [7,8] (k0:=?k01) (keepH:=?kh1) 400 (fun i=>i≤x.nodes.length) (fun i=>x.nodes.length - i) (0) ?kea1 ?keb1 ?_ ?_ ?_
 case kea1=>exact amN
 case keb1=>exact amN
 ·exact Nat.zero_le _
 ·refine Le.of [] [] rfl rfl rfl rfl ?_ ?_ ?_
  all_goals try refine amL ?_
  all_goals try exact amT
  rfl
 ·intro i hi
  (try refine am ?_);(try exact amT)
  have ht2:=smUnits_le (l:=x.nodes) (i:=i+1)
  have ht3:=smUnits_le (l:=x.nodes) (i:=i)
  repeat' with_reducible first|apply zA|intro _
  all_goals try exact amA
  ·have hlt:i<x.nodes.length:=by assumption
   have ht:=sm_take (f:=units) (d:=default) hlt
   refine CallK.one (implUnitsOf (x.nodes.getD i default) _ _ (h.1.2 _ (getD_mem hlt)) (zNode_mem hlt hz2)) (fun _=>amC) ?_
   (try refine am ?_);(try exact amT)
   repeat' with_reducible first|apply zA|intro _
   all_goals try exact amA
   refine⟨i+1,?_,by omega,by omega⟩
   refine Le.of [] [] rfl rfl rfl rfl ?_ ?_ ?_
   all_goals try refine amL ?_
   all_goals try exact amT
   omega
  ·refine FinK.val1 ?_ ?_
   all_goals try refine amF ?_
   all_goals try exact amT
   have:i=x.nodes.length:=by omega
   subst this
   simp
theorem specTreeUnits (x:DTree) (u v:Bool) (h:okTree (2^47) x) (hz:zTree x≤2^40):ACalls Tryz.prog 40 [.agg (cTree u v x)] (fun r=>r=.val (.one (.int .i64 (sm units x.nodes:Nat)))):=by
 have hz2:zNodeS x.nodes≤2^40:=hz
 have hc:x.nodes.length+sm zNode x.nodes≤2^40:=hz
 have nt:Tryz.f40.ntmps=21:=rfl
 have rs:Tryz.f40.results=#[.tmp 2]:=rfl
 refine ACalls.of_run (m:=400) mixed Tryz.func40 rfl rfl (Nat.le_of_ble_eq_true rfl) ?_
 simp only[nt,rs]
 clear nt rs
 (try refine am ?_);(try exact amT)
 refine LoopK.intro (Nat) (fun i=>[(3,.one (.av (.int .i64 (sm units (x.nodes.take i):Nat)))),(4,.one (.av (.int .i64 i)))]) (fun i=>[]) [1] [1] 400 (fun i=>i≤x.nodes.length) (fun i=>x.nodes.length - i) (0) ?_ ?_ ?_
 ·exact Nat.zero_le _
 ·refine Le.of [(1,1)] [] rfl rfl rfl rfl ?_ ?_ ?_
  all_goals try refine amL ?_
  all_goals try exact amT
  rfl
 ·intro i hi
  (try refine am ?_);(try exact amT)
  have ht2:=smUnits_le (l:=x.nodes) (i:=i+1)
  have ht3:=smUnits_le (l:=x.nodes) (i:=i)
  repeat' with_reducible first|apply zA|intro _
  all_goals try exact amA
  ·have hlt:i<x.nodes.length:=by assumption
   have ht:=sm_take (f:=units) (d:=default) hlt
   refine CallK.one (specUnitsOf (x.nodes.getD i default) _ _ (h.1.2 _ (getD_mem hlt)) (zNode_mem hlt hz2)) (fun _=>amC) ?_
   (try refine am ?_);(try exact amT)
   repeat' with_reducible first|apply zA|intro _
   all_goals try exact amA
   refine⟨i+1,?_,by omega,by omega⟩
   refine Le.of [(1,1)] [] rfl rfl rfl rfl ?_ ?_ ?_
   all_goals try refine amL ?_
   all_goals try exact amT
   omega
  ·refine FinK.val1 ?_ ?_
   all_goals try refine amF ?_
   all_goals try exact amT
   have:i=x.nodes.length:=by omega
   subst this
   simp
def depthUp (a:Int) (l:List DNode):Int:=l.foldl (fun m n=>if n.depth>m then n.depth else m) a
def depthOf (x:DTree):Int:=depthUp (x.nodes.getD 0 default).depth x.nodes
theorem depthUp_take {a:Int} {l:List DNode} {i:Nat} (h:i<l.length):depthUp a (l.take (i+1))=if (l.getD i default).depth>depthUp a (l.take i) then (l.getD i default).depth else depthUp a (l.take i):=
 foldl_take (f:=fun (m:Int) (n:DNode)=>if n.depth>m then n.depth else m) (d:=default) h
theorem implDepthOf (x:DTree) (u v:Bool) (h:okTree (2^47) x):ACalls Tryz.prog 31 [.agg (cTree u v x)] (fun r=>r=.val (.one (.int .i64 (depthOf x)))):=by
 have hl:=h.1.1
 have nt:Tryz.f31.ntmps=28:=rfl
 have rs:Tryz.f31.results=#[.tmp 2]:=rfl
 refine ACalls.of_run (m:=400) mixed Tryz.func31 rfl rfl (Nat.le_of_ble_eq_true rfl) ?_
 simp only[nt,rs]
 clear nt rs
 (try refine am ?_);(try exact amT)
 repeat' with_reducible first|apply zA|intro _
 all_goals try exact amA
 ·refine FinK.val1 ?_ ?_
  all_goals try refine amF ?_
  all_goals try exact amT
  rename_i h2
  have:x.nodes=[]:=List.length_eq_zero_iff.1 (by omega)
  simp[depthOf,this,depthUp]
  rfl
 refine LoopK.auto (Nat) (fun i=>[(3,.one (.av (.int .i64 (depthUp (x.nodes.getD 0 default).depth (x.nodes.take i))))),(18,.one (.av (.int .i64 i)))]) (fun i=>[]) [16,17] (k0:=?k02) (keepH:=?kh2) 400 (fun i=>i≤x.nodes.length) (fun i=>x.nodes.length - i) (0) ?kea2 ?keb2 ?_ ?_ ?_
 case kea2=>exact amN
 case keb2=>exact amN
 ·exact Nat.zero_le _
 ·refine Le.of [] [] rfl rfl rfl rfl ?_ ?_ ?_
  all_goals try refine amL ?_
  all_goals try exact amT
  rfl
 ·intro i hi
  (try refine am ?_);(try exact amT)
  repeat' with_reducible first|apply zA|intro _
  all_goals try exact amA
  ·have hlt:i<x.nodes.length:=by assumption
   refine⟨i+1,?_,by omega,by omega⟩
   refine Le.of [] [] rfl rfl rfl rfl ?_ ?_ ?_
   all_goals try refine amL ?_
   all_goals try exact amT
   exact(depthUp_take hlt).symm
  ·refine FinK.val1 ?_ ?_
   all_goals try refine amF ?_
   all_goals try exact amT
   have:i=x.nodes.length:=by omega
   subst this
   simp[depthOf]
def depS (x:DTree) (i:Nat):Int:=if i=0 then 0 else depthUp (x.nodes.getD 0 default).depth (x.nodes.take i)
theorem depS_succ {x:DTree} {i:Nat} (h:i<x.nodes.length):depS x (i+1)=if (i:Int)=0∨depS x i<(x.nodes.getD i default).depth then (x.nodes.getD i default).depth else depS x i:=by
 have e:depS x (i+1)=depthUp (x.nodes.getD 0 default).depth (x.nodes.take (i+1)):=if_neg (by omega)
 rw[e,depthUp_take h]
 by_cases h0:i=0
 ·subst h0
  simp[depthUp]
 ·have e2:depS x i=depthUp (x.nodes.getD 0 default).depth (x.nodes.take i):=if_neg h0
  rw[e2]
  have:¬(i:Int)=0:=by omega
  simp only[this,false_or,gt_iff_lt]
theorem depS_end {x:DTree}:depS x x.nodes.length=depthOf x:=by
 unfold depS
 by_cases h0:x.nodes.length=0
 ·rw[if_pos h0]
  have:x.nodes=[]:=List.length_eq_zero_iff.1 h0
  simp[depthOf,this,depthUp]
  rfl
 ·rw[if_neg h0]
  simp[depthOf]
theorem specDepthOf (x:DTree) (u v:Bool) (h:okTree (2^47) x):ACalls Tryz.prog 170 [.agg (cTree u v x)] (fun r=>r=.val (.one (.int .i64 (depthOf x)))):=by
 have hl:=h.1.1
 have nt:Tryz.f170.ntmps=31:=rfl
 have rs:Tryz.f170.results=#[.tmp 2]:=rfl
 refine ACalls.of_run (m:=400) mixed Tryz.func170 rfl rfl (Nat.le_of_ble_eq_true rfl) ?_
 simp only[nt,rs]
 clear nt rs
 (try refine am ?_);(try exact amT)
 refine LoopK.intro (Nat) (fun i=>[(3,.one (.av (.int .i64 (depS x i)))),(4,.one (.av (.int .i64 i)))]) (fun i=>[]) [1] [1] 400 (fun i=>i≤x.nodes.length) (fun i=>x.nodes.length - i) (0) ?_ ?_ ?_
 ·exact Nat.zero_le _
 ·refine Le.of [(1,1)] [] rfl rfl rfl rfl ?_ ?_ ?_
  all_goals try refine amL ?_
  all_goals try exact amT
  rfl
 ·intro i hi
  (try refine am ?_);(try exact amT)
  repeat' with_reducible first|apply zA|intro _
  all_goals try exact amA
  ·have hlt:i<x.nodes.length:=by assumption
   refine⟨i+1,?_,by omega,by omega⟩
   refine Le.of [(1,1)] [] rfl rfl rfl rfl ?_ ?_ ?_
   all_goals try refine amL ?_
   all_goals try exact amT
   rw[depS_succ hlt,if_pos (by assumption)]
  ·have hlt:i<x.nodes.length:=by assumption
   refine⟨i+1,?_,by omega,by omega⟩
   refine Le.of [(1,1)] [] rfl rfl rfl rfl ?_ ?_ ?_
   all_goals try refine amL ?_
   all_goals try exact amT
   rw[depS_succ hlt,if_neg (by assumption)]
  ·refine FinK.val1 ?_ ?_
   all_goals try refine amF ?_
   all_goals try exact amT
   have:i=x.nodes.length:=by omega
   rw[this,depS_end]
end Go.AM
