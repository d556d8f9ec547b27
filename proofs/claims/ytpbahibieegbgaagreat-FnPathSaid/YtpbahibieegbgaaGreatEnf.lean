/- Lemmas for the proof of this claim. -/
import Derived.Test.YtpbahibieegbgaaGreatTr2
import Derived.Test.YtpbahibieegbgaaGreatCln
namespace Go.AM
set_option maxHeartbeats 64000000
open Go Go.Proofs
set_option maxRecDepth 100000
theorem sm_set {α:Type} [Inhabited α] {f:α→Nat}:∀{l:List α} {i:Nat} {x:α},i<l.length→sm f (l.set i x)+f (l.getD i default)=sm f l+f x
 |[],i,x,h=>absurd h (Nat.not_lt_zero _)
 |r::l,0,x,_=>by show f x+sm f l+f r=f r+sm f l+f x;omega
 |r::l,i+1,x,h=>by
  have:=sm_set (f:=f) (l:=l) (i:=i) (x:=x) (Nat.lt_of_succ_lt_succ h)
  show f r+sm f (l.set i x)+f (l.getD i default)=f r+sm f l+f x
  omega
theorem ixs_off {p:DNode→Bool} {l:List DNode} {j:Nat} {x:DNode} (hj:j<l.length) (h1:p (l.getD j default)=true) (h2:p x=false):∀n,(ixs p (l.set j x) n).length+(if j<n then 1 else 0)=(ixs p l n).length
 |0=>rfl
 |n+1=>by
  have ih:=ixs_off hj h1 h2 n
  rw[ixs_succ,ixs_succ]
  by_cases e:j=n
  ·subst e
   rw[getD_set_eq hj,h2,if_neg Bool.false_ne_true,h1,if_pos rfl,List.length_append,if_pos (Nat.lt_succ_self _)]
   rw[if_neg (Nat.lt_irrefl _)] at ih
   show _+1=_+1
   omega
  ·rw[getD_set_ne e]
   have e2:(if j<n+1 then 1 else 0)=(if j<n then 1 else 0):=by
    by_cases e3:j<n
    ·rw[if_pos e3,if_pos (by omega)]
    ·rw[if_neg e3,if_neg (by omega)]
   rw[e2]
   split
   ·rw[List.length_append,List.length_append];omega
   ·exact ih
theorem poorS_mem {s:DSchema} {t:DTree} {l:List Int}:∀{n:Nat},n≤l.length→0≤poorS s t l n→∃i,i<l.length∧poorS s t l n=l.getD i 0
 |0,_,h=>absurd h (by show ¬(0:Int)≤ -1;decide)
 |n+1,hn,h=>by
  rw[poorS_succ] at h ⊢
  by_cases hc:poorS s t l n<0∨prm s t (l.getD n 0)<prm s t (poorS s t l n)
  ·exact⟨n,by omega,if_pos hc⟩
  ·rw[if_neg hc] at h ⊢
   exact poorS_mem (by omega) h
theorem poorest_act {s:DSchema} {t:DTree} (h:0≤poorest s t):∃j:Nat,poorest s t=j∧j<t.nodes.length∧actB (t.nodes.getD j default)=true:=by
 by_cases hs:treeOk s t
 ·have e:poorest s t=poorS s t (activeL t) (activeL t).length:=if_pos hs
  rw[e] at h ⊢
  obtain⟨i,hi,e2⟩:=poorS_mem (Nat.le_refl _) h
  rw[e2]
  exact ixs_mem (getD_mem (d:=0) hi)
 ·have e:poorest s t= -1:=if_neg hs
  omega
def thinNode (x:DNode):DNode:={ x with stats:=thin x.stats,since:=0}
def enfT (t:DTree) (i:Nat):DTree:=⟨t.nodes.set i (thinNode (t.nodes.getD i default)),t.seen⟩
theorem thin_off (x:DNode):actB (thinNode x)=false:=by
 show (x.leaf&&decide (0<([]:List (List Int)).length))=false
 have:decide (0<([]:List (List Int)).length)=false:=rfl
 rw[this,Bool.and_false]
theorem enf_dec {t:DTree} {j:Nat} (hj:j<t.nodes.length) (ha:actB (t.nodes.getD j default)=true):(activeL (enfT t j)).length+1=(activeL t).length:=by
 have:=ixs_off hj ha (thin_off (t.nodes.getD j default)) t.nodes.length
 rw[if_pos hj] at this
 show (ixs actB (t.nodes.set j _) (t.nodes.set j _).length).length+1=_
 rw[List.length_set]
 exact this
theorem thinNode_ok {B:Nat} {x:DNode} (h:okNode B x):okNode B (thinNode x):=
 ⟨h.1,h.2.1,h.2.2.1,h.2.2.2.1,⟨h.2.2.2.2.1.1,Nat.zero_le _,fun x hx=>nomatch hx⟩,inK_bd (by show (_:Int)≤0∧(0:Int)≤_;omega),h.2.2.2.2.2.2⟩
theorem enf_ok {B:Nat} {t:DTree} {j:Nat} (hj:j<t.nodes.length) (h:okTree B t):okTree B (enfT t j):=by
 refine⟨⟨by show (t.nodes.set j _).length≤B;rw[List.length_set];exact h.1.1,fun x hx=>?_⟩,h.2⟩
 rcases List.mem_or_eq_of_mem_set hx with hx|rfl
 ·exact h.1.2 x hx
 ·exact thinNode_ok (h.1.2 _ (getD_mem hj))
theorem thin_z (x:DNode):zNode (thinNode x)≤zNode x:=by
 unfold zNode thinNode thin zStats szW tot
 simp only[sm,List.length_nil]
 omega
theorem thin_n (x:DNode):nNode (thinNode x)≤nNode x:=by
 unfold nNode thinNode thin tot
 simp only[sm]
 omega
theorem enf_z {t:DTree} {j:Nat} (hj:j<t.nodes.length):zTree (enfT t j)≤zTree t:=by
 have h1:=sm_set (f:=zNode) (x:=thinNode (t.nodes.getD j default)) hj
 have h2:=thin_z (t.nodes.getD j default)
 show (t.nodes.set j _).length+sm zNode (t.nodes.set j _)≤t.nodes.length+sm zNode t.nodes
 rw[List.length_set]
 omega
theorem enf_n {t:DTree} {j:Nat} (hj:j<t.nodes.length):sm nNode (enfT t j).nodes≤sm nNode t.nodes:=by
 have h1:=sm_set (f:=nNode) (x:=thinNode (t.nodes.getD j default)) hj
 have h2:=thin_n (t.nodes.getD j default)
 show sm nNode (t.nodes.set j _)≤sm nNode t.nodes
 omega
def enfC (s:DSchema) (b:Int) (t:DTree):Bool:=decide (b<(sm units t.nodes:Nat))&&decide (0≤poorest s t)
def enfGo (s:DSchema) (b:Int):Nat→DTree→List Int→DTree×List Int
 |0,t,l=>(t,l)
 |n+1,t,l=>bif enfC s b t then enfGo s b n (enfT t (poorest s t).toNat) (l++[poorest s t]) else (t,l)
def enforce (s:DSchema) (t:DTree) (b:Int):DTree×List Int:=if treeOk s t then enfGo s b (activeL t).length t [] else (t,[])
theorem enfGo_end {s:DSchema} {b:Int} {n:Nat} {t:DTree} {l:List Int} (h:enfC s b t=false):enfGo s b n t l=(t,l):=by
 cases n with
 |zero=>rfl
 |succ n=>unfold enfGo;rw[h];rfl
structure EnfInv (s:DSchema) (b:Int) (t0:DTree) (p:DTree×List Int):Prop where
 ok:okTree (2^40) p.1
 z:zTree p.1≤2^40
 len:p.2.length+(activeL p.1).length=(activeL t0).length
 eq:enfGo s b (activeL p.1).length p.1 p.2=enfGo s b (activeL t0).length t0 []
 n:sm nNode p.1.nodes≤sm nNode t0.nodes
 k:∀x∈p.2,inK .i64 x
 c:p.1.nodes.length=t0.nodes.length
theorem EnfInv.start {s:DSchema} {b:Int} {t:DTree} (h:okTree (2^40) t) (hz:zTree t≤2^40):EnfInv s b t (t,[]):=
 ⟨h,hz,Nat.zero_add _,rfl,Nat.le_refl _,fun _ hx=>(nomatch hx),rfl⟩
theorem EnfInv.step {s:DSchema} {b:Int} {t0:DTree} {p:DTree×List Int} (h:EnfInv s b t0 p) (hc:enfC s b p.1=true):
 EnfInv s b t0 (enfT p.1 (poorest s p.1).toNat,p.2++[poorest s p.1])∧(activeL (enfT p.1 (poorest s p.1).toNat)).length<(activeL p.1).length∧(poorest s p.1).toNat<p.1.nodes.length:=by
 have hp:0≤poorest s p.1:=by
  unfold enfC at hc
  rw[Bool.and_eq_true] at hc
  exact of_decide_eq_true hc.2
 obtain⟨j,e,hj,ha⟩:=poorest_act hp
 have ej:(poorest s p.1).toNat=j:=by rw[e];rfl
 have hd:=enf_dec hj ha
 have hl:=h.ok.1.1
 rw[ej]
 refine⟨⟨enf_ok hj h.ok,Nat.le_trans (enf_z hj) h.z,?_,?_,Nat.le_trans (enf_n hj) h.n,fun x hx=>?_,?_⟩,by omega,hj⟩
 ·have:=h.len
  show (p.2++[poorest s p.1]).length+(activeL (enfT p.1 j)).length=_
  rw[List.length_append]
  show p.2.length+1+(activeL (enfT p.1 j)).length=_
  omega
 ·rw[←h.eq,←hd]
  have:enfGo s b ((activeL (enfT p.1 j)).length+1) p.1 p.2=bif enfC s b p.1 then enfGo s b (activeL (enfT p.1 j)).length (enfT p.1 (poorest s p.1).toNat) (p.2++[poorest s p.1]) else (p.1,p.2):=rfl
  rw[this,hc,ej]
  rfl
 ·rcases List.mem_append.1 hx with hx|hx
  ·exact h.k x hx
  ·rw[List.mem_singleton.1 hx,e]
   exact inK_bd (by omega)
 ·show (p.1.nodes.set j _).length=_
  rw[List.length_set];exact h.c
theorem boxLe2 {nl:Option Bool} {F G:Nat→Nat→AV} (h0:ALe (F 0 0) (G 0 0)) (h1:ALe (F 0 1) (G 0 1)):ALe (.sl true nl 2 1 F) (.sl true none 2 1 G):=by
 refine ALe.of (.inl rfl) rfl (fun i hi j hj=>?_)
 have hj':j=0∨j=1:=by omega
 obtain rfl:i=0:=by omega
 rcases hj' with rfl|rfl
 ·exact h0
 ·exact h1
theorem nil1 {nl:Option Bool} {F G:Nat→Nat→AV}:ALe (.sl true nl 1 0 F) (.sl true none 1 0 G):=ALe.of (.inl rfl) rfl (fun _ hi=>absurd hi (Nat.not_lt_zero _))
theorem EnfInv.done {s:DSchema} {b:Int} {t0:DTree} {p:DTree×List Int} (h:EnfInv s b t0 p) (ht:treeOk s t0) (hc:enfC s b p.1=false):enforce s t0 b=p:=by
 have e:enforce s t0 b=enfGo s b (activeL t0).length t0 []:=if_pos ht
 rw[e,←h.eq,enfGo_end hc]
theorem EnfInv.go {s:DSchema} {b:Int} {t0:DTree}:∀(n:Nat) {p:DTree×List Int},EnfInv s b t0 p→(activeL p.1).length=n→EnfInv s b t0 (enfGo s b n p.1 p.2)
 |0,p,h,_=>h
 |n+1,p,h,e=>by
  unfold enfGo
  cases hc:enfC s b p.1 with
  |false=>exact h
  |true=>
   obtain⟨h1,h2,h3⟩:=h.step hc
   refine EnfInv.go n h1 ?_
   have hd:(p.2++[poorest s p.1]).length+(activeL (enfT p.1 (poorest s p.1).toNat)).length=_:=h1.len
   have hl:=h.len
   rw[List.length_append] at hd
   have:([poorest s p.1]:List Int).length=1:=rfl
   show (activeL (enfT p.1 (poorest s p.1).toNat)).length=n
   omega
theorem enforce_ok {s:DSchema} {t:DTree} {b:Int} (h:okTree (2^40) t) (hz:zTree t≤2^40):okTree (2^40) (enforce s t b).1∧sm nNode (enforce s t b).1.nodes≤sm nNode t.nodes∧(enforce s t b).2.length≤t.nodes.length∧∀x∈(enforce s t b).2,inK .i64 x:=by
 by_cases ht:treeOk s t
 ·have e:enforce s t b=enfGo s b (activeL t).length t []:=if_pos ht
  have:=EnfInv.go (s:=s) (b:=b) (activeL t).length (EnfInv.start h hz) rfl
  have hl:=ixs_len actB t.nodes t.nodes.length
  have hl2:(activeL t).length=(ixs actB t.nodes t.nodes.length).length:=rfl
  have hn:=this.len
  rw[e]
  have hn:(enfGo s b (activeL t).length t []).2.length+(activeL (enfGo s b (activeL t).length t []).1).length=(activeL t).length:=hn
  exact⟨this.ok,this.n,by omega,this.k⟩
 ·have e:enforce s t b=(t,[]):=if_neg ht
  rw[e]
  exact⟨h,Nat.le_refl _,Nat.zero_le _,fun x hx=>nomatch hx⟩
theorem implEnforce (s:DSchema) (t:DTree) (b:Int) (u v u' v':Bool) (h:okSchema (2^47) s) (h':okTree (2^40) t) (hn:t.nodes.length≤2^38) (hz:zTree t≤2^40) (hb:inK .i64 b):ACalls Tryz.prog 9 [.agg (cSchema u v s),.agg (cTree u' v' t),.one (.int .i64 b)] (fun r=>r=.tup [.agg (cTree true true (enforce s t b).1),.one (aI true (enforce s t b).2)]):=by
 have hbb: -9223372036854775808≤b∧b≤9223372036854775807:=hb
 have nt:Tryz.f9.ntmps=51:=rfl
 have rs:Tryz.f9.results=#[.cell 6 30,.tmp 7]:=rfl
 refine ACalls.of_run (m:=400) mixed Tryz.func9 rfl rfl (Nat.le_of_ble_eq_true rfl) ?_
 simp only[nt,rs]
 clear nt rs
 (try refine am ?_);(try exact amT)
 refine CallK.one (cloneTreeI t _ _ h' hn) (fun _=>amC) ?_
 (try refine am ?_);(try exact amT)
 repeat' with_reducible first|apply zA|intro _
 all_goals try exact amA
 refine CallK.one (implTreeOk s t _ _ _ _ h (okTree47 h')) (fun _=>amC) ?_
 (try refine am ?_);(try exact amT)
 refine⟨fun hs=>?_,fun hs=>?_⟩
 ·have e:enforce s t b=(t,[]):=if_neg hs
  rw[e]
  repeat' with_reducible first|apply zA|intro _
  all_goals try exact amA
  refine FinK.tup ?_ ?_
  all_goals try refine amF ?_
  all_goals try exact amT
  all_goals (first|exact .refl _|exact .nil _ _ _ _ _|exact nil1|exact⟨.refl _,.nil _ _ _ _ _⟩)
 repeat' with_reducible first|apply zA|intro _
 all_goals try exact amA
 refine LoopK.auto ((DTree×List Int)) (fun p=>[(8,.one (.ref 302 [] [0] 0 0)),(9,.one (.own 303 [] [0]))]) (fun p=>[(302,⟨.sl true none 2 1 (fun _ j=>gl .junk (cTree true true p.1) j),[]⟩),(303,⟨.sl true none 1 p.2.length (fI p.2),[]⟩)]) [2,3,6] (k0:=?k01) (keepH:=?kh1) 400 (fun p=>EnfInv s b t p) (fun p=>(activeL p.1).length) ((t,[])) ?kea1 ?keb1 ?_ ?_ ?_
 case kea1=>exact amN
 case keb1=>exact amN
 ·exact EnfInv.start h' hz
 ·refine LeA [] ?_ ?_ ?_
  all_goals try refine amL ?_
  all_goals try exact amT
  all_goals (first|exact⟨nil1,boxLe2 (.refl _) (.refl _)⟩|exact nil1|exact boxLe2 (.refl _) (.refl _)|skip)
 ·rintro⟨m,l⟩ hi
  have hm:okTree (2^40) m:=hi.ok
  have hmz:zTree m≤2^40:=hi.z
  have hml:=hm.1.1
  (try refine am ?_);(try exact amT)
  repeat' with_reducible first|apply zA|intro _
  all_goals try exact amA
  refine CallK.one (implTreeUnits m _ _ (okTree47 hm) hmz) (fun _=>amC) ?_
  (try refine am ?_);(try exact amT)
  repeat' with_reducible first|apply zA|intro _
  all_goals try exact amA
  have hll:l.length≤2^38:=by
   have h1:l.length+(activeL m).length=(activeL t).length:=hi.len
   have h2:=ixs_len actB t.nodes t.nodes.length
   have h3:(activeL t).length=(ixs actB t.nodes t.nodes.length).length:=rfl
   omega
  ·have hu:b<(sm units m.nodes:Nat):=by assumption
   refine CallK.one (implPoorest s m _ _ _ _ h (okTree47 hm)) (fun _=>amC) ?_
   (try refine am ?_);(try exact amT)
   refine⟨fun hneg=>?_,fun hpos=>?_⟩
   ·have hc:enfC s b m=false:=by unfold enfC;rw[decide_eq_false (show ¬0≤poorest s m by omega),Bool.and_false]
    rw[hi.done hs hc]
    refine FinK.tup ?_ ?_
    all_goals try refine amF ?_
    all_goals try exact amT
    all_goals (first|exact .refl _|exact⟨.refl _,.refl _⟩|skip)
   have hc:enfC s b m=true:=by unfold enfC;rw[decide_eq_true hu,decide_eq_true (show 0≤poorest s m by omega)];rfl
   obtain⟨hi',hmu,hlt⟩:=hi.step hc
   have hlt:(poorest s m).toNat<m.nodes.length:=hlt
   have hok:=hm.1.2 _ (getD_mem (d:=default) hlt)
   repeat' with_reducible first|apply zA|intro _
   all_goals try exact amA
   refine CallE.one (implThin (m.nodes.getD (poorest s m).toNat default).stats _ _ hok.2.2.2.2.1) (fun _=>amC) rfl ?_
   (try refine am ?_);(try exact amT)
   repeat' with_reducible first|apply zA|intro _
   all_goals try exact amA
   refine⟨(enfT m (poorest s m).toNat,l++[poorest s m]),?_,hi',hmu⟩
   refine LeA [] ?_ ?_ ?_
   all_goals try refine amL ?_
   all_goals try exact amT
   refine⟨appOne (.inl rfl) rfl rfl,boxLe2 ?_ (.refl _)⟩
   (try simp only[gl,true_and,and_true,and_self,false_and,and_false,if_true,if_false,reduceIte,Nat.le_refl,Nat.lt_irrefl,Nat.zero_le,Nat.reduceLT,Nat.reduceLeDiff,Nat.reduceSub,Nat.reduceEqDiff,Nat.sub_self,Nat.sub_zero,Nat.add_zero,Nat.zero_add,Nat.reduceAdd,OfNat.ofNat_ne_zero,OfNat.zero_ne_ofNat,zero_ne_one,one_ne_zero,Nat.zero_ne_one,Nat.one_ne_zero,Nat.not_lt_zero,Nat.succ_ne_zero])
   refine nodeSet (x:=thinNode (m.nodes.getD (poorest s m).toNat default)) (.inl rfl) rfl hlt (fun i j hne hj=>?_) (fun j hj=>?_)
   ·rw[if_neg (fun h=>hne h.1),if_neg (fun h=>hne h.1)]
    exact .refl _
   ·have hj':j=0∨j=1∨j=2∨j=3∨j=4∨j=5∨j=6∨j=7∨j=8∨j=9∨j=10∨j=11:=by omega
    rcases hj' with rfl|rfl|rfl|rfl|rfl|rfl|rfl|rfl|rfl|rfl|rfl|rfl<;>(simp only[eq_self];(try simp only[gl,true_and,and_true,and_self,false_and,and_false,if_true,if_false,reduceIte,Nat.le_refl,Nat.lt_irrefl,Nat.zero_le,Nat.reduceLT,Nat.reduceLeDiff,Nat.reduceSub,Nat.reduceEqDiff,Nat.sub_self,Nat.sub_zero,Nat.add_zero,Nat.zero_add,Nat.reduceAdd,OfNat.ofNat_ne_zero,OfNat.zero_ne_ofNat,zero_ne_one,one_ne_zero,Nat.zero_ne_one,Nat.one_ne_zero,Nat.not_lt_zero,Nat.succ_ne_zero]);exact .refl _)
  ·have hu:¬b<(sm units m.nodes:Nat):=by assumption
   have hc:enfC s b m=false:=by unfold enfC;rw[decide_eq_false hu,Bool.false_and]
   rw[hi.done hs hc]
   refine FinK.tup ?_ ?_
   all_goals try refine amF ?_
   all_goals try exact amT
   all_goals (first|exact .refl _|exact⟨.refl _,.refl _⟩|skip)
theorem specEnforce (s:DSchema) (t:DTree) (b:Int) (u v u' v':Bool) (h:okSchema (2^47) s) (h':okTree (2^40) t) (hn:t.nodes.length≤2^38) (hz:zTree t≤2^40) (hb:inK .i64 b):ACalls Tryz.prog 12 [.agg (cSchema u v s),.agg (cTree u' v' t),.one (.int .i64 b)] (fun r=>r=.tup [.agg (cTree true true (enforce s t b).1),.one (aI true (enforce s t b).2)]):=by
 have hbb: -9223372036854775808≤b∧b≤9223372036854775807:=hb
 have nt:Tryz.f12.ntmps=56:=rfl
 have rs:Tryz.f12.results=#[.cell 6 30,.tmp 7]:=rfl
 refine ACalls.of_run (m:=400) mixed Tryz.func12 rfl rfl (Nat.le_of_ble_eq_true rfl) ?_
 simp only[nt,rs]
 clear nt rs
 (try refine am ?_);(try exact amT)
 refine CallK.one (l19CopyI t _ _ h' hn) (fun _=>amC) ?_
 (try refine am ?_);(try exact amT)
 repeat' with_reducible first|apply zA|intro _
 all_goals try exact amA
 refine CallK.one (specTreeOk s t _ _ _ _ h (okTree47 h')) (fun _=>amC) ?_
 (try refine am ?_);(try exact amT)
 refine⟨fun hs=>?_,fun hs=>?_⟩
 ·have e:enforce s t b=(t,[]):=if_neg hs
  rw[e]
  repeat' with_reducible first|apply zA|intro _
  all_goals try exact amA
  refine FinK.tup ?_ ?_
  all_goals try refine amF ?_
  all_goals try exact amT
  all_goals (first|exact .refl _|exact .nil _ _ _ _ _|exact nil1|exact⟨.refl _,.nil _ _ _ _ _⟩)
 repeat' with_reducible first|apply zA|intro _
 all_goals try exact amA
 refine LoopK.auto ((DTree×List Int)) (fun p=>[(8,.one (.ref 302 [] [0] 0 0)),(9,.one (.own 303 [] [0]))]) (fun p=>[(302,⟨.sl true none 2 1 (fun _ j=>gl .junk (cTree true true p.1) j),[]⟩),(303,⟨.sl true none 1 p.2.length (fI p.2),[]⟩)]) [2,3,6] (k0:=?k02) (keepH:=?kh2) 400 (fun p=>EnfInv s b t p) (fun p=>(activeL p.1).length) ((t,[])) ?kea2 ?keb2 ?_ ?_ ?_
 case kea2=>exact amN
 case keb2=>exact amN
 ·exact EnfInv.start h' hz
 ·refine LeA [] ?_ ?_ ?_
  all_goals try refine amL ?_
  all_goals try exact amT
  all_goals (first|exact⟨nil1,boxLe2 (.refl _) (.refl _)⟩|exact nil1|exact boxLe2 (.refl _) (.refl _)|skip)
 ·rintro⟨m,l⟩ hi
  have hm:okTree (2^40) m:=hi.ok
  have hmz:zTree m≤2^40:=hi.z
  have hml:=hm.1.1
  (try refine am ?_);(try exact amT)
  repeat' with_reducible first|apply zA|intro _
  all_goals try exact amA
  refine CallK.one (specTreeUnits m _ _ (okTree47 hm) hmz) (fun _=>amC) ?_
  (try refine am ?_);(try exact amT)
  repeat' with_reducible first|apply zA|intro _
  all_goals try exact amA
  have hll:l.length≤2^38:=by
   have h1:l.length+(activeL m).length=(activeL t).length:=hi.len
   have h2:=ixs_len actB t.nodes t.nodes.length
   have h3:(activeL t).length=(ixs actB t.nodes t.nodes.length).length:=rfl
   omega
  refine CallG.one rfl (fun hg=>specPoorest s m _ _ _ _ h (okTree47 hm)) ?_
  (try refine am ?_);(try exact amT)
  refine⟨fun hyes=>?_,fun hno=>?_⟩
  ·have hu:=hyes.1
   have hpos:=hyes.2
   have hc:enfC s b m=true:=by unfold enfC;rw[decide_eq_true hu,decide_eq_true (show 0≤poorest s m by omega)];rfl
   obtain⟨hi',hmu,hlt⟩:=hi.step hc
   have hlt:(poorest s m).toNat<m.nodes.length:=hlt
   have hok:=hm.1.2 _ (getD_mem (d:=default) hlt)
   refine CallK.one (specPoorest s m _ _ _ _ h (okTree47 hm)) (fun _=>amC) ?_
   (try refine am ?_);(try exact amT)
   repeat' with_reducible first|apply zA|intro _
   all_goals try exact amA
   refine CallE.one (specThin (m.nodes.getD (poorest s m).toNat default).stats _ _ hok.2.2.2.2.1) (fun _=>amC) rfl ?_
   (try refine am ?_);(try exact amT)
   repeat' with_reducible first|apply zA|intro _
   all_goals try exact amA
   refine⟨(enfT m (poorest s m).toNat,l++[poorest s m]),?_,hi',hmu⟩
   refine LeA [] ?_ ?_ ?_
   all_goals try refine amL ?_
   all_goals try exact amT
   refine⟨appOne (.inl rfl) rfl rfl,boxLe2 ?_ (.refl _)⟩
   (try simp only[gl,true_and,and_true,and_self,false_and,and_false,if_true,if_false,reduceIte,Nat.le_refl,Nat.lt_irrefl,Nat.zero_le,Nat.reduceLT,Nat.reduceLeDiff,Nat.reduceSub,Nat.reduceEqDiff,Nat.sub_self,Nat.sub_zero,Nat.add_zero,Nat.zero_add,Nat.reduceAdd,OfNat.ofNat_ne_zero,OfNat.zero_ne_ofNat,zero_ne_one,one_ne_zero,Nat.zero_ne_one,Nat.one_ne_zero,Nat.not_lt_zero,Nat.succ_ne_zero])
   refine nodeSet (x:=thinNode (m.nodes.getD (poorest s m).toNat default)) (.inl rfl) rfl hlt (fun i j hne hj=>?_) (fun j hj=>?_)
   ·rw[if_neg (fun h=>hne h.1),if_neg (fun h=>hne h.1)]
    exact .refl _
   ·have hj':j=0∨j=1∨j=2∨j=3∨j=4∨j=5∨j=6∨j=7∨j=8∨j=9∨j=10∨j=11:=by omega
    rcases hj' with rfl|rfl|rfl|rfl|rfl|rfl|rfl|rfl|rfl|rfl|rfl|rfl<;>(simp only[eq_self];(try simp only[gl,true_and,and_true,and_self,false_and,and_false,if_true,if_false,reduceIte,Nat.le_refl,Nat.lt_irrefl,Nat.zero_le,Nat.reduceLT,Nat.reduceLeDiff,Nat.reduceSub,Nat.reduceEqDiff,Nat.sub_self,Nat.sub_zero,Nat.add_zero,Nat.zero_add,Nat.reduceAdd,OfNat.ofNat_ne_zero,OfNat.zero_ne_ofNat,zero_ne_one,one_ne_zero,Nat.zero_ne_one,Nat.one_ne_zero,Nat.not_lt_zero,Nat.succ_ne_zero]);exact .refl _)
  ·have hc:enfC s b m=false:=by
    unfold enfC
    rw[←Bool.decide_and]
    exact decide_eq_false (fun hh=>hno ⟨hh.1,hh.2⟩)
   rw[hi.done hs hc]
   refine FinK.tup ?_ ?_
   all_goals try refine amF ?_
   all_goals try exact amT
   all_goals (first|exact .refl _|exact⟨.refl _,.refl _⟩|skip)
end Go.AM
