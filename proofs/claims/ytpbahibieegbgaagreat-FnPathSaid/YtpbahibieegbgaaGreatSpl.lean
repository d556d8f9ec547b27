/- Lemmas for the proof of this claim. -/
import Derived.Test.YtpbahibieegbgaaGreatEnf
import Derived.Test.YtpbahibieegbgaaGreatTnw
import Derived.Test.YtpbahibieegbgaaGreatPth
namespace Go.AM
set_option maxHeartbeats 64000000
open Go Go.Proofs
set_option maxRecDepth 100000
def leafN (s:DSchema) (t:DTree) (i:Nat) (l:List Int):DNode:=⟨true,⟨0,0⟩,[],0,statsNew s,0,l,(t.nodes.getD i default).depth+1,i,t.seen⟩
def kidsN (n b:Nat):List Int:=(List.range b).map fun (k:Nat)=>((n:Int)+(k:Int))
theorem kidsN_len (n b:Nat):(kidsN n b).length=b:=by simp[kidsN]
theorem kidsN_succ (n b:Nat):kidsN n (b+1)=kidsN n b++[(n:Int)+(b:Int)]:=by
 unfold kidsN
 rw[List.range_succ,List.map_append]
 rfl
def spNode (s:DSchema) (t:DTree) (i:Nat) (f:DFork) (b:Nat):DNode:=
 ⟨false,f,kidsN t.nodes.length b,heaviest s (t.nodes.getD i default).stats f,thin (t.nodes.getD i default).stats,0,(t.nodes.getD i default).attrs,(t.nodes.getD i default).depth,(t.nodes.getD i default).up,(t.nodes.getD i default).born⟩
def spNodes (s:DSchema) (t:DTree) (i:Nat) (f:DFork) (l:List (List Int)):List DNode:=t.nodes.set i (spNode s t i f l.length)++l.map (leafN s t i)
def splitP (s:DSchema) (t:DTree) (i:Int) (f:DFork) (l:List (List Int)):Prop:=
 treeOk s t∧(0≤i∧i≤(t.nodes.length:Int) - 1)∧actB (t.nodes.getD i.toNat default)=true∧forkOk s f∧l.length=branches s f∧(t.nodes.getD i.toNat default).depth≠6∧t.nodes.length+l.length≤31∧∀k,k<l.length→attrsOk s (l.getD k [])
instance (s:DSchema) (t:DTree) (i:Int) (f:DFork) (l:List (List Int)):Decidable (splitP s t i f l):=by unfold splitP;infer_instance
def splitA (s:DSchema) (t:DTree) (i:Int) (f:DFork) (l:List (List Int)):DTree:=if splitP s t i f l then ⟨spNodes s t i.toNat f l,t.seen⟩ else t
theorem spNodes_len (s:DSchema) (t:DTree) (i:Nat) (f:DFork) (l:List (List Int)):(spNodes s t i f l).length=t.nodes.length+l.length:=by
 unfold spNodes
 rw[List.length_append,List.length_set,List.length_map]
theorem topS_rng (l:List Int):∀i,-1≤topS l i∧topS l i<(i:Int):=by
 intro i
 rcases Nat.eq_zero_or_pos i with e|e
 ·subst e;exact⟨Int.le_refl (-1),by show (-1:Int)<0;decide⟩
 ·obtain⟨j,h1,h2,_⟩:=topS_inv l i e
  omega
theorem heaviest_rng (s:DSchema) (t:DStats) (f:DFork): -1≤heaviest s t f∧heaviest s t f≤4:=by
 unfold heaviest
 split
 ·have h:=topS_rng ((List.range (branches s f)).map fun (i:Nat)=>tot1 (btL s t f (i:Int))) ((List.range (branches s f)).map fun (i:Nat)=>tot1 (btL s t f (i:Int))).length
  have hb:=branches_le s f
  have hl:((List.range (branches s f)).map fun (i:Nat)=>tot1 (btL s t f (i:Int))).length=branches s f:=by simp
  unfold topOf
  omega
 ·exact⟨Int.le_refl _,by decide⟩
theorem leaves_n (s:DSchema) (t:DTree) (i:Nat):∀(l:List (List Int)),sm nNode (l.map (leafN s t i))≤71*l.length+tot l
 |[]=>Nat.le_refl _
 |r::l=>by
  have ih:=leaves_n s t i l
  have h1:=(statsNew_ok s).2
  have e:nNode (leafN s t i r)=8+0+(statsNew s).totals.length+tot (statsNew s).cells+r.length:=rfl
  show nNode (leafN s t i r)+sm nNode (l.map (leafN s t i))≤71*(l.length+1)+(r.length+tot l)
  omega
theorem kidsN_ok {n b:Nat} (h:n+b≤2^40):okI (2^47) (kidsN n b):=by
 refine⟨by rw[kidsN_len];omega,fun x hx=>?_⟩
 obtain⟨k,hk,rfl⟩:=List.mem_map.1 hx
 have:=List.mem_range.1 hk
 exact inK_bd (by omega)
theorem actB_leaf {n:DNode} (h:actB n=true):n.leaf=true∧0<n.stats.cells.length:=by
 unfold actB at h
 rw[Bool.and_eq_true] at h
 exact⟨h.1,of_decide_eq_true h.2⟩
theorem splitP_leaf {s:DSchema} {t:DTree} {i:Nat} (h1:treeOk s t) (h2:i<t.nodes.length) (h3:actB (t.nodes.getD i default)=true):(t.nodes.getD i default).leaf=true∧(t.nodes.getD i default).kids=[]∧0≤(t.nodes.getD i default).depth∧(t.nodes.getD i default).depth≤6:=by
 have h:=(h1.2.2.2 i h2).1
 have hl:=actB_leaf h3
 have h4:=h.2
 rw[if_pos hl.1] at h4
 exact⟨hl.1,List.eq_nil_of_length_eq_zero h4.2.1,h.1.1⟩
theorem splitA_ok {s:DSchema} {t:DTree} {i:Int} {f:DFork} {l:List (List Int)} (h:okTree (2^40) t) (hf:okFork (2^47) f) (hl:okL (2^40) l):okTree (2^47) (splitA s t i f l)∧sm nNode (splitA s t i f l).nodes≤sm nNode t.nodes+31+71*31+tot l:=by
 by_cases hp:splitP s t i f l
 ·have e:splitA s t i f l=⟨spNodes s t i.toNat f l,t.seen⟩:=if_pos hp
  rw[e]
  obtain⟨p1,p2,p3,p4,p5,p6,p7,p8⟩:=hp
  have hi:i.toNat<t.nodes.length:=by omega
  have hn:=okNode47 (h.1.2 _ (getD_mem (d:=default) hi))
  have hd:=splitP_leaf p1 hi p3
  have hh:=heaviest_rng s (t.nodes.getD i.toNat default).stats f
  refine⟨⟨⟨by show (spNodes _ _ _ _ _).length≤_;rw[spNodes_len];omega,fun x hx=>?_⟩,h.2⟩,?_⟩
  ·rcases List.mem_append.1 hx with hx|hx
   ·rcases List.mem_or_eq_of_mem_set hx with hx|rfl
    ·exact okNode47 (h.1.2 x hx)
    ·exact⟨trivial,hf,kidsN_ok (by omega),inK_bd (by show _≤heaviest s _ f∧heaviest s _ f≤_;omega),⟨hn.2.2.2.2.1.1,Nat.zero_le _,fun x hx=>nomatch hx⟩,inK_bd (by show (_:Int)≤0∧(0:Int)≤_;omega),hn.2.2.2.2.2.2⟩
   ·obtain⟨r,hr,rfl⟩:=List.mem_map.1 hx
    have k0:inK .i64 0:=inK_bd (by omega)
    exact⟨trivial,⟨k0,k0⟩,⟨Nat.zero_le _,fun x hx=>nomatch hx⟩,k0,(statsNew_ok s).1,k0,okI40 (hl.2 r hr),inK_bd (by show _≤(t.nodes.getD i.toNat default).depth+1∧(t.nodes.getD i.toNat default).depth+1≤_;omega),inK_bd (by show _≤((i.toNat:Nat):Int)∧((i.toNat:Nat):Int)≤_;omega),h.2⟩
  ·have h1:=leaves_n s t i.toNat l
   have h2:=sm_set (f:=nNode) (x:=spNode s t i.toNat f l.length) hi
   have h3:nNode (spNode s t i.toNat f l.length)=8+(kidsN t.nodes.length l.length).length+(t.nodes.getD i.toNat default).stats.totals.length+0+(t.nodes.getD i.toNat default).attrs.length:=rfl
   have h4:nNode (t.nodes.getD i.toNat default)=8+(t.nodes.getD i.toNat default).kids.length+(t.nodes.getD i.toNat default).stats.totals.length+tot (t.nodes.getD i.toNat default).stats.cells+(t.nodes.getD i.toNat default).attrs.length:=rfl
   rw[kidsN_len] at h3
   show sm nNode (spNodes _ _ _ _ _)≤_
   unfold spNodes
   rw[sm_app]
   omega
 ·have e:splitA s t i f l=t:=if_neg hp
  rw[e]
  exact⟨okTree47 h,by omega⟩
theorem spNodes_lt (s:DSchema) (t:DTree) (k:Nat) (f:DFork) (l:List (List Int)) {i:Nat} (h:i<t.nodes.length):(spNodes s t k f l).getD i default=(t.nodes.set k (spNode s t k f l.length)).getD i default:=by
 unfold spNodes
 exact getD_app_l (by rw[List.length_set];exact h)
theorem spNodes_ge (s:DSchema) (t:DTree) (k:Nat) (f:DFork) (l:List (List Int)) {j:Nat} (h:j<l.length):(spNodes s t k f l).getD (t.nodes.length+j) default=leafN s t k (l.getD j []):=by
 unfold spNodes
 rw[getD_app,List.length_set,if_neg (by omega),Nat.add_sub_cancel_left]
 simp[List.getD,h]
theorem cases12 {j:Nat} (h:j<12):j=0∨j=1∨j=2∨j=3∨j=4∨j=5∨j=6∨j=7∨j=8∨j=9∨j=10∨j=11:=by omega
theorem nodesLe {M:List DNode} {k n m:Nat} {x:DNode} {nl nl':Option Bool} {F:Nat→Nat→AV} (hnl:nl'=none∨nl'=nl) (hn:n=m) (hk:M.getD k default=x) (h1:∀i j,i≠k→i<n→j<12→ALe (F i j) (fNode true M i j)) (h2:∀j,j<12→ALe (F k j) (gl .junk (cNode true true x) j)):ALe (.sl true nl 12 n F) (.sl true nl' 12 m (fNode true M)):=by
 refine ALe.of hnl hn (fun i hi j hj=>?_)
 by_cases e:i=k
 ·subst e
  rw[fNode_at,hk]
  exact h2 j hj
 ·exact h1 i j e hi hj
def spPre (s:DSchema) (t:DTree) (k:Nat) (l:List (List Int)):List DNode:=t.nodes++l.map (leafN s t k)
theorem spPre_lt (s:DSchema) (t:DTree) (k:Nat) (l:List (List Int)) {i:Nat} (h:i<t.nodes.length):(spPre s t k l).getD i default=t.nodes.getD i default:=getD_app_l h
theorem spPre_ge (s:DSchema) (t:DTree) (k:Nat) (l:List (List Int)) {j:Nat} (h:j<l.length):(spPre s t k l).getD (t.nodes.length+j) default=leafN s t k (l.getD j []):=by
 unfold spPre
 rw[getD_app,if_neg (by omega),Nat.add_sub_cancel_left]
 simp[List.getD,h]
theorem spNodes_pre (s:DSchema) (t:DTree) {k:Nat} (f:DFork) (l:List (List Int)) (h:k<t.nodes.length):spNodes s t k f l=(spPre s t k l).set k (spNode s t k f l.length):=by
 unfold spNodes spPre
 rw[List.set_append_left _ _ h]
theorem spPre_len (s:DSchema) (t:DTree) (k:Nat) (l:List (List Int)):(spPre s t k l).length=t.nodes.length+l.length:=by
 unfold spPre
 rw[List.length_append,List.length_map]
theorem rows12 {nl:Option Bool} {F G:Nat→Nat→AV} (h:∀j,j<12→ALe (F 0 j) (G 0 j)):ALe (.sl true nl 12 1 F) (.sl true none 12 1 G):=by
 refine ALe.of (.inl rfl) rfl (fun i hi j hj=>?_)
 obtain rfl:i=0:=by omega
 exact h j hj
theorem indexFuncL (l:List (List Int)) (u v:Bool) (nl:Option Bool) (f:FuncId) (g:Nat→AV) (p:List Int→Bool) (hl:l.length≤2^47) (hf:∀x∈l,ACalls Tryz.prog f [.one (.sl v none 1 x.length (fI x)),.one (g 0)] (fun r=>r=.val (.one (.bool (p x))))):
 ACalls Tryz.prog 122 [.one (.sl u nl 1 l.length (fL v l)),.one (.fn (.func f) 1 g)] (fun r=>r=.val (.one (.int .i64 (fidxN (fun j=>p (l.getD j [])) 0 l.length)))):=by
 have nt:Tryz.f122.ntmps=19:=rfl
 have rs:Tryz.f122.results=#[.tmp 4]:=rfl
 refine ACalls.of_run (m:=400) mixed Tryz.func122 rfl rfl (Nat.le_of_ble_eq_true rfl) ?_
 simp only[nt,rs]
 clear nt rs
 (try refine am ?_);(try exact amT)
 repeat' with_reducible first|apply zA|intro _
 all_goals try exact amA
 refine LoopK.auto (Nat) (fun i=>[(8,.one (.av (.int .i64 i)))]) (fun i=>[]) [0,1,7] (k0:=?k01) (keepH:=?kh1) 400 (fun i=>i≤l.length∧fidxN (fun j=>p (l.getD j [])) 0 l.length=fidxN (fun j=>p (l.getD j [])) i (l.length - i)) (fun i=>l.length - i) (0) ?kea1 ?keb1 ?_ ?_ ?_
 case kea1=>exact amN
 case keb1=>exact amN
 ·exact⟨Nat.zero_le _,by simp⟩
 ·refine LeA [] ?_ ?_ ?_
  all_goals try refine amL ?_
  all_goals try exact amT
 ·rintro i ⟨hi,hs⟩
  (try refine am ?_);(try exact amT)
  repeat' with_reducible first|apply zA|intro _
  all_goals try exact amA
  ·have hlt:i<l.length:=by assumption
   have e:l.length - i=(l.length - (i+1))+1:=by omega
   refine CallK.one (hf (l.getD i []) (getD_mem hlt)) (fun _=>amC) ?_
   (try refine am ?_);(try exact amT)
   repeat' with_reducible first|apply zA|intro _
   all_goals try exact amA
   ·refine FinK.val1 ?_ ?_
    all_goals try refine amF ?_
    all_goals try exact amT
    rename_i h1 h2
    rw[hs,e,fidxN,if_pos h2]
   ·rename_i h1 h2
    rw[e,fidxN,if_neg (by rw[h2];simp)] at hs
    refine⟨i+1,?_,⟨by omega,hs⟩,by omega⟩
    refine LeA [] ?_ ?_ ?_
    all_goals try refine amL ?_
    all_goals try exact amT
  ·refine FinK.val1 ?_ ?_
   all_goals try refine amF ?_
   all_goals try exact amT
   have e:l.length - i=0:=by omega
   rw[hs,e,fidxN]
theorem containsFuncL (l:List (List Int)) (u v:Bool) (nl:Option Bool) (f:FuncId) (g:Nat→AV) (p:List Int→Bool) (hl:l.length≤2^47) (hf:∀x∈l,ACalls Tryz.prog f [.one (.sl v none 1 x.length (fI x)),.one (g 0)] (fun r=>r=.val (.one (.bool (p x))))):
 ACalls Tryz.prog 72 [.one (.sl u nl 1 l.length (fL v l)),.one (.fn (.func f) 1 g)] (fun r=>r=.val (.one (.bool (decide (∃j,j<l.length∧p (l.getD j [])=true))))):=by
 have nt:Tryz.f72.ntmps=9:=rfl
 have rs:Tryz.f72.results=#[.tmp 4]:=rfl
 refine ACalls.of_run (m:=400) mixed Tryz.func72 rfl rfl (Nat.le_of_ble_eq_true rfl) ?_
 simp only[nt,rs]
 clear nt rs
 (try refine am ?_);(try exact amT)
 refine CallK.one (indexFuncL l _ _ _ f _ p hl (fun x hx=>hf x hx)) (fun _=>amC) ?_
 (try refine am ?_);(try exact amT)
 refine FinK.val1 ?_ ?_
 all_goals try refine amF ?_
 all_goals try exact amT
 refine decide_eq_decide.2 ((fidxN_ex _ _ _).trans ?_)
 constructor
 ·rintro⟨j,h1,h2,h3⟩;exact⟨j,by omega,h3⟩
 ·rintro⟨j,h1,h2⟩;exact⟨j,by omega,by omega,h2⟩
theorem splitAt1 (s:DSchema) (l:List Int) (u v u':Bool) (mm:Nat) (g:Nat→AV) (h:okSchema (2^47) s) (hl:l.length≤2^47) (hmm:2≤mm) (hg:∀j,g j=gl .junk (cSchema u v s) j):ACalls Tryz.prog 73 [.one (.sl u' none 1 l.length (fI l)),.one (.ptr mm g)] (fun r=>r=.val (.one (.bool (!decide (attrsOk s l))))):=by
 have nt:Tryz.f73.ntmps=8:=rfl
 have rs:Tryz.f73.results=#[.tmp 3]:=rfl
 refine ACalls.of_run (m:=400) mixed Tryz.func73 rfl rfl (Nat.le_of_ble_eq_true rfl) ?_
 simp only[nt,rs]
 clear nt rs
 (try refine am ?_);(try exact amT)
 (try refine am ?_);(try simp only[hg]);(try refine am ?_);(try exact amT)
 repeat' with_reducible first|apply zA|intro _
 all_goals try exact amA
 refine CallK.one (implAttrsOk s l _ _ _ _ h hl) (fun _=>amC) ?_
 (try refine am ?_);(try exact amT)
 repeat' with_reducible first|apply zA|intro _
 all_goals try exact amA
 refine FinK.val1 ?_ ?_
 all_goals try refine amF ?_
 all_goals try exact amT
theorem implSplitAt (s:DSchema) (t:DTree) (i:Int) (f:DFork) (l:List (List Int)) (u v u' v' u2 v2:Bool) (h:okSchema (2^47) s) (h':okTree (2^40) t) (hn:t.nodes.length≤2^38) (hi:inK .i64 i) (hf:okFork (2^47) f) (hl:okL (2^40) l):ACalls Tryz.prog 22 [.agg (cSchema u v s),.agg (cTree u' v' t),.one (.int .i64 i),.agg (cFork f),.one (aL u2 v2 l)] (fun r=>r=.tup [.agg (cTree true true (splitA s t i f l)),.one (.bool (decide (splitP s t i f l)))]):=by
 have hii: -9223372036854775808≤i∧i≤9223372036854775807:=hi
 have hll:=hl.1
 have hbr:=branches_le s f
 have hno:¬splitP s t i f l→splitA s t i f l=t:=fun e=>if_neg e
 have hnode:0≤i∧i≤(t.nodes.length:Int) - 1→okNode (2^47) (t.nodes.getD i.toNat default):=fun e=>okNode47 (h'.1.2 _ (getD_mem (by omega)))
 by_cases hp:splitP s t i f l
 case neg=>
  rw[hno hp,decide_eq_false hp]
  have nt:Tryz.f22.ntmps=156:=rfl
  have rs:Tryz.f22.results=#[.cell 10 30,.tmp 11]:=rfl
  refine ACalls.of_run (m:=400) mixed Tryz.func22 rfl rfl (Nat.le_of_ble_eq_true rfl) ?_
  simp only[nt,rs]
  clear nt rs
  (try refine am ?_);(try exact amT)
  refine CallK.one (cloneTreeI t _ _ h' hn) (fun _=>amC) ?_
  (try refine am ?_);(try exact amT)
  repeat' with_reducible first|apply zA|intro _
  all_goals try exact amA
  refine CallK.one (implBranches s f _ _ h hf) (fun _=>amC) ?_
  (try refine am ?_);(try exact amT)
  repeat' with_reducible first|apply zA|intro _
  all_goals try exact amA
  refine CallK.one (implTreeOk s t _ _ _ _ h (okTree47 h')) (fun _=>amC) ?_
  (try refine am ?_);(try exact amT)
  repeat' with_reducible first|apply zA|intro _
  all_goals try exact amA
  refine CallG.one rfl (fun hg=>within i 0 ((t.nodes.length:Int) - 1)) ?_
  (try refine am ?_);(try exact amT)
  repeat' with_reducible first|apply zA|intro _
  all_goals try exact amA
  refine CallG.one rfl (fun hg=>active1 (t.nodes.getD i.toNat default) _ _ (hnode (by simp at hg;exact hg.2))) ?_
  (try refine am ?_);(try exact amT)
  repeat' with_reducible first|apply zA|intro _
  all_goals try exact amA
  all_goals try (first|(rename_i hh;first|exact hh.1.1.1.1|exact hh.1.1.1.1.1|exact hh.1.1.1.1.1.1|exact hh.1.1.1.2|exact hh.1.1.1.1.2|exact hh.1.1.2))
  ·refine FinK.tup ?_ ?_
   all_goals try refine amF ?_
   all_goals try exact amT
   all_goals (first|exact .refl _|skip)
  ·rename_i hc
   refine CallK.one (containsFuncL l _ _ _ _ _ (fun x=> !decide (attrsOk s x)) (by omega) (fun x hx=>splitAt1 s x _ _ _ _ _ h (by have:=(hl.2 x hx).1;omega) (Nat.le_refl _) (fun j=>rfl))) (fun _=>amC) ?_
   (try refine am ?_);(try exact amT)
   repeat' with_reducible first|apply zA|intro _
   all_goals try exact amA
   ·refine FinK.tup ?_ ?_
    all_goals try refine amF ?_
    all_goals try exact amT
    all_goals (first|exact .refl _|skip)
   ·rename_i hc2
    exfalso
    obtain⟨⟨⟨⟨⟨⟨q1,q2⟩,q3⟩,q4⟩,q5⟩,q6⟩,q7⟩:=hc
    exact hp ⟨q1,q2,q3,branches_pos.2 (by omega),q5,q6,by omega,fun k hk=>Decidable.byContradiction (fun e=>hc2 ⟨k,hk,by simpa using e⟩)⟩
 obtain⟨p1,p2,p3,p4,p5,p6,p7,p8⟩:=hp
 have hpp:splitP s t i f l:=⟨p1,p2,p3,p4,p5,p6,p7,p8⟩
 have ea:splitA s t i f l=⟨spNodes s t i.toNat f l,t.seen⟩:=if_pos hpp
 rw[ea,decide_eq_true hpp]
 obtain⟨k,rfl⟩:=Int.eq_ofNat_of_zero_le p2.1
 rw[Int.toNat_natCast] at p3 p6 hnode ⊢
 have hk:k<t.nodes.length:=by omega
 have hlf:=splitP_leaf p1 hk p3
 have nt:Tryz.f22.ntmps=156:=rfl
 have rs:Tryz.f22.results=#[.cell 10 30,.tmp 11]:=rfl
 refine ACalls.of_run (m:=400) mixed Tryz.func22 rfl rfl (Nat.le_of_ble_eq_true rfl) ?_
 simp only[nt,rs]
 clear nt rs
 (try refine am ?_);(try exact amT)
 refine CallK.one (cloneTreeI t _ _ h' hn) (fun _=>amC) ?_
 (try refine am ?_);(try exact amT)
 repeat' with_reducible first|apply zA|intro _
 all_goals try exact amA
 refine CallK.one (implBranches s f _ _ h hf) (fun _=>amC) ?_
 (try refine am ?_);(try exact amT)
 repeat' with_reducible first|apply zA|intro _
 all_goals try exact amA
 refine CallK.one (implTreeOk s t _ _ _ _ h (okTree47 h')) (fun _=>amC) ?_
 (try refine am ?_);(try exact amT)
 repeat' with_reducible first|apply zA|intro _
 all_goals try exact amA
 refine CallG.one rfl (fun hg=>within (k:Int) 0 ((t.nodes.length:Int) - 1)) ?_
 (try refine am ?_);(try exact amT)
 repeat' with_reducible first|apply zA|intro _
 all_goals try exact amA
 refine CallG.one rfl (fun hg=>active1 (t.nodes.getD k default) _ _ (hnode p2)) ?_
 (try refine am ?_);(try exact amT)
 repeat' with_reducible first|apply zA|intro _
 all_goals try exact amA
 all_goals try (first|(rename_i hh;first|exact hh.1.1.1.1|exact hh.1.1.1.1.1|exact hh.1.1.1.1.1.1|exact hh.1.1.1.2|exact hh.1.1.1.1.2|exact hh.1.1.2))
 ·rename_i hc
  exfalso
  rcases hc with (((((hc|hc)|hc)|hc)|hc)|hc)|hc
  ·exact hc p1
  ·exact hc p2.2
  ·rw[p3] at hc;cases hc
  ·exact branches_pos.1 p4 (by omega)
  ·exact hc p5
  ·exact p6 hc
  ·omega
 refine CallK.one (containsFuncL l _ _ _ _ _ (fun x=> !decide (attrsOk s x)) (by omega) (fun x hx=>splitAt1 s x _ _ _ _ _ h (by have:=(hl.2 x hx).1;omega) (Nat.le_refl _) (fun j=>rfl))) (fun _=>amC) ?_
 (try refine am ?_);(try exact amT)
 repeat' with_reducible first|apply zA|intro _
 all_goals try exact amA
 ·rename_i hc
  exfalso
  obtain⟨j,hj,hx⟩:=hc
  exact hx (p8 j hj)
 (try refine am ?_);(try exact amT)
 repeat' with_reducible first|apply zA|intro _
 all_goals try exact amA
 have hst:=h'.1.2 _ (getD_mem (d:=default) hk)
 have hhr:=heaviest_rng s (t.nodes.getD k default).stats f
 refine CallE.one (implHeaviest s (t.nodes.getD k default).stats f _ _ _ _ h (okStats47 hst.2.2.2.2.1) hf) (fun _=>amC) rfl ?_
 (try refine am ?_);(try exact amT)
 repeat' with_reducible first|apply zA|intro _
 all_goals try exact amA
 refine CallK.one (implThin (t.nodes.getD k default).stats _ _ hst.2.2.2.2.1) (fun _=>amC) ?_
 (try refine am ?_);(try exact amT)
 repeat' with_reducible first|apply zA|intro _
 all_goals try exact amA
 refine LoopK.auto (Nat) (fun j=>[(111,.one (.av (.int .i64 j))),(14,.one (.ref 302 [(0,0)] [0,0] k 0)),(12,.one (.ref 302 [] [0] 0 0))]) (fun j=>[(302,⟨.sl true none 2 1 (fun _ j'=>gl .junk [.sl true none 12 t.nodes.length (fNode true (t.nodes.set k (spNode s t k f j))),.int .i64 t.seen] j'),[]⟩)]) [2,4,5,6,10,110] (k0:=?k02) (keepH:=?kh2) 800 (fun j=>j≤branches s f) (fun j=>branches s f - j) (0) ?kea2 ?keb2 ?_ ?_ ?_
 case kea2=>exact amN
 case keb2=>exact amN
 ·exact Nat.zero_le _
 ·refine LeA [] ?_ ?_ ?_
  all_goals try refine amL ?_
  all_goals try exact amT
  refine boxLe2 ?_ (.refl _)
  simp only[eq_self,and_self,if_true,gl]
  refine nodesLe (.inl rfl) rfl (getD_set_eq hk) (fun i j hne _ hj=>?_) (fun j hj=>?_)
  ·iterate 5 rw[if_neg (fun h=>hne h.1)]
   rw[fNode_at,getD_set_ne (fun h=>hne h.symm)]
   exact .refl _
  ·rcases cases12 hj with rfl|rfl|rfl|rfl|rfl|rfl|rfl|rfl|rfl|rfl|rfl|rfl<;>(simp only[eq_self];(try simp only[gl,true_and,and_true,and_self,false_and,and_false,if_true,if_false,reduceIte,Nat.le_refl,Nat.lt_irrefl,Nat.zero_le,Nat.reduceLT,Nat.reduceLeDiff,Nat.reduceSub,Nat.reduceEqDiff,Nat.sub_self,Nat.sub_zero,Nat.add_zero,Nat.zero_add,Nat.reduceAdd,OfNat.ofNat_ne_zero,OfNat.zero_ne_ofNat,zero_ne_one,one_ne_zero,Nat.zero_ne_one,Nat.one_ne_zero,Nat.not_lt_zero,Nat.succ_ne_zero]);first|exact .refl _|(rw[hlf.2.1];exact .refl _))
 ·intro j hj
  have hkids:((t.nodes.set k (spNode s t k f j)).getD k default).kids=kidsN t.nodes.length j:=by rw[getD_set_eq hk];rfl
  have hdep:((t.nodes.set k (spNode s t k f j)).getD k default).depth=(t.nodes.getD k default).depth:=by rw[getD_set_eq hk];rfl
  (try refine am ?_);(try simp only[hkids,kidsN_len]);(try refine am ?_);(try exact amT)
  repeat' with_reducible first|apply zA|intro _
  all_goals try exact amA
  ·refine⟨j+1,?_,by omega,by omega⟩
   refine LeA [] ?_ ?_ ?_
   all_goals try refine amL ?_
   all_goals try exact amT
   refine boxLe2 ?_ (.refl _)
   simp only[eq_self,and_self,if_true,gl]
   have hgk:(t.nodes.set k (spNode s t k f j)).getD k default=spNode s t k f j:=getD_set_eq hk
   refine nodesLe (x:=spNode s t k f (j+1)) (.inl rfl) rfl (getD_set_eq hk) (fun i j' hne _ hj'=>?_) (fun j' hj'=>?_)
   ·rw[if_neg (fun h=>hne h.1),if_neg (fun h=>hne h.1),fNode_at,getD_set_ne (fun h=>hne h.symm),getD_set_ne (fun h=>hne h.symm)]
    exact .refl _
   ·rcases cases12 hj' with rfl|rfl|rfl|rfl|rfl|rfl|rfl|rfl|rfl|rfl|rfl|rfl
    case inr.inr.inr.inl=>
     simp only[eq_self]
     (try simp only[gl,true_and,and_true,and_self,false_and,and_false,if_true,if_false,reduceIte,Nat.le_refl,Nat.lt_irrefl,Nat.zero_le,Nat.reduceLT,Nat.reduceLeDiff,Nat.reduceSub,Nat.reduceEqDiff,Nat.sub_self,Nat.sub_zero,Nat.add_zero,Nat.zero_add,Nat.reduceAdd,OfNat.ofNat_ne_zero,OfNat.zero_ne_ofNat,zero_ne_one,one_ne_zero,Nat.zero_ne_one,Nat.one_ne_zero,Nat.not_lt_zero,Nat.succ_ne_zero])
     have:=appOne (l:=kidsN t.nodes.length j) (x:=(t.nodes.length:Int)+(j:Int)) (n:=j+1) (nl:=none) (nl':=none) (g:=rowsF [[.int .i64 ((t.nodes.length:Int)+(j:Int))]]) (.inl rfl) (by rw[kidsN_len]) rfl
     rw[kidsN_len,←kidsN_succ] at this
     exact this
    all_goals (simp only[eq_self,hgk];(try simp only[gl,true_and,and_true,and_self,false_and,and_false,if_true,if_false,reduceIte,Nat.le_refl,Nat.lt_irrefl,Nat.zero_le,Nat.reduceLT,Nat.reduceLeDiff,Nat.reduceSub,Nat.reduceEqDiff,Nat.sub_self,Nat.sub_zero,Nat.add_zero,Nat.zero_add,Nat.reduceAdd,OfNat.ofNat_ne_zero,OfNat.zero_ne_ofNat,zero_ne_one,one_ne_zero,Nat.zero_ne_one,Nat.one_ne_zero,Nat.not_lt_zero,Nat.succ_ne_zero]);exact .refl _)
  ·have ej:j=branches s f:=by omega
   subst ej
   (try refine am ?_);(try simp only[hdep]);(try refine am ?_);(try exact amT)
   repeat' with_reducible first|apply zA|intro _
   all_goals try exact amA
   refine LoopK.auto (Nat) (fun j=>[(136,.one (.av (.int .i64 j))),(12,.one (.ref 303 [] [0] 0 0))]) (fun j=>[(303,⟨.sl true none 2 1 (fun _ j'=>gl .junk [.sl true none 12 (t.nodes.length+j) (fNode true (spNodes s t k f l)),.int .i64 t.seen] j'),[]⟩)]) [2,5,6,10,16,134,135] (k0:=?k03) (keepH:=?kh3) 1200 (fun j=>j≤l.length) (fun j=>l.length - j) (0) ?kea3 ?keb3 ?_ ?_ ?_
   case kea3=>exact amN
   case keb3=>exact amN
   ·exact Nat.zero_le _
   ·refine LeA [] ?_ ?_ ?_
    all_goals try refine amL ?_
    all_goals try exact amT
    refine boxLe2 (ALe.of (.inl rfl) rfl (fun i hi j hj=>?_)) (.refl _)
    rw[fNode_at,fNode_at,spNodes_lt s t k f l hi,p5]
    exact .refl _
   ·intro j hj
    (try refine am ?_);(try exact amT)
    repeat' with_reducible first|apply zA|intro _
    all_goals try exact amA
    ·have hlt:j<l.length:=by omega
     have hlj:=okL_at hl j
     refine CallE.one (implStatsNew s _ _ h) (fun _=>amC) rfl ?_
     (try refine am ?_);(try exact amT)
     repeat' with_reducible first|apply zA|intro _
     all_goals try exact amA
     refine CallE.one (cloneI (l.getD j []) _ (by omega)) (fun _=>amC) rfl ?_
     (try refine am ?_);(try exact amT)
     repeat' with_reducible first|apply zA|intro _
     all_goals try exact amA
     refine⟨j+1,?_,by omega,by omega⟩
     refine LeA [] ?_ ?_ ?_
     all_goals try refine amL ?_
     all_goals try exact amT
     refine boxLe2 (nodeRow (.inl rfl) rfl (fun j' hj'=>?_)) (.refl _)
     rw[fNode_at,spNodes_ge s t k f l hlt]
     rcases cases12 hj' with rfl|rfl|rfl|rfl|rfl|rfl|rfl|rfl|rfl|rfl|rfl|rfl<;>first|exact ALe.refl _|exact .nil _ _ _ _ _
    ·have ej:j=l.length:=by omega
     subst ej
     refine FinK.tup ?_ ?_
     all_goals try refine amF ?_
     all_goals try exact amT
     exact ALe.of (.inl rfl) (spNodes_len s t k f l).symm (fun i hi j hj=>.refl _)
theorem specSplitAt (s:DSchema) (t:DTree) (i:Int) (f:DFork) (l:List (List Int)) (u v u' v' u2 v2:Bool) (h:okSchema (2^47) s) (h':okTree (2^40) t) (hn:t.nodes.length≤2^38) (hi:inK .i64 i) (hf:okFork (2^47) f) (hl:okL (2^40) l):ACalls Tryz.prog 23 [.agg (cSchema u v s),.agg (cTree u' v' t),.one (.int .i64 i),.agg (cFork f),.one (aL u2 v2 l)] (fun r=>r=.tup [.agg (cTree true true (splitA s t i f l)),.one (.bool (decide (splitP s t i f l)))]):=by
 have hii: -9223372036854775808≤i∧i≤9223372036854775807:=hi
 have hll:=hl.1
 have hbr:=branches_le s f
 have hno:¬splitP s t i f l→splitA s t i f l=t:=fun e=>if_neg e
 have hnode:0≤i∧i≤(t.nodes.length:Int) - 1→okNode (2^47) (t.nodes.getD i.toNat default):=fun e=>okNode47 (h'.1.2 _ (getD_mem (by omega)))
 by_cases hp:splitP s t i f l
 case neg=>
  rw[hno hp,decide_eq_false hp]
  have nt:Tryz.f23.ntmps=181:=rfl
  have rs:Tryz.f23.results=#[.cell 10 30,.tmp 11]:=rfl
  refine ACalls.of_run (m:=400) mixed Tryz.func23 rfl rfl (Nat.le_of_ble_eq_true rfl) ?_
  simp only[nt,rs]
  clear nt rs
  (try refine am ?_);(try exact amT)
  refine CallK.one (l19CopyI t _ _ h' hn) (fun _=>amC) ?_
  (try refine am ?_);(try exact amT)
  repeat' with_reducible first|apply zA|intro _
  all_goals try exact amA
  refine CallK.one (specTreeOk s t _ _ _ _ h (okTree47 h')) (fun _=>amC) ?_
  (try refine am ?_);(try exact amT)
  repeat' with_reducible first|apply zA|intro _
  all_goals try exact amA
  refine CallG.one rfl (fun hg=>l1In i 0 ((t.nodes.length:Int) - 1)) ?_
  (try refine am ?_);(try exact amT)
  repeat' with_reducible first|apply zA|intro _
  all_goals try exact amA
  refine CallG.one rfl (fun hg=>specForkOk s f _ _ h hf) ?_
  (try refine am ?_);(try exact amT)
  repeat' with_reducible first|apply zA|intro _
  all_goals try exact amA
  refine CallG.one rfl (fun hg=>specBranches s f _ _ h hf) ?_
  (try refine am ?_);(try exact amT)
  repeat' with_reducible first|apply zA|intro _
  all_goals try exact amA
  all_goals try (first|(rename_i hh;first|exact hh.1.1.1.1|exact hh.1.1.1.1.1|exact hh.1.1.1.1.1.1|exact hh.1.1.1.2|exact hh.1.1.1.1.2|exact hh.1.1.2))
  ·refine FinK.tup ?_ ?_
   all_goals try refine amF ?_
   all_goals try exact amT
   all_goals (first|exact .refl _|skip)
  rename_i hc
  refine LoopK.auto (Nat) (fun j=>[(13,.one (.av (.int .i64 j)))]) (fun j=>[]) [2,4,5,6,8,10,12] (k0:=?k04) (keepH:=?kh4) 800 (fun j=>j≤l.length∧∀m,m<j→attrsOk s (l.getD m [])) (fun j=>l.length - j) (0) ?kea4 ?keb4 ?_ ?_ ?_
  case kea4=>exact amN
  case keb4=>exact amN
  ·exact⟨Nat.zero_le _,fun m hm=>absurd hm (Nat.not_lt_zero _)⟩
  ·refine LeA [] ?_ ?_ ?_
   all_goals try refine amL ?_
   all_goals try exact amT
  intro j hj
  have hlj:=okL_at hl j
  (try refine am ?_);(try exact amT)
  repeat' with_reducible first|apply zA|intro _
  all_goals try exact amA
  ·have hlt:j<l.length:=by omega
   refine CallE.one (specAttrsOk s (l.getD j []) _ _ _ _ h (by omega)) (fun _=>amC) rfl ?_
   (try refine am ?_);(try exact amT)
   repeat' with_reducible first|apply zA|intro _
   all_goals try exact amA
   ·refine FinK.tup ?_ ?_
    all_goals try refine amF ?_
    all_goals try exact amT
    all_goals (first|exact .refl _|skip)
   ·rename_i ha
    refine⟨j+1,?_,⟨by omega,fun m hm=>?_⟩,by omega⟩
    ·refine LeA [] ?_ ?_ ?_
     all_goals try refine amL ?_
     all_goals try exact amT
    ·by_cases e:m=j
     ·rw[e];exact ha
     ·exact hj.2 m (by omega)
  ·refine FinK.tup ?_ ?_
   all_goals try refine amF ?_
   all_goals try exact amT
   all_goals (first|exact .refl _|skip)
  ·rename_i hd
   exfalso
   obtain⟨⟨⟨⟨⟨q1,q2⟩,q3⟩,q4⟩,q5⟩,q6⟩:=hc
   refine hp ⟨q1,q2,?_,q5,q6,fun e=>hd (.inl e),?_,fun m hm=>hj.2 m (by omega)⟩
   ·unfold actB
    rw[q3,decide_eq_true (by omega)]
    rfl
   ·have:¬(31<(t.nodes.length:Int)+(l.length:Int)):=fun e=>hd (.inr e)
    omega
 obtain⟨p1,p2,p3,p4,p5,p6,p7,p8⟩:=hp
 have hpp:splitP s t i f l:=⟨p1,p2,p3,p4,p5,p6,p7,p8⟩
 have ea:splitA s t i f l=⟨spNodes s t i.toNat f l,t.seen⟩:=if_pos hpp
 rw[ea,decide_eq_true hpp]
 obtain⟨k,rfl⟩:=Int.eq_ofNat_of_zero_le p2.1
 rw[Int.toNat_natCast] at p3 p6 hnode ⊢
 have hk:k<t.nodes.length:=by omega
 have hlf:=splitP_leaf p1 hk p3
 have hal:=actB_leaf p3
 have nt:Tryz.f23.ntmps=181:=rfl
 have rs:Tryz.f23.results=#[.cell 10 30,.tmp 11]:=rfl
 refine ACalls.of_run (m:=400) mixed Tryz.func23 rfl rfl (Nat.le_of_ble_eq_true rfl) ?_
 simp only[nt,rs]
 clear nt rs
 (try refine am ?_);(try exact amT)
 refine CallK.one (l19CopyI t _ _ h' hn) (fun _=>amC) ?_
 (try refine am ?_);(try exact amT)
 repeat' with_reducible first|apply zA|intro _
 all_goals try exact amA
 refine CallK.one (specTreeOk s t _ _ _ _ h (okTree47 h')) (fun _=>amC) ?_
 (try refine am ?_);(try exact amT)
 repeat' with_reducible first|apply zA|intro _
 all_goals try exact amA
 refine CallG.one rfl (fun hg=>l1In (k:Int) 0 ((t.nodes.length:Int) - 1)) ?_
 (try refine am ?_);(try exact amT)
 repeat' with_reducible first|apply zA|intro _
 all_goals try exact amA
 refine CallG.one rfl (fun hg=>specForkOk s f _ _ h hf) ?_
 (try refine am ?_);(try exact amT)
 repeat' with_reducible first|apply zA|intro _
 all_goals try exact amA
 refine CallG.one rfl (fun hg=>specBranches s f _ _ h hf) ?_
 (try refine am ?_);(try exact amT)
 repeat' with_reducible first|apply zA|intro _
 all_goals try exact amA
 all_goals try (first|(rename_i hh;first|exact hh.1.1.1.1|exact hh.1.1.1.1.1|exact hh.1.1.1.1.1.1|exact hh.1.1.1.2|exact hh.1.1.1.1.2|exact hh.1.1.2))
 ·rename_i hc
  exfalso
  rcases hc with ((((hc|hc)|hc)|hc)|hc)|hc
  ·exact hc p1
  ·exact hc p2.2
  ·rw[hal.1] at hc;cases hc
  ·omega
  ·exact hc p4
  ·exact hc p5
 rename_i hc
 refine LoopK.auto (Nat) (fun j=>[(13,.one (.av (.int .i64 j)))]) (fun j=>[]) [2,4,5,6,8,10,12] (k0:=?k05) (keepH:=?kh5) 800 (fun j=>j≤l.length∧∀m,m<j→attrsOk s (l.getD m [])) (fun j=>l.length - j) (0) ?kea5 ?keb5 ?_ ?_ ?_
 case kea5=>exact amN
 case keb5=>exact amN
 ·exact⟨Nat.zero_le _,fun m hm=>absurd hm (Nat.not_lt_zero _)⟩
 ·refine LeA [] ?_ ?_ ?_
  all_goals try refine amL ?_
  all_goals try exact amT
 intro j hj
 have hlj:=okL_at hl j
 (try refine am ?_);(try exact amT)
 repeat' with_reducible first|apply zA|intro _
 all_goals try exact amA
 ·have hlt:j<l.length:=by omega
  refine CallE.one (specAttrsOk s (l.getD j []) _ _ _ _ h (by omega)) (fun _=>amC) rfl ?_
  (try refine am ?_);(try exact amT)
  repeat' with_reducible first|apply zA|intro _
  all_goals try exact amA
  ·rename_i ha
   exact absurd (p8 j hlt) ha
  ·rename_i ha
   refine⟨j+1,?_,⟨by omega,fun m hm=>p8 m (by omega)⟩,by omega⟩
   refine LeA [] ?_ ?_ ?_
   all_goals try refine amL ?_
   all_goals try exact amT
 have hst:=h'.1.2 _ (getD_mem (d:=default) hk)
 have hhr:=heaviest_rng s (t.nodes.getD k default).stats f
 have hat:=hst.2.2.2.2.2.2.1.1
 refine CallE.one (specHeaviest s (t.nodes.getD k default).stats f _ _ _ _ h (okStats47 hst.2.2.2.2.1) hf) (fun _=>amC) rfl ?_
 (try refine am ?_);(try exact amT)
 repeat' with_reducible first|apply zA|intro _
 all_goals try exact amA
 refine CallE.one (specThin (t.nodes.getD k default).stats _ _ hst.2.2.2.2.1) (fun _=>amC) rfl ?_
 (try refine am ?_);(try exact amT)
 repeat' with_reducible first|apply zA|intro _
 all_goals try exact amA
 refine LoopK.auto (Nat) (fun j=>[(15,.one (.av (.int .i64 j))),(14,.one (.ref 304 [] [0] 0 0)),(12,.one (.ref 303 [] [0] 0 0))]) (fun j=>[(304,⟨.sl true none 12 1 (fun _ j'=>gl .junk (cNode true true (spNode s t k f j)) j'),[]⟩),(303,⟨.sl true none 2 1 (fun _ j'=>gl .junk [.sl true none 12 (t.nodes.length+j) (fNode true (spPre s t k l)),.int .i64 t.seen] j'),[]⟩)]) [2,4,5,6,10] (k0:=?k06) (keepH:=?kh6) 1200 (fun j=>j≤l.length) (fun j=>l.length - j) (0) ?kea6 ?keb6 ?_ ?_ ?_
 case kea6=>exact amN
 case keb6=>exact amN
 ·exact Nat.zero_le _
 ·refine LeA [] ?_ ?_ ?_
  all_goals try refine amL ?_
  all_goals try exact amT
  refine⟨boxLe2 ?_ (.refl _),rows12 (fun j hj=>?_)⟩
  ·simp only[eq_self]
   (try simp only[gl,true_and,and_true,and_self,false_and,and_false,if_true,if_false,reduceIte,Nat.le_refl,Nat.lt_irrefl,Nat.zero_le,Nat.reduceLT,Nat.reduceLeDiff,Nat.reduceSub,Nat.reduceEqDiff,Nat.sub_self,Nat.sub_zero,Nat.add_zero,Nat.zero_add,Nat.reduceAdd,OfNat.ofNat_ne_zero,OfNat.zero_ne_ofNat,zero_ne_one,one_ne_zero,Nat.zero_ne_one,Nat.one_ne_zero,Nat.not_lt_zero,Nat.succ_ne_zero])
   refine ALe.of (.inl rfl) rfl (fun i hi j hj=>?_)
   rw[fNode_at,fNode_at,spPre_lt s t k l hi]
   exact .refl _
  ·rcases cases12 hj with rfl|rfl|rfl|rfl|rfl|rfl|rfl|rfl|rfl|rfl|rfl|rfl<;>(simp only[eq_self];(try simp only[gl,true_and,and_true,and_self,false_and,and_false,if_true,if_false,reduceIte,Nat.le_refl,Nat.lt_irrefl,Nat.zero_le,Nat.reduceLT,Nat.reduceLeDiff,Nat.reduceSub,Nat.reduceEqDiff,Nat.sub_self,Nat.sub_zero,Nat.add_zero,Nat.zero_add,Nat.reduceAdd,OfNat.ofNat_ne_zero,OfNat.zero_ne_ofNat,zero_ne_one,one_ne_zero,Nat.zero_ne_one,Nat.one_ne_zero,Nat.not_lt_zero,Nat.succ_ne_zero]);first|exact .refl _|exact .nil _ _ _ _ _|exact roI)
 ·intro j hj
  have hkids:(spNode s t k f j).kids=kidsN t.nodes.length j:=rfl
  have hdep:(spNode s t k f j).depth=(t.nodes.getD k default).depth:=rfl
  (try refine am ?_);(try simp only[hkids,hdep,kidsN_len]);(try refine am ?_);(try exact amT)
  repeat' with_reducible first|apply zA|intro _
  all_goals try exact amA
  ·have hlt:j<l.length:=by omega
   have hlj:=okL_at hl j
   refine CallE.one (specStatsNew s _ _ h) (fun _=>amC) rfl ?_
   (try refine am ?_);(try exact amT)
   repeat' with_reducible first|apply zA|intro _
   all_goals try exact amA
   refine⟨j+1,?_,by omega,by omega⟩
   refine LeA [] ?_ ?_ ?_
   all_goals try refine amL ?_
   all_goals try exact amT
   refine⟨boxLe2 ?_ (.refl _),rows12 (fun j' hj'=>?_)⟩
   ·simp only[eq_self]
    (try simp only[gl,true_and,and_true,and_self,false_and,and_false,if_true,if_false,reduceIte,Nat.le_refl,Nat.lt_irrefl,Nat.zero_le,Nat.reduceLT,Nat.reduceLeDiff,Nat.reduceSub,Nat.reduceEqDiff,Nat.sub_self,Nat.sub_zero,Nat.add_zero,Nat.zero_add,Nat.reduceAdd,OfNat.ofNat_ne_zero,OfNat.zero_ne_ofNat,zero_ne_one,one_ne_zero,Nat.zero_ne_one,Nat.one_ne_zero,Nat.not_lt_zero,Nat.succ_ne_zero])
    refine nodeRow (.inl rfl) rfl (fun j' hj'=>?_)
    rw[fNode_at,spPre_ge s t k l hlt]
    rcases cases12 hj' with rfl|rfl|rfl|rfl|rfl|rfl|rfl|rfl|rfl|rfl|rfl|rfl<;>first|exact ALe.refl _|exact .nil _ _ _ _ _|exact roI
   ·rcases cases12 hj' with rfl|rfl|rfl|rfl|rfl|rfl|rfl|rfl|rfl|rfl|rfl|rfl
    case inr.inr.inr.inl=>
     simp only[eq_self]
     (try simp only[gl,true_and,and_true,and_self,false_and,and_false,if_true,if_false,reduceIte,Nat.le_refl,Nat.lt_irrefl,Nat.zero_le,Nat.reduceLT,Nat.reduceLeDiff,Nat.reduceSub,Nat.reduceEqDiff,Nat.sub_self,Nat.sub_zero,Nat.add_zero,Nat.zero_add,Nat.reduceAdd,OfNat.ofNat_ne_zero,OfNat.zero_ne_ofNat,zero_ne_one,one_ne_zero,Nat.zero_ne_one,Nat.one_ne_zero,Nat.not_lt_zero,Nat.succ_ne_zero])
     have:=appOne (l:=kidsN t.nodes.length j) (x:=(t.nodes.length:Int)+(j:Int)) (n:=j+1) (nl:=none) (nl':=none) (g:=rowsF [[.int .i64 ((t.nodes.length:Int)+(j:Int))]]) (.inl rfl) (by rw[kidsN_len]) rfl
     rw[kidsN_len,←kidsN_succ] at this
     exact this
    all_goals (simp only[eq_self];(try simp only[gl,true_and,and_true,and_self,false_and,and_false,if_true,if_false,reduceIte,Nat.le_refl,Nat.lt_irrefl,Nat.zero_le,Nat.reduceLT,Nat.reduceLeDiff,Nat.reduceSub,Nat.reduceEqDiff,Nat.sub_self,Nat.sub_zero,Nat.add_zero,Nat.zero_add,Nat.reduceAdd,OfNat.ofNat_ne_zero,OfNat.zero_ne_ofNat,zero_ne_one,one_ne_zero,Nat.zero_ne_one,Nat.one_ne_zero,Nat.not_lt_zero,Nat.succ_ne_zero]);exact .refl _)
  ·have ej:j=l.length:=by omega
   subst ej
   refine FinK.tup ?_ ?_
   all_goals try refine amF ?_
   all_goals try exact amT
   have hpl:k<(spPre s t k l).length:=by rw[spPre_len];omega
   rw[spNodes_pre s t f l hk]
   refine nodeSet (x:=spNode s t k f l.length) (.inl rfl) (spPre_len s t k l).symm hpl (fun i j hne hj=>?_) (fun j hj=>?_)
   ·rw[if_neg (fun h=>hne h.1)]
    exact .refl _
   ·rw[if_pos ⟨rfl,Nat.zero_le _,hj⟩]
    rcases cases12 hj with rfl|rfl|rfl|rfl|rfl|rfl|rfl|rfl|rfl|rfl|rfl|rfl<;>first|exact .refl _|exact ALe.of (.inl rfl) (kidsN_len _ _).symm (fun i hi j hj=>.refl _)
end Go.AM
