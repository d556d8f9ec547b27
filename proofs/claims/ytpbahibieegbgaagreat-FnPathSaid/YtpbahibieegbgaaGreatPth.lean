/- Lemmas for the proof of this claim. -/
import Derived.Test.YtpbahibieegbgaaGreatTr2
namespace Go.AM
set_option maxHeartbeats 64000000
open Go Go.Proofs
set_option maxRecDepth 100000
def exOk (s:DSchema) (e:DEx):Prop:=schemaOk s∧e.bins.length=s.attrs.length∧(-1≤e.cls∧e.cls≤(s.classes.length:Int) - 1)∧∀i,i<e.bins.length→ -1≤e.bins.getD i 0∧e.bins.getD i 0≤(bins (s.attrs.getD i default):Int) - 1
instance (s:DSchema) (e:DEx):Decidable (exOk s e):=by unfold exOk;infer_instance
def brAt (s:DSchema) (e:DEx) (n:DNode):Int:=if 0≤e.bins.getD n.fork.attr.toNat 0 then branchOf s n.fork (e.bins.getD n.fork.attr.toNat 0) else n.miss
def nxt (s:DSchema) (t:DTree) (e:DEx) (i:Nat):Nat:=((t.nodes.getD i default).kids.getD (brAt s e (t.nodes.getD i default)).toNat 0).toNat
def pos (s:DSchema) (t:DTree) (e:DEx):Nat→Nat
 |0=>0
 |k+1=>nxt s t e (pos s t e k)
theorem pos_succ (s:DSchema) (t:DTree) (e:DEx) (k:Nat):pos s t e (k+1)=nxt s t e (pos s t e k):=rfl
def leafAt (s:DSchema) (t:DTree) (e:DEx) (k:Nat):Bool:=(t.nodes.getD (pos s t e k) default).leaf
def lastK (s:DSchema) (t:DTree) (e:DEx):Nat:=(fidxN (leafAt s t e) 0 t.nodes.length).toNat
def posL (s:DSchema) (t:DTree) (e:DEx) (k:Nat):List Int:=(List.range k).map fun j=>((pos s t e j:Nat):Int)
theorem posL_len {s:DSchema} {t:DTree} {e:DEx} {k:Nat}:(posL s t e k).length=k:=by simp[posL]
theorem posL_get {s:DSchema} {t:DTree} {e:DEx} {j k:Nat} (h:j<k):(posL s t e k).getD j 0=(pos s t e j:Int):=by simp[posL,List.getD,h]
theorem posL_succ {s:DSchema} {t:DTree} {e:DEx} {k:Nat}:posL s t e (k+1)=posL s t e k++[((pos s t e k:Nat):Int)]:=by simp[posL,List.range_succ]
def pathL (s:DSchema) (t:DTree) (e:DEx):List Int:=posL s t e (lastK s t e+1)
theorem walk_facts {s:DSchema} {t:DTree} {e:DEx} {i:Nat} (ht:treeOk s t) (he:exOk s e) (hi:i<t.nodes.length) (hl:(t.nodes.getD i default).leaf=false):
 forkOk s (t.nodes.getD i default).fork∧(0≤(t.nodes.getD i default).fork.attr∧(t.nodes.getD i default).fork.attr<(e.bins.length:Int))∧(0≤brAt s e (t.nodes.getD i default)∧brAt s e (t.nodes.getD i default)<((t.nodes.getD i default).kids.length:Int))∧
  (t.nodes.getD i default).kids.getD (brAt s e (t.nodes.getD i default)).toNat 0=(nxt s t e i:Int)∧i<nxt s t e i∧nxt s t e i<t.nodes.length:=by
 have hn:=(ht.2.2.2 i hi).1.2
 rw[if_neg (by rw[hl];simp)] at hn
 obtain⟨h1,h2,h3,h4,h5,h6,h7⟩:=hn
 have hr:=h1.2.1
 have hb:=he.2.1
 have hat:=h1.1.2.2.2.1 (t.nodes.getD i default).fork.attr.toNat (by omega)
 have hbn:=attrOk_bins hat
 have hbr:0≤brAt s e (t.nodes.getD i default)∧brAt s e (t.nodes.getD i default)<((t.nodes.getD i default).kids.length:Int):=by
  unfold brAt
  by_cases hx:0≤e.bins.getD (t.nodes.getD i default).fork.attr.toNat 0
  ·rw[if_pos hx]
   have hbin:=he.2.2.2 (t.nodes.getD i default).fork.attr.toNat (by omega)
   have e1:branches s (t.nodes.getD i default).fork=if (t.nodes.getD i default).fork.at_= -1 then bins (s.attrs.getD (t.nodes.getD i default).fork.attr.toNat default) else 2:=if_pos h1
   have e2:branchOf s (t.nodes.getD i default).fork (e.bins.getD (t.nodes.getD i default).fork.attr.toNat 0)=if (t.nodes.getD i default).fork.at_= -1 then e.bins.getD (t.nodes.getD i default).fork.attr.toNat 0 else if e.bins.getD (t.nodes.getD i default).fork.attr.toNat 0=(t.nodes.getD i default).fork.at_∨0<(s.attrs.getD (t.nodes.getD i default).fork.attr.toNat default).cuts.length∧e.bins.getD (t.nodes.getD i default).fork.attr.toNat 0<(t.nodes.getD i default).fork.at_ then 0 else 1:=if_pos ⟨h1,hx,hbin.2⟩
   rw[e2,h2,e1]
   by_cases ha:(t.nodes.getD i default).fork.at_= -1
   ·rw[if_pos ha,if_pos ha];omega
   ·rw[if_neg ha,if_neg ha]
    split<;>omega
  ·rw[if_neg hx];omega
 have hk:=h7 (brAt s e (t.nodes.getD i default)).toNat (by omega)
 have hk1:=hk.1
 refine⟨h1,by omega,hbr,?_,?_,?_⟩
 ·unfold nxt;omega
 ·unfold nxt;omega
 ·unfold nxt;omega
theorem pos_lt {s:DSchema} {t:DTree} {e:DEx} (ht:treeOk s t) (he:exOk s e):∀{k:Nat},(∀j,j<k→leafAt s t e j=false)→k≤pos s t e k∧pos s t e k<t.nodes.length
 |0,_=>⟨Nat.zero_le _,by have:=ht.2.1;show 0<_;omega⟩
 |k+1,h=>by
  have ih:=pos_lt ht he (k:=k) (fun j hj=>h j (by omega))
  have hw:=walk_facts ht he ih.2 (h k (by omega))
  rw[pos_succ]
  omega
theorem lastK_eq {s:DSchema} {t:DTree} {e:DEx} (ht:treeOk s t) (he:exOk s e) {k:Nat} (h:∀j,j<k→leafAt s t e j=false) (hl:leafAt s t e k=true):lastK s t e=k:=by
 have h1:=pos_lt ht he h
 unfold lastK
 rw[fidxN_first (i:=0) (j:=k) (Nat.zero_le _) (by omega) hl (fun j _ hj=>h j hj)]
 rfl
theorem implExOk (s:DSchema) (e:DEx) (u v u':Bool) (h:okSchema (2^47) s) (h':okEx (2^47) e):ACalls Tryz.prog 83 [.agg (cSchema u v s),.agg (cEx u' false e)] (fun r=>r=.val (.one (.bool (decide (exOk s e))))):=by
 have hl:=h.1.1
 have hl2:=h.2.1
 have hl3:=h'.1.1
 have nt:Tryz.f83.ntmps=48:=rfl
 have rs:Tryz.f83.results=#[.tmp 4]:=rfl
 refine ACalls.of_run (m:=400) mixed Tryz.func83 rfl rfl (Nat.le_of_ble_eq_true rfl) ?_
 simp only[nt,rs]
 clear nt rs
 (try refine am ?_);(try exact amT)
 refine CallK.one (implSchemaOk s _ _ h) (fun _=>amC) ?_
 (try refine am ?_);(try exact amT)
 repeat' with_reducible first|apply zA|intro _
 all_goals try exact amA
 refine CallG.one rfl (fun hg=>within e.cls (-1) _) ?_
 (try refine am ?_);(try exact amT)
 repeat' with_reducible first|apply zA|intro _
 all_goals try exact amA
 ·refine FinK.val1 ?_ ?_
  all_goals try refine amF ?_
  all_goals try exact amT
  rename_i h1
  refine(decide_eq_false (fun e=>?_)).symm
  obtain⟨e1,e2,e3,e4⟩:=e
  rcases h1 with (h1|h1)|h1
  ·exact h1 e1
  ·omega
  ·exact h1 e3
 rename_i h1
 obtain⟨⟨hS,h2⟩,h3⟩:=h1
 refine LoopK.auto (Nat) (fun i=>[(32,.one (.av (.int .i64 i)))]) (fun i=>[]) [2,30,31] (k0:=?k01) (keepH:=?kh1) 400 (fun i=>i≤e.bins.length∧∀j,j<i→ -1≤e.bins.getD j 0∧e.bins.getD j 0≤(bins (s.attrs.getD j default):Int) - 1) (fun i=>e.bins.length - i) (0) ?kea1 ?keb1 ?_ ?_ ?_
 case kea1=>exact amN
 case keb1=>exact amN
 ·exact⟨Nat.zero_le _,fun j hj=>by omega⟩
 ·refine LeA [] ?_ ?_ ?_
  all_goals try refine amL ?_
  all_goals try exact amT
 ·intro i hi
  (try refine am ?_);(try exact amT)
  repeat' with_reducible first|apply zA|intro _
  all_goals try exact amA
  ·have hlt:i<e.bins.length:=by assumption
   have hat:=hS.2.2.2.1 i (by omega)
   have hbn:=attrOk_bins hat
   refine CallK.one (implBins (s.attrs.getD i default) _ false (h.1.2 _ (getD_mem (by omega)))) (fun _=>amC) ?_
   (try refine am ?_);(try exact amT)
   repeat' with_reducible first|apply zA|intro _
   all_goals try exact amA
   refine CallK.one (within (e.bins.getD i 0) (-1) _) (fun _=>amC) ?_
   (try refine am ?_);(try exact amT)
   repeat' with_reducible first|apply zA|intro _
   all_goals try exact amA
   ·refine FinK.val1 ?_ ?_
    all_goals try refine amF ?_
    all_goals try exact amT
    rename_i h4
    exact(decide_eq_false (fun e=>h4 (e.2.2.2 i hlt))).symm
   ·rename_i h4
    refine⟨i+1,?_,⟨by omega,fun j hj=>?_⟩,by omega⟩
    ·refine LeA [] ?_ ?_ ?_
     all_goals try refine amL ?_
     all_goals try exact amT
    ·by_cases e:j=i
     ·rw[e];exact h4
     ·exact hi.2 j (by omega)
  ·refine FinK.val1 ?_ ?_
   all_goals try refine amF ?_
   all_goals try exact amT
   exact(decide_eq_true ⟨hS,by omega,h3,fun j hj=>hi.2 j (by omega)⟩).symm
theorem specExOk (s:DSchema) (e:DEx) (u v u':Bool) (h:okSchema (2^47) s) (h':okEx (2^47) e):ACalls Tryz.prog 28 [.agg (cSchema u v s),.agg (cEx u' false e)] (fun r=>r=.val (.one (.bool (decide (exOk s e))))):=by
 have hl:=h.1.1
 have hl2:=h.2.1
 have hl3:=h'.1.1
 have nt:Tryz.f28.ntmps=49:=rfl
 have rs:Tryz.f28.results=#[.tmp 4]:=rfl
 refine ACalls.of_run (m:=400) mixed Tryz.func28 rfl rfl (Nat.le_of_ble_eq_true rfl) ?_
 simp only[nt,rs]
 clear nt rs
 (try refine am ?_);(try exact amT)
 refine CallK.one (specSchemaOk s _ _ h) (fun _=>amC) ?_
 (try refine am ?_);(try exact amT)
 repeat' with_reducible first|apply zA|intro _
 all_goals try exact amA
 refine CallG.one rfl (fun hg=>l1In e.cls (-1) _) ?_
 (try refine am ?_);(try exact amT)
 repeat' with_reducible first|apply zA|intro _
 all_goals try exact amA
 ·refine FinK.val1 ?_ ?_
  all_goals try refine amF ?_
  all_goals try exact amT
  rename_i h1
  refine(decide_eq_false (fun e=>?_)).symm
  obtain⟨e1,e2,e3,e4⟩:=e
  rcases h1 with (h1|h1)|h1
  ·exact h1 e1
  ·omega
  ·exact h1 e3
 rename_i h1
 obtain⟨⟨hS,h2⟩,h3⟩:=h1
 refine LoopK.auto (Nat) (fun i=>[(5,.one (.av (.int .i64 i)))]) (fun i=>[]) [2,3] (k0:=?k02) (keepH:=?kh2) 400 (fun i=>i≤e.bins.length∧∀j,j<i→ -1≤e.bins.getD j 0∧e.bins.getD j 0≤(bins (s.attrs.getD j default):Int) - 1) (fun i=>e.bins.length - i) (0) ?kea2 ?keb2 ?_ ?_ ?_
 case kea2=>exact amN
 case keb2=>exact amN
 ·exact⟨Nat.zero_le _,fun j hj=>by omega⟩
 ·refine LeA [] ?_ ?_ ?_
  all_goals try refine amL ?_
  all_goals try exact amT
 ·intro i hi
  (try refine am ?_);(try exact amT)
  repeat' with_reducible first|apply zA|intro _
  all_goals try exact amA
  ·have hlt:i<e.bins.length:=by assumption
   have hat:=hS.2.2.2.1 i (by omega)
   have hbn:=attrOk_bins hat
   refine CallE.one (specBins (s.attrs.getD i default) _ false (h.1.2 _ (getD_mem (by omega)))) (fun _=>amC) rfl ?_
   (try refine am ?_);(try exact amT)
   (try refine am ?_);(try simp only[if_pos hat]);(try refine am ?_);(try exact amT)
   repeat' with_reducible first|apply zA|intro _
   all_goals try exact amA
   refine CallE.one (l1In (e.bins.getD i 0) (-1) _) (fun _=>amC) rfl ?_
   (try refine am ?_);(try exact amT)
   repeat' with_reducible first|apply zA|intro _
   all_goals try exact amA
   ·refine FinK.val1 ?_ ?_
    all_goals try refine amF ?_
    all_goals try exact amT
    rename_i h4
    exact(decide_eq_false (fun e=>h4 (e.2.2.2 i hlt))).symm
   ·rename_i h4
    refine⟨i+1,?_,⟨by omega,fun j hj=>?_⟩,by omega⟩
    ·refine LeA [] ?_ ?_ ?_
     all_goals try refine amL ?_
     all_goals try exact amT
    ·by_cases e:j=i
     ·rw[e];exact h4
     ·exact hi.2 j (by omega)
  ·refine FinK.val1 ?_ ?_
   all_goals try refine amF ?_
   all_goals try exact amT
   exact(decide_eq_true ⟨hS,by omega,h3,fun j hj=>hi.2 j (by omega)⟩).symm
end Go.AM
namespace Go.AM
set_option maxHeartbeats 64000000
open Go Go.Proofs
set_option maxRecDepth 100000
theorem pathTo1 (s:DSchema) (t:DTree) (e:DEx) (u v u' v' w:Bool) (h:okSchema (2^47) s) (h':okTree (2^47) t) (he:okEx (2^47) e) (hT:treeOk s t) (hE:exOk s e):ACalls Tryz.prog 84 [.agg (cSchema u v s),.agg (cTree u' v' t),.agg (cEx w false e)] (fun r=>r=.val (.one (.sl true (some false) 1 (pathL s t e).length (fI (pathL s t e))))):=by
 have hl:=h'.1.1
 have nt:Tryz.f84.ntmps=49:=rfl
 have rs:Tryz.f84.results=#[.tmp 6]:=rfl
 refine ACalls.of_run (m:=400) mixed Tryz.func84 rfl rfl (Nat.le_of_ble_eq_true rfl) ?_
 simp only[nt,rs]
 clear nt rs
 (try refine am ?_);(try exact amT)
 repeat' with_reducible first|apply zA|intro _
 all_goals try exact amA
 refine LoopK.auto (Nat) (fun k=>[(7,.one (.own 302 [] [0]))]) (fun k=>[(302,⟨.sl true (some false) 1 (k+1) (fI (posL s t e (k+1))),[]⟩)]) [3,4,5] (k0:=?k01) (keepH:=?kh1) 400 (fun k=>∀j,j<k→leafAt s t e j=false) (fun k=>t.nodes.length - pos s t e k) (0) ?kea1 ?keb1 ?_ ?_ ?_
 case kea1=>exact amN
 case keb1=>exact amN
 ·intro j hj;omega
 ·refine LeA [] ?_ ?_ ?_
  all_goals try refine amL ?_
  all_goals try exact amT
  refine ALe.of (.inr rfl) rfl (fun i hi j hj=>?_)
  obtain rfl:i=0:=by omega
  obtain rfl:j=0:=by omega
  rw[fI_at,posL_get (by omega)]
  exact .refl _
 ·intro k hk
  have hp:=pos_lt hT hE hk
  have hnl:=hT.2.1
  have e1:((k:Int)+1 - 1).toNat=k:=by omega
  have e2:(posL s t e (k+1)).getD k 0=(pos s t e k:Int):=posL_get (by omega)
  have hn:=h'.1.2 _ (getD_mem (d:=default) hp.2)
  have hL:(posL s t e (k+1)).length=k+1:=posL_len
  cases hlf:(t.nodes.getD (pos s t e k) default).leaf with
  |true=>
   (try refine am ?_);(try exact amT)
   (try refine am ?_);(try simp only[e2]);(try refine am ?_);(try exact amT)
   (try refine am ?_);(try simp only[hlf]);(try refine am ?_);(try exact amT)
   repeat' with_reducible first|apply zA|intro _
   all_goals try exact amA
   refine FinK.val1 ?_ ?_
   all_goals try refine amF ?_
   all_goals try exact amT
   have eK:=lastK_eq hT hE hk hlf
   unfold pathL
   rw[eK,posL_len]
   exact .refl _
  |false=>
   obtain⟨g1,g2,g3,g4,g5,g6⟩:=walk_facts hT hE hp.2 hlf
   have hx:¬0≤e.bins.getD (t.nodes.getD (pos s t e k) default).fork.attr.toNat 0∨brAt s e (t.nodes.getD (pos s t e k) default)=branchOf s (t.nodes.getD (pos s t e k) default).fork (e.bins.getD (t.nodes.getD (pos s t e k) default).fork.attr.toNat 0):=by
    by_cases hq:0≤e.bins.getD (t.nodes.getD (pos s t e k) default).fork.attr.toNat 0
    ·exact .inr (if_pos hq)
    ·exact .inl hq
   have hy:0≤e.bins.getD (t.nodes.getD (pos s t e k) default).fork.attr.toNat 0∨brAt s e (t.nodes.getD (pos s t e k) default)=(t.nodes.getD (pos s t e k) default).miss:=by
    by_cases hq:0≤e.bins.getD (t.nodes.getD (pos s t e k) default).fork.attr.toNat 0
    ·exact .inl hq
    ·exact .inr (if_neg hq)
   have hkl:=hn.2.2.1.1
   have hbi:inK .i64 (e.bins.getD (t.nodes.getD (pos s t e k) default).fork.attr.toNat 0):=he.1.2 _ (getD_mem (by omega))
   (try refine am ?_);(try exact amT)
   (try refine am ?_);(try simp only[e2]);(try refine am ?_);(try exact amT)
   (try refine am ?_);(try simp only[hlf]);(try refine am ?_);(try exact amT)
   repeat' with_reducible first|apply zA|intro _
   all_goals try exact amA
   ·rename_i hq
    refine CallK.one (implBranchOf s (t.nodes.getD (pos s t e k) default).fork _ _ _ h hn.2.1 hbi) (fun _=>amC) ?_
    (try refine am ?_);(try exact amT)
    have eb:=hx.resolve_left (fun h=>h hq)
    (try refine am ?_);(try simp only[←eb]);(try refine am ?_);(try exact amT)
    repeat' with_reducible first|apply zA|intro _
    all_goals try exact amA
    refine⟨k+1,?_,fun j hj=>?_,?_⟩
    ·refine LeA [] ?_ ?_ ?_
     all_goals try refine amL ?_
     all_goals try exact amT
     have ep:=posL_succ (s:=s) (t:=t) (e:=e) (k:=k+1)
     have:=appLe1 (cs:=cI) (d:=0) (l:=posL s t e (k+1)) (x:=((pos s t e (k+1):Nat):Int)) (nl:=some false) (nl':=some false) (es:=1) (ys:=[.int .i64 ((t.nodes.getD (pos s t e k) default).kids.getD (brAt s e (t.nodes.getD (pos s t e k) default)).toNat 0)]) ep (by rw[g4];rfl) (.inr rfl)
     rw[posL_len,posL_len] at this
     exact this
    ·by_cases ej:j=k
     ·rw[ej];exact hlf
     ·exact hk j (by omega)
    ·rw[pos_succ];omega
   ·rename_i hq
    have eb:=hy.resolve_left (fun h=>hq h)
    refine⟨k+1,?_,fun j hj=>?_,?_⟩
    ·refine LeA [] ?_ ?_ ?_
     all_goals try refine amL ?_
     all_goals try exact amT
     have ep:=posL_succ (s:=s) (t:=t) (e:=e) (k:=k+1)
     have:=appLe1 (cs:=cI) (d:=0) (l:=posL s t e (k+1)) (x:=((pos s t e (k+1):Nat):Int)) (nl:=some false) (nl':=some false) (es:=1) (ys:=[.int .i64 ((t.nodes.getD (pos s t e k) default).kids.getD (t.nodes.getD (pos s t e k) default).miss.toNat 0)]) ep (by rw[←eb,g4];rfl) (.inr rfl)
     rw[posL_len,posL_len] at this
     exact this
    ·by_cases ej:j=k
     ·rw[ej];exact hlf
     ·exact hk j (by omega)
    ·rw[pos_succ];omega
theorem specWalk (s:DSchema) (t:DTree) (e:DEx) (u v u' v' w:Bool) (h:okSchema (2^47) s) (h':okTree (2^47) t) (he:okEx (2^47) e) (hT:treeOk s t) (hE:exOk s e):ACalls Tryz.prog 216 [.agg (cSchema u v s),.agg (cTree u' v' t),.agg (cEx w false e)] (fun r=>r=.val (.one (.sl true (some false) 1 (pathL s t e).length (fI (pathL s t e))))):=by
 have hl:=h'.1.1
 have nt:Tryz.f216.ntmps=58:=rfl
 have rs:Tryz.f216.results=#[.tmp 6]:=rfl
 refine ACalls.of_run (m:=400) mixed Tryz.func216 rfl rfl (Nat.le_of_ble_eq_true rfl) ?_
 simp only[nt,rs]
 clear nt rs
 (try refine am ?_);(try exact amT)
 repeat' with_reducible first|apply zA|intro _
 all_goals try exact amA
 refine LoopK.auto (Nat) (fun k=>[(7,.one (.own 302 [] [0])),(8,.one (.av (.int .i64 (pos s t e k))))]) (fun k=>[(302,⟨.sl true (some false) 1 k (fI (posL s t e k)),[]⟩)]) [3,4,5] (k0:=?k02) (keepH:=?kh2) 400 (fun k=>∀j,j<k→leafAt s t e j=false) (fun k=>t.nodes.length - pos s t e k) (0) ?kea2 ?keb2 ?_ ?_ ?_
 case kea2=>exact amN
 case keb2=>exact amN
 ·intro j hj;omega
 ·refine LeA [] ?_ ?_ ?_
  all_goals try refine amL ?_
  all_goals try exact amT
  all_goals first|rfl|exact ALe.of (.inr rfl) rfl (fun i hi j hj=>by omega)
 ·intro k hk
  have hp:=pos_lt hT hE hk
  have hnl:=hT.2.1
  have hn:=h'.1.2 _ (getD_mem (d:=default) hp.2)
  have hL:(posL s t e k).length=k:=posL_len
  cases hlf:(t.nodes.getD (pos s t e k) default).leaf with
  |true=>
   (try refine am ?_);(try exact amT)
   (try refine am ?_);(try simp only[hlf]);(try refine am ?_);(try exact amT)
   repeat' with_reducible first|apply zA|intro _
   all_goals try exact amA
   refine FinK.val1 ?_ ?_
   all_goals try refine amF ?_
   all_goals try exact amT
   have eK:=lastK_eq hT hE hk hlf
   unfold pathL
   rw[eK,posL_len]
   have:=appLe1 (cs:=cI) (d:=0) (l:=posL s t e k) (x:=((pos s t e k:Nat):Int)) (nl:=some false) (nl':=some false) (es:=1) (ys:=[.int .i64 ((pos s t e k:Nat):Int)]) posL_succ rfl (.inr rfl)
   rw[posL_len,posL_len] at this
   exact this
  |false=>
   obtain⟨g1,g2,g3,g4,g5,g6⟩:=walk_facts hT hE hp.2 hlf
   have hx:¬0≤e.bins.getD (t.nodes.getD (pos s t e k) default).fork.attr.toNat 0∨brAt s e (t.nodes.getD (pos s t e k) default)=branchOf s (t.nodes.getD (pos s t e k) default).fork (e.bins.getD (t.nodes.getD (pos s t e k) default).fork.attr.toNat 0):=by
    by_cases hq:0≤e.bins.getD (t.nodes.getD (pos s t e k) default).fork.attr.toNat 0
    ·exact .inr (if_pos hq)
    ·exact .inl hq
   have hy:0≤e.bins.getD (t.nodes.getD (pos s t e k) default).fork.attr.toNat 0∨brAt s e (t.nodes.getD (pos s t e k) default)=(t.nodes.getD (pos s t e k) default).miss:=by
    by_cases hq:0≤e.bins.getD (t.nodes.getD (pos s t e k) default).fork.attr.toNat 0
    ·exact .inl hq
    ·exact .inr (if_neg hq)
   have hkl:=hn.2.2.1.1
   have hbi:inK .i64 (e.bins.getD (t.nodes.getD (pos s t e k) default).fork.attr.toNat 0):=he.1.2 _ (getD_mem (by omega))
   (try refine am ?_);(try exact amT)
   (try refine am ?_);(try simp only[hlf]);(try refine am ?_);(try exact amT)
   repeat' with_reducible first|apply zA|intro _
   all_goals try exact amA
   ·rename_i hq
    refine CallE.one (specBranchOf s (t.nodes.getD (pos s t e k) default).fork _ _ _ h hn.2.1 hbi) (fun _=>amC) rfl ?_
    (try refine am ?_);(try exact amT)
    have eb:=hx.resolve_left (fun h=>h hq)
    (try refine am ?_);(try simp only[←eb]);(try refine am ?_);(try exact amT)
    repeat' with_reducible first|apply zA|intro _
    all_goals try exact amA
    refine⟨k+1,?_,fun j hj=>?_,?_⟩
    ·refine LeA [] ?_ ?_ ?_
     all_goals try refine amL ?_
     all_goals try exact amT
     all_goals first
      |exact g4
      |(have:=appLe1 (cs:=cI) (d:=0) (l:=posL s t e k) (x:=((pos s t e k:Nat):Int)) (nl:=some false) (nl':=some false) (es:=1) (ys:=[.int .i64 ((pos s t e k:Nat):Int)]) posL_succ rfl (.inr rfl)
        rw[posL_len,posL_len] at this
        exact this)
    ·by_cases ej:j=k
     ·rw[ej];exact hlf
     ·exact hk j (by omega)
    ·rw[pos_succ];omega
   ·rename_i hq
    have eb:=hy.resolve_left (fun h=>hq h)
    refine⟨k+1,?_,fun j hj=>?_,?_⟩
    ·refine LeA [] ?_ ?_ ?_
     all_goals try refine amL ?_
     all_goals try exact amT
     all_goals first
      |(rw[←eb];exact g4)
      |(have:=appLe1 (cs:=cI) (d:=0) (l:=posL s t e k) (x:=((pos s t e k:Nat):Int)) (nl:=some false) (nl':=some false) (es:=1) (ys:=[.int .i64 ((pos s t e k:Nat):Int)]) posL_succ rfl (.inr rfl)
        rw[posL_len,posL_len] at this
        exact this)
    ·by_cases ej:j=k
     ·rw[ej];exact hlf
     ·exact hk j (by omega)
    ·rw[pos_succ];omega
end Go.AM
namespace Go.AM
set_option maxHeartbeats 64000000
open Go Go.Proofs
set_option maxRecDepth 100000
theorem lastK_ex {s:DSchema} {t:DTree} {e:DEx} (ht:treeOk s t) (he:exOk s e):(∀j,j<lastK s t e→leafAt s t e j=false)∧leafAt s t e (lastK s t e)=true∧∀j,j≤lastK s t e→pos s t e j<t.nodes.length:=by
 have key:∃k,(∀j,j<k→leafAt s t e j=false)∧leafAt s t e k=true:=by
  by_cases h:∃k,(∀j,j<k→leafAt s t e j=false)∧leafAt s t e k=true
  ·exact h
  ·have all:∀k j,j<k→leafAt s t e j=false:=by
    intro k
    induction k with
    |zero=>intro j hj;omega
    |succ k ih=>
     intro j hj
     by_cases ej:j<k
     ·exact ih j ej
     ·have e2:j=k:=by omega
      cases hl:leafAt s t e j with
      |false=>rfl
      |true=>exact absurd ⟨k,ih,by rw[←e2];exact hl⟩ h
   have:=pos_lt ht he (all t.nodes.length)
   omega
 obtain⟨k,h1,h2⟩:=key
 rw[lastK_eq ht he h1 h2]
 exact⟨h1,h2,fun j hj=>(pos_lt ht he (fun i hi=>h1 i (by omega))).2⟩
def routeTo (s:DSchema) (t:DTree) (e:DEx):Int:=if treeOk s t∧exOk s e then (pos s t e (lastK s t e):Int) else -1
def totAt (s:DSchema) (t:DTree) (e:DEx) (k:Nat):List Int:=(t.nodes.getD (pos s t e k) default).stats.totals
def vt (s:DSchema) (t:DTree) (e:DEx):Nat→List Int
 |0=>List.replicate s.classes.length 0
 |k+1=>if 0<tot1 (totAt s t e k) then totAt s t e k else vt s t e k
theorem vt_succ (s:DSchema) (t:DTree) (e:DEx) (k:Nat):vt s t e (k+1)=if 0<tot1 (totAt s t e k) then totAt s t e k else vt s t e k:=rfl
def leafVote (s:DSchema) (t:DTree) (e:DEx):List Int:=if treeOk s t∧exOk s e then vt s t e (lastK s t e+1) else []
theorem implPathTo (s:DSchema) (t:DTree) (e:DEx) (u v u' v' w:Bool) (h:okSchema (2^47) s) (h':okTree (2^47) t) (he:okEx (2^47) e) (hTE:treeOk s t∧exOk s e):ACalls Tryz.prog 26 [.agg (cSchema u v s),.agg (cTree u' v' t),.agg (cEx w false e)] (fun r=>r=.val (.one (.sl true (some false) 1 (pathL s t e).length (fI (pathL s t e))))):=by
 have nt:Tryz.f26.ntmps=21:=rfl
 have rs:Tryz.f26.results=#[.tmp 6]:=rfl
 refine ACalls.of_run (m:=400) mixed Tryz.func26 rfl rfl (Nat.le_of_ble_eq_true rfl) ?_
 simp only[nt,rs]
 clear nt rs
 (try refine am ?_);(try exact amT)
 repeat' with_reducible first|apply zA|intro _
 all_goals try exact amA
 refine CallK.one (implTreeOk s t _ _ _ _ h h') (fun _=>amC) ?_
 (try refine am ?_);(try exact amT)
 repeat' with_reducible first|apply zA|intro _
 all_goals try exact amA
 refine CallG.one rfl (fun hg=>implExOk s e _ _ _ h he) ?_
 (try refine am ?_);(try exact amT)
 repeat' with_reducible first|apply zA|intro _
 all_goals try exact amA
 ·rename_i h1
  exfalso
  rcases h1 with h1|h1
  ·exact h1 hTE.1
  ·exact h1 hTE.2
 refine CallK.one (pathTo1 s t e _ _ _ _ _ h h' he hTE.1 hTE.2) (fun _=>amC) ?_
 (try refine am ?_);(try exact amT)
 refine FinK.val1 ?_ ?_
 all_goals try refine amF ?_
 all_goals try exact amT
theorem implPathTo0 (s:DSchema) (t:DTree) (e:DEx) (u v u' v' w:Bool) (h:okSchema (2^47) s) (h':okTree (2^47) t) (he:okEx (2^47) e) (hTE:¬(treeOk s t∧exOk s e)):ACalls Tryz.prog 26 [.agg (cSchema u v s),.agg (cTree u' v' t),.agg (cEx w false e)] (fun r=>r=.val (.one (nilAV))):=by
 have nt:Tryz.f26.ntmps=21:=rfl
 have rs:Tryz.f26.results=#[.tmp 6]:=rfl
 refine ACalls.of_run (m:=400) mixed Tryz.func26 rfl rfl (Nat.le_of_ble_eq_true rfl) ?_
 simp only[nt,rs]
 clear nt rs
 (try refine am ?_);(try exact amT)
 repeat' with_reducible first|apply zA|intro _
 all_goals try exact amA
 refine CallK.one (implTreeOk s t _ _ _ _ h h') (fun _=>amC) ?_
 (try refine am ?_);(try exact amT)
 repeat' with_reducible first|apply zA|intro _
 all_goals try exact amA
 refine CallG.one rfl (fun hg=>implExOk s e _ _ _ h he) ?_
 (try refine am ?_);(try exact amT)
 repeat' with_reducible first|apply zA|intro _
 all_goals try exact amA
 ·refine FinK.val1 ?_ ?_
  all_goals try refine amF ?_
  all_goals try exact amT
  all_goals first|done|exact ALe.of (.inr rfl) rfl (fun i hi=>by omega)
 ·rename_i h1
  exact absurd h1 hTE
theorem implRouteTo (s:DSchema) (t:DTree) (e:DEx) (u v u' v' w:Bool) (h:okSchema (2^47) s) (h':okTree (2^47) t) (he:okEx (2^47) e):ACalls Tryz.prog 27 [.agg (cSchema u v s),.agg (cTree u' v' t),.agg (cEx w false e)] (fun r=>r=.val (.one (.int .i64 (routeTo s t e)))):=by
 by_cases hTE:treeOk s t∧exOk s e
 ·have er:routeTo s t e=(pos s t e (lastK s t e):Int):=if_pos hTE
  rw[er]
  have hl:(pathL s t e).length=lastK s t e+1:=posL_len
  have hk:=(lastK_ex hTE.1 hTE.2).2.2 _ (Nat.le_refl _)
  have hp:=(pos_lt hTE.1 hTE.2 (lastK_ex hTE.1 hTE.2).1).1
  have hn:=hTE.1.2.1
  have e1:(((pathL s t e).length:Int) - 1).toNat=lastK s t e:=by omega
  have e2:(pathL s t e).getD (lastK s t e) 0=(pos s t e (lastK s t e):Int):=posL_get (by omega)
  have nt:Tryz.f27.ntmps=21:=rfl
  have rs:Tryz.f27.results=#[.tmp 6]:=rfl
  refine ACalls.of_run (m:=400) mixed Tryz.func27 rfl rfl (Nat.le_of_ble_eq_true rfl) ?_
  simp only[nt,rs]
  clear nt rs
  (try refine am ?_);(try exact amT)
  repeat' with_reducible first|apply zA|intro _
  all_goals try exact amA
  refine CallK.one (implPathTo s t e _ _ _ _ _ h h' he hTE) (fun _=>amC) ?_
  (try refine am ?_);(try exact amT)
  (try refine am ?_);(try simp only[e1]);(try refine am ?_);(try exact amT)
  repeat' with_reducible first|apply zA|intro _
  all_goals try exact amA
  refine FinK.val1 ?_ ?_
  all_goals try refine amF ?_
  all_goals try exact amT
  exact e2
 ·have er:routeTo s t e= -1:=if_neg hTE
  rw[er]
  have nt:Tryz.f27.ntmps=21:=rfl
  have rs:Tryz.f27.results=#[.tmp 6]:=rfl
  refine ACalls.of_run (m:=400) mixed Tryz.func27 rfl rfl (Nat.le_of_ble_eq_true rfl) ?_
  simp only[nt,rs]
  clear nt rs
  (try refine am ?_);(try exact amT)
  repeat' with_reducible first|apply zA|intro _
  all_goals try exact amA
  refine CallK.one (implPathTo0 s t e _ _ _ _ _ h h' he hTE) (fun _=>amC) ?_
  (try refine am ?_);(try exact amT)
  repeat' with_reducible first|apply zA|intro _
  all_goals try exact amA
  refine FinK.val1 ?_ ?_
  all_goals try refine amF ?_
  all_goals try exact amT
theorem specPathTo (s:DSchema) (t:DTree) (e:DEx) (u v u' v' w:Bool) (h:okSchema (2^47) s) (h':okTree (2^47) t) (he:okEx (2^47) e) (hTE:treeOk s t∧exOk s e):ACalls Tryz.prog 204 [.agg (cSchema u v s),.agg (cTree u' v' t),.agg (cEx w false e)] (fun r=>r=.val (.one (.sl true (some false) 1 (pathL s t e).length (fI (pathL s t e))))):=by
 have nt:Tryz.f204.ntmps=22:=rfl
 have rs:Tryz.f204.results=#[.tmp 6]:=rfl
 refine ACalls.of_run (m:=400) mixed Tryz.func204 rfl rfl (Nat.le_of_ble_eq_true rfl) ?_
 simp only[nt,rs]
 clear nt rs
 (try refine am ?_);(try exact amT)
 repeat' with_reducible first|apply zA|intro _
 all_goals try exact amA
 refine CallK.one (specTreeOk s t _ _ _ _ h h') (fun _=>amC) ?_
 (try refine am ?_);(try exact amT)
 repeat' with_reducible first|apply zA|intro _
 all_goals try exact amA
 refine CallG.one rfl (fun hg=>specExOk s e _ _ _ h he) ?_
 (try refine am ?_);(try exact amT)
 repeat' with_reducible first|apply zA|intro _
 all_goals try exact amA
 ·rename_i h1
  exfalso
  rcases h1 with h1|h1
  ·exact h1 hTE.1
  ·exact h1 hTE.2
 refine CallK.one (specWalk s t e _ _ _ _ _ h h' he hTE.1 hTE.2) (fun _=>amC) ?_
 (try refine am ?_);(try exact amT)
 refine FinK.val1 ?_ ?_
 all_goals try refine amF ?_
 all_goals try exact amT
theorem specPathTo0 (s:DSchema) (t:DTree) (e:DEx) (u v u' v' w:Bool) (h:okSchema (2^47) s) (h':okTree (2^47) t) (he:okEx (2^47) e) (hTE:¬(treeOk s t∧exOk s e)):ACalls Tryz.prog 204 [.agg (cSchema u v s),.agg (cTree u' v' t),.agg (cEx w false e)] (fun r=>r=.val (.one (.sl true (some false) 1 0 (fI [])))):=by
 have nt:Tryz.f204.ntmps=22:=rfl
 have rs:Tryz.f204.results=#[.tmp 6]:=rfl
 refine ACalls.of_run (m:=400) mixed Tryz.func204 rfl rfl (Nat.le_of_ble_eq_true rfl) ?_
 simp only[nt,rs]
 clear nt rs
 (try refine am ?_);(try exact amT)
 repeat' with_reducible first|apply zA|intro _
 all_goals try exact amA
 refine CallK.one (specTreeOk s t _ _ _ _ h h') (fun _=>amC) ?_
 (try refine am ?_);(try exact amT)
 repeat' with_reducible first|apply zA|intro _
 all_goals try exact amA
 refine CallG.one rfl (fun hg=>specExOk s e _ _ _ h he) ?_
 (try refine am ?_);(try exact amT)
 repeat' with_reducible first|apply zA|intro _
 all_goals try exact amA
 ·refine FinK.val1 ?_ ?_
  all_goals try refine amF ?_
  all_goals try exact amT
  all_goals first|done|exact ALe.of (.inr rfl) rfl (fun i hi=>by omega)
 ·rename_i h1
  exact absurd h1 hTE
theorem specRouteTo (s:DSchema) (t:DTree) (e:DEx) (u v u' v' w:Bool) (h:okSchema (2^47) s) (h':okTree (2^47) t) (he:okEx (2^47) e):ACalls Tryz.prog 192 [.agg (cSchema u v s),.agg (cTree u' v' t),.agg (cEx w false e)] (fun r=>r=.val (.one (.int .i64 (routeTo s t e)))):=by
 by_cases hTE:treeOk s t∧exOk s e
 ·have er:routeTo s t e=(pos s t e (lastK s t e):Int):=if_pos hTE
  rw[er]
  have hl:(pathL s t e).length=lastK s t e+1:=posL_len
  have hk:=(lastK_ex hTE.1 hTE.2).2.2 _ (Nat.le_refl _)
  have hp:=(pos_lt hTE.1 hTE.2 (lastK_ex hTE.1 hTE.2).1).1
  have hn:=hTE.1.2.1
  have e1:(((pathL s t e).length:Int) - 1).toNat=lastK s t e:=by omega
  have e2:(pathL s t e).getD (lastK s t e) 0=(pos s t e (lastK s t e):Int):=posL_get (by omega)
  have nt:Tryz.f192.ntmps=21:=rfl
  have rs:Tryz.f192.results=#[.tmp 6]:=rfl
  refine ACalls.of_run (m:=400) mixed Tryz.func192 rfl rfl (Nat.le_of_ble_eq_true rfl) ?_
  simp only[nt,rs]
  clear nt rs
  (try refine am ?_);(try exact amT)
  repeat' with_reducible first|apply zA|intro _
  all_goals try exact amA
  refine CallK.one (specPathTo s t e _ _ _ _ _ h h' he hTE) (fun _=>amC) ?_
  (try refine am ?_);(try exact amT)
  (try refine am ?_);(try simp only[e1]);(try refine am ?_);(try exact amT)
  repeat' with_reducible first|apply zA|intro _
  all_goals try exact amA
  refine FinK.val1 ?_ ?_
  all_goals try refine amF ?_
  all_goals try exact amT
  exact e2
 ·have er:routeTo s t e= -1:=if_neg hTE
  rw[er]
  have nt:Tryz.f192.ntmps=21:=rfl
  have rs:Tryz.f192.results=#[.tmp 6]:=rfl
  refine ACalls.of_run (m:=400) mixed Tryz.func192 rfl rfl (Nat.le_of_ble_eq_true rfl) ?_
  simp only[nt,rs]
  clear nt rs
  (try refine am ?_);(try exact amT)
  repeat' with_reducible first|apply zA|intro _
  all_goals try exact amA
  refine CallK.one (specPathTo0 s t e _ _ _ _ _ h h' he hTE) (fun _=>amC) ?_
  (try refine am ?_);(try exact amT)
  repeat' with_reducible first|apply zA|intro _
  all_goals try exact amA
  refine FinK.val1 ?_ ?_
  all_goals try refine amF ?_
  all_goals try exact amT
theorem implLeafVote (s:DSchema) (t:DTree) (e:DEx) (u v u' v' w:Bool) (h:okSchema (2^47) s) (h':okTree (2^47) t) (he:okEx (2^47) e) (hTE:treeOk s t∧exOk s e):ACalls Tryz.prog 25 [.agg (cSchema u v s),.agg (cTree u' v' t),.agg (cEx w false e)] (fun r=>r=.val (.one (aI true (leafVote s t e)))):=by
 have hlv:leafVote s t e=vt s t e (lastK s t e+1):=if_pos hTE
 have hl:(pathL s t e).length=lastK s t e+1:=posL_len
 obtain⟨hx1,hx2,hx3⟩:=lastK_ex hTE.1 hTE.2
 have hkn:=hx3 _ (Nat.le_refl _)
 have hp:=(pos_lt hTE.1 hTE.2 hx1).1
 have hn:=hTE.1.2.1
 have hcl:=hTE.2.1.2.1
 have nt:Tryz.f25.ntmps=42:=rfl
 have rs:Tryz.f25.results=#[.tmp 6]:=rfl
 refine ACalls.of_run (m:=400) mixed Tryz.func25 rfl rfl (Nat.le_of_ble_eq_true rfl) ?_
 simp only[nt,rs]
 clear nt rs
 (try refine am ?_);(try exact amT)
 repeat' with_reducible first|apply zA|intro _
 all_goals try exact amA
 refine CallK.one (implPathTo s t e _ _ _ _ _ h h' he hTE) (fun _=>amC) ?_
 (try refine am ?_);(try exact amT)
 repeat' with_reducible first|apply zA|intro _
 all_goals try exact amA
 all_goals try (rename_i h1;exfalso;omega)
 refine LoopK.auto (Nat) (fun q=>[(8,.one (.av (.int .i64 ((q:Int) - 1))))]) (fun q=>[]) [3,4,7] (k0:=?k01) (keepH:=?kh1) 800 (fun q=>q≤lastK s t e+1∧leafVote s t e=vt s t e q) (fun q=>q) (lastK s t e+1) ?kea1 ?keb1 ?_ ?_ ?_
 case kea1=>exact amN
 case keb1=>exact amN
 ·exact⟨Nat.le_refl _,hlv⟩
 ·refine LeA [] ?_ ?_ ?_
  all_goals try refine amL ?_
  all_goals try exact amT
  all_goals first|done|omega
 ·rintro q ⟨hq,hev⟩
  by_cases hq0:¬q=0
  ·obtain⟨p,rfl⟩:∃p,q=p+1:=⟨q - 1,by omega⟩
   have ep2:(((p+1:Nat):Int) - 1)=(p:Int):=by omega
   have e2:(pathL s t e).getD p 0=(pos s t e p:Int):=posL_get (by omega)
   have hpl:=hx3 p (by omega)
   have hno:=h'.1.2 _ (getD_mem (d:=default) hpl)
   have hst:=(hTE.1.2.2.2 _ hpl).1.1.2.2.1
   have hmx:=statsOk_mx hst
   have htl:(totAt s t e p).length≤3:=hmx.2.1
   (try refine am ?_);(try exact amT)
   (try refine am ?_);(try simp only[ep2]);(try refine am ?_);(try exact amT)
   (try refine am ?_);(try simp only[e2]);(try refine am ?_);(try exact amT)
   repeat' with_reducible first|apply zA|intro _
   all_goals try exact amA
   refine CallK.one (totalI (totAt s t e p) _ _ 999 (by omega) (by omega) hst.2.1.2 (by omega)) (fun _=>amC) ?_
   (try refine am ?_);(try exact amT)
   repeat' with_reducible first|apply zA|intro _
   all_goals try exact amA
   ·rename_i h2
    refine CallK.one (cloneI (totAt s t e p) _ (by omega)) (fun _=>amC) ?_
    (try refine am ?_);(try exact amT)
    refine FinK.val1 ?_ ?_
    all_goals try refine amF ?_
    all_goals try exact amT
    rw[hev,vt_succ,if_pos h2]
    exact .refl _
   ·rename_i h2
    refine⟨p,?_,⟨by omega,?_⟩,by omega⟩
    ·refine LeA [] ?_ ?_ ?_
     all_goals try refine amL ?_
     all_goals try exact amT
    ·rw[hev,vt_succ,if_neg h2]
  ·obtain rfl:q=0:=by omega
   (try refine am ?_);(try exact amT)
   repeat' with_reducible first|apply zA|intro _
   all_goals try exact amA
   refine CallK.one (zerosI s.classes.length (by omega)) (fun _=>amC) ?_
   (try refine am ?_);(try exact amT)
   refine FinK.val1 ?_ ?_
   all_goals try refine amF ?_
   all_goals try exact amT
   rw[hev]
   have ez:(List.replicate s.classes.length (0:Int)).length=s.classes.length:=List.length_replicate
   refine ALe.of (.inl rfl) ez.symm (fun i hi j hj=>.refl _)
theorem implLeafVote0 (s:DSchema) (t:DTree) (e:DEx) (u v u' v' w:Bool) (h:okSchema (2^47) s) (h':okTree (2^47) t) (he:okEx (2^47) e) (hTE:¬(treeOk s t∧exOk s e)):ACalls Tryz.prog 25 [.agg (cSchema u v s),.agg (cTree u' v' t),.agg (cEx w false e)] (fun r=>r=.val (.one (nilAV))):=by
 have nt:Tryz.f25.ntmps=42:=rfl
 have rs:Tryz.f25.results=#[.tmp 6]:=rfl
 refine ACalls.of_run (m:=400) mixed Tryz.func25 rfl rfl (Nat.le_of_ble_eq_true rfl) ?_
 simp only[nt,rs]
 clear nt rs
 (try refine am ?_);(try exact amT)
 repeat' with_reducible first|apply zA|intro _
 all_goals try exact amA
 refine CallK.one (implPathTo0 s t e _ _ _ _ _ h h' he hTE) (fun _=>amC) ?_
 (try refine am ?_);(try exact amT)
 repeat' with_reducible first|apply zA|intro _
 all_goals try exact amA
 refine FinK.val1 ?_ ?_
 all_goals try refine amF ?_
 all_goals try exact amT
 all_goals first|done|exact ALe.of (.inr rfl) rfl (fun i hi=>by omega)
theorem topOfNil:ACalls Tryz.prog 64 [.one nilAV] (fun r=>r=.val (.one (.int .i64 (-1)))):=by
 have nt:Tryz.f64.ntmps=10:=rfl
 have rs:Tryz.f64.results=#[.tmp 2]:=rfl
 refine ACalls.of_run (m:=400) mixed Tryz.func64 rfl rfl (Nat.le_of_ble_eq_true rfl) ?_
 simp only[nt,rs]
 clear nt rs
 (try refine am ?_);(try exact amT)
 repeat' with_reducible first|apply zA|intro _
 all_goals try exact amA
 refine FinK.val1 ?_ ?_
 all_goals try refine amF ?_
 all_goals try exact amT
theorem implTreeSays (s:DSchema) (t:DTree) (e:DEx) (u v u' v' w:Bool) (h:okSchema (2^47) s) (h':okTree (2^47) t) (he:okEx (2^47) e):ACalls Tryz.prog 20 [.agg (cSchema u v s),.agg (cTree u' v' t),.agg (cEx w false e)] (fun r=>r=.val (.one (.int .i64 (topOf (leafVote s t e))))):=by
 by_cases hTE:treeOk s t∧exOk s e
 ·have hlv:leafVote s t e=vt s t e (lastK s t e+1):=if_pos hTE
  have hlen:∀k,k≤lastK s t e+1→(vt s t e k).length≤3:=by
   intro k
   induction k with
   |zero=>intro _;simp[vt];exact hTE.2.1.2.1.2
   |succ k ih=>
    intro hk
    rw[vt_succ]
    split
    ·exact(statsOk_mx (hTE.1.2.2.2 _ ((lastK_ex hTE.1 hTE.2).2.2 k (by omega))).1.1.2.2.1).2.1
    ·exact ih (by omega)
  have hl3:=hlen _ (Nat.le_refl _)
  have nt:Tryz.f20.ntmps=12:=rfl
  have rs:Tryz.f20.results=#[.tmp 6]:=rfl
  refine ACalls.of_run (m:=400) mixed Tryz.func20 rfl rfl (Nat.le_of_ble_eq_true rfl) ?_
  simp only[nt,rs]
  clear nt rs
  (try refine am ?_);(try exact amT)
  repeat' with_reducible first|apply zA|intro _
  all_goals try exact amA
  refine CallK.one (implLeafVote s t e _ _ _ _ _ h h' he hTE) (fun _=>amC) ?_
  (try refine am ?_);(try exact amT)
  repeat' with_reducible first|apply zA|intro _
  all_goals try exact amA
  refine CallK.one (implTopOf (leafVote s t e) _ _ (by rw[hlv];omega)) (fun _=>amC) ?_
  (try refine am ?_);(try exact amT)
  repeat' with_reducible first|apply zA|intro _
  all_goals try exact amA
  refine FinK.val1 ?_ ?_
  all_goals try refine amF ?_
  all_goals try exact amT
 ·have hlv:leafVote s t e=[]:=if_neg hTE
  rw[hlv]
  have nt:Tryz.f20.ntmps=12:=rfl
  have rs:Tryz.f20.results=#[.tmp 6]:=rfl
  refine ACalls.of_run (m:=400) mixed Tryz.func20 rfl rfl (Nat.le_of_ble_eq_true rfl) ?_
  simp only[nt,rs]
  clear nt rs
  (try refine am ?_);(try exact amT)
  repeat' with_reducible first|apply zA|intro _
  all_goals try exact amA
  refine CallK.one (implLeafVote0 s t e _ _ _ _ _ h h' he hTE) (fun _=>amC) ?_
  (try refine am ?_);(try exact amT)
  repeat' with_reducible first|apply zA|intro _
  all_goals try exact amA
  refine CallK.one (topOfNil) (fun _=>amC) ?_
  (try refine am ?_);(try exact amT)
  repeat' with_reducible first|apply zA|intro _
  all_goals try exact amA
  refine FinK.val1 ?_ ?_
  all_goals try refine amF ?_
  all_goals try exact amT
  all_goals first|done|rfl
end Go.AM
