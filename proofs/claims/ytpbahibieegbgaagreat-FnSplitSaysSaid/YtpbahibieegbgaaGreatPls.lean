/- Lemmas for the proof of this claim. -/
import Derived.Test.YtpbahibieegbgaaGreatSpl
import Derived.Test.YtpbahibieegbgaaGreatPth
namespace Go.AM
open Go Go.Proofs
set_option maxRecDepth 100000
theorem branches_ge {s:DSchema} {f:DFork} (h:forkOk s f):2≤branches s f:=by
 have e:branches s f=if f.at_= -1 then bins (s.attrs.getD f.attr.toNat default) else 2:=if_pos h
 rw[e]
 split
 ·exact(attrOk_bins (h.1.2.2.2.1 _ (by have:=h.2.1;omega))).1
 ·omega
theorem heaviest_in {s:DSchema} {t:DStats} {f:DFork} (h:statsOk s t) (hc:0<t.cells.length) (hf:forkOk s f):0≤heaviest s t f∧heaviest s t f≤(branches s f:Int) - 1:=by
 have e:heaviest s t f=topOf ((List.range (branches s f)).map fun (i:Nat)=>tot1 (btL s t f (i:Int))):=if_pos ⟨h,by omega⟩
 have hb:=branches_ge hf
 have hl:((List.range (branches s f)).map fun (i:Nat)=>tot1 (btL s t f (i:Int))).length=branches s f:=by simp
 rw[e]
 unfold topOf
 have:=topS_lt ((List.range (branches s f)).map fun (i:Nat)=>tot1 (btL s t f (i:Int))) ((List.range (branches s f)).map fun (i:Nat)=>tot1 (btL s t f (i:Int))).length
 rw[hl] at this ⊢
 omega
theorem rep_get (m i:Nat):(List.replicate m (0:Int)).getD i 0=0:=by
 rw[List.getD_eq_getElem?_getD,List.getElem?_replicate]
 split<;>rfl
theorem rep_tot (m:Nat):tot1 (List.replicate m (0:Int))=0:=by
 have:=tot1_bd (l:=List.replicate m (0:Int)) (c:=0) (fun i _=>by rw[rep_get];omega)
 omega
theorem rep_wts {m:Nat} {n:Int} (h:(m:Int)=n):wts (List.replicate m (0:Int)) n:=
 ⟨by rw[List.length_replicate];exact h,fun i _=>by rw[rep_get];omega⟩
theorem colS_rep (m c k:Nat):∀n,colS (List.replicate m (0:Int)) c k n=0
 |0=>rfl
 |n+1=>by
  rw[colS_succ,colS_rep m c k n,rep_get]
  split<;>rfl
theorem new_tot {s:DSchema}:tot1 (statsNew s).totals=0:=by
 unfold statsNew
 split
 ·exact rep_tot _
 ·rfl
theorem new_ok {s:DSchema} (h:schemaOk s):statsOk s (statsNew s):=by
 have e:statsNew s=⟨List.replicate s.classes.length 0,s.attrs.map (zr s.classes.length)⟩:=if_pos h
 rw[e]
 refine⟨h,rep_wts rfl,by show tot1 (List.replicate _ _)≤999;rw[rep_tot];decide,.inr ⟨by show (s.attrs.map _).length=_;rw[List.length_map],fun i hi=>?_⟩⟩
 have hi2:i<s.attrs.length:=by
  have:(s.attrs.map (zr s.classes.length)).length=s.attrs.length:=List.length_map _
  have hi:i<(s.attrs.map (zr s.classes.length)).length:=hi
  omega
 have eg:(s.attrs.map (zr s.classes.length)).getD i []=List.replicate (bins (s.attrs.getD i default)*s.classes.length) 0:=by
  simp[List.getD,hi2,zr]
 refine⟨?_,fun k hk=>?_⟩
 ·show wts ((s.attrs.map (zr s.classes.length)).getD i []) _
  rw[eg]
  exact rep_wts (by simp)
 ·show colS ((s.attrs.map (zr s.classes.length)).getD i []) _ _ _≤(List.replicate s.classes.length (0:Int)).getD k 0
  rw[eg,colS_rep,rep_get]
  exact Int.le_refl _
theorem kidsN_get {n b k:Nat} (h:k<b):(kidsN n b).getD k 0=(n:Int)+(k:Int):=by simp[kidsN,List.getD,h]
theorem kidsN_asc (n b:Nat):asc (kidsN n b):=fun i hi=>by
 rw[kidsN_len] at hi
 rw[kidsN_get (by omega),kidsN_get (by omega)]
 omega
theorem sp_lt {s:DSchema} {t:DTree} {i:Nat} {f:DFork} {l:List (List Int)} (hi:i<t.nodes.length) {j:Nat} (h:j<t.nodes.length):(spNodes s t i f l).getD j default=if j=i then spNode s t i f l.length else t.nodes.getD j default:=by
 rw[spNodes_lt s t i f l h]
 by_cases e:j=i
 ·subst e
  rw[getD_set_eq hi,if_pos rfl]
 ·rw[getD_set_ne (fun q=>e q.symm),if_neg e]
theorem split_treeOk {s:DSchema} {t:DTree} {i:Nat} {f:DFork} {l:List (List Int)} (hP:splitP s t (i:Int) f l):treeOk s ⟨spNodes s t i f l,t.seen⟩:=by
 obtain⟨ht,p2,p3,p4,p5,p6,p7,p8⟩:=hP
 rw[Int.toNat_natCast] at p3 p6
 have hi:i<t.nodes.length:=by omega
 obtain⟨q1,q2,q3,q4⟩:=splitP_leaf ht hi p3
 have hlen:=spNodes_len s t i f l
 have hce:=(actB_leaf p3).2
 have hsame:∀{j:Nat},j<t.nodes.length→j≠i→(spNodes s t i f l).getD j default=t.nodes.getD j default:=fun h1 h2=>by rw[sp_lt hi h1,if_neg h2]
 have hat:(spNodes s t i f l).getD i default=spNode s t i f l.length:=by rw[sp_lt hi hi,if_pos rfl]
 have hup:∀{j:Nat},j<t.nodes.length→((spNodes s t i f l).getD j default).up=(t.nodes.getD j default).up:=fun {j} h1=>by
  rw[sp_lt hi h1]
  by_cases e:j=i
  ·rw[if_pos e,e];rfl
  ·rw[if_neg e]
 refine⟨ht.1,by show 1≤(spNodes s t i f l).length∧(spNodes s t i f l).length≤31;omega,ht.2.2.1,fun j hj=>?_⟩
 have hj:j<(spNodes s t i f l).length:=hj
 by_cases hjn:j<t.nodes.length
 ·obtain⟨hn,hl⟩:=ht.2.2.2 j hjn
  show nodeOk s _ j ((spNodes s t i f l).getD j default)∧linkOk _ j ((spNodes s t i f l).getD j default)
  -- what stands above a node is no leaf,so it stays as it was
  have hlink:∀n:DNode,n.up=(t.nodes.getD j default).up→n.depth=(t.nodes.getD j default).depth→n.born=(t.nodes.getD j default).born→linkOk ⟨spNodes s t i f l,t.seen⟩ j n:=fun n e1 e2 e3=>by
   unfold linkOk at hl ⊢
   by_cases h0:j=0
   ·rw[if_pos h0] at hl ⊢
    rw[e1,e2,e3]
    exact hl
   ·rw[if_neg h0] at hl ⊢
    rw[e1,e2,e3]
    obtain⟨l1,l2,l3,l4,l5⟩:=hl
    have hne:(t.nodes.getD j default).up.toNat≠i:=fun e=>by
     rw[e,q1] at l2
     exact absurd l2 (by decide)
    have hs:=hsame (j:=(t.nodes.getD j default).up.toNat) (by omega) hne
    show _∧((spNodes s t i f l).getD _ default).leaf=false∧(∃k,k<((spNodes s t i f l).getD _ default).kids.length∧((spNodes s t i f l).getD _ default).kids.getD k 0=_)∧((spNodes s t i f l).getD _ default).depth=_∧((spNodes s t i f l).getD _ default).born≤_
    rw[hs]
    exact⟨l1,l2,l3,l4,l5⟩
  by_cases e:j=i
  ·subst e
   rw[hat]
   refine⟨⟨⟨hn.1.1,hn.1.2.1,⟨hn.1.2.2.1.1,hn.1.2.2.1.2.1,hn.1.2.2.1.2.2.1,.inl rfl⟩,hn.1.2.2.2⟩,?_⟩,hlink _ rfl rfl rfl⟩
   show if false=true then _ else splitOk s _ j (spNode s t j f l.length)
   rw[if_neg Bool.false_ne_true]
   refine⟨p4,(kidsN_len _ _).trans p5,kidsN_asc _ _,?_,rfl,rfl,fun k hk=>?_⟩
   ·have:=heaviest_in hn.1.2.2.1 hce p4
    show 0≤heaviest s (t.nodes.getD j default).stats f∧heaviest s (t.nodes.getD j default).stats f≤((kidsN t.nodes.length l.length).length:Int) - 1
    rw[kidsN_len]
    omega
   ·have hk:k<l.length:=by
     have hk:k<(kidsN t.nodes.length l.length).length:=hk
     rwa [kidsN_len] at hk
    show kidOk _ j ((kidsN t.nodes.length l.length).getD k 0)
    rw[kidsN_get hk]
    refine⟨by show _∧_≤((spNodes s t j f l).length:Int) - 1;omega,?_⟩
    have et:((t.nodes.length:Int)+(k:Int)).toNat=t.nodes.length+k:=by omega
    show ((spNodes s t j f l).getD ((t.nodes.length:Int)+(k:Int)).toNat default).up=_
    rw[et,spNodes_ge s t j f l hk]
    rfl
  ·rw[hsame hjn e]
   refine⟨⟨hn.1,?_⟩,hlink _ rfl rfl rfl⟩
   have h2:=hn.2
   by_cases hlf:(t.nodes.getD j default).leaf=true
   ·rw[if_pos hlf] at h2 ⊢
    exact h2
   ·rw[if_neg hlf] at h2 ⊢
    obtain⟨b1,b2,b3,b4,b5,b6,b7⟩:=h2
    refine⟨b1,b2,b3,b4,b5,b6,fun k hk=>?_⟩
    have h7:=b7 k hk
    refine⟨by have:=h7.1;show _∧_≤((spNodes s t i f l).length:Int) - 1;omega,?_⟩
    show ((spNodes s t i f l).getD _ default).up=_
    rw[hup (by have:=h7.1;omega)]
    exact h7.2
 ·obtain⟨k,rfl⟩:∃k,j=t.nodes.length+k:=⟨j - t.nodes.length,by omega⟩
  have hk:k<l.length:=by omega
  show nodeOk s _ _ ((spNodes s t i f l).getD (t.nodes.length+k) default)∧linkOk _ _ ((spNodes s t i f l).getD (t.nodes.length+k) default)
  rw[spNodes_ge s t i f l hk]
  have hseen:=ht.2.2.1
  have hni:=(ht.2.2.2 i hi).1.1
  constructor
  ·refine⟨⟨?_,?_,new_ok ht.1,p8 k hk⟩,?_⟩
   ·show 0≤(t.nodes.getD i default).depth+1∧(t.nodes.getD i default).depth+1≤6
    omega
   ·show 0≤t.seen∧t.seen≤t.seen
    omega
   ·show if true=true then leafOk (leafN s t i (l.getD k [])) else _
    rw[if_pos rfl]
    refine⟨⟨rfl,rfl⟩,rfl,rfl,Int.le_refl _,?_⟩
    show (0:Int)≤if (statsNew s).cells.length=0 then 0 else tot1 (statsNew s).totals
    rw[new_tot]
    split<;>exact Int.le_refl _
  ·unfold linkOk
   rw[if_neg (by omega)]
   have eu:((i:Nat):Int).toNat=i:=Int.toNat_natCast i
   show (0≤(i:Int)∧(i:Int)≤_)∧((spNodes s t i f l).getD (i:Int).toNat default).leaf=false∧(∃k',k'<((spNodes s t i f l).getD (i:Int).toNat default).kids.length∧((spNodes s t i f l).getD (i:Int).toNat default).kids.getD k' 0=_)∧((spNodes s t i f l).getD (i:Int).toNat default).depth=(t.nodes.getD i default).depth+1 - 1∧((spNodes s t i f l).getD (i:Int).toNat default).born≤t.seen
   rw[eu,hat]
   refine⟨by omega,rfl,⟨k,by show k<(kidsN t.nodes.length l.length).length;rw[kidsN_len];exact hk,?_⟩,?_,hni.2.1.2⟩
   ·show (kidsN t.nodes.length l.length).getD k 0=_
    rw[kidsN_get hk]
    omega
   ·show (t.nodes.getD i default).depth=_
    omega
theorem sp_tot {s:DSchema} {t:DTree} {i:Nat} {f:DFork} {l:List (List Int)} (hi:i<t.nodes.length) {j:Nat} (h:j<t.nodes.length):((spNodes s t i f l).getD j default).stats.totals=(t.nodes.getD j default).stats.totals:=by
 rw[sp_lt hi h]
 by_cases e:j=i
 ·rw[if_pos e,e];rfl
 ·rw[if_neg e]
theorem split_vote {s:DSchema} {t:DTree} {i:Nat} {f:DFork} {l:List (List Int)} (hP:splitP s t (i:Int) f l) (e:DEx):leafVote s ⟨spNodes s t i f l,t.seen⟩ e=leafVote s t e:=by
 have hT:=split_treeOk hP
 obtain⟨ht,p2,p3,p4,p5,p6,p7,p8⟩:=hP
 rw[Int.toNat_natCast] at p3 p6
 have hi:i<t.nodes.length:=by omega
 obtain⟨q1,q2,q3,q4⟩:=splitP_leaf ht hi p3
 unfold leafVote
 by_cases he:exOk s e
 ·rw[if_pos ⟨hT,he⟩,if_pos ⟨ht,he⟩]
  obtain⟨k1,k2,k3⟩:=lastK_ex ht he
  have hat:(spNodes s t i f l).getD i default=spNode s t i f l.length:=by rw[sp_lt hi hi,if_pos rfl]
  have hne:∀j,j<lastK s t e→pos s t e j≠i:=fun j hj q=>by
   have:=k1 j hj
   unfold leafAt at this
   rw[q,q1] at this
   exact absurd this (by decide)
  have hpos:∀j,j≤lastK s t e→pos s ⟨spNodes s t i f l,t.seen⟩ e j=pos s t e j:=fun j=>by
   induction j with
   |zero=>intro _;rfl
   |succ j ih=>
    intro hj
    rw[pos_succ,pos_succ,ih (by omega)]
    have e1:(spNodes s t i f l).getD (pos s t e j) default=t.nodes.getD (pos s t e j) default:=by
     rw[sp_lt hi (k3 j (by omega)),if_neg (hne j (by omega))]
    unfold nxt
    show (((spNodes s t i f l).getD (pos s t e j) default).kids.getD (brAt s e ((spNodes s t i f l).getD (pos s t e j) default)).toNat 0).toNat=_
    rw[e1]
  have hlf:∀j,j<lastK s t e→leafAt s ⟨spNodes s t i f l,t.seen⟩ e j=false:=fun j hj=>by
   have:=k1 j hj
   unfold leafAt at this ⊢
   rw[hpos j (by omega)]
   show ((spNodes s t i f l).getD (pos s t e j) default).leaf=false
   rw[sp_lt hi (k3 j (by omega)),if_neg (hne j hj)]
   exact this
  have hvt:∀j,j≤lastK s t e+1→vt s ⟨spNodes s t i f l,t.seen⟩ e j=vt s t e j:=fun j=>by
   induction j with
   |zero=>intro _;rfl
   |succ j ih=>
    intro hj
    have e1:totAt s ⟨spNodes s t i f l,t.seen⟩ e j=totAt s t e j:=by
     unfold totAt
     rw[hpos j (by omega)]
     exact sp_tot hi (k3 j (by omega))
    rw[vt_succ,vt_succ,ih (by omega),e1]
  by_cases hK:pos s t e (lastK s t e)=i
  ·have hlK:leafAt s ⟨spNodes s t i f l,t.seen⟩ e (lastK s t e)=false:=by
    unfold leafAt
    rw[hpos _ (Nat.le_refl _),hK]
    show ((spNodes s t i f l).getD i default).leaf=false
    rw[hat]
    rfl
   have hlen:=spNodes_len s t i f l
   have hw:=walk_facts (i:=i) hT he (by show i<(spNodes s t i f l).length;omega) (by show ((spNodes s t i f l).getD i default).leaf=false;rw[hat];rfl)
   obtain⟨_,_,w3,w4,w5,w6⟩:=hw
   have w3:0≤brAt s e ((spNodes s t i f l).getD i default)∧brAt s e ((spNodes s t i f l).getD i default)<((((spNodes s t i f l).getD i default).kids).length:Int):=w3
   have w4:((spNodes s t i f l).getD i default).kids.getD (brAt s e ((spNodes s t i f l).getD i default)).toNat 0=(nxt s ⟨spNodes s t i f l,t.seen⟩ e i:Int):=w4
   have ek:((spNodes s t i f l).getD i default).kids=kidsN t.nodes.length l.length:=by rw[hat];rfl
   rw[ek,kidsN_len] at w3
   have hbr:(brAt s e ((spNodes s t i f l).getD i default)).toNat<l.length:=by omega
   rw[ek,kidsN_get hbr] at w4
   have hp1:pos s ⟨spNodes s t i f l,t.seen⟩ e (lastK s t e+1)=t.nodes.length+(brAt s e ((spNodes s t i f l).getD i default)).toNat:=by
    rw[pos_succ,hpos _ (Nat.le_refl _),hK]
    omega
   have hleaf:leafAt s ⟨spNodes s t i f l,t.seen⟩ e (lastK s t e+1)=true:=by
    unfold leafAt
    rw[hp1]
    show ((spNodes s t i f l).getD _ default).leaf=true
    rw[spNodes_ge s t i f l hbr]
    rfl
   have hL:lastK s ⟨spNodes s t i f l,t.seen⟩ e=lastK s t e+1:=lastK_eq hT he (fun j hj=>by
    by_cases q:j=lastK s t e
    ·rw[q];exact hlK
    ·exact hlf j (by omega)) hleaf
   rw[hL,vt_succ,if_neg,hvt _ (Nat.le_refl _)]
   unfold totAt
   rw[hp1]
   show ¬0<tot1 ((spNodes s t i f l).getD _ default).stats.totals
   rw[spNodes_ge s t i f l hbr]
   show ¬0<tot1 (statsNew s).totals
   rw[new_tot]
   decide
  ·have hL:lastK s ⟨spNodes s t i f l,t.seen⟩ e=lastK s t e:=lastK_eq hT he hlf (by
    unfold leafAt at k2 ⊢
    rw[hpos _ (Nat.le_refl _)]
    show ((spNodes s t i f l).getD (pos s t e (lastK s t e)) default).leaf=true
    rw[sp_lt hi (k3 _ (Nat.le_refl _)),if_neg hK]
    exact k2)
   rw[hL,hvt _ (Nat.le_refl _)]
 ·rw[if_neg (fun h=>he h.2),if_neg (fun h=>he h.2)]
end Go.AM
