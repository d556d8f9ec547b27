/- Lemmas for the proof of this claim. -/
import Derived.Test.YtpbahibieegbgaaGreatEnf
import Derived.Test.YtpbahibieegbgaaGreatPlp
namespace Go.AM
open Go Go.Proofs
set_option maxRecDepth 100000
structure Alike (t u:DTree):Prop where
 len:u.nodes.length=t.nodes.length
 seen:u.seen=t.seen
 leaf:∀i,(u.nodes.getD i default).leaf=(t.nodes.getD i default).leaf
 fork:∀i,(u.nodes.getD i default).fork=(t.nodes.getD i default).fork
 kids:∀i,(u.nodes.getD i default).kids=(t.nodes.getD i default).kids
 miss:∀i,(u.nodes.getD i default).miss=(t.nodes.getD i default).miss
 depth:∀i,(u.nodes.getD i default).depth=(t.nodes.getD i default).depth
 up:∀i,(u.nodes.getD i default).up=(t.nodes.getD i default).up
 born:∀i,(u.nodes.getD i default).born=(t.nodes.getD i default).born
 tot:∀i,(u.nodes.getD i default).stats.totals=(t.nodes.getD i default).stats.totals
theorem Alike.refl (t:DTree):Alike t t:=⟨rfl,rfl,fun _=>rfl,fun _=>rfl,fun _=>rfl,fun _=>rfl,fun _=>rfl,fun _=>rfl,fun _=>rfl,fun _=>rfl⟩
theorem Alike.trans {t u v:DTree} (a:Alike t u) (b:Alike u v):Alike t v:=
 ⟨b.len.trans a.len,b.seen.trans a.seen,fun i=>(b.leaf i).trans (a.leaf i),fun i=>(b.fork i).trans (a.fork i),fun i=>(b.kids i).trans (a.kids i),fun i=>(b.miss i).trans (a.miss i),fun i=>(b.depth i).trans (a.depth i),fun i=>(b.up i).trans (a.up i),fun i=>(b.born i).trans (a.born i),fun i=>(b.tot i).trans (a.tot i)⟩
theorem alike_pos {t u:DTree} (a:Alike t u) (s:DSchema) (e:DEx):∀k,pos s u e k=pos s t e k
 |0=>rfl
 |k+1=>by
  rw[pos_succ,pos_succ,alike_pos a s e k]
  unfold nxt brAt
  simp only[a.kids,a.fork,a.miss]
theorem alike_leafAt {t u:DTree} (a:Alike t u) (s:DSchema) (e:DEx):leafAt s u e=leafAt s t e:=by
 funext k
 unfold leafAt
 rw[alike_pos a s e k,a.leaf]
theorem alike_lastK {t u:DTree} (a:Alike t u) (s:DSchema) (e:DEx):lastK s u e=lastK s t e:=by
 unfold lastK
 rw[alike_leafAt a s e,a.len]
theorem alike_vt {t u:DTree} (a:Alike t u) (s:DSchema) (e:DEx):∀k,vt s u e k=vt s t e k
 |0=>rfl
 |k+1=>by
  rw[vt_succ,vt_succ,alike_vt a s e k]
  unfold totAt
  rw[alike_pos a s e k,a.tot]
theorem alike_vote {t u:DTree} (a:Alike t u) {s:DSchema} (e:DEx) (ht:treeOk s t) (hu:treeOk s u):leafVote s u e=leafVote s t e:=by
 unfold leafVote
 by_cases he:exOk s e
 ·rw[if_pos ⟨hu,he⟩,if_pos ⟨ht,he⟩,alike_lastK a s e,alike_vt a s e]
 ·rw[if_neg (fun h=>he h.2),if_neg (fun h=>he h.2)]
theorem enfT_get {t:DTree} {j:Nat} (hj:j<t.nodes.length) (i:Nat):(enfT t j).nodes.getD i default=if i=j then thinNode (t.nodes.getD i default) else t.nodes.getD i default:=by
 show (t.nodes.set j _).getD i default=_
 by_cases e:i=j
 ·subst e
  rw[getD_set_eq hj,if_pos rfl]
 ·rw[getD_set_ne (fun q=>e q.symm),if_neg e]
theorem enfT_alike {t:DTree} {j:Nat} (hj:j<t.nodes.length):Alike t (enfT t j):=by
 refine⟨by show (t.nodes.set j _).length=_;rw[List.length_set],rfl,?_,?_,?_,?_,?_,?_,?_,?_⟩
 all_goals (intro i;rw[enfT_get hj];split<;>rfl)
theorem act_leaf {n:DNode} (h:actB n=true):n.leaf=true:=by
 unfold actB at h
 rw[Bool.and_eq_true] at h
 exact h.1
theorem enf_treeOk {s:DSchema} {t:DTree} {j:Nat} (ht:treeOk s t) (hj:j<t.nodes.length) (ha:actB (t.nodes.getD j default)=true):treeOk s (enfT t j):=by
 have A:=enfT_alike hj
 refine⟨ht.1,by rw[A.len];exact ht.2.1,ht.2.2.1,fun i hi=>?_⟩
 have hi':i<t.nodes.length:=by rw[←A.len];exact hi
 obtain⟨hn,hl⟩:=ht.2.2.2 i hi'
 constructor
 ·rw[enfT_get hj]
  by_cases e:i=j
  ·subst e
   rw[if_pos rfl]
   have hlf:=act_leaf ha
   obtain⟨⟨a1,a2,a3,a4⟩,a5⟩:=hn
   rw[if_pos hlf] at a5
   refine⟨⟨a1,a2,⟨a3.1,a3.2.1,a3.2.2.1,.inl rfl⟩,a4⟩,?_⟩
   show if (t.nodes.getD i default).leaf=true then leafOk (thinNode (t.nodes.getD i default)) else _
   rw[if_pos hlf]
   exact⟨a5.1,a5.2.1,a5.2.2.1,Int.le_refl _,Int.le_refl _⟩
  ·rw[if_neg e]
   refine⟨hn.1,?_⟩
   have h2:=hn.2
   by_cases hlf:(t.nodes.getD i default).leaf=true
   ·rw[if_pos hlf] at h2 ⊢
    exact h2
   ·rw[if_neg hlf] at h2 ⊢
    obtain⟨b1,b2,b3,b4,b5,b6,b7⟩:=h2
    refine⟨b1,b2,b3,b4,b5,b6,fun k hk=>?_⟩
    have:=b7 k hk
    exact⟨by rw[A.len];exact this.1,by rw[A.up];exact this.2⟩
 ·unfold linkOk at hl ⊢
  simp only[A.up,A.leaf,A.kids,A.depth,A.born]
  exact hl
theorem ixs_in {p:DNode→Bool} {l:List DNode} {i n:Nat} (hi:i<n) (hp:p (l.getD i default)=true):(i:Int)∈ixs p l n:=by
 unfold ixs
 exact List.mem_map.2 ⟨i,List.mem_filter.2 ⟨List.mem_range.2 hi,hp⟩,rfl⟩
theorem ixs_sorted (p:DNode→Bool) (l:List DNode) (n:Nat):(ixs p l n).Pairwise (· < ·):=by
 unfold ixs
 refine List.Pairwise.map _ (fun a b (h:a<b)=>?_) (List.Pairwise.filter _ List.pairwise_lt_range)
 show (a:Int)<(b:Int)
 omega
theorem ixs_le {p:DNode→Bool} {l:List DNode} {n i j:Nat} (h:i≤j) (hj:j<(ixs p l n).length):(ixs p l n).getD i 0≤(ixs p l n).getD j 0:=by
 by_cases e:i=j
 ·rw[e];exact Int.le_refl _
 ·have:=List.pairwise_iff_getElem.1 (ixs_sorted p l n) i j (by omega) hj (by omega)
  simp only[List.getD_eq_getElem?_getD,List.getElem?_eq_getElem hj,List.getElem?_eq_getElem (show i<(ixs p l n).length by omega),Option.getD_some]
  omega
theorem poorS_min {s:DSchema} {t:DTree} {l:List Int} (hp:∀i,i<l.length→0≤l.getD i 0):∀{n:Nat},n≤l.length→0<n→∃i,i<n∧poorS s t l n=l.getD i 0∧(∀k,k<n→prm s t (l.getD i 0)≤prm s t (l.getD k 0))∧∀k,k<i→prm s t (l.getD i 0)<prm s t (l.getD k 0)
 |0,_,h=>absurd h (Nat.lt_irrefl _)
 |n+1,hn,_=>by
  rw[poorS_succ]
  by_cases h0:n=0
  ·subst h0
   refine⟨0,by omega,if_pos (.inl (by show (-1:Int)<0;decide)),fun k hk=>?_,fun k hk=>absurd hk (Nat.not_lt_zero _)⟩
   obtain rfl:k=0:=by omega
   exact Int.le_refl _
  ·obtain⟨i,h1,h2,h3,h4⟩:=poorS_min (s:=s) (t:=t) hp (n:=n) (by omega) (by omega)
   have h5:=hp i (by omega)
   rw[h2]
   by_cases hc:prm s t (l.getD n 0)<prm s t (l.getD i 0)
   ·refine⟨n,by omega,if_pos (.inr hc),fun k hk=>?_,fun k hk=>?_⟩
    ·by_cases e:k=n
     ·rw[e];exact Int.le_refl _
     ·have:=h3 k (by omega);omega
    ·have:=h3 k hk;omega
   ·refine⟨i,by omega,if_neg (by rintro(h|h);omega;exact hc h),fun k hk=>?_,h4⟩
    by_cases e:k=n
    ·rw[e];omega
    ·exact h3 k (by omega)
theorem poorest_min {s:DSchema} {t:DTree} (ht:treeOk s t) (hn:0<(activeL t).length):∃j:Nat,poorest s t=j∧j<t.nodes.length∧actB (t.nodes.getD j default)=true∧
 ∀x:Nat,x<t.nodes.length→actB (t.nodes.getD x default)=true→promise s (t.nodes.getD j default).stats≤promise s (t.nodes.getD x default).stats∧(promise s (t.nodes.getD j default).stats=promise s (t.nodes.getD x default).stats→j≤x):=by
 have hr:=activeL_rng t
 obtain⟨i,h1,h2,h3,h4⟩:=poorS_min (s:=s) (t:=t) (fun i hi=>(hr i hi).1) (Nat.le_refl _) hn
 have e:poorest s t=(activeL t).getD i 0:=(if_pos ht).trans h2
 obtain⟨j,ej,hj,hja⟩:=ixs_mem (getD_mem (d:=0) h1)
 have ej:(activeL t).getD i 0=(j:Int):=ej
 refine⟨j,by rw[e,ej],hj,hja,fun x hx hxa=>?_⟩
 have hin:(x:Int)∈activeL t:=ixs_in hx hxa
 obtain⟨k,hk,ek⟩:=List.getElem_of_mem hin
 have ek2:(activeL t).getD k 0=(x:Int):=by
  rw[List.getD_eq_getElem?_getD,List.getElem?_eq_getElem hk];exact ek
 have p1:=h3 k hk
 rw[ej,ek2] at p1
 refine⟨p1,fun q=>?_⟩
 by_cases hki:k<i
 ·have:=h4 k hki
  rw[ej,ek2] at this
  have:promise s (t.nodes.getD j default).stats<promise s (t.nodes.getD x default).stats:=this
  omega
 ·have:=ixs_le (p:=actB) (l:=t.nodes) (n:=t.nodes.length) (i:=i) (j:=k) (by omega) hk
  have:(activeL t).getD i 0≤(activeL t).getD k 0:=this
  rw[ej,ek2] at this
  omega
structure EnfFact (s:DSchema) (t0 t:DTree) (l:List Int):Prop where
 ok:treeOk s t
 al:Alike t0 t
 same:∀i,i<t.nodes.length→actB (t.nodes.getD i default)=true→t.nodes.getD i default=t0.nodes.getD i default
 gone:∀g∈l,∃n:Nat,g=n∧n<t0.nodes.length∧∀x:Nat,x<t.nodes.length→actB (t.nodes.getD x default)=true→promise s (t0.nodes.getD n default).stats≤promise s (t.nodes.getD x default).stats∧(promise s (t0.nodes.getD n default).stats=promise s (t.nodes.getD x default).stats→n≤x)
theorem EnfFact.start {s:DSchema} {t:DTree} (h:treeOk s t):EnfFact s t t []:=⟨h,.refl t,fun _ _ _=>rfl,fun _ hg=>nomatch hg⟩
theorem EnfFact.step {s:DSchema} {t0 t:DTree} {l:List Int} (h:EnfFact s t0 t l) (hn:0<(activeL t).length):EnfFact s t0 (enfT t (poorest s t).toNat) (l++[poorest s t])∧(activeL (enfT t (poorest s t).toNat)).length+1=(activeL t).length:=by
 obtain⟨j,e,hj,hja,hm⟩:=poorest_min h.ok hn
 rw[e,Int.toNat_natCast]
 have A:=enfT_alike hj
 have hne:∀i,actB ((enfT t j).nodes.getD i default)=true→i≠j∧(enfT t j).nodes.getD i default=t.nodes.getD i default:=by
  intro i hi
  rw[enfT_get hj] at hi ⊢
  by_cases q:i=j
  ·rw[if_pos q,thin_off] at hi
   exact absurd hi (by decide)
  ·rw[if_neg q]
   exact⟨q,rfl⟩
 refine⟨⟨enf_treeOk h.ok hj hja,h.al.trans A,fun i hi ha=>?_,fun g hg=>?_⟩,enf_dec hj hja⟩
 ·obtain⟨_,q⟩:=hne i ha
  rw[q] at ha ⊢
  exact h.same i (by rw[←A.len];exact hi) ha
 ·rcases List.mem_append.1 hg with hg|hg
  ·obtain⟨n,e1,e2,e3⟩:=h.gone g hg
   refine⟨n,e1,e2,fun x hx ha=>?_⟩
   obtain⟨_,q⟩:=hne x ha
   rw[q] at ha ⊢
   exact e3 x (by rw[←A.len];exact hx) ha
  ·refine⟨j,List.mem_singleton.1 hg,by rw[←h.al.len];exact hj,fun x hx ha=>?_⟩
   obtain⟨_,q⟩:=hne x ha
   rw[q] at ha ⊢
   rw[←h.same j hj hja]
   exact hm x (by rw[←A.len];exact hx) ha
theorem poorest_neg {s:DSchema} {t:DTree} (h:(activeL t).length=0):poorest s t<0:=by
 unfold poorest
 rw[h]
 split
 ·show (-1:Int)<0
  decide
 ·decide
theorem enfGo_fact {s:DSchema} {b:Int} {t0:DTree}:∀(n:Nat) {t:DTree} {l:List Int},EnfFact s t0 t l→(activeL t).length=n→EnfFact s t0 (enfGo s b n t l).1 (enfGo s b n t l).2∧enfC s b (enfGo s b n t l).1=false∧(enfGo s b n t l).2.length+(activeL (enfGo s b n t l).1).length=l.length+n
 |0,t,l,h,hn=>by
  refine⟨h,?_,by show l.length+(activeL t).length=_;rw[hn]⟩
  show enfC s b t=false
  unfold enfC
  rw[decide_eq_false (p:=0≤poorest s t) (by have:=poorest_neg (s:=s) hn;omega),Bool.and_false]
 |n+1,t,l,h,hn=>by
  unfold enfGo
  cases hc:enfC s b t with
  |false=>exact⟨h,hc,by show l.length+(activeL t).length=_;rw[hn]⟩
  |true=>
   obtain⟨h1,h2⟩:=h.step (by omega)
   obtain⟨g1,g2,g3⟩:=enfGo_fact (b:=b) n h1 (by omega)
   refine⟨g1,g2,?_⟩
   rw[cond_true]
   rw[List.length_append] at g3
   have:([poorest s t]:List Int).length=1:=rfl
   omega
theorem enforce_fact {s:DSchema} {t:DTree} (b:Int) (h:treeOk s t):EnfFact s t (enforce s t b).1 (enforce s t b).2∧enfC s b (enforce s t b).1=false∧(enforce s t b).2.length+(activeL (enforce s t b).1).length=(activeL t).length:=by
 have e:enforce s t b=enfGo s b (activeL t).length t []:=if_pos h
 rw[e]
 have:=enfGo_fact (b:=b) _ (EnfFact.start h) rfl
 rw[List.length_nil,Nat.zero_add] at this
 exact this
theorem enforce_again {s:DSchema} {t:DTree} {b:Int} (h:treeOk s t) (hc:enfC s b t=false):enforce s t b=(t,[]):=by
 have e:enforce s t b=enfGo s b (activeL t).length t []:=if_pos h
 rw[e,enfGo_end hc]
theorem enfC_end {s:DSchema} {t:DTree} {b:Int} (h:treeOk s t) (hc:enfC s b t=false):(sm units t.nodes:Int)≤b∨(activeL t).length=0:=by
 by_cases hn:(activeL t).length=0
 ·exact .inr hn
 ·obtain⟨j,e,_⟩:=poorest_min h (by omega)
  unfold enfC at hc
  rw[decide_eq_true (p:=0≤poorest s t) (by omega),Bool.and_true] at hc
  have:=of_decide_eq_false hc
  exact .inl (by omega)
end Go.AM
