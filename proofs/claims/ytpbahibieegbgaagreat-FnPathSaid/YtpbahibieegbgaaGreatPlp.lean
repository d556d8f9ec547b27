/- Lemmas for the proof of this claim. -/
import Derived.Test.YtpbahibieegbgaaGreatPth
import Derived.Test.YtpbahibieegbgaaGreatUni
namespace Go.AM
set_option maxHeartbeats 64000000
open Go Go.Proofs
set_option maxRecDepth 100000
theorem step_facts {s:DSchema} {t:DTree} {e:DEx} (ht:treeOk s t) (he:exOk s e) {k:Nat} (hk:k<lastK s t e):
 (t.nodes.getD (pos s t e k) default).leaf=false∧pos s t e k<t.nodes.length∧pos s t e (k+1)<t.nodes.length∧(t.nodes.getD (pos s t e (k+1)) default).up=(pos s t e k:Int)∧(t.nodes.getD (pos s t e (k+1)) default).depth=(t.nodes.getD (pos s t e k) default).depth+1:=by
 obtain⟨h1,h2,h3⟩:=lastK_ex ht he
 have hl:(t.nodes.getD (pos s t e k) default).leaf=false:=h1 k hk
 have hi:=h3 k (by omega)
 obtain⟨w1,w2,w3,w4,w5,w6⟩:=walk_facts ht he hi hl
 have hn:=(ht.2.2.2 _ hi).1.2
 rw[if_neg (by rw[hl];simp)] at hn
 have hkid:=(hn.2.2.2.2.2.2 (brAt s e (t.nodes.getD (pos s t e k) default)).toNat (by omega)).2
 rw[w4,Int.toNat_natCast] at hkid
 have hlink:=(ht.2.2.2 _ w6).2
 unfold linkOk at hlink
 rw[if_neg (by omega)] at hlink
 obtain⟨_,_,_,q,_⟩:=hlink
 rw[hkid,Int.toNat_natCast] at q
 rw[pos_succ]
 exact⟨hl,hi,w6,hkid,by omega⟩
theorem pos_depth {s:DSchema} {t:DTree} {e:DEx} (ht:treeOk s t) (he:exOk s e):∀{k:Nat},k≤lastK s t e→(t.nodes.getD (pos s t e k) default).depth=(k:Int)
 |0,_=>by
  have hl:=(ht.2.2.2 0 (by have:=ht.2.1;omega)).2
  unfold linkOk at hl
  rw[if_pos rfl] at hl
  show (t.nodes.getD 0 default).depth=0
  exact hl.2.1
 |k+1,hk=>by
  have ih:=pos_depth ht he (k:=k) (by omega)
  have:=(step_facts ht he (k:=k) (by omega)).2.2.2.2
  omega
theorem depthUp_le {l:List DNode}:∀{d:Int},d≤depthUp d l∧∀n∈l,n.depth≤depthUp d l:=by
 induction l with
 |nil=>intro d;exact⟨Int.le_refl _,fun n hn=>by simp at hn⟩
 |cons x l ih=>
  intro d
  have h:=ih (d:=if x.depth>d then x.depth else d)
  have e:depthUp d (x::l)=depthUp (if x.depth>d then x.depth else d) l:=rfl
  rw[e]
  refine⟨?_,fun n hn=>?_⟩
  ·have:=h.1
   split at this<;>split<;>omega
  ·rcases List.mem_cons.1 hn with rfl|hn
   ·have:=h.1
    split at this<;>split<;>omega
   ·exact h.2 n hn
theorem depthOf_ge {t:DTree} {i:Nat} (hi:i<t.nodes.length):(t.nodes.getD i default).depth≤depthOf t:=depthUp_le.2 _ (getD_mem hi)
def cntI (x:Int):List Int→Nat
 |[]=>0
 |y::l=>(if y=x then 1 else 0)+cntI x l
theorem cntI_app (x:Int):∀(l m:List Int),cntI x (l++m)=cntI x l+cntI x m
 |[],m=>by simp[cntI]
 |y::l,m=>by simp only[List.cons_append,cntI,cntI_app x l m];omega
theorem cntI_le (x:Int):∀(l:List Int),cntI x l≤l.length
 |[]=>Nat.le_refl _
 |y::l=>by have:=cntI_le x l;simp only[cntI,List.length_cons];split<;>omega
theorem cntI_take {x:Int} {l:List Int} {i:Nat} (h:i<l.length):cntI x (l.take (i+1))=cntI x (l.take i)+if l.getD i 0=x then 1 else 0:=by
 rw[List.take_add_one,cntI_app]
 simp[List.getD,h,cntI]
theorem cnt_ixs {p:DNode→Bool} {l:List DNode} {j:Nat}:∀n,cntI (j:Int) (ixs p l n)=if j<n∧p (l.getD j default)=true then 1 else 0
 |0=>by simp[ixs,cntI]
 |n+1=>by
  rw[ixs_succ]
  have ih:=cnt_ixs (p:=p) (l:=l) (j:=j) n
  by_cases hp:p (l.getD n default)=true
  ·rw[if_pos hp,cntI_app,ih]
   simp only[cntI]
   by_cases e:n=j
   ·subst e
    rw[if_neg (fun q:n<n∧p (l.getD n default)=true=>Nat.lt_irrefl _ q.1),if_pos rfl,if_pos ⟨Nat.lt_succ_self _,hp⟩]
   ·rw[if_neg (show ¬((n:Int)=(j:Int)) by omega)]
    by_cases h:j<n∧p (l.getD j default)=true
    ·rw[if_pos h,if_pos ⟨by omega,h.2⟩]
    ·rw[if_neg h,if_neg (fun q=>h ⟨by omega,q.2⟩)]
  ·rw[if_neg hp,ih]
   by_cases h:j<n∧p (l.getD j default)=true
   ·rw[if_pos h,if_pos ⟨by omega,h.2⟩]
   ·rw[if_neg h,if_neg (fun q=>by
     by_cases e:j=n
     ·subst e;exact hp q.2
     ·exact h ⟨by omega,q.2⟩)]
theorem lawsTimes (l:List Int) (x:Int) (u:Bool) (nl:Option Bool) (hl:l.length≤2^40):ACalls Tryz.prog 29 [.one (.sl u nl 1 l.length (fI l)),.one (.int .i64 x)] (fun r=>r=.val (.one (.int .i64 (cntI x l)))):=by
 have nt:Tryz.f29.ntmps=22:=rfl
 have rs:Tryz.f29.results=#[.tmp 4]:=rfl
 refine ACalls.of_run (m:=400) mixed Tryz.func29 rfl rfl (Nat.le_of_ble_eq_true rfl) ?_
 simp only[nt,rs]
 clear nt rs
 (try refine am ?_);(try exact amT)
 repeat' with_reducible first|apply zA|intro _
 all_goals try exact amA
 refine LoopK.auto (Nat) (fun i=>[(5,.one (.av (.int .i64 (cntI x (l.take i))))),(6,.one (.av (.int .i64 i)))]) (fun i=>[]) [0,1] (k0:=?k01) (keepH:=?kh1) 400 (fun i=>i≤l.length) (fun i=>l.length - i) (0) ?kea1 ?keb1 ?_ ?_ ?_
 case kea1=>exact amN
 case keb1=>exact amN
 ·exact Nat.zero_le _
 ·refine LeA [] ?_ ?_ ?_
  all_goals try refine amL ?_
  all_goals try exact amT
  first|done|rfl
 ·intro i hi
  have h1:=cntI_le x (l.take i)
  have h2:(l.take i).length≤l.length:=by simp;omega
  (try refine am ?_);(try exact amT)
  repeat' with_reducible first|apply zA|intro _
  all_goals try exact amA
  ·have h3:=cntI_take (x:=x) (l:=l) (i:=i) (by assumption)
   rename_i h4 h5
   rw[if_pos h5] at h3
   refine⟨i+1,?_,by omega,by omega⟩
   refine LeA [] ?_ ?_ ?_
   all_goals try refine amL ?_
   all_goals try exact amT
   omega
  ·have h3:=cntI_take (x:=x) (l:=l) (i:=i) (by assumption)
   rename_i h4 h5
   rw[if_neg h5] at h3
   refine⟨i+1,?_,by omega,by omega⟩
   refine LeA [] ?_ ?_ ?_
   all_goals try refine amL ?_
   all_goals try exact amT
   omega
  ·refine FinK.val1 ?_ ?_
   all_goals try refine amF ?_
   all_goals try exact amT
   have:i=l.length:=by omega
   rw[this,List.take_length]
end Go.AM
