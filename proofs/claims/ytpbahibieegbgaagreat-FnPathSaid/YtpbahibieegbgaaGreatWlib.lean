/- Windows:one bit more,one row less,in plain words. -/
import Derived.Test.YtpbahibieegbgaaGreatData
namespace Go.AM
open Go
theorem getD_set_eq {α:Type} {d r:α} {l:List α} {p:Nat} (h:p<l.length):(l.set p r).getD p d=r:=by
 rw[List.getD_eq_getElem?_getD,List.getElem?_set_self h];rfl
theorem getD_set_ne {α:Type} {d r:α} {l:List α} {p i:Nat} (h:p≠i):(l.set p r).getD i d=l.getD i d:=by
 rw[List.getD_eq_getElem?_getD,List.getElem?_set_ne h,List.getD_eq_getElem?_getD]
theorem getD_app_l {α:Type} {d:α} {l m:List α} {i:Nat} (h:i<l.length):(l++m).getD i d=l.getD i d:=by
 rw[List.getD_eq_getElem?_getD,List.getElem?_append_left h,List.getD_eq_getElem?_getD]
theorem getD_app_r {α:Type} {d x:α} {l:List α}:(l++[x]).getD l.length d=x:=by
 rw[List.getD_eq_getElem?_getD,List.getElem?_append_right (Nat.le_refl _),Nat.sub_self];rfl
theorem getD_drop {α:Type} {d:α} {l:List α} {i k:Nat}:(l.drop k).getD i d=l.getD (k+i) d:=by
 rw[List.getD_eq_getElem?_getD,List.getElem?_drop,List.getD_eq_getElem?_getD]
def wVal (j:Nat) (row:List Int):Prop:=∀i,i<row.length→0≤row.getD i 0∧row.getD i 0≤2^j
def wInv (r:Nat) (l:List (List Int)):Prop:=l.length≤8∧r<l.length∧(l.getD r []).length≤4∧∀j,j<l.length→1≤(l.getD j []).length∧(j≠r→(l.getD j []).length≤3)∧wVal j (l.getD j [])
def wExt (r:Nat) (l:List (List Int)):List (List Int):=bif Nat.beq (r+1) l.length then l++[[]] else l
def wSum (row:List Int):Int:=row.getD 0 0+row.getD 1 0
def wStep (r:Nat) (l:List (List Int)):List (List Int):=((wExt r l).set (r+1) ((wExt r l).getD (r+1) []++[wSum (l.getD r [])])).set r ((l.getD r []).drop 2)
def wGo:Nat→Nat→List (List Int)→List (List Int)
 |0,_,l=>l
 |k+1,r,l=>bif Nat.blt 3 (l.getD r []).length then (bif Nat.beq r 7 then l.set r ((l.getD r []).drop 1) else wGo k (r+1) (wStep r l)) else l
def wBase (l:List (List Int)):List (List Int):=bif Nat.beq l.length 0 then [[]] else l
def wIn (l:List (List Int)) (bit:Int):List (List Int):=(wBase l).set 0 ((wBase l).getD 0 []++[bit])
def wAdd (l:List (List Int)) (bit:Int):List (List Int):=wGo 8 0 (wIn l bit)
theorem wVal_nil {j:Nat}:wVal j []:=fun _ hi=>absurd hi (Nat.not_lt_zero _)
theorem wVal_drop {j k:Nat} {row:List Int} (h:wVal j row):wVal j (row.drop k):=by
 intro i hi
 rw[getD_drop]
 rw[List.length_drop] at hi
 exact h _ (by omega)
theorem wVal_app {j:Nat} {row:List Int} {x:Int} (h:wVal j row) (hx:0≤x∧x≤2^j):wVal j (row++[x]):=by
 intro i hi
 rw[List.length_append,List.length_singleton] at hi
 by_cases e:i<row.length
 ·rw[getD_app_l e];exact h i e
 ·obtain rfl:i=row.length:=by omega
  rw[getD_app_r];exact hx
theorem wInv_in {l:List (List Int)} {bit:Int} (h:wok l) (hb:0≤bit∧bit≤1):wInv 0 (wIn l bit):=by
 unfold wIn wBase
 cases e:Nat.beq l.length 0 with
 |true=>
  refine⟨by simp,by simp,by simp,fun j hj=>?_⟩
  have:j=0:=by simp at hj;exact hj
  subst this
  refine⟨by simp,fun h=>absurd rfl h,?_⟩
  exact wVal_app (row:=[]) wVal_nil hb
 |false=>
  have hl:0<l.length:=by
   rcases Nat.eq_zero_or_pos l.length with h0|h0
   ·rw[h0] at e;cases e
   ·exact h0
  have h0:=h.2 0 hl
  simp only[cond_false]
  refine⟨by rw[List.length_set];exact h.1,by rw[List.length_set];exact hl,by rw[getD_set_eq hl,List.length_append,List.length_singleton];have:=h0.1.2;omega,fun j hj=>?_⟩
  rw[List.length_set] at hj
  by_cases ej:j=0
  ·subst ej
   rw[getD_set_eq hl]
   exact⟨by rw[List.length_append,List.length_singleton];omega,fun h=>absurd rfl h,wVal_app h0.2 hb⟩
  ·rw[getD_set_ne (fun e=>ej e.symm)]
   have:=h.2 j hj
   exact⟨this.1.1,fun _=>this.1.2,this.2⟩
theorem wExt_len {r:Nat} {l:List (List Int)} (h:r<l.length):r+1<(wExt r l).length∧l.length≤(wExt r l).length∧((wExt r l).length=l.length∨((wExt r l).length=l.length+1∧r+1=l.length)):=by
 unfold wExt
 cases e:Nat.beq (r+1) l.length with
 |true=>
  have:=Nat.eq_of_beq_eq_true e
  rw[cond_true,List.length_append,List.length_singleton]
  omega
 |false=>
  have:r+1≠l.length:=Nat.ne_of_beq_eq_false e
  rw[cond_false]
  omega
theorem wExt_get {r:Nat} {l:List (List Int)} {j:Nat}:(wExt r l).getD j []=l.getD j []:=by
 unfold wExt
 cases e:Nat.beq (r+1) l.length with
 |true=>
  simp only[cond_true]
  by_cases h:j<l.length
  ·rw[getD_app_l h]
  ·rw[List.getD_eq_getElem?_getD,List.getD_eq_getElem?_getD,List.getElem?_append_right (by omega),List.getElem?_eq_none (l:=l) (by omega)]
   rcases Nat.eq_zero_or_pos (j - l.length) with h0|h0
   ·rw[h0];rfl
   ·rw[List.getElem?_eq_none (by simp;omega)]
 |false=>rfl
theorem wStep_len {r:Nat} {l:List (List Int)}:(wStep r l).length=(wExt r l).length:=by unfold wStep;simp
theorem wStep_at {r j:Nat} {l:List (List Int)} (h:r<l.length):(wStep r l).getD j []=if j=r then (l.getD r []).drop 2 else if j=r+1 then l.getD (r+1) []++[wSum (l.getD r [])] else l.getD j []:=by
 have hx:=wExt_len h
 unfold wStep
 by_cases e:j=r
 ·subst e
  rw[if_pos rfl,getD_set_eq (by rw[List.length_set];omega)]
 ·rw[if_neg e,getD_set_ne (fun h=>e h.symm)]
  by_cases e2:j=r+1
  ·subst e2
   rw[if_pos rfl,getD_set_eq hx.1,wExt_get]
  ·rw[if_neg e2,getD_set_ne (fun h=>e2 h.symm),wExt_get]
theorem wInv_step {r:Nat} {l:List (List Int)} (h:wInv r l) (h3:3<(l.getD r []).length) (h7:r≠7):wInv (r+1) (wStep r l):=by
 obtain⟨a,b,c,d⟩:=h
 have hx:=wExt_len b
 have hd:=(d r b)
 have hs:0≤wSum (l.getD r [])∧wSum (l.getD r [])≤2^(r+1):=by
  have h0:=hd.2.2 0 (by omega)
  have h1:=hd.2.2 1 (by omega)
  unfold wSum
  rw[Int.pow_succ]
  omega
 have hn:(l.getD (r+1) []).length≤3∧wVal (r+1) (l.getD (r+1) []):=by
  by_cases e:r+1<l.length
  ·exact⟨(d _ e).2.1 (by omega),(d _ e).2.2⟩
  ·have:l.getD (r+1) []=[]:=by rw[List.getD_eq_getElem?_getD,List.getElem?_eq_none (by omega)];rfl
   rw[this];exact⟨Nat.zero_le _,wVal_nil⟩
 refine⟨by rw[wStep_len];omega,by rw[wStep_len];exact hx.1,by rw[wStep_at b,if_neg (by omega),if_pos rfl,List.length_append,List.length_singleton];omega,fun j hj=>?_⟩
 rw[wStep_len] at hj
 rw[wStep_at b]
 by_cases e:j=r
 ·subst e
  rw[if_pos rfl,List.length_drop]
  exact⟨by omega,fun _=>by omega,wVal_drop hd.2.2⟩
 ·rw[if_neg e]
  by_cases e2:j=r+1
  ·subst e2
   rw[if_pos rfl,List.length_append,List.length_singleton]
   exact⟨by omega,fun h=>absurd rfl h,wVal_app hn.2 hs⟩
  ·rw[if_neg e2]
   have:=d j (by omega)
   exact⟨this.1,fun _=>this.2.1 e,this.2.2⟩
theorem wInv_done {r:Nat} {l:List (List Int)} (h:wInv r l) (h3:¬3<(l.getD r []).length):wok l:=by
 obtain⟨a,b,c,d⟩:=h
 refine⟨a,fun j hj=>?_⟩
 have:=d j hj
 by_cases e:j=r
 ·subst e;exact⟨⟨this.1,by omega⟩,this.2.2⟩
 ·exact⟨⟨this.1,this.2.1 e⟩,this.2.2⟩
theorem wInv_last {r:Nat} {l:List (List Int)} (h:wInv r l) (h3:3<(l.getD r []).length):wok (l.set r ((l.getD r []).drop 1)):=by
 obtain⟨a,b,c,d⟩:=h
 refine⟨by rw[List.length_set];exact a,fun j hj=>?_⟩
 rw[List.length_set] at hj
 have:=d j hj
 by_cases e:j=r
 ·subst e
  rw[getD_set_eq hj]
  exact⟨by rw[List.length_drop];omega,wVal_drop this.2.2⟩
 ·rw[getD_set_ne (fun h=>e h.symm)]
  exact⟨⟨this.1,this.2.1 e⟩,this.2.2⟩
theorem wGo_ok:∀{k r:Nat} {l:List (List Int)},r+k=8→wInv r l→wok (wGo k r l)
 |0,r,l,h,hi=>by have:=hi.1;have:=hi.2.1;omega
 |k+1,r,l,h,hi=>by
  rw[wGo]
  cases e:Nat.blt 3 (l.getD r []).length with
  |false=>
   refine wInv_done hi (fun h=>?_)
   have:Nat.blt 3 (l.getD r []).length=true:=Nat.ble_eq_true_of_le h
   rw[this] at e;cases e
  |true=>
   have h3:3<(l.getD r []).length:=Nat.le_of_ble_eq_true e
   cases e7:Nat.beq r 7 with
   |true=>exact wInv_last hi h3
   |false=>exact wGo_ok (by omega) (wInv_step hi h3 (Nat.ne_of_beq_eq_false e7))
theorem wAdd_ok {l:List (List Int)} {bit:Int} (h:wok l) (hb:0≤bit∧bit≤1):wok (wAdd l bit):=wGo_ok rfl (wInv_in h hb)
theorem wGo_end {k r:Nat} {l:List (List Int)} (h:¬3<(l.getD r []).length):wGo k r l=l:=by
 cases k with
 |zero=>rfl
 |succ k=>
  have:Nat.blt 3 (l.getD r []).length=false:=by
   rw[Bool.eq_false_iff];exact fun e=>h (Nat.le_of_ble_eq_true e)
  rw[wGo,this];rfl
theorem wGo_last {k:Nat} {l:List (List Int)} (h:3<(l.getD 7 []).length):wGo (k+1) 7 l=l.set 7 ((l.getD 7 []).drop 1):=by
 rw[wGo,show Nat.blt 3 (l.getD 7 []).length=true from Nat.ble_eq_true_of_le h];rfl
theorem wGo_step {k r:Nat} {l:List (List Int)} (h:3<(l.getD r []).length) (h7:r≠7):wGo (k+1) r l=wGo k (r+1) (wStep r l):=by
 rw[wGo,show Nat.blt 3 (l.getD r []).length=true from Nat.ble_eq_true_of_le h,show Nat.beq r 7=false from (by rw[Bool.eq_false_iff];exact fun e=>h7 (Nat.eq_of_beq_eq_true e))];rfl
def wDrop (l:List (List Int)):List (List Int):=bif Nat.ble (l.getD (l.length - 1) []).length 1 then l.take (l.length - 1) else l.set (l.length - 1) ((l.getD (l.length - 1) []).drop 1)
def wDropOk (l:List (List Int)):Bool:=wokB l&&decide (0<l.length)
def wDropA (l:List (List Int)):List (List Int):=bif wDropOk l then wDrop l else l
theorem wDrop_ok {l:List (List Int)} (h:wok l) (hl:0<l.length):wok (wDrop l):=by
 unfold wDrop
 cases e:Nat.ble (l.getD (l.length - 1) []).length 1 with
 |true=>
  refine⟨by rw[cond_true,List.length_take];have:=h.1;omega,fun r hr=>?_⟩
  rw[cond_true,List.length_take] at hr
  rw[cond_true,show (l.take (l.length - 1)).getD r []=l.getD r [] by rw[List.getD_eq_getElem?_getD,List.getD_eq_getElem?_getD,List.getElem?_take,if_pos (by omega)]]
  exact h.2 r (by omega)
 |false=>
  have h1:1<(l.getD (l.length - 1) []).length:=by
   rcases Nat.lt_or_ge 1 (l.getD (l.length - 1) []).length with h1|h1
   ·exact h1
   ·rw[Nat.ble_eq_true_of_le h1] at e;cases e
  refine⟨by rw[cond_false,List.length_set];exact h.1,fun r hr=>?_⟩
  rw[cond_false,List.length_set] at hr
  rw[cond_false]
  by_cases e2:r=l.length - 1
  ·subst e2
   rw[getD_set_eq hr]
   have:=h.2 _ hr
   exact⟨by rw[List.length_drop];have:=this.1;omega,wVal_drop this.2⟩
  ·rw[getD_set_ne (fun h=>e2 h.symm)]
   exact h.2 r hr
theorem wok_okL {l:List (List Int)} (h:wok l):okL 8 l:=by
 refine⟨h.1,fun x hx=>?_⟩
 obtain⟨r,hr,rfl⟩:=List.mem_iff_getElem.1 hx
 have e:l.getD r []=l[r]:=by rw[List.getD_eq_getElem?_getD,List.getElem?_eq_getElem hr];rfl
 have:=h.2 r hr
 rw[e] at this
 refine⟨by have:=this.1;omega,fun y hy=>?_⟩
 obtain⟨i,hi,rfl⟩:=List.mem_iff_getElem.1 hy
 have e2:l[r].getD i 0=l[r][i]:=by rw[List.getD_eq_getElem?_getD,List.getElem?_eq_getElem hi];rfl
 have h2:=this.2 i hi
 rw[e2] at h2
 have hp:=pow_bd r (by have:=h.1;omega)
 rw[inKi]
 omega
end Go.AM
/- Windows that shrink,and detectors,in plain words. -/
namespace Go.AM
open Go
theorem cutFrom_nn {bs:List DBucket} {k:Int}:∀{f i:Nat},0≤cutFrom bs k i f
 |0,i=>Int.le_refl _
 |f+1,i=>by
  rw[cutFrom]
  split
  ·split
   ·omega
   ·exact cutFrom_nn
  ·exact Int.le_refl _
theorem cutAt_nn {l:List (List Int)} {k:Int}:0≤cutAt l k:=cutFrom_nn
theorem cut_wok {l:List (List Int)} {k:Int} (h:cutAt l k≠0):wok l∧0<l.length:=by
 by_cases hw:wok l
 ·refine⟨hw,?_⟩
  rcases Nat.eq_zero_or_pos l.length with h0|h0
  ·exfalso
   apply h
   have:bkts l=[]:=by unfold bkts;rw[if_pos hw,h0];rfl
   unfold cutAt
   rw[this];rfl
  ·exact h0
 ·exfalso
  apply h
  have:bkts l=[]:=if_neg hw
  unfold cutAt
  rw[this];rfl
def wMu (l:List (List Int)):Nat:=3*l.length - 3+(l.getD (l.length - 1) []).length
theorem wMu_bd {l:List (List Int)} (h:wok l):wMu l≤24:=by
 unfold wMu
 rcases Nat.eq_zero_or_pos l.length with h0|h0
 ·have:l=[]:=List.eq_nil_of_length_eq_zero h0
  subst this
  exact Nat.zero_le _
 ·have h1:=h.1
  have h2:=(h.2 (l.length - 1) (by omega)).1.2
  omega
theorem wMu_drop {l:List (List Int)} (h:wok l) (hl:0<l.length):wMu (wDrop l)<wMu l:=by
 have h1:=(h.2 (l.length - 1) (by omega)).1
 have hd:=wDrop_ok h hl
 unfold wMu
 cases e:Nat.ble (l.getD (l.length - 1) []).length 1 with
 |true=>
  have ew:wDrop l=l.take (l.length - 1):=by unfold wDrop;rw[e];rfl
  rw[ew] at hd ⊢
  rw[List.length_take,show min (l.length - 1) l.length=l.length - 1 by omega]
  rcases Nat.lt_or_ge 1 l.length with h2|h2
  ·have h3:=(hd.2 (l.length - 1 - 1) (by rw[List.length_take];omega)).1.2
   omega
  ·have e0:(l.take (l.length - 1)).getD (l.length - 1 - 1) []=[]:=by
    rw[List.getD_eq_getElem?_getD,List.getElem?_eq_none (by rw[List.length_take];omega)];rfl
   rw[e0,List.length_nil]
   omega
 |false=>
  have hn:1<(l.getD (l.length - 1) []).length:=by
   rcases Nat.lt_or_ge 1 (l.getD (l.length - 1) []).length with h2|h2
   ·exact h2
   ·rw[Nat.ble_eq_true_of_le h2] at e;cases e
  have ew:wDrop l=l.set (l.length - 1) ((l.getD (l.length - 1) []).drop 1):=by unfold wDrop;rw[e];rfl
  rw[ew,List.length_set,getD_set_eq (by omega),List.length_drop]
  omega
def wShr:Nat→List (List Int)→Int→Nat→List (List Int)×Nat
 |0,l,_,n=>(l,n)
 |f+1,l,k,n=>if cutAt l k=0 then (l,n) else wShr f (wDropA l) k (n+1)
def shrink (l:List (List Int)) (k:Int):List (List Int)×Nat:=wShr (wMu l+1) l k 0
theorem wShr_end {f:Nat} {l:List (List Int)} {k:Int} {n:Nat} (h:cutAt l k=0):wShr f l k n=(l,n):=by
 cases f with
 |zero=>rfl
 |succ f=>rw[wShr,if_pos h]
theorem wDropA_cut {l:List (List Int)} {k:Int} (h:cutAt l k≠0):wDropA l=wDrop l∧wok (wDropA l)∧wMu (wDropA l)<wMu l:=by
 have hw:=cut_wok h
 have e:wDropA l=wDrop l:=by
  unfold wDropA wDropOk
  rw[wokB_true hw.1,decide_eq_true hw.2];rfl
 rw[e]
 exact⟨rfl,wDrop_ok hw.1 hw.2,wMu_drop hw.1 hw.2⟩
def shInv (l:List (List Int)) (k:Int) (p:List (List Int)×Nat):Prop:=okL (2^40) p.1∧(p.2=0∨(wok p.1∧p.2+wMu p.1≤24))∧∃f,wMu p.1<f∧shrink l k=wShr f p.1 k p.2
theorem wok_okL40 {l:List (List Int)} (h:wok l):okL (2^40) l:=
 ⟨Nat.le_trans (wok_okL h).1 (by decide),fun x hx=>⟨Nat.le_trans ((wok_okL h).2 x hx).1 (by decide),((wok_okL h).2 x hx).2⟩⟩
theorem shInv_start {l:List (List Int)} {k:Int} (h:okL (2^40) l):shInv l k (l,0):=⟨h,.inl rfl,_,Nat.lt_succ_self _,rfl⟩
theorem shInv_step {l m:List (List Int)} {k:Int} {n:Nat} (h:shInv l k (m,n)) (hc:cutAt m k≠0):shInv l k (wDropA m,n+1):=by
 obtain⟨h1,h2,f,h3,h4⟩:=h
 obtain⟨_,d1,d2⟩:=wDropA_cut hc
 have hb:=wMu_bd (cut_wok hc).1
 refine⟨wok_okL40 d1,.inr ⟨d1,?_⟩,?_⟩
 ·show n+1+wMu (wDropA m)≤24
  rcases h2 with h2|h2
  ·have:n=0:=h2
   omega
  ·have:n+wMu m≤24:=h2.2
   omega
 ·have h3:wMu m<f:=h3
  have h4:shrink l k=wShr f m k n:=h4
  refine⟨f - 1,show wMu (wDropA m)<f - 1 by omega,?_⟩
  show shrink l k=wShr (f - 1) (wDropA m) k (n+1)
  rw[h4,show f=(f - 1)+1 by omega,wShr,if_neg hc,Nat.add_sub_cancel]
theorem shInv_end {l m:List (List Int)} {k:Int} {n:Nat} (h:shInv l k (m,n)) (hc:cutAt m k=0):shrink l k=(m,n)∧n≤24:=by
 obtain⟨h1,h2,f,h3,h4⟩:=h
 refine⟨h4.trans (wShr_end hc),?_⟩
 rcases h2 with h2|h2
 ·have:n=0:=h2
  omega
 ·have:n+wMu m≤24:=h2.2
  omega
theorem wShr_ok:∀{f:Nat} {l:List (List Int)} {k:Int} {n:Nat},okL (2^40) l→okL (2^40) (wShr f l k n).1
 |0,l,k,n,h=>h
 |f+1,l,k,n,h=>by
  rw[wShr]
  split
  ·exact h
  ·rename_i hc
   exact wShr_ok (wok_okL40 (wDropA_cut hc).2.1)
theorem shrink_ok {l:List (List Int)} {k:Int} (h:okL (2^40) l):okL (2^40) (shrink l k).1:=wShr_ok h
def wAddOk (l:List (List Int)) (bit:Int):Bool:=wokB l&&decide (0≤bit∧bit≤1)
def wAddA (l:List (List Int)) (bit:Int):List (List Int):=bif wAddOk l bit then wAdd l bit else l
theorem wAddA_ok {l:List (List Int)} {bit:Int} (h:okL (2^40) l):okL (2^40) (wAddA l bit):=by
 unfold wAddA
 cases e:wAddOk l bit with
 |false=>exact h
 |true=>
  have e:=e
  unfold wAddOk at e
  rw[Bool.and_eq_true] at e
  exact wok_okL40 (wAdd_ok (of_decide_eq_true e.1) (of_decide_eq_true e.2))
def wsOk (l:List (List Int)) (bit k:Int):Bool:=wAddOk l bit&&decide (1≤k∧k≤9)
def wsWin (l:List (List Int)) (bit k:Int):List (List Int):=bif wsOk l bit k then (shrink (wAddA l bit) k).1 else l
def wsRoseA (a:List (List Int)) (s:List (List Int)×Nat):Bool:=decide (0<s.2)&&decide (bOnes (bkts s.1)*bSize (bkts a)>bOnes (bkts a)*bSize (bkts s.1))
def wsRose (l:List (List Int)) (bit k:Int):Bool:=wsOk l bit k&&wsRoseA (wAddA l bit) (shrink (wAddA l bit) k)
theorem wsWin_ok {l:List (List Int)} {bit k:Int} (h:okL (2^40) l):okL (2^40) (wsWin l bit k):=by
 unfold wsWin
 cases wsOk l bit k with
 |false=>exact h
 |true=>exact shrink_ok (wAddA_ok h)
def detStep (d:DDet) (bit w r:Int):DDet×Int:=
 bif wsOk d.warn bit w&&wsOk d.drift bit r then
  (bif wsRose d.drift bit r then (⟨[],[]⟩,2) else (⟨wsWin d.warn bit w,wsWin d.drift bit r⟩,bif wsRose d.warn bit w then 1 else 0))
 else (d,3)
theorem detStep_ok {d:DDet} {bit w r:Int} (h:okDet (2^40) d):okDet (2^40) (detStep d bit w r).1:=by
 unfold detStep
 cases wsOk d.warn bit w&&wsOk d.drift bit r with
 |false=>exact h
 |true=>
  cases wsRose d.drift bit r with
  |true=>exact⟨⟨Nat.zero_le _,fun x hx=>nomatch hx⟩,⟨Nat.zero_le _,fun x hx=>nomatch hx⟩⟩
  |false=>exact⟨wsWin_ok h.1,wsWin_ok h.2⟩
theorem detStep_bd {d:DDet} {bit w r:Int}:0≤(detStep d bit w r).2∧(detStep d bit w r).2≤3:=by
 unfold detStep
 cases wsOk d.warn bit w&&wsOk d.drift bit r with
 |false=>show (0:Int)≤3∧(3:Int)≤3;decide
 |true=>
  cases wsRose d.drift bit r with
  |true=>show (0:Int)≤2∧(2:Int)≤3;decide
  |false=>
   cases wsRose d.warn bit w with
   |true=>show (0:Int)≤1∧(1:Int)≤3;decide
   |false=>show (0:Int)≤0∧(0:Int)≤3;decide
def detRunA (l:List Int) (w r:Int):Nat→DDet×List Int
 |0=>(⟨[],[]⟩,[])
 |i+1=>((detStep (detRunA l w r i).1 (l.getD i 0) w r).1,(detRunA l w r i).2++[(detStep (detRunA l w r i).1 (l.getD i 0) w r).2])
theorem detRunA_ok {l:List Int} {w r:Int}:∀{i:Nat},okDet (2^40) (detRunA l w r i).1∧(detRunA l w r i).2.length=i∧∀x∈(detRunA l w r i).2,inK .i64 x
 |0=>⟨⟨⟨Nat.zero_le _,fun x hx=>nomatch hx⟩,⟨Nat.zero_le _,fun x hx=>nomatch hx⟩⟩,rfl,fun x hx=>nomatch hx⟩
 |i+1=>by
  obtain⟨h1,h2,h3⟩:=detRunA_ok (l:=l) (w:=w) (r:=r) (i:=i)
  refine⟨detStep_ok h1,by simp only[detRunA,List.length_append,List.length_singleton,h2],fun x hx=>?_⟩
  rcases List.mem_append.1 hx with hx|hx
  ·exact h3 x hx
  ·have e:x=(detStep (detRunA l w r i).1 (l.getD i 0) w r).2:=by simpa using hx
   have:=detStep_bd (d:=(detRunA l w r i).1) (bit:=l.getD i 0) (w:=w) (r:=r)
   rw[inKi]
   omega
end Go.AM
/- How great shrunk windows are. -/
namespace Go.AM
open Go
theorem wShr_or:∀{f:Nat} {l:List (List Int)} {k:Int} {n:Nat},(wShr f l k n).1=l∨wok (wShr f l k n).1
 |0,_,_,_=>.inl rfl
 |f+1,l,k,n=>by
  rw[wShr]
  split
  ·exact .inl rfl
  ·rename_i hc
   have hw:=(wDropA_cut hc).2.1
   rcases wShr_or (f:=f) (l:=wDropA l) (k:=k) (n:=n+1) with h|h
   ·rw[h];exact .inr hw
   ·exact .inr h
theorem shrink_or {l:List (List Int)} {k:Int}:(shrink l k).1=l∨wok (shrink l k).1:=wShr_or
theorem shrink_wok {l:List (List Int)} {k:Int} (h:wok l):wok (shrink l k).1:=by
 rcases shrink_or (l:=l) (k:=k) with e|e
 ·rw[e];exact h
 ·exact e
theorem wsWin_or {l:List (List Int)} {b k:Int}:wsWin l b k=l∨wok (wsWin l b k):=by
 unfold wsWin
 cases e:wsOk l b k with
 |false=>exact .inl rfl
 |true=>
  refine .inr (shrink_wok ?_)
  unfold wsOk at e
  rw[Bool.and_eq_true] at e
  have e1:=e.1
  unfold wAddA
  rw[e1]
  unfold wAddOk at e1
  rw[Bool.and_eq_true] at e1
  exact wAdd_ok (of_decide_eq_true e1.1) (of_decide_eq_true e1.2)
theorem wsWin_wok {l:List (List Int)} {b k:Int} (h:wok l):wok (wsWin l b k):=by
 rcases wsWin_or (l:=l) (b:=b) (k:=k) with e|e
 ·rw[e];exact h
 ·exact e
theorem wok_nil:wok []:=⟨Nat.zero_le _,fun _ hr=>absurd hr (Nat.not_lt_zero _)⟩
theorem detStep_wok {d:DDet} {b w r:Int} (h:wok d.warn∧wok d.drift):wok (detStep d b w r).1.warn∧wok (detStep d b w r).1.drift:=by
 unfold detStep
 cases wsOk d.warn b w&&wsOk d.drift b r with
 |false=>exact h
 |true=>
  cases wsRose d.drift b r with
  |true=>exact⟨wok_nil,wok_nil⟩
  |false=>exact⟨wsWin_wok h.1,wsWin_wok h.2⟩
theorem detRunA_wok {l:List Int} {w r:Int}:∀{i:Nat},wok (detRunA l w r i).1.warn∧wok (detRunA l w r i).1.drift
 |0=>⟨wok_nil,wok_nil⟩
 |_+1=>detStep_wok detRunA_wok
end Go.AM
