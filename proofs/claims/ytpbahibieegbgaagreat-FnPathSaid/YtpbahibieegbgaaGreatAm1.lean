/- The framework AM,part 1:abstract values,and what it means that memory holds them. -/
import Derived.Calls
import Derived.Tactics
import Derived.Orders
import Derived.Below
import Derived.Laws.AppendOwn
import Derived.Laws.MakeOwn
import Derived.Laws.Closers25b
import Derived.Laws.StructEq
import Derived.Laws.BytesArg
import Derived.Laws.Tables
namespace Go.AM
open Go
inductive AV where
 |int (k:IntKind) (n:Int)
 |bool (b:Bool)
 |str (s:List UInt8)
 |sl (u:Bool) (nl:Option Bool) (es n:Nat) (f:Nat→Nat→AV)
 |ptr (m:Nat) (f:Nat→AV)
 |fn (g:Fn) (m:Nat) (f:Nat→AV)
 |rng (k:IntKind) (lo hi:Int)
 |pin (x:Value) (a:AV)
 |mp (es:List (Int×Int×Int))
 |junk
abbrev Path:=List (Nat×Nat)
abbrev Root:=Nat
abbrev Own:=Nat→Option (Root×Path)
def inK (k:IntKind) (n:Int):Prop:=k.min≤n∧n≤k.max
def nlOk (nl:Option Bool) (a:Option Addr):Prop:=(nl=some true→a=none)∧(nl=some false→a≠none)
def prV (a b:Int):Value:=.agg #[.int .i64 a,.int .i64 b]
def entL:Nat→List (Int×Int×Int)→List MapEntry
 |_,[]=>[]
 |n,x::r=>⟨prV x.1 x.2.1,.int .i64 x.2.2,n⟩::entL (n+1) r
def mkey (x:Int×Int×Int):Int×Int:=(x.1,x.2.1)
def mpOk (es:List (Int×Int×Int)):Prop:=(∀x∈es,inK .i64 x.1∧inK .i64 x.2.1∧inK .i64 x.2.2)∧(es.map mkey).Nodup
def Rd (w:World) (own:Own):AV→Value→Prop
 | .int k n,v=>v=.int k n∧inK k n
 | .bool b,v=>v=.bool b
 | .str s,v=>v=.string ⟨s.toArray⟩
 | .sl _ nl es n f,v=>∃a cap,v=.slice a n cap∧n≤cap∧cap≤maxLen∧nlOk nl a∧(a=none→cap=0)∧
  (n≠0→∃b off c T fz,a=some ⟨b,off,none⟩∧own b=none∧w.heap[b]?=some (.cells c T fz)∧
   ∀i,i<n→∀j,j<es→∃x,c[off+(i*es+j)]?=some x∧Rd w own (f i j) x)
 | .ptr m f,v=>∃b off c T fz,v=.pointer (some ⟨b,off,none⟩)∧own b=none∧w.heap[b]?=some (.cells c T fz)∧
  ∀j,j<m→∃x,c[off+j]?=some x∧Rd w own (f j) x
 | .fn g m f,v=>∃cs:Array Value,v=.func g #[] cs∧cs.size=m∧∀j,j<m→∃x,cs[j]?=some x∧Rd w own (f j) x
 | .rng k lo hi,v=>∃n,v=.int k n∧inK k n∧lo≤n∧n≤hi
 | .pin x a,v=>v=x∧Rd w own a v
 | .mp _,_=>True
 | .junk,_=>True
def Ow (w:World) (own:Own) (r:Root):AV→Path→Value→Prop
 | .sl true nl es n f,p,v=>(n=0∧∃ad,v=.slice ad 0 0∧nlOk nl ad)∨
  ∃b cap c T,v=.slice (some ⟨b,0,none⟩) n cap∧nl≠some true∧own b=some (r,p)∧w.heap[b]?=some (.cells c T (0,0))∧
   n≤cap∧cap≤maxLen∧c.size=cap*es∧
   ∀i,i<n→∀j,j<es→∃x,c[i*es+j]?=some x∧Ow w own r (f i j) (p++[(i,j)]) x
 | .sl false nl es n f,_,v=>Rd w own (.sl false nl es n f) v
 | .int k n,_,v=>Rd w own (.int k n) v
 | .bool b,_,v=>Rd w own (.bool b) v
 | .str s,_,v=>Rd w own (.str s) v
 | .ptr m f,_,v=>Rd w own (.ptr m f) v
 | .fn g m f,_,v=>Rd w own (.fn g m f) v
 | .rng k lo hi,_,v=>Rd w own (.rng k lo hi) v
 | .pin x a,_,v=>Rd w own (.pin x a) v
 | .mp es,p,v=>∃b,v=.map (some b)∧own b=some (r,p)∧w.heap[b]?=some (.map (entL 0 es).toArray es.length)∧mpOk es
 | .junk,_,_=>True
theorem Rd.mono {w w':World} {own own':Own} (h:∀b o,own b=none→w.heap[b]?=some o→own' b=none∧w'.heap[b]?=some o):
 ∀(a:AV) (v:Value),Rd w own a v→Rd w' own' a v:=by
 intro a
 induction a with
 |int|bool|str|rng|junk|mp=>intro v hv;exact hv
 |pin x a ih=>intro v hv;exact⟨hv.1,ih v hv.2⟩
 |sl u nl es n f ih=>
  rintro v ⟨a,cap,rfl,h1,h2,h3,h4,h5⟩
  refine⟨a,cap,rfl,h1,h2,h3,h4,fun hn=>?_⟩
  obtain⟨b,off,c,T,fz,rfl,ho,hb,hc⟩:=h5 hn
  refine⟨b,off,c,T,fz,rfl,(h b _ ho hb).1,(h b _ ho hb).2,fun i hi j hj=>?_⟩
  obtain⟨x,hx,hr⟩:=hc i hi j hj
  exact⟨x,hx,ih i j x hr⟩
 |ptr m f ih=>
  rintro v ⟨b,off,c,T,fz,rfl,ho,hb,hc⟩
  refine⟨b,off,c,T,fz,rfl,(h b _ ho hb).1,(h b _ ho hb).2,fun j hj=>?_⟩
  obtain⟨x,hx,hr⟩:=hc j hj
  exact⟨x,hx,ih j x hr⟩
 |fn g m f ih=>
  rintro v ⟨cs,rfl,hs,hc⟩
  refine⟨cs,rfl,hs,fun j hj=>?_⟩
  obtain⟨x,hx,hr⟩:=hc j hj
  exact⟨x,hx,ih j x hr⟩
theorem Ow.mono {w w':World} {own own':Own} {r r':Root} (h0:∀b o,own b=none→w.heap[b]?=some o→own' b=none∧w'.heap[b]?=some o):
 ∀(a:AV) (p p':Path) (v:Value),(∀b o q,own b=some (r,p++q)→w.heap[b]?=some o→own' b=some (r',p'++q)∧w'.heap[b]?=some o)→
  Ow w own r a p v→Ow w' own' r' a p' v:=by
 intro a
 induction a with
 |int|bool|str|rng|junk=>intro p p' v _ hv;exact hv
 |pin x a _=>intro p p' v _ hv;exact Rd.mono h0 _ _ hv
 |mp es=>
  rintro p p' v h1 ⟨b,rfl,ho,hb,hm⟩
  have:=h1 b _ [] (by simpa using ho) hb
  exact⟨b,rfl,by simpa using this.1,this.2,hm⟩
 |ptr m f _=>intro p p' v _ hv;exact Rd.mono h0 _ _ hv
 |fn g m f _=>intro p p' v _ hv;exact Rd.mono h0 _ _ hv
 |sl u nl es n f ih=>
  intro p p' v h1 hv
  cases u with
  |false=>exact Rd.mono h0 _ _ hv
  |true=>
   rcases hv with hv|⟨b,cap,c,T,rfl,hnl,ho,hb,h2,h3,h4,h5⟩
   ·exact .inl hv
   ·have:=h1 b _ [] (by simpa using ho) hb
    refine .inr ⟨b,cap,c,T,rfl,hnl,by simpa using this.1,this.2,h2,h3,h4,fun i hi j hj=>?_⟩
    obtain⟨x,hx,hr⟩:=h5 i hi j hj
    exact⟨x,hx,ih i j _ _ x (fun b o q e1 e2=>by
     have:=h1 b o ((i,j)::q) (by simpa using e1) e2
     simpa using this) hr⟩
theorem Ow.rd {w:World} {own:Own} {r:Root}:∀(a:AV) (p:Path) (v:Value),Ow w own r a p v→Rd w (fun _=>none) a v:=by
 intro a
 induction a with
 |int|bool|str|rng|junk=>intro p v hv;exact hv
 |pin x a _=>intro p v hv;exact Rd.mono (fun b o _ h=>⟨rfl,h⟩) _ _ hv
 |mp es=>intro p v hv;trivial
 |ptr m f _=>intro p v hv;exact Rd.mono (fun b o _ h=>⟨rfl,h⟩) _ _ hv
 |fn g m f _=>intro p v hv;exact Rd.mono (fun b o _ h=>⟨rfl,h⟩) _ _ hv
 |sl u nl es n f ih=>
  intro p v hv
  cases u with
  |false=>exact Rd.mono (fun b o _ h=>⟨rfl,h⟩) _ _ hv
  |true=>
   rcases hv with ⟨rfl,ad,rfl,hnl⟩|⟨b,cap,c,T,rfl,hnl,ho,hb,h2,h3,h4,h5⟩
   ·exact⟨ad,0,rfl,Nat.le_refl _,Nat.zero_le _,hnl,fun _=>rfl,fun h=>absurd rfl h⟩
   ·refine⟨some ⟨b,0,none⟩,cap,rfl,h2,h3,⟨fun h=>absurd h hnl,fun _=>by simp⟩,fun h=>by simp at h,fun _=>⟨b,0,c,T,(0,0),rfl,rfl,hb,fun i hi j hj=>?_⟩⟩
    obtain⟨x,hx,hr⟩:=h5 i hi j hj
    exact⟨x,by simpa using hx,ih i j _ x hr⟩
def AV.ro:AV→AV
 | .sl _ nl es n f=>.sl false nl es n f
 | .mp _=>.junk
 |a=>a
theorem Rd.ro {w:World} {own:Own}:∀{a:AV} {v:Value},Rd w own a v→Rd w own a.ro v
 | .sl _ _ _ _ _,_,h=>h
 | .int _ _,_,h=>h
 | .bool _,_,h=>h
 | .str _,_,h=>h
 | .ptr _ _,_,h=>h
 | .fn _ _ _,_,h=>h
 | .rng _ _ _,_,h=>h
 | .pin _ _,_,h=>h
 | .mp _,_,_=>trivial
 | .junk,_,h=>h
theorem Rd.ow {w:World} {own:Own} {r:Root} {p:Path}:∀{a:AV} {v:Value},Rd w own a v→Ow w own r a.ro p v
 | .sl _ _ _ _ _,_,h=>h
 | .int _ _,_,h=>h
 | .bool _,_,h=>h
 | .str _,_,h=>h
 | .ptr _ _,_,h=>h
 | .fn _ _ _,_,h=>h
 | .rng _ _ _,_,h=>h
 | .pin _ _,_,h=>h
 | .mp _,_,_=>trivial
 | .junk,_,h=>h
def AV.at:AV→Path→AV
 |a,[]=>a
 | .sl _ _ _ _ f,(i,j)::p=>(f i j).at p
 |_,_::_=>.junk
def AV.okp:AV→Path→Prop
 | .sl true _ _ _ _,[]=>True
 | .mp _,[]=>True
 | .sl true _ es n f,(i,j)::p=>i<n∧j<es∧(f i j).okp p
 |_,_=>False
def gl {α:Type} (d:α):List α→Nat→α
 |[],_=>d
 |x::_,0=>x
 |_::r,n+1=>gl d r n
theorem gl_eq {α:Type} (d:α):∀(l:List α) (n:Nat),gl d l n=l.getD n d
 |[],_=>by simp[gl]
 |_::_,0=>by simp[gl]
 |_::r,n+1=>by simp[gl,gl_eq d r n]
def AV.setR:AV→Path→Nat→Nat→List AV→AV
 | .sl u nl es n f,[],i,j,ys=>.sl u nl es n (fun i' j'=>if i'=i∧j≤j'∧j'<j+ys.length then gl .junk ys (j' - j) else f i' j')
 | .sl u nl es n f,(i0,j0)::p,i,j,ys=>.sl u nl es n (fun i' j'=>if i'=i0∧j'=j0 then (f i0 j0).setR p i j ys else f i' j')
 |a,_,_,_,_=>a
def AV.n:AV→Nat
 | .sl _ _ _ n _=>n
 |_=>0
def AV.es:AV→Nat
 | .sl _ _ es _ _=>es
 |_=>0
def AV.f:AV→Nat→Nat→AV
 | .sl _ _ _ _ f=>f
 |_=>fun _ _=>.junk
def hdr (w:World):AV→Value→Path→Option Value
 |_,v,[]=>some v
 | .sl _ _ es _ f,.slice (some a) _ _,(i,j)::p=>
  match w.heap[a.block]? with
  |some (.cells c _ _)=>(c[a.off+(i*es+j)]?).bind fun x=>hdr w (f i j) x p
  |_=>none
 |_,_,_=>none
theorem Ow.hdr {w:World} {own:Own} {r:Root}:∀(p:Path) (a:AV) (p0:Path) (v:Value),a.okp p→Ow w own r a p0 v→
 ∃v',AM.hdr w a v p=some v'∧Ow w own r (a.at p) (p0++p) v':=by
 intro p
 induction p with
 |nil=>intro a p0 v _ h;exact⟨v,by cases a<;>rfl,by simpa [AV.at] using h⟩
 |cons ij p ih=>
  obtain⟨i,j⟩:=ij
  intro a p0 v hok h
  cases a with
  |sl u nl es n f=>
   cases u with
   |false=>cases hok
   |true=>
    obtain⟨hi,hj,hok⟩:=hok
    rcases h with ⟨rfl,_⟩|⟨b,cap,c,T,rfl,hnl,ho,hb,h2,h3,h4,h5⟩
    ·omega
    ·obtain⟨x,hx,hr⟩:=h5 i hi j hj
     obtain⟨v',hv',hr'⟩:=ih (f i j) _ x hok hr
     refine⟨v',?_,by simpa [AV.at] using hr'⟩
     simp only[AM.hdr,hb,Nat.zero_add]
     simp[hx,hv']
  |_=>cases hok
def rowPut (c:Array Value) (k:Nat) (xs:List Value):Array Value:=(c.toList.take k++xs++c.toList.drop (k+xs.length)).toArray
theorem rowPut_size {c:Array Value} {k:Nat} {xs:List Value} (h:k+xs.length≤c.size):(rowPut c k xs).size=c.size:=by
 simp[rowPut];omega
theorem rowPut_in {c:Array Value} {k:Nat} {xs:List Value} (h:k+xs.length≤c.size) {t:Nat} (ht:t<xs.length):(rowPut c k xs)[k+t]?=some xs[t]:=by
 simp only[rowPut,List.getElem?_toArray]
 rw[List.getElem?_append_left (by simp;omega),List.getElem?_append_right (by simp;omega)]
 simp only[List.length_take,Array.length_toList,Nat.min_eq_left (show k≤c.size by omega),Nat.add_sub_cancel_left]
 simp[ht]
theorem rowPut_out {c:Array Value} {k:Nat} {xs:List Value} (h:k+xs.length≤c.size) {i:Nat} (hi:i<k∨k+xs.length≤i):(rowPut c k xs)[i]?=c[i]?:=by
 simp only[rowPut,List.getElem?_toArray]
 rcases hi with hi|hi
 ·rw[List.getElem?_append_left (by simp;omega),List.getElem?_append_left (by simp;omega),List.getElem?_take_of_lt hi]
  simp
 ·rw[List.getElem?_append_right (by simp;omega),List.getElem?_drop]
  simp only[List.length_append,List.length_take,Array.length_toList]
  rw[Nat.min_eq_left (show k≤c.size by omega),show k+xs.length+(i - (k+xs.length))=i by omega]
  simp
theorem idx_inj {es i j i' j':Nat} (hj:j<es) (hj':j'<es) (h:i*es+j=i'*es+j'):i=i'∧j=j':=by
 have h1:(i*es+j) / es=i:=by rw[Nat.mul_comm,Nat.mul_add_div (by omega)];simp[Nat.div_eq_of_lt hj]
 have h2:(i'*es+j') / es=i':=by rw[Nat.mul_comm,Nat.mul_add_div (by omega)];simp[Nat.div_eq_of_lt hj']
 have:i=i':=by rw[←h1,←h2,h]
 subst this
 exact⟨rfl,by omega⟩
theorem idx_lt {es i j n:Nat} (hi:i<n) (hj:j<es):i*es+j<n*es:=by
 have:(i+1)*es≤n*es:=Nat.mul_le_mul_right _ hi
 rw[Nat.add_mul] at this
 omega
theorem Ow.set {w w':World} {own own':Own} {r:Root} (h0:∀b o,own b=none→w.heap[b]?=some o→own' b=none∧w'.heap[b]?=some o)
 {i j:Nat} {ys:List AV} {xs:List Value} (hl:ys.length=xs.length) {g:Nat}:
 ∀(q:Path) (a:AV) (p0:Path) (v:Value),a.okp q→i<(a.at q).n→j+ys.length≤(a.at q).es→own g=some (r,p0++q)→(∃n' cap',AM.hdr w a v q=some (.slice (some ⟨g,0,none⟩) n' cap'))→
  (∀b o p',own b=some (r,p0++p')→w.heap[b]?=some o→(∀t,t<ys.length→∀s,p'≠q++(i,j+t)::s)→
   own' b=some (r,p0++p')∧(b≠g→w'.heap[b]?=some o)∧(b=g→∀c T fz,o=.cells c T fz→w'.heap[b]?=some (.cells (rowPut c (i*(a.at q).es+j) xs) T fz)))→
  (∀t (ht:t<ys.length),Ow w' own' r ys[t] (p0++q++[(i,j+t)]) (xs[t]'(hl▸ht)))→
  Ow w own r a p0 v→Ow w' own' r (a.setR q i j ys) p0 v:=by
 intro q
 induction q with
 |nil=>
  intro a p0 v hok hi hj hog hg hk hn h
  cases a with
  |sl u nl es n f=>
   cases u with
   |false=>cases hok
   |true=>
    simp only[AV.at,AV.n,AV.es] at hi hj hk
    rcases h with ⟨rfl,_⟩|⟨b,cap,c,T,rfl,hnl,ho,hb,h2,h3,h4,h5⟩
    ·omega
    ·have hbg:b=g:=by
      obtain⟨n',cap',hg⟩:=hg
      simp only[AM.hdr,Option.some.injEq,Value.slice.injEq,Addr.mk.injEq] at hg
      exact hg.1.1
     have hk0:=hk b _ [] (by simpa using ho) hb (fun t _ s=>by simp)
     have hfit:i*es+j+xs.length≤c.size:=by
      rw[h4]
      have:(i+1)*es≤cap*es:=Nat.mul_le_mul_right _ (by omega)
      rw[Nat.add_mul] at this
      omega
     refine .inr ⟨b,cap,_,T,rfl,hnl,by simpa using hk0.1,hk0.2.2 hbg c T _ rfl,h2,h3,by rw[rowPut_size hfit,h4],fun i' hi' j' hj'=>?_⟩
     by_cases he:i'=i∧j≤j'∧j'<j+ys.length
     ·obtain⟨rfl,he1,he2⟩:=he
      obtain⟨t,rfl⟩:∃t,j'=j+t:=⟨j' - j,by omega⟩
      have ht:t<ys.length:=by omega
      refine⟨xs[t]'(hl▸ht),?_,?_⟩
      ·rw[←Nat.add_assoc];exact rowPut_in hfit _
      ·dsimp only
       rw[if_pos ⟨rfl,he1,he2⟩,gl_eq,Nat.add_sub_cancel_left]
       simpa [List.getD,ht] using hn t ht
     ·obtain⟨x,hx,hr⟩:=h5 i' hi' j' hj'
      refine⟨x,?_,?_⟩
      ·rw[rowPut_out hfit,hx]
       rcases Nat.lt_or_ge (i'*es+j') (i*es+j) with h6|h6
       ·exact .inl h6
       ·right
        rcases Nat.lt_or_ge (i'*es+j') (i*es+j+xs.length) with h7|h7
        ·exfalso
         have:=idx_inj (i:=i') (j:=j') (i':=i) (j':=j+(i'*es+j' - (i*es+j))) hj' (by omega) (by omega)
         exact he ⟨this.1,by omega,by omega⟩
        ·exact h7
      ·dsimp only
       rw[if_neg he]
       refine Ow.mono h0 _ _ _ _ (fun b o q e1 e2=>?_) hr
       have:=hk b o ((i',j')::q) (by simpa using e1) e2 (fun t ht s e=>by
        simp only[List.nil_append,List.cons.injEq,Prod.mk.injEq] at e
        exact he ⟨e.1.1,by omega,by omega⟩)
       exact⟨by simpa using this.1,this.2.1 (by rintro rfl;rw[hog] at e1;simp at e1)⟩
  |mp es=>exact absurd hi (Nat.not_lt_zero _)
  |_=>cases hok
 |cons ij q ih=>
  obtain⟨i1,j1⟩:=ij
  intro a p0 v hok hi hj hog hg hk hn h
  cases a with
  |sl u nl es n f=>
   cases u with
   |false=>cases hok
   |true=>
    obtain⟨hi1,hj1,hok⟩:=hok
    simp only[AV.at] at hi hj hk
    rcases h with ⟨rfl,_⟩|⟨b,cap,c,T,rfl,hnl,ho,hb,h2,h3,h4,h5⟩
    ·omega
    ·have hk0:=hk b _ [] (by simpa using ho) hb (fun t _ s=>by simp)
     refine .inr ⟨b,cap,c,T,rfl,hnl,by simpa using hk0.1,hk0.2.1 (by rintro rfl;rw[hog] at ho;simp at ho),h2,h3,h4,fun i' hi' j' hj'=>?_⟩
     obtain⟨x,hx,hr⟩:=h5 i' hi' j' hj'
     refine⟨x,hx,?_⟩
     by_cases he:i'=i1∧j'=j1
     ·obtain⟨rfl,rfl⟩:=he
      dsimp only
      rw[if_pos ⟨rfl,rfl⟩]
      refine ih (f i' j') (p0++[(i',j')]) x hok hi hj (by simpa using hog) (by
       obtain⟨n',cap',hg⟩:=hg
       simp only[AM.hdr,hb,Nat.zero_add] at hg
       rw[hx] at hg
       exact⟨n',cap',hg⟩) (fun b o p' e1 e2 e3=>?_) (fun t ht=>by simpa using hn t ht) hr
      have:=hk b o ((i',j')::p') (by simpa using e1) e2 (fun t ht s e=>by
       simp only[List.cons_append,List.cons.injEq,true_and] at e
       exact e3 t ht s e)
      refine⟨by simpa using this.1,this.2.1,this.2.2⟩
     ·dsimp only
      rw[if_neg he]
      refine Ow.mono h0 _ _ _ _ (fun b o q' e1 e2=>?_) hr
      have:=hk b o ((i',j')::q') (by simpa using e1) e2 (fun t ht s e=>by
       simp only[List.cons_append,List.cons.injEq,Prod.mk.injEq] at e
       exact he ⟨e.1.1,e.1.2⟩)
      exact⟨by simpa using this.1,this.2.1 (by
       rintro rfl
       rw[hog] at e1
       simp only[Option.some.injEq,Prod.mk.injEq,true_and,List.append_assoc,List.append_cancel_left_eq,List.cons_append,List.nil_append,List.cons.injEq] at e1
       exact he ⟨e1.1.1.symm,e1.1.2.symm⟩)⟩
  |_=>cases hok
end Go.AM
/- The framework AM,part 2:the abstract state and the abstract operations. -/
namespace Go.AM
open Go
inductive SV where
 |av (a:AV)
 |own (k:Nat) (p:Path) (vs:List Nat)
 |ref (k:Nat) (p:Path) (vs:List Nat) (i off:Nat)
 |view (k:Nat) (p:Path) (vs:List Nat) (lo hi:Nat)
 |clo (g:Fn) (l:List SV)
 |junk
inductive CV where
 |one (s:SV)
 |agg (l:List SV)
inductive TV where
 |one (s:SV)
 |agg (l:List SV)
 |tup (l:List CV)
 |cnd (b:Bool) (c:CV)
structure OB where
 a:AV
 vs:List Nat
structure St where
 t:List (Nat×TV)
 h:List (Nat×OB)
 n:Nat
def TV.junk:TV:=.one .junk
def OB.dead:OB:=⟨.junk,[]⟩
def lk {α:Type} (d:α):List (Nat×α)→Nat→α
 |[],_=>d
 |(k,v)::r,s=>if k=s then v else lk d r s
def St.T (σ:St):Nat→TV:=lk .junk σ.t
def St.H (σ:St):Nat→OB:=lk .dead σ.h
structure Res where
 ok:Prop
 v:TV
 hu:List (Nat×OB):=[]
 rd:List Nat:=[]
 nw:List Nat:=[]
 sh:List Nat:=[]
structure TK where
 sz:Nat:=0
 by_:Nat:=0
 agg:Bool:=false
 el:Option TypeId:=none
 fs:List (Nat×TypeId):=[]
 ik:Option IntKind:=none
 z:List AV:=[]
 str:Bool:=false
 bl:Bool:=false
def nilAV:AV:=.sl false (some true) 0 0 (fun _ _=>.junk)
def ofV:Value→AV
 | .int k n=>if k.min≤n∧n≤k.max then .int k n else .junk
 | .bool b=>.bool b
 | .string s=>.str s.data.toList
 | .slice none 0 0=>nilAV
 |_=>.junk
def zOf (i:TypeInfo):List AV:=
 match i.zero with
 |some v=>v.cells.toList.map ofV
 |none=>[]
def aggD:TypeDesc→Bool
 | .struct _=>true
 | .array _ _=>true
 |_=>false
def elD:TypeDesc→Option TypeId
 | .slice e=>some e
 |_=>none
def fsD:TypeDesc→List (Nat×TypeId)
 | .struct fs=>fs.toList.map fun f=>(f.offset,f.type)
 |_=>[]
def ikD:TypeDesc→Option IntKind
 | .int k=>some k
 |_=>none
def strD:TypeDesc→Bool
 | .string=>true
 |_=>false
def blD:TypeDesc→Bool
 | .bool=>true
 |_=>false
def tk (P:Program) (t:TypeId):TK:=
 match P.underlying t,P.info? t with
 |some d,some i=>{ sz:=i.size,by_:=i.bytes,agg:=aggD d,el:=elD d,fs:=fsD d,ik:=ikD d,z:=zOf i,str:=strD d,bl:=blD d}
 |_,_=>{}
def verTake:List Nat→Nat→List Nat
 |_,0=>[]
 |[],n+1=>0::verTake [] n
 |v::r,n+1=>v::verTake r n
def bump:List Nat→Nat→List Nat
 |[],0=>[1]
 |v::r,0=>(v+1)::r
 |[],n+1=>0::bump [] n
 |v::r,n+1=>v::bump r n
def OB.live (o:OB) (p:Path) (vs:List Nat):Prop:=o.a.okp p∧vs=verTake o.vs (p.length+1)
def cellsF {α:Type} (f:Nat→α):Nat→Nat→List α
 |_,0=>[]
 |o,n+1=>f o::cellsF f (o+1) n
def ldc (k:Nat) (p:Path) (vs:List Nat) (i j:Nat):AV→SV
 | .sl true _ _ _ _=>.own k (p++[(i,j)]) (verTake vs (p.length+2))
 | .pin _ a=>.av a
 |a=>.av a
def plain:AV→Bool
 | .int _ _| .bool _| .str _| .rng _ _ _=>true
 |_=>false
def CV.tv:CV→TV
 | .one s=>.one s
 | .agg l=>.agg l
def AV.kn:AV→Bool
 | .junk=>false
 | .pin _ _=>false
 | .mp _=>false
 |_=>true
def s1 (H:Nat→OB):SV→Prop
 | .av a=>a.kn=true
 | .own k p vs=>(H k).live p vs
 | .ref k p vs _ _=>(H k).live p vs
 | .view k p vs _ _=>(H k).live p vs
 | .clo _ _=>True
 |_=>False
def s1L (H:Nat→OB):List SV→Prop
 |[]=>True
 |s::r=>s1 H s∧s1L H r
def t1 (H:Nat→OB):TV→Prop
 | .one s=>s1 H s
 | .agg l=>s1L H l
 |_=>False
def AV.cut:AV→Path→AV
 |_,[]=>.junk
 | .sl u nl es n f,(i,j)::p=>.sl u nl es n (fun i' j'=>if i'=i∧j'=j then (f i j).cut p else f i' j')
 |a,_=>a
def OB.cut (o:OB) (p:Path):OB:=⟨o.a.cut p,o.vs⟩
structure Sto where
 ok:Prop
 cs:List AV
 hu:List (Nat×OB):=[]
 rd:List Nat:=[]
def sto1 (H:Nat→OB):SV→Sto
 | .av a=>⟨a.kn=true,[a.ro],[],[]⟩
 | .own k p vs=>⟨(H k).live p vs,[(H k).a.at p],[(k,(H k).cut p)],[k]⟩
 |_=>⟨False,[],[],[]⟩
def stoL (H:Nat→OB):List SV→Sto
 |[]=>⟨True,[],[],[]⟩
 |s::r=>
  let x:=sto1 H s
  let y:=stoL (fun k=>lk (H k) x.hu k) r
  ⟨x.ok∧y.ok,x.cs++y.cs,y.hu++x.hu,x.rd++y.rd⟩
def TV.cells:TV→List SV
 | .one s=>[s]
 | .agg l=>l
 |_=>[]
def sto (H:Nat→OB):TV→Sto
 | .one s=>sto1 H s
 | .agg l=>stoL H l
 |_=>⟨False,[],[],[]⟩
def TK.can (t:TK):Bool:=if t.agg then !Nat.beq t.sz 0 else Nat.beq t.sz 1
def bad:Res:={ ok:=False,v:=.junk}
def intOp (op:BinOp) (k:IntKind) (x y:Int):Prop×SV:=
 match op with
 | .add=>(inK k (x+y),.av (.int k (x+y)))
 | .sub=>(inK k (x - y),.av (.int k (x - y)))
 | .mul=>(inK k (x*y),.av (.int k (x*y)))
 | .quo=>(y≠0∧inK k (x.tdiv y),.av (.int k (x.tdiv y)))
 | .rem=>(y≠0,.av (.int k (x.tmod y)))
 | .eql=>(True,.av (.bool (x==y)))
 | .neq=>(True,.av (.bool (x !=y)))
 | .lss=>(True,.av (.bool (decide (x<y))))
 | .leq=>(True,.av (.bool (decide (x≤y))))
 | .gtr=>(True,.av (.bool (decide (x>y))))
 | .geq=>(True,.av (.bool (decide (x≥y))))
 | .and=>(inK k (k.wrap (BitVec.ofInt k.bits x&&&BitVec.ofInt k.bits y).toNat),.av (.int k (k.wrap (BitVec.ofInt k.bits x&&&BitVec.ofInt k.bits y).toNat)))
 | .or=>(inK k (k.wrap (BitVec.ofInt k.bits x|||BitVec.ofInt k.bits y).toNat),.av (.int k (k.wrap (BitVec.ofInt k.bits x|||BitVec.ofInt k.bits y).toNat)))
 |_=>(False,.junk)
def shOp (op:BinOp) (k:IntKind) (x y:Int):Prop×SV:=
 match op with
 | .shl=>(0≤y∧y<k.bits∧inK k (x*2^y.toNat),.av (.int k (x*2^y.toNat)))
 | .shr=>(0≤y∧y<k.bits∧inK k (x.fdiv (2^y.toNat)),.av (.int k (x.fdiv (2^y.toNat))))
 |_=>(False,.junk)
def eqAV:AV→AV→Option Bool
 | .int k a,.int k' b=>if k=k' then some (a==b) else none
 | .bool a,.bool b=>some (a==b)
 | .str a,.str b=>some (a==b)
 | .sl _ nl _ n _,.sl _ (some true) _ 0 _=>match nl with|some b=>some b|none=>if n=0 then none else some false
 |_,_=>none
def eqL:List SV→List SV→Option Bool
 |[],[]=>some true
 | .av a::r,.av b::r'=>(match eqAV a b,eqL r r' with|some x,some y=>some (x&&y)|_,_=>none)
 |_,_=>none
def kin1:AV→AV→Bool
 | .int _ _,.int _ _=>true
 | .bool _,.bool _=>true
 | .str _,.str _=>true
 |_,_=>false
def kinA:List AV→List AV→Bool
 |[],[]=>true
 |a::r,b::s=>kin1 a b&&kinA r s
 |_,_=>false
def StructEq (P:Program) (t:TypeId):Prop:=∀(l l':List AV) (xs ys:Array Value) (w:World) (b:Bool),
 xs.size=l.length→ys.size=l'.length→kinA (tk P t).z l=true→kinA (tk P t).z l'=true→
 (∀(j:Nat) (a:AV),l[j]?=some a→∃x,xs[j]?=some x∧Rd w (fun _=>none) a x)→(∀(j:Nat) (a:AV),l'[j]?=some a→∃x,ys[j]?=some x∧Rd w (fun _=>none) a x)→
 eqL (l.map .av) (l'.map .av)=some b→∀x y:Operand,
  (eqGuard .eql t x y (.agg xs) (.agg ys)).run P w=.ok () w∧(eqGuard .neq t x y (.agg xs) (.agg ys)).run P w=.ok () w∧
  (binOp .eql t (.agg xs) (.agg ys)).run P w=.ok (.bool b) w∧(binOp .neq t (.agg xs) (.agg ys)).run P w=.ok (.bool (!b)) w
def avs:List SV→Option (List AV)
 |[]=>some []
 | .av a::r=>(match avs r with|some l=>some (a::l)|none=>none)
 |_=>none
def rngK:SV→Option (IntKind×Int×Int)
 | .av (.int k n)=>some (k,n,n)
 | .av (.rng k lo hi)=>some (k,lo,hi)
 |_=>none
def AV.full (k:IntKind):AV:=.rng k k.min k.max
def rngOp (op:BinOp) (k k':IntKind) (lo hi:Int):Prop×SV:=
 match op with
 | .add| .sub| .mul| .xor=>(k=k',.av (AV.full k))
 | .and=>if lo=255∧hi=255∧k=.i64 then (k=k',.av (.rng .i64 0 255)) else (k=k',.av (AV.full k))
 | .shr=>(lo=hi∧0≤lo∧lo<k.bits,.av (AV.full k))
 |_=>(False,.junk)
def binop (P:Program) (t:TypeId) (op:BinOp) (x y:TV):Prop×SV:=
 match op,x,y with
 | .shl,.one (.av (.int k a)),.one (.av (.int _ b))=>shOp .shl k a b
 | .shr,.one (.av (.int k a)),.one (.av (.int _ b))=>shOp .shr k a b
 |op,.one (.av (.int k a)),.one (.av (.int k' b))=>let r:=intOp op k a b;(k=k'∧r.1,r.2)
 | .add,.one (.av (.str a)),.one (.av (.str b))=>(a.length+b.length≤maxLen,.av (.str (a++b)))
 | .eql,.one (.av (.str a)),.one (.av (.str b))=>(True,.av (.bool (a==b)))
 | .neq,.one (.av (.str a)),.one (.av (.str b))=>(True,.av (.bool (!(a==b))))
 | .lss,.one (.av (.str a)),.one (.av (.str b))=>(True,.av (.bool (Op.bytesLess a b)))
 | .eql,.one (.av (.bool a)),.one (.av (.bool b))=>((tk P t).bl=true,.av (.bool (a==b)))
 | .neq,.one (.av (.bool a)),.one (.av (.bool b))=>((tk P t).bl=true,.av (.bool (!(a==b))))
 | .eql,.agg l,.agg l'=>(match avs l,avs l',eqL l l' with|some k1,some k2,some b=>(StructEq P t∧kinA (tk P t).z k1=true∧kinA (tk P t).z k2=true,.av (.bool b))|_,_,_=>(False,.junk))
 | .neq,.agg l,.agg l'=>(match avs l,avs l',eqL l l' with|some k1,some k2,some b=>(StructEq P t∧kinA (tk P t).z k1=true∧kinA (tk P t).z k2=true,.av (.bool (!b)))|_,_,_=>(False,.junk))
 |op,.one x,.one y=>(match rngK x,rngK y with
  |some (k,_,_),some (k',lo,hi)=>rngOp op k k' lo hi
  |_,_=>(False,.junk))
 |_,_,_=>(False,.junk)
def nlOf (H:Nat→OB):SV→Option (Prop×Bool×List Nat)
 | .av (.sl _ (some b) _ _ _)=>some (True,b,[])
 | .av (.sl _ none _ n _)=>some (n≠0,false,[])
 | .own k p vs=>(match (H k).a.at p with
  | .sl true (some b) _ _ _=>some ((H k).live p vs,b,[k])
  | .sl true none _ n _=>some ((H k).live p vs∧n≠0,false,[k])
  |_=>none)
 |_=>none
def uwb:TV→Option (Bool×Bool)
 | .one (.av (.bool q))=>some (true,q)
 | .cnd b (.one (.av (.bool q)))=>some (b,q)
 |_=>none
def fldOff (P:Program) (t:TypeId) (i:Nat):Nat:=(gl (0,0) (tk P t).fs i).1
def fldTy (P:Program) (t:TypeId) (i:Nat):TypeId:=(gl (0,0) (tk P t).fs i).2
def ldTV (P:Program) (t:TypeId) (c:Nat→SV) (o:Nat):TV:=
 if (tk P t).agg then .agg (cellsF c o (tk P t).sz) else .one (c o)
def rowsF (l:List (List AV)):Nat→Nat→AV:=fun i j=>gl .junk (gl [] l i) j
def stoParts (H:Nat→OB) (ρ:Operand→TV):List (Nat×Operand)→Sto×List (List AV)
 |[]=>(⟨True,[],[],[]⟩,[])
 |(_,x)::r=>
  let a:=sto H (ρ x)
  let (b,l):=stoParts (fun k=>lk (H k) a.hu k) ρ r
  (⟨a.ok∧b.ok,[],b.hu++a.hu,a.rd++b.rd⟩,a.cs::l)
def inOrder {β:Type}:Nat→List (Nat×β)→Bool
 |_,[]=>true
 |n,(i,_)::r=>Nat.beq i n&&inOrder (n+1) r
def putRange {α:Type}:List α→Nat→List α→List α
 |l,0,[]=>l
 |_::r,0,y::ys=>y::putRange r 0 ys
 |x::r,n+1,ys=>x::putRange r n ys
 |l,_,_=>l
def snds {α β:Type}:List (α×β)→List β
 |[]=>[]
 |(_,x)::r=>x::snds r
def t1All (H:Nat→OB) (ρ:Operand→TV):List Operand→Prop
 |[]=>True
 |x::r=>t1 H (ρ x)∧t1All H ρ r
def buildF (P:Program) (t:TypeId) (ρ:Operand→TV):List (Nat×Operand)→List SV→List SV
 |[],l=>l
 |(i,x)::r,l=>buildF P t ρ r (putRange l (fldOff P t i) (ρ x).cells)
def buildOk (P:Program) (t:TypeId) (ρ:Operand→TV):List (Nat×Operand)→Bool
 |[]=>true
 |(i,x)::r=>Nat.blt i (tk P t).fs.length&&Nat.beq (ρ x).cells.length (tk P (fldTy P t i)).sz&&Nat.ble (fldOff P t i+(ρ x).cells.length) (tk P t).sz&&buildOk P t ρ r
def fsAll (P:Program):List (Nat×TypeId)→Bool
 |[]=>true
 |(_,t)::r=> !Nat.beq (tk P t).sz 0&&fsAll P r
def fsOk (P:Program):List (Nat×TypeId)→Bool
 |[]=>false
 |x::r=>fsAll P (x::r)
def slOf (H:Nat→OB):SV→Option (Prop×Nat×Nat×(Nat→Nat→AV)×List Nat)
 | .av (.sl _ _ es n f)=>some (True,es,n,f,[])
 | .own k p vs=>(match (H k).a.at p with
  | .sl true _ es n f=>some ((H k).live p vs,es,n,f,[k])
  |_=>none)
 | .view k p vs lo hi=>(match (H k).a.at p with
  | .sl true _ es n f=>some ((H k).live p vs∧lo≤hi∧hi≤n,es,hi - lo,fun i j=>f (lo+i) j,[k])
  |_=>none)
 |_=>none
def AV.free:AV→Prop
 | .sl true _ _ _ _=>False
 | .junk=>False
 | .pin _ _=>False
 | .mp _=>False
 |_=>True
def apF (n:Nat) (f g:Nat→Nat→AV):Nat→Nat→AV:=fun i j=>if i<n then f i j else g (i - n) j
def apSrc (H:Nat→OB) (es:Nat):SV→Option (Prop×Nat×(Nat→Nat→AV)×List Nat)
 | .av (.sl _ _ es' n f)=>some ((n=0∨es'=es)∧∀i,i<n→∀j,j<es→(f i j).kn=true,n,fun i j=>(f i j).ro,[])
 | .own k p vs=>(match (H k).a.at p with
  | .sl true _ es' n f=>some ((H k).live p vs∧(n=0∨es'=es)∧∀i,i<n→∀j,j<es→(f i j).free,n,f,[k])
  |_=>none)
 | .view k p vs lo hi=>(match (H k).a.at p with
  | .sl true _ es' n f=>some ((H k).live p vs∧es'=es∧lo≤hi∧hi≤n∧∀i,lo≤i→i<hi→∀j,j<es→(f i j).free,hi - lo,fun i j=>f (lo+i) j,[k])
  |_=>none)
 |_=>none
def lim:Nat:=140737488355328
def apOld (P:Program) (t:TypeId) (x y:TV) (H:Nat→OB) (n:Nat):Res:=
 match (tk P t).el with
 |none=>bad
 |some e=>
  let es:=(tk P e).sz
  (match x,y with
  | .one s,.one z=>
   (match apSrc H es z with
   |none=>bad
   |some (ok2,m,g,rd2)=>
    (match s with
    | .av (.sl _ (some true) _ 0 _)=>{ ok:=ok2∧Nat.beq es 0=false∧(tk P e).z.length=es∧m*(tk P e).by_≤lim∧m≤maxLen,v:=.one (.own n [] [0]),hu:=[(n,⟨.sl true none es m g,[]⟩)],rd:=rd2,nw:=[n]}
    | .own k p vs=>(match (H k).a.at p with
     | .sl true nl es' l f=>{ ok:=ok2∧(H k).live p vs∧es'=es∧Nat.beq es 0=false∧(tk P e).z.length=es∧(l+m)*(tk P e).by_≤lim∧l+m≤maxLen,v:=.one (.own n [] [0]),hu:=[(n,⟨.sl true (if nl=some false then some false else none) es (l+m) (apF l f g),[]⟩),(k,(H k).cut p)],rd:=k::rd2,nw:=[n]}
     |_=>bad)
    |_=>bad))
  |_,_=>bad)
def owns1:AV→Bool
 | .sl true _ _ _ _=>true
 |_=>false
def ownsN:Nat→(Nat→AV)→Bool
 |0,_=>false
 |j+1,f=>owns1 (f j)||ownsN j f
def knN:Nat→(Nat→AV)→Bool
 |0,_=>true
 |j+1,f=>(f j).kn&&knN j f
def shl (p:Path) (agg:Bool):Bool:=match p with
 |[]=> !agg
 |_=>false
def shx (p:Path):Bool:=match p with
 |[]=>true
 |[_]=>true
 |_=>false
def ctOf (k n:Nat) (p:Path):List Nat:=bif Nat.blt 1 p.length&& !(Nat.beq k n) then [k] else []
def ctOp (op:Op) (ρ:Operand→TV) (n:Nat):List Nat:=match op with
 | .call c=>(match c.callee,c.args.toList with
  | .builtin .append,[x,_]=>(match ρ x with
   | .one (.own k p _)=>ctOf k n p
   |_=>[])
  |_,_=>[])
 | .mapEntry _ x _=>(match ρ x with
  | .one (.own k _ _)=>[k]
  |_=>[])
 |_=>[]
def mvSrc (H:Nat→OB) (es:Nat):SV→Option (Nat×Prop×(Nat→Nat→AV))
 | .own k [] vs=>(match (H k).a.at [] with
  | .sl true _ es' m g=>bif ownsN es (g 0) then some (k,(H k).live [] vs∧es'=es∧m=1∧knN es (g 0)=true,g) else none
  |_=>none)
 |_=>none
def apMv (P:Program) (e:TypeId) (s:SV) (H:Nat→OB) (n k2:Nat) (ok2:Prop) (g:Nat→Nat→AV):Res:=
 let es:=(tk P e).sz
 match s with
 | .av (.sl _ (some true) _ 0 _)=>{ ok:=ok2∧Nat.beq es 0=false∧(tk P e).z.length=es∧1*(tk P e).by_≤lim,v:=.one (.own n [] [0]),hu:=[(n,⟨.sl true none es 1 g,[]⟩),(k2,(H k2).cut [])],rd:=[k2],nw:=[n]}
 | .own k p vs=>(match (H k).a.at p with
  | .sl true nl es' l f=>{ ok:=ok2∧Nat.beq k k2=false∧(H k).live p vs∧es'=es∧Nat.beq es 0=false∧(tk P e).z.length=es∧(l+1)*(tk P e).by_≤lim∧l+1≤maxLen,v:=.one (.own n [] [0]),hu:=[(n,⟨.sl true (if nl=some false then some false else none) es (l+1) (apF l f g),[]⟩),(k,(H k).cut p),(k2,(H k2).cut [])],rd:=[k,k2],nw:=[n]}
  |_=>bad)
 |_=>bad
def apOp (P:Program) (t:TypeId) (x y:TV) (H:Nat→OB) (n:Nat):Res:=
 match (tk P t).el,x,y with
 |some e,.one s,.one z=>(match mvSrc H (tk P e).sz z with
  |some (k2,ok2,g)=>apMv P e s H n k2 ok2 g
  |none=>apOld P t x y H n)
 |_,_,_=>apOld P t x y H n
def lenOf (P:Program) (t:TypeId) (H:Nat→OB):SV→Option (Prop×Nat×List Nat)
 | .av (.str s)=>some ((tk P t).str=true∧s.length≤maxLen,s.length,[])
 |s=>(match slOf H s with
  |some (ok,_,n,_,rd)=>some ((tk P t).el.isSome=true∧ok,n,rd)
  |none=>none)
def optI (ρ:Operand→TV):Option Operand→Option (Option Int)
 |none=>some none
 |some x=>(match ρ x with
  | .one (.av (.int _ i))=>some (some i)
  |_=>none)
def ixOk (P:Program) (t:TypeId) (es:Nat):Prop:=∃e,(tk P t).el=some e∧(tk P e).sz=es∧es≠0
def slc (P:Program) (t:TypeId) (H:Nat→OB) (s:SV) (lo hi:Option Int):Res:=
 match s with
 | .av (.str b)=>
  let h:=(hi.getD b.length)
  let l:=(lo.getD 0)
  { ok:=(tk P t).str=true∧0≤l∧l≤h∧h≤b.length,v:=.one (.av (.str ((b.drop l.toNat).take (h.toNat - l.toNat))))}
 | .av (.sl _ _ es m f)=>
  let h:=(hi.getD m)
  let l:=(lo.getD 0)
  { ok:=ixOk P t es∧0≤l∧l≤h∧h≤m,v:=.one (.av (.sl false none es (h.toNat - l.toNat) (fun i j=>f (l.toNat+i) j)))}
 | .own k p vs=>
  (match (H k).a.at p with
  | .sl true _ es m _=>
   let h:=(hi.getD m)
   let l:=(lo.getD 0)
   { ok:=ixOk P t es∧(H k).live p vs∧0≤l∧l≤h∧h≤m,v:=.one (.view k p vs l.toNat h.toNat),rd:=[k]}
  |_=>bad)
 | .view k p vs lo0 hi0=>
  (match (H k).a.at p with
  | .sl true _ es m _=>
   let h:=(hi.getD (hi0 - lo0:Nat))
   let l:=(lo.getD 0)
   { ok:=ixOk P t es∧(H k).live p vs∧lo0≤hi0∧hi0≤m∧0≤l∧l≤h∧h≤(hi0 - lo0:Nat),v:=.one (.view k p vs (lo0+l.toNat) (lo0+h.toNat)),rd:=[k]}
  |_=>bad)
 |_=>bad
def bytesOf:Nat→(Nat→Nat→AV)→List UInt8
 |0,_=>[]
 |n+1,f=>(match f 0 0 with| .int _ x=>UInt8.ofNat x.toNat|_=>0)::bytesOf n (fun i=>f (i+1))
def allBytes:Nat→(Nat→Nat→AV)→Prop
 |0,_=>True
 |n+1,f=>(match f 0 0 with| .int .u8 _=>True|_=>False)∧allBytes n (fun i=>f (i+1))
def conv (P:Program) (src dst:TypeId) (x:Operand) (ρ:Operand→TV) (H:Nat→OB):Res:=
 match (tk P dst).ik,(tk P dst).str,ρ x with
 |some k,_,.one (.av (.int k' i))=>{ ok:=(tk P src).ik.isSome=true,v:=.one (.av (.int k (if k=k' then i else k.wrap i)))}
 |some k,_,.one (.av (.rng k' lo hi))=>{ ok:=(tk P src).ik.isSome=true∧k'=.u8∧k=.i64,v:=.one (.av (.rng k lo hi))}
 |none,true,.one (.av (.str s))=>{ ok:=(tk P src).str=true,v:=.one (.av (.str s))}
 |none,true,.one s=>(match slOf H s,(tk P src).el with
  |some (ok,es,m,f,rd),some e=>{ ok:=ok∧es=1∧(tk P e).ik=some .u8∧allBytes m f,v:=.one (.av (.str (bytesOf m f))),rd}
  |_,_=>bad)
 |_,_,_=>bad
def two (f:Int→Int→Int):TV→TV→Option (IntKind×Int)
 | .one (.av (.int k a)),.one (.av (.int k' b))=>if k=k' then some (k,f a b) else none
 |_,_=>none
def cloOps (ρ:Operand→TV):List Operand→Option (List SV)
 |[]=>some []
 |x::r=>(match ρ x,cloOps ρ r with
  | .one s,some l=>some (s::l)
  |_,_=>none)
def SV.ml0:SV→List Nat
 | .own k _ _=>[k]
 | .ref k _ _ _ _=>[k]
 | .view k _ _ _ _=>[k]
 |_=>[]
def SV.mlL0:List SV→List Nat
 |[]=>[]
 |s::r=>s.ml0++SV.mlL0 r
def SV.ml:SV→List Nat
 | .clo _ l=>SV.mlL0 l
 |s=>s.ml0
def SV.mlL:List SV→List Nat
 |[]=>[]
 |s::r=>s.ml++SV.mlL r
def TV.ml:TV→List Nat
 | .one s=>s.ml
 | .agg l=>SV.mlL l
 |_=>[]
def mlA:List TV→List Nat
 |[]=>[]
 |t::r=>t.ml++mlA r
def mlO (ρ:Operand→TV):List Operand→List Nat
 |[]=>[]
 |x::r=>(ρ x).ml++mlO ρ r
def mix:List (Int×Int×Int)→Int→Int→Nat
 |[],_,_=>0
 |x::r,a,b=>if mkey x=(a,b) then 0 else mix r a b+1
def mget:List (Int×Int×Int)→Int→Int→Int
 |[],_,_=>0
 |x::r,a,b=>if mkey x=(a,b) then x.2.2 else mget r a b
def ment (es:List (Int×Int×Int)) (a b:Int):List (Int×Int×Int):=if mix es a b<es.length then es else es++[(a,b,0)]
def mset:List (Int×Int×Int)→Nat→Int→List (Int×Int×Int)
 |[],_,_=>[]
 |x::r,0,v=>(x.1,x.2.1,v)::r
 |x::r,j+1,v=>x::mset r j v
def MapTy (P:Program) (t:TypeId):Prop:=∃k e,P.underlying t=some (.map k e)∧(∀w:World,(zeroValue e).run P w=.ok (.int .i64 0) w)∧
 ∀(w:World) (a b:Int),inK .i64 a→inK .i64 b→(∀em,(Instr.checkKey em 10000 k (prV a b)).run P w=.ok () w)∧(Instr.keyThatStays (prV a b) (prV a b)).run P w=.ok (prV a b) w∧
  ∀es:List (Int×Int×Int),(∀x∈es,inK .i64 x.1∧inK .i64 x.2.1)→∀n,
   ((Instr.findKey k (prV a b) (entL n es)).run P w=.ok none w∧∀x∈es,mkey x≠(a,b))∨
   ∃j x,es[j]?=some x∧mkey x=(a,b)∧(Instr.findKey k (prV a b) (entL n es)).run P w=.ok (some (j,.int .i64 x.2.2)) w
def mapA (H:Nat→OB):TV→Option (Nat×List Nat×List (Int×Int×Int))
 | .one (.own k [] vs)=>(match (H k).a with
  | .mp es=>some (k,vs,es)
  |_=>none)
 |_=>none
def keyA:TV→Option (Int×Int)
 | .agg [.av (.int .i64 a),.av (.int .i64 b)]=>some (a,b)
 |_=>none
def aop (P:Program) (op:Op) (ρ:Operand→TV) (H:Nat→OB) (n:Nat):Res:=
 match op with
 | .move x=>{ ok:=True,v:=ρ x}
 | .assign x=>{ ok:=True,v:=ρ x}
 | .pick c a b=>
  (match uwb (ρ c),uwb (ρ a),uwb (ρ b) with
  |some (bc,x),some (ba,p),some (bb,q)=>{ ok:=bc=true∧(x=true→ba=true)∧(x=false→bb=true),v:=.one (.av (.bool (bif x then p else q)))}
  |_,_,_=>bad)
 | .box t x=>
  let s:=sto H (ρ x)
  { ok:=s.ok∧s.cs.length=(tk P t).sz,v:=.one (.ref n [] [0] 0 0),hu:=(n,⟨.sl true none (tk P t).sz 1 (fun _ j=>gl .junk s.cs j),[]⟩)::s.hu,rd:=s.rd,nw:=[n]}
 | .alloc t=>{ ok:=Nat.beq (tk P t).sz 0=false∧(tk P t).z.length=(tk P t).sz,v:=.one (.ref n [] [0] 0 0),hu:=[(n,⟨.sl true none (tk P t).sz 1 (fun _ j=>gl .junk (tk P t).z j),[]⟩)],nw:=[n]}
 | .build t parts=>
  { ok:=fsOk P (tk P t).fs=true∧Nat.beq (tk P t).sz 0=false∧buildOk P t ρ parts.toList=true∧t1All H ρ (snds parts.toList)∧(tk P t).z.length=(tk P t).sz,v:=.agg (buildF P t ρ parts.toList ((tk P t).z.map .av)),rd:=mlO ρ (snds parts.toList)}
 | .buildSlice t len parts=>
  (match (tk P t).el with
  |none=>bad
  |some e=>
   let s:=stoParts H ρ parts.toList
   { ok:=s.1.ok∧inOrder 0 parts.toList=true∧parts.toList.length=len∧(∀l∈s.2,l.length=(tk P e).sz)∧len*(tk P e).sz≤2^24∧len≤maxLen∧Nat.beq (tk P e).sz 0=false∧(tk P e).z.length=(tk P e).sz,v:=.one (.own n [] [0]),hu:=(n,⟨.sl true (some false) (tk P e).sz len (rowsF s.2),[]⟩)::s.1.hu,rd:=s.1.rd,nw:=[n]})
 | .load t x=>
  (match ρ x with
  | .one (.av (.ptr m f))=>{ ok:=(tk P t).can=true∧(tk P t).sz≤m,v:=ldTV P t (fun j=>.av (f j)) 0}
  | .one (.ref k p vs i o)=>
   (match (H k).a.at p with
   | .sl true _ es m f=>{ ok:=(H k).live p vs∧i<m∧(tk P t).can=true∧o+(tk P t).sz≤es,v:=ldTV P t (fun j=>ldc k p (H k).vs i j (f i j)) o,rd:=bif shl p (tk P t).agg then [] else [k],sh:=bif shl p (tk P t).agg then [k] else []}
   |_=>bad)
  |_=>bad)
 | .store t x y=>
  (match ρ x with
  | .one (.ref k p vs i o)=>
   (match (H k).a.at p with
   | .sl true _ es m _=>
    (match ρ y with
    | .one (.view k' p' vs' lo hi)=>
     (match (H k).a.at p' with
     | .sl true nl es' m' f'=>
      { ok:=k'=k∧p'=p++[(i,o)]∧(H k).live p vs∧(H k).live p' vs'∧lo=0∧hi≤m'∧(tk P t).sz=1∧i<m∧o+1≤es∧((H k).cut p').live p vs∧(((H k).cut p').a.at p).es=es∧(((H k).cut p').a.at p).n=m,v:=.junk,hu:=[(k,⟨((H k).a.cut p').setR p i o [.sl true (if nl=some false then some false else none) es' hi f'],bump (H k).vs (p.length+1)⟩)],rd:=[k]}
     |_=>bad)
    |z=>
     let s:=sto H z
     let K:=lk (H k) s.hu k
     { ok:=(H k).live p vs∧i<m∧s.ok∧(tk P t).can=true∧s.cs.length=(tk P t).sz∧o+s.cs.length≤es∧K.live p vs∧(K.a.at p).es=es∧(K.a.at p).n=m,v:=.junk,
       hu:=(k,⟨K.a.setR p i o s.cs,if s.cs.all plain then K.vs else bump K.vs (p.length+1)⟩)::s.hu,rd:=k::s.rd})
   |_=>bad)
  |_=>bad)
 | .nilCheck x=>
  (match ρ x with
  | .one (.av (.ptr m f))=>{ ok:=True,v:=.one (.av (.ptr m f))}
  | .one (.ref k p vs i o)=>{ ok:=True,v:=.one (.ref k p vs i o)}
  |_=>bad)
 | .binOp op t x y _=>
  (match (tk P t).el,op,ρ x,ρ y with
  |some _,.eql,.one s,.one (.av (.sl _ (some true) _ 0 _))=>(match nlOf H s with|some (ok,b,rd)=>{ ok,v:=.one (.av (.bool b)),rd}|none=>bad)
  |some _,.neq,.one s,.one (.av (.sl _ (some true) _ 0 _))=>(match nlOf H s with|some (ok,b,rd)=>{ ok,v:=.one (.av (.bool (!b))),rd}|none=>bad)
  |_,op,x,y=>let r:=binop P t op x y;{ ok:=r.1,v:=.one r.2})
 | .unOp .not _ x=>(match ρ x with
  | .one (.av (.bool b))=>{ ok:=True,v:=.one (.av (.bool (!b)))}
  |_=>bad)
 | .unOp .neg _ x=>(match ρ x with
  | .one (.av (.int k i))=>{ ok:=inK k (0 - i),v:=.one (.av (.int k (0 - i)))}
  |_=>bad)
 | .convert src dst x=>conv P src dst x ρ H
 | .makeFunc g first cap=>
  (match first.toList,cloOps ρ cap.toList with
  |[],some l=>{ ok:=True,v:=.one (.clo g l)}
  |_,_=>bad)
 | .makeSlice t l c=>
  (match (tk P t).el,ρ l,ρ c with
  |some e,.one (.av (.int .i64 a)),.one (.av (.int .i64 b))=>
   { ok:=a=b∧0≤a∧a*(tk P e).by_≤281474976710656∧Nat.beq (tk P e).sz 0=false∧(tk P e).z.length=(tk P e).sz,v:=.one (.own n [] [0]),hu:=[(n,⟨.sl true (some false) (tk P e).sz a.toNat (fun _ j=>gl .junk (tk P e).z j),[]⟩)],nw:=[n]}
  |_,_,_=>bad)
 | .slice t x lo hi none=>
  (match ρ x,optI ρ lo,optI ρ hi with
  | .one s,some l,some h=>slc P t H s l h
  |_,_,_=>bad)
 | .slice t x (some lo) (some hi) (some mx)=>
  (match ρ x,ρ lo,ρ hi,ρ mx with
  | .one s,.one (.av (.int _ a)),.one (.av (.int _ b)),.one (.av (.int _ c))=>
   (match slOf H s with
   |some (ok,es,_,f,rd)=>{ ok:=ok∧ixOk P t es∧a=0∧b=0∧c=0,v:=.one (.own n [] [0]),hu:=[(n,⟨.sl true none es 0 f,[]⟩)],rd,nw:=[n]}
   |none=>bad)
  |_,_,_,_=>bad)
 | .fieldAddr t x i=>
  (match ρ x with
  | .one (.av (.ptr m f))=>{ ok:=fldOff P t i≤m∧i<(tk P t).fs.length∧(tk P (fldTy P t i)).sz≠0,v:=.one (.av (.ptr (m - fldOff P t i) (fun j=>f (fldOff P t i+j))))}
  | .one (.ref k p vs a o)=>{ ok:=i<(tk P t).fs.length∧(tk P (fldTy P t i)).sz≠0,v:=.one (.ref k p vs a (o+fldOff P t i))}
  |_=>bad)
 | .field t x i=>
  (match ρ x with
  | .agg l=>{ ok:=i<(tk P t).fs.length∧(tk P (fldTy P t i)).can=true∧fldOff P t i+(tk P (fldTy P t i)).sz≤l.length,v:=ldTV P (fldTy P t i) (gl .junk l) (fldOff P t i)}
  |_=>bad)
 | .indexAddr t x y=>
  (match ρ x,ρ y with
  | .one (.av (.sl _ _ es m f)),.one (.av (.int _ i))=>{ ok:=ixOk P t es∧0≤i∧i<m,v:=.one (.av (.ptr es (f i.toNat)))}
  | .one (.own k p vs),.one (.av (.int _ i))=>
   (match (H k).a.at p with
   | .sl true _ es m _=>{ ok:=ixOk P t es∧(H k).live p vs∧0≤i∧i<m,v:=.one (.ref k p vs i.toNat 0),rd:=bif shx p then [] else [k],sh:=bif shx p then [k] else []}
   |_=>bad)
  | .one (.view k p vs lo hi),.one (.av (.int _ i))=>
   (match (H k).a.at p with
   | .sl true _ es m _=>{ ok:=ixOk P t es∧(H k).live p vs∧lo≤hi∧hi≤m∧0≤i∧i<(hi - lo:Nat),v:=.one (.ref k p vs (lo+i.toNat) 0),rd:=[k]}
   |_=>bad)
  |_,_=>bad)
 | .index t x y=>
  (match ρ x,ρ y with
  | .one (.av (.str s)),.one (.av (.int _ i))=>{ ok:=(tk P t).str=true∧0≤i∧i<s.length,v:=.one (.av (.int .u8 (s.getD i.toNat 0).toNat))}
  |_,_=>bad)
 | .extract x i=>
  (match ρ x with
  | .tup l=>{ ok:=i<l.length,v:=(gl (.one .junk) l i).tv}
  |_=>bad)
 | .call c=>
  (match c.callee,c.args.toList,c.argTypes.toList with
  | .builtin .len,[x],[t]=>
   (match ρ x with
   | .one s=>(match lenOf P t H s with
    |some (ok,m,rd)=>{ ok,v:=.one (.av (.int .i64 m)),rd}
    |none=>bad)
   |_=>bad)
  | .builtin .append,[x,y],[t,t']=>let r:=apOp P t (ρ x) (ρ y) H n;{ r with ok:=r.ok∧t'=t}
  | .builtin .max,[x,y],_=>(match two (fun a b=>if b>a then b else a) (ρ x) (ρ y) with
   |some (k,i)=>{ ok:=True,v:=.one (.av (.int k i))}
   |none=>bad)
  | .builtin .min,[x,y],_=>(match two (fun a b=>if b<a then b else a) (ρ x) (ρ y) with
   |some (k,i)=>{ ok:=True,v:=.one (.av (.int k i))}
   |none=>bad)
  |_,_,_=>bad)
 | .makeMap t none=>{ ok:=MapTy P t,v:=.one (.own n [] [0]),hu:=[(n,⟨.mp [],[]⟩)],nw:=[n]}
 | .lookup t x y false=>(match mapA H (ρ x),keyA (ρ y) with
  |some (k,vs,es),some (a,b)=>{ ok:=MapTy P t∧(H k).live [] vs,v:=.one (.av (.int .i64 (mget es a b))),sh:=[k]}
  |_,_=>bad)
 | .mapEntry t x y=>(match mapA H (ρ x),keyA (ρ y) with
  |some (k,vs,es),some (a,b)=>{ ok:=MapTy P t∧(H k).live [] vs∧es.length≤maxLen,v:=.tup [.one (.av (.int .i64 (mget es a b))),.one (.av (.int .i64 (mix es a b)))],hu:=[(k,⟨.mp (ment es a b),(H k).vs⟩)],rd:=[k]}
  |_,_=>bad)
 | .entryStore t x y z=>(match mapA H (ρ x),ρ y,ρ z with
  |some (k,vs,es),.one (.av (.int .i64 j)),.one (.av (.int .i64 v))=>{ ok:=MapTy P t∧(H k).live [] vs∧0≤j∧j.toNat<es.length,v:=.junk,hu:=[(k,⟨.mp (mset es j.toNat v),(H k).vs⟩)],rd:=[k]}
  |_,_,_=>bad)
 |_=>bad
end Go.AM
/- The framework AM,part 3:when a state of the machine is what an abstract state says. -/
namespace Go.AM
open Go
abbrev Rt:=Nat→Value
def vle (vs vs':List Nat):Prop:=∀d,gl 0 vs d≤gl 0 vs' d
def RelS0 (w:World) (own:Own) (rt:Rt) (H:Nat→OB):SV→Value→Prop
 | .av a,v=>Rd w own a v
 | .own k q vs,v=>vle vs (H k).vs∧((H k).live q vs→hdr w (H k).a (rt k) q=some v)
 | .ref k q vs i o,v=>(vle vs (H k).vs∧∃b o',v=.pointer (some ⟨b,o',none⟩))∧((H k).live q vs→∃b n cap,hdr w (H k).a (rt k) q=some (.slice (some ⟨b,0,none⟩) n cap)∧v=.pointer (some ⟨b,i*((H k).a.at q).es+o,none⟩))
 | .view k q vs lo hi,v=>vle vs (H k).vs∧((H k).live q vs→∃a n cap a',hdr w (H k).a (rt k) q=some (.slice a n cap)∧lo≤cap∧(cap≠lo∨lo=0→a'=a.map (·.add (lo*((H k).a.at q).es)))∧v=.slice a' (hi - lo) (cap - lo))
 | .clo _ _,_=>True
 | .junk,_=>True
def RelS (w:World) (own:Own) (rt:Rt) (H:Nat→OB):SV→Value→Prop
 | .clo g l,v=>∃cs:Array Value,v=.func g #[] cs∧cs.size=l.length∧∀(j:Nat) (s:SV),l[j]?=some s→∃x,cs[j]?=some x∧RelS0 w own rt H s x
 |s,v=>RelS0 w own rt H s v
def RelL (w:World) (own:Own) (rt:Rt) (H:Nat→OB) (l:List SV) (cs:Array Value):Prop:=
 cs.size=l.length∧∀(j:Nat) (s:SV),l[j]?=some s→∃x,cs[j]?=some x∧RelS w own rt H s x
def RelC (w:World) (own:Own) (rt:Rt) (H:Nat→OB):CV→Value→Prop
 | .one s,v=>RelS w own rt H s v
 | .agg l,v=>∃cs,v=.agg cs∧RelL w own rt H l cs
def RelT (w:World) (own:Own) (rt:Rt) (H:Nat→OB):TV→Value→Prop
 | .one s,v=>RelS w own rt H s v
 | .agg l,v=>∃cs,v=.agg cs∧RelL w own rt H l cs
 | .tup l,v=>∃cs:Array Value,v=.tuple cs∧cs.size=l.length∧∀(j:Nat) (c:CV),l[j]?=some c→∃x,cs[j]?=some x∧RelC w own rt H c x
 | .cnd b c,v=>(b=true→RelC w own rt H c v)∧(b=false→v=undef)
def SV.mn0:SV→Nat→Prop
 | .own k _ _,m=>k=m
 | .ref k _ _ _ _,m=>k=m
 | .view k _ _ _ _,m=>k=m
 |_,_=>False
def SV.mn:SV→Nat→Prop
 | .clo _ l,m=>∃s∈l,s.mn0 m
 |s,m=>s.mn0 m
def CV.mn:CV→Nat→Prop
 | .one s,m=>s.mn m
 | .agg l,m=>∃s∈l,s.mn m
def TV.mn:TV→Nat→Prop
 | .one s,m=>s.mn m
 | .agg l,m=>∃s∈l,s.mn m
 | .tup l,m=>∃c∈l,CV.mn c m
 | .cnd _ c,m=>c.mn m
structure Keep (w0:World) (E:Nat→Prop) (w:World):Prop where
 os:w.os=w0.os
 tape:w.tape=w0.tape
 output:w.output=w0.output
 size:w0.heap.size≤w.heap.size
 block:∀b,b<w0.heap.size→¬E b→w.heap[b]?=w0.heap[b]?
theorem Keep.refl (w:World) (E:Nat→Prop):Keep w E w:=⟨rfl,rfl,rfl,Nat.le_refl _,fun _ _ _=>rfl⟩
structure Frm where
 b:Nat→Prop
 z:Nat→Option Value
 hz:∀k,z k≠none→0<k∧k≤4
instance:CoeFun Frm (fun _=>Nat→Prop):=⟨Frm.b⟩
structure WRf (w0:World) (E:Nat→Prop) (F:Frm) (A:Nat→Prop) (H:Nat→OB) (w:World) (own:Own) (rt:Rt):Prop where
 keep:Keep w0 E w
 dom:∀b x,own b=some x→b<w.heap.size∧(w0.heap.size≤b∨E b∨F b)
 obj:∀k,Ow w own k (H k).a [] (rt k)
 dead:∀k,¬A k→H k=.dead
 owned:∀b k q,own b=some (k,q)→A k
 frn:∀b,F b→own b=some (0,[])
 frn0:H 0=.dead∧A 0
structure SRf (N:Nat) (w0:World) (E:Nat→Prop) (F:Frm) (A:Nat→Prop) (T:Nat→TV) (H:Nat→OB) (a:Act) (w:World) (own:Own) (rt:Rt):Prop extends WRf w0 E F A H w own rt where
 defers:a.defers=[]
 size:a.tmps.size=N
 tmp:∀s,RelT w own rt H (T s) (a.tmps.getD s undef)
 men:∀s k,(T s).mn k→A k
 frz:∀k v,F.z k=some v→A k∧RelT w own rt H (.one (.own k [] [0])) v
theorem Ow.hdr_eq {w w':World} {own:Own} {r:Root}:∀(p:Path) (a:AV) (p0:Path) (v:Value),a.okp p→Ow w own r a p0 v→
 (∀b o q,own b=some (r,p0++q)→w.heap[b]?=some o→w'.heap[b]?=some o)→AM.hdr w' a v p=AM.hdr w a v p:=by
 intro p
 induction p with
 |nil=>intro a p0 v _ _ _;cases a<;>rfl
 |cons ij p ih=>
  obtain⟨i,j⟩:=ij
  intro a p0 v hok h hk
  cases a with
  |sl u nl es n f=>
   cases u with
   |false=>cases hok
   |true=>
    obtain⟨hi,hj,hok⟩:=hok
    rcases h with ⟨rfl,_⟩|⟨b,cap,c,T,rfl,hnl,ho,hb,h2,h3,h4,h5⟩
    ·omega
    ·obtain⟨x,hx,hr⟩:=h5 i hi j hj
     have hb':=hk b _ [] (by simpa using ho) hb
     have:=ih (f i j) _ x hok hr (fun b o q e1 e2=>hk b o ((i,j)::q) (by simpa using e1) e2)
     simp only[AM.hdr,hb,hb',Nat.zero_add]
     simp[hx,this]
  |_=>cases hok
structure Over (w:World) (own:Own) (rt:Rt) (H:Nat→OB) (w':World) (own':Own) (rt':Rt) (H':Nat→OB) (k:Nat):Prop where
 vs:vle (H k).vs (H' k).vs
 hd:∀q vs,vle vs (H k).vs→(H' k).live q vs→(H k).live q vs∧((H' k).a.at q).es=((H k).a.at q).es∧∀v,hdr w (H k).a (rt k) q=some v→hdr w' (H' k).a (rt' k) q=some v
theorem vle.trans {a b c:List Nat} (h:vle a b) (h':vle b c):vle a c:=fun d=>Nat.le_trans (h d) (h' d)
theorem vle.refl (a:List Nat):vle a a:=fun _=>Nat.le_refl _
section mono
variable {w w':World} {own own':Own} {rt rt':Rt} {H H':Nat→OB}
variable (h0:∀b o,own b=none→w.heap[b]?=some o→own' b=none∧w'.heap[b]?=some o)
include h0
theorem RelS0.over {s:SV} {v:Value} (hk:∀k,s.mn0 k→Over w own rt H w' own' rt' H' k):RelS0 w own rt H s v→RelS0 w' own' rt' H' s v:=by
 intro h
 cases s with
 |av a=>exact Rd.mono h0 _ _ h
 |own k q vs=>
  have o:=hk k rfl
  exact⟨h.1.trans o.vs,fun hl=>let z:=o.hd q vs h.1 hl;z.2.2 _ (h.2 z.1)⟩
 |ref k q vs i j=>
  have o:=hk k rfl
  refine⟨⟨h.1.1.trans o.vs,h.1.2⟩,fun hl=>?_⟩
  obtain⟨z1,z2,z3⟩:=o.hd q vs h.1.1 hl
  obtain⟨b,n,cap,e1,e2⟩:=h.2 z1
  exact⟨b,n,cap,z3 _ e1,by rw[z2];exact e2⟩
 |view k q vs lo hi=>
  have o:=hk k rfl
  refine⟨h.1.trans o.vs,fun hl=>?_⟩
  obtain⟨z1,z2,z3⟩:=o.hd q vs h.1 hl
  obtain⟨b,n,cap,a',e1,e2⟩:=h.2 z1
  exact⟨b,n,cap,a',z3 _ e1,by rw[z2];exact e2⟩
 |clo g l=>trivial
 |junk=>trivial
theorem RelS.over {s:SV} {v:Value} (hk:∀k,s.mn k→Over w own rt H w' own' rt' H' k):RelS w own rt H s v→RelS w' own' rt' H' s v:=by
 intro h
 cases s with
 |clo g l=>
  obtain⟨cs,rfl,hs,hc⟩:=h
  refine⟨cs,rfl,hs,fun j s hj=>?_⟩
  obtain⟨x,hx,hx2⟩:=hc j s hj
  exact⟨x,hx,hx2.over h0 (fun k hk'=>hk k ⟨s,List.mem_of_getElem? hj,hk'⟩)⟩
 |_=>simp only[RelS,SV.mn] at h hk ⊢;exact RelS0.over h0 hk h
theorem RelL.over {l:List SV} {cs:Array Value} (hk:∀k,(∃s∈l,s.mn k)→Over w own rt H w' own' rt' H' k):RelL w own rt H l cs→RelL w' own' rt' H' l cs:=by
 rintro⟨hs,hc⟩
 refine⟨hs,fun j s hj=>?_⟩
 obtain⟨x,hx,hx2⟩:=hc j s hj
 exact⟨x,hx,hx2.over h0 (fun k hk'=>hk k ⟨s,List.mem_of_getElem? hj,hk'⟩)⟩
theorem RelC.over {c:CV} {v:Value} (hk:∀k,c.mn k→Over w own rt H w' own' rt' H' k):RelC w own rt H c v→RelC w' own' rt' H' c v:=by
 intro h
 cases c with
 |one s=>exact RelS.over h0 hk h
 |agg l=>obtain⟨cs,rfl,hl⟩:=h;exact⟨cs,rfl,hl.over h0 hk⟩
theorem RelT.over {t:TV} {v:Value} (hk:∀k,t.mn k→Over w own rt H w' own' rt' H' k):RelT w own rt H t v→RelT w' own' rt' H' t v:=by
 intro h
 cases t with
 |one s=>exact RelS.over h0 hk h
 |agg l=>obtain⟨cs,rfl,hl⟩:=h;exact⟨cs,rfl,hl.over h0 hk⟩
 |tup l=>
  obtain⟨cs,rfl,hs,hc⟩:=h
  refine⟨cs,rfl,hs,fun j c hj=>?_⟩
  obtain⟨x,hx,hx2⟩:=hc j c hj
  exact⟨x,hx,hx2.over h0 (fun k hk'=>hk k ⟨c,List.mem_of_getElem? hj,hk'⟩)⟩
 |cnd b s=>exact⟨fun hb=>RelC.over h0 hk (h.1 hb),h.2⟩
end mono
theorem Over.same {w w':World} {own own':Own} {rt rt':Rt} {H H':Nat→OB} {k:Nat} (hobj:Ow w own k (H k).a [] (rt k)) (hH:H' k=H k) (hrt:rt' k=rt k)
 (ho:∀b o q,own b=some (k,q)→w.heap[b]?=some o→w'.heap[b]?=some o):Over w own rt H w' own' rt' H' k:=by
 refine⟨by rw[hH];exact vle.refl _,fun q vs _ hl=>?_⟩
 rw[hH] at hl ⊢
 refine⟨hl,rfl,fun v hv=>?_⟩
 rw[hrt,Ow.hdr_eq q _ _ _ hl.1 hobj (fun b o q' e1 e2=>ho b o q' (by simpa using e1) e2)]
 exact hv
end Go.AM
/- The framework AM,part 4:the operations that leave memory alone. -/
namespace Go.AM
open Go
theorem wrap_inK {k:IntKind} {n:Int} (h:inK k n):k.wrap n=n:=by
 unfold inK at h
 cases k<;>simp[IntKind.min,IntKind.max,IntKind.signed,IntKind.bits,IntKind.wrap] at h ⊢ <;>(try split)<;>omega
theorem wrap_has (k:IntKind) (n:Int):inK k (k.wrap n):=wrap_within k n
def ofVT:Value→TV
 | .agg cs=>.agg (cs.toList.map fun v=>.av (ofV v))
 |v=>.one (.av (ofV v))
def opd (T:Nat→TV):Operand→TV
 | .tmp t=>T t
 | .const v=>ofVT v
 | .global _=>.junk
 | .func f=>.one (.clo (.func f) [])
def Nn:Prop:=(0:Nat)=0
section
variable {w:World} {own:Own} {rt:Rt} {H:Nat→OB}
theorem ofV_rel (own:Own) (v:Value):Rd w own (ofV v) v:=by
 cases v<;>try trivial
 case int k n=>
  simp only[ofV]
  split
  ·exact⟨rfl,by assumption⟩
  ·trivial
 case slice a n cap=>
  rcases a with _|a
  ·rcases n with _|n
   ·rcases cap with _|cap
    ·exact⟨none,0,rfl,Nat.le_refl _,Nat.zero_le _,⟨fun _=>rfl,fun h=>by simp at h⟩,fun _=>rfl,fun h=>absurd rfl h⟩
    ·trivial
   ·trivial
  ·trivial
end
section
variable {N:Nat} {w0:World} {E A:Nat→Prop} {F:Frm} {T:Nat→TV} {H:Nat→OB} {a:Act} {w:World} {own:Own} {rt:Rt}
theorem opd_rel (h:SRf N w0 E F A T H a w own rt) (x:Operand):RelT w own rt H (opd T x) (a.eval x):=by
 cases x with
 |tmp t=>exact h.tmp t
 |const v=>
  cases v with
  |agg cs=>
   refine⟨cs,rfl,by simp,fun j s hj=>?_⟩
   simp only[List.getElem?_map,Option.map_eq_some_iff] at hj
   obtain⟨v,hv,rfl⟩:=hj
   exact⟨v,by simpa using hv,ofV_rel _ v⟩
  |_=>exact ofV_rel _ _
 |global g=>trivial
 |func f=>exact⟨#[],rfl,rfl,fun j s hj=>by simp at hj⟩
theorem opd_men (h:SRf N w0 E F A T H a w own rt) (x:Operand) (k:Nat) (hk:(opd T x).mn k):A k:=by
 cases x with
 |tmp t=>exact h.men t k hk
 |const v=>
  cases v with
  |agg cs=>
   obtain⟨s,hs,hk⟩:=hk
   simp only[List.mem_map] at hs
   obtain⟨v,_,rfl⟩:=hs
   exact hk.elim
  |_=>exact hk.elim
 |global g=>exact hk.elim
 |func f=>obtain⟨s,hs,_⟩:=hk;cases hs
def updT (T:Nat→TV) (d:Option Tmp) (t:TV):Nat→TV:=
 match d with
 |some d=>fun s=>if d=s then t else T s
 |none=>T
theorem put_getD {a:Act} {d:Nat} {v:Value} (hd:d<a.tmps.size) (s:Nat):(a.put (some d) v).tmps.getD s undef=if s=d then v else a.tmps.getD s undef:=by
 simp only[Act.put,Array.getD_eq_getD_getElem?,Array.getElem?_setIfInBounds]
 by_cases h:d=s
 ·subst h;simp[hd]
 ·simp[h,Ne.symm h]
theorem put_defers (a:Act) (d:Option Tmp) (v:Value):(a.put d v).defers=a.defers:=by cases d<;>rfl
theorem put_size (a:Act) (d:Option Tmp) (v:Value):(a.put d v).tmps.size=a.tmps.size:=by cases d<;>simp[Act.put]
theorem SRf.put (h:SRf N w0 E F A T H a w own rt) {d:Option Tmp} (hd:∀s,d=some s→s<N) {t:TV} {v:Value} (hr:RelT w own rt H t v)
 (hm:∀k,t.mn k→A k):SRf N w0 E F A (updT T d t) H (a.put d v) w own rt:=by
 refine⟨h.toWRf,by rw[put_defers];exact h.defers,by rw[put_size];exact h.size,fun s=>?_,fun s k hk=>?_,h.frz⟩
 ·cases d with
  |none=>exact h.tmp s
  |some d=>
   rw[put_getD (by rw[h.size];exact hd d rfl)]
   simp only[updT]
   by_cases hs:d=s
   ·subst hs;simp only[if_true];exact hr
   ·simp only[if_neg hs,if_neg (Ne.symm hs)];exact h.tmp s
 ·cases d with
  |none=>exact h.men s k hk
  |some d=>
   simp only[updT] at hk
   split at hk
   ·exact hm k hk
   ·exact h.men s k hk
def Pure1 (P:Program) (o:Oper) (a:Act) (w:World) (own:Own) (rt:Rt) (H:Nat→OB) (t:TV):Prop:=
 ∃v,(execOp a.eval o).run P w=.ok (.value v) w∧RelT w own rt H t v∧Nn
variable {P:Program} {o:Oper}
theorem intOp_sound {op:BinOp} {k:IntKind} {x y:Int} (t:TypeId) (hx:inK k x) (hy:inK k y) (hok:(intOp op k x y).1):
 ∃v,(binOp op t (.int k x) (.int k y)).run P w=.ok v w∧RelS w own rt H (intOp op k x y).2 v∧Nn:=by
 cases op<;>simp only[intOp] at hok ⊢ <;>try exact hok.elim
 case add=>exact⟨.int k (x+y),by simp[binOp,Op.intArith,wrap_inK hok],⟨rfl,hok⟩,rfl⟩
 case sub=>exact⟨.int k (x - y),by simp[binOp,Op.intArith,wrap_inK hok],⟨rfl,hok⟩,rfl⟩
 case mul=>exact⟨.int k (x*y),by simp[binOp,Op.intArith,wrap_inK hok],⟨rfl,hok⟩,rfl⟩
 case quo=>exact⟨.int k (x.tdiv y),by simp[binOp,Op.intDiv,hok.1,wrap_inK hok.2],⟨rfl,hok.2⟩,rfl⟩
 case rem=>
  refine⟨.int k (x.tmod y),by simp[binOp,Op.intDiv,hok],⟨rfl,?_⟩,rfl⟩
  have h1:=Int.tmod_lt_of_pos x (b:=y.natAbs) (by omega)
  have h2:=Int.lt_tmod_of_pos x (b:=y.natAbs) (by omega)
  have h3:x.tmod (y.natAbs:Int)=x.tmod y:=by
   rcases Int.natAbs_eq y with e|e
   ·rw[←e]
   ·conv=>rhs;rw[e,Int.tmod_neg]
  unfold inK at hx hy ⊢
  rw[h3] at h1 h2
  cases k<;>simp[IntKind.min,IntKind.max,IntKind.signed,IntKind.bits] at hx hy ⊢ <;>(try (have:=Int.tmod_nonneg y hx.1))<;>omega
 case eql=>exact⟨.bool (x==y),by simp[binOp,Op.intCmp],rfl,rfl⟩
 case neq=>exact⟨.bool (x !=y),by simp[binOp,Op.intCmp],rfl,rfl⟩
 case lss=>exact⟨.bool (decide (x<y)),by simp[binOp,Op.intCmp],rfl,rfl⟩
 case leq=>exact⟨.bool (decide (x≤y)),by simp[binOp,Op.intCmp],rfl,rfl⟩
 case gtr=>exact⟨.bool (decide (x>y)),by simp[binOp,Op.intCmp],rfl,rfl⟩
 case geq=>exact⟨.bool (decide (x≥y)),by simp[binOp,Op.intCmp],rfl,rfl⟩
 case and=>exact⟨_,by simp[binOp,Op.intBits],⟨rfl,hok⟩,rfl⟩
 case or=>exact⟨_,by simp[binOp,Op.intBits],⟨rfl,hok⟩,rfl⟩
theorem tk_cases (P:Program) (t:TypeId):(∃d i,P.underlying t=some d∧P.info? t=some i∧
 tk P t={ sz:=i.size,by_:=i.bytes,agg:=aggD d,el:=elD d,fs:=fsD d,ik:=ikD d,z:=zOf i,str:=strD d,bl:=blD d})∨tk P t={}:=by
 unfold tk
 split
 ·exact .inl ⟨_,_,by assumption,by assumption,rfl⟩
 ·exact .inr rfl
theorem tk_el {t e:TypeId} (h:(tk P t).el=some e):P.underlying t=some (.slice e):=by
 rcases tk_cases P t with ⟨d,i,h1,_,h2⟩|h2
 ·rw[h2] at h
  cases d<;>simp[elD] at h
  rw[h1,h]
 ·rw[h2] at h;simp at h
theorem tk_info {t:TypeId} (h:(tk P t).sz≠0):∃i,P.info? t=some i∧i.size=(tk P t).sz∧i.bytes=(tk P t).by_:=by
 rcases tk_cases P t with ⟨d,i,_,h1,h2⟩|h2
 ·exact⟨i,h1,by rw[h2],by rw[h2]⟩
 ·rw[h2] at h;simp at h
theorem tk_fs {t:TypeId} {n:Nat} (hn:n<(tk P t).fs.length):∃fs f,P.underlying t=some (.struct fs)∧fs[n]?=some f∧f.offset=fldOff P t n∧f.type=fldTy P t n:=by
 rcases tk_cases P t with ⟨d,i,h1,_,h2⟩|h2
 ·rw[h2] at hn
  cases d with
  |struct fs=>
   simp only[fsD,List.length_map,Array.length_toList] at hn
   refine⟨fs,fs[n],h1,by simp[hn],?_,?_⟩<;>simp[fldOff,fldTy,h2,fsD,gl_eq,hn,List.getD]
  |_=>simp[fsD] at hn
 ·rw[h2] at hn;simp at hn
theorem tk_ik {t:TypeId} {k:IntKind} (h:(tk P t).ik=some k):P.underlying t=some (.int k):=by
 rcases tk_cases P t with ⟨d,i,h1,_,h2⟩|h2
 ·rw[h2] at h
  cases d<;>simp[ikD] at h
  rw[h1,h]
 ·rw[h2] at h;simp at h
theorem tk_str {t:TypeId} (h:(tk P t).str=true):P.underlying t=some .string:=by
 rcases tk_cases P t with ⟨d,i,h1,_,h2⟩|h2
 ·rw[h2] at h
  cases d<;>simp[strD] at h
  rw[h1]
 ·rw[h2] at h;simp at h
theorem tk_bl {t:TypeId} (h:(tk P t).bl=true):P.underlying t=some .bool:=by
 rcases tk_cases P t with ⟨d,i,h1,_,h2⟩|h2
 ·rw[h2] at h
  cases d<;>simp[blD] at h
  rw[h1]
 ·rw[h2] at h;simp at h
theorem run_isAgg {t:TypeId} (h:(tk P t).sz≠0) (w:World):(isAgg t).run P w=.ok (tk P t).agg w:=by
 rcases tk_cases P t with ⟨d,i,h1,_,h2⟩|h2
 ·unfold isAgg
  rw[Sem.run_bind,run_underlying h1 w,h2]
  cases d<;>rfl
 ·rw[h2] at h;simp at h
theorem run_sizeOf {t:TypeId} (h:(tk P t).sz≠0) (w:World):(sizeOf t).run P w=.ok (tk P t).sz w:=by
 obtain⟨i,h1,h2,_⟩:=tk_info h
 simp[sizeOf,typeInfo,h1,h2]
theorem hdr_snoc {w:World} {i j:Nat} {b n cap:Nat} {c:Array Value} {T:TypeId} {fz:Nat×Nat} {x:Value} (hb:w.heap[b]?=some (.cells c T fz)):
 ∀(p:Path) (a:AV) (v:Value),a.okp p→(∃u nl es m f,a.at p=.sl u nl es m f)→hdr w a v p=some (.slice (some ⟨b,0,none⟩) n cap)→c[i*(a.at p).es+j]?=some x→hdr w a v (p++[(i,j)])=some x:=by
 intro p
 induction p with
 |nil=>
  intro a v hok hsl h hx
  cases a with
  |sl u nl es m f=>
   simp only[hdr,Option.some.injEq] at h
   subst h
   simp only[AV.at,AV.es] at hx
   simp only[List.nil_append,hdr,hb,Nat.zero_add]
   simp[hx]
  |mp es=>obtain⟨_,_,_,_,_,e⟩:=hsl;cases e
  |_=>cases hok
 |cons ij p ih=>
  obtain⟨i1,j1⟩:=ij
  intro a v hok hsl h hx
  cases a with
  |sl u nl es m f=>
   cases u with
   |false=>cases hok
   |true=>
    obtain⟨_,_,hok⟩:=hok
    cases v with
    |slice ad n' cap'=>
     cases ad with
     |none=>simp[hdr] at h
     |some ad=>
      simp only[List.cons_append,hdr] at h ⊢
      cases hh:w.heap[ad.block]? with
      |none=>simp[hh] at h
      |some o=>
       cases o with
       |cells c' T' fz'=>
        simp only[hh] at h ⊢
        cases hc:c'[ad.off+(i1*es+j1)]? with
        |none=>simp[hc] at h
        |some y=>
         simp only[hc,Option.bind_some] at h ⊢
         exact ih _ _ hok hsl h hx
       |_=>simp[hh] at h
    |_=>simp[hdr] at h
  |_=>cases hok
theorem live_row (h:SRf N w0 E F A T H a w own rt) {k:Nat} {p:Path} {vs:List Nat} (hl:(H k).live p vs):
 ∃v,hdr w (H k).a (rt k) p=some v∧Ow w own k ((H k).a.at p) p v:=by
 obtain⟨v,h1,h2⟩:=Ow.hdr p _ _ _ hl.1 (h.obj k)
 exact⟨v,h1,by simpa using h2⟩
theorem cell_of {w:World} {b off:Nat} {c:Array Value} {T:TypeId} {fz:Nat×Nat} (hb:w.heap[b]?=some (.cells c T fz)):w.cell? ⟨b,off,none⟩=c[off]?:=by
 simp[World.cell?,hb]
theorem load_sound (t:TypeId) {b o:Nat} {c:Array Value} {T':TypeId} {fz:Nat×Nat} (hb:w.heap[b]?=some (.cells c T' fz)) (hcan:(tk P t).can=true)
 {g:Nat→SV} {s:Nat} (hc:∀j,j<(tk P t).sz→∃x,c[o+j]?=some x∧RelS w own rt H (g (s+j)) x):
 ∃v,(Instr.loadAt t (.pointer (some ⟨b,o,none⟩))).run P w=.ok v w∧RelT w own rt H (ldTV P t g s) v:=by
 have hz:(tk P t).sz≠0:=by
  intro hz
  simp only[TK.can,hz] at hcan
  split at hcan<;>simp at hcan
 have hfun:∃xs:List Value,xs.length=(tk P t).sz∧∀j,j<(tk P t).sz→∃x,xs[j]?=some x∧c[o+j]?=some x∧RelS w own rt H (g (s+j)) x:=by
  refine⟨(List.range (tk P t).sz).map fun j=>(c[o+j]?).getD undef,by simp,fun j hj=>?_⟩
  obtain⟨x,h1,h2⟩:=hc j hj
  exact⟨x,by simp[hj,h1],h1,h2⟩
 obtain⟨xs,hxl,hxs⟩:=hfun
 have hcl:∀(n o:Nat),(cellsF g o n).length=n:=by
  intro n
  induction n with
  |zero=>intro o;rfl
  |succ n ih=>intro o;simp[cellsF,ih]
 have hcg:∀(n o j:Nat) (s:SV),(cellsF g o n)[j]?=some s→j<n∧s=g (o+j):=by
  intro n
  induction n with
  |zero=>intro o j s hj;simp[cellsF] at hj
  |succ n ih=>
   intro o j s hj
   cases j with
   |zero=>simp[cellsF] at hj;exact⟨by omega,hj.symm⟩
   |succ j=>
    simp only[cellsF,List.getElem?_cons_succ] at hj
    obtain⟨h1,h2⟩:=ih _ _ _ hj
    exact⟨by omega,by rw[h2];congr 1;omega⟩
 cases hagg:(tk P t).agg with
 |true=>
  have hl:(loadCells ⟨b,o,none⟩ xs.length).run P w=.ok xs.toArray w:=
   run_loadCells_list (P:=P) w ⟨b,o,none⟩ xs (fun j v hv=>by
    have hj:j<(tk P t).sz:=by rw[←hxl];exact(List.getElem?_eq_some_iff.1 hv).1
    obtain⟨x,g1,g2,_⟩:=hxs j hj
    rw[Addr.add_lit,cell_of hb,g2,←g1,hv])
  refine⟨.agg xs.toArray,?_,?_⟩
  ·simp only[Instr.loadAt,Instr.sureAddr,Sem.run_bind,Sem.run_pure,Result.andThen_ok,loadVar,run_isAgg hz,hagg,if_true,run_sizeOf hz,←hxl,hl]
  ·simp only[ldTV,hagg,if_true]
   refine⟨xs.toArray,rfl,by simp[hcl,hxl],fun j sv hj=>?_⟩
   obtain⟨g1,rfl⟩:=hcg _ _ _ _ hj
   obtain⟨x,e1,_,e3⟩:=hxs j g1
   exact⟨x,by simpa using e1,e3⟩
 |false=>
  have hsz1:(tk P t).sz=1:=by simpa [TK.can,hagg] using hcan
  obtain⟨x,e1,e2,e3⟩:=hxs 0 (by omega)
  have hcell:=cell_of (off:=o) hb
  simp only[Nat.add_zero] at e2
  rw[e2] at hcell
  refine⟨x,?_,?_⟩
  ·simp only[Instr.loadAt,Instr.sureAddr,Sem.run_bind,Sem.run_pure,Result.andThen_ok,loadVar,run_isAgg hz,hagg,Bool.false_eq_true,if_false,run_load,hcell]
  ·simp only[ldTV,hagg]
   exact e3
end
end Go.AM
/- The framework AM,part 5:each operation that leaves memory alone does what its abstract one says. -/
namespace Go.AM
open Go
section
variable {N:Nat} {w0:World} {E A:Nat→Prop} {F:Frm} {T:Nat→TV} {H:Nat→OB} {a:Act} {w:World} {own:Own} {rt:Rt} {P:Program} {o:Oper} {n:Nat}
theorem inK_i64 {n:Nat} (h:n≤maxLen):inK .i64 n:=by
 simp only[maxLen] at h
 simp[inK,IntKind.min,IntKind.max,IntKind.signed,IntKind.bits];omega
theorem pure_pick {c x y:Operand} (h:SRf N w0 E F A T H a w own rt) (ho:o.op=.pick c x y) (hok:(aop P o.op (opd T) H n).ok):
 Pure1 P o a w own rt H (aop P o.op (opd T) H n).v:=by
 rw[ho] at hok ⊢
 simp only[aop] at hok ⊢
 have hc:=opd_rel h c
 have hx:=opd_rel h x
 have hy:=opd_rel h y
 unfold Pure1
 simp only[execOp,ho]
 generalize opd T c=tc at *
 generalize opd T x=tx at *
 generalize opd T y=ty at *
 split at hok
 ·rename_i bc z ba p bb q e0 e1 e2
  have key:∀(t:TV) (v:Value) (b q:Bool),uwb t=some (b,q)→RelT w own rt H t v→b=true→v=.bool q:=by
   intro t v b q e hr hb
   unfold uwb at e
   split at e
   ·simp only[Option.some.injEq,Prod.mk.injEq] at e;obtain⟨rfl,rfl⟩:=e;exact hr
   ·simp only[Option.some.injEq,Prod.mk.injEq] at e;obtain⟨rfl,rfl⟩:=e;exact hr.1 hb
   ·cases e
  have hz:a.eval c=.bool z:=key _ _ _ _ e0 hc hok.1
  refine⟨.bool (bif z then p else q),?_,rfl,rfl⟩
  cases z with
  |true=>simp[hz,asBool,key _ _ _ _ e1 hx (hok.2.1 rfl)]
  |false=>simp[hz,asBool,key _ _ _ _ e2 hy (hok.2.2 rfl)]
 ·exact hok.elim
theorem relS_av {a:AV} {v:Value} (h:RelT w own rt H (.one (.av a)) v):Rd w own a v:=h
theorem shOp_sound {op:BinOp} {k yk:IntKind} {x y:Int} (t:TypeId) (hop:op=.shl∨op=.shr) (hok:(shOp op k x y).1):
 ∃v,(Go.binOp op t (.int k x) (.int yk y)).run P w=.ok v w∧RelS w own rt H (shOp op k x y).2 v∧Nn:=by
 rcases hop with rfl|rfl<;>simp only[shOp] at hok ⊢
 ·obtain⟨h1,h2,h3⟩:=hok
  refine⟨.int k (x*2^y.toNat),?_,⟨rfl,h3⟩,rfl⟩
  have hm:min y.toNat k.bits=y.toNat:=by omega
  simp[Go.binOp,Op.shift,show ¬y<0 by omega,hm,wrap_inK h3]
 ·obtain⟨h1,h2,h3⟩:=hok
  refine⟨.int k (x.fdiv (2^y.toNat)),?_,⟨rfl,h3⟩,rfl⟩
  have hm:min y.toNat k.bits=y.toNat:=by omega
  simp[Go.binOp,Op.shift,show ¬y<0 by omega,hm]
theorem equal_bool {t:TypeId} (h:P.underlying t=some .bool) (x y:Bool) (w:World):(Op.equal t (.bool x) (.bool y)).run P w=.ok (x==y) w:=
 run_equalIn_bool w 9999 t x y h
theorem avs_spec:∀(l:List SV) (k:List AV),avs l=some k→l=k.map .av:=by
 intro l
 induction l with
 |nil=>intro k h;simp[avs] at h;subst h;rfl
 |cons s r ih=>
  intro k h
  cases s with
  |av a=>
   simp only[avs] at h
   cases hr:avs r with
   |none=>simp[hr] at h
   |some l=>
    simp only[hr,Option.some.injEq] at h
    subst h
    rw[ih l hr];rfl
  |_=>simp[avs] at h
theorem rngK_rel {s:SV} {k:IntKind} {lo hi:Int} {v:Value} (h:rngK s=some (k,lo,hi)) (hr:RelT w own rt H (.one s) v):∃n,v=.int k n∧inK k n∧lo≤n∧n≤hi:=by
 unfold rngK at h
 split at h
 ·simp only[Option.some.injEq,Prod.mk.injEq] at h
  obtain⟨rfl,rfl,rfl⟩:=h
  obtain⟨rfl,h⟩:=hr
  exact⟨_,rfl,h,Int.le_refl _,Int.le_refl _⟩
 ·simp only[Option.some.injEq,Prod.mk.injEq] at h
  obtain⟨rfl,rfl,rfl⟩:=h
  exact hr
 ·cases h
theorem rd_full {k:IntKind} {n:Int} (h:inK k n):RelS w own rt H (.av (AV.full k)) (.int k n):=⟨n,rfl,h,h.1,h.2⟩
theorem min_le0 (k:IntKind):k.min≤0∧0≤k.max:=by cases k<;>decide
theorem fdiv_inK {k:IntKind} {x:Int} {p:Int} (hp:0<p) (h:inK k x):inK k (x.fdiv p):=by
 rw[Int.fdiv_eq_ediv_of_nonneg _ (Int.le_of_lt hp)]
 obtain⟨m1,m2⟩:=min_le0 k
 obtain⟨h1,h2⟩:=h
 by_cases hx:0≤x
 ·have q1:0≤x / p:=Int.ediv_nonneg hx (Int.le_of_lt hp)
  have q2:x / p≤x:=Int.ediv_le_self _ hx
  exact⟨by omega,by omega⟩
 ·have q1:x / p<0:=Int.ediv_neg_of_neg_of_pos (by omega) hp
  have q2:x≤x / p:=by
   rw[Int.le_ediv_iff_mul_le hp]
   have h3:0≤(p - 1)*(-x):=Int.mul_nonneg (by omega) (by omega)
   have h4:(p - 1)*(-x)=x - x*p:=by
    rw[Int.sub_mul,Int.mul_neg,Int.mul_comm p x,Int.one_mul];omega
   omega
  exact⟨by omega,by omega⟩
theorem rngOp_sound {op:BinOp} {k k':IntKind} {lo hi x y:Int} (t:TypeId) (hx:inK k x) (hy:inK k' y) (hlo:lo≤y) (hhi:y≤hi) (hok:(rngOp op k k' lo hi).1):
 ∃v,(binOp op t (.int k x) (.int k' y)).run P w=.ok v w∧RelS w own rt H (rngOp op k k' lo hi).2 v∧Nn:=by
 cases op<;>simp only[rngOp] at hok ⊢ <;>try exact hok.elim
 case add=>subst hok;exact⟨.int k (k.wrap (x+y)),by simp[binOp,Op.intArith],rd_full (wrap_has _ _),rfl⟩
 case sub=>subst hok;exact⟨.int k (k.wrap (x - y)),by simp[binOp,Op.intArith],rd_full (wrap_has _ _),rfl⟩
 case mul=>subst hok;exact⟨.int k (k.wrap (x*y)),by simp[binOp,Op.intArith],rd_full (wrap_has _ _),rfl⟩
 case xor=>subst hok;exact⟨.int k (k.wrap (BitVec.ofInt k.bits x^^^BitVec.ofInt k.bits y).toNat),by simp[binOp,Op.intBits],rd_full (wrap_has _ _),rfl⟩
 case and=>
  by_cases e:lo=255∧hi=255∧k=.i64
  ·rw[if_pos e] at hok ⊢
   obtain⟨rfl,rfl,rfl⟩:=e
   subst hok
   obtain rfl:y=255:=by omega
   have h1:(BitVec.ofInt 64 x&&&BitVec.ofInt 64 255).toNat≤255:=by
    rw[BitVec.toNat_and]
    exact Nat.le_trans Nat.and_le_right (by decide)
   have h2:IntKind.i64.wrap ((BitVec.ofInt 64 x&&&BitVec.ofInt 64 255).toNat:Int)=((BitVec.ofInt 64 x&&&BitVec.ofInt 64 255).toNat:Int):=wrap_inK ⟨by show (-9223372036854775808:Int)≤_;omega,by show _≤(9223372036854775807:Int);omega⟩
   refine⟨.int .i64 (IntKind.i64.wrap ((BitVec.ofInt 64 x&&&BitVec.ofInt 64 255).toNat:Int)),by simp only[binOp,Op.intBits];rfl,⟨_,rfl,wrap_has _ _,?_⟩,rfl⟩
   rw[h2]
   exact⟨by omega,by omega⟩
  ·rw[if_neg e] at hok ⊢
   subst hok
   exact⟨.int k (k.wrap (BitVec.ofInt k.bits x&&&BitVec.ofInt k.bits y).toNat),by simp[binOp,Op.intBits],rd_full (wrap_has _ _),rfl⟩
 case shr=>
  obtain⟨rfl,h1,h2⟩:=hok
  obtain rfl:y=lo:=by omega
  refine⟨.int k (x.fdiv (2^y.toNat)),?_,rd_full (fdiv_inK (Int.pow_pos (by decide)) hx),rfl⟩
  have hm:min y.toNat k.bits=y.toNat:=by omega
  simp[Go.binOp,Op.shift,show ¬y<0 by omega,hm]
theorem binop_sound {op:BinOp} {t:TypeId} {x y:Operand} {tx ty:TV} {vx vy:Value} (hx:RelT w own rt H tx vx) (hy:RelT w own rt H ty vy)
 (hok:(binop P t op tx ty).1):
 ∃v,(do eqGuard op t x y vx vy;Go.binOp op t vx vy:Sem Value).run P w=.ok v w∧RelS w own rt H (binop P t op tx ty).2 v∧Nn:=by
 unfold binop at hok ⊢
 split at hok
 ·obtain⟨rfl,h1⟩:=hx
  obtain⟨rfl,h2⟩:=hy
  obtain⟨v,g1,g2⟩:=shOp_sound (P:=P) (w:=w) (own:=own) (rt:=rt) (H:=H) (yk:=_) t (.inl rfl) hok
  exact⟨v,by simp only[eqGuard_at_int,Sem.run_bind,Sem.run_pure,Result.andThen_ok];exact g1,g2⟩
 ·obtain⟨rfl,h1⟩:=hx
  obtain⟨rfl,h2⟩:=hy
  obtain⟨v,g1,g2⟩:=shOp_sound (P:=P) (w:=w) (own:=own) (rt:=rt) (H:=H) t (.inr rfl) hok
  exact⟨v,by simp only[eqGuard_at_int,Sem.run_bind,Sem.run_pure,Result.andThen_ok];exact g1,g2⟩
 ·obtain⟨rfl,h1⟩:=hx
  obtain⟨rfl,h2⟩:=hy
  obtain⟨rfl,hok⟩:=hok
  obtain⟨v,g1,g2⟩:=intOp_sound (P:=P) (w:=w) (own:=own) (rt:=rt) (H:=H) t h1 h2 hok
  exact⟨v,by simp[eqGuard_at_int,g1],g2⟩
 ·have hx':vx=_:=hx
  have hy':vy=_:=hy
  subst hx';subst hy'
  rename_i s1 s2
  have:¬((9223372036854775807:Int)<(s1.length:Int)+(s2.length:Int)):=by simp only[maxLen] at hok;omega
  refine⟨.string ⟨(s1++s2).toArray⟩,?_,rfl,rfl⟩
  simp[eqGuard_at_string,Go.binOp,Op.stringOp,IntKind.max_i64,ByteArray.size,this]
  apply ByteArray.ext
  simp
 ·have hx':vx=_:=hx
  have hy':vy=_:=hy
  subst hx';subst hy'
  exact⟨.bool _,by simp[eqGuard_at_string,Go.binOp,Op.stringOp],rfl,rfl⟩
 ·have hx':vx=_:=hx
  have hy':vy=_:=hy
  subst hx';subst hy'
  exact⟨.bool _,by simp[eqGuard_at_string,Go.binOp,Op.stringOp],rfl,rfl⟩
 ·have hx':vx=_:=hx
  have hy':vy=_:=hy
  subst hx';subst hy'
  exact⟨.bool _,by simp[eqGuard_at_string,Go.binOp,Op.stringOp],rfl,rfl⟩
 ·have hx':vx=_:=hx
  have hy':vy=_:=hy
  subst hx';subst hy'
  exact⟨.bool _,by simp only[eqGuard_at_bool,Go.binOp,Sem.run_bind,Sem.run_pure,Result.andThen_ok,equal_bool (tk_bl hok)],rfl,rfl⟩
 ·have hx':vx=_:=hx
  have hy':vy=_:=hy
  subst hx';subst hy'
  exact⟨.bool _,by simp only[eqGuard_at_bool,Go.binOp,Sem.run_bind,Sem.run_pure,Result.andThen_ok,equal_bool (tk_bl hok)],rfl,rfl⟩
 ·rename_i l l'
  split at hok
  ·rename_i k1 k2 b e1 e2 e3
   obtain⟨h1,h2,h3⟩:=hok
   obtain rfl:=avs_spec _ _ e1
   obtain rfl:=avs_spec _ _ e2
   obtain⟨xs,rfl,hxs,hx⟩:=hx
   obtain⟨ys,rfl,hys,hy⟩:=hy
   have:=h1 k1 k2 xs ys w b (by simpa using hxs) (by simpa using hys) h2 h3
    (fun j a hj=>by obtain⟨x,hx1,hx2⟩:=hx j (.av a) (by simp[hj]);exact⟨x,hx1,Rd.mono (fun _ _ _ h=>⟨rfl,h⟩) _ _ hx2⟩)
    (fun j a hj=>by obtain⟨x,hx1,hx2⟩:=hy j (.av a) (by simp[hj]);exact⟨x,hx1,Rd.mono (fun _ _ _ h=>⟨rfl,h⟩) _ _ hx2⟩) e3 x y
   simp only
   exact⟨.bool b,by simp[this.1,this.2.2.1],rfl,rfl⟩
  ·exact hok.elim
 ·rename_i l l'
  split at hok
  ·rename_i k1 k2 b e1 e2 e3
   obtain⟨h1,h2,h3⟩:=hok
   obtain rfl:=avs_spec _ _ e1
   obtain rfl:=avs_spec _ _ e2
   obtain⟨xs,rfl,hxs,hx⟩:=hx
   obtain⟨ys,rfl,hys,hy⟩:=hy
   have:=h1 k1 k2 xs ys w b (by simpa using hxs) (by simpa using hys) h2 h3
    (fun j a hj=>by obtain⟨x,hx1,hx2⟩:=hx j (.av a) (by simp[hj]);exact⟨x,hx1,Rd.mono (fun _ _ _ h=>⟨rfl,h⟩) _ _ hx2⟩)
    (fun j a hj=>by obtain⟨x,hx1,hx2⟩:=hy j (.av a) (by simp[hj]);exact⟨x,hx1,Rd.mono (fun _ _ _ h=>⟨rfl,h⟩) _ _ hx2⟩) e3 x y
   simp only
   exact⟨.bool (!b),by simp[this.2.1,this.2.2.2],rfl,rfl⟩
  ·exact hok.elim
 ·split at hok
  ·rename_i e1 e2
   obtain⟨n1,rfl,g1,_⟩:=rngK_rel e1 hx
   obtain⟨n2,rfl,g2,g3,g4⟩:=rngK_rel e2 hy
   obtain⟨v,q1,q2⟩:=rngOp_sound (P:=P) (w:=w) (own:=own) (rt:=rt) (H:=H) t g1 g2 g3 g4 hok
   exact⟨v,by simp only[eqGuard_at_int,Sem.run_bind,Sem.run_pure,Result.andThen_ok];exact q1,q2⟩
  ·exact hok.elim
 ·exact hok.elim
theorem equalIn_nil {t e:TypeId} (h:P.underlying t=some (.slice e)) (d:Nat) (b:Option Addr) (m c:Nat) (w:World):
 (Op.equalIn (d+1) t (.slice b m c) (.slice none 0 0)).run P w=.ok b.isNone w:=by
 cases b<;>simp[Op.equalIn,run_underlying h]
theorem equal_nil {t e:TypeId} (h:P.underlying t=some (.slice e)) (b:Option Addr) (m c:Nat) (w:World):
 (Op.equal t (.slice b m c) (.slice none 0 0)).run P w=.ok b.isNone w:=equalIn_nil h 9999 b m c w
theorem nlOf_sound (h:SRf N w0 E F A T H a w own rt) {s:SV} {v:Value} {ok:Prop} {b:Bool} {rd:List Nat} (e:nlOf H s=some (ok,b,rd)) (hr:RelT w own rt H (.one s) v) (hok:ok):
 ∃ad m c,v=.slice ad m c∧ad.isNone=b:=by
 have key:∀(u:Bool) (nl:Option Bool) (es m:Nat) (f:Nat→Nat→AV),Rd w own (.sl u nl es m f) v→(nl=some b∨(nl=none∧m≠0∧b=false))→∃ad m c,v=.slice ad m c∧ad.isNone=b:=by
  rintro u nl es m f ⟨ad,cap,rfl,_,_,h3,h4,h5⟩ hb
  refine⟨ad,m,cap,rfl,?_⟩
  rcases hb with rfl|⟨rfl,hm,rfl⟩
  ·cases b with
   |true=>rw[h3.1 rfl];rfl
   |false=>have:=h3.2 rfl;cases ad<;>simp_all
  ·obtain⟨b,off,c,T,fz,rfl,_⟩:=h5 hm
   rfl
 have key2:∀(r:Root) (p:Path) (nl:Option Bool) (es m:Nat) (f:Nat→Nat→AV),Ow w own r (.sl true nl es m f) p v→(nl=some b∨(nl=none∧m≠0∧b=false))→∃ad m c,v=.slice ad m c∧ad.isNone=b:=by
  rintro r p nl es m f (⟨rfl,ad,rfl,hnl⟩|⟨b',cap,c,T,rfl,hnl,_⟩) hb
  ·refine⟨_,_,_,rfl,?_⟩
   rcases hb with rfl|⟨rfl,hm,rfl⟩
   ·cases b<;>cases ad<;>simp_all [nlOk]
   ·exact absurd rfl hm
  ·refine⟨_,_,_,rfl,?_⟩
   rcases hb with rfl|⟨rfl,hm,rfl⟩
   ·cases b<;>simp_all
   ·rfl
 unfold nlOf at e
 split at e
 ·simp only[Option.some.injEq,Prod.mk.injEq] at e;obtain⟨rfl,rfl,rfl⟩:=e
  exact key (_) _ _ _ _ (relS_av hr) (.inl rfl)
 ·simp only[Option.some.injEq,Prod.mk.injEq] at e;obtain⟨rfl,rfl,rfl⟩:=e
  exact key (_) _ _ _ _ (relS_av hr) (.inr ⟨rfl,hok,rfl⟩)
 ·rename_i k p vs
  split at e
  ·rename_i ea
   simp only[Option.some.injEq,Prod.mk.injEq] at e;obtain⟨rfl,rfl,rfl⟩:=e
   obtain⟨v',h1,h2⟩:=live_row h hok
   have:=hr.2 hok
   rw[h1] at this
   obtain rfl:=Option.some.inj this
   rw[ea] at h2
   exact key2 _ _ _ _ _ _ h2 (.inl rfl)
  ·rename_i ea
   simp only[Option.some.injEq,Prod.mk.injEq] at e;obtain⟨rfl,rfl,rfl⟩:=e
   obtain⟨v',h1,h2⟩:=live_row h hok.1
   have:=hr.2 hok.1
   rw[h1] at this
   obtain rfl:=Option.some.inj this
   rw[ea] at h2
   exact key2 _ _ _ _ _ _ h2 (.inr ⟨rfl,hok.2,rfl⟩)
  ·cases e
 ·cases e
theorem rd_nil {u:Bool} {es:Nat} {f:Nat→Nat→AV} {v:Value} (h:Rd w own (.sl u (some true) es 0 f) v):v=.slice none 0 0:=by
 obtain⟨ad,cap,rfl,_,_,h3,h4,_⟩:=h
 rw[h3.1 rfl,h4 (h3.1 rfl)]
theorem pure_binOp {op:BinOp} {t yt:TypeId} {x y:Operand} (h:SRf N w0 E F A T H a w own rt) (ho:o.op=.binOp op t x y yt) (hok:(aop P o.op (opd T) H n).ok):
 Pure1 P o a w own rt H (aop P o.op (opd T) H n).v:=by
 rw[ho] at hok ⊢
 simp only[aop] at hok ⊢
 have hx:=opd_rel h x
 have hy:=opd_rel h y
 unfold Pure1
 simp only[execOp,ho]
 generalize opd T x=tx at *
 generalize opd T y=ty at *
 split at hok
 ·rename_i hel
  split at hok
  ·rename_i ok b rd e1
   obtain⟨ad,m,c,hv,hb⟩:=nlOf_sound h e1 hx hok
   have hv2:=rd_nil (relS_av hy)
   refine⟨.bool b,?_,rfl,rfl⟩
   rw[hv,hv2]
   simp only[eqGuard_at_slice,Sem.run_bind,Sem.run_pure,Result.andThen_ok,Go.binOp,equal_nil (tk_el hel),hb]
  ·exact hok.elim
 ·rename_i hel
  split at hok
  ·rename_i ok b rd e1
   obtain⟨ad,m,c,hv,hb⟩:=nlOf_sound h e1 hx hok
   have hv2:=rd_nil (relS_av hy)
   refine⟨.bool (!b),?_,rfl,rfl⟩
   rw[hv,hv2]
   simp only[eqGuard_at_slice,Sem.run_bind,Sem.run_pure,Result.andThen_ok,Go.binOp,equal_nil (tk_el hel),hb]
  ·exact hok.elim
 ·obtain⟨v,h1,h2,h3⟩:=binop_sound (x:=x) (y:=y) hx hy hok
  refine⟨v,?_,h2,h3⟩
  rw[Sem.run_bind,h1]
  rfl
theorem pure_unOp {op:UnOp} {t:TypeId} {x:Operand} (h:SRf N w0 E F A T H a w own rt) (ho:o.op=.unOp op t x) (hok:(aop P o.op (opd T) H n).ok):
 Pure1 P o a w own rt H (aop P o.op (opd T) H n).v:=by
 rw[ho] at hok ⊢
 have hx:=opd_rel h x
 unfold Pure1
 simp only[execOp,ho]
 cases op with
 |not=>
  simp only[aop] at hok ⊢
  generalize opd T x=tx at *
  split at hok
  ·have hv:a.eval x=_:=hx
   rw[hv]
   exact⟨_,by simp[Op.unary],rfl,rfl⟩
  ·exact hok.elim
 |neg=>
  simp only[aop] at hok ⊢
  generalize opd T x=tx at *
  split at hok
  ·rename_i k i
   have hv:a.eval x=_:=hx.1
   rw[hv]
   exact⟨.int k (0 - i),by simp only[Op.unary,Op.intArith,Sem.run_bind,Sem.run_pure,Result.andThen_ok,wrap_inK hok],⟨rfl,hok⟩,rfl⟩
  ·exact hok.elim
 |_=>exact hok.elim
theorem pure_fieldAddr {t:TypeId} {x:Operand} {i:Nat} (h:SRf N w0 E F A T H a w own rt) (ho:o.op=.fieldAddr t x i) (hok:(aop P o.op (opd T) H n).ok):
 Pure1 P o a w own rt H (aop P o.op (opd T) H n).v:=by
 rw[ho] at hok ⊢
 simp only[aop] at hok ⊢
 have hx:=opd_rel h x
 unfold Pure1
 simp only[execOp,ho]
 generalize opd T x=tx at *
 have run:∀(b off:Nat),i<(tk P t).fs.length→(tk P (fldTy P t i)).sz≠0→
  (Instr.fieldAt t (.pointer (some ⟨b,off,none⟩)) i).run P w=.ok (.pointer (some ⟨b,off+fldOff P t i,none⟩)) w:=by
  intro b off h1 h2
  obtain⟨fs,f,g1,g2,g3,g4⟩:=tk_fs h1
  simp only[Instr.fieldAt,Sem.run_bind,run_underlying g1,Result.andThen_ok,g2,Instr.sureAddr,Sem.run_pure,fieldPlace,g4,run_sizeOf h2,h2,if_false,Sem.run_ite]
  simp[g3,Addr.add_lit]
 split at hok
 ·rename_i m f
  obtain⟨h1,h2,h3⟩:=hok
  obtain⟨b,off,c,T',fz,hv,ho,hb,hc⟩:=relS_av hx
  rw[hv]
  refine⟨.pointer (some ⟨b,off+fldOff P t i,none⟩),by rw[Sem.run_bind,run b off h2 h3];rfl,⟨b,off+fldOff P t i,c,T',fz,rfl,ho,hb,fun j hj=>?_⟩,rfl⟩
  obtain⟨y,hy,hy2⟩:=hc (fldOff P t i+j) (by omega)
  exact⟨y,by rw[Nat.add_assoc];exact hy,hy2⟩
 ·rename_i k p vs i' off
  obtain⟨h2,h3⟩:=hok
  obtain⟨⟨hx1,b0,o0,hv0⟩,hx2⟩:=hx
  rw[hv0]
  refine⟨.pointer (some ⟨b0,o0+fldOff P t i,none⟩),by rw[Sem.run_bind,run _ _ h2 h3];rfl,⟨⟨hx1,_,_,rfl⟩,fun hl=>?_⟩,rfl⟩
  obtain⟨b,m,cap,e1,hv⟩:=hx2 hl
  rw[hv0] at hv
  simp only[Value.pointer.injEq,Option.some.injEq,Addr.mk.injEq] at hv
  obtain⟨rfl,rfl,_⟩:=hv
  exact⟨b0,m,cap,e1,by rw[Nat.add_assoc]⟩
 ·exact hok.elim
end
end Go.AM
/- The framework AM,part 6:the other operations that leave memory alone. -/
namespace Go.AM
open Go
section
variable {N:Nat} {w0:World} {E A:Nat→Prop} {F:Frm} {T:Nat→TV} {H:Nat→OB} {a:Act} {w:World} {own:Own} {rt:Rt} {P:Program} {o:Oper} {n:Nat}
theorem verTake_le:∀(n:Nat) (vs:List Nat),vle (verTake vs n) vs:=by
 intro n
 induction n with
 |zero=>intro vs d;cases vs<;>simp[verTake,gl]
 |succ n ih=>
  intro vs d
  cases vs with
  |nil=>
   cases d with
   |zero=>simp[verTake,gl]
   |succ d=>have:=ih [] d;simpa [verTake,gl] using this
  |cons v r=>
   cases d with
   |zero=>simp[verTake,gl]
   |succ d=>have:=ih r d;simpa [verTake,gl] using this
theorem ow_row {r:Root} {p:Path} {nl:Option Bool} {es m:Nat} {f:Nat→Nat→AV} {v:Value} (h:Ow w own r (.sl true nl es m f) p v) (hm:0<m):
 ∃b cap c T,v=.slice (some ⟨b,0,none⟩) m cap∧own b=some (r,p)∧w.heap[b]?=some (.cells c T (0,0))∧m≤cap∧cap≤maxLen∧c.size=cap*es∧
  ∀i,i<m→∀j,j<es→∃x,c[i*es+j]?=some x∧Ow w own r (f i j) (p++[(i,j)]) x:=by
 rcases h with ⟨rfl,_⟩|⟨b,cap,c,T,h1,_,h2,h3,h4,h5,h6,h7⟩
 ·omega
 ·exact⟨b,cap,c,T,h1,h2,h3,h4,h5,h6,h7⟩
theorem ow_slice {r:Root} {p:Path} {nl:Option Bool} {es m:Nat} {f:Nat→Nat→AV} {v:Value} (h:Ow w own r (.sl true nl es m f) p v):
 ∃ad cap,v=.slice ad m cap∧m≤cap∧cap≤maxLen∧(ad=none→cap=0):=by
 rcases h with ⟨rfl,ad,rfl,_⟩|⟨b,cap,c,T,h1,_,h2,h3,h4,h5,h6,h7⟩
 ·exact⟨ad,0,rfl,Nat.le_refl _,Nat.zero_le _,fun _=>rfl⟩
 ·exact⟨_,cap,h1,h4,h5,(fun h=>by cases h)⟩
theorem addr_add0 (a:Addr):a.add 0=a:=by simp[Addr.add]
theorem addr_add (a:Addr) (m n:Nat):(a.add m).add n=a.add (m+n):=by
 unfold Addr.add
 by_cases hm:m=0
 ·subst hm;simp
 ·by_cases hn:n=0
  ·subst hn;simp[hm]
  ·simp[hm,hn,Nat.add_assoc]
theorem run_indexAt {t e:TypeId} {b off len cap:Nat} {k:IntKind} {i:Int} (hel:P.underlying t=some (.slice e)) {i0:TypeInfo} (hi0:P.info? e=some i0) (h0:0≤i) (h1:i<len) (w:World):
 (Instr.indexAt t (.slice (some ⟨b,off,none⟩) len cap) (.int k i)).run P w=.ok (.pointer (some ⟨b,off+i.toNat *i0.size,none⟩)) w:=by
 simp[Instr.indexAt,asIntOf,run_underlying hel,h0,h1,sizeOf,typeInfo,hi0,Addr.add_lit]
theorem pure_indexAddr {t:TypeId} {x y:Operand} (h:SRf N w0 E F A T H a w own rt) (ho:o.op=.indexAddr t x y) (hok:(aop P o.op (opd T) H n).ok):
 Pure1 P o a w own rt H (aop P o.op (opd T) H n).v:=by
 rw[ho] at hok ⊢
 simp only[aop] at hok ⊢
 have hx:=opd_rel h x
 have hy:=opd_rel h y
 unfold Pure1
 simp only[execOp,ho]
 generalize opd T x=tx at *
 generalize opd T y=ty at *
 have ty_:∀{es:Nat},ixOk P t es→∃e i0,P.underlying t=some (.slice e)∧P.info? e=some i0∧i0.size=es:=by
  rintro es ⟨e,h1,h2,h3⟩
  obtain⟨i0,g1,g2,_⟩:=tk_info (P:=P) (t:=e) (by rw[h2];exact h3)
  exact⟨e,i0,tk_el h1,g1,by rw[g2,h2]⟩
 split at hok
 ·rename_i u nl es m f k i
  obtain⟨hix,h0,h1⟩:=hok
  obtain⟨e,i0,g1,g2,rfl⟩:=ty_ hix
  obtain⟨ad,cap,hv,_,_,_,_,hc⟩:=relS_av hx
  obtain⟨b,off,c,T',fz,rfl,hown,hb,hc⟩:=hc (by omega)
  have hyv:a.eval y=_:=hy.1
  rw[hv,hyv]
  refine⟨_,by rw[Sem.run_bind,run_indexAt g1 g2 h0 h1];rfl,⟨b,off+i.toNat *i0.size,c,T',fz,rfl,hown,hb,fun j hj=>?_⟩,rfl⟩
  rw[Nat.add_assoc]
  exact hc i.toNat (by omega) j hj
 ·rename_i k p vs k' i
  split at hok
  ·rename_i nl es m f ea
   obtain⟨hix,hl,h0,h1⟩:=hok
   obtain⟨e,i0,g1,g2,rfl⟩:=ty_ hix
   obtain⟨v',e1,e2⟩:=live_row h hl
   have hv:=hx.2 hl
   rw[e1] at hv
   obtain rfl:=Option.some.inj hv
   rw[ea] at e2
   obtain⟨b,cap,c,T',hv,hown,hb,_⟩:=ow_row e2 (by omega)
   have hyv:a.eval y=_:=hy.1
   rw[hv,hyv]
   refine⟨_,by rw[Sem.run_bind,run_indexAt g1 g2 h0 h1];rfl,⟨⟨hx.1,_,_,rfl⟩,fun _=>⟨b,m,cap,by rw[e1,hv],by simp[ea,AV.es]⟩⟩,rfl⟩
  ·exact hok.elim
 ·rename_i k p vs lo hi k' i
  split at hok
  ·rename_i nl es m f ea
   obtain⟨hix,hl,hlo,hhi,h0,h1⟩:=hok
   obtain⟨e,i0,g1,g2,rfl⟩:=ty_ hix
   obtain⟨v',e1,e2⟩:=live_row h hl
   obtain⟨ad,m',cap',a',e3,hlc,hv0,hv⟩:=hx.2 hl
   rw[ea] at e2
   obtain⟨b,cap,c,T',hv',hown,hb,hmc,_⟩:=ow_row e2 (by omega)
   rw[e1,hv'] at e3
   simp only[Option.some.injEq,Value.slice.injEq] at e3
   obtain⟨rfl,rfl,rfl⟩:=e3
   have hyv:a.eval y=_:=hy.1
   rw[hv0 (.inl (by omega))] at hv
   simp only[Option.map_some,Addr.add_lit,ea,AV.es,Nat.zero_add] at hv
   rw[hv,hyv]
   refine⟨_,by rw[Sem.run_bind,run_indexAt g1 g2 h0 h1];rfl,⟨⟨hx.1,_,_,rfl⟩,fun _=>⟨b,m,cap,by rw[e1,hv'],by simp[ea,AV.es,Nat.add_mul]⟩⟩,rfl⟩
  ·exact hok.elim
 ·exact hok.elim
theorem pure_index {t:TypeId} {x y:Operand} (h:SRf N w0 E F A T H a w own rt) (ho:o.op=.index t x y) (hok:(aop P o.op (opd T) H n).ok):
 Pure1 P o a w own rt H (aop P o.op (opd T) H n).v:=by
 rw[ho] at hok ⊢
 simp only[aop] at hok ⊢
 have hx:=opd_rel h x
 have hy:=opd_rel h y
 unfold Pure1
 simp only[execOp,ho]
 generalize opd T x=tx at *
 generalize opd T y=ty at *
 split at hok
 ·rename_i s k i
  obtain⟨hst,h0,h1⟩:=hok
  have hv:a.eval x=_:=hx
  have hyv:a.eval y=_:=hy.1
  rw[hv,hyv]
  obtain⟨j,rfl⟩:∃j:Nat,i=j:=⟨i.toNat,by omega⟩
  have hj:j<s.length:=by omega
  have hb:=s[j].toNat_lt
  refine⟨.int .u8 s[j].toNat,?_,⟨by simp[List.getD,hj],?_⟩,rfl⟩
  ·have:(⟨s.toArray⟩:ByteArray)[j]?=some s[j]:=by
    rw[getElem?_pos _ _ (by simpa [ByteArray.size] using hj)];rfl
   simp[Instr.index,asIntOf,run_underlying (tk_str hst),this]
  ·simp only[inK,IntKind.min,IntKind.max,IntKind.signed,IntKind.bits,Int.toNat_natCast,List.getD,List.getElem?_eq_getElem hj,Option.getD_some]
   simp
   omega
 ·exact hok.elim
theorem pure_load {t:TypeId} {x:Operand} (h:SRf N w0 E F A T H a w own rt) (ho:o.op=.load t x) (hok:(aop P o.op (opd T) H n).ok):
 Pure1 P o a w own rt H (aop P o.op (opd T) H n).v:=by
 rw[ho] at hok ⊢
 simp only[aop] at hok ⊢
 have hx:=opd_rel h x
 unfold Pure1
 simp only[execOp,ho]
 generalize opd T x=tx at *
 split at hok
 ·rename_i m f
  obtain⟨hcan,hm⟩:=hok
  obtain⟨b,off,c,T',fz,hv,hown,hb,hc⟩:=relS_av hx
  rw[hv]
  obtain⟨v,g1,g2⟩:=load_sound (P:=P) (w:=w) (own:=own) (rt:=rt) (H:=H) t (o:=off) hb hcan (g:=fun j=>.av (f j)) (s:=0) (fun j hj=>by
   obtain⟨x,e1,e2⟩:=hc j (by omega)
   exact⟨x,e1,by show Rd w own (f (0+j)) x;simpa using e2⟩)
  exact⟨v,by rw[Sem.run_bind,g1];rfl,g2,rfl⟩
 ·rename_i k p vs i off
  split at hok
  ·rename_i nl es m f ea
   obtain⟨hl,him,hcan,hoff⟩:=hok
   obtain⟨v',e1,e2⟩:=live_row h hl
   rw[ea] at e2
   obtain⟨b,cap,c,T',hv',hown,hb,hmc,hcm,hcs,hc⟩:=ow_row e2 (by omega)
   obtain⟨b',m',cap',e3,hv⟩:=hx.2 hl
   rw[e1,hv'] at e3
   simp only[Option.some.injEq,Value.slice.injEq,Addr.mk.injEq] at e3
   obtain⟨⟨rfl,_⟩,rfl,rfl⟩:=e3
   rw[hv]
   simp only[ea,AV.es]
   obtain⟨v,g1,g2⟩:=load_sound (P:=P) (w:=w) (own:=own) (rt:=rt) (H:=H) t (o:=i*es+off) hb hcan (g:=fun j=>ldc k p (H k).vs i j (f i j)) (s:=off) (fun j hj=>by
    obtain⟨y,f1,f2⟩:=hc i him (off+j) (by omega)
    refine⟨y,by rw[Nat.add_assoc];exact f1,?_⟩
    cases hf:f i (off+j) with
    |sl u nl' es' m' f'=>
     cases u with
     |true=>
      refine⟨verTake_le _ _,fun hl'=>?_⟩
      exact hdr_snoc hb p _ _ hl.1 ⟨_,_,_,_,_,ea⟩ (by rw[e1,hv']) (by rw[ea];exact f1)
     |false=>rw[hf] at f2;exact f2
    |pin x' a'=>rw[hf] at f2;exact f2.2
    |mp x'=>trivial
    |_=>rw[hf] at f2;exact f2)
   exact⟨v,by rw[Sem.run_bind,g1];rfl,g2,rfl⟩
  ·exact hok.elim
 ·exact hok.elim
theorem slOf_len (h:SRf N w0 E F A T H a w own rt) {s:SV} {v:Value} {ok:Prop} {es m:Nat} {f:Nat→Nat→AV} {rd:List Nat} (e:slOf H s=some (ok,es,m,f,rd)) (hr:RelT w own rt H (.one s) v) (hok:ok):
 ∃ad cap,v=.slice ad m cap∧m≤maxLen:=by
 unfold slOf at e
 split at e
 ·simp only[Option.some.injEq,Prod.mk.injEq] at e;obtain⟨rfl,rfl,rfl,rfl,rfl⟩:=e
  obtain⟨ad,cap,hv,h1,h2,_⟩:=relS_av hr
  exact⟨ad,cap,hv,by omega⟩
 ·rename_i k p vs
  split at e
  ·rename_i ea
   simp only[Option.some.injEq,Prod.mk.injEq] at e;obtain⟨rfl,rfl,rfl,rfl,rfl⟩:=e
   obtain⟨v',h1,h2⟩:=live_row h hok
   have:=hr.2 hok
   rw[h1] at this
   obtain rfl:=Option.some.inj this
   rw[ea] at h2
   obtain⟨ad,cap,hv,h1,h2,_⟩:=ow_slice h2
   exact⟨ad,cap,hv,by omega⟩
  ·cases e
 ·rename_i k p vs lo hi
  split at e
  ·rename_i ea
   simp only[Option.some.injEq,Prod.mk.injEq] at e;obtain⟨rfl,rfl,rfl,rfl,rfl⟩:=e
   obtain⟨hl,hlo,hhi⟩:=hok
   obtain⟨v',h1,h2⟩:=live_row h hl
   obtain⟨ad,m',cap',a',e3,hlc,hv0,hv⟩:=hr.2 hl
   rw[ea] at h2
   obtain⟨ad',cap,hv',h3,h4,_⟩:=ow_slice h2
   rw[h1,hv'] at e3
   simp only[Option.some.injEq,Value.slice.injEq] at e3
   obtain⟨rfl,rfl,rfl⟩:=e3
   exact⟨_,_,hv,by omega⟩
  ·cases e
 ·cases e
theorem pure_len {c:Call} {x:Operand} {t:TypeId} (h:SRf N w0 E F A T H a w own rt) (ho:o.op=.call c) (hc:c.callee=.builtin .len) (hargs:c.args.toList=[x]) (hty:c.argTypes.toList=[t])
 (hok:(aop P o.op (opd T) H n).ok):Pure1 P o a w own rt H (aop P o.op (opd T) H n).v:=by
 rw[ho] at hok ⊢
 simp only[aop,hc,hargs,hty] at hok ⊢
 have hx:=opd_rel h x
 unfold Pure1
 have hargs':c.args=#[x]:=by rw[←Array.toArray_toList (xs:=c.args),hargs]
 have hat:c.argTypes[0]?=some t:=by
  rw[←Array.getElem?_toList,hty];rfl
 simp only[execOp,ho,resolve,hc,hargs']
 generalize opd T x=tx at *
 split at hok
 ·rename_i s
  split at hok
  ·rename_i ok m rd e1
   unfold lenOf at e1
   split at e1
   ·rename_i s
    simp only[Option.some.injEq,Prod.mk.injEq] at e1
    obtain⟨rfl,rfl,rfl⟩:=e1
    have hv:a.eval x=_:=hx
    refine⟨.int .i64 s.length,?_,⟨rfl,inK_i64 hok.2⟩,rfl⟩
    have hsz:(⟨s.toArray⟩:ByteArray).size=s.length:=by show s.toArray.size=_;simp
    simp[invoke,builtin,Builtin.len_,hat,hv,run_underlying (tk_str hok.1),goInt,hsz]
   ·split at e1
    ·rename_i ok' es' m' f' rd' e2
     simp only[Option.some.injEq,Prod.mk.injEq] at e1
     obtain⟨rfl,rfl,rfl⟩:=e1
     obtain⟨ad,cap,hv,hm⟩:=slOf_len h e2 hx hok.2
     obtain⟨e,he⟩:=Option.isSome_iff_exists.1 hok.1
     refine⟨.int .i64 m',?_,⟨rfl,inK_i64 hm⟩,rfl⟩
     simp[invoke,builtin,Builtin.len_,hat,hv,run_underlying (tk_el he),goInt]
    ·cases e1
  ·exact hok.elim
 ·exact hok.elim
theorem slOf_cells (h:SRf N w0 E F A T H a w own rt) {s:SV} {v:Value} {ok:Prop} {es m:Nat} {f:Nat→Nat→AV} {rd:List Nat} (e:slOf H s=some (ok,es,m,f,rd)) (hr:RelT w own rt H (.one s) v) (hok:ok) (hm:0<m):
 ∃b off cap c T fz,v=.slice (some ⟨b,off,none⟩) m cap∧w.heap[b]?=some (.cells c T fz)∧∀i,i<m→∀j,j<es→∃x,c[off+(i*es+j)]?=some x∧Rd w (fun _=>none) (f i j) x:=by
 have rdm:∀{a:AV} {x:Value},Rd w own a x→Rd w (fun _=>none) a x:=fun h=>Rd.mono (fun _ _ _ h=>⟨rfl,h⟩) _ _ h
 have fromRd:∀{u:Bool} {nl:Option Bool},Rd w own (.sl u nl es m f) v→∃b off cap c T fz,v=.slice (some ⟨b,off,none⟩) m cap∧w.heap[b]?=some (.cells c T fz)∧∀i,i<m→∀j,j<es→∃x,c[off+(i*es+j)]?=some x∧Rd w (fun _=>none) (f i j) x:=by
  rintro u nl ⟨ad,cap,rfl,_,_,_,_,h5⟩
  obtain⟨b,off,c,T',fz,rfl,_,hb,hc⟩:=h5 (by omega)
  refine⟨b,off,cap,c,T',fz,rfl,hb,fun i hi j hj=>?_⟩
  obtain⟨x,h1,h2⟩:=hc i hi j hj
  exact⟨x,h1,rdm h2⟩
 have fromOw:∀{r:Root} {p:Path} {nl:Option Bool} {m:Nat} {f:Nat→Nat→AV} {v:Value},Ow w own r (.sl true nl es m f) p v→0<m→∃b cap c T,v=.slice (some ⟨b,0,none⟩) m cap∧w.heap[b]?=some (.cells c T (0,0))∧∀i,i<m→∀j,j<es→∃x,c[i*es+j]?=some x∧Rd w (fun _=>none) (f i j) x:=by
  intro r p nl m f v ho hm
  obtain⟨b,cap,c,T',hv,_,hb,_,_,_,hc⟩:=ow_row ho hm
  refine⟨b,cap,c,T',hv,hb,fun i hi j hj=>?_⟩
  obtain⟨x,h1,h2⟩:=hc i hi j hj
  exact⟨x,h1,h2.rd⟩
 unfold slOf at e
 split at e
 ·simp only[Option.some.injEq,Prod.mk.injEq] at e;obtain⟨rfl,rfl,rfl,rfl,rfl⟩:=e
  rename_i u _ _ _ _
  exact fromRd (u:=u) (relS_av hr)
 ·rename_i k p vs
  split at e
  ·rename_i ea
   simp only[Option.some.injEq,Prod.mk.injEq] at e;obtain⟨rfl,rfl,rfl,rfl,rfl⟩:=e
   obtain⟨v',h1,h2⟩:=live_row h hok
   have:=hr.2 hok
   rw[h1] at this
   obtain rfl:=Option.some.inj this
   rw[ea] at h2
   obtain⟨b,cap,c,T',h1,h2,h3⟩:=fromOw h2 hm
   exact⟨b,0,cap,c,T',(0,0),h1,h2,fun i hi j hj=>by rw[Nat.zero_add];exact h3 i hi j hj⟩
  ·cases e
 ·rename_i k p vs lo hi
  split at e
  ·rename_i ea
   simp only[Option.some.injEq,Prod.mk.injEq] at e;obtain⟨rfl,rfl,rfl,rfl,rfl⟩:=e
   obtain⟨hl,hlo,hhi⟩:=hok
   obtain⟨v',h1,h2⟩:=live_row h hl
   obtain⟨ad,m',cap',a',e3,hlc,hv0,hv⟩:=hr.2 hl
   rw[ea] at h2
   obtain⟨b,cap,c,T',hv',g2,g3⟩:=fromOw h2 (by omega)
   rw[h1,hv'] at e3
   simp only[Option.some.injEq,Value.slice.injEq] at e3
   obtain⟨rfl,rfl,rfl⟩:=e3
   have hcl:cap≠lo:=by
    obtain⟨_,cap2,hv2,hmc,_⟩:=ow_slice h2
    rw[hv'] at hv2
    simp only[Value.slice.injEq] at hv2
    omega
   rw[hv0 (.inl hcl)] at hv
   simp only[Option.map_some,Addr.add_lit,ea,AV.es,Nat.zero_add] at hv
   refine⟨b,_,_,c,T',(0,0),hv,g2,fun i hi j hj=>?_⟩
   obtain⟨x,f1,f2⟩:=g3 (lo+i) (by omega) j hj
   exact⟨x,by rw[←Nat.add_assoc,←Nat.add_mul];exact f1,f2⟩
  ·cases e
 ·cases e
theorem bytes_sound {m:Nat}:∀{f:Nat→Nat→AV} {g:Nat→Value},allBytes m f→(∀i,i<m→Rd w (fun _=>none) (f i 0) (g i))→
 ∃l:List UInt8,bytesOf m f=l∧l.length=m∧∀i,i<m→g i=.int .u8 ((l.getD i 0).toNat:Int):=by
 induction m with
 |zero=>intro f g _ _;exact⟨[],rfl,rfl,fun i hi=>by omega⟩
 |succ m ih=>
  intro f g hb hg
  obtain⟨l,h1,h2,h3⟩:=ih (f:=fun i=>f (i+1)) (g:=fun i=>g (i+1)) hb.2 (fun i hi=>hg (i+1) (by omega))
  have h0:=hg 0 (by omega)
  have hb0:=hb.1
  cases hf:f 0 0 with
  |int k x=>
   rw[hf] at h0 hb0
   cases k<;>simp only at hb0
   obtain⟨e1,e2⟩:=h0
   simp[inK,IntKind.min,IntKind.max,IntKind.signed,IntKind.bits] at e2
   refine⟨UInt8.ofNat x.toNat::l,by simp[bytesOf,hf,h1],by simp[h2],fun i hi=>?_⟩
   cases i with
   |zero=>
    rw[e1]
    simp
    omega
   |succ i=>simpa using h3 i (by omega)
  |_=>rw[hf] at hb0;exact hb0.elim
theorem pure_convert {s d:TypeId} {x:Operand} (h:SRf N w0 E F A T H a w own rt) (ho:o.op=.convert s d x)
 (hok:(aop P o.op (opd T) H n).ok):Pure1 P o a w own rt H (aop P o.op (opd T) H n).v:=by
 rw[ho] at hok ⊢
 simp only[aop,conv] at hok ⊢
 have hx:=opd_rel h x
 unfold Pure1
 simp only[execOp,ho]
 generalize opd T x=tx at *
 split at hok
 ·rename_i k k' i hk
  obtain⟨ks,hks⟩:=Option.isSome_iff_exists.1 hok
  have hv:a.eval x=_:=hx.1
  have hin:=hx.2
  refine⟨.int k (if k=k' then i else k.wrap i),?_,⟨rfl,?_⟩,rfl⟩
  ·have e:k.wrap i=if k=k' then i else k.wrap i:=by
    split
    ·rename_i e;subst e;exact wrap_inK hin
    ·rfl
   rw[←e]
   simp[convert,run_underlying (tk_ik hks),run_underlying (tk_ik hk),hv,Conv.intToInt]
  ·split
   ·rename_i e;subst e;exact hin
   ·exact wrap_has _ _
 ·rename_i k k' lo hi hk
  obtain⟨hok,rfl,rfl⟩:=hok
  obtain⟨ks,hks⟩:=Option.isSome_iff_exists.1 hok
  obtain⟨i,hv,hin,h1,h2⟩:∃i,a.eval x=.int .u8 i∧inK .u8 i∧lo≤i∧i≤hi:=hx
  have hb:(0:Int)≤i∧i≤255:=hin
  have hw:inK .i64 i:=⟨by show (-9223372036854775808:Int)≤_;omega,by show _≤(9223372036854775807:Int);omega⟩
  refine⟨.int .i64 i,?_,⟨i,rfl,hw,h1,h2⟩,rfl⟩
  simp[convert,run_underlying (tk_ik hks),run_underlying (tk_ik hk),hv,Conv.intToInt,wrap_inK hw]
 ·rename_i s' hk hstr
  have hv:a.eval x=_:=hx
  refine⟨_,?_,rfl,rfl⟩
  simp[convert,run_underlying (tk_str hok),run_underlying (tk_str hstr),hv]
 ·rename_i s' hns hk hstr
  split at hok
  ·rename_i ok es m f rd e e1 hel
   obtain⟨hok,rfl,hik,hby⟩:=hok
   have hu1:=run_underlying (tk_el hel)
   have hu2:=run_underlying (tk_str hstr)
   have hu3:=run_underlying (tk_ik hik)
   obtain⟨ad,cap,hv,hm⟩:=slOf_len h e1 hx hok
   by_cases hm0:m=0
   ·subst hm0
    refine⟨.string ByteArray.empty,?_,rfl,rfl⟩
    cases ad with
    |none=>
     rw[hv,Sem.run_bind,run_convert_bytes_nil (P:=P) w s e (tk_el hel) (tk_ik hik) 0 cap d (tk_str hstr)]
     rfl
    |some ad=>
     have:=run_bytesToString (P:=P) w ad 0 cap [] (by simp[loadCells,loadCellsFrom])
     rw[hv,Sem.run_bind,run_convert_bytes_string w s d e _ 0 cap (tk_el hel) (tk_ik hik) (tk_str hstr),this]
     rfl
   ·obtain⟨b,off,cap',c0,T0,fz0,hv',hb0,hc0⟩:=slOf_cells h e1 hx hok (by omega)
    have hc:0<m→∃c T fz,w.heap[b]?=some (.cells c T fz)∧∀i,i<m→∀j,j<1→∃x,c[off+(i*1+j)]?=some x∧Rd w (fun _=>none) (f i j) x:=fun _=>⟨c0,T0,fz0,hb0,hc0⟩
    rw[hv] at hv'
    simp only[Value.slice.injEq] at hv'
    obtain⟨rfl,_,rfl⟩:=hv'
    obtain⟨l,l1,l2,l3⟩:=bytes_sound (w:=w) (m:=m) (f:=f) (g:=fun i=>(w.cell? ⟨b,off+i,none⟩).getD undef) hby (fun i hi=>by
     obtain⟨c,T',fz,hb,hc⟩:=hc (by omega)
     obtain⟨y,g1,g2⟩:=hc i hi 0 (by omega)
     simp only[Nat.mul_one,Nat.add_zero] at g1
     rw[cell_of hb,g1]
     exact g2)
    have hcell:∀i,i<m→w.cell? ⟨b,off+i,none⟩=some (.int .u8 ((l.map fun x=>(x.toNat:Int)).getD i 0)):=fun i hi=>by
     obtain⟨c,T',fz,hb,hc⟩:=hc (by omega)
     obtain⟨y,g1,g2⟩:=hc i hi 0 (by omega)
     simp only[Nat.mul_one,Nat.add_zero] at g1
     have:=l3 i hi
     simp only[cell_of hb,g1,Option.getD_some] at this ⊢
     rw[this]
     simp[List.getD,show i<l.length by omega]
    refine⟨.string ⟨l.toArray⟩,?_,by rw[l1];rfl,rfl⟩
    rw[hv,Sem.run_bind,run_convert_bytes_arg (P:=P) w s e (tk_el hel) (tk_ik hik) b off m cap _ (by simpa using l2) hcell d (tk_str hstr)]
    have:strOfNums (l.map fun x=>(x.toNat:Int))=⟨l.toArray⟩:=by
     simp[strOfNums,List.map_map,Function.comp_def]
    rw[this]
    rfl
  ·exact hok.elim
 ·exact hok.elim
theorem pure_slice {t:TypeId} {x:Operand} {lo hi:Option Operand} (h:SRf N w0 E F A T H a w own rt) (ho:o.op=.slice t x lo hi none)
 (hok:(aop P o.op (opd T) H n).ok):Pure1 P o a w own rt H (aop P o.op (opd T) H n).v:=by
 rw[ho] at hok ⊢
 simp only[aop] at hok ⊢
 have hx:=opd_rel h x
 have hopt:∀(z:Option Operand) (i:Option Int),optI (opd T) z=some i→(z=none∧i=none)∨∃k q,z.map a.eval=some (.int k q)∧i=some q:=by
  intro z i hz
  cases z with
  |none=>simp[optI] at hz;exact .inl ⟨rfl,hz.symm⟩
  |some y=>
   have hy:=opd_rel h y
   simp only[optI] at hz
   generalize opd T y=ty at *
   split at hz
   ·simp only[Option.some.injEq] at hz
    exact .inr ⟨_,_,by simp;exact hy.1,hz.symm⟩
   ·cases hz
 unfold Pure1
 simp only[execOp,ho,Option.map_none]
 generalize opd T x=tx at *
 split at hok
 ·rename_i s l hh e1 e2
  have hl:=hopt lo l e1
  have hhi:=hopt hi hh e2
  unfold slc at hok ⊢
  have run:∀(len cap:Nat) (b:Bool),0≤l.getD 0→l.getD 0≤hh.getD len→hh.getD len≤len→len≤cap→
   (Instr.sliceBounds b len cap (lo.map a.eval) (hi.map a.eval) none).run P w=.ok ((l.getD 0).toNat,(hh.getD len).toNat,cap) w:=by
   intro len cap b g1 g2 g3 g4
   have c1:∀(q:Int) (y:Nat) (k:IntKind) (code:BoundsCode),0≤q→q≤y→(Instr.sliceBound (.int k q) y code).run P w=.ok q.toNat w:=by
    intro q y k code h1 h2
    simp[Instr.sliceBound,asIntOf,h1,h2]
   rcases hl with ⟨rfl,rfl⟩|⟨k1,q1,f1,rfl⟩<;>rcases hhi with ⟨rfl,rfl⟩|⟨k2,q2,f2,rfl⟩
   ·simp[Instr.sliceBounds]
   ·simp only[Option.getD_some] at g1 g2 g3
    simp[Instr.sliceBounds,f2,c1 q2 cap k2 _ (by omega) (by omega)]
   ·simp only[Option.getD_some] at g1 g2 g3
    simp[Instr.sliceBounds,f1,c1 q1 len k1 _ (by omega) (by omega)]
   ·simp only[Option.getD_some] at g1 g2 g3
    simp[Instr.sliceBounds,f1,f2,c1 q2 cap k2 _ (by omega) (by omega),c1 q1 q2.toNat k1 _ (by omega) (by omega)]
  have ty_:∀{es:Nat},ixOk P t es→∃e i0,P.underlying t=some (.slice e)∧P.info? e=some i0∧i0.size=es:=by
   rintro es ⟨e,h1,h2,h3⟩
   obtain⟨i0,g1,g2,_⟩:=tk_info (P:=P) (t:=e) (by rw[h2];exact h3)
   exact⟨e,i0,tk_el h1,g1,by rw[g2,h2]⟩
  have runs:∀{es:Nat} (ad:Option Addr) (len cap:Nat),ixOk P t es→0≤l.getD 0→l.getD 0≤hh.getD len→hh.getD len≤len→len≤cap→
   (Instr.sliceAt t (.slice ad len cap) (lo.map a.eval) (hi.map a.eval) none).run P w=.ok (.slice (if cap=(l.getD 0).toNat then ad else ad.map (·.add ((l.getD 0).toNat *es))) ((hh.getD len).toNat - (l.getD 0).toNat) (cap - (l.getD 0).toNat)) w:=by
   intro es ad len cap hix g1 g2 g3 g4
   obtain⟨e,i0,f1,f2,rfl⟩:=ty_ hix
   simp[Instr.sliceAt,Instr.slice,run_underlying f1,run len cap true g1 g2 g3 g4,sizeOf,typeInfo,f2]
  split at hok
  ·rename_i b
   obtain⟨hst,g1,g2,g3⟩:=hok
   have hv:a.eval x=_:=hx
   have hsz:(⟨b.toArray⟩:ByteArray).size=b.length:=by show b.toArray.size=_;simp
   rw[hv]
   refine⟨.string ((⟨b.toArray⟩:ByteArray).extract (l.getD 0).toNat (hh.getD b.length).toNat),?_,?_,rfl⟩
   ·have:=run b.length b.length false g1 g2 g3 (Nat.le_refl _)
    simp[Instr.sliceAt,Instr.slice,run_underlying (tk_str hst),hsz,this]
   ·show _=Value.string _
    congr 1
    apply ByteArray.ext
    rw[ByteArray.data_extract]
    apply Array.ext'
    simp[List.extract_eq_take_drop]
  ·rename_i u nl es m f
   obtain⟨hix,g1,g2,g3⟩:=hok
   obtain⟨ad,cap,hv,h1,h2,_,h4,hc⟩:=relS_av hx
   rw[hv]
   refine⟨_,by rw[Sem.run_bind,runs ad m cap hix g1 g2 g3 h1];rfl,?_,rfl⟩
   refine⟨_,_,rfl,by omega,by omega,⟨fun h=>by simp at h,fun h=>by simp at h⟩,fun hn=>?_,fun hn=>?_⟩
   ·split at hn
    ·omega
    ·have:ad=none:=by simpa using hn
     have:=h4 this
     omega
   ·obtain⟨b,off,c,T',fz,rfl,hown,hb,hc⟩:=hc (by omega)
    rw[if_neg (by omega)]
    refine⟨b,off+(l.getD 0).toNat *es,c,T',fz,by simp[Addr.add_lit],hown,hb,fun i hi' j hj=>?_⟩
    obtain⟨y,f1,f2⟩:=hc ((l.getD 0).toNat+i) (by omega) j hj
    exact⟨y,by rw[Nat.add_assoc,←Nat.add_assoc _ (i*es),←Nat.add_mul];exact f1,f2⟩
  ·rename_i k p vs
   split at hok
   ·rename_i nl es m f ea
    obtain⟨hix,hlv,g1,g2,g3⟩:=hok
    obtain⟨v',f1,f2⟩:=live_row h hlv
    have hv:=hx.2 hlv
    rw[f1] at hv
    obtain rfl:=Option.some.inj hv
    rw[ea] at f2
    obtain⟨ad,cap,hv',k1,k2,_⟩:=ow_slice f2
    rw[hv']
    refine⟨_,by rw[Sem.run_bind,runs ad m cap hix g1 g2 g3 k1];rfl,⟨hx.1,fun _=>⟨ad,m,cap,_,by rw[f1,hv'],by omega,?_,rfl⟩⟩,rfl⟩
    intro hz
    rcases hz with hz|hz
    ·rw[if_neg hz];simp[ea,AV.es]
    ·rw[hz];simp only[Nat.zero_mul]
     cases ad with
     |none=>simp
     |some ad=>simp[addr_add0]
   ·exact hok.elim
  ·rename_i k p vs lo0 hi0
   split at hok
   ·rename_i nl es m f ea
    obtain⟨hix,hlv,k3,k4,g1,g2,g3⟩:=hok
    obtain⟨v',f1,f2⟩:=live_row h hlv
    obtain⟨ad',m',cap',a',e3,hlc,hv0,hv⟩:=hx.2 hlv
    rw[ea] at f2
    obtain⟨ad,cap,hv',k1,k2,_⟩:=ow_slice f2
    rw[f1,hv'] at e3
    simp only[Option.some.injEq,Value.slice.injEq] at e3
    obtain⟨rfl,rfl,rfl⟩:=e3
    rw[hv]
    refine⟨_,by rw[Sem.run_bind,runs _ _ _ hix g1 g2 g3 (by omega)];rfl,⟨hx.1,fun _=>⟨ad,m,cap,if cap - lo0=(l.getD 0).toNat then a' else a'.map (·.add ((l.getD 0).toNat *es)),by rw[f1,hv'],by omega,fun hz=>?_,?_⟩⟩,rfl⟩
    ·have h0:=hv0 (by omega)
     simp only[ea,AV.es] at h0 ⊢
     by_cases z2:cap - lo0=(l.getD 0).toNat
     ·have z3:lo0=0∧(l.getD 0).toNat=0:=by omega
      rw[if_pos z2,h0,z3.1,z3.2]
     ·rw[if_neg z2,h0]
      cases ad with
      |none=>rfl
      |some ad=>simp[addr_add,Nat.add_mul]
    ·simp only[Value.slice.injEq,true_and]
     omega
   ·exact hok.elim
  ·exact hok.elim
 ·exact hok.elim
theorem pure_nilCheck {x:Operand} (h:SRf N w0 E F A T H a w own rt) (ho:o.op=.nilCheck x)
 (hok:(aop P o.op (opd T) H n).ok):Pure1 P o a w own rt H (aop P o.op (opd T) H n).v:=by
 rw[ho] at hok ⊢
 simp only[aop] at hok ⊢
 have hx:=opd_rel h x
 unfold Pure1
 simp only[execOp,ho]
 generalize opd T x=tx at *
 split at hok
 ·obtain⟨b,off,c,T',fz,hv,hown,hb,hc⟩:=relS_av hx
  exact⟨_,by rw[hv];rfl,⟨b,off,c,T',fz,rfl,hown,hb,hc⟩,rfl⟩
 ·obtain⟨b,o',hv⟩:=hx.1.2
  rw[hv] at hx
  exact⟨_,by rw[hv];rfl,hx,rfl⟩
 ·exact hok.elim
theorem pure_minmax {c:Call} {x y:Operand} {b:Builtin} (h:SRf N w0 E F A T H a w own rt) (ho:o.op=.call c) (hc:c.callee=.builtin b) (hb:b=.max∨b=.min) (hargs:c.args.toList=[x,y])
 (hok:(aop P o.op (opd T) H n).ok):Pure1 P o a w own rt H (aop P o.op (opd T) H n).v:=by
 have hargs':c.args=#[x,y]:=by rw[←Array.toArray_toList (xs:=c.args),hargs]
 have hx:=opd_rel h x
 have hy:=opd_rel h y
 rw[ho] at hok ⊢
 have key:∀{f:Int→Int→Int} {k:IntKind} {i:Int},two f (opd T x) (opd T y)=some (k,i)→∃p q,a.eval x=.int k p∧a.eval y=.int k q∧inK k p∧inK k q∧i=f p q:=by
  intro f k i e
  generalize opd T x=tx at *
  generalize opd T y=ty at *
  unfold two at e
  split at e
  ·split at e
   ·rename_i hk
    subst hk
    simp only[Option.some.injEq,Prod.mk.injEq] at e
    obtain⟨rfl,rfl⟩:=e
    exact⟨_,_,hx.1,hy.1,hx.2,hy.2,rfl⟩
   ·cases e
  ·cases e
 unfold Pure1
 rcases hb with rfl|rfl
 ·simp only[aop,hc,hargs] at hok ⊢
  simp only[execOp,ho,resolve,hc,hargs']
  split at hok
  ·rename_i k i e
   obtain⟨p,q,h1,h2,h3,h4,rfl⟩:=key e
   refine⟨.int k (if q>p then q else p),?_,⟨rfl,?_⟩,rfl⟩
   ·simp[invoke,builtin,Builtin.max_,h1,h2,Builtin.max2]
   ·split<;>assumption
  ·exact hok.elim
 ·simp only[aop,hc,hargs] at hok ⊢
  simp only[execOp,ho,resolve,hc,hargs']
  split at hok
  ·rename_i k i e
   obtain⟨p,q,h1,h2,h3,h4,rfl⟩:=key e
   refine⟨.int k (if q<p then q else p),?_,⟨rfl,?_⟩,rfl⟩
   ·simp[invoke,builtin,Builtin.min_,h1,h2,Builtin.min2]
   ·split<;>assumption
  ·exact hok.elim
end
end Go.AM
/- The framework AM,part 7:values moved and put together. -/
namespace Go.AM
open Go
section
variable {N:Nat} {w0:World} {E A:Nat→Prop} {F:Frm} {T:Nat→TV} {H:Nat→OB} {a:Act} {w:World} {own:Own} {rt:Rt} {P:Program} {o:Oper} {n:Nat}
theorem pure_move {x:Operand} (h:SRf N w0 E F A T H a w own rt) (ho:o.op=.move x∨o.op=.assign x):Pure1 P o a w own rt H (aop P o.op (opd T) H n).v:=by
 refine⟨a.eval x,?_,?_,rfl⟩
 ·rcases ho with ho|ho<;>simp[execOp,ho]
 ·rcases ho with ho|ho<;>rw[ho]<;>exact opd_rel h x
theorem pure_extract {x:Operand} {i:Nat} (h:SRf N w0 E F A T H a w own rt) (ho:o.op=.extract x i) (hok:(aop P o.op (opd T) H n).ok):
 Pure1 P o a w own rt H (aop P o.op (opd T) H n).v:=by
 rw[ho] at hok ⊢
 simp only[aop] at hok ⊢
 have hx:=opd_rel h x
 unfold Pure1
 simp only[execOp,ho]
 generalize opd T x=tx at *
 split at hok
 ·rename_i l
  obtain⟨cs,hv,hs,hc⟩:=hx
  have hl:l[i]?=some (gl (.one .junk) l i):=by
   rw[gl_eq,List.getD]
   simp[List.getElem?_eq_getElem hok]
  obtain⟨y,h1,h2⟩:=hc i _ hl
  refine⟨y,by rw[hv];simp[Instr.extract,h1],?_,rfl⟩
  cases hg:gl (.one .junk) l i with
  |one s=>rw[hg] at h2;exact h2
  |agg l=>rw[hg] at h2;exact h2
 ·exact hok.elim
theorem cloOps_spec:∀{l:List Operand} {m:List SV},cloOps (opd T) l=some m→m.length=l.length∧∀(j:Nat) (s:SV),m[j]?=some s→∃x,l[j]?=some x∧opd T x=.one s
 |[],m,e=>by simp[cloOps] at e;subst e;exact⟨rfl,fun j s hj=>by simp at hj⟩
 |x::r,m,e=>by
  simp only[cloOps] at e
  split at e
  ·rename_i s l e1 e2
   simp only[Option.some.injEq] at e
   subst e
   obtain⟨h1,h2⟩:=cloOps_spec e2
   refine⟨by simp[h1],fun j s' hj=>?_⟩
   cases j with
   |zero=>simp at hj;subst hj;exact⟨x,rfl,e1⟩
   |succ j=>exact h2 j s' (by simpa using hj)
  ·cases e
theorem RelS.rel0 {s:SV} {v:Value} (h:RelS w own rt H s v):RelS0 w own rt H s v:=by
 cases s<;>first|exact h|trivial
theorem pure_makeFunc {g:Fn} {first cap:Array Operand} (h:SRf N w0 E F A T H a w own rt) (ho:o.op=.makeFunc g first cap) (hok:(aop P o.op (opd T) H n).ok):
 Pure1 P o a w own rt H (aop P o.op (opd T) H n).v:=by
 rw[ho] at hok ⊢
 simp only[aop] at hok ⊢
 unfold Pure1
 simp only[execOp,ho]
 split at hok
 ·rename_i l e1 e2
  have hf:first=#[]:=by rw[←Array.toArray_toList (xs:=first),e1]
  obtain⟨g1,g2⟩:=cloOps_spec e2
  refine⟨.func g #[] (cap.map a.eval),by simp[Instr.makeFunc,hf],⟨_,rfl,by simp[g1],fun j s hj=>?_⟩,rfl⟩
  obtain⟨x,h1,h2⟩:=g2 j s hj
  have hx:=opd_rel h x
  rw[h2] at hx
  exact⟨a.eval x,by simp at h1;simp[h1],RelS.rel0 hx⟩
 ·exact hok.elim
theorem okp_at:∀(p:Path) (a:AV),a.okp p→(a.at p).okp []:=by
 intro p
 induction p with
 |nil=>intro a h;cases a<;>first|exact h|exact h.elim
 |cons ij p ih=>
  obtain⟨i,j⟩:=ij
  intro a h
  cases a with
  |sl u nl es n f=>
   cases u with
   |true=>exact ih _ h.2.2
   |false=>exact h.elim
  |_=>exact h.elim
theorem wlive_row (h:WRf w0 E F A H w own rt) {k:Nat} {p:Path} {vs:List Nat} (hl:(H k).live p vs):
 ∃v,hdr w (H k).a (rt k) p=some v∧Ow w own k ((H k).a.at p) p v:=by
 obtain⟨v,h1,h2⟩:=Ow.hdr p _ _ _ hl.1 (h.obj k)
 exact⟨v,h1,by simpa using h2⟩
theorem one_cell (h:WRf w0 E F A H w own rt) {s:SV} {v:Value} (h1:s1 H s) (hr:RelS w own rt H s v):v.oneCell'=true∧v.cells=#[v]:=by
 cases s with
 |av a=>
  cases a with
  |int k n=>obtain⟨rfl,_⟩:=hr;exact⟨rfl,rfl⟩
  |bool b=>have:v=_:=hr;subst this;exact⟨rfl,rfl⟩
  |str b=>have:v=_:=hr;subst this;exact⟨rfl,rfl⟩
  |rng k lo hi=>obtain⟨_,rfl,_⟩:=hr;exact⟨rfl,rfl⟩
  |pin x a=>simp[s1,AV.kn] at h1
  |mp x=>simp[s1,AV.kn] at h1
  |sl u nl es n f=>obtain⟨_,_,rfl,_⟩:=hr;exact⟨rfl,rfl⟩
  |ptr m f=>obtain⟨_,_,_,_,_,rfl,_⟩:=hr;exact⟨rfl,rfl⟩
  |fn g m f=>obtain⟨_,rfl,_⟩:=hr;exact⟨rfl,rfl⟩
  |junk=>simp[s1,AV.kn] at h1
 |own k q vs=>
  have hl:(H k).live q vs:=h1
  obtain⟨v',e1,e2⟩:=wlive_row h hl
  have:=hr.2 hl
  rw[e1] at this
  obtain rfl:=Option.some.inj this
  cases hh:(H k).a.at q with
  |sl u nl es n f=>
   rw[hh] at e2
   cases u with
   |true=>rcases e2 with ⟨_,_,rfl,_⟩|⟨_,_,_,_,rfl,_⟩<;>exact⟨rfl,rfl⟩
   |false=>obtain⟨_,_,rfl,_⟩:=e2;exact⟨rfl,rfl⟩
  |mp es=>
   rw[hh] at e2
   obtain⟨_,rfl,_⟩:=e2
   exact⟨rfl,rfl⟩
  |_=>
   exfalso
   have:=okp_at _ _ hl.1
   rw[hh] at this
   exact this
 |ref k q vs i o=>obtain⟨b,n,cap,_,rfl⟩:=hr.2 h1;exact⟨rfl,rfl⟩
 |view k q vs lo hi=>obtain⟨b,n,cap,a',_,_,_,rfl⟩:=hr.2 h1;exact⟨rfl,rfl⟩
 |clo g l=>obtain⟨_,rfl,_⟩:=hr;exact⟨rfl,rfl⟩
 |junk=>exact h1.elim
theorem cells_rel (h:WRf w0 E F A H w own rt) {t:TV} {v:Value} (hn:t1 H t) (hr:RelT w own rt H t v):RelL w own rt H t.cells v.cells:=by
 cases t with
 |one s=>
  obtain⟨h1,hv⟩:=one_cell h hn hr
  refine⟨by rw[hv];rfl,fun j s' hj=>?_⟩
  simp only[TV.cells] at hj
  cases j with
  |zero=>
   simp only[List.getElem?_cons_zero,Option.some.injEq] at hj
   subst hj
   exact⟨v,by rw[hv];rfl,hr⟩
  |succ j=>simp at hj
 |agg l=>obtain⟨cs,rfl,hl⟩:=hr;exact hl
 |_=>exact hn.elim
theorem putRange_length {α:Type}:∀(l:List α) (n:Nat) (ys:List α),(putRange l n ys).length=l.length
 |[],0,[]=>rfl
 |[],0,_::_=>rfl
 |[],_+1,[]=>rfl
 |[],_+1,_::_=>rfl
 |_::_,0,[]=>rfl
 |_::r,0,y::ys=>by simp[putRange,putRange_length r 0 ys]
 |x::r,n+1,ys=>by simp[putRange,putRange_length r n ys]
theorem putRange_get {α:Type}:∀(l:List α) (n:Nat) (ys:List α) (j:Nat),n+ys.length≤l.length→(putRange l n ys)[j]?=if n≤j∧j<n+ys.length then ys[j - n]? else l[j]?
 |[],0,[],j,_=>by simp[putRange]
 |[],0,_::_,j,h=>by simp at h
 |[],n+1,[],j,h=>by simp at h
 |[],_+1,_::_,j,h=>by simp at h
 |_::_,0,[],j,_=>by simp[putRange]
 |x::r,0,y::ys,j,h=>by
  simp only[putRange]
  cases j with
  |zero=>simp
  |succ j=>
   simp only[List.getElem?_cons_succ]
   rw[putRange_get r 0 ys j (by simpa using h)]
   simp
 |x::r,n+1,ys,j,h=>by
  simp only[putRange]
  cases j with
  |zero=>simp
  |succ j=>
   simp only[List.getElem?_cons_succ]
   rw[putRange_get r n ys j (by simp at h;omega)]
   by_cases hc:n≤j∧j<n+ys.length
   ·rw[if_pos hc,if_pos (by omega)];congr 1;omega
   ·rw[if_neg hc,if_neg (by omega)]
theorem fold_size (off:Nat):∀(l:List Value) (k:Nat) (cs:Array Value),((l.zipIdx k).foldl (fun cs (x:Value×Nat)=>cs.setIfInBounds (off+x.2) x.1) cs).size=cs.size
 |[],_,_=>rfl
 |v::l,k,cs=>by simp[List.zipIdx_cons,fold_size off l (k+1)]
theorem fold_get (off:Nat):∀(l:List Value) (k:Nat) (cs:Array Value) (j:Nat),off+k+l.length≤cs.size→
 ((l.zipIdx k).foldl (fun cs (x:Value×Nat)=>cs.setIfInBounds (off+x.2) x.1) cs)[j]?=if off+k≤j∧j<off+k+l.length then l[j - (off+k)]? else cs[j]?
 |[],k,cs,j,_=>by simp[show ¬(off+k≤j∧j<off+k) by omega]
 |v::l,k,cs,j,h=>by
  simp only[List.length_cons] at h
  simp only[List.zipIdx_cons,List.foldl_cons]
  rw[fold_get off l (k+1) _ j (by simp;omega),Array.getElem?_setIfInBounds]
  by_cases h1:j=off+k
  ·subst h1
   rw[if_neg (by omega),if_pos rfl,if_pos (by omega),if_pos (by simp only[List.length_cons];omega)]
   simp
  ·rw[if_neg (c:=off+k=j) (by omega)]
   by_cases h2:off+(k+1)≤j∧j<off+(k+1)+l.length
   ·rw[if_pos h2,if_pos (by simp only[List.length_cons];omega)]
    obtain⟨d,rfl⟩:∃d,j=off+(k+1)+d:=⟨j - (off+(k+1)),by omega⟩
    rw[show off+(k+1)+d - (off+(k+1))=d by omega,show off+(k+1)+d - (off+k)=d+1 by omega]
    simp
   ·rw[if_neg h2,if_neg (by simp only[List.length_cons];omega)]
theorem RelL.put {l ys:List SV} {cs vs:Array Value} {off:Nat} (hl:RelL w own rt H l cs) (hy:RelL w own rt H ys vs) (ho:off+ys.length≤l.length):
 RelL w own rt H (putRange l off ys) (vs.zipIdx.foldl (fun cs (x:Value×Nat)=>cs.setIfInBounds (off+x.2) x.1) cs):=by
 have e:vs.zipIdx.foldl (fun cs (x:Value×Nat)=>cs.setIfInBounds (off+x.2) x.1) cs=(vs.toList.zipIdx 0).foldl (fun cs (x:Value×Nat)=>cs.setIfInBounds (off+x.2) x.1) cs:=by
  rw[←Array.foldl_toList,Array.toList_zipIdx]
 rw[e]
 refine⟨by rw[fold_size,putRange_length];exact hl.1,fun j s hj=>?_⟩
 have hlen:vs.toList.length=ys.length:=by simpa using hy.1
 rw[fold_get off _ 0 _ j (by rw[hlen,hl.1];omega),hlen]
 rw[putRange_get _ _ _ _ ho] at hj
 by_cases hc:off≤j∧j<off+ys.length
 ·rw[if_pos hc] at hj
  rw[if_pos (by omega)]
  obtain⟨x,h1,h2⟩:=hy.2 _ _ hj
  exact⟨x,by simpa using h1,h2⟩
 ·rw[if_neg hc] at hj
  rw[if_neg (by omega)]
  exact hl.2 j s hj
theorem fill_rel (h:SRf N w0 E F A T H a w own rt) {t:TypeId} {places:Nat→Option (Nat×Nat)} (hp:∀i,i<(tk P t).fs.length→places i=some (fldOff P t i,(tk P (fldTy P t i)).sz)):
 ∀(parts:List (Nat×Operand)) (l:List SV) (cs:Array Value),RelL w own rt H l cs→l.length=(tk P t).sz→buildOk P t (opd T) parts=true→t1All H (opd T) (snds parts)→
  ∃cs',Instr.fill places cs (parts.map fun x=>(x.1,a.eval x.2))=some cs'∧RelL w own rt H (buildF P t (opd T) parts l) cs'
 |[],l,cs,hl,_,_,_=>⟨cs,rfl,hl⟩
 |(i,x)::r,l,cs,hl,hlen,hok,h1=>by
  simp only[buildOk,Bool.and_eq_true,Nat.blt_eq,Nat.beq_eq,Nat.ble_eq] at hok
  obtain⟨⟨⟨hi,hsz⟩,hof⟩,hr⟩:=hok
  have hx:=cells_rel h.toWRf h1.1 (opd_rel h x)
  obtain⟨cs',e1,e2⟩:=fill_rel h hp r (putRange l (fldOff P t i) (opd T x).cells) _ (hl.put hx (by omega)) (by rw[putRange_length];exact hlen) hr h1.2
  refine⟨cs',?_,e2⟩
  simp only[List.map_cons,Instr.fill,hp i hi]
  rw[if_neg]
  ·exact e1
  ·have e1:=hx.1
   have e2:=hl.1
   simp;omega
theorem pure_build {t:TypeId} {parts:Array (Nat×Operand)} (h:SRf N w0 E F A T H a w own rt) (ho:o.op=.build t parts) (hok:(aop P o.op (opd T) H n).ok):
 Pure1 P o a w own rt H (aop P o.op (opd T) H n).v:=by
 rw[ho] at hok ⊢
 simp only[aop] at hok ⊢
 unfold Pure1
 simp only[execOp,ho]
 obtain⟨hfs,hsz,hb,h1,hz⟩:=hok
 have hsz':(tk P t).sz≠0:=by intro e;rw[e] at hsz;cases hsz
 have htk:∃d i,P.underlying t=some d∧P.info? t=some i∧tk P t={ sz:=i.size,by_:=i.bytes,agg:=aggD d,el:=elD d,fs:=fsD d,ik:=ikD d,z:=zOf i,str:=strD d,bl:=blD d}:=by
  rcases tk_cases P t with g|g3
  ·exact g
  ·rw[g3] at hsz';exact absurd rfl hsz'
 obtain⟨d,i,g1,g2,g3⟩:=htk
 cases d with
 |struct fs=>
  have hfs2:(tk P t).fs=fs.toList.map fun f=>(f.offset,f.type):=by rw[g3];rfl
  have hall:∀f∈fs.toList,∃j,P.info? f.type=some j∧j.size=(tk P f.type).sz:=by
   have:∀(l:List Field),fsAll P (l.map fun f=>(f.offset,f.type))=true→∀f∈l,∃j,P.info? f.type=some j∧j.size=(tk P f.type).sz:=by
    intro l
    induction l with
    |nil=>intro _ f hf;cases hf
    |cons x r ih=>
     intro hh f hf
     simp only[List.map_cons,fsAll,Bool.and_eq_true,Bool.not_eq_true'] at hh
     rcases List.mem_cons.1 hf with rfl|hf
     ·obtain⟨j,j1,j2,_⟩:=tk_info (P:=P) (t:=f.type) (by intro e;rw[e] at hh;cases hh.1)
      exact⟨j,j1,j2⟩
     ·exact ih hh.2 f hf
   refine this _ ?_
   rw[←hfs2]
   cases hh:(tk P t).fs with
   |nil=>rw[hh] at hfs;cases hfs
   |cons x r=>rw[hh] at hfs;exact hfs
  have hmap:fs.toList.mapM (fun f=>(P.info? f.type).map fun i=>(f.offset,i.size))=some (fs.toList.map fun f=>(f.offset,(tk P f.type).sz)):=by
   have:∀(l:List Field),(∀f∈l,∃j,P.info? f.type=some j∧j.size=(tk P f.type).sz)→l.mapM (fun f=>(P.info? f.type).map fun i=>(f.offset,i.size))=some (l.map fun f=>(f.offset,(tk P f.type).sz)):=by
    intro l
    induction l with
    |nil=>intro _;rfl
    |cons x r ih=>
     intro hh
     obtain⟨j,j1,j2⟩:=hh x (by simp)
     simp[List.mapM_cons,j1,j2,ih (fun f hf=>hh f (by simp[hf]))]
   exact this _ hall
  have hzero:∃z,i.zero=some z∧RelL w own rt H ((tk P t).z.map .av) z.cells:=by
   cases hzz:i.zero with
   |none=>
    exfalso
    have:(tk P t).z=[]:=by rw[g3];simp[zOf,hzz]
    rw[this] at hz
    exact hsz' hz.symm
   |some z=>
    have:(tk P t).z=z.cells.toList.map ofV:=by rw[g3];simp[zOf,hzz]
    refine⟨z,rfl,by simp[this],fun j s hj=>?_⟩
    rw[this] at hj
    simp only[List.map_map,List.getElem?_map,Option.map_eq_some_iff,Function.comp_def] at hj
    obtain⟨x,hx,rfl⟩:=hj
    exact⟨x,by simpa using hx,ofV_rel _ _⟩
  obtain⟨z,hz1,hz2⟩:=hzero
  obtain⟨cs',e1,e2⟩:=fill_rel (P:=P) h (t:=t) (places:=((fs.toList.map fun f=>(f.offset,(tk P f.type).sz)).toArray[·]?)) (fun j hj=>by
   rw[hfs2,List.length_map] at hj
   simp only[List.getElem?_toArray,List.getElem?_map,List.getElem?_eq_getElem hj,Option.map_some,fldOff,fldTy,hfs2,gl_eq,List.getD,Option.getD_some])
   parts.toList ((tk P t).z.map .av) z.cells hz2 (by rw[List.length_map];exact hz) hb h1
  refine⟨.agg cs',?_,⟨cs',rfl,e2⟩,rfl⟩
  rw[Sem.run_bind,run_build w t _ cs' (by
   unfold Program.built
   simp only[g1,g2,hz1,hmap]
   rw[←e1]
   simp)]
  rfl
 |_=>
  exfalso
  have:(tk P t).fs=[]:=by rw[g3];rfl
  rw[this] at hfs
  cases hfs
end
end Go.AM
/- The framework AM,part 8:what is owned is taken out of one object and goes into another. -/
namespace Go.AM
open Go
def strip:Path→Path→Option Path
 |[],q=>some q
 |_::_,[]=>none
 |x::p,y::q=>if x=y then strip p q else none
theorem strip_some:∀{p q r:Path},strip p q=some r→q=p++r
 |[],q,r,h=>by simp[strip] at h;exact h
 |_::_,[],r,h=>by simp[strip] at h
 |x::p,y::q,r,h=>by
  simp only[strip] at h
  split at h
  ·rename_i e;subst e;rw[strip_some h];rfl
  ·cases h
theorem strip_app:∀(p r:Path),strip p (p++r)=some r
 |[],r=>rfl
 |x::p,r=>by simp[strip,strip_app p r]
theorem strip_none_app:∀{p q:Path},(∀r,q≠p++r)→strip p q=none:=by
 intro p q h
 cases hs:strip p q with
 |none=>rfl
 |some r=>exact absurd (strip_some hs) (h r)
def mv (own:Own) (k:Nat) (p:Path) (n:Nat) (q0:Path):Own:=fun b=>
 match own b with
 |some (k',q)=>if k'=k then (match strip p q with|some r=>some (n,q0++r)|none=>some (k',q)) else some (k',q)
 |none=>none
theorem mv_none {own:Own} {k n b:Nat} {p q0:Path}:mv own k p n q0 b=none↔own b=none:=by
 unfold mv
 split
 ·rename_i k' q e
  simp only[e,reduceCtorEq,iff_false]
  split
  ·split<;>simp
  ·simp
 ·rename_i e;simp[e]
theorem mv_other {own:Own} {k n b k':Nat} {p q0 q:Path} (h:own b=some (k',q)) (hk:k'≠k∨∀r,q≠p++r):mv own k p n q0 b=some (k',q):=by
 unfold mv
 simp only[h]
 rcases hk with hk|hk
 ·rw[if_neg hk]
 ·split
  ·rw[strip_none_app hk]
  ·rfl
theorem mv_at {own:Own} {k n b:Nat} {p q0 r:Path} (h:own b=some (k,p++r)):mv own k p n q0 b=some (n,q0++r):=by
 unfold mv
 simp only[h,if_true,strip_app]
theorem mv_some {own:Own} {k n b:Nat} {p q0:Path} {x:Root×Path} (h:mv own k p n q0 b=some x):own b=some x∨((∃r,own b=some (k,p++r)∧x=(n,q0++r))):=by
 unfold mv at h
 split at h
 ·rename_i k' q e
  split at h
  ·rename_i ek
   subst ek
   split at h
   ·rename_i r er
    right
    exact⟨r,by rw[e,strip_some er],by simpa using h.symm⟩
   ·left;rw[e];exact h
  ·left;rw[e];exact h
 ·cases h
section
variable {w:World} {own:Own}
theorem Ow.cut {k n:Nat} {q0:Path}:∀(p:Path) (a:AV) (p0:Path) (v:Value),a.okp p→Ow w own k a p0 v→Ow w (mv own k (p0++p) n q0) k (a.cut p) p0 v:=by
 intro p
 induction p with
 |nil=>intro a p0 v hok h;cases a<;>trivial
 |cons ij p ih=>
  obtain⟨i,j⟩:=ij
  intro a p0 v hok h
  cases a with
  |sl u nl es m f=>
   cases u with
   |false=>cases hok
   |true=>
    obtain⟨hi,hj,hok⟩:=hok
    rcases h with ⟨rfl,_⟩|⟨b,cap,c,T,rfl,hnl,ho,hb,h2,h3,h4,h5⟩
    ·omega
    ·refine .inr ⟨b,cap,c,T,rfl,hnl,mv_other ho (.inr fun r e=>?_),hb,h2,h3,h4,fun i' hi' j' hj'=>?_⟩
     ·have:=congrArg List.length e
      simp at this
     ·obtain⟨x,hx,hr⟩:=h5 i' hi' j' hj'
      refine⟨x,hx,?_⟩
      dsimp only
      by_cases he:i'=i∧j'=j
      ·obtain⟨rfl,rfl⟩:=he
       rw[if_pos ⟨rfl,rfl⟩]
       have:=ih (f i' j') (p0++[(i',j')]) x hok hr
       simpa using this
      ·rw[if_neg he]
       refine Ow.mono (fun b o e1 e2=>⟨mv_none.2 e1,e2⟩) _ _ _ _ (fun b o q e1 e2=>⟨mv_other e1 (.inr fun r e=>?_),e2⟩) hr
       simp only[List.append_assoc,List.append_cancel_left_eq,List.cons_append,List.nil_append,List.cons.injEq,Prod.mk.injEq] at e
       exact he e.1
  |_=>cases hok
theorem cut_spec:∀(q p:Path) (a:AV),(a.cut p).okp q→a.okp q∧((a.cut p).at q).es=(a.at q).es∧∀(w:World) v x,hdr w a v q=some x→hdr w (a.cut p) v q=some x:=by
 intro q
 induction q with
 |nil=>
  intro p a h
  cases p with
  |nil=>cases a<;>exact h.elim
  |cons ij p=>
   cases a with
   |sl u nl es m f=>exact⟨by cases u<;>first|trivial|exact h.elim,rfl,fun w v x e=>e⟩
   |mp es=>exact⟨trivial,rfl,fun w v x e=>e⟩
   |_=>exact h.elim
 |cons ij q ih=>
  obtain⟨i',j'⟩:=ij
  intro p a h
  cases p with
  |nil=>cases a<;>exact h.elim
  |cons ij p=>
   obtain⟨i,j⟩:=ij
   cases a with
   |sl u nl es m f=>
    cases u with
    |false=>exact h.elim
    |true=>
     obtain⟨hi,hj,h⟩:=h
     by_cases he:i'=i∧j'=j
     ·obtain⟨rfl,rfl⟩:=he
      dsimp only at h
      rw[if_pos ⟨rfl,rfl⟩] at h
      obtain⟨g1,g2,g3⟩:=ih p _ h
      refine⟨⟨hi,hj,g1⟩,?_,fun w v x e=>?_⟩
      ·simp only[AV.cut,AV.at,and_self,if_true];exact g2
      ·cases v with
       |slice ad m' cap=>
        cases ad with
        |none=>simp[hdr] at e
        |some ad=>
         simp only[hdr,AV.cut,and_self,if_true] at e ⊢
         cases hh:w.heap[ad.block]? with
         |none=>simp[hh] at e
         |some o=>
          cases o with
          |cells c T fz=>
           simp only[hh] at e ⊢
           cases hc:c[ad.off+(i'*es+j')]? with
           |none=>simp[hc] at e
           |some y=>
            simp only[hc,Option.bind_some] at e ⊢
            exact g3 w y x e
          |_=>simp[hh] at e
       |_=>simp[hdr] at e
     ·dsimp only at h
      rw[if_neg he] at h
      refine⟨⟨hi,hj,h⟩,?_,fun w v x e=>?_⟩
      ·simp only[AV.cut,AV.at,if_neg he]
      ·cases v with
       |slice ad m' cap=>
        cases ad with
        |none=>simp[hdr] at e
        |some ad=>simp only[hdr,AV.cut,if_neg he] at e ⊢;exact e
       |_=>simp[hdr] at e
   |_=>exact h.elim
end
theorem Over.refl {w:World} {own:Own} {rt:Rt} {H:Nat→OB} {k:Nat}:Over w own rt H w own rt H k:=
 ⟨vle.refl _,fun _ _ _ hl=>⟨hl,rfl,fun _ hv=>hv⟩⟩
theorem Over.trans {w w1 w2:World} {own own1 own2:Own} {rt rt1 rt2:Rt} {H H1 H2:Nat→OB} {k:Nat} (h:Over w own rt H w1 own1 rt1 H1 k) (h':Over w1 own1 rt1 H1 w2 own2 rt2 H2 k):
 Over w own rt H w2 own2 rt2 H2 k:=by
 refine⟨h.vs.trans h'.vs,fun q vs hv hl=>?_⟩
 obtain⟨g1,g2,g3⟩:=h'.hd q vs (hv.trans h.vs) hl
 obtain⟨f1,f2,f3⟩:=h.hd q vs hv g1
 exact⟨f1,by rw[g2,f2],fun v e=>g3 v (f3 v e)⟩
def updH (H:Nat→OB) (hu:List (Nat×OB)):Nat→OB:=fun k=>lk (H k) hu k
theorem lk_append {α:Type} (d:α):∀(l m:List (Nat×α)) (s:Nat),lk d (l++m) s=lk (lk d m s) l s
 |[],m,s=>rfl
 |(k,v)::l,m,s=>by
  simp only[List.cons_append,lk]
  split
  ·rfl
  ·exact lk_append d l m s
theorem updH_append (H:Nat→OB) (l m:List (Nat×OB)):updH H (l++m)=updH (updH H m) l:=by
 funext k;simp only[updH,lk_append]
structure Mvd (own own':Own) (n:Nat):Prop where
 none:∀b,own b=none→own' b=none
 stay:∀b q,own b=some (n,q)→own' b=some (n,q)
theorem Mvd.refl (own:Own) (n:Nat):Mvd own own n:=⟨fun _ h=>h,fun _ _ h=>h⟩
theorem Mvd.trans {a b c:Own} {n:Nat} (h:Mvd a b n) (h':Mvd b c n):Mvd a c n:=⟨fun x e=>h'.none x (h.none x e),fun x q e=>h'.stay x q (h.stay x q e)⟩
section
variable {N:Nat} {w0:World} {E A:Nat→Prop} {F:Frm} {T:Nat→TV} {H:Nat→OB} {a:Act} {w:World} {own:Own} {rt:Rt} {P:Program} {o:Oper} {n:Nat}
theorem dead_okp {q:Path}:¬AV.junk.okp q:=by cases q<;>exact fun h=>h
theorem WRf.cut (h:WRf w0 E F A H w own rt) (hn:H n=.dead) (hA:A n) {k:Nat} {p:Path} (hok:(H k).a.okp p) (q0:Path):
 WRf w0 E F A (updH H [(k,(H k).cut p)]) w (mv own k p n q0) rt∧Mvd own (mv own k p n q0) n∧(∀k',Over w own rt H w (mv own k p n q0) rt (updH H [(k,(H k).cut p)]) k')∧updH H [(k,(H k).cut p)] n=.dead∧
 ∀v,hdr w (H k).a (rt k) p=some v→Ow w (mv own k p n q0) n ((H k).a.at p) q0 v:=by
 have hkn:k≠n:=by
  rintro rfl
  rw[hn] at hok
  exact dead_okp hok
 have hk0:k≠0:=by
  rintro rfl
  rw[h.frn0.1] at hok
  exact dead_okp hok
 have hHk:updH H [(k,(H k).cut p)] k=(H k).cut p:=by simp[updH,lk]
 have hHo:∀k',k'≠k→updH H [(k,(H k).cut p)] k'=H k':=fun k' e=>by simp[updH,lk,Ne.symm e]
 have h0:∀b o,own b=none→w.heap[b]?=some o→mv own k p n q0 b=none∧w.heap[b]?=some o:=fun b o e1 e2=>⟨mv_none.2 e1,e2⟩
 refine⟨⟨h.keep,fun b x e=>?_,fun k'=>?_,fun k' hk'=>?_,fun b k' q e=>?_,fun b hb=>?_,?_⟩,⟨fun b=>mv_none.2,fun b q e=>mv_other e (.inl (Ne.symm hkn))⟩,fun k'=>?_,?_,fun v hv=>?_⟩
 ·rcases mv_some e with e|⟨r,e,e2⟩
  ·exact h.dom b x e
  ·exact h.dom b _ e
 ·by_cases e:k'=k
  ·subst e
   rw[hHk]
   have:=Ow.cut (n:=n) (q0:=q0) p _ _ _ hok (h.obj k')
   simpa [OB.cut] using this
  ·rw[hHo k' e]
   exact Ow.mono h0 _ _ _ _ (fun b o q e1 e2=>⟨mv_other e1 (.inl e),e2⟩) (h.obj k')
 ·have e:k'≠k:=by
   rintro rfl
   rw[h.dead k' hk'] at hok
   exact dead_okp hok
  rw[hHo k' e]
  exact h.dead k' hk'
 ·rcases mv_some e with e|⟨r,e,e2⟩
  ·exact h.owned b k' q e
  ·cases e2;exact hA
 ·exact mv_other (h.frn b hb) (.inl (Ne.symm hk0))
 ·exact⟨by rw[hHo 0 (Ne.symm hk0)];exact h.frn0.1,h.frn0.2⟩
 ·by_cases e:k'=k
  ·subst e
   refine⟨by rw[hHk];exact vle.refl _,fun q vs hv hl=>?_⟩
   rw[hHk] at hl ⊢
   obtain⟨g1,g2,g3⟩:=cut_spec q p _ hl.1
   exact⟨⟨g1,hl.2⟩,g2,fun v e=>g3 w _ v e⟩
  ·exact Over.same (h.obj k') (hHo k' e) rfl (fun b o q _ e2=>e2)
 ·rw[hHo n (Ne.symm hkn)];exact hn
 ·obtain⟨v',e1,e2⟩:=Ow.hdr p _ _ _ hok (h.obj k)
  rw[hv] at e1
  cases e1
  exact Ow.mono h0 _ _ _ _ (fun b o q e1 e2=>⟨mv_at (by simpa using e1),e2⟩) (by simpa using e2)
theorem gather1 (h:WRf w0 E F A H w own rt) (hn:H n=.dead) (hA:A n) {s:SV} {v:Value} (hs:(sto1 H s).ok) (hr:RelS w own rt H s v) (q0:Path):
 ∃own' y,(sto1 H s).cs=[y]∧WRf w0 E F A (updH H (sto1 H s).hu) w own' rt∧Ow w own' n y q0 v∧v.oneCell'=true∧v.cells=#[v]∧Mvd own own' n∧
  (∀k,Over w own rt H w own' rt (updH H (sto1 H s).hu) k)∧updH H (sto1 H s).hu n=.dead:=by
 cases s with
 |av a=>
  have h1:=one_cell h (s:=.av a) hs hr
  exact⟨own,a.ro,rfl,h,Rd.ow hr,h1.1,h1.2,Mvd.refl _ _,fun k=>Over.refl,hn⟩
 |own k p vs=>
  have hl:(H k).live p vs:=hs
  have h1:=one_cell h (s:=.own k p vs) hs hr
  obtain⟨g1,g2,g3,g4,g5⟩:=h.cut hn hA hl.1 q0
  exact⟨_,_,rfl,g1,g5 v (hr.2 hl),h1.1,h1.2,g2,g3,g4⟩
 |_=>exact hs.elim
theorem gatherL (hA:A n) (pos:Nat→Path):∀(l:List SV) (H:Nat→OB) (own:Own) (vs:List Value),WRf w0 E F A H w own rt→H n=.dead→(stoL H l).ok→vs.length=l.length→
 (∀(j:Nat) (s:SV),l[j]?=some s→∃x,vs[j]?=some x∧RelS w own rt H s x)→∀c0, 
 ∃own',(stoL H l).cs.length=l.length∧WRf w0 E F A (updH H (stoL H l).hu) w own' rt∧(∀(j:Nat) (y:AV),(stoL H l).cs[j]?=some y→∃x,vs[j]?=some x∧Ow w own' n y (pos (c0+j)) x)∧
  (∀x∈vs,x.oneCell'=true)∧Mvd own own' n∧(∀k,Over w own rt H w own' rt (updH H (stoL H l).hu) k)∧updH H (stoL H l).hu n=.dead
 |[],H,own,vs,h,hn,_,hlen,hr,c0=>by
  have:vs=[]:=by simpa using hlen
  subst this
  exact⟨own,rfl,h,fun j y hj=>by simp[stoL] at hj,(fun x hx=>by cases hx),Mvd.refl _ _,fun k=>Over.refl,hn⟩
 |s::l,H,own,vs,h,hn,hok,hlen,hr,c0=>by
  cases vs with
  |nil=>simp at hlen
  |cons v vs=>
   obtain⟨v',hv',hsv⟩:=hr 0 s rfl
   simp only[List.getElem?_cons_zero,Option.some.injEq] at hv'
   subst hv'
   obtain⟨own1,y,e1,g1,g2,g3,g4,g5,g6,g7⟩:=gather1 h hn hA hok.1 hsv (pos c0)
   have hrest:=gatherL hA pos l (updH H (sto1 H s).hu) own1 vs g1 g7 hok.2 (by simpa using hlen) (fun j s' hj=>by
    obtain⟨x,f1,f2⟩:=hr (j+1) s' (by simpa using hj)
    exact⟨x,by simpa using f1,RelS.over (fun b o z1 z2=>⟨g5.none b z1,z2⟩) (fun k _=>g6 k) f2⟩) (c0+1)
   obtain⟨own2,k1,k2,k3,k4,k5,k6,k7⟩:=hrest
   have hcs:(stoL H (s::l)).cs=y::(stoL (updH H (sto1 H s).hu) l).cs:=by
    show (sto1 H s).cs++_=_
    rw[e1];rfl
   have hhu:updH H (stoL H (s::l)).hu=updH (updH H (sto1 H s).hu) (stoL (updH H (sto1 H s).hu) l).hu:=by
    rw[←updH_append];rfl
   refine⟨own2,by rw[hcs];simp[k1],by rw[hhu];exact k2,fun j y' hj=>?_,fun x hx=>?_,g5.trans k5,fun k=>by rw[hhu];exact(g6 k).trans (k6 k),by rw[hhu];exact k7⟩
   ·rw[hcs] at hj
    cases j with
    |zero=>
     simp only[List.getElem?_cons_zero,Option.some.injEq] at hj
     subst hj
     exact⟨v,rfl,Ow.mono (fun b o z1 z2=>⟨k5.none b z1,z2⟩) _ _ _ _ (fun b o q z1 z2=>⟨k5.stay b _ z1,z2⟩) g2⟩
    |succ j=>
     obtain⟨x,f1,f2⟩:=k3 j y' (by simpa using hj)
     exact⟨x,by simpa using f1,by rw[show c0+(j+1)=c0+1+j by omega];exact f2⟩
   ·rcases List.mem_cons.1 hx with rfl|hx
    ·exact g3
    ·exact k4 x hx
theorem gatherT (h:WRf w0 E F A H w own rt) (hn:H n=.dead) (hA:A n) (pos:Nat→Path) {t:TV} {v:Value} (hok:(sto H t).ok) (hr:RelT w own rt H t v):
 ∃own',v.cells.size=(sto H t).cs.length∧WRf w0 E F A (updH H (sto H t).hu) w own' rt∧(∀(j:Nat) (y:AV),(sto H t).cs[j]?=some y→∃x,v.cells[j]?=some x∧Ow w own' n y (pos j) x)∧
  (∀x∈v.cells.toList,x.oneCell'=true)∧Mvd own own' n∧(∀k,Over w own rt H w own' rt (updH H (sto H t).hu) k)∧updH H (sto H t).hu n=.dead:=by
 cases t with
 |one s=>
  obtain⟨own1,y,e1,g1,g2,g3,g4,g5,g6,g7⟩:=gather1 h hn hA hok hr (pos 0)
  refine⟨own1,by rw[g4];show _=(sto1 H s).cs.length;rw[e1];rfl,g1,fun j y' hj=>?_,fun x hx=>by rw[g4] at hx;simp at hx;rw[hx];exact g3,g5,g6,g7⟩
  have hj':(sto1 H s).cs[j]?=some y':=hj
  rw[e1] at hj'
  cases j with
  |zero=>simp at hj';subst hj';exact⟨v,by rw[g4];rfl,g2⟩
  |succ j=>simp at hj'
 |agg l=>
  obtain⟨cs,rfl,hl1,hl2⟩:=hr
  obtain⟨own',k1,k2,k3,k4,k5,k6,k7⟩:=gatherL hA pos l H own cs.toList h hn hok (by simpa using hl1) (fun j s hj=>by
   obtain⟨x,f1,f2⟩:=hl2 j s hj
   exact⟨x,by simpa using f1,f2⟩) 0
  exact⟨own',by show cs.size=_;rw[hl1];exact k1.symm,k2,fun j y hj=>by
   obtain⟨x,f1,f2⟩:=k3 j y hj
   exact⟨x,by show cs[j]?=_;simpa using f1,by simpa using f2⟩,k4,k5,k6,k7⟩
 |_=>exact hok.elim
theorem gatherP (hA:A n):∀(parts:List (Nat×Operand)) (i0:Nat) (H:Nat→OB) (own:Own),WRf w0 E F A H w own rt→H n=.dead→(∀x∈parts,RelT w own rt H (opd T x.2) (a.eval x.2))→
 (stoParts H (opd T) parts).1.ok→ 
 ∃own',(stoParts H (opd T) parts).2.length=parts.length∧WRf w0 E F A (updH H (stoParts H (opd T) parts).1.hu) w own' rt∧
  (∀(i:Nat) (l:List AV),(stoParts H (opd T) parts).2[i]?=some l→∃x,parts[i]?=some x∧(a.eval x.2).cells.size=l.length∧∀(j:Nat) (y:AV),l[j]?=some y→∃z,(a.eval x.2).cells[j]?=some z∧Ow w own' n y [(i0+i,j)] z)∧
  Mvd own own' n∧(∀k,Over w own rt H w own' rt (updH H (stoParts H (opd T) parts).1.hu) k)∧updH H (stoParts H (opd T) parts).1.hu n=.dead
 |[],i0,H,own,h,hn,_,_=>⟨own,rfl,h,fun i l hl=>by simp[stoParts] at hl,Mvd.refl _ _,fun k=>Over.refl,hn⟩
 |x::r,i0,H,own,h,hn,hr,hok=>by
  obtain⟨ix,x⟩:=x
  obtain⟨own1,g1,g2,g3,g4,g5,g6,g7⟩:=gatherT h hn hA (fun j=>[(i0,j)]) hok.1 (hr (ix,x) (by simp))
  obtain⟨own2,k1,k2,k3,k5,k6,k7⟩:=gatherP hA r (i0+1) (updH H (sto H (opd T x)).hu) own1 g2 g7 (fun y hy=>RelT.over (fun b o z1 z2=>⟨g5.none b z1,z2⟩) (fun k _=>g6 k) (hr y (by simp[hy]))) hok.2
  have hhu:updH H (stoParts H (opd T) ((ix,x)::r)).1.hu=updH (updH H (sto H (opd T x)).hu) (stoParts (updH H (sto H (opd T x)).hu) (opd T) r).1.hu:=by
   rw[←updH_append];rfl
  have hl2:(stoParts H (opd T) ((ix,x)::r)).2=(sto H (opd T x)).cs::(stoParts (updH H (sto H (opd T x)).hu) (opd T) r).2:=rfl
  refine⟨own2,by rw[hl2];simp[k1],by rw[hhu];exact k2,fun i l hl=>?_,g5.trans k5,fun k=>by rw[hhu];exact(g6 k).trans (k6 k),by rw[hhu];exact k7⟩
  rw[hl2] at hl
  cases i with
  |zero=>
   simp only[List.getElem?_cons_zero,Option.some.injEq] at hl
   subst hl
   refine⟨_,rfl,g1,fun j y hj=>?_⟩
   obtain⟨z,f1,f2⟩:=g3 j y hj
   exact⟨z,f1,Ow.mono (fun b o z1 z2=>⟨k5.none b z1,z2⟩) _ _ _ _ (fun b o q z1 z2=>⟨k5.stay b _ z1,z2⟩) f2⟩
  |succ i=>
   obtain⟨y,f1,f2,f3⟩:=k3 i l (by simpa using hl)
   exact⟨y,by simpa using f1,f2,fun j z hj=>by rw[show i0+(i+1)=i0+1+i by omega];exact f3 j z hj⟩
end
end Go.AM
/- The framework AM,part 9:new objects. -/
namespace Go.AM
open Go
section
variable {N:Nat} {w0:World} {E A:Nat→Prop} {F:Frm} {T:Nat→TV} {H:Nat→OB} {a:Act} {w:World} {own:Own} {rt:Rt} {P:Program} {o:Oper} {n:Nat}
def Did (P:Program) (o:Oper) (N:Nat) (w0:World) (E:Nat→Prop) (F:Frm) (A':Nat→Prop) (T':Nat→TV) (H':Nat→OB) (a:Act) (w:World):Prop:=
 ∃v w' own' rt',((execOp a.eval o).run P w=.ok (.value v) w'∨((execOp a.eval o).run P w=.ok .skip w'∧v=undef))∧SRf N w0 E F A' T' H' (a.put o.dst v) w' own' rt'
theorem Pure1.did {t:TV} (h:SRf N w0 E F A T H a w own rt) (hd:∀s,o.dst=some s→s<N) (hp:Pure1 P o a w own rt H t) (hm:∀k,t.mn k→A k):Did P o N w0 E F A (updT T o.dst t) H a w:=by
 obtain⟨v,h1,h2,_⟩:=hp
 exact⟨v,w,own,rt,.inl h1,h.put hd h2 hm⟩
theorem WRf.more (h:WRf w0 E F A H w own rt) (n:Nat):WRf w0 E F (fun k=>A k∨k=n) H w own rt:=
 ⟨h.keep,h.dom,h.obj,fun k hk=>h.dead k (fun e=>hk (.inl e)),fun b k q e=>.inl (h.owned b k q e),h.frn,h.frn0.1,.inl h.frn0.2⟩
theorem SRf.over (h:SRf N w0 E F A T H a w own rt) {A':Nat→Prop} {H':Nat→OB} {w':World} {own':Own} {rt':Rt} (hw:WRf w0 E F A' H' w' own' rt')
 (h0:∀b o,own b=none→w.heap[b]?=some o→own' b=none∧w'.heap[b]?=some o) (hov:∀k,A k→Over w own rt H w' own' rt' H' k) (hA:∀k,A k→A' k)
 {d:Option Tmp} (hd:∀s,d=some s→s<N) {t:TV} {v:Value} (hr:RelT w' own' rt' H' t v) (hm:∀k,t.mn k→A' k):
 SRf N w0 E F A' (updT T d t) H' (a.put d v) w' own' rt':=by
 have h2:SRf N w0 E F A' T H' a w' own' rt':=⟨hw,h.defers,h.size,fun s=>RelT.over h0 (fun k hk=>hov k (h.men s k hk)) (h.tmp s),fun s k hk=>hA k (h.men s k hk),fun k v e=>⟨hA k (h.frz k v e).1,RelT.over h0 (fun k' hk'=>by obtain rfl:k=k':=hk';exact hov k (h.frz k v e).1) (h.frz k v e).2⟩⟩
 exact h2.put hd hr hm
theorem WRf.fresh (h:WRf w0 E F A H w own rt) (hn:H n=.dead) (hA:A n) (n0:n≠0) {w':World} {cs:Array Value} {e:TypeId} (hheap:w'.heap=w.heap.push (.cells cs e)) (hos:w'.os=w.os) (htp:w'.tape=w.tape) (hout:w'.output=w.output)
 {nl:Option Bool} {es m cap:Nat} {f:Nat→Nat→AV} (hm:m≤cap) (hcap:cap≤maxLen) (hcs:cs.size=cap*es) (hnl:nl≠some true)
 (hel:∀i,i<m→∀j,j<es→∃x,cs[i*es+j]?=some x∧Ow w own n (f i j) [(i,j)] x):
 WRf w0 E F A (updH H [(n,⟨.sl true nl es m f,[]⟩)]) w' (fun b=>if b=w.heap.size then some (n,[]) else own b) (fun k=>if k=n then .slice (some ⟨w.heap.size,0,none⟩) m cap else rt k)∧
 (∀b o,own b=none→w.heap[b]?=some o→(fun b=>if b=w.heap.size then some (n,[]) else own b) b=none∧w'.heap[b]?=some o)∧
 (∀k,k≠n→Over w own rt H w' (fun b=>if b=w.heap.size then some (n,[]) else own b) (fun k=>if k=n then .slice (some ⟨w.heap.size,0,none⟩) m cap else rt k) (updH H [(n,⟨.sl true nl es m f,[]⟩)]) k):=by
 have hold:∀(b:Nat) (o:Obj),w.heap[b]?=some o→b≠w.heap.size∧w'.heap[b]?=some o:=fun b o e=>by
  have hlt:=(Array.getElem?_eq_some_iff.1 e).1
  refine⟨by omega,?_⟩
  rw[hheap,Array.getElem?_push,if_neg (by omega)]
  exact e
 have hHn:updH H [(n,⟨.sl true nl es m f,[]⟩)] n=⟨.sl true nl es m f,[]⟩:=by simp[updH,lk]
 have hHo:∀k,k≠n→updH H [(n,⟨.sl true nl es m f,[]⟩)] k=H k:=fun k e=>by simp[updH,lk,Ne.symm e]
 have h0:∀b o,own b=none→w.heap[b]?=some o→(fun b=>if b=w.heap.size then some (n,[]) else own b) b=none∧w'.heap[b]?=some o:=fun b o e1 e2=>by
  obtain⟨g1,g2⟩:=hold b o e2
  exact⟨by dsimp only;rw[if_neg g1];exact e1,g2⟩
 have ho:∀b o k q,own b=some (k,q)→w.heap[b]?=some o→(fun b=>if b=w.heap.size then some (n,[]) else own b) b=some (k,q)∧w'.heap[b]?=some o:=fun b o k q e1 e2=>by
  obtain⟨g1,g2⟩:=hold b o e2
  exact⟨by dsimp only;rw[if_neg g1];exact e1,g2⟩
 have hsz:w'.heap.size=w.heap.size+1:=by rw[hheap];simp
 refine⟨⟨⟨hos.trans h.keep.os,htp.trans h.keep.tape,hout.trans h.keep.output,by have:=h.keep.size;omega,fun b hb he=>?_⟩,fun b x e=>?_,fun k=>?_,fun k hk=>?_,fun b k q e=>?_,fun b hb=>?_,?_⟩,h0,fun k hk=>?_⟩
 ·rw[hheap,Array.getElem?_push,if_neg (by have:=h.keep.size;omega)]
  exact h.keep.block b hb he
 ·try dsimp only at e
  split at e
  ·rename_i eb
   subst eb
   exact⟨by omega,.inl h.keep.size⟩
  ·have:=h.dom b x e
   exact⟨by omega,this.2⟩
 ·by_cases ek:k=n
  ·subst ek
   rw[hHn]
   try dsimp only
   rw[if_pos rfl]
   refine .inr ⟨w.heap.size,cap,cs,e,rfl,hnl,if_pos rfl,by rw[hheap];simp,hm,hcap,hcs,fun i hi j hj=>?_⟩
   obtain⟨x,f1,f2⟩:=hel i hi j hj
   exact⟨x,f1,Ow.mono h0 _ _ _ _ (fun b o q e1 e2=>ho b o _ _ e1 e2) f2⟩
  ·rw[hHo k ek]
   try dsimp only
   rw[if_neg ek]
   exact Ow.mono h0 _ _ _ _ (fun b o q e1 e2=>ho b o _ _ e1 e2) (h.obj k)
 ·have ek:k≠n:=fun e=>hk (e▸hA)
  rw[hHo k ek]
  exact h.dead k hk
 ·try dsimp only at e
  split at e
  ·cases e;exact hA
  ·exact h.owned b k q e
 ·have:=h.frn b hb
  have h2:=(h.dom b _ this).1
  try dsimp only
  rw[if_neg (by omega)]
  exact this
 ·exact⟨by rw[hHo 0 (Ne.symm n0)];exact h.frn0.1,h.frn0.2⟩
 ·exact Over.same (h.obj k) (hHo k hk) (if_neg hk) (fun b o q e1 e2=>(hold b o e2).2)
theorem nbeq {x:Nat} (h:Nat.beq x 0=false):x≠0:=by rintro rfl;cases h
theorem tk_zero {t:TypeId} (h:Nat.beq (tk P t).sz 0=false) (hz:(tk P t).z.length=(tk P t).sz):
 ∃i z,P.info? t=some i∧i.zero=some z∧z.cells.size=(tk P t).sz∧(tk P t).z=z.cells.toList.map ofV∧i.size=(tk P t).sz∧i.bytes=(tk P t).by_:=by
 have h':=nbeq h
 rcases tk_cases P t with ⟨d,i,g1,g2,g3⟩|g3
 ·cases hzz:i.zero with
  |none=>
   exfalso
   have:(tk P t).z=[]:=by rw[g3];simp[zOf,hzz]
   rw[this] at hz
   exact h' hz.symm
  |some z=>
   have e:(tk P t).z=z.cells.toList.map ofV:=by rw[g3];simp[zOf,hzz]
   exact⟨i,z,g2,hzz,by rw[←hz,e];simp,e,by rw[g3],by rw[g3]⟩
 ·rw[g3] at h';exact absurd rfl h'
theorem ofV_ro (v:Value):(ofV v).ro=ofV v:=by
 cases v<;>try rfl
 case int k n=>simp only[ofV];split<;>rfl
 case slice a n cap=>
  rcases a with _|a
  ·rcases n with _|n
   ·rcases cap with _|cap<;>rfl
   ·rfl
  ·rfl
theorem ofV_ow (w:World) (own:Own) (r:Root) (p:Path) (v:Value):Ow w own r (ofV v) p v:=by
 have:=Rd.ow (r:=r) (p:=p) (ofV_rel (w:=w) own v)
 rw[ofV_ro] at this
 exact this
theorem z_ow (w:World) (own:Own) (r:Root) {p:Path} {z:Array Value} {l:List AV} (hl:l=z.toList.map ofV) {j:Nat} (hj:j<z.size):∃x,z[j]?=some x∧Ow w own r (gl .junk l j) p x:=by
 refine⟨z[j],by simp[hj],?_⟩
 rw[gl_eq,hl]
 simp only[List.getD,List.getElem?_map,Array.getElem?_toList,Array.getElem?_eq_getElem hj,Option.map_some,Option.getD_some]
 exact ofV_ow _ _ _ _ _
theorem updH_self (H:Nat→OB) (n:Nat) (o:OB) (l:List (Nat×OB)):updH H ((n,o)::l) n=o:=by simp[updH,lk]
theorem vle0:vle [0] []:=fun d=>by cases d<;>simp[gl]
theorem new_ref {w':World} {own':Own} {rt':Rt} {H':Nat→OB} {es b:Nat} {f:Nat→Nat→AV} {nl:Option Bool} (hH:H' n=⟨.sl true nl es 1 f,[]⟩) (hrt:rt' n=.slice (some ⟨b,0,none⟩) 1 1):
 RelT w' own' rt' H' (.one (.ref n [] [0] 0 0)) (.pointer (some ⟨b,0,none⟩)):=by
 refine⟨⟨by rw[hH];exact vle0,_,_,rfl⟩,fun _=>⟨b,1,1,by rw[hrt,hH];rfl,by rw[Nat.zero_mul]⟩⟩
theorem new_own {w':World} {own':Own} {rt':Rt} {H':Nat→OB} {es m:Nat} {f:Nat→Nat→AV} {nl:Option Bool} {v:Value} (hH:H' n=⟨.sl true nl es m f,[]⟩) (hrt:rt' n=v):
 RelT w' own' rt' H' (.one (.own n [] [0])) v:=
 ⟨by rw[hH];exact vle0,fun _=>by rw[hrt,hH];rfl⟩
theorem not_zero (h:WRf w0 E F A H w own rt) (hn:¬A n):n≠0:=fun e=>hn (e▸h.frn0.2)
theorem did_alloc {t:TypeId} (h:SRf N w0 E F A T H a w own rt) (hd:∀s,o.dst=some s→s<N) (hn:¬A n) (ho:o.op=.alloc t) (hok:(aop P o.op (opd T) H n).ok):
 Did P o N w0 E F (fun k=>A k∨k=n) (updT T o.dst (aop P o.op (opd T) H n).v) (updH H (aop P o.op (opd T) H n).hu) a w:=by
 rw[ho] at hok ⊢
 simp only[aop] at hok ⊢
 obtain⟨i,z,g1,g2,g3,g4,g5,_⟩:=tk_zero hok.1 hok.2
 have hH:=h.dead n hn
 obtain⟨f1,f2,f3⟩:=(h.toWRf.more n).fresh (n:=n) hH (.inr rfl) (not_zero h.toWRf hn) (w':=w.alloc (.cells z.cells t)) (cs:=z.cells) (e:=t) rfl rfl rfl rfl (nl:=none) (es:=(tk P t).sz) (m:=1) (cap:=1)
  (f:=fun _ j=>gl .junk (tk P t).z j) (Nat.le_refl _) (by simp[maxLen]) (by rw[Nat.one_mul];exact g3) (by simp) (fun i hi j hj=>by
   rw[show i=0 by omega,Nat.zero_mul,Nat.zero_add]
   exact z_ow w own n g4 (by omega))
 refine⟨_,_,_,_,.inl ?_,h.over f1 f2 (fun k hk=>f3 k (fun e=>hn (e▸hk))) (fun k hk=>.inl hk) hd (v:=.pointer (some ⟨w.heap.size,0,none⟩)) (t:=.one (.ref n [] [0] 0 0)) (new_ref (updH_self _ _ _ _) (if_pos rfl)) (fun k hk=>.inr hk.symm)⟩
 simp[execOp,ho,Instr.alloc,zeroValue,typeInfo,g1,g2,newVar,newRow]
theorem did_box {t:TypeId} {x:Operand} (h:SRf N w0 E F A T H a w own rt) (hd:∀s,o.dst=some s→s<N) (hn:¬A n) (ho:o.op=.box t x) (hok:(aop P o.op (opd T) H n).ok):
 Did P o N w0 E F (fun k=>A k∨k=n) (updT T o.dst (aop P o.op (opd T) H n).v) (updH H (aop P o.op (opd T) H n).hu) a w:=by
 rw[ho] at hok ⊢
 simp only[aop] at hok ⊢
 have hH:=h.dead n hn
 obtain⟨own1,g1,g2,g3,g4,g5,g6,g7⟩:=gatherT (h.toWRf.more n) hH (.inr rfl) (fun c=>[(0,c)]) hok.1 (opd_rel h x)
 obtain⟨f1,f2,f3⟩:=g2.fresh (n:=n) g7 (.inr rfl) (not_zero h.toWRf hn) (w':=w.alloc (.cells (a.eval x).cells t)) (cs:=(a.eval x).cells) (e:=t) rfl rfl rfl rfl (nl:=none) (es:=(tk P t).sz) (m:=1) (cap:=1)
  (f:=fun _ j=>gl .junk (sto H (opd T x)).cs j) (Nat.le_refl _) (by simp[maxLen]) (by rw[Nat.one_mul,g1];exact hok.2) (by simp) (fun i hi j hj=>by
   rw[show i=0 by omega,Nat.zero_mul,Nat.zero_add]
   have:(sto H (opd T x)).cs[j]?=some (gl .junk (sto H (opd T x)).cs j):=by
    rw[gl_eq,List.getD,List.getElem?_eq_getElem (by omega)];rfl
   exact g3 j _ this)
 have hHeq:updH H ((n,⟨.sl true none (tk P t).sz 1 (fun _ j=>gl .junk (sto H (opd T x)).cs j),[]⟩)::(sto H (opd T x)).hu)=updH (updH H (sto H (opd T x)).hu) [(n,⟨.sl true none (tk P t).sz 1 (fun _ j=>gl .junk (sto H (opd T x)).cs j),[]⟩)]:=by
  rw[←updH_append];rfl
 rw[hHeq]
 refine⟨_,_,_,_,.inl ?_,h.over f1 (fun b o e1 e2=>f2 b o (g5.none b e1) e2) (fun k hk=>(g6 k).trans (f3 k (fun e=>hn (e▸hk)))) (fun k hk=>.inl hk) hd (v:=.pointer (some ⟨w.heap.size,0,none⟩)) (t:=.one (.ref n [] [0] 0 0)) (new_ref (updH_self _ _ _ _) (if_pos rfl)) (fun k hk=>.inr hk.symm)⟩
 simp[execOp,ho,Instr.box,newVar,newRow]
theorem made_get {z:Array Value} {k i es j:Nat} (hz:z.size=es) (hj:j<es) (h:i*es+j<k):(madeCells z k)[i*es+j]?=some (z[j]'(by omega)):=by
 subst hz
 have hm:(i*z.size+j) % z.size=j:=by
  rw[Nat.mul_comm,Nat.mul_add_mod];exact Nat.mod_eq_of_lt hj
 simp only[madeCells,Array.getElem?_map,Array.getElem?_range,if_pos h,Option.map_some,hm]
 simp[getElem!_pos,hj]
theorem did_makeSlice {t:TypeId} {x y:Operand} (h:SRf N w0 E F A T H a w own rt) (hd:∀s,o.dst=some s→s<N) (hn:¬A n) (ho:o.op=.makeSlice t x y) (hok:(aop P o.op (opd T) H n).ok):
 Did P o N w0 E F (fun k=>A k∨k=n) (updT T o.dst (aop P o.op (opd T) H n).v) (updH H (aop P o.op (opd T) H n).hu) a w:=by
 rw[ho] at hok ⊢
 simp only[aop] at hok ⊢
 have hH:=h.dead n hn
 have hx:=opd_rel h x
 have hy:=opd_rel h y
 generalize opd T x=tx at *
 generalize opd T y=ty at *
 split at hok
 ·rename_i e p q hel
  obtain⟨rfl,h0,hb,hz1,hz2⟩:=hok
  obtain⟨i,z,g1,g2,g3,g4,g5,g6⟩:=tk_zero hz1 hz2
  have hxv:a.eval x=_:=hx.1
  have hyv:a.eval y=_:=hy.1
  have hmax:p≤9223372036854775807:=by
   have:=hx.2.2
   simpa [IntKind.max,IntKind.signed,IntKind.bits] using this
  obtain⟨f1,f2,f3⟩:=(h.toWRf.more n).fresh (n:=n) hH (.inr rfl) (not_zero h.toWRf hn) (w':=w.alloc (.cells (madeCells z.cells (p.toNat *i.size)) e)) (cs:=madeCells z.cells (p.toNat *i.size)) (e:=e) rfl rfl rfl rfl (nl:=some false) (es:=(tk P e).sz) (m:=p.toNat) (cap:=p.toNat)
   (f:=fun _ j=>gl .junk (tk P e).z j) (Nat.le_refl _) (by simp only[maxLen];omega) (by rw[size_madeCells,g5]) (by simp) (fun k hk j hj=>by
    obtain⟨x,k1,k2⟩:=z_ow w own n (p:=[(k,j)]) g4 (j:=j) (by omega)
    have hjz:j<z.cells.size:=by omega
    rw[Array.getElem?_eq_getElem hjz] at k1
    cases k1
    exact⟨_,by rw[g5];exact made_get g3 hj (idx_lt hk hj),k2⟩)
  refine⟨_,_,_,_,.inl ?_,h.over f1 f2 (fun k hk=>f3 k (fun e=>hn (e▸hk))) (fun k hk=>.inl hk) hd (v:=.slice (some ⟨w.heap.size,0,none⟩) p.toNat p.toNat) (t:=.one (.own n [] [0])) (new_own (updH_self _ _ _ _) (if_pos rfl)) (fun k hk=>.inr hk.symm)⟩
  simp only[execOp,ho,hxv,hyv,Sem.run_bind]
  rw[run_make w t e i z (tk_el hel) g1 g2 _ _ p p h0 (Int.le_refl _) (by rw[g6,Int.mul_comm];exact hb) hmax]
  rfl
 ·exact hok.elim
end
end Go.AM
