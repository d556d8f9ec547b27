/- The framework AM,part 10:slices built and appended to. -/
import Derived.Test.YtpbahibieegbgaaGreatAm1
import Derived.Deep.Upon
namespace Go.AM
open Go
section
variable {N:Nat} {w0:World} {E A:Nat→Prop} {F:Frm} {T:Nat→TV} {H:Nat→OB} {a:Act} {w:World} {own:Own} {rt:Rt} {P:Program} {o:Oper} {n:Nat}
theorem fill_rows {es:Nat}:∀(parts:List (Nat×Operand)) (i0:Nat) (cs:Array Value),inOrder i0 parts=true→(∀x∈parts,(a.eval x.2).cells.size=es)→(i0+parts.length)*es≤cs.size→
 ∃cs',Instr.fill (fun i=>some (i*es,es)) cs (parts.map fun x=>(x.1,a.eval x.2))=some cs'∧cs'.size=cs.size∧
  (∀(i:Nat) (x:Nat×Operand),parts[i]?=some x→∀j,j<es→cs'[(i0+i)*es+j]?=(a.eval x.2).cells[j]?)∧(∀k,k<i0*es→cs'[k]?=cs[k]?)
 |[],i0,cs,_,_,_=>⟨cs,rfl,rfl,fun i x hx=>by simp at hx,fun k _=>rfl⟩
 |(i,x)::r,i0,cs,hin,hsz,hfit=>by
  simp only[inOrder,Bool.and_eq_true,Nat.beq_eq] at hin
  obtain⟨rfl,hin⟩:=hin
  have hx:=hsz (i,x) (by simp)
  simp only at hx
  have e:(a.eval x).cells.zipIdx.foldl (fun cs (y:Value×Nat)=>cs.setIfInBounds (i*es+y.2) y.1) cs=((a.eval x).cells.toList.zipIdx 0).foldl (fun cs (y:Value×Nat)=>cs.setIfInBounds (i*es+y.2) y.1) cs:=by
   rw[←Array.foldl_toList,Array.toList_zipIdx]
  have hfit1:i*es+es≤cs.size:=by
   have:(i+1)*es≤(i+((i,x)::r).length)*es:=Nat.mul_le_mul_right _ (by simp)
   rw[Nat.add_mul,Nat.one_mul] at this
   omega
  have hlen:(a.eval x).cells.toList.length=es:=by simpa using hx
  obtain⟨cs',k1,k2,k3,k4⟩:=fill_rows (es:=es) r (i+1) ((a.eval x).cells.zipIdx.foldl (fun cs (y:Value×Nat)=>cs.setIfInBounds (i*es+y.2) y.1) cs) hin (fun y hy=>hsz y (by simp[hy])) (by
   rw[e,fold_size]
   simp only[List.length_cons] at hfit
   rw[show i+1+r.length=i+(r.length+1) by omega]
   exact hfit)
  refine⟨cs',?_,?_,fun i' y hy j hj=>?_,fun k hk=>?_⟩
  ·simp only[List.map_cons,Instr.fill]
   rw[if_neg]
   ·exact k1
   ·simp[hx];omega
  ·rw[k2,e,fold_size]
  ·cases i' with
   |zero=>
    simp only[List.getElem?_cons_zero,Option.some.injEq] at hy
    subst hy
    rw[Nat.add_zero,k4 _ (by rw[Nat.add_mul,Nat.one_mul];omega),e,fold_get _ _ _ _ _ (by rw[hlen];omega),Nat.add_zero,if_pos (by rw[hlen];omega)]
    simp
   |succ i'=>
    have:=k3 i' y (by simpa using hy) j hj
    rw[show i+(i'+1)=i+1+i' by omega]
    exact this
  ·rw[k4 k (by rw[Nat.add_mul,Nat.one_mul];omega),e,fold_get _ _ _ _ _ (by rw[hlen];omega),if_neg (by simp only[Nat.add_zero];omega)]
theorem did_buildSlice {t:TypeId} {len:Nat} {parts:Array (Nat×Operand)} (h:SRf N w0 E F A T H a w own rt) (hd:∀s,o.dst=some s→s<N) (hn:¬A n) (ho:o.op=.buildSlice t len parts) (hok:(aop P o.op (opd T) H n).ok):
 Did P o N w0 E F (fun k=>A k∨k=n) (updT T o.dst (aop P o.op (opd T) H n).v) (updH H (aop P o.op (opd T) H n).hu) a w:=by
 rw[ho] at hok ⊢
 simp only[aop] at hok ⊢
 split at hok
 ·exact hok.elim
 ·rename_i e hel
  obtain⟨hs,hin,hlen,hrow,h24,hmax,hz1,hz2⟩:=hok
  have hH:=h.dead n hn
  obtain⟨i,z,y1,y2,y3,y4,y5,y6⟩:=tk_zero hz1 hz2
  obtain⟨own1,g1,g2,g3,g5,g6,g7⟩:=gatherP (a:=a) (T:=T) (n:=n) (.inr rfl) parts.toList 0 H own (h.toWRf.more n) hH (fun x _=>opd_rel h x.2) hs
  have hsz:∀x∈parts.toList,(a.eval x.2).cells.size=(tk P e).sz:=fun x hx=>by
   obtain⟨k,hk⟩:=List.getElem?_of_mem hx
   have hk':k<(stoParts H (opd T) parts.toList).2.length:=by rw[g1];exact(List.getElem?_eq_some_iff.1 hk).1
   obtain⟨x',f1,f2,_⟩:=g3 k _ (List.getElem?_eq_getElem hk')
   rw[hk] at f1
   cases f1
   rw[f2]
   exact hrow _ (List.getElem_mem hk')
  obtain⟨cs',k1,k2,k3,_⟩:=fill_rows (a:=a) parts.toList 0 (madeCells z.cells (len*i.size)) hin hsz (by rw[size_madeCells,Nat.zero_add,hlen,y5];exact Nat.le_refl _)
  rw[size_madeCells,y5] at k2
  obtain⟨f1,f2,f3⟩:=g2.fresh (n:=n) g7 (.inr rfl) (not_zero h.toWRf hn) (w':=w.alloc (.cells cs' e)) (cs:=cs') (e:=e) rfl rfl rfl rfl (nl:=some false) (es:=(tk P e).sz) (m:=len) (cap:=len)
   (f:=rowsF (stoParts H (opd T) parts.toList).2) (Nat.le_refl _) hmax k2 (by simp) (fun k hk j hj=>by
    have hk':k<(stoParts H (opd T) parts.toList).2.length:=by rw[g1,hlen];exact hk
    obtain⟨x,q1,q2,q3⟩:=g3 k _ (List.getElem?_eq_getElem hk')
    have hl:=hrow _ (List.getElem_mem hk')
    obtain⟨u,u1,u2⟩:=q3 j _ (List.getElem?_eq_getElem (by rw[hl];exact hj))
    refine⟨u,?_,?_⟩
    ·have:=k3 k x q1 j hj
     rw[Nat.zero_add] at this
     rw[this];exact u1
    ·have:rowsF (stoParts H (opd T) parts.toList).2 k j=(stoParts H (opd T) parts.toList).2[k][j]'(by rw[hl];exact hj):=by
      simp only[rowsF,gl_eq,List.getD,List.getElem?_eq_getElem hk',Option.getD_some]
      rw[List.getElem?_eq_getElem (by rw[hl];exact hj)]
      rfl
     rw[this]
     simpa using u2)
  have hHeq:∀x:OB,updH H ((n,x)::(stoParts H (opd T) parts.toList).1.hu)=updH (updH H (stoParts H (opd T) parts.toList).1.hu) [(n,x)]:=fun x=>by
   rw[←updH_append];rfl
  rw[hHeq]
  refine⟨_,_,_,_,.inl ?_,h.over f1 (fun b o e1 e2=>f2 b o (g5.none b e1) e2) (fun k hk=>(g6 k).trans (f3 k (fun e=>hn (e▸hk)))) (fun k hk=>.inl hk) hd (v:=.slice (some ⟨w.heap.size,0,none⟩) len len) (t:=.one (.own n [] [0])) (new_own (updH_self _ _ _ _) (if_pos rfl)) (fun k hk=>.inr hk.symm)⟩
  have hmap:(parts.map fun x=>(x.1,a.eval x.2)).toList=parts.toList.map fun x=>(x.1,a.eval x.2):=by simp
  have h24':¬len*i.size>2^24:=by rw[y5];omega
  by_cases h0:len*i.size=0
  ·have hm0:madeCells z.cells (len*i.size)=#[]:=by rw[h0];simp[madeCells]
   rw[hm0,←y5] at k1
   simp[execOp,ho,Instr.buildSlice,run_underlying (tk_el hel),sizeOf,typeInfo,y1,h0,newRow,Array.range_zero',k1]
  ·rw[←y5] at k1
   unfold madeCells at k1
   simp[execOp,ho,Instr.buildSlice,run_underlying (tk_el hel),sizeOf,typeInfo,zeroValue,y1,y2,h24',h0,newRow,k1]
end
end Go.AM
/- The framework AM,part 11:append. -/
namespace Go.AM
open Go
section
variable {N:Nat} {w0:World} {E A:Nat→Prop} {F:Frm} {T:Nat→TV} {H:Nat→OB} {a:Act} {w:World} {own:Own} {rt:Rt} {P:Program} {o:Oper} {n:Nat}
theorem append_room (t ty e:TypeId) (i:TypeInfo) (ht:P.underlying t=some (.slice e)) (hi:P.info? e=some i)
 (g sLen sCap:Nat) (cur:Array Value) (T:TypeId) (hg:w.heap[g]?=some (.cells cur T (0,0)))
 (a:Addr) (m c:Nat) (news:List Value) (hl:news.length=m*i.size) (hnews:∀j u,news[j]?=some u→w.cell? (a.add j)=some u) (h1:∀u∈news,u.oneCell'=true)
 (hroom:sLen+m≤sCap) (hfit:sLen*i.size+news.length≤cur.size):
 (Builtin.append_ #[t,t] ty #[.slice (some ⟨g,0,none⟩) sLen sCap,.slice (some a) m c]).run P w=
  .ok (.slice (some ⟨g,0,none⟩) (sLen+m) sCap) (w.setRow g (rowPut cur (sLen*i.size) news)):=by
 have hf:=run_firstCells_some (P:=P) w i.size m a m c news hl hnews
 have hst:=run_storeCells_at P g (sLen*i.size) T news 0 cur w hg (by simpa using hfit) h1
 simp only[Nat.add_zero] at hst
 simp[Builtin.append_,run_underlying ht,sizeOf,typeInfo,hi,Builtin.lenOf,hroom,hf,Addr.add_lit,hst,rowPut]
theorem append_none (t ty e:TypeId) (i:TypeInfo) (ht:P.underlying t=some (.slice e)) (hi:P.info? e=some i) (ad ad':Option Addr) (l cap c:Nat) (hle:l≤cap):
 (Builtin.append_ #[t,t] ty #[.slice ad l cap,.slice ad' 0 c]).run P w=.ok (.slice ad l cap) w:=by
 cases ad<;>cases ad'<;>simp[Builtin.append_,run_underlying ht,sizeOf,typeInfo,hi,Builtin.lenOf,hle,Builtin.firstCells,loadCells,loadCellsFrom,storeCells]
theorem append_any (t ty e:TypeId) (i:TypeInfo) (z:Value) (ht:P.underlying t=some (.slice e)) (hi:P.info? e=some i) (hz:i.zero=some z) (hzs:z.cells.size=i.size)
 {v:Value} {l:Nat} (row:(l=0∧∃ad,v=.slice ad 0 0)∨∃g cap cur T,v=.slice (some ⟨g,0,none⟩) l cap∧w.heap[g]?=some (.cells cur T (0,0))∧l≤cap∧cap≤maxLen∧cur.size=cap*i.size)
 {m:Nat} {x:Value} {news:List Value} (hl:news.length=m*i.size) (src:(m=0∧∃ad c,x=.slice ad 0 c)∨(0<m∧∃ad c,x=.slice (some ad) m c∧(∀j u,news[j]?=some u→w.cell? (ad.add j)=some u))) (h1:∀u∈news,u.oneCell'=true)
 (hb:(l+m)*i.bytes≤140737488355328) (hm:l+m≤maxLen):
 ∃v' w',(Builtin.append_ #[t,t] ty #[v,x]).run P w=.ok v' w'∧
  ((m=0∧v'=v∧w'=w)∨
   (∃g cap cur T,0<m∧v=.slice (some ⟨g,0,none⟩) l cap∧w.heap[g]?=some (.cells cur T (0,0))∧l+m≤cap∧cap≤maxLen∧cur.size=cap*i.size∧v'=.slice (some ⟨g,0,none⟩) (l+m) cap∧w'=w.setRow g (rowPut cur (l*i.size) news))∨
   (∃cap cells,v'=.slice (some ⟨w.heap.size,0,none⟩) (l+m) cap∧w'=w.drew.alloc (.cells cells e)∧l+m≤cap∧cap≤maxLen∧cells.size=cap*i.size∧
    (∀g c cur T,v=.slice (some ⟨g,0,none⟩) l c→w.heap[g]?=some (.cells cur T (0,0))→∀k,k<l*i.size→cells[k]?=cur[k]?)∧∀k,k<news.length→cells[l*i.size+k]?=news[k]?)):=by
 rcases src with ⟨rfl,ad,c,rfl⟩|⟨hm0,ad,c,rfl,hnews⟩
 ·rcases row with ⟨rfl,ad0,rfl⟩|⟨g,cap,cur,T,rfl,_,hlc,_⟩
  ·exact⟨_,_,append_none t ty e i ht hi ad0 ad 0 0 c (Nat.le_refl _),.inl ⟨rfl,rfl,rfl⟩⟩
  ·exact⟨_,_,append_none t ty e i ht hi _ ad l cap c hlc,.inl ⟨rfl,rfl,rfl⟩⟩
 ·have h63:l+m≤9223372036854775807:=by simp only[maxLen] at hm;omega
  rcases row with ⟨rfl,ad0,rfl⟩|⟨g,cap,cur,T,rfl,hg,hlc,hcap,hcs⟩
  ·cases ad0 with
   |none=>
    rw[Nat.zero_add] at hb hm h63
    refine⟨_,_,run_append_nil w t ty e i z ht hi hz ad m c news hl hnews hm0 (by omega) (by omega),.inr (.inr ⟨_,_,by rw[Nat.zero_add],rfl,by rw[Nat.zero_add];exact grownCap_ge _ _ _ _,grownCap_le_maxLen _ _ _ _ hm,?_,?_,?_⟩)⟩
    ·have:=grownCap_ge w m 0 e
     simp only[Array.size_append,List.size_toArray,size_zeroCells,hl,hzs,←Nat.add_mul]
     congr 1;omega
    ·intro g c cur T e';simp at e'
    ·intro k hk
     rw[Nat.zero_mul,Nat.zero_add,Array.getElem?_append_left (by simpa using hk)]
     simp
   |some a0=>
    refine⟨_,_,run_append_grow w t ty e i z ht hi hz a0 0 0 [] (by simp) (by simp) ad m c news hl hnews (by omega) (by omega) (growslice_fits (by omega) hb),.inr (.inr ⟨_,_,rfl,rfl,grownCap_ge _ _ _ _,grownCap_le_maxLen _ _ _ _ hm,?_,?_,?_⟩)⟩
    ·have:=grownCap_ge w m 0 e
     simp only[Array.size_append,List.size_toArray,size_zeroCells,hl,List.length_nil,hzs,Nat.zero_add,←Nat.add_mul]
     congr 1;omega
    ·intro g' c' cur' T' e' hg' k hk
     rw[Nat.zero_mul] at hk
     omega
    ·intro k hk
     rw[Array.append_assoc,Array.getElem?_append_right (by simp),Array.getElem?_append_left (by simpa using hk)]
     simp
  ·by_cases hroom:l+m≤cap
   ·have hfit:l*i.size+news.length≤cur.size:=by
     rw[hl,hcs,←Nat.add_mul];exact Nat.mul_le_mul_right _ hroom
    exact⟨_,_,append_room t ty e i ht hi g l cap cur T hg ad m c news hl hnews h1 hroom hfit,.inr (.inl ⟨g,cap,cur,T,hm0,rfl,hg,hroom,hcap,hcs,rfl,rfl⟩)⟩
   ·have hlo:(cur.toList.take (l*i.size)).length=l*i.size:=by
     have:l*i.size≤cap*i.size:=Nat.mul_le_mul_right _ hlc
     simp;omega
    have holds:∀j v,(cur.toList.take (l*i.size))[j]?=some v→w.cell? ((⟨g,0,none⟩:Addr).add j)=some v:=fun j v hj=>by
     rw[Addr.add_lit,cell_of hg,Nat.zero_add]
     rw[List.getElem?_take] at hj
     split at hj
     ·simpa using hj
     ·cases hj
    refine⟨_,_,run_append_grow w t ty e i z ht hi hz ⟨g,0,none⟩ l cap (cur.toList.take (l*i.size)) hlo holds ad m c news hl hnews (by omega) (by omega) (growslice_fits (by omega) hb),.inr (.inr ⟨_,_,rfl,rfl,grownCap_ge _ _ _ _,grownCap_le_maxLen _ _ _ _ hm,?_,?_,?_⟩)⟩
    ·have:=grownCap_ge w (l+m) cap e
     simp only[Array.size_append,List.size_toArray,size_zeroCells,hl,hlo,hzs,←Nat.add_mul]
     congr 1;omega
    ·intro g' c' cur' T' e' hg' k hk
     simp only[Value.slice.injEq,Option.some.injEq,Addr.mk.injEq] at e'
     obtain⟨⟨rfl,_⟩,_,_⟩:=e'
     rw[hg] at hg'
     cases hg'
     rw[Array.append_assoc,Array.getElem?_append_left (by simp only[List.size_toArray,hlo];exact hk)]
     simp[hk]
    ·intro k hk
     rw[Array.append_assoc,Array.getElem?_append_right (by simp only[List.size_toArray,hlo];omega),Array.getElem?_append_left (by simp only[List.size_toArray,hlo];omega)]
     simp only[List.size_toArray,hlo,Nat.add_sub_cancel_left,List.getElem?_toArray]
theorem WRf.write (h:WRf w0 E F A H w own rt) {k:Nat} {p:Path} (hA:A k) (k0:k≠0) {g:Nat} (hown:own g=some (k,p)) {w':World} (hw:∀b,b≠g→w'.heap[b]?=w.heap[b]?) (hsz:w'.heap.size=w.heap.size) (hos:w'.os=w.os) (htp:w'.tape=w.tape) (hout:w'.output=w.output)
 {x:AV} {vs:List Nat} {v:Value} (hx:Ow w' own k x [] v):
 WRf w0 E F A (updH H [(k,⟨x,vs⟩)]) w' own (fun k'=>if k'=k then v else rt k')∧(∀b o,own b=none→w.heap[b]?=some o→own b=none∧w'.heap[b]?=some o)∧
  ∀k',k'≠k→Over w own rt H w' own (fun k'=>if k'=k then v else rt k') (updH H [(k,⟨x,vs⟩)]) k':=by
 have hHo:∀k',k'≠k→updH H [(k,⟨x,vs⟩)] k'=H k':=fun k' e=>by simp[updH,lk,Ne.symm e]
 have h0:∀b o,own b=none→w.heap[b]?=some o→own b=none∧w'.heap[b]?=some o:=fun b o e1 e2=>
  ⟨e1,by rw[hw b (by rintro rfl;rw[hown] at e1;cases e1)];exact e2⟩
 have ho:∀k',k'≠k→∀b o q,own b=some (k',q)→w.heap[b]?=some o→w'.heap[b]?=some o:=fun k' hk b o q e1 e2=>by
  rw[hw b (by rintro rfl;rw[hown] at e1;cases e1;exact hk rfl)];exact e2
 refine⟨⟨⟨hos.trans h.keep.os,htp.trans h.keep.tape,hout.trans h.keep.output,by rw[hsz];exact h.keep.size,fun b hb he=>?_⟩,fun b y e=>by rw[hsz];exact h.dom b y e,fun k'=>?_,fun k' hk=>?_,h.owned,h.frn,?_⟩,h0,fun k' hk=>?_⟩
 ·have:b≠g:=by
   rintro rfl
   rcases (h.dom b _ hown).2 with e|e|e
   ·omega
   ·exact he e
   ·have:=h.frn b e
    rw[hown] at this
    cases this
    exact k0 rfl
  rw[hw b this]
  exact h.keep.block b hb he
 ·by_cases e:k'=k
  ·subst e
   simp only[updH,lk,if_true]
   exact hx
  ·rw[hHo k' e]
   try dsimp only
   rw[if_neg e]
   exact Ow.mono h0 _ _ _ _ (fun b o q e1 e2=>⟨e1,ho k' e b o _ e1 e2⟩) (h.obj k')
 ·rw[hHo k' (fun e=>hk (e▸hA))]
  exact h.dead k' hk
 ·rw[hHo 0 (Ne.symm k0)];exact h.frn0
 ·exact Over.same (h.obj k') (hHo k' hk) (if_neg hk) (fun b o q e1 e2=>ho k' hk b o q e1 e2)
theorem rd_one {b:AV} {v:Value} (h:Rd w own b v) (hk:b.kn=true):v.oneCell'=true:=by
 cases b with
 |int k n=>rw[h.1];rfl
 |bool b=>have:v=_:=h;rw[this];rfl
 |str b=>have:v=_:=h;rw[this];rfl
 |rng k lo hi=>obtain⟨_,rfl,_⟩:=h;rfl
 |pin x a=>cases hk
 |mp x=>cases hk
 |sl u nl es n f=>obtain⟨_,_,rfl,_⟩:=h;rfl
 |ptr m f=>obtain⟨_,_,_,_,_,rfl,_⟩:=h;rfl
 |fn g m f=>obtain⟨_,rfl,_⟩:=h;rfl
 |junk=>cases hk
theorem ro_ro (b:AV):b.ro.ro=b.ro:=by cases b<;>rfl
theorem free_rd {b:AV} {r:Root} {p:Path} {v:Value} (hf:b.free) (h:Ow w own r b p v):Rd w own b v∧b.kn=true∧b.ro=b:=by
 cases b with
 |sl u nl es n f=>cases u with
  |true=>exact hf.elim
  |false=>exact⟨h,rfl,rfl⟩
 |junk=>exact hf.elim
 |pin x a=>exact hf.elim
 |mp x=>exact hf.elim
 |_=>exact⟨h,rfl,rfl⟩
theorem mk_news {c:Array Value} {off m es:Nat} (he:es≠0) {Q:Nat→Nat→Value→Prop} (hc:∀i,i<m→∀j,j<es→∃x,c[off+(i*es+j)]?=some x∧Q i j x):
 ∃news:List Value,news.length=m*es∧(∀j u,news[j]?=some u→c[off+j]?=some u)∧(∀u∈news,∃i j,i<m∧j<es∧Q i j u)∧∀i,i<m→∀j,j<es→∃x,news[i*es+j]?=some x∧Q i j x:=by
 have hk:∀k,k<m*es→∃x,c[off+k]?=some x∧Q (k / es) (k % es) x∧k / es<m∧k % es<es:=fun k hk=>by
  have h1:k / es<m:=Nat.div_lt_of_lt_mul (by rw[Nat.mul_comm];exact hk)
  have h2:k % es<es:=Nat.mod_lt _ (by omega)
  obtain⟨x,f1,f2⟩:=hc _ h1 _ h2
  rw[Nat.mul_comm,Nat.div_add_mod] at f1
  exact⟨x,f1,f2,h1,h2⟩
 have hget:∀j u,((List.range (m*es)).map fun k=>(c[off+k]?).getD undef)[j]?=some u→c[off+j]?=some u∧j<m*es:=fun j u hj=>by
  by_cases hlt:j<m*es
  ·obtain⟨x,f1,_⟩:=hk j hlt
   simp only[List.getElem?_map,List.getElem?_range hlt,Option.map_some,f1,Option.getD_some,Option.some.injEq] at hj
   rw[f1,hj];exact⟨rfl,hlt⟩
  ·rw[List.getElem?_eq_none (by simp;omega)] at hj;cases hj
 refine⟨(List.range (m*es)).map fun k=>(c[off+k]?).getD undef,by simp,fun j u hj=>(hget j u hj).1,fun u hu=>?_,fun i hi j hj=>?_⟩
 ·obtain⟨j,hj⟩:=List.getElem?_of_mem hu
  obtain⟨g1,g2⟩:=hget j u hj
  obtain⟨x,f1,f2,f3,f4⟩:=hk j g2
  rw[f1] at g1
  cases g1
  exact⟨_,_,f3,f4,f2⟩
 ·obtain⟨x,f1,f2⟩:=hc i hi j hj
  refine⟨x,?_,f2⟩
  simp[List.getElem?_range (idx_lt hi hj),f1]
theorem apSrc_cells (h:SRf N w0 E F A T H a w own rt) {es:Nat} (he:es≠0) {s:SV} {v:Value} {ok:Prop} {m:Nat} {g:Nat→Nat→AV} {rd:List Nat} (e:apSrc H es s=some (ok,m,g,rd)) (hr:RelS w own rt H s v) (hok:ok):
 ∃news:List Value,news.length=m*es∧((m=0∧∃ad c,v=.slice ad 0 c)∨(0<m∧∃ad c,v=.slice (some ad) m c∧(∀j u,news[j]?=some u→w.cell? (ad.add j)=some u)))∧(∀u∈news,u.oneCell'=true)∧
  ∀i,i<m→∀j,j<es→∃x,news[i*es+j]?=some x∧Rd w own (g i j) x∧(g i j).ro=g i j:=by
 have fin:∀{b off cap:Nat} {c:Array Value} {T':TypeId} {fz:Nat×Nat},v=.slice (some ⟨b,off,none⟩) m cap→w.heap[b]?=some (.cells c T' fz)→0<m→
  (∀i,i<m→∀j,j<es→∃x,c[off+(i*es+j)]?=some x∧(x.oneCell'=true∧Rd w own (g i j) x∧(g i j).ro=g i j))→
  ∃news:List Value,news.length=m*es∧((m=0∧∃ad c,v=.slice ad 0 c)∨(0<m∧∃ad c,v=.slice (some ad) m c∧(∀j u,news[j]?=some u→w.cell? (ad.add j)=some u)))∧(∀u∈news,u.oneCell'=true)∧
  ∀i,i<m→∀j,j<es→∃x,news[i*es+j]?=some x∧Rd w own (g i j) x∧(g i j).ro=g i j:=by
  intro b off cap c T' fz hv hb hm hc
  obtain⟨news,n1,n2,n3,n4⟩:=mk_news he hc
  refine⟨news,n1,.inr ⟨hm,_,_,hv,fun j u hj=>by rw[Addr.add_lit,cell_of hb];exact n2 j u hj⟩,fun u hu=>?_,fun i hi j hj=>?_⟩
  ·obtain⟨_,_,_,_,f,_⟩:=n3 u hu;exact f
  ·obtain⟨x,f1,f2⟩:=n4 i hi j hj;exact⟨x,f1,f2.2⟩
 have nil:∀{ad:Option Addr} {cap:Nat},v=.slice ad m cap→m=0→∃news:List Value,news.length=m*es∧((m=0∧∃ad c,v=.slice ad 0 c)∨(0<m∧∃ad c,v=.slice (some ad) m c∧(∀j u,news[j]?=some u→w.cell? (ad.add j)=some u)))∧(∀u∈news,u.oneCell'=true)∧
  ∀i,i<m→∀j,j<es→∃x,news[i*es+j]?=some x∧Rd w own (g i j) x∧(g i j).ro=g i j:=fun hv hm=>
  ⟨[],by simp[hm],.inl ⟨hm,_,_,by rw[hv,hm]⟩,by simp,fun i hi=>by omega⟩
 unfold apSrc at e
 split at e
 ·rename_i u nl es' mm f
  simp only[Option.some.injEq,Prod.mk.injEq] at e;obtain⟨rfl,rfl,rfl,rfl⟩:=e
  obtain⟨hes,hkn⟩:=hok
  have hr':Rd w own (.sl u nl es' mm f) v:=hr
  obtain⟨ad,cap,hv,_,_,_,_,hc⟩:=hr'
  rcases Nat.eq_zero_or_pos mm with hm|hm
  ·exact nil hv hm
  ·have hes':=hes.resolve_left (by omega)
   subst hes'
   obtain⟨b,off,c,T',fz,rfl,hown,hb,hc⟩:=hc (by omega)
   exact fin hv hb hm (fun i hi j hj=>by
    obtain⟨x,f1,f2⟩:=hc i hi j hj
    exact⟨x,f1,rd_one f2 (hkn i hi j hj),f2.ro,ro_ro _⟩)
 ·rename_i k p vs
  split at e
  ·rename_i nl es' mm f ea
   simp only[Option.some.injEq,Prod.mk.injEq] at e;obtain⟨rfl,rfl,rfl,rfl⟩:=e
   obtain⟨hl,hes,hfr⟩:=hok
   obtain⟨v',h1,h2⟩:=live_row h hl
   have:=hr.2 hl
   rw[h1] at this
   obtain rfl:=Option.some.inj this
   rw[ea] at h2
   rcases Nat.eq_zero_or_pos mm with hm|hm
   ·obtain⟨ad,cap,hv,_⟩:=ow_slice h2
    exact nil hv hm
   ·have hes':=hes.resolve_left (by omega)
    subst hes'
    obtain⟨b,cap,c,T',hv,_,hb,_,_,_,hc⟩:=ow_row h2 hm
    exact fin hv hb hm (fun i hi j hj=>by
     obtain⟨x,f1,f2⟩:=hc i hi j hj
     obtain⟨g1,g2,g3⟩:=free_rd (hfr i hi j hj) f2
     exact⟨x,by rw[Nat.zero_add];exact f1,rd_one g1 g2,g1,g3⟩)
  ·cases e
 ·rename_i k p vs lo hi
  split at e
  ·rename_i nl es' mm f ea
   simp only[Option.some.injEq,Prod.mk.injEq] at e;obtain⟨rfl,rfl,rfl,rfl⟩:=e
   obtain⟨hl,hes,hlo,hhi,hfr⟩:=hok
   subst hes
   obtain⟨v',h1,h2⟩:=live_row h hl
   obtain⟨ad,m',cap',a',e3,hlc,hv0,hv⟩:=hr.2 hl
   rw[ea] at h2
   rcases Nat.eq_zero_or_pos (hi - lo) with hm|hm
   ·exact nil hv hm
   ·obtain⟨b,cap,c,T',hv',_,hb,g1,_,_,g3⟩:=ow_row h2 (by omega)
    rw[h1,hv'] at e3
    simp only[Option.some.injEq,Value.slice.injEq] at e3
    obtain⟨rfl,rfl,rfl⟩:=e3
    rw[hv0 (.inl (by omega))] at hv
    simp only[Option.map_some,Addr.add_lit,ea,AV.es,Nat.zero_add] at hv
    exact fin hv hb hm (fun i hi j hj=>by
     obtain⟨x,f1,f2⟩:=g3 (lo+i) (by omega) j hj
     obtain⟨q1,q2,q3⟩:=free_rd (hfr (lo+i) (by omega) (by omega) j hj) f2
     exact⟨x,by rw[←Nat.add_assoc,←Nat.add_mul];exact f1,rd_one q1 q2,q1,q3⟩)
  ·cases e
 ·cases e
end
end Go.AM
/- The framework AM,part 12:append and store. -/
namespace Go.AM
open Go
section
variable {N:Nat} {w0:World} {E A:Nat→Prop} {F:Frm} {T:Nat→TV} {H:Nat→OB} {a:Act} {w:World} {own:Own} {rt:Rt} {P:Program} {o:Oper} {n:Nat}
theorem setRow_same {w:World} {g:Nat} {c c':Array Value} {T:TypeId} {fz:Nat×Nat} (h:w.heap[g]?=some (.cells c T fz)):(w.setRow g c').heap[g]?=some (.cells c' T fz):=setRow_heap w g c c' T fz h
theorem rd_ow {b:AV} {r:Root} {p:Path} {v:Value} (h:Rd w own b v) (hb:b.ro=b):Ow w own r b p v:=by
 have:=Rd.ow (r:=r) (p:=p) h
 rw[hb] at this
 exact this
theorem WRf.adopt (h:WRf w0 E F A H w own rt) {k:Nat} (hA:A k) (k0:k≠0) {x:AV} {vs:List Nat} {v:Value} (hx:Ow w own k x [] v):
 WRf w0 E F A (updH H [(k,⟨x,vs⟩)]) w own (fun k'=>if k'=k then v else rt k')∧∀k',k'≠k→Over w own rt H w own (fun k'=>if k'=k then v else rt k') (updH H [(k,⟨x,vs⟩)]) k':=by
 have hHo:∀k',k'≠k→updH H [(k,⟨x,vs⟩)] k'=H k':=fun k' e=>by simp[updH,lk,Ne.symm e]
 refine⟨⟨h.keep,h.dom,fun k'=>?_,fun k' hk=>?_,h.owned,h.frn,?_⟩,fun k' hk=>?_⟩
 ·by_cases e:k'=k
  ·subst e
   simp only[updH,lk,if_true]
   exact hx
  ·rw[hHo k' e]
   try dsimp only
   rw[if_neg e]
   exact h.obj k'
 ·rw[hHo k' (fun e=>hk (e▸hA))]
  exact h.dead k' hk
 ·rw[hHo 0 (Ne.symm k0)];exact h.frn0
 ·exact Over.same (h.obj k') (hHo k' hk) (if_neg hk) (fun b o q e1 e2=>e2)
theorem append_core {t ty e:TypeId} {i:TypeInfo} {z:Value} (ht:P.underlying t=some (.slice e)) (hi:P.info? e=some i) (hz:i.zero=some z) (hzs:z.cells.size=i.size)
 (h:WRf w0 E F A H w own rt) (hA:A n) (n0:n≠0) (hH:H n=.dead) {nl:Option Bool} {l:Nat} {f:Nat→Nat→AV} {v:Value} (hv:Ow w own n (.sl true nl i.size l f) [] v)
 {m:Nat} {x:Value} {news:List Value} {g:Nat→Nat→AV} (hl:news.length=m*i.size) (src:(m=0∧∃ad c,x=.slice ad 0 c)∨(0<m∧∃ad c,x=.slice (some ad) m c∧(∀j u,news[j]?=some u→w.cell? (ad.add j)=some u))) (h1:∀u∈news,u.oneCell'=true)
 (hg:∀i',i'<m→∀j,j<i.size→∃x,news[i'*i.size+j]?=some x∧Ow w own n (g i' j) [(l+i',j)] x)
 (hb:(l+m)*i.bytes≤140737488355328) (hm:l+m≤maxLen):
 ∃v' w' own' rt',(Builtin.append_ #[t,t] ty #[v,x]).run P w=.ok v' w'∧WRf w0 E F A (updH H [(n,⟨.sl true (if nl=some false then some false else none) i.size (l+m) (apF l f g),[]⟩)]) w' own' rt'∧rt' n=v'∧
  (∀b o,own b=none→w.heap[b]?=some o→own' b=none∧w'.heap[b]?=some o)∧∀k,k≠n→Over w own rt H w' own' rt' (updH H [(n,⟨.sl true (if nl=some false then some false else none) i.size (l+m) (apF l f g),[]⟩)]) k:=by
 have hnl:(if nl=some false then some false else none)≠some true:=by split<;>simp
 have row:(l=0∧∃ad,v=.slice ad 0 0)∨∃g cap cur T,v=.slice (some ⟨g,0,none⟩) l cap∧w.heap[g]?=some (.cells cur T (0,0))∧l≤cap∧cap≤maxLen∧cur.size=cap*i.size:=by
  rcases hv with ⟨e1,ad,e2,_⟩|⟨b,cap,c,T,e1,_,_,e3,e4,e5,e6,_⟩
  ·exact .inl ⟨e1,ad,e2⟩
  ·exact .inr ⟨b,cap,c,T,e1,e3,e4,e5,e6⟩
 obtain⟨v',w',hrun,hcase⟩:=append_any (w:=w) t ty e i z ht hi hz hzs row hl src h1 hb hm
 rcases hcase with ⟨rfl,ev,ew⟩|⟨b,cap,cur,T,hm0,rfl,hbk,hroom,hcap,hcs,rfl,rfl⟩|⟨cap,cells,rfl,rfl,hlc,hcap,hcs,hold,hnew⟩
 ·rw[ev,ew] at hrun
  have hx:Ow w own n (.sl true (if nl=some false then some false else none) i.size (l+0) (apF l f g)) [] v:=by
   rcases hv with ⟨e1,ad,e2,e3⟩|⟨b,cap,c,T,e1,e2,e3,e4,e5,e6,e7,e8⟩
   ·refine .inl ⟨e1,ad,e2,?_⟩
    by_cases hf:nl=some false
    ·rw[if_pos hf];rw[hf] at e3;exact e3
    ·rw[if_neg hf];exact⟨fun e=>by simp at e,fun e=>by simp at e⟩
   ·refine .inr ⟨b,cap,c,T,e1,hnl,e3,e4,e5,e6,e7,fun i' hi' j hj=>?_⟩
    obtain⟨x,f1,f2⟩:=e8 i' hi' j hj
    refine⟨x,f1,?_⟩
    have hi'':i'<l:=hi'
    simp only[apF,hi'',if_true]
    exact f2
  obtain⟨g1,g2⟩:=h.adopt hA n0 (vs:=[]) hx
  exact⟨_,_,_,_,hrun,g1,if_pos rfl,fun b o e1 e2=>⟨e1,e2⟩,g2⟩
 ·have hown:own b=some (n,[])∧∀i',i'<l→∀j,j<i.size→∃x,cur[i'*i.size+j]?=some x∧Ow w own n (f i' j) [(i',j)] x:=by
   rcases hv with ⟨e0,ad,e1,_⟩|⟨b',cap',c',T',e1,e2,e3,e4,e5,e6,e7,e8⟩
   ·simp only[Value.slice.injEq] at e1
    omega
   ·simp only[Value.slice.injEq,Option.some.injEq,Addr.mk.injEq] at e1
    obtain⟨⟨rfl,_⟩,_,rfl⟩:=e1
    rw[hbk] at e4
    cases e4
    exact⟨e3,fun i' hi' j hj=>by simpa using e8 i' hi' j hj⟩
  have hother:∀b',b'≠b→(w.setRow b (rowPut cur (l*i.size) news)).heap[b']?=w.heap[b']?:=fun b' hb'=>setRow_other w b b' _ hb'
  have hfit:l*i.size+news.length≤cur.size:=by rw[hl,hcs,←Nat.add_mul];exact Nat.mul_le_mul_right _ hroom
  have h0:∀b' o,own b'=none→w.heap[b']?=some o→own b'=none∧(w.setRow b (rowPut cur (l*i.size) news)).heap[b']?=some o:=fun b' o e1 e2=>
   ⟨e1,by rw[hother b' (by rintro rfl;rw[hown.1] at e1;cases e1)];exact e2⟩
  have hx:Ow (w.setRow b (rowPut cur (l*i.size) news)) own n (.sl true (if nl=some false then some false else none) i.size (l+m) (apF l f g)) [] (.slice (some ⟨b,0,none⟩) (l+m) cap):=by
   refine .inr ⟨b,cap,_,T,rfl,hnl,hown.1,setRow_same hbk,hroom,hcap,by rw[rowPut_size hfit,hcs],fun i' hi' j hj=>?_⟩
   by_cases hlt:i'<l
   ·obtain⟨x,f1,f2⟩:=hown.2 i' hlt j hj
    refine⟨x,by rw[rowPut_out hfit (.inl (idx_lt hlt hj))];exact f1,?_⟩
    simp only[apF,hlt,if_true]
    exact Ow.mono h0 _ _ _ _ (fun b' o q e1 e2=>⟨e1,by rw[hother b' (by rintro rfl;rw[hown.1] at e1;simp at e1)];exact e2⟩) f2
   ·obtain⟨d,rfl⟩:∃d,i'=l+d:=⟨i' - l,by omega⟩
    obtain⟨x,f1,f2⟩:=hg d (by omega) j hj
    have hlt2:d*i.size+j<news.length:=by rw[hl];exact idx_lt (by omega) hj
    refine⟨x,?_,?_⟩
    ·rw[Nat.add_mul,Nat.add_assoc,rowPut_in hfit hlt2]
     rw[List.getElem?_eq_getElem hlt2] at f1
     exact f1
    ·simp only[apF,hlt,if_false,Nat.add_sub_cancel_left]
     exact Ow.mono h0 _ _ _ _ (fun b' o q e1 e2=>⟨e1,by rw[hother b' (by rintro rfl;rw[hown.1] at e1;simp at e1)];exact e2⟩) f2
  obtain⟨g1,g2,g3⟩:=h.write hA n0 hown.1 hother (setRow_size _ _ _) rfl rfl rfl (vs:=[]) hx
  exact⟨_,_,_,_,hrun,g1,if_pos rfl,g2,g3⟩
 ·obtain⟨g1,g2,g3⟩:=h.fresh (n:=n) hH hA n0 (w':=w.drew.alloc (.cells cells e)) (cs:=cells) (e:=e) rfl rfl rfl rfl (nl:=if nl=some false then some false else none) (es:=i.size) (m:=l+m) (cap:=cap) (f:=apF l f g) hlc hcap hcs hnl (fun i' hi' j hj=>by
   by_cases hlt:i'<l
   ·rcases hv with ⟨e2,_⟩|⟨b',cap',c',T',e1,e2,e3,e4,e5,e6,e7,e8⟩
    ·omega
    ·obtain⟨x,f1,f2⟩:=e8 i' hlt j hj
     refine⟨x,by rw[hold b' cap' c' T' e1 e4 _ (idx_lt hlt hj)];exact f1,?_⟩
     simp only[apF,hlt,if_true]
     simpa using f2
   ·obtain⟨d,rfl⟩:∃d,i'=l+d:=⟨i' - l,by omega⟩
    obtain⟨x,f1,f2⟩:=hg d (by omega) j hj
    have hlt2:d*i.size+j<news.length:=by rw[hl];exact idx_lt (by omega) hj
    refine⟨x,by rw[Nat.add_mul,Nat.add_assoc,hnew _ hlt2];exact f1,?_⟩
    simp only[apF,hlt,if_false,Nat.add_sub_cancel_left]
    exact f2)
  exact⟨_,_,_,_,hrun,g1,if_pos rfl,g2,g3⟩
def renO (n l:Nat) (own:Own):Own:=fun b=>match own b with
 |some (k',(i0,j0)::(i1,j1)::r)=>if k'=n∧i0=l∧j0=0 then some (n,(l+i1,j1)::r) else some (k',(i0,j0)::(i1,j1)::r)
 |x=>x
theorem renO_none {l b:Nat} (h:own b=none):renO n l own b=none:=by simp[renO,h]
theorem renO_other {l b k':Nat} {q:Path} (h:own b=some (k',q)) (hk:k'≠n):renO n l own b=some (k',q):=by
 unfold renO
 rw[h]
 split
 ·rename_i e;cases e;rw[if_neg (fun e=>hk e.1)]
 ·rfl
theorem renO_nil {l b:Nat} (h:own b=some (n,[])):renO n l own b=some (n,[]):=by simp[renO,h]
theorem renO_low {l b i' j:Nat} {q:Path} (h:own b=some (n,(i',j)::q)) (hi:i'≠l):renO n l own b=some (n,(i',j)::q):=by
 unfold renO
 rw[h]
 split
 ·rename_i e;cases e;rw[if_neg (fun e=>hi e.2.1)]
 ·rfl
theorem renO_in {l b i1 j1:Nat} {q:Path} (h:own b=some (n,(l,0)::(i1,j1)::q)):renO n l own b=some (n,(l+i1,j1)::q):=by
 simp[renO,h]
theorem renO_some {l b:Nat} {y:Root×Path} (h:renO n l own b=some y):∃q,own b=some (y.1,q)∧(y.1≠n→q=y.2):=by
 unfold renO at h
 split at h
 ·rename_i k' i0 j0 i1 j1 r e
  split at h
  ·rename_i hc
   cases h
   exact⟨_,by rw[e,hc.1],fun hn=>absurd rfl hn⟩
  ·cases h;exact⟨_,e,fun _=>rfl⟩
 ·exact⟨y.2,h,fun _=>rfl⟩
theorem WRf.ren (h:WRf w0 E F A H w own rt) (hH:H n=.dead) (n0:n≠0) (hA:A n) (l:Nat):WRf w0 E F A H w (renO n l own) rt∧∀k',Over w own rt H w (renO n l own) rt H k':=by
 refine⟨⟨h.keep,fun b y e=>?_,fun k'=>?_,h.dead,fun b k' q e=>?_,fun b hb=>?_,h.frn0⟩,fun k'=>Over.same (h.obj k') rfl rfl (fun b o q _ e2=>e2)⟩
 ·obtain⟨q,e1,_⟩:=renO_some e
  exact h.dom b _ e1
 ·by_cases e:k'=n
  ·subst e
   rw[hH]
   trivial
  ·exact Ow.mono (fun b o e1 e2=>⟨renO_none e1,e2⟩) _ _ _ _ (fun b o q e1 e2=>⟨renO_other e1 e,e2⟩) (h.obj k')
 ·obtain⟨q',e1,_⟩:=renO_some e
  exact h.owned b _ _ e1
 ·exact renO_other (h.frn b hb) (Ne.symm n0)
theorem knN_get:∀{es:Nat} {f:Nat→AV},knN es f=true→∀j,j<es→(f j).kn=true
 |0,_,_,j,hj=>by omega
 |es+1,f,h,j,hj=>by
  simp only[knN,Bool.and_eq_true] at h
  by_cases e:j=es
  ·rw[e];exact h.1
  ·exact knN_get h.2 j (by omega)
theorem mv_src {l es:Nat} (he:es≠0) {nl2:Option Bool} {g:Nat→Nat→AV} {v:Value} (hkn:knN es (g 0)=true) (h:Ow w own n (.sl true nl2 es 1 g) [(l,0)] v):
 ∃news:List Value,news.length=1*es∧(0<1∧∃ad c,v=.slice (some ad) 1 c∧(∀j u,news[j]?=some u→w.cell? (ad.add j)=some u))∧(∀u∈news,u.oneCell'=true)∧
  ∀i,i<1→∀j,j<es→∃x,news[i*es+j]?=some x∧Ow w (renO n l own) n (g i j) [(l+i,j)] x:=by
 obtain⟨b,cap,c,T',hv,_,hb,_,_,_,hc⟩:=ow_row h (by omega)
 obtain⟨news,n1,n2,n3,n4⟩:=mk_news (m:=1) (es:=es) (off:=0) (c:=c) (Q:=fun i j x=>x.oneCell'=true∧Ow w (renO n l own) n (g i j) [(l+i,j)] x) he (fun i hi j hj=>by
  obtain rfl:i=0:=by omega
  obtain⟨x,f1,f2⟩:=hc 0 hi j hj
  refine⟨x,by rw[Nat.zero_add];exact f1,rd_one (Ow.rd _ _ _ f2) (knN_get hkn j hj),?_⟩
  exact Ow.mono (fun b o e1 e2=>⟨renO_none e1,e2⟩) _ _ _ _ (fun b o q e1 e2=>⟨renO_in (by simpa using e1),e2⟩) f2)
 refine⟨news,n1,⟨by omega,_,_,hv,fun j u hj=>by rw[Addr.add_lit,cell_of hb];exact n2 j u hj⟩,fun u hu=>?_,fun i hi j hj=>?_⟩
 ·obtain⟨_,_,_,_,f,_⟩:=n3 u hu;exact f
 ·obtain⟨x,f1,f2⟩:=n4 i hi j hj;exact⟨x,f1,f2.2⟩
theorem ow_ren {l es:Nat} {nl:Option Bool} {f:Nat→Nat→AV} {v:Value} (h:Ow w own n (.sl true nl es l f) [] v):Ow w (renO n l own) n (.sl true nl es l f) [] v:=by
 rcases h with h|⟨b,cap,c,T,e1,e2,e3,e4,e5,e6,e7,e8⟩
 ·exact .inl h
 ·refine .inr ⟨b,cap,c,T,e1,e2,renO_nil e3,e4,e5,e6,e7,fun i hi j hj=>?_⟩
  obtain⟨x,f1,f2⟩:=e8 i hi j hj
  exact⟨x,f1,Ow.mono (fun b o e1 e2=>⟨renO_none e1,e2⟩) _ _ _ _ (fun b o q e1 e2=>⟨by
   have e1':own b=some (n,(i,j)::q):=by simpa using e1
   simpa using renO_low (l:=l) e1' (by omega),e2⟩) f2⟩
theorem did_append {c:Call} {x y:Operand} {t t':TypeId} (h:SRf N w0 E F A T H a w own rt) (hd:∀s,o.dst=some s→s<N) (hn:¬A n) (ho:o.op=.call c) (hc:c.callee=.builtin .append) (hargs:c.args.toList=[x,y]) (hty:c.argTypes.toList=[t,t'])
 (hok:(aop P o.op (opd T) H n).ok):
 Did P o N w0 E F (fun k=>A k∨k=n) (updT T o.dst (aop P o.op (opd T) H n).v) (updH H (aop P o.op (opd T) H n).hu) a w:=by
 rw[ho] at hok ⊢
 simp only[aop,hc,hargs,hty] at hok ⊢
 obtain⟨hok,rfl⟩:=hok
 have hargs':c.args=#[x,y]:=by rw[←Array.toArray_toList (xs:=c.args),hargs]
 have htys:c.argTypes=#[t',t']:=by rw[←Array.toArray_toList (xs:=c.argTypes),hty]
 have hrun:∀{v' w'},(Builtin.append_ #[t',t'] o.type #[a.eval x,a.eval y]).run P w=.ok v' w'→(execOp a.eval o).run P w=.ok (.value v') w':=by
  intro v' w' e
  simp[execOp,ho,resolve,hc,hargs',invoke,builtin,htys,e]
 have hH:=h.dead n hn
 have hx:=opd_rel h x
 have hy:=opd_rel h y
 generalize opd T x=tx at *
 generalize opd T y=ty at *
 have n0:=not_zero h.toWRf hn
 have hold:(apOld P t' tx ty H n).ok→Did P o N w0 E F (fun k=>A k∨k=n) (updT T o.dst (apOld P t' tx ty H n).v) (updH H (apOld P t' tx ty H n).hu) a w:=by
  intro hok
  unfold apOld at hok ⊢
  split at hok
  ·exact hok.elim
  ·rename_i e hel
   dsimp only at hok ⊢
   split at hok
   ·rename_i s z
    split at hok
    ·exact hok.elim
    ·rename_i ok2 m g rd2 hsrc
     split at hok
     ·rename_i u es0 f0
      obtain⟨h2,hz1,hz2,hby,hm⟩:=hok
      obtain⟨i,z0,y1,y2,y3,y4,y5,y6⟩:=tk_zero hz1 hz2
      obtain⟨news,q1,q2,q3,q4⟩:=apSrc_cells h (nbeq hz1) hsrc hy h2
      have hv:=rd_nil (relS_av hx)
      rw[←y5] at q1 q4
      rw[←y6] at hby
      obtain⟨v',w',own',rt',k1,k2,k3,k4,k5⟩:=append_core (ty:=o.type) (tk_el hel) y1 y2 (by rw[y3,y5]) (h.toWRf.more n) (.inr rfl) n0 hH (nl:=none) (l:=0) (f:=fun _ _=>.junk) (v:=a.eval x) (.inl ⟨rfl,none,hv,⟨fun e=>by simp at e,fun e=>by simp at e⟩⟩) q1 q2 q3 (fun i' hi' j hj=>by
       obtain⟨u,u1,u2,u3⟩:=q4 i' hi' j hj
       exact⟨u,u1,rd_ow u2 u3⟩) (by rw[Nat.zero_add];exact hby) (by rw[Nat.zero_add];exact hm)
      have e1:apF 0 (fun _ _=>AV.junk) g=g:=by funext i j;simp[apF]
      rw[e1,Nat.zero_add,y5] at k2 k5
      refine⟨v',w',own',rt',.inl (hrun k1),h.over k2 k4 (fun k hk=>k5 k (fun e=>hn (e▸hk))) (fun k hk=>.inl hk) hd (new_own (updH_self _ _ _ _) k3) (fun k hk=>.inr hk.symm)⟩
     ·rename_i k p vs
      split at hok
      ·rename_i nl es' l f ea
       obtain⟨h2,hl,rfl,hz1,hz2,hby,hm⟩:=hok
       obtain⟨i,z0,y1,y2,y3,y4,y5,y6⟩:=tk_zero hz1 hz2
       obtain⟨news,q1,q2,q3,q4⟩:=apSrc_cells h (nbeq hz1) hsrc hy h2
       obtain⟨g1,g2,g3,g4,g5⟩:=(h.toWRf.more n).cut hH (.inr rfl) hl.1 []
       have hx2:=g5 _ (hx.2 hl)
       rw[ea] at hx2
       rw[←y5] at q1 q4 hx2
       rw[←y6] at hby
       obtain⟨v',w',own',rt',k1,k2,k3,k4,k5⟩:=append_core (ty:=o.type) (tk_el hel) y1 y2 (by rw[y3,y5]) g1 (.inr rfl) n0 g4 hx2 q1 q2 q3 (fun i' hi' j hj=>by
        obtain⟨u,u1,u2,u3⟩:=q4 i' hi' j hj
        exact⟨u,u1,rd_ow (Rd.mono (fun b o e1 e2=>⟨g2.none b e1,e2⟩) _ _ u2) u3⟩) hby hm
       have hHeq:∀X:OB,updH H [(n,X),(k,(H k).cut p)]=updH (updH H [(k,(H k).cut p)]) [(n,X)]:=fun X=>by
        rw[←updH_append];rfl
       rw[y5] at k2 k5
       rw[hHeq]
       refine⟨v',w',own',rt',.inl (hrun k1),h.over k2 (fun b o e1 e2=>k4 b o (g2.none b e1) e2) (fun k hk=>(g3 k).trans (k5 k (fun e=>hn (e▸hk)))) (fun k hk=>.inl hk) hd (new_own (updH_self _ _ _ _) k3) (fun k hk=>.inr hk.symm)⟩
      ·exact hok.elim
     ·exact hok.elim
   ·exact hok.elim
 have hmv:∀{e:TypeId} {s z:SV} {k2:Nat} {ok2:Prop} {g:Nat→Nat→AV},(tk P t').el=some e→RelT w own rt H (.one s) (a.eval x)→RelT w own rt H (.one z) (a.eval y)→mvSrc H (tk P e).sz z=some (k2,ok2,g)→(apMv P e s H n k2 ok2 g).ok→
  Did P o N w0 E F (fun k=>A k∨k=n) (updT T o.dst (apMv P e s H n k2 ok2 g).v) (updH H (apMv P e s H n k2 ok2 g).hu) a w:=by
  intro e s z k2 ok2 g hel hxs hyz hsrc hok
  unfold mvSrc at hsrc
  split at hsrc
  case h_2=>cases hsrc
  rename_i k0 vs2
  split at hsrc
  case h_2=>cases hsrc
  rename_i nl2 es2 m2 g2 ea2
  cases how:ownsN (tk P e).sz (g2 0) with
  |false=>rw[how] at hsrc;cases hsrc
  |true=>
  rw[how] at hsrc
  simp only[cond_true,Option.some.injEq,Prod.mk.injEq] at hsrc
  obtain⟨rfl,rfl,rfl⟩:=hsrc
  have cutY:∀l,k0≠n→(H k0).live [] vs2→∃own1,WRf w0 E F (fun k=>A k∨k=n) (updH H [(k0,(H k0).cut [])]) w own1 rt∧Mvd own own1 n∧(∀k',Over w own rt H w own1 rt (updH H [(k0,(H k0).cut [])]) k')∧updH H [(k0,(H k0).cut [])] n=.dead∧Ow w own1 n ((H k0).a.at []) [(l,0)] (a.eval y):=fun l hkn hl2=>by
   obtain⟨g1,g2,g3,g4,g5⟩:=(h.toWRf.more n).cut hH (.inr rfl) hl2.1 [(l,0)]
   exact⟨_,g1,g2,g3,g4,g5 _ (hyz.2 hl2)⟩
  have ne:∀{k:Nat} {p:Path} {vs:List Nat},(H k).live p vs→k≠n:=fun hl e=>by
   subst e
   have:=hl.1
   rw[hH] at this
   exact dead_okp this
  unfold apMv at hok ⊢
  dsimp only at hok ⊢
  split at hok
  ·rename_i u es0 f0
   obtain⟨⟨hl2,rfl,rfl,hkn⟩,hz1,hz2,hby⟩:=hok
   obtain⟨i,z0,y1,y2,y3,y4,y5,y6⟩:=tk_zero hz1 hz2
   obtain⟨own1,g1,g2',g3,g4,g5⟩:=cutY 0 (ne hl2) hl2
   rw[ea2] at g5
   obtain⟨r1,r2⟩:=g1.ren g4 n0 (.inr rfl) 0
   obtain⟨news,q1,q2,q3,q4⟩:=mv_src (nbeq hz1) hkn g5
   have hv:=rd_nil (relS_av hxs)
   rw[←y5] at q1 q4
   rw[←y6] at hby
   obtain⟨v',w',own',rt',k1,k2,k3,k4,k5⟩:=append_core (ty:=o.type) (tk_el hel) y1 y2 (by rw[y3,y5]) r1 (.inr rfl) n0 g4 (nl:=none) (l:=0) (f:=fun _ _=>.junk) (v:=a.eval x) (.inl ⟨rfl,none,hv,⟨fun e=>by simp at e,fun e=>by simp at e⟩⟩) q1 (.inr q2) q3 q4 (by rw[Nat.zero_add];exact hby) (by simp[maxLen])
   have e1:apF 0 (fun _ _=>AV.junk) g2=g2:=by funext i j;simp[apF]
   rw[e1,Nat.zero_add,y5] at k2 k5
   have hHeq:∀X:OB,updH H [(n,X),(k0,(H k0).cut [])]=updH (updH H [(k0,(H k0).cut [])]) [(n,X)]:=fun X=>by
    rw[←updH_append];rfl
   rw[hHeq]
   refine⟨v',w',own',rt',.inl (hrun k1),h.over k2 (fun b o e1 e2=>k4 b o (renO_none (g2'.none b e1)) e2) (fun k hk=>((g3 k).trans (r2 k)).trans (k5 k (fun e=>hn (e▸hk)))) (fun k hk=>.inl hk) hd (new_own (updH_self _ _ _ _) k3) (fun k hk=>.inr hk.symm)⟩
  ·rename_i k p vs
   split at hok
   ·rename_i nl es' l f ea
    obtain⟨⟨hl2,rfl,rfl,hkn⟩,hkk,hl,rfl,hz1,hz2,hby,hm⟩:=hok
    obtain⟨i,z0,y1,y2,y3,y4,y5,y6⟩:=tk_zero hz1 hz2
    have hkk':k≠k0:=by rintro rfl;simp at hkk
    obtain⟨own1,g1,g2',g3,g4,g5⟩:=cutY l (ne hl2) hl2
    rw[ea2] at g5
    have hHk:updH H [(k0,(H k0).cut [])] k=H k:=by simp[updH,lk,Ne.symm hkk']
    obtain⟨G1,G2,G3,G4,G5⟩:=g1.cut g4 (.inr rfl) (k:=k) (p:=p) (by rw[hHk];exact hl.1) []
    rw[hHk] at G1 G3 G4 G5
    have hx2:=G5 _ (hxs.2 hl)
    rw[ea] at hx2
    have g5':Ow w (mv own1 k p n []) n (.sl true nl2 (tk P e).sz 1 g2) [(l,0)] (a.eval y):=Ow.mono (fun b o e1 e2=>⟨G2.none b e1,e2⟩) _ _ _ _ (fun b o q e1 e2=>⟨G2.stay b _ e1,e2⟩) g5
    obtain⟨r1,r2⟩:=G1.ren G4 n0 (.inr rfl) l
    obtain⟨news,q1,q2,q3,q4⟩:=mv_src (nbeq hz1) hkn g5'
    have hx3:=ow_ren hx2
    rw[←y5] at q1 q4 hx3
    rw[←y6] at hby
    obtain⟨v',w',own',rt',k1,k2,k3,k4,k5⟩:=append_core (ty:=o.type) (tk_el hel) y1 y2 (by rw[y3,y5]) r1 (.inr rfl) n0 G4 hx3 q1 (.inr q2) q3 q4 hby hm
    have hHeq:∀X:OB,updH H [(n,X),(k,(H k).cut p),(k0,(H k0).cut [])]=updH (updH (updH H [(k0,(H k0).cut [])]) [(k,(H k).cut p)]) [(n,X)]:=fun X=>by
     rw[←updH_append,←updH_append];rfl
    rw[y5] at k2 k5
    rw[hHeq]
    refine⟨v',w',own',rt',.inl (hrun k1),h.over k2 (fun b o e1 e2=>k4 b o (renO_none (G2.none b (g2'.none b e1))) e2) (fun k hk=>(((g3 k).trans (G3 k)).trans (r2 k)).trans (k5 k (fun e=>hn (e▸hk)))) (fun k hk=>.inl hk) hd (new_own (updH_self _ _ _ _) k3) (fun k hk=>.inr hk.symm)⟩
   ·exact hok.elim
  ·exact hok.elim
 unfold apOp at hok ⊢
 split at hok
 ·rename_i e s z hel
  split at hok
  ·rename_i k2 ok2 g hsrc
   exact hmv hel hx hy hsrc hok
  ·rename_i hsrc
   exact hold hok
 ·exact hold hok
end
end Go.AM
/- The framework AM,part 13:store. -/
namespace Go.AM
open Go
def thr (p:Path) (i o m:Nat) (q:Path):Prop:=∃c s,c<m∧q=p++(i,o+c)::s
theorem setR_spec {i o:Nat} {ys:List AV}:∀(q p:Path) (a:AV),(a.setR p i o ys).okp q→¬thr p i o ys.length q→a.okp q∧((a.setR p i o ys).at q).es=(a.at q).es:=by
 intro q
 induction q with
 |nil=>
  intro p a h ht
  cases a with
  |sl u nl es n f=>cases p with
   |nil=>exact⟨by cases u<;>first|trivial|exact h.elim,rfl⟩
   |cons x p=>exact⟨by cases u<;>first|trivial|exact h.elim,rfl⟩
  |mp es=>cases p<;>exact⟨h,rfl⟩
  |_=>cases p<;>exact h.elim
 |cons ij q ih=>
  obtain⟨i',j'⟩:=ij
  intro p a h ht
  cases a with
  |sl u nl es n f=>
   cases p with
   |nil=>
    cases u with
    |false=>exact h.elim
    |true=>
     obtain⟨h1,h2,h3⟩:=h
     have hne:¬(i'=i∧o≤j'∧j'<o+ys.length):=by
      rintro⟨rfl,e1,e2⟩
      exact ht ⟨j' - o,q,by omega,by simp;omega⟩
     dsimp only at h3
     rw[if_neg hne] at h3
     refine⟨⟨h1,h2,h3⟩,?_⟩
     simp only[AV.setR,AV.at,if_neg hne]
   |cons x p=>
    obtain⟨i1,j1⟩:=x
    cases u with
    |false=>exact h.elim
    |true=>
     obtain⟨h1,h2,h3⟩:=h
     dsimp only at h3
     by_cases he:i'=i1∧j'=j1
     ·obtain⟨rfl,rfl⟩:=he
      rw[if_pos ⟨rfl,rfl⟩] at h3
      obtain⟨g1,g2⟩:=ih p _ h3 (fun ⟨c,s,hc,e⟩=>ht ⟨c,s,hc,by rw[e];rfl⟩)
      refine⟨⟨h1,h2,g1⟩,?_⟩
      simp only[AV.setR,AV.at,and_self,if_true]
      exact g2
     ·rw[if_neg he] at h3
      refine⟨⟨h1,h2,h3⟩,?_⟩
      simp only[AV.setR,AV.at,if_neg he]
  |_=>cases p<;>exact h.elim
theorem hdr_set {w w':World} {own:Own} {k g i o:Nat} {ys:List AV} {xs:List Value} (hl:ys.length=xs.length):
 ∀(q p:Path) (a:AV) (p0:Path) (v:Value),a.okp q→Ow w own k a p0 v→¬thr p i o ys.length q→own g=some (k,p0++p)→a.okp p→i<(a.at p).n→o+ys.length≤(a.at p).es→(∃n' cap',hdr w a v p=some (.slice (some ⟨g,0,none⟩) n' cap'))→
  (∀b,b≠g→w'.heap[b]?=w.heap[b]?)→(∀c T fz,w.heap[g]?=some (.cells c T fz)→w'.heap[g]?=some (.cells (rowPut c (i*(a.at p).es+o) xs) T fz))→
  hdr w' (a.setR p i o ys) v q=hdr w a v q:=by
 intro q
 induction q with
 |nil=>intro p a p0 v _ _ _ _ _ _ _ _ _ _;cases a<;>cases p<;>rfl
 |cons ij q ih=>
  obtain⟨i',j'⟩:=ij
  intro p a p0 v hok h ht hog hokp hi ho hg hw hgw
  cases a with
  |sl u nl es n f=>
   cases u with
   |false=>cases hok
   |true=>
    obtain⟨hi',hj',hok⟩:=hok
    rcases h with ⟨rfl,_⟩|⟨b,cap,c,T,rfl,hnl,hob,hb,h2,h3,h4,h5⟩
    ·omega
    ·obtain⟨x,hx,hr⟩:=h5 i' hi' j' hj'
     have below:own g=some (k,p0++p)→∀(p':Path),p'≠p→∀b,own b=some (k,p0++p')→b≠g:=by
      rintro _ p' hne b hb' rfl
      rw[hog] at hb'
      simp only[Option.some.injEq,Prod.mk.injEq,true_and,List.append_cancel_left_eq] at hb'
      exact hne hb'.symm
     cases p with
     |nil=>
      simp only[AV.at,AV.n,AV.es] at hi ho hgw
      have hbg:b=g:=by
       obtain⟨n',cap',hg⟩:=hg
       simp only[AM.hdr,Option.some.injEq,Value.slice.injEq,Addr.mk.injEq] at hg
       exact hg.1.1
      subst hbg
      have hb':=hgw c T _ hb
      have hne:¬(i'=i∧o≤j'∧j'<o+ys.length):=by
       rintro⟨rfl,e1,e2⟩
       exact ht ⟨j' - o,q,by omega,by simp;omega⟩
      have hfit:i*es+o+xs.length≤c.size:=by
       rw[h4]
       have:(i+1)*es≤cap*es:=Nat.mul_le_mul_right _ (by omega)
       rw[Nat.add_mul] at this
       omega
      have hout:(rowPut c (i*es+o) xs)[i'*es+j']?=c[i'*es+j']?:=by
       apply rowPut_out hfit
       rcases Nat.lt_or_ge (i'*es+j') (i*es+o) with h6|h6
       ·exact .inl h6
       ·right
        rcases Nat.lt_or_ge (i'*es+j') (i*es+o+xs.length) with h7|h7
        ·exfalso
         have:=idx_inj (i:=i') (j:=j') (i':=i) (j':=o+(i'*es+j' - (i*es+o))) hj' (by omega) (by omega)
         exact hne ⟨this.1,by omega,by omega⟩
        ·exact h7
      simp only[AM.hdr,AV.setR,hb,hb',Nat.zero_add,hout,if_neg hne,hx,Option.bind_some]
      refine Ow.hdr_eq q _ _ _ hok hr (fun b' o' q' e1 e2=>?_)
      rw[hw b' (below hog ((i',j')::q') (by simp) b' (by simpa using e1))]
      exact e2
     |cons y p=>
      obtain⟨i1,j1⟩:=y
      have hb':w'.heap[b]?=some (.cells c T (0,0)):=by
       rw[hw b (below hog [] (by simp) b (by simpa using hob))];exact hb
      by_cases he:i'=i1∧j'=j1
      ·obtain⟨rfl,rfl⟩:=he
       have:=ih p (f i' j') (p0++[(i',j')]) x hok hr (fun ⟨c,s,hc,e⟩=>ht ⟨c,s,hc,by rw[e];rfl⟩) (by simpa using hog) hokp.2.2 hi ho (by
        obtain⟨n',cap',hg⟩:=hg
        simp only[AM.hdr,hb,Nat.zero_add] at hg
        rw[hx] at hg
        exact⟨n',cap',hg⟩) hw hgw
       simp only[AM.hdr,AV.setR,hb,hb',Nat.zero_add,hx,Option.bind_some,and_self,if_true]
       exact this
      ·simp only[AM.hdr,AV.setR,hb,hb',Nat.zero_add,hx,Option.bind_some,if_neg he]
       refine Ow.hdr_eq q _ _ _ hok hr (fun b' o' q' e1 e2=>?_)
       rw[hw b' (below hog ((i',j')::q') (by
        simp only[ne_eq,List.cons.injEq,Prod.mk.injEq,not_and]
        intro e
        exact absurd e he) b' (by simpa using e1))]
       exact e2
  |_=>cases hok
theorem setR_plain {i o:Nat} {ys:List AV} (hp:ys.all plain=true):∀(p q:Path) (a:AV),(a.setR p i o ys).okp q→a.okp p→¬thr p i o ys.length q:=by
 intro p
 induction p with
 |nil=>
  rintro q a h hok ⟨c,s,hc,rfl⟩
  cases a with
  |sl u nl es n f=>
   cases u with
   |false=>exact h.elim
   |true=>
    obtain⟨_,_,h3⟩:=h
    dsimp only at h3
    rw[if_pos ⟨rfl,by omega,by omega⟩,gl_eq,Nat.add_sub_cancel_left] at h3
    simp only[List.getD,List.getElem?_eq_getElem hc,Option.getD_some] at h3
    have:=List.all_eq_true.1 hp _ (List.getElem_mem hc)
    cases hy:ys[c]<;>rw[hy] at h3 this<;>first|(cases s<;>exact h3.elim)|(simp[plain] at this)
  |mp es=>exact h.elim
  |_=>exact hok.elim
 |cons x p ih=>
  obtain⟨i1,j1⟩:=x
  rintro q a h hok ⟨c,s,hc,rfl⟩
  cases a with
  |sl u nl es n f=>
   cases u with
   |false=>exact h.elim
   |true=>
    obtain⟨_,_,h3⟩:=h
    dsimp only at h3
    rw[if_pos ⟨rfl,rfl⟩] at h3
    exact ih _ _ h3 hok.2.2 ⟨c,s,hc,rfl⟩
  |_=>exact hok.elim
theorem gl_verTake:∀(m:Nat) (vs:List Nat) (d:Nat),d<m→gl 0 (verTake vs m) d=gl 0 vs d
 |0,_,_,h=>by omega
 |m+1,[],0,_=>by simp[verTake,gl]
 |m+1,[],d+1,h=>by
  simp only[verTake,gl]
  rw[gl_verTake m [] d (by omega)]
  rfl
 |m+1,v::r,0,_=>by simp[verTake,gl]
 |m+1,v::r,d+1,h=>by simp only[verTake,gl];exact gl_verTake m r d (by omega)
theorem gl_bump:∀(vs:List Nat) (d e:Nat),gl 0 (bump vs d) e=if e=d then gl 0 vs e+1 else gl 0 vs e
 |[],0,0=>by simp[bump,gl]
 |[],0,e+1=>by simp[bump,gl]
 |v::r,0,0=>by simp[bump,gl]
 |v::r,0,e+1=>by simp[bump,gl]
 |[],d+1,0=>by simp[bump,gl]
 |[],d+1,e+1=>by
  simp only[bump,gl,Nat.add_right_cancel_iff]
  rw[gl_bump [] d e]
  simp[gl]
 |v::r,d+1,0=>by simp[bump,gl]
 |v::r,d+1,e+1=>by
  simp only[bump,gl,Nat.add_right_cancel_iff]
  exact gl_bump r d e
theorem verTake_bump:∀(m:Nat) (vs:List Nat) (d:Nat),m≤d→verTake (bump vs d) m=verTake vs m
 |0,vs,d,_=>by cases vs<;>cases d<;>rfl
 |m+1,[],0,h=>by omega
 |m+1,v::r,0,h=>by omega
 |m+1,[],d+1,h=>by simp only[bump,verTake];rw[verTake_bump m [] d (by omega)]
 |m+1,v::r,d+1,h=>by simp only[bump,verTake];rw[verTake_bump m r d (by omega)]
section
variable {N:Nat} {w0:World} {E A:Nat→Prop} {F:Frm} {T:Nat→TV} {H:Nat→OB} {a:Act} {w:World} {own:Own} {rt:Rt} {P:Program} {o:Oper} {n:Nat}
def land (own:Own) (n k:Nat) (p:Path) (i o:Nat):Own:=fun b=>
 match own b with
 |some (r,(j,c)::q)=>if r=n then some (k,p++(i,o+c)::q) else some (r,(j,c)::q)
 |x=>x
theorem land_other {b r k i o:Nat} {q p:Path} (h:own b=some (r,q)) (hr:r≠n):land own n k p i o b=some (r,q):=by
 unfold land
 rw[h]
 cases q with
 |nil=>rfl
 |cons x q=>simp[hr]
theorem land_none {b k i o:Nat} {p:Path} (h:own b=none):land own n k p i o b=none:=by simp[land,h]
theorem land_some {b k i o:Nat} {p:Path} {y:Root×Path} (h:land own n k p i o b=some y):own b=some y∨(∃j c q,own b=some (n,(j,c)::q)∧y=(k,p++(i,o+c)::q)):=by
 unfold land at h
 split at h
 ·rename_i r j c q e
  split at h
  ·rename_i er
   subst er
   exact .inr ⟨j,c,q,e,by simpa using h.symm⟩
  ·exact .inl (by rw[e];exact h)
 ·exact .inl h
theorem store_core (h:WRf w0 E F A H w own rt) (hA:A n) (n0:n≠0) (hn:H n=.dead) {k:Nat} {p:Path} (hokp:(H k).a.okp p) {nl:Option Bool} {es m:Nat} {f:Nat→Nat→AV} (ea:(H k).a.at p=.sl true nl es m f)
 {i off:Nat} (hi:i<m) {ys:List AV} {xs:List Value} (hlen:ys.length=xs.length) (hfl:∀(c:Nat) (y:AV),ys[c]?=some y→∃x,xs[c]?=some x∧Ow w own n y [(0,c)] x) (one:∀x∈xs,x.oneCell'=true) (hfit:off+ys.length≤es)
 {b cap:Nat} (hb:hdr w (H k).a (rt k) p=some (.slice (some ⟨b,0,none⟩) m cap)) {vs':List Nat} (hvs:vs'=if ys.all plain=true then (H k).vs else bump (H k).vs (p.length+1)):
 ∃w' own',(storeCells ⟨b,i*es+off,none⟩ xs).run P w=.ok () w'∧WRf w0 E F A (updH H [(k,⟨(H k).a.setR p i off ys,vs'⟩)]) w' own' rt∧(∀b o,own b=none→w.heap[b]?=some o→own' b=none∧w'.heap[b]?=some o)∧
  ∀k',k'≠n→Over w own rt H w' own' rt (updH H [(k,⟨(H k).a.setR p i off ys,vs'⟩)]) k':=by
 have hkn:k≠n:=by rintro rfl;rw[hn] at hokp;exact dead_okp hokp
 have hk0:k≠0:=by rintro rfl;rw[h.frn0.1] at hokp;exact dead_okp hokp
 have hAk:A k:=Classical.byContradiction fun e=>by rw[h.dead k e] at hokp;exact dead_okp hokp
 obtain⟨v0,e1,e2⟩:=Ow.hdr p _ _ _ hokp (h.obj k)
 rw[hb] at e1
 cases e1
 rw[ea] at e2
 simp only[List.nil_append] at e2
 obtain⟨b',cap',c,T',e3,hown,hbk,hmc,hcap,hcs,hcells⟩:=ow_row e2 (by omega)
 simp only[Value.slice.injEq,Option.some.injEq,Addr.mk.injEq] at e3
 obtain⟨⟨rfl,_⟩,_,rfl⟩:=e3
 have hcfit:i*es+off+xs.length≤c.size:=by
  rw[hcs]
  have:(i+1)*es≤cap*es:=Nat.mul_le_mul_right _ (by omega)
  rw[Nat.add_mul] at this
  omega
 have hst:=run_storeCells_at P b (i*es+off) T' xs 0 c w hbk (by simpa using hcfit) one
 simp only[Nat.add_zero] at hst
 have hother:∀b',b'≠b→(w.setRow b (rowPut c (i*es+off) xs)).heap[b']?=w.heap[b']?:=fun b' hb'=>setRow_other w b b' _ hb'
 have hHo:∀k',k'≠k→updH H [(k,⟨(H k).a.setR p i off ys,vs'⟩)] k'=H k':=fun k' e=>by simp[updH,lk,Ne.symm e]
 have hHk:updH H [(k,⟨(H k).a.setR p i off ys,vs'⟩)] k=⟨(H k).a.setR p i off ys,vs'⟩:=by simp[updH,lk]
 have h0:∀b' o,own b'=none→w.heap[b']?=some o→land own n k p i off b'=none∧(w.setRow b (rowPut c (i*es+off) xs)).heap[b']?=some o:=fun b' o g1 g2=>
  ⟨land_none g1,by rw[hother b' (by rintro rfl;rw[hown] at g1;cases g1)];exact g2⟩
 have hat:((H k).a.at p).es=es:=by rw[ea];rfl
 have hkeepo:∀k',k'≠k→∀b' o q,own b'=some (k',q)→w.heap[b']?=some o→(w.setRow b (rowPut c (i*es+off) xs)).heap[b']?=some o:=fun k' hk b' o q g1 g2=>by
  rw[hother b' (by rintro rfl;rw[hown] at g1;cases g1;exact hk rfl)];exact g2
 refine⟨w.setRow b (rowPut c (i*es+off) xs),land own n k p i off,hst,⟨⟨h.keep.os,h.keep.tape,h.keep.output,by rw[setRow_size];exact h.keep.size,fun b' hb' he=>?_⟩,fun b' y e=>?_,fun k'=>?_,fun k' hk=>?_,fun b' k' q e=>?_,fun b' hb'=>?_,?_⟩,h0,fun k' hk'=>?_⟩
 ·have:b'≠b:=by
   rintro rfl
   rcases (h.dom b' _ hown).2 with e|e|e
   ·omega
   ·exact he e
   ·have:=h.frn b' e
    rw[hown] at this
    cases this
    exact hk0 rfl
  rw[hother b' this]
  exact h.keep.block b' hb' he
 ·rw[setRow_size]
  rcases land_some e with e|⟨j,c,q,e,_⟩
  ·exact h.dom b' y e
  ·exact h.dom b' _ e
 ·by_cases e:k'=k
  ·subst e
   rw[hHk]
   refine Ow.set h0 hlen (g:=b) p _ [] _ hokp (by rw[ea];exact hi) (by rw[hat];exact hfit) hown ⟨_,_,hb⟩ (fun b' o p' g1 g2 g3=>?_) (fun t ht=>?_) (h.obj k')
   ·simp only[List.nil_append] at g1 ⊢
    refine⟨land_other g1 hkn,fun hne=>by rw[hother b' hne];exact g2,fun heq c' T fz ho=>?_⟩
    subst heq
    rw[hbk] at g2
    cases g2
    cases ho
    rw[hat]
    exact setRow_same hbk
   ·obtain⟨x,f1,f2⟩:=hfl t _ (List.getElem?_eq_getElem ht)
    have hx:xs[t]'(hlen▸ht)=x:=by
     rw[List.getElem?_eq_getElem (hlen▸ht)] at f1
     exact Option.some.inj f1
    rw[hx]
    simp only[List.nil_append]
    refine Ow.mono h0 _ _ _ _ (fun b' o q g1 g2=>⟨?_,hkeepo n (Ne.symm hkn) b' o _ g1 g2⟩) f2
    unfold land
    rw[g1]
    simp
  ·rw[hHo k' e]
   by_cases e':k'=n
   ·subst e'
    rw[hn]
    trivial
   ·exact Ow.mono h0 _ _ _ _ (fun b' o q g1 g2=>⟨land_other g1 e',hkeepo k' e b' o _ g1 g2⟩) (h.obj k')
 ·rw[hHo k' (fun e=>hk (e▸hAk))]
  exact h.dead k' hk
 ·rcases land_some e with e|⟨j,c,q,e,e2⟩
  ·exact h.owned b' k' q e
  ·cases e2;exact hAk
 ·exact land_other (h.frn b' hb') (Ne.symm n0)
 ·rw[hHo 0 (Ne.symm hk0)];exact h.frn0
 ·by_cases e:k'=k
  ·subst e
   rw[show Over w own rt H (w.setRow b (rowPut c (i*es+off) xs)) (land own n k' p i off) rt (updH H [(k',⟨(H k').a.setR p i off ys,vs'⟩)]) k'↔_ from Iff.rfl]
   have hvle:vle (H k').vs vs':=by
    rw[hvs]
    split
    ·exact vle.refl _
    ·intro d;rw[gl_bump];split<;>omega
   refine⟨by rw[hHk];exact hvle,fun q vs hv hl=>?_⟩
   rw[hHk] at hl ⊢
   obtain⟨hl1,hl2⟩:=hl
   simp only at hl1 hl2
   have key:¬thr p i off ys.length q∧vs=verTake (H k').vs (q.length+1):=by
    by_cases hp:ys.all plain=true
    ·rw[hvs,if_pos hp] at hl2
     exact⟨setR_plain hp p q _ hl1 hokp,hl2⟩
    ·rw[hvs,if_neg hp] at hl2
     have hq:q.length≤p.length:=by
      apply Classical.byContradiction
      intro hq
      have h1:=hv (p.length+1)
      rw[hl2,gl_verTake _ _ _ (by omega),gl_bump,if_pos rfl] at h1
      omega
     refine⟨?_,by rw[hl2,verTake_bump _ _ _ (by omega)]⟩
     rintro⟨c,s,hc,rfl⟩
     simp at hq
     omega
   obtain⟨k1,k2⟩:=setR_spec q p _ hl1 key.1
   refine⟨⟨k1,key.2⟩,k2,fun v hv=>?_⟩
   rw[hdr_set hlen q p _ [] _ k1 (h.obj k') key.1 hown hokp (by rw[ea];exact hi) (by rw[hat];exact hfit) ⟨_,_,hb⟩ hother (fun c' T fz ho=>by
    rw[hbk] at ho
    cases ho
    rw[hat]
    exact setRow_same hbk)]
   exact hv
  ·exact Over.same (h.obj k') (hHo k' e) rfl (fun b' o q g1 g2=>hkeepo k' e b' o q g1 g2)
end
end Go.AM
/- The framework AM,part 14:store,and all operations that are no calls. -/
namespace Go.AM
open Go
section
variable {N:Nat} {w0:World} {E A:Nat→Prop} {F:Frm} {T:Nat→TV} {H:Nat→OB} {a:Act} {w:World} {own:Own} {rt:Rt} {P:Program} {o:Oper} {n:Nat}
theorem okp_nil_sl {b:AV} (h:b.okp []) (hn:b.n≠0):∃nl f,b=.sl true nl b.es b.n f:=by
 cases b with
 |sl u nl es n f=>cases u with
  |true=>exact⟨nl,f,rfl⟩
  |false=>exact h.elim
 |mp es=>exact absurd rfl hn
 |_=>exact h.elim
theorem run_storeAt {t:TypeId} {b off:Nat} {v:Value} (hsz:(tk P t).sz≠0) (hv:v.cells.size=(tk P t).sz) {w':World} (h:(storeCells ⟨b,off,none⟩ v.cells.toList).run P w=.ok () w'):
 (Instr.storeAt t (.pointer (some ⟨b,off,none⟩)) v).run P w=.ok () w':=by
 simp[Instr.storeAt,Instr.sureAddr,storeVar,run_sizeOf hsz,hv,h]
theorem did_store {t:TypeId} {x y:Operand} (h:SRf N w0 E F A T H a w own rt) (hd:∀s,o.dst=some s→s<N) (hn:¬A n) (ho:o.op=.store t x y) (hok:(aop P o.op (opd T) H n).ok):
 Did P o N w0 E F (fun k=>A k∨k=n) (updT T o.dst (aop P o.op (opd T) H n).v) (updH H (aop P o.op (opd T) H n).hu) a w:=by
 rw[ho] at hok ⊢
 simp only[aop] at hok ⊢
 have hH:=h.dead n hn
 have hx:=opd_rel h x
 have hy:=opd_rel h y
 generalize opd T x=tx at *
 generalize opd T y=ty at *
 have n0:=not_zero h.toWRf hn
 have hrun:∀{w'},(Instr.storeAt t (a.eval x) (a.eval y)).run P w=.ok () w'→(execOp a.eval o).run P w=.ok .skip w':=by
  intro w' e
  simp[execOp,ho,e]
 split at hok
 ·rename_i k p vs i off
  split at hok
  ·rename_i nl es m f ea
   split at hok
   ·rename_i k' p' vs' lo hi
    split at hok
    ·rename_i nl2 es2 m2 ff2 ea2
     obtain⟨rfl,rfl,hl,hl2,rfl,hhi,hsz,him,hoff,hK,hKe,hKn⟩:=hok
     obtain⟨b,m',cap,e1,hv⟩:=hx.2 hl
     obtain⟨ad,mm,cap2,a',e2,_,hv0,hv2⟩:=hy.2 hl2
     obtain⟨v1,f1,f2⟩:=live_row h hl
     rw[e1] at f1
     cases f1
     rw[ea] at f2
     obtain⟨_,_,e3,_⟩:=ow_slice f2
     simp only[Value.slice.injEq] at e3
     obtain⟨_,rfl,_⟩:=e3
     obtain⟨g1,g2,g3,g4,g5⟩:=(h.toWRf.more n).cut hH (.inr rfl) hl2.1 [(0,0)]
     have hfl:=g5 _ e2
     rw[ea2] at hfl
     have hHk:updH H [(k',(H k').cut (p++[(i,off)]))] k'=(H k').cut (p++[(i,off)]):=by simp[updH,lk]
     obtain⟨nlK,fK,hKs⟩:=okp_nil_sl (okp_at _ _ hK.1) (by omega)
     rw[hKe,hKn] at hKs
     obtain⟨hk1,hk2,hk3⟩:=(g3 k').hd p vs hx.1.1 (by rw[hHk];exact hK)
     have hb':=hk3 _ e1
     have ha':=hv0 (.inr rfl)
     have hshort:Ow w (mv own k' (p++[(i,off)]) n [(0,0)]) n (.sl true (if nl2=some false then some false else none) es2 hi ff2) [(0,0)] (a.eval y):=by
      rw[hv2,ha']
      rcases hfl with ⟨e2,ad2,e1,e3⟩|⟨b2,c2,cc,T2,e1,e2,e3,e4,e5,e6,e7,e8⟩
      ·simp only[Value.slice.injEq] at e1
       obtain⟨ead,_,rfl⟩:=e1
       have:hi=0:=by omega
       subst this
       refine .inl ⟨rfl,ad2,by simp[addr_add0,ead],?_⟩
       by_cases hf:nl2=some false
       ·rw[if_pos hf];rw[hf] at e3;exact e3
       ·rw[if_neg hf];exact⟨fun e=>by simp at e,fun e=>by simp at e⟩
      ·simp only[Value.slice.injEq] at e1
       obtain⟨rfl,_,rfl⟩:=e1
       refine .inr ⟨b2,cap2,cc,T2,by simp[Addr.add_lit],by split<;>simp,e3,e4,by omega,e6,e7,fun i' hi' j hj=>e8 i' (by omega) j hj⟩
     have hone:(a.eval y).oneCell'=true∧(a.eval y).cells=#[a.eval y]:=by rw[hv2];exact⟨rfl,rfl⟩
     obtain⟨w',own',k1,k2,k3,k4⟩:=store_core (P:=P) g1 (.inr rfl) n0 g4 (k:=k') (p:=p) (by rw[hHk];exact hK.1) (by rw[hHk];exact hKs) (off:=off) him (ys:=[.sl true (if nl2=some false then some false else none) es2 hi ff2]) (xs:=[a.eval y]) rfl
      (fun c y' hy'=>by
       cases c with
       |zero=>simp only[List.getElem?_cons_zero,Option.some.injEq] at hy';subst hy';exact⟨_,rfl,hshort⟩
       |succ c=>simp at hy')
      (fun z hz=>by simp at hz;rw[hz];exact hone.1) (by simpa using hoff) hb' rfl
     have hpl:([AV.sl true (if nl2=some false then some false else none) es2 hi ff2].all plain)=false:=rfl
     rw[hpl,hHk] at k2 k4
     have hHeq:∀X:OB,updH (updH H [(k',(H k').cut (p++[(i,off)]))]) [(k',X)]=updH H [(k',X)]:=fun X=>by
      funext z
      simp only[updH,lk]
      split<;>rfl
     rw[hHeq] at k2 k4
     refine⟨undef,w',own',rt,.inr ⟨hrun ?_,rfl⟩,h.over k2 (fun b o e1 e2=>k3 b o (g2.none b e1) e2) (fun k hk=>(g3 k).trans (k4 k (fun e=>hn (e▸hk)))) (fun k hk=>.inl hk) hd (t:=.junk) trivial (fun k hk=>hk.elim)⟩
     rw[hv]
     simp only[ea,AV.es]
     refine run_storeAt (by rw[hsz];simp) (by rw[hone.2,hsz];rfl) ?_
     rw[hone.2]
     exact k1
    ·exact hok.elim
   ·obtain⟨hl,him,hs,hcan,hcl,hoff,hK,hKe,hKn⟩:=hok
    obtain⟨b,m',cap,e1,hv⟩:=hx.2 hl
    obtain⟨v1,f1,f2⟩:=live_row h hl
    rw[e1] at f1
    cases f1
    rw[ea] at f2
    obtain⟨_,_,e3,_⟩:=ow_slice f2
    simp only[Value.slice.injEq] at e3
    obtain⟨_,rfl,_⟩:=e3
    obtain⟨own1,g1,g2,g3,g4,g5,g6,g7⟩:=gatherT (h.toWRf.more n) hH (.inr rfl) (fun c=>[(0,c)]) hs hy
    obtain⟨nlK,fK,hKs⟩:=okp_nil_sl (okp_at _ _ hK.1) (by omega)
    rw[hKe,hKn] at hKs
    obtain⟨hk1,hk2,hk3⟩:=(g6 k).hd p vs hx.1.1 hK
    have hb':=hk3 _ e1
    have hz:(tk P t).sz≠0:=by
     intro hz
     simp only[TK.can,hz] at hcan
     split at hcan<;>simp at hcan
    obtain⟨w',own',k1,k2,k3,k4⟩:=store_core (P:=P) g2 (.inr rfl) n0 g7 (k:=k) (p:=p) hK.1 hKs (off:=off) him (ys:=(sto H ty).cs) (xs:=(a.eval y).cells.toList) (by simpa using g1.symm)
     (fun c y' hy'=>by
      obtain⟨x,q1,q2⟩:=g3 c y' hy'
      exact⟨x,by simpa using q1,q2⟩)
     g4 hoff hb' rfl
    have hHeq:∀X:OB,updH (updH H (sto H ty).hu) [(k,X)]=updH H ((k,X)::(sto H ty).hu):=fun X=>by
     rw[←updH_append];rfl
    rw[hHeq] at k2 k4
    refine⟨undef,w',own',rt,.inr ⟨hrun ?_,rfl⟩,h.over k2 (fun b o e1 e2=>k3 b o (g5.none b e1) e2) (fun k hk=>(g6 k).trans (k4 k (fun e=>hn (e▸hk)))) (fun k hk=>.inl hk) hd (t:=.junk) trivial (fun k hk=>hk.elim)⟩
    rw[hv]
    simp only[ea,AV.es]
    exact run_storeAt hz (by rw[g1,hcl]) k1
  ·exact hok.elim
 ·exact hok.elim
end
end Go.AM
/- The framework AM:maps. -/
namespace Go.AM
open Go
theorem entL_app:∀(l m:List (Int×Int×Int)) (n:Nat),entL n (l++m)=entL n l++entL (n+l.length) m
 |[],m,n=>rfl
 |x::r,m,n=>by
  simp only[List.cons_append,entL,List.length_cons,entL_app r m (n+1)]
  rw[show n+1+r.length=n+(r.length+1) by omega]
theorem entL_get:∀(l:List (Int×Int×Int)) (n j:Nat),(entL n l)[j]?=(l[j]?).map fun x=>⟨prV x.1 x.2.1,.int .i64 x.2.2,n+j⟩
 |[],n,j=>by simp[entL]
 |x::r,n,0=>by simp[entL]
 |x::r,n,j+1=>by
  simp only[entL,List.getElem?_cons_succ,entL_get r (n+1) j]
  rw[show n+1+j=n+(j+1) by omega]
theorem mix_le:∀(l:List (Int×Int×Int)) (a b:Int),mix l a b≤l.length
 |[],a,b=>Nat.le_refl _
 |x::r,a,b=>by
  simp only[mix,List.length_cons]
  have:=mix_le r a b
  split<;>omega
theorem mix_none:∀{l:List (Int×Int×Int)} {a b:Int},(∀x∈l,mkey x≠(a,b))→mix l a b=l.length∧mget l a b=0
 |[],a,b,_=>⟨rfl,rfl⟩
 |x::r,a,b,h=>by
  have h1:=h x (by simp)
  obtain⟨g1,g2⟩:=mix_none (l:=r) (a:=a) (b:=b) (fun y hy=>h y (by simp[hy]))
  simp only[mix,mget,if_neg h1,List.length_cons,g1,g2,and_self]
theorem mix_some:∀{l:List (Int×Int×Int)} {a b:Int} {j:Nat} {x:Int×Int×Int},(l.map mkey).Nodup→l[j]?=some x→mkey x=(a,b)→mix l a b=j∧mget l a b=x.2.2
 |[],a,b,j,x,_,h,_=>by simp at h
 |y::r,a,b,j,x,hn,h,hk=>by
  simp only[List.map_cons,List.nodup_cons] at hn
  cases j with
  |zero=>
   obtain rfl:y=x:=by simpa using h
   simp only[mix,mget,if_pos hk,and_self]
  |succ j=>
   have h:r[j]?=some x:=by simpa using h
   have hne:mkey y≠(a,b):=fun e=>hn.1 (List.mem_map.2 ⟨x,List.mem_of_getElem? h,by rw[hk,e]⟩)
   obtain⟨g1,g2⟩:=mix_some hn.2 h hk
   simp only[mix,mget,if_neg hne,g1,g2,and_self]
theorem mix_ge_none {l:List (Int×Int×Int)} {a b:Int} (h:¬mix l a b<l.length):∀x∈l,mkey x≠(a,b):=by
 induction l with
 |nil=>intro x hx;cases hx
 |cons y r ih=>
  simp only[mix,List.length_cons] at h
  by_cases e:mkey y=(a,b)
  ·rw[if_pos e] at h;omega
  ·rw[if_neg e] at h
   intro x hx
   rcases List.mem_cons.1 hx with rfl|hx
   ·exact e
   ·exact ih (by omega) x hx
theorem mget_ment {l:List (Int×Int×Int)} {a b:Int} (c d:Int):mget (ment l a b) c d=mget l c d:=by
 unfold ment
 split
 ·rfl
 ·rename_i h
  clear h
  induction l with
  |nil=>simp only[List.nil_append,mget];split<;>rfl
  |cons x r ih=>simp only[List.cons_append,mget,ih]
theorem ment_ok {l:List (Int×Int×Int)} {a b:Int} (h:mpOk l) (ha:inK .i64 a) (hb:inK .i64 b):mpOk (ment l a b):=by
 unfold ment
 split
 ·exact h
 ·rename_i hn
  refine⟨fun x hx=>?_,?_⟩
  ·rcases List.mem_append.1 hx with hx|hx
   ·exact h.1 x hx
   ·obtain rfl:x=(a,b,0):=by simpa using hx
    exact⟨ha,hb,(⟨by decide,by decide⟩:inK .i64 0)⟩
  ·rw[List.map_append,List.nodup_append]
   refine⟨h.2,by simp,fun k hk k' hk' e=>?_⟩
   obtain⟨x,hx,rfl⟩:=List.mem_map.1 hk
   have:k'=(a,b):=by simpa [mkey] using hk'
   exact mix_ge_none hn x hx (e.trans this)
theorem mset_len:∀(l:List (Int×Int×Int)) (j:Nat) (v:Int),(mset l j v).length=l.length
 |[],_,_=>rfl
 |x::r,0,v=>rfl
 |x::r,j+1,v=>by simp[mset,mset_len r]
theorem mset_keys:∀(l:List (Int×Int×Int)) (j:Nat) (v:Int),(mset l j v).map mkey=l.map mkey
 |[],_,_=>rfl
 |x::r,0,v=>rfl
 |x::r,j+1,v=>by simp[mset,mset_keys r]
theorem mset_ok {l:List (Int×Int×Int)} {j:Nat} {v:Int} (h:mpOk l) (hv:inK .i64 v):mpOk (mset l j v):=by
 refine⟨?_,by rw[mset_keys];exact h.2⟩
 obtain⟨h,h2⟩:=h
 clear h2
 induction l generalizing j with
 |nil=>intro x hx;cases hx
 |cons y r ih=>
  cases j with
  |zero=>
   intro x hx
   rcases List.mem_cons.1 hx with rfl|hx
   ·have:=h y (by simp)
    exact⟨this.1,this.2.1,hv⟩
   ·exact h x (by simp[hx])
  |succ j=>
   intro x hx
   rcases List.mem_cons.1 hx with rfl|hx
   ·exact h _ (by simp)
   ·exact ih (fun z hz=>h z (by simp[hz])) x hx
theorem entL_mset:∀(l:List (Int×Int×Int)) (n j:Nat) (v:Int),entL n (mset l j v)=(entL n l).modify j fun e=>{ e with val:=.int .i64 v}
 |[],n,j,v=>by cases j<;>rfl
 |x::r,n,0,v=>rfl
 |x::r,n,j+1,v=>by
  simp only[mset,entL,List.modify_succ_cons,entL_mset r (n+1) j v]
theorem entL_born:∀(l:List (Int×Int×Int)) (n j:Nat),j<l.length→(entL n l).findIdx? (fun e=>(e.born:Int)==((n+j:Nat):Int))=some j
 |[],n,j,h=>by simp at h
 |x::r,n,0,h=>by simp[entL,List.findIdx?_cons]
 |x::r,n,j+1,h=>by
  have:=entL_born r (n+1) j (by simpa using h)
  rw[show n+1+j=n+(j+1) by omega] at this
  simp only[entL,List.findIdx?_cons]
  rw[this,if_neg]
  ·rfl
  ·simp only[beq_iff_eq];omega
section
variable {N:Nat} {w0:World} {E A:Nat→Prop} {F:Frm} {T:Nat→TV} {H:Nat→OB} {a:Act} {w:World} {own:Own} {rt:Rt} {P:Program} {o:Oper} {n:Nat}
theorem mgo {b:Nat} {es:Array MapEntry} {clock:Nat} (hb:w.heap[b]?=some (.map es clock)):(getObj b).run P w=.ok (.map es clock) w:=by
 simp[getObj,Sem.run,hb]
theorem mso {b:Nat} {es:Array MapEntry} {clock:Nat} (o:Obj) (hb:w.heap[b]?=some (.map es clock)):(setObj b o).run P w=.ok () { w with heap:=w.heap.setIfInBounds b o}:=by
 simp[setObj,Sem.run,hb]
theorem map_at (h:SRf N w0 E F A T H a w own rt) {x:Operand} {k:Nat} {vs:List Nat} {es:List (Int×Int×Int)} (e:mapA H (opd T x)=some (k,vs,es)) (hl:(H k).live [] vs):
 opd T x=.one (.own k [] vs)∧(H k).a=.mp es∧A k∧k≠0∧∃b,a.eval x=.map (some b)∧rt k=.map (some b)∧own b=some (k,[])∧w.heap[b]?=some (.map (entL 0 es).toArray es.length)∧mpOk es:=by
 have hx:=opd_rel h x
 have hm:=opd_men h x
 generalize opd T x=t at *
 unfold mapA at e
 split at e
 ·rename_i k' vs'
  split at e
  ·rename_i es' he
   simp only[Option.some.injEq,Prod.mk.injEq] at e
   obtain⟨rfl,rfl,rfl⟩:=e
   have hA:A k':=hm k' rfl
   have ho:=h.obj k'
   rw[he] at ho
   obtain⟨b,e1,e2,e3,e4⟩:=ho
   have hv:=hx.2 hl
   rw[he] at hv
   have hv:some (rt k')=some (a.eval x):=hv
   have hv:rt k'=a.eval x:=Option.some.inj hv
   refine⟨rfl,he,hA,?_,b,by rw[←hv,e1],e1,e2,e3,e4⟩
   rintro rfl
   rw[h.frn0.1] at he
   cases he
  ·cases e
 ·cases e
theorem key_at (h:SRf N w0 E F A T H a w own rt) {y:Operand} {c d:Int} (e:keyA (opd T y)=some (c,d)):a.eval y=prV c d∧inK .i64 c∧inK .i64 d:=by
 have hy:=opd_rel h y
 generalize opd T y=t at *
 unfold keyA at e
 split at e
 ·simp only[Option.some.injEq,Prod.mk.injEq] at e
  obtain⟨rfl,rfl⟩:=e
  obtain⟨cs,e1,e2,e3⟩:=hy
  obtain⟨x,h1,h2⟩:=e3 0 _ rfl
  obtain⟨y,h3,h4⟩:=e3 1 _ rfl
  obtain⟨rfl,h2⟩:=h2
  obtain⟨rfl,h4⟩:=h4
  refine⟨?_,h2,h4⟩
  rw[e1]
  unfold prV
  congr 1
  apply Array.ext (by simpa using e2)
  intro i g1 g2
  have:i=0∨i=1:=by
   have:i<2:=g2
   omega
  rcases this with rfl|rfl
  ·rw[Array.getElem?_eq_getElem g1] at h1
   exact Option.some.inj h1
  ·rw[Array.getElem?_eq_getElem g1] at h3
   exact Option.some.inj h3
 ·cases e
theorem pure_lookup {t:TypeId} {x y:Operand} (h:SRf N w0 E F A T H a w own rt) (ho:o.op=.lookup t x y false) (hok:(aop P o.op (opd T) H n).ok):Pure1 P o a w own rt H (aop P o.op (opd T) H n).v:=by
 rw[ho] at hok ⊢
 simp only[aop] at hok ⊢
 split at hok
 ·rename_i k vs es c d e1 e2
  obtain⟨⟨kt,et,ht,hz,hK⟩,hl⟩:=hok
  obtain⟨_,_,_,_,b,hv,_,_,hb,hm⟩:=map_at h e1 hl
  obtain⟨hk,hc,hd⟩:=key_at h e2
  obtain⟨g1,g2,g3⟩:=hK w c d hc hd
  refine⟨.int .i64 (mget es c d),?_,⟨rfl,?_⟩,rfl⟩
  ·simp only[execOp,ho,hv,hk,Sem.run_bind]
   rcases g3 es (fun x hx=>⟨(hm.1 x hx).1,(hm.1 x hx).2.1⟩) 0 with ⟨f1,f2⟩|⟨j,x,f1,f2,f3⟩
   ·rw[(mix_none f2).2]
    simp[Instr.lookup,run_underlying ht,mgo hb,g1,f1,hz,Result.andThen]
   ·rw[(mix_some hm.2 f1 f2).2]
    simp[Instr.lookup,run_underlying ht,mgo hb,g1,f3,Result.andThen]
  ·rcases g3 es (fun x hx=>⟨(hm.1 x hx).1,(hm.1 x hx).2.1⟩) 0 with ⟨f1,f2⟩|⟨j,x,f1,f2,f3⟩
   ·rw[(mix_none f2).2];exact⟨by decide,by decide⟩
   ·rw[(mix_some hm.2 f1 f2).2];exact(hm.1 x (List.mem_of_getElem? f1)).2.2
 ·exact hok.elim
theorem set_map {b:Nat} {x y:Obj} (hb:w.heap[b]?=some x):(w.heap.setIfInBounds b y)[b]?=some y:=by
 have:=(Array.getElem?_eq_some_iff.1 hb).1
 simp[this]
theorem set_other {b c:Nat} {y:Obj} (h:c≠b):(w.heap.setIfInBounds b y)[c]?=w.heap[c]?:=by
 rw[Array.getElem?_setIfInBounds,if_neg (Ne.symm h)]
theorem map_put (h:SRf N w0 E F A T H a w own rt) {k b:Nat} {es es':List (Int×Int×Int)} (hA:A k) (k0:k≠0) (he:(H k).a=.mp es) (hr:rt k=.map (some b)) (ho:own b=some (k,[])) (hb:w.heap[b]?=some (.map (entL 0 es).toArray es.length)) (hm:mpOk es')
 {d:Option Tmp} (hd:∀s,d=some s→s<N) {t:TV} {v:Value} (hv:∀H',RelT { w with heap:=w.heap.setIfInBounds b (.map (entL 0 es').toArray es'.length)} own rt H' t v) (hmn:∀k,t.mn k→A k):
 SRf N w0 E F A (updT T d t) (updH H [(k,⟨.mp es',(H k).vs⟩)]) (a.put d v) { w with heap:=w.heap.setIfInBounds b (.map (entL 0 es').toArray es'.length)} own rt:=by
 have hx:Ow { w with heap:=w.heap.setIfInBounds b (.map (entL 0 es').toArray es'.length)} own k (.mp es') [] (.map (some b)):=⟨b,rfl,ho,set_map hb,hm⟩
 obtain⟨f1,f2,f3⟩:=h.toWRf.write hA k0 ho (w':={ w with heap:=w.heap.setIfInBounds b (.map (entL 0 es').toArray es'.length)}) (fun c hc=>set_other hc) (by simp) rfl rfl rfl (vs:=(H k).vs) hx
 have hrt:(fun k'=>if k'=k then (.map (some b):Value) else rt k')=rt:=by
  funext k'
  by_cases e:k'=k
  ·subst e;rw[if_pos rfl,hr]
  ·rw[if_neg e]
 rw[hrt] at f1 f3
 refine h.over f1 f2 (fun k' hk'=>?_) (fun _ hk=>hk) hd (hv _) hmn
 by_cases e:k'=k
 ·subst e
  have hH:updH H [(k',⟨.mp es',(H k').vs⟩)] k'=⟨.mp es',(H k').vs⟩:=by simp[updH,lk]
  refine⟨by rw[hH];exact vle.refl _,fun q vs hvs hl=>?_⟩
  rw[hH] at hl ⊢
  cases q with
  |cons x q=>exact hl.1.elim
  |nil=>
   refine⟨⟨by rw[he];trivial,hl.2⟩,by rw[he];rfl,fun v hv=>?_⟩
   rw[he] at hv
   exact hv
 ·exact f3 k' e
theorem did_mapEntry {t:TypeId} {x y:Operand} (h:SRf N w0 E F A T H a w own rt) (hd:∀s,o.dst=some s→s<N) (ho:o.op=.mapEntry t x y) (hok:(aop P o.op (opd T) H n).ok):
 Did P o N w0 E F A (updT T o.dst (aop P o.op (opd T) H n).v) (updH H (aop P o.op (opd T) H n).hu) a w:=by
 rw[ho] at hok ⊢
 simp only[aop] at hok ⊢
 split at hok
 ·rename_i k vs es c d e1 e2
  obtain⟨⟨kt,et,ht,hz,hK⟩,hl,hlen⟩:=hok
  obtain⟨_,he,hA,k0,b,hv,hr,hown,hb,hm⟩:=map_at h e1 hl
  obtain⟨hk,hc,hd2⟩:=key_at h e2
  obtain⟨g1,g2,g3⟩:=hK w c d hc hd2
  have hmx:inK .i64 (mix es c d:Int):=by
   have:=mix_le es c d
   simp only[maxLen] at hlen
   exact⟨by show (-9223372036854775808:Int)≤_;omega,by show _≤(9223372036854775807:Int);omega⟩
  have hgt:inK .i64 (mget es c d):=by
   rcases g3 es (fun x hx=>⟨(hm.1 x hx).1,(hm.1 x hx).2.1⟩) 0 with ⟨f1,f2⟩|⟨j,x,f1,f2,f3⟩
   ·rw[(mix_none f2).2];exact⟨by decide,by decide⟩
   ·rw[(mix_some hm.2 f1 f2).2];exact(hm.1 x (List.mem_of_getElem? f1)).2.2
  refine⟨.tuple #[.int .i64 (mget es c d),.int .i64 (mix es c d)],_,own,rt,.inl ?_,map_put h hA k0 he hr hown hb (ment_ok hm hc hd2) hd (fun H'=>⟨_,rfl,rfl,fun j c' hj=>?_⟩) (fun k hk=>?_)⟩
  ·simp only[execOp,ho,hv,hk,Sem.run_bind]
   rcases g3 es (fun x hx=>⟨(hm.1 x hx).1,(hm.1 x hx).2.1⟩) 0 with ⟨f1,f2⟩|⟨j,x,f1,f2,f3⟩
   ·obtain⟨q1,q2⟩:=mix_none f2
    have em:ment es c d=es++[(c,d,0)]:=if_neg (by omega)
    have ea:((entL 0 es).toArray.push ⟨prV c d,.int .i64 0,es.length⟩)=(entL 0 (ment es c d)).toArray:=by
     rw[em,entL_app]
     simp[entL]
    rw[q1,q2]
    simp[Instr.mapEntry,run_underlying ht,mgo hb,mso _ hb,g1,f1,hz,Result.andThen,goInt,em,entL_app,entL]
   ·obtain⟨q1,q2⟩:=mix_some hm.2 f1 f2
    have hj:j<es.length:=(List.getElem?_eq_some_iff.1 f1).1
    have em:ment es c d=es:=if_pos (by omega)
    have hent:(entL 0 es)[j]?=some ⟨prV x.1 x.2.1,.int .i64 x.2.2,j⟩:=by rw[entL_get,f1];simp
    have hkx:prV x.1 x.2.1=prV c d:=by
     have:=f2
     simp only[mkey,Prod.mk.injEq] at this
     rw[this.1,this.2]
    have hmod:(entL 0 es).modify j (fun e=>{ e with key:=prV c d})=entL 0 es:=by
     apply List.ext_getElem?
     intro i
     rw[List.getElem?_modify]
     by_cases e:j=i
     ·subst e;rw[hent];simp[hkx]
     ·simp[e]
    rw[q1,q2,em]
    simp[Instr.mapEntry,run_underlying ht,mgo hb,mso _ hb,g1,g2,f3,hent,hkx,hmod,Result.andThen,goInt]
  ·match j,hj with
   |0,hj=>cases hj;exact⟨_,rfl,rfl,hgt⟩
   |1,hj=>cases hj;exact⟨_,rfl,rfl,hmx⟩
   |j+2,hj=>simp at hj
  ·obtain⟨c',hc',hk⟩:=hk
   simp only[List.mem_cons,List.not_mem_nil,or_false] at hc'
   rcases hc' with rfl|rfl<;>exact hk.elim
 ·exact hok.elim
theorem did_entryStore {t:TypeId} {x y z:Operand} (h:SRf N w0 E F A T H a w own rt) (hd:∀s,o.dst=some s→s<N) (ho:o.op=.entryStore t x y z) (hok:(aop P o.op (opd T) H n).ok):
 Did P o N w0 E F A (updT T o.dst (aop P o.op (opd T) H n).v) (updH H (aop P o.op (opd T) H n).hu) a w:=by
 rw[ho] at hok ⊢
 simp only[aop] at hok ⊢
 have hy:=opd_rel h y
 have hz':=opd_rel h z
 generalize opd T y=ty at *
 generalize opd T z=tz at *
 split at hok
 ·rename_i k vs es j v e1
  obtain⟨⟨kt,et,ht,hz,hK⟩,hl,h0,hj⟩:=hok
  obtain⟨_,he,hA,k0,b,hv,hr,hown,hb,hm⟩:=map_at h e1 hl
  obtain⟨hy1,hy2⟩:=hy
  obtain⟨hz1,hz2⟩:=hz'
  refine⟨undef,_,own,rt,.inr ⟨?_,rfl⟩,map_put h hA k0 he hr hown hb (mset_ok hm hz2) hd (fun H'=>trivial) (fun k hk=>hk.elim)⟩
  have hborn:=entL_born es 0 j.toNat hj
  rw[Nat.zero_add,Int.toNat_of_nonneg h0] at hborn
  simp only[execOp,ho,hv,hy1,hz1,Sem.run_bind]
  simp[Instr.entryStore,mgo hb,mso _ hb,asInt,asIntOf,hborn,entL_mset,mset_len,Result.andThen]
 ·exact hok.elim
theorem did_makeMap {t:TypeId} (h:SRf N w0 E F A T H a w own rt) (hd:∀s,o.dst=some s→s<N) (hn:¬A n) (ho:o.op=.makeMap t none) (_hok:(aop P o.op (opd T) H n).ok):
 Did P o N w0 E F (fun k=>A k∨k=n) (updT T o.dst (aop P o.op (opd T) H n).v) (updH H (aop P o.op (opd T) H n).hu) a w:=by
 rw[ho]
 simp only[aop]
 have n0:=not_zero h.toWRf hn
 let w':World:={ w with heap:=w.heap.push (.map #[] 0)}
 have hold:∀(b:Nat) (o:Obj),w.heap[b]?=some o→b≠w.heap.size∧w'.heap[b]?=some o:=fun b o e=>by
  have hlt:=(Array.getElem?_eq_some_iff.1 e).1
  refine⟨by omega,?_⟩
  show (w.heap.push _)[b]?=_
  rw[Array.getElem?_push,if_neg (by omega)]
  exact e
 have hHn:updH H [(n,⟨.mp [],[]⟩)] n=⟨.mp [],[]⟩:=by simp[updH,lk]
 have hHo:∀k,k≠n→updH H [(n,⟨.mp [],[]⟩)] k=H k:=fun k e=>by simp[updH,lk,Ne.symm e]
 have h0:∀b o,own b=none→w.heap[b]?=some o→(fun b=>if b=w.heap.size then some (n,[]) else own b) b=none∧w'.heap[b]?=some o:=fun b o e1 e2=>by
  obtain⟨g1,g2⟩:=hold b o e2
  exact⟨by dsimp only;rw[if_neg g1];exact e1,g2⟩
 have hoo:∀b o k q,own b=some (k,q)→w.heap[b]?=some o→(fun b=>if b=w.heap.size then some (n,([]:Path)) else own b) b=some (k,q)∧w'.heap[b]?=some o:=fun b o k q e1 e2=>by
  obtain⟨g1,g2⟩:=hold b o e2
  exact⟨by dsimp only;rw[if_neg g1];exact e1,g2⟩
 have hsz:w'.heap.size=w.heap.size+1:=by show (w.heap.push _).size=_;simp
 have hM:=h.toWRf.more n
 have hW:WRf w0 E F (fun k=>A k∨k=n) (updH H [(n,⟨.mp [],[]⟩)]) w' (fun b=>if b=w.heap.size then some (n,[]) else own b) (fun k=>if k=n then .map (some w.heap.size) else rt k):=by
  refine⟨⟨h.keep.os,h.keep.tape,h.keep.output,by have:=h.keep.size;omega,fun b hb he=>?_⟩,fun b x e=>?_,fun k=>?_,fun k hk=>?_,fun b k q e=>?_,fun b hb=>?_,?_⟩
  ·show (w.heap.push _)[b]?=_
   rw[Array.getElem?_push,if_neg (by have:=h.keep.size;omega)]
   exact h.keep.block b hb he
  ·try dsimp only at e
   split at e
   ·rename_i eb
    subst eb
    exact⟨by omega,.inl h.keep.size⟩
   ·have:=h.dom b x e
    exact⟨by omega,this.2⟩
  ·by_cases ek:k=n
   ·subst ek
    rw[hHn]
    try dsimp only
    rw[if_pos rfl]
    refine⟨w.heap.size,rfl,if_pos rfl,?_,(⟨fun x hx=>(by cases hx),by simp⟩:mpOk [])⟩
    show (w.heap.push _)[w.heap.size]?=_
    simp[entL]
   ·rw[hHo k ek]
    try dsimp only
    rw[if_neg ek]
    exact Ow.mono h0 _ _ _ _ (fun b o q e1 e2=>hoo b o _ _ e1 e2) (h.obj k)
  ·have ek:k≠n:=fun e=>hk (.inr e)
   rw[hHo k ek]
   exact hM.dead k hk
  ·try dsimp only at e
   split at e
   ·cases e;exact .inr rfl
   ·exact .inl (h.owned b k q e)
  ·have:=h.frn b hb
   have h2:=(h.dom b _ this).1
   try dsimp only
   rw[if_neg (by omega)]
   exact this
  ·exact⟨by rw[hHo 0 (Ne.symm n0)];exact h.frn0.1,.inl h.frn0.2⟩
 refine⟨.map (some w.heap.size),w',_,_,.inl ?_,h.over hW h0 (fun k hk=>?_) (fun k hk=>.inl hk) hd (v:=.map (some w.heap.size)) (t:=.one (.own n [] [0])) ⟨?_,fun _=>?_⟩ (fun k hk=>.inr hk.symm)⟩
 ·simp[execOp,ho,Instr.makeMap,newObj,Sem.run,w']
 ·have hk:k≠n:=fun e=>hn (e▸hk)
  exact Over.same (h.obj k) (hHo k hk) (if_neg hk) (fun b o q e1 e2=>(hold b o e2).2)
 ·rw[hHn];exact vle0
 ·rw[hHn]
  show some (if n=n then _ else _)=some _
  rw[if_pos rfl]
end
end Go.AM
/- The framework AM,part 15:all operations that are no calls of Go functions. -/
namespace Go.AM
open Go
theorem cellsF_mn {g:Nat→SV} {k:Nat}:∀{m o:Nat} {s:SV},s∈cellsF g o m→∃j,s=g j
 |0,o,s,h=>by cases h
 |m+1,o,s,h=>by
  rcases List.mem_cons.1 h with rfl|h
  ·exact⟨o,rfl⟩
  ·exact cellsF_mn (k:=k) h
theorem ldTV_mn {P:Program} {t:TypeId} {g:Nat→SV} {o k:Nat} (h:(ldTV P t g o).mn k):∃j,(g j).mn k:=by
 unfold ldTV at h
 split at h
 ·obtain⟨s,hs,hk⟩:=h
  obtain⟨j,rfl⟩:=cellsF_mn (k:=k) hs
  exact⟨j,hk⟩
 ·exact⟨o,h⟩
theorem intOp_mn {op:BinOp} {kk:IntKind} {x y:Int} {k:Nat}:¬(intOp op kk x y).2.mn k:=by
 cases op<;>exact fun h=>h
theorem shOp_mn {op:BinOp} {kk:IntKind} {x y:Int} {k:Nat}:¬(shOp op kk x y).2.mn k:=by
 cases op<;>exact fun h=>h
theorem rngOp_mn {op:BinOp} {kk k':IntKind} {lo hi:Int} {k:Nat}:¬(rngOp op kk k' lo hi).2.mn k:=by
 cases op<;>simp only[rngOp]<;>first|exact fun h=>h|(split<;>exact fun h=>h)
theorem binop_mn {P:Program} {t:TypeId} {op:BinOp} {x y:TV} {k:Nat}:¬(binop P t op x y).2.mn k:=by
 unfold binop
 intro h
 split at h
 ·exact shOp_mn h
 ·exact shOp_mn h
 ·exact intOp_mn h
 all_goals first
  |exact h
  |(split at h<;>first|exact h|exact rngOp_mn h)
theorem putRange_mem {α:Type}:∀{l:List α} {n:Nat} {ys:List α} {x:α},x∈putRange l n ys→x∈l∨x∈ys
 |[],0,[],x,h=>by simp[putRange] at h
 |[],0,_::_,x,h=>by simp[putRange] at h
 |[],n+1,[],x,h=>by simp[putRange] at h
 |[],n+1,_::_,x,h=>by simp[putRange] at h
 |y::r,0,[],x,h=>.inl h
 |y::r,0,z::ys,x,h=>by
  simp only[putRange] at h
  rcases List.mem_cons.1 h with rfl|h
  ·exact .inr (by simp)
  ·rcases putRange_mem h with h|h
   ·exact .inl (by simp[h])
   ·exact .inr (by simp[h])
 |y::r,n+1,ys,x,h=>by
  simp only[putRange] at h
  rcases List.mem_cons.1 h with rfl|h
  ·exact .inl (by simp)
  ·rcases putRange_mem h with h|h
   ·exact .inl (by simp[h])
   ·exact .inr h
theorem cells_mn {t:TV} {s:SV} {k:Nat} (h:s∈t.cells) (hk:s.mn k):t.mn k:=by
 cases t with
 |one s'=>simp[TV.cells] at h;subst h;exact hk
 |agg l=>exact⟨s,h,hk⟩
 |tup l=>simp[TV.cells] at h
 |cnd b s'=>simp[TV.cells] at h
theorem buildF_mn {P:Program} {t:TypeId} {ρ:Operand→TV} {k:Nat}:∀{parts:List (Nat×Operand)} {l:List SV} {s:SV},s∈buildF P t ρ parts l→s.mn k→(∃s∈l,s.mn k)∨∃x,(ρ x).mn k
 |[],l,s,h,hk=>.inl ⟨s,h,hk⟩
 |(i,x)::r,l,s,h,hk=>by
  rcases buildF_mn (parts:=r) h hk with ⟨s',h',hk'⟩|h'
  ·rcases putRange_mem h' with h'|h'
   ·exact .inl ⟨s',h',hk'⟩
   ·exact .inr ⟨x,cells_mn h' hk'⟩
  ·exact .inr h'
theorem mn0_mn {s:SV} {k:Nat} (h:s.mn0 k):s.mn k:=by
 cases s<;>first|exact h|exact h.elim
theorem cloOps_mn {ρ:Operand→TV} {k:Nat}:∀{l:List Operand} {m:List SV},cloOps ρ l=some m→∀s∈m,s.mn0 k→∃x,(ρ x).mn k
 |[],m,e,s,hs,_=>by simp[cloOps] at e;subst e;cases hs
 |x::r,m,e,s,hs,hk=>by
  simp only[cloOps] at e
  split at e
  ·rename_i s' l e1 e2
   simp only[Option.some.injEq] at e
   subst e
   rcases List.mem_cons.1 hs with rfl|hs
   ·exact⟨x,by rw[e1];exact mn0_mn hk⟩
   ·exact cloOps_mn e2 s hs hk
  ·cases e
theorem gl_mem {α:Type} {d:α}:∀{l:List α} {i:Nat},gl d l i∈l∨gl d l i=d
 |[],i=>.inr rfl
 |x::r,0=>.inl (by simp[gl])
 |x::r,i+1=>by
  rcases gl_mem (d:=d) (l:=r) (i:=i) with h|h
  ·exact .inl (by simp[gl,h])
  ·exact .inr (by simpa [gl] using h)
theorem aop_mn {P:Program} (op:Op) (ρ:Operand→TV) (H:Nat→OB) (n k:Nat) (h:(aop P op ρ H n).v.mn k):k=n∨∃x,(ρ x).mn k:=by
 cases op with
 |move x=>exact .inr ⟨x,h⟩
 |assign x=>exact .inr ⟨x,h⟩
 |pick c x y=>
  simp only[aop] at h
  split at h<;>exact h.elim
 |box t x=>exact .inl h.symm
 |alloc t=>exact .inl h.symm
 |build t parts=>
  simp only[aop] at h
  obtain⟨s,hs,hk⟩:=h
  rcases buildF_mn hs hk with ⟨s',h',hk'⟩|h'
  ·simp only[List.mem_map] at h'
   obtain⟨v,_,rfl⟩:=h'
   exact hk'.elim
  ·exact .inr h'
 |buildSlice t len parts=>
  simp only[aop] at h
  split at h
  ·exact h.elim
  ·exact .inl h.symm
 |load t x=>
  simp only[aop] at h
  split at h
  ·dsimp only at h
   obtain⟨j,hj⟩:=ldTV_mn h;exact hj.elim
  ·rename_i kk p vs i o hx
   split at h
   ·dsimp only at h
    obtain⟨j,hj⟩:=ldTV_mn h
    refine .inr ⟨x,?_⟩
    rw[hx]
    unfold ldc at hj
    split at hj
    ·exact hj
    ·exact hj.elim
    ·exact hj.elim
   ·exact h.elim
  ·exact h.elim
 |store t x y=>
  simp only[aop] at h
  split at h
  ·split at h
   ·split at h
    ·split at h<;>exact h.elim
    ·exact h.elim
   ·exact h.elim
  ·exact h.elim
 |nilCheck x=>
  simp only[aop] at h
  split at h
  ·exact h.elim
  ·rename_i hx;exact .inr ⟨x,by rw[hx];exact h⟩
  ·exact h.elim
 |binOp op t x y yt=>
  simp only[aop] at h
  split at h
  ·split at h<;>exact h.elim
  ·split at h<;>exact h.elim
  ·exact(binop_mn h).elim
 |unOp op t x=>
  cases op<;>simp only[aop] at h
  all_goals first
   |exact h.elim
   |(split at h<;>exact h.elim)
 |convert s d x=>
  simp only[aop,conv] at h
  split at h
  ·exact h.elim
  ·exact h.elim
  ·exact h.elim
  ·split at h<;>exact h.elim
  ·exact h.elim
 |makeFunc g first cap=>
  simp only[aop] at h
  split at h
  ·rename_i l e1 e2
   obtain⟨s,hs,hk⟩:=h
   exact .inr (cloOps_mn e2 s hs hk)
  ·exact h.elim
 |makeSlice t l c=>
  simp only[aop] at h
  split at h
  ·exact .inl h.symm
  ·exact h.elim
 |slice t x lo hi mx=>
  cases mx with
  |some m=>
   cases lo with
   |none=>exact h.elim
   |some lo=>
   cases hi with
   |none=>exact h.elim
   |some hi=>
   simp only[aop] at h
   split at h
   ·split at h
    ·exact .inl h.symm
    ·exact h.elim
   ·exact h.elim
  |none=>
   simp only[aop] at h
   split at h
   ·rename_i s l hh hx _ _
    unfold slc at h
    split at h
    ·exact h.elim
    ·exact h.elim
    ·split at h
     ·exact .inr ⟨x,by rw[hx];exact h⟩
     ·exact h.elim
    ·split at h
     ·exact .inr ⟨x,by rw[hx];exact h⟩
     ·exact h.elim
    ·exact h.elim
   ·exact h.elim
 |fieldAddr t x i=>
  simp only[aop] at h
  split at h
  ·exact h.elim
  ·rename_i hx;exact .inr ⟨x,by rw[hx];exact h⟩
  ·exact h.elim
 |field t x i=>
  simp only[aop] at h
  split at h
  ·rename_i l hx
   dsimp only at h
   obtain⟨j,hj⟩:=ldTV_mn h
   refine .inr ⟨x,?_⟩
   rw[hx]
   rcases gl_mem (d:=SV.junk) (l:=l) (i:=j) with e|e
   ·exact⟨_,e,hj⟩
   ·rw[e] at hj;exact hj.elim
  ·exact h.elim
 |indexAddr t x y=>
  simp only[aop] at h
  split at h
  ·exact h.elim
  ·rename_i hx _
   split at h
   ·exact .inr ⟨x,by rw[hx];exact h⟩
   ·exact h.elim
  ·rename_i hx _
   split at h
   ·exact .inr ⟨x,by rw[hx];exact h⟩
   ·exact h.elim
  ·exact h.elim
 |index t x y=>
  simp only[aop] at h
  split at h<;>exact h.elim
 |extract x i=>
  simp only[aop] at h
  split at h
  ·rename_i l hx
   refine .inr ⟨x,?_⟩
   rw[hx]
   rcases gl_mem (d:=CV.one SV.junk) (l:=l) (i:=i) with e|e
   ·refine⟨_,e,?_⟩
    cases hg:gl (CV.one SV.junk) l i with
    |one s=>rw[hg] at h;exact h
    |agg l=>rw[hg] at h;exact h
   ·rw[e] at h;exact h.elim
  ·exact h.elim
 |call c=>
  simp only[aop] at h
  split at h
  ·split at h
   ·split at h<;>exact h.elim
   ·exact h.elim
  ·have hold:∀{t:TypeId} {x y:TV},(apOld P t x y H n).v.mn k→n=k:=by
    intro t x y h
    unfold apOld at h
    split at h
    ·exact h.elim
    ·dsimp only at h
     split at h
     ·split at h
      ·exact h.elim
      ·split at h
       ·exact h
       ·split at h
        ·exact h
        ·exact h.elim
       ·exact h.elim
     ·exact h.elim
   unfold apOp at h
   split at h
   ·split at h
    ·unfold apMv at h
     dsimp only at h
     split at h
     ·exact .inl h.symm
     ·split at h
      ·exact .inl h.symm
      ·exact h.elim
     ·exact h.elim
    ·exact .inl (hold h).symm
   ·exact .inl (hold h).symm
  ·split at h<;>exact h.elim
  ·split at h<;>exact h.elim
  ·exact h.elim
 |makeMap t r=>
  cases r with
  |none=>exact .inl h.symm
  |some r=>exact h.elim
 |lookup t x y b=>
  cases b with
  |false=>
   simp only[aop] at h
   split at h<;>exact h.elim
  |true=>exact h.elim
 |mapEntry t x y=>
  simp only[aop] at h
  split at h
  ·obtain⟨c',hc',hk⟩:=h
   simp only[List.mem_cons,List.not_mem_nil,or_false] at hc'
   rcases hc' with rfl|rfl<;>exact hk.elim
  ·exact h.elim
 |entryStore t x y z=>
  simp only[aop] at h
  split at h<;>exact h.elim
 |_=>exact h.elim
section
variable {N:Nat} {w0:World} {E A:Nat→Prop} {F:Frm} {T:Nat→TV} {H:Nat→OB} {a:Act} {w:World} {own:Own} {rt:Rt} {P:Program} {o:Oper} {n:Nat}
theorem did_slice3 {t:TypeId} {x:Operand} {lo hi:Option Operand} {mx:Operand} (h:SRf N w0 E F A T H a w own rt) (hd:∀s,o.dst=some s→s<N) (hn:¬A n) (ho:o.op=.slice t x lo hi (some mx)) (hok:(aop P o.op (opd T) H n).ok):
 Did P o N w0 E F (fun k=>A k∨k=n) (updT T o.dst (aop P o.op (opd T) H n).v) (updH H (aop P o.op (opd T) H n).hu) a w:=by
 rw[ho] at hok ⊢
 cases lo with
 |none=>exact hok.elim
 |some lo=>
 cases hi with
 |none=>exact hok.elim
 |some hi=>
 simp only[aop] at hok ⊢
 have hx:=opd_rel h x
 have hlo:=opd_rel h lo
 have hhi:=opd_rel h hi
 have hmx:=opd_rel h mx
 have hH:=h.dead n hn
 have n0:=not_zero h.toWRf hn
 have hrun:∀{v'},(Instr.sliceAt t (a.eval x) (some (a.eval lo)) (some (a.eval hi)) (some (a.eval mx))).run P w=.ok v' w→(execOp a.eval o).run P w=.ok (.value v') w:=by
  intro v' e
  simp[execOp,ho,e]
 generalize opd T x=tx at *
 generalize opd T lo=tlo at *
 generalize opd T hi=thi at *
 generalize opd T mx=tmx at *
 split at hok
 ·rename_i s k1 i1 k2 i2 k3 i3
  split at hok
  ·rename_i ok es m f rd e1
   obtain⟨h1,hix,rfl,rfl,rfl⟩:=hok
   obtain⟨ad,cap,hv,_⟩:=slOf_len h e1 hx h1
   have v1:a.eval lo=_:=hlo.1
   have v2:a.eval hi=_:=hhi.1
   have v3:a.eval mx=_:=hmx.1
   obtain⟨e,h2,h3,h4⟩:=hix
   obtain⟨i0,g1,g2,_⟩:=tk_info (P:=P) (t:=e) (by rw[h3];exact h4)
   have hr:(Instr.sliceAt t (a.eval x) (some (a.eval lo)) (some (a.eval hi)) (some (a.eval mx))).run P w=.ok (.slice ad 0 0) w:=by
    rw[hv,v1,v2,v3]
    simp[Instr.sliceAt,Instr.slice,run_underlying (tk_el h2),Instr.sliceBounds,Instr.sliceBound,asIntOf,sizeOf,typeInfo,g1]
   have hx2:Ow w own n (.sl true none es 0 f) [] (.slice ad 0 0):=.inl ⟨rfl,ad,rfl,⟨fun e=>by simp at e,fun e=>by simp at e⟩⟩
   obtain⟨q1,q2⟩:=(h.toWRf.more n).adopt (.inr rfl) n0 (vs:=[]) hx2
   exact⟨_,_,_,_,.inl (hrun hr),h.over q1 (fun b o e1 e2=>⟨e1,e2⟩) (fun k hk=>q2 k (fun e=>hn (e▸hk))) (fun k hk=>.inl hk) hd (new_own (updH_self _ _ _ _) (if_pos rfl)) (fun k hk=>.inr hk.symm)⟩
  ·exact hok.elim
 ·exact hok.elim
theorem pure_field {t:TypeId} {x:Operand} {i:Nat} (h:SRf N w0 E F A T H a w own rt) (ho:o.op=.field t x i) (hok:(aop P o.op (opd T) H n).ok):
 Pure1 P o a w own rt H (aop P o.op (opd T) H n).v:=by
 rw[ho] at hok ⊢
 simp only[aop] at hok ⊢
 have hx:=opd_rel h x
 unfold Pure1
 simp only[execOp,ho]
 generalize opd T x=tx at *
 split at hok
 ·rename_i l
  obtain⟨h1,hcan,h3⟩:=hok
  obtain⟨cs,hv,hs,hc⟩:=hx
  obtain⟨fs,f,g1,g2,g3,g4⟩:=tk_fs h1
  have hz:(tk P (fldTy P t i)).sz≠0:=by
   intro hz
   simp only[TK.can,hz] at hcan
   split at hcan<;>simp at hcan
  have hcell:∀j,j<(tk P (fldTy P t i)).sz→∃y,cs[fldOff P t i+j]?=some y∧RelS w own rt H (gl .junk l (fldOff P t i+j)) y:=fun j hj=>by
   have hlt:fldOff P t i+j<l.length:=by omega
   obtain⟨y,e1,e2⟩:=hc (fldOff P t i+j) _ (List.getElem?_eq_getElem hlt)
   refine⟨y,e1,?_⟩
   rw[gl_eq,List.getD,List.getElem?_eq_getElem hlt]
   exact e2
  have hcl:∀(g:Nat→SV) (n o:Nat),(cellsF g o n).length=n:=by
   intro g n
   induction n with
   |zero=>intro o;rfl
   |succ n ih=>intro o;simp[cellsF,ih]
  have hcg:∀(g:Nat→SV) (n o j:Nat) (s:SV),(cellsF g o n)[j]?=some s→j<n∧s=g (o+j):=by
   intro g n
   induction n with
   |zero=>intro o j s hj;simp[cellsF] at hj
   |succ n ih=>
    intro o j s hj
    cases j with
    |zero=>simp[cellsF] at hj;exact⟨by omega,hj.symm⟩
    |succ j=>
     simp only[cellsF,List.getElem?_cons_succ] at hj
     obtain⟨h1,h2⟩:=ih _ _ _ hj
     exact⟨by omega,by rw[h2];congr 1;omega⟩
  rw[hv]
  cases hagg:(tk P (fldTy P t i)).agg with
  |true=>
   refine⟨.agg (cs.extract (fldOff P t i) (fldOff P t i+(tk P (fldTy P t i)).sz)),?_,?_,rfl⟩
   ·simp only[Instr.field,Sem.run_bind,run_underlying g1,Result.andThen_ok,g2,asAgg,Sem.run_pure,part,g3,g4,run_isAgg hz,hagg,if_true,run_sizeOf hz]
   ·simp only[ldTV,hagg,if_true]
    refine⟨_,rfl,by rw[hcl];simp[hs];omega,fun j s hj=>?_⟩
    obtain⟨e1,rfl⟩:=hcg _ _ _ _ _ hj
    obtain⟨y,f1,f2⟩:=hcell j e1
    refine⟨y,?_,f2⟩
    rw[Array.getElem?_extract,if_pos (by simp[hs];omega)]
    exact f1
  |false=>
   obtain⟨y,f1,f2⟩:=hcell 0 (by omega)
   rw[Nat.add_zero] at f1 f2
   refine⟨y,?_,?_,rfl⟩
   ·simp only[Instr.field,Sem.run_bind,run_underlying g1,Result.andThen_ok,g2,asAgg,Sem.run_pure,part,g3,g4,run_isAgg hz,hagg,Bool.false_eq_true,if_false,f1]
   ·simp only[ldTV,hagg]
    exact f2
 ·exact hok.elim
theorem did_op (h:SRf N w0 E F A T H a w own rt) (hd:∀s,o.dst=some s→s<N) (hn:¬A n) (_hf:True) (hok:(aop P o.op (opd T) H n).ok):
 Did P o N w0 E F (fun k=>A k∨k=n) (updT T o.dst (aop P o.op (opd T) H n).v) (updH H (aop P o.op (opd T) H n).hu) a w:=by
 have hm:∀k,(aop P o.op (opd T) H n).v.mn k→A k∨k=n:=fun k hk=>by
  rcases aop_mn _ _ _ _ _ hk with e|⟨x,hx⟩
  ·exact .inr e
  ·exact .inl (opd_men h x k hx)
 have h2:SRf N w0 E F (fun k=>A k∨k=n) T H a w own rt:=⟨h.toWRf.more n,h.defers,h.size,h.tmp,fun s k hk=>.inl (h.men s k hk),fun k v e=>⟨.inl (h.frz k v e).1,(h.frz k v e).2⟩⟩
 have pure:Pure1 P o a w own rt H (aop P o.op (opd T) H n).v→(aop P o.op (opd T) H n).hu=[]→Did P o N w0 E F (fun k=>A k∨k=n) (updT T o.dst (aop P o.op (opd T) H n).v) (updH H (aop P o.op (opd T) H n).hu) a w:=fun hp hu=>by
  have e:updH H []=H:=rfl
  rw[hu,e]
  exact Pure1.did h2 hd hp hm
 cases hop:o.op with
 |move x=>rw[←hop];exact pure (pure_move h (.inl hop)) (by rw[hop];rfl)
 |assign x=>rw[←hop];exact pure (pure_move h (.inr hop)) (by rw[hop];rfl)
 |pick c x y=>rw[←hop];exact pure (pure_pick h hop hok) (by rw[hop];simp only[aop];split<;>rfl)
 |box t x=>rw[←hop];exact did_box h hd hn hop hok
 |alloc t=>rw[←hop];exact did_alloc h hd hn hop hok
 |build t parts=>rw[←hop];exact pure (pure_build h hop hok) (by rw[hop];rfl)
 |buildSlice t len parts=>rw[←hop];exact did_buildSlice h hd hn hop hok
 |load t x=>rw[←hop];exact pure (pure_load h hop hok) (by rw[hop];simp only[aop];split<;>first|rfl|(split<;>rfl))
 |store t x y=>rw[←hop];exact did_store h hd hn hop hok
 |nilCheck x=>rw[←hop];exact pure (pure_nilCheck h hop hok) (by rw[hop];simp only[aop];split<;>rfl)
 |binOp op t x y yt=>rw[←hop];exact pure (pure_binOp h hop hok) (by rw[hop];simp only[aop];split<;>first|rfl|(split<;>rfl))
 |unOp op t x=>rw[←hop];exact pure (pure_unOp h hop hok) (by rw[hop];cases op<;>simp only[aop]<;>first|rfl|(split<;>rfl))
 |convert s d x=>rw[←hop];exact pure (pure_convert h hop hok) (by rw[hop];simp only[aop,conv];split<;>first|rfl|(split<;>rfl))
 |makeFunc g first cap=>rw[←hop];exact pure (pure_makeFunc h hop hok) (by rw[hop];simp only[aop];split<;>rfl)
 |makeSlice t l c=>rw[←hop];exact did_makeSlice h hd hn hop hok
 |slice t x lo hi mx=>
  cases mx with
  |some m=>rw[←hop];exact did_slice3 h hd hn hop hok
  |none=>
   rw[←hop]
   exact pure (pure_slice h hop hok) (by rw[hop];simp only[aop];split<;>first|rfl|(unfold slc;split<;>first|rfl|(split<;>rfl)))
 |fieldAddr t x i=>rw[←hop];exact pure (pure_fieldAddr h hop hok) (by rw[hop];simp only[aop];split<;>rfl)
 |field t x i=>rw[←hop];exact pure (pure_field h hop hok) (by rw[hop];simp only[aop];split<;>rfl)
 |indexAddr t x y=>rw[←hop];exact pure (pure_indexAddr h hop hok) (by rw[hop];simp only[aop];split<;>first|rfl|(split<;>rfl))
 |index t x y=>rw[←hop];exact pure (pure_index h hop hok) (by rw[hop];simp only[aop];split<;>rfl)
 |extract x i=>rw[←hop];exact pure (pure_extract h hop hok) (by rw[hop];simp only[aop];split<;>rfl)
 |call c=>
  rw[←hop]
  have hok':=hok
  rw[hop] at hok'
  simp only[aop] at hok'
  split at hok'
  ·rename_i x t e1 e2 e3
   exact pure (pure_len h hop e1 e2 e3 hok) (by rw[hop];simp only[aop,e1,e2,e3];split<;>first|rfl|(split<;>rfl))
  ·rename_i x y t t' e1 e2 e3
   exact did_append h hd hn hop e1 e2 e3 hok
  ·rename_i x y tt e1 e2
   exact pure (pure_minmax h hop e1 (.inl rfl) e2 hok) (by rw[hop];simp only[aop,e1,e2];split<;>rfl)
  ·rename_i x y tt e1 e2
   exact pure (pure_minmax h hop e1 (.inr rfl) e2 hok) (by rw[hop];simp only[aop,e1,e2];split<;>rfl)
  ·exact hok'.elim
 |makeMap t r=>
  cases r with
  |none=>rw[←hop];exact did_makeMap h hd hn hop hok
  |some r=>rw[hop] at hok;exact hok.elim
 |lookup t x y b=>
  cases b with
  |false=>rw[←hop];exact pure (pure_lookup h hop hok) (by rw[hop];simp only[aop];split<;>rfl)
  |true=>rw[hop] at hok;exact hok.elim
 |mapEntry t x y=>rw[←hop];exact did_mapEntry h2 hd hop hok
 |entryStore t x y z=>rw[←hop];exact did_entryStore h2 hd hop hok
 |_=>rw[hop] at hok;exact hok.elim
end
end Go.AM
/- The framework AM,part 16:code is run on abstract states. -/
namespace Go.AM
open Go
inductive ALe:AV→AV→Prop
 |refl (a:AV):ALe a a
 |junk (a:AV):ALe a .junk
 |rng (k:IntKind) (lo hi n:Int) (h1:lo≤n) (h2:n≤hi):ALe (.int k n) (.rng k lo hi)
 |rngs (k:IntKind) (lo hi lo' hi':Int) (h1:lo'≤lo) (h2:hi≤hi'):ALe (.rng k lo hi) (.rng k lo' hi')
 |nl (u:Bool) (nl:Option Bool) (es n:Nat) (f:Nat→Nat→AV):ALe (.sl u nl es n f) (.sl u none es n f)
 |nil (u:Bool) (es es':Nat) (f g:Nat→Nat→AV):ALe (.sl u (some true) es 0 f) (.sl true none es' 0 g)
 |sl (u:Bool) (nl:Option Bool) (es n:Nat) (f g:Nat→Nat→AV) (h:∀i,i<n→∀j,j<es→ALe (f i j) (g i j)):ALe (.sl u nl es n f) (.sl u nl es n g)
 |ptr (m:Nat) (f g:Nat→AV) (h:∀j,j<m→ALe (f j) (g j)):ALe (.ptr m f) (.ptr m g)
 |trans (a b c:AV) (h:ALe a b) (h':ALe b c):ALe a c
theorem ALe.rd {w:World} {own:Own} {a b:AV} (h:ALe a b):∀{v:Value},Rd w own a v→Rd w own b v:=by
 induction h with
 |refl a=>exact fun h=>h
 |junk a=>exact fun _=>trivial
 |rng k lo hi n h1 h2=>exact fun h=>⟨n,h.1,h.2,h1,h2⟩
 |rngs k lo hi lo' hi' h1 h2=>exact fun h=>let ⟨n,e1,e2,e3,e4⟩:=h;⟨n,e1,e2,by omega,by omega⟩
 |nl u nl es n f=>
  rintro v ⟨a,cap,rfl,h1,h2,h3,h4,h5⟩
  exact⟨a,cap,rfl,h1,h2,⟨fun e=>by simp at e,fun e=>by simp at e⟩,h4,h5⟩
 |nil u es es' f g=>
  rintro v ⟨a,cap,rfl,h1,h2,h3,h4,h5⟩
  exact⟨a,cap,rfl,h1,h2,⟨fun e=>by simp at e,fun e=>by simp at e⟩,h4,fun h=>absurd rfl h⟩
 |sl u nl es n f g _ ih=>
  rintro v ⟨a,cap,rfl,h1,h2,h3,h4,h5⟩
  refine⟨a,cap,rfl,h1,h2,h3,h4,fun hn=>?_⟩
  obtain⟨b,off,c,T,fz,rfl,ho,hb,hc⟩:=h5 hn
  refine⟨b,off,c,T,fz,rfl,ho,hb,fun i hi j hj=>?_⟩
  obtain⟨x,hx,hr⟩:=hc i hi j hj
  exact⟨x,hx,ih i hi j hj hr⟩
 |ptr m f g _ ih=>
  rintro v ⟨b,off,c,T,fz,rfl,ho,hb,hc⟩
  refine⟨b,off,c,T,fz,rfl,ho,hb,fun j hj=>?_⟩
  obtain⟨x,hx,hr⟩:=hc j hj
  exact⟨x,hx,ih j hj hr⟩
 |trans a b c _ _ ih ih'=>exact fun h=>ih' (ih h)
theorem ALe.ow {w:World} {own:Own} {r:Root} {a b:AV} (h:ALe a b):∀{p:Path} {v:Value},Ow w own r a p v→Ow w own r b p v:=by
 induction h with
 |refl a=>exact fun h=>h
 |junk a=>exact fun _=>trivial
 |rng k lo hi n h1 h2=>exact fun h=>⟨n,h.1,h.2,h1,h2⟩
 |rngs k lo hi lo' hi' h1 h2=>exact fun h=>let ⟨n,e1,e2,e3,e4⟩:=h;⟨n,e1,e2,by omega,by omega⟩
 |nl u nl es n f=>
  intro p v h
  cases u with
  |false=>exact(ALe.nl false nl es n f).rd h
  |true=>
   rcases h with ⟨rfl,ad,rfl,_⟩|⟨b,cap,c,T,rfl,hnl,rest⟩
   ·exact .inl ⟨rfl,ad,rfl,⟨fun e=>by simp at e,fun e=>by simp at e⟩⟩
   ·exact .inr ⟨b,cap,c,T,rfl,by simp,rest⟩
 |nil u es es' f g=>
  intro p v h
  cases u with
  |false=>exact .inl ⟨rfl,none,rd_nil h,⟨fun e=>by simp at e,fun e=>by simp at e⟩⟩
  |true=>
   rcases h with ⟨_,ad,rfl,_⟩|⟨b,cap,c,T,rfl,hnl,rest⟩
   ·exact .inl ⟨rfl,ad,rfl,⟨fun e=>by simp at e,fun e=>by simp at e⟩⟩
   ·exact absurd rfl hnl
 |sl u nl es n f g h0 ih=>
  intro p v h
  cases u with
  |false=>exact(ALe.sl false nl es n f g h0).rd h
  |true=>
   rcases h with h|⟨b,cap,c,T,rfl,hnl,h1,h2,h3,h4,h5,h6⟩
   ·exact .inl h
   ·refine .inr ⟨b,cap,c,T,rfl,hnl,h1,h2,h3,h4,h5,fun i hi j hj=>?_⟩
    obtain⟨x,hx,hr⟩:=h6 i hi j hj
    exact⟨x,hx,ih i hi j hj hr⟩
 |ptr m f g h0 ih=>exact fun h=>(ALe.ptr m f g h0).rd h
 |trans a b c _ _ ih ih'=>exact fun h=>ih' (ih h)
end Go.AM
/- The framework AM,part 17:contracts,and code run on abstract states:what it is. -/
namespace Go.AM
open Go
inductive AT where
 |one (a:AV)
 |agg (l:List AV)
inductive RV where
 |val (t:AT)
 |tup (l:List AT)
def AT.cells:AT→List AV
 | .one a=>[a]
 | .agg l=>l
def cellsA:List AT→List AV
 |[]=>[]
 |t::r=>t.cells++cellsA r
def RV.cells:RV→List AV
 | .val t=>t.cells
 | .tup l=>cellsA l
def RelA (w:World) (own:Own):AT→Value→Prop
 | .one a,v=>Rd w own a v
 | .agg l,v=>∃cs,v=.agg cs∧cs.size=l.length∧∀(j:Nat) (a:AV),l[j]?=some a→∃x,cs[j]?=some x∧Rd w own a x
def RelR1 (w:World) (own:Own) (c:Nat):AT→Value→Prop
 | .one a,v=>Ow w own c a [] v
 | .agg l,v=>∃cs,v=.agg cs∧cs.size=l.length∧∀(j:Nat) (a:AV),l[j]?=some a→∃x,cs[j]?=some x∧Ow w own (c+j) a [] x
def RelRL (w:World) (own:Own):Nat→List AT→List Value→Prop
 |_,[],[]=>True
 |c,t::r,v::vs=>RelR1 w own c t v∧RelRL w own (c+t.cells.length) r vs
 |_,_,_=>False
def RelR (w:World) (own:Own):RV→Value→Prop
 | .val t,v=>RelR1 w own 1 t v
 | .tup l,v=>∃cs:Array Value,v=.tuple cs∧RelRL w own 1 l cs.toList
def Gives (w:World) (own0:Own) (w':World) (r:RV) (v:Value):Prop:=
 Keep w (fun _=>False) w'∧∃own':Own,(∀b x,own' b=some x→b<w'.heap.size)∧(∀b,b<w.heap.size→(own0 b=none↔own' b=none))∧(∀b k q,b<w.heap.size→own' b=some (k,q)→k=0)∧RelR w' own' r v
structure ACalls (P:Program) (f:FuncId) (args:List AT) (R:RV→Prop):Prop where
 enter:∀(vs:Array Value) (w:World),(callFunc f vs).run P w=.ok (.enter f vs) w
 calls:∀(own0:Own) (w:World) (vs:Array Value),(∀b,own0 b≠none→b<w.heap.size)→vs.size=args.length→
  (∀(i:Nat) (t:AT),args[i]?=some t→∃v,vs[i]?=some v∧RelA w own0 t v)→
  Calls P f vs w fun e w'=>∃v r,e=.returned v∧R r∧Gives w own0 w' r v
def curS (n:Nat):AV:=.sl false none 1 n (fun _ _=>.rng .u8 0 255)
def curL (x:Value) (n:Nat):List AV:=[.pin x (curS n),.rng .i64 0 9223372036854775807,AV.full .i64]
abbrev curA (x:Value) (n:Nat):AV:=.sl true none 3 1 (fun _ j=>gl .junk (curL x n) j)
def putB (w:World) (b:Nat) (o:Obj):World:={ w with heap:=w.heap.setIfInBounds b o}
structure ACur (P:Program) (f:FuncId) (n:Nat) (args:List AT) (R:RV→Prop):Prop where
 enter:∀(vs:Array Value) (w:World),(callFunc f vs).run P w=.ok (.enter f vs) w
 calls:∀(own0:Own) (w:World) (vs:Array Value) (b cap:Nat) (x:Value),(∀b',own0 b'≠none→b'<w.heap.size)→(∀b' k q,own0 b'=some (k,q)→(k=0∧q=[])∨b'=b)→own0 b=some (1,[])→
  vs.size=args.length+1→vs[0]?=some (.pointer (some ⟨b,0,none⟩))→Ow w own0 1 (curA x n) [] (.slice (some ⟨b,0,none⟩) 1 cap)→
  (∀(i:Nat) (t:AT),args[i]?=some t→∃v,vs[i+1]?=some v∧RelA w own0 t v)→
  Calls P f vs w fun e w'=>∃v r o,e=.returned v∧R r∧Ow (putB w b o) own0 1 (curA x n) [] (.slice (some ⟨b,0,none⟩) 1 cap)∧Gives (putB w b o) own0 w' r v
structure ANew (P:Program) (f:FuncId) (args:List AT) (n:Nat):Prop where
 enter:∀(vs:Array Value) (w:World),(callFunc f vs).run P w=.ok (.enter f vs) w
 calls:∀(own0:Own) (w:World) (vs:Array Value),(∀b,own0 b≠none→b<w.heap.size)→vs.size=args.length→
  (∀(i:Nat) (t:AT),args[i]?=some t→∃v,vs[i]?=some v∧RelA w own0 t v)→
  Calls P f vs w fun e w'=>∃b cap x,e=.returned (.pointer (some ⟨b,0,none⟩))∧Gives w own0 w' (.val (.one (curA x n))) (.slice (some ⟨b,0,none⟩) 1 cap)
def memN (k:Nat):List Nat→Bool
 |[]=>false
 |x::r=>Nat.beq x k||memN k r
def AV.putA:AV→Path→AV→AV
 |_,[],x=>x
 | .sl u nl es n f,(i,j)::p,x=>.sl u nl es n (fun i' j'=>if i'=i∧j'=j then (f i j).putA p x else f i' j')
 |a,_,_=>a
def GivesM (w:World) (own0:Own) (w':World) (x:AV) (i:Int) (v0 v:Value):Prop:=
 Keep w (fun c=>∃q,own0 c=some (1,q)) w'∧∃own':Own,(∀c y,own' c=some y→c<w'.heap.size)∧(∀c,c<w.heap.size→own0 c=none→own' c=none)∧
  (∀c,own0 c=some (0,[])→own' c=some (0,[]))∧(∀c k q,c<w.heap.size→own' c=some (k,q)→k≠0→∃q0,own0 c=some (1,q0))∧
  Ow w' own' 1 x [] v0∧v=.int .i64 i∧inK .i64 i
structure AMut (P:Program) (f:FuncId) (a:AV) (args:List AT) (x:AV) (i:Int):Prop where
 enter:∀(vs:Array Value) (w:World),(callFunc f vs).run P w=.ok (.enter f vs) w
 calls:∀(own0:Own) (w:World) (vs:Array Value) (v0:Value),(∀b,own0 b≠none→b<w.heap.size)→(∀b k q,own0 b=some (k,q)→(k=0∧q=[])∨k=1)→
  vs.size=args.length+1→vs[0]?=some v0→Ow w own0 1 a [] v0→
  (∀(j:Nat) (t:AT),args[j]?=some t→∃v,vs[j+1]?=some v∧RelA w own0 t v)→
  Calls P f vs w fun e w'=>∃v,e=.returned v∧GivesM w own0 w' x i v0 v
def GivesT (w:World) (own0:Own) (w':World) (x:AV) (v:Value):Prop:=
 Keep w (fun c=>∃q,own0 c=some (1,q)) w'∧∃own':Own,(∀c y,own' c=some y→c<w'.heap.size)∧(∀c,c<w.heap.size→own0 c=none→own' c=none)∧
  (∀c,own0 c=some (0,[])→own' c=some (0,[]))∧(∀c k q,c<w.heap.size→own' c=some (k,q)→k≠0→∃q0,own0 c=some (1,q0))∧Ow w' own' 1 x [] v
structure ATake (P:Program) (f:FuncId) (a:AV) (args:List AT) (x:AV):Prop where
 enter:∀(vs:Array Value) (w:World),(callFunc f vs).run P w=.ok (.enter f vs) w
 calls:∀(own0:Own) (w:World) (vs:Array Value) (v0:Value),(∀b,own0 b≠none→b<w.heap.size)→(∀b k q,own0 b=some (k,q)→(k=0∧q=[])∨k=1)→
  vs.size=args.length+1→vs[0]?=some v0→Ow w own0 1 a [] v0→
  (∀(j:Nat) (t:AT),args[j]?=some t→∃v,vs[j+1]?=some v∧RelA w own0 t v)→
  Calls P f vs w fun e w'=>∃v,e=.returned v∧GivesT w own0 w' x v
def SR (N:Nat) (w0:World) (E:Nat→Prop) (F:Frm) (σ:St) (a:Act) (w:World):Prop:=
 ∃A own rt,SRf N w0 E F A σ.T σ.H a w own rt∧∀k,σ.n≤k→¬A k
def St.put (σ:St) (d:Option Tmp) (v:TV) (hu:List (Nat×OB)) (m:Nat):St:=
 { t:=(match d with|some d=>(d,v)::σ.t|none=>σ.t),h:=hu++σ.h,n:=m}
def St.ρ (σ:St):Operand→TV:=opd σ.T
def borS0 (H:Nat→OB):SV→Prop×Bool×AV
 | .av a=>(True,false,a)
 | .own k p vs=>((H k).live p vs,true,(H k).a.at p)
 | .ref k p vs i o=>(match (H k).a.at p with
  | .sl true _ es m f=>((H k).live p vs∧i<m,true,.ptr (es - o) (fun j=>f i (o+j)))
  |_=>(False,true,.junk))
 | .view k p vs lo hi=>(match (H k).a.at p with
  | .sl true _ es m f=>((H k).live p vs∧lo≤hi∧hi≤m,true,.sl false none es (hi - lo) (fun i j=>f (lo+i) j))
  |_=>(False,true,.junk))
 |_=>(True,false,.junk)
def borL0 (H:Nat→OB):List SV→Prop×Bool×List AV
 |[]=>(True,false,[])
 |s::r=>((borS0 H s).1∧(borL0 H r).1,(borS0 H s).2.1||(borL0 H r).2.1,(borS0 H s).2.2::(borL0 H r).2.2)
def borS (H:Nat→OB):SV→Prop×Bool×AV
 | .clo g l=>((borL0 H l).1,(borL0 H l).2.1,.fn g l.length (fun j=>gl .junk (borL0 H l).2.2 j))
 |s=>borS0 H s
def borL (H:Nat→OB):List SV→Prop×Bool×List AV
 |[]=>(True,false,[])
 |s::r=>((borS H s).1∧(borL H r).1,(borS H s).2.1||(borL H r).2.1,(borS H s).2.2::(borL H r).2.2)
def borT (H:Nat→OB):TV→Prop×Bool×AT
 | .one s=>((borS H s).1,(borS H s).2.1,.one (borS H s).2.2)
 | .agg l=>((borL H l).1,(borL H l).2.1,.agg (borL H l).2.2)
 |_=>(False,false,.one .junk)
def borA (H:Nat→OB):List TV→Prop×Bool×List AT
 |[]=>(True,false,[])
 |t::r=>((borT H t).1∧(borA H r).1,(borT H t).2.1||(borA H r).2.1,(borT H t).2.2::(borA H r).2.2)
def cap1:SV→TV
 | .clo _ _=>.one .junk
 |s=>.one s
def capL:List SV→List TV
 |[]=>[]
 |s::r=>cap1 s::capL r
def capF (g:Nat→AV):Nat→Nat→List TV
 |_,0=>[]
 |o,m+1=>.one (.av (g o))::capF g (o+1) m
def fnOf:TV→Option (FuncId×List TV)
 | .one (.clo (.func f) l)=>some (f,capL l)
 | .one (.av (.fn (.func f) m g))=>some (f,capF g 0 m)
 |_=>none
def inst1 (bw:Bool) (k:Nat):AV→SV
 | .sl true _ _ _ _=>.own k [] [0]
 |a=>bif bw&& !plain a then .junk else .av a
def instL (bw:Bool):Nat→List AV→List SV
 |_,[]=>[]
 |k,a::r=>inst1 bw k a::instL bw (k+1) r
def instA (bw:Bool) (k:Nat):AT→CV
 | .one a=>.one (inst1 bw k a)
 | .agg l=>.agg (instL bw k l)
def instAL (bw:Bool):Nat→List AT→List CV
 |_,[]=>[]
 |k,t::r=>instA bw k t::instAL bw (k+t.cells.length) r
def instR (bw:Bool) (k:Nat):RV→TV
 | .val t=>(instA bw k t).tv
 | .tup l=>.tup (instAL bw k l)
def objs:Nat→List AV→List (Nat×OB)
 |_,[]=>[]
 |k,.sl true nl es n f::r=>(k,⟨.sl true nl es n f,[]⟩)::objs (k+1) r
 |k,_::r=>objs (k+1) r
def St.ret (σ:St) (d:Option Tmp) (bw:Bool) (r:RV):St:=
 σ.put d (instR bw (σ.n+1) r) (objs (σ.n+1) r.cells) (σ.n+1+r.cells.length)
inductive It where
 |code (c:Code)
 |blk (id:Nat)
 |ops (l:List Oper) (all:Array Oper)
 |lp (J:St→Prop)
def unw (id:Nat):List It→List It
 |[]=>[]
 | .blk i::K=>bif Nat.beq i id then K else unw id K
 |_::K=>unw id K
def hasBlk (id:Nat):List It→Bool
 |[]=>false
 | .blk i::K=>Nat.beq i id||hasBlk id K
 |_::K=>hasBlk id K
def gdst (all:Array Oper) (g:Nat):Option Tmp:=(all[g]?).bind (·.dst)
def gcond (want:Bool):TV→Option Bool
 | .one (.av (.bool q))=>some (q==want)
 | .cnd b (.one (.av (.bool q)))=>some (b&&(q==want))
 |_=>none
def unc:TV→TV
 | .cnd _ c=>c.tv
 |t=>t
def cok1:TV→Prop
 | .cnd b _=>b=true
 |_=>True
def cok (ρ:Operand→TV):List Operand→Prop
 |[]=>True
 |x::r=>cok1 (ρ x)∧cok ρ r
def coks:Op→List Operand
 | .pick _ _ _=>[]
 |op=>op.operands.toList
def gro:Op→(Operand→TV)→Operand→TV
 | .pick _ _ _,ρ=>ρ
 |_,ρ=>fun x=>unc (ρ x)
def cndOf (b:Bool):TV→TV
 | .one s=>.cnd b (.one s)
 | .agg l=>.cnd b (.agg l)
 |_=>.junk
def simpleOp:Op→Bool
 | .move _| .pick _ _ _| .load _ _| .nilCheck _| .binOp _ _ _ _ _| .unOp _ _ _| .convert _ _ _| .fieldAddr _ _ _| .indexAddr _ _ _| .index _ _ _| .makeFunc _ _ _| .slice _ _ _ _ none| .lookup _ _ _ false=>true
 | .call c=>(match c.callee with| .builtin .len| .builtin .min| .builtin .max=>true|_=>false)
 |_=>false
def isCall:Op→Option (Operand×List Operand)
 | .call c=>(match c.callee with| .value f=>some (f,c.args.toList)|_=>none)
 |_=>none
def isField:Op→Bool:=fun _=>false
def AV.cl:AV→Prop
 | .sl true _ es n f=>∀i,i<n→∀j,j<es→(f i j).cl
 | .sl false _ _ n _=>n=0
 | .ptr _ _=>False
 | .fn _ _ _=>False
 | .pin _ _=>False
 | .mp _=>False
 |_=>True
def clAll:List AV→Prop
 |[]=>True
 | .sl true nl es n f::r=>(AV.sl true nl es n f).cl∧clAll r
 |_::r=>clAll r
def avL:List AV→List SV
 |[]=>[]
 |a::r=>.av a::avL r
def AT.cv:AT→CV
 | .one a=>.one (.av a)
 | .agg l=>.agg (avL l)
def Chain (P:Program) (cs:Array Value):List (FuncId×Nat)→(Nat→Prop)→Value→World→(Value→World→Prop)→Prop
 |[],_,k,w,Q=>∀w1,Keep w (fun _=>False) w1→Q k w1
 |(g,c)::r,B,k,w,Q=>∀w1,Keep w (fun _=>False) w1→∀v,cs[c]?=some v→Calls P g #[v,k] w1 fun e w'=>∃k',e=.returned k'∧w1.heap.size≤w'.heap.size∧
  (∀b,B b∨(w.heap.size≤b∧b<w1.heap.size)→w'.heap[b]?=w1.heap[b]?)∧Chain P cs r (fun b=>B b∨(w.heap.size≤b∧b<w1.heap.size)) k' w' Q
structure WrapOf (P:Program) (f:FuncId) (m:Nat) (parts:List (FuncId×Nat)):Prop where
 enter:∀(vs:Array Value) (w:World),(callFunc f vs).run P w=.ok (.enter f vs) w
 calls:∀(B:Nat→Prop) (cs:Array Value) (k:Value) (w:World) (Q:Value→World→Prop),cs.size=m→Chain P cs parts B k w Q→(∀b,B b→b<w.heap.size)→
  Calls P f #[.agg cs,k] w fun e w'=>∃v,e=.returned v∧w.heap.size≤w'.heap.size∧(∀b,B b→w'.heap[b]?=w.heap[b]?)∧Q v w'
def partsM (P:Program) (l:List SV):List (FuncId×Nat)→Int→St→(St→Int→Prop)→Prop
 |[],i,σ,Q=>Q σ i
 |(g,c)::r,i,σ,Q=>(match gl .junk l c with
  | .own o p vs=>(σ.H o).live p vs∧∃x i',AMut P g ((σ.H o).a.at p) [.one (.int .i64 i)] x i'∧x.es=((σ.H o).a.at p).es∧
   partsM P l r i' (σ.put none (.one .junk) [(o,⟨(σ.H o).a.putA p x,bump (σ.H o).vs (p.length+1)⟩)] (σ.n+1)) Q
  |_=>False)
def CallM (P:Program) (f:FuncId) (k:List It→St→Prop) (K:List It) (σ:St) (d:Option Tmp):List TV→Prop
 | .one (.own r p _)::l=>∃x i,AMut P f ((σ.H r).a.at p) (borA σ.H l).2.2 x i∧(borA σ.H l).2.1=false∧x.es=((σ.H r).a.at p).es∧
  k K (σ.put d (.one (.av (.int .i64 i))) [(r,⟨(σ.H r).a.putA p x,bump (σ.H r).vs (p.length+1)⟩)] (σ.n+1))
 |[.agg l,.one (.av (.int .i64 i))]=>∃parts,WrapOf P f l.length parts∧partsM P l parts i σ fun σ' i'=>k K (σ'.put d (.one (.av (.int .i64 i'))) [] (σ'.n+1))
 |_=>False
def CallT (P:Program) (f:FuncId) (k:List It→St→Prop) (K:List It) (σ:St) (d:Option Tmp):List TV→Prop
 | .one (.own r p _)::l=>∃x,ATake P f ((σ.H r).a.at p) (borA σ.H l).2.2 x∧(borA σ.H l).2.1=false∧Nat.beq r σ.n=false∧
  k K (σ.put d (.one (.own σ.n [] [0])) [(σ.n,⟨x,[]⟩),(r,(σ.H r).cut p)] (σ.n+1))
 |_=>False
def CallC (P:Program) (f:FuncId) (k:List It→St→Prop) (K:List It) (σ:St) (d:Option Tmp):List TV→Prop
 | .one (.ref r [] _ 0 0)::l=>∃x n R,ACur P f n (borA σ.H l).2.2 R∧(σ.H r).a=curA x n∧memN r (mlA l)=false∧∀r,R r→((borA σ.H l).2.1=true→clAll r.cells)∧k K (σ.ret d (borA σ.H l).2.1 r)
 |_=>False
def CallN (P:Program) (f:FuncId) (args:List AT) (k:List It→St→Prop) (K:List It) (σ:St) (d:Option Tmp) (bw:Bool):Prop:=
 ∃n s,ANew P f args n∧bw=false∧d=some s∧∀x,k K (σ.put d (.one (.ref (σ.n+1) [] [0] 0 0)) [(σ.n+1,⟨curA x n,[]⟩)] (σ.n+2))
def CallK5 (P:Program) (f:FuncId) (args:List AT) (k:List It→St→Prop) (K:List It) (σ:St) (d:Option Tmp) (bw:Bool) (ts:List TV):Prop:=
 (∃R,ACalls P f args R∧∀r,R r→(bw=true→clAll r.cells)∧k K (σ.ret d bw r))∨CallM P f k K σ d ts∨CallT P f k K σ d ts∨CallC P f k K σ d ts∨CallN P f args k K σ d bw
def dOk (N:Nat):Option Tmp→Bool
 |some d=>Nat.blt d N
 |none=>true
def AV.dis:AV→AV
 | .sl u nl es n f=>.sl u nl es n (fun i j=>(f i j).ro)
 |a=>a
def St.disown (τ:St) (k:Nat):St:={ τ with h:=(k,⟨(τ.H k).a.dis,(τ.H k).vs⟩)::τ.h}
def forg (nm:TypeId→Bool) (op:Op) (τ:St):St:=
 match op with
 | .load t x=>(match τ.ρ x with
  | .one (.ref k [] _ _ _)=>bif nm t then τ.disown k else τ
  |_=>τ)
 |_=>τ
def PeekK (P:Program) (f:FuncId) (args:List AT) (k:List It→St→Prop) (K:List It) (σ:St) (d:Option Tmp):Prop:=
 ∃R,ACalls P f args R∧∀r,R r→clAll r.cells∧k K (σ.ret d true r)
def prun (P:Program) (N:Nat) (nm:TypeId→Bool) (k:List It→St→Prop):Nat→List It→St→St→Prop
 |0,_,_,_=>False
 |m+1,.blk _::K,σ,τ=>prun P N nm k m K σ τ
 |m+1,.code c::K,σ,τ=>
  (match c with
  | .skip=>prun P N nm k m K σ τ
  | .seq x y=>prun P N nm k m (.code x::.code y::K) σ τ
  | .cond c x y=>(match σ.ρ c with
   | .one (.av (.bool b))=>(b=true→prun P N nm k m (.code x::K) σ τ)∧(b=false→prun P N nm k m (.code y::K) σ τ)
   |_=>False)
  | .block id c=>prun P N nm k m (.code c::.blk id::K) σ τ
  | .exit id=>hasBlk id K=true∧prun P N nm k m (unw id K) σ τ
  | .region _ ops false=>prun P N nm k m (.ops ops.toList ops::K) σ τ
  |c=>k (.code c::K) σ)
 |m+1,.ops [] _::K,σ,τ=>prun P N nm k m K σ τ
 |m+1,.ops (o::r) all::K,σ,τ=>
  (match o.guard,isCall o.op with
  |none,none=>(isField o.op=false∧dOk N o.dst=true)∧(aop P o.op σ.ρ σ.H σ.n).ok∧(aop P o.op (forg nm o.op τ).ρ (forg nm o.op τ).H (forg nm o.op τ).n).ok∧
   prun P N nm k m (.ops r all::K) (σ.put o.dst (aop P o.op σ.ρ σ.H σ.n).v (aop P o.op σ.ρ σ.H σ.n).hu (σ.n+1))
    ((forg nm o.op τ).put o.dst (aop P o.op (forg nm o.op τ).ρ (forg nm o.op τ).H (forg nm o.op τ).n).v (aop P o.op (forg nm o.op τ).ρ (forg nm o.op τ).H (forg nm o.op τ).n).hu ((forg nm o.op τ).n+1))
  |none,some (f,xs)=>(match fnOf (τ.ρ f) with
   |some (f,cap)=>dOk N o.dst=true∧(borA τ.H (xs.map τ.ρ++cap)).1∧PeekK P f (borA τ.H (xs.map τ.ρ++cap)).2.2 k (.ops r all::K) σ o.dst
   |none=>False)
  |_,_=>False)
 |_,_,_,_=>False
def CallPr (P:Program) (N:Nat) (f:FuncId) (args:List AT) (k:List It→St→Prop) (K:List It) (σ:St) (d:Option Tmp) (bw:Bool):Prop:=
 ∃R,ACalls P f args R∧∀r,R r→(bw=true→clAll r.cells)∧∃nm m,prun P N nm k m K (σ.ret d bw r) (σ.ret d bw r)
def CallK (P:Program) (N:Nat) (f:FuncId) (args:List AT) (k:List It→St→Prop) (K:List It) (σ:St) (d:Option Tmp) (bw:Bool) (ts:List TV):Prop:=
 CallK5 P f args k K σ d bw ts∨CallPr P N f args k K σ d bw
def noOwn:AV→Bool
 | .int _ _| .bool _| .str _| .sl false _ _ _ _=>true
 |_=>false
def gPl (bw:Bool) (a:AT):Bool:=a.cells.all plain||(!bw&&a.cells.all noOwn)
def cndR (bw:Bool) (n:Nat) (r:RV):TV:=cndOf true (instR bw n r)
def CallG (P:Program) (gc:Bool) (f:FuncId) (args:List AT) (k:List It→St→Prop) (K:List It) (σ:St) (d:Option Tmp) (bw:Bool) (ts:List TV):Prop:=
 (∃a:AT,gPl bw a=true∧(gc=true→ACalls P f args (fun r=>r=.val a))∧k K (σ.put d (.cnd gc a.cv) [] (σ.n+1+a.cells.length)))∨
 (gc=true∧∃R,ACalls P f args R∧∀r,R r→(bw=true→clAll r.cells)∧k K (σ.put d (cndR bw (σ.n+1) r) (objs (σ.n+1) r.cells) (σ.n+1+r.cells.length)))∨
 (gc=true∧∃r vs l x n R,ts=.one (.ref r [] vs 0 0)::l∧ACur P f n (borA σ.H l).2.2 R∧(σ.H r).a=curA x n∧memN r (mlA l)=false∧∀r,R r→((borA σ.H l).2.1=true→clAll r.cells)∧k K (σ.put d (cndR (borA σ.H l).2.1 (σ.n+1) r) (objs (σ.n+1) r.cells) (σ.n+1+r.cells.length)))∨
 (gc=false∧∃a:AT,k K (σ.put d (.cnd false a.cv) [] (σ.n+1)))
def Le (σ σ':St):Prop:=∀N w0 E F a w,SR N w0 E F σ a w→SR N w0 E F σ' a w
def LoopK (body:Code) (k:List It→St→Prop) (K:List It) (σ:St):Prop:=
 ∃(X:Type) (S:X→St) (Inv:X→Prop) (μ:X→Nat),(∃x,Inv x∧Le σ (S x))∧∀x,Inv x→k (.code body::.lp (fun σ'=>∃x',Le σ' (S x')∧Inv x'∧μ x'<μ x)::K) (S x)
def dbl:List Nat→List Nat
 |[]=>[]
 |k::r=>(2*k)::(2*k+1)::dbl r
def sgl:List Nat→List Nat
 |[]=>[]
 |k::r=>(2*k)::sgl r
def rdE (r:Res):List Nat:=dbl r.rd++sgl r.sh
def wrE (ct:List Nat):List (Nat×OB)→List Nat
 |[]=>[]
 |(k,_)::r=>bif memN k ct then (2*k+1)::wrE ct r else (2*k)::(2*k+1)::wrE ct r
structure Ent where
 i:Nat
 rd:List Nat
 wr:List Nat
def keys:List (Nat×OB)→List Nat
 |[]=>[]
 |(k,_)::r=>k::keys r
def disj (a b:List Nat):Bool:=a.all fun x=>b.all fun y=> !Nat.beq x y
def waits (all:List Oper) (j i:Nat):Bool:=
 match all[j]? with
 |some o=>o.after.toList.any fun e=>Region.binds .any e&&Nat.beq e.on i
 |none=>false
def waitsT (all:List Oper):Nat→Nat→Nat→Bool
 |0,_,_=>false
 |f+1,j,i=>(match all[j]? with
  |some o=>o.after.toList.any fun e=>Region.binds .any e&&(Nat.beq e.on i||waitsT all f e.on i)
  |none=>false)
def apartE (all:List Oper) (x y:Ent):Bool:=waitsT all 8 y.i x.i||(disj x.wr y.rd&&disj x.wr y.wr&&disj x.rd y.wr)
def logB (all:List Oper):List Ent→Bool
 |[]=>true
 |x::r=>r.all (apartE all x)&&logB all r
def zipN:Nat→List Oper→List (Nat×Oper)
 |_,[]=>[]
 |n,o::r=>(n,o)::zipN (n+1) r
def opB (ops:Array Oper) (all:List Oper) (x y:Nat×Oper):Bool:=waits all y.1 x.1||x.2.apart ops y.2
def pairsB (ops:Array Oper) (all:List Oper):List (Nat×Oper)→Bool
 |[]=>true
 |x::r=>r.all (opB ops all x)&&pairsB ops all r
def edgesB:List (Nat×Oper)→Bool
 |[]=>true
 |(j,o)::r=>o.after.toList.all (fun e=> !Region.binds .any e||Nat.blt e.on j)&&(match o.guard with|some (g,_)=>o.after.toList.any (fun e=>Region.binds .any e&&Nat.beq e.on g)|none=>true)&&edgesB r
def drawB (ops:Array Oper):Bool:=pairsB ops ops.toList (zipN 0 ops.toList)&&edgesB (zipN 0 ops.toList)
def CallDT (P:Program) (f:FuncId) (k:List Ent→St→Prop) (log:List Ent) (j:Nat) (rd:List Nat) (σ:St) (d:Option Tmp):List TV→Prop
 | .one (.own r p _)::l=>∃x,ATake P f ((σ.H r).a.at p) (borA σ.H l).2.2 x∧(borA σ.H l).2.1=false∧Nat.beq r σ.n=false∧
  k (log++[⟨j,rd,wrE (ctOf r σ.n p) [(σ.n,⟨x,[]⟩),(r,(σ.H r).cut p)]⟩]) (σ.put d (.one (.own σ.n [] [0])) [(σ.n,⟨x,[]⟩),(r,(σ.H r).cut p)] (σ.n+64))
 |_=>False
def CallD (P:Program) (f:FuncId) (args:List AT) (k:List Ent→St→Prop) (log:List Ent) (j:Nat) (rd:List Nat) (σ:St) (d:Option Tmp) (bw:Bool) (ts:List TV):Prop:=
 (∃r,ACalls P f args (fun r'=>r'=r)∧(bw=true→clAll r.cells)∧Nat.ble r.cells.length 62=true∧
  k (log++[⟨j,rd,dbl (keys (objs (σ.n+1) r.cells))⟩]) (σ.put d (instR bw (σ.n+1) r) (objs (σ.n+1) r.cells) (σ.n+64)))∨CallDT P f k log j rd σ d ts
def CallDG (P:Program) (gc:Bool) (f:FuncId) (args:List AT) (k:List Ent→St→Prop) (log:List Ent) (j:Nat) (rd:List Nat) (σ:St) (d:Option Tmp) (bw:Bool):Prop:=
 ∃a:AT,gPl bw a=true∧Nat.ble a.cells.length 62=true∧(gc=true→ACalls P f args (fun r=>r=.val a))∧k (log++[⟨j,rd,[]⟩]) (σ.put d (.cnd gc a.cv) [] (σ.n+64))
def drun (P:Program) (N:Nat) (ops:Array Oper) (k:List It→St→Prop) (K:List It):List (Nat×Oper)→List Ent→St→Prop
 |[],log,σ=>logB ops.toList log=true∧k K σ
 |(j,o)::r,log,σ=>
  (match o.guard,isCall o.op with
  |none,none=>
   isField o.op=false∧dOk N o.dst=true∧(aop P o.op σ.ρ σ.H σ.n).ok∧
    drun P N ops k K r (log++[⟨j,rdE (aop P o.op σ.ρ σ.H σ.n),wrE (ctOp o.op σ.ρ σ.n) (aop P o.op σ.ρ σ.H σ.n).hu⟩]) (σ.put o.dst (aop P o.op σ.ρ σ.H σ.n).v (aop P o.op σ.ρ σ.H σ.n).hu (σ.n+64))
  |none,some (f,xs)=>(match fnOf (σ.ρ f) with
   |some (f,cap)=>dOk N o.dst=true∧(borA σ.H (xs.map σ.ρ++cap)).1∧CallD P f (borA σ.H (xs.map σ.ρ++cap)).2.2 (drun P N ops k K r) log j (dbl (mlA (xs.map σ.ρ++cap))) σ o.dst (borA σ.H (xs.map σ.ρ++cap)).2.1 (xs.map σ.ρ++cap)
   |none=>False)
  |some (g,want),none=>(match (gdst ops g).map σ.T with
   |some t=>(match gcond want t with
    |some gc=>simpleOp o.op=true∧dOk N o.dst=true∧(gc=true→cok σ.ρ (coks o.op)∧(aop P o.op (gro o.op σ.ρ) σ.H σ.n).ok)∧
     drun P N ops k K r (log++[⟨j,rdE (aop P o.op (gro o.op σ.ρ) σ.H σ.n),[]⟩]) (σ.put o.dst (cndOf gc (aop P o.op (gro o.op σ.ρ) σ.H σ.n).v) [] (σ.n+64))
    |none=>False)
   |none=>False)
  |some (g,want),some (f,xs)=>(match (gdst ops g).map σ.T,fnOf (σ.ρ f) with
   |some t,some (f,cap)=>(match gcond want t with
    |some gc=>dOk N o.dst=true∧(gc=true→cok σ.ρ xs∧(borA σ.H (xs.map (fun x=>unc (σ.ρ x))++cap)).1)∧
     CallDG P gc f (borA σ.H (xs.map (fun x=>unc (σ.ρ x))++cap)).2.2 (drun P N ops k K r) log j (dbl (mlA (xs.map (fun x=>unc (σ.ρ x))++cap))) σ o.dst (borA σ.H (xs.map (fun x=>unc (σ.ρ x))++cap)).2.1
    |none=>False)
   |_,_=>False))
def CallE (P:Program) (N:Nat) (ops:Array Oper) (k:List It→St→Prop) (K:List It) (r:List (Nat×Oper)) (f:FuncId) (args:List AT) (log:List Ent) (j:Nat) (rd:List Nat) (σ:St) (d:Option Tmp) (bw:Bool) (ts:List TV):Prop:=
 CallD P f args (drun P N ops k K r) log j rd σ d bw ts
def CallEG (P:Program) (N:Nat) (ops:Array Oper) (k:List It→St→Prop) (K:List It) (r:List (Nat×Oper)) (gc:Bool) (f:FuncId) (args:List AT) (log:List Ent) (j:Nat) (rd:List Nat) (σ:St) (d:Option Tmp) (bw:Bool):Prop:=
 CallDG P gc f args (drun P N ops k K r) log j rd σ d bw
theorem drun_nil (P:Program) (N:Nat) (ops:Array Oper) (k:List It→St→Prop) (K:List It) (log:List Ent) (σ:St):drun P N ops k K [] log σ=(logB ops.toList log=true∧k K σ):=rfl
theorem drun_cons (P:Program) (N:Nat) (ops:Array Oper) (k:List It→St→Prop) (K:List It) (j:Nat) (o:Oper) (r:List (Nat×Oper)) (log:List Ent) (σ:St):drun P N ops k K ((j,o)::r) log σ=
 (match o.guard,isCall o.op with
 |none,none=>
  isField o.op=false∧dOk N o.dst=true∧(aop P o.op σ.ρ σ.H σ.n).ok∧
   drun P N ops k K r (log++[⟨j,rdE (aop P o.op σ.ρ σ.H σ.n),wrE (ctOp o.op σ.ρ σ.n) (aop P o.op σ.ρ σ.H σ.n).hu⟩]) (σ.put o.dst (aop P o.op σ.ρ σ.H σ.n).v (aop P o.op σ.ρ σ.H σ.n).hu (σ.n+64))
 |none,some (f,xs)=>(match fnOf (σ.ρ f) with
  |some (f,cap)=>dOk N o.dst=true∧(borA σ.H (xs.map σ.ρ++cap)).1∧CallE P N ops k K r f (borA σ.H (xs.map σ.ρ++cap)).2.2 log j (dbl (mlA (xs.map σ.ρ++cap))) σ o.dst (borA σ.H (xs.map σ.ρ++cap)).2.1 (xs.map σ.ρ++cap)
  |none=>False)
 |some (g,want),none=>(match (gdst ops g).map σ.T with
  |some t=>(match gcond want t with
   |some gc=>simpleOp o.op=true∧dOk N o.dst=true∧(gc=true→cok σ.ρ (coks o.op)∧(aop P o.op (gro o.op σ.ρ) σ.H σ.n).ok)∧
    drun P N ops k K r (log++[⟨j,rdE (aop P o.op (gro o.op σ.ρ) σ.H σ.n),[]⟩]) (σ.put o.dst (cndOf gc (aop P o.op (gro o.op σ.ρ) σ.H σ.n).v) [] (σ.n+64))
   |none=>False)
  |none=>False)
 |some (g,want),some (f,xs)=>(match (gdst ops g).map σ.T,fnOf (σ.ρ f) with
  |some t,some (f,cap)=>(match gcond want t with
   |some gc=>dOk N o.dst=true∧(gc=true→cok σ.ρ xs∧(borA σ.H (xs.map (fun x=>unc (σ.ρ x))++cap)).1)∧
    CallEG P N ops k K r gc f (borA σ.H (xs.map (fun x=>unc (σ.ρ x))++cap)).2.2 log j (dbl (mlA (xs.map (fun x=>unc (σ.ρ x))++cap))) σ o.dst (borA σ.H (xs.map (fun x=>unc (σ.ρ x))++cap)).2.1
   |none=>False)
  |_,_=>False)):=rfl
def DrawK (P:Program) (N:Nat) (ops:Array Oper) (k:List It→St→Prop) (K:List It) (σ:St):Prop:=
 drawB ops=true∧drun P N ops k K (zipN 0 ops.toList) [] σ
def isCallB (o:Oper):Bool:=(isCall o.op).isSome
def laterB (all:List Oper) (i:Nat):List (Nat×Oper)→Bool
 |[]=>true
 |(j,o)::r=>(Nat.ble j i||(o.guard.isNone&& !isCallB o)||waitsT all 8 j i)&&laterB all i r
def CallCD (P:Program) (lt:Bool) (f:FuncId) (args:List AT) (k:List Ent→St→Prop) (log:List Ent) (j:Nat) (rd:List Nat) (σ:St) (d:Option Tmp) (bw:Bool):List TV→Prop:=fun ts=>
 (∃R ks,(lt=true∨∃r0,∀r,R r→r=r0)∧ACalls P f args R∧(∃r,R r)∧∀r,R r→(bw=true→clAll r.cells)∧Nat.ble r.cells.length 62=true∧keys (objs (σ.n+1) r.cells)=ks∧
  k (log++[⟨j,rd,dbl ks⟩]) (σ.put d (instR bw (σ.n+1) r) (objs (σ.n+1) r.cells) (σ.n+64)))∨
 (∃r vs l x n R ks,lt=true∧ts=.one (.ref r [] vs 0 0)::l∧ACur P f n (borA σ.H l).2.2 R∧(σ.H r).a=curA x n∧memN r (mlA l)=false∧(∃x,R x)∧∀x,R x→((borA σ.H l).2.1=true→clAll x.cells)∧Nat.ble x.cells.length 62=true∧keys (objs (σ.n+1) x.cells)=ks∧
  k (log++[⟨j,rd,dbl ks⟩]) (σ.put d (instR (borA σ.H l).2.1 (σ.n+1) x) (objs (σ.n+1) x.cells) (σ.n+64)))
def CallCDG (P:Program) (lt gc:Bool) (f:FuncId) (args:List AT) (k:List Ent→St→Prop) (log:List Ent) (j:Nat) (rd:List Nat) (σ:St) (d:Option Tmp) (bw:Bool):Prop:=
 ∃R:AT→Prop,(lt=true∨∃b0,∀b,R b→b=b0)∧(∃b,R b)∧(gc=true→ACalls P f args (fun r=>∃b,R b∧r=.val b))∧∀b,R b→gPl bw b=true∧Nat.ble b.cells.length 62=true∧k (log++[⟨j,rd,[]⟩]) (σ.put d (.cnd gc b.cv) [] (σ.n+64))
def drunC (P:Program) (N:Nat) (ops:Array Oper) (k:List It→St→Prop) (K:List It):List (Nat×Oper)→List Ent→St→Prop
 |[],log,σ=>logB ops.toList log=true∧k K σ
 |(j,o)::r,log,σ=>
  (match o.guard,isCall o.op with
  |none,none=>
   isField o.op=false∧dOk N o.dst=true∧(aop P o.op σ.ρ σ.H σ.n).ok∧
    drunC P N ops k K r (log++[⟨j,rdE (aop P o.op σ.ρ σ.H σ.n),wrE (ctOp o.op σ.ρ σ.n) (aop P o.op σ.ρ σ.H σ.n).hu⟩]) (σ.put o.dst (aop P o.op σ.ρ σ.H σ.n).v (aop P o.op σ.ρ σ.H σ.n).hu (σ.n+64))
  |none,some (f,xs)=>(match fnOf (σ.ρ f) with
   |some (f,cap)=>dOk N o.dst=true∧(borA σ.H (xs.map σ.ρ++cap)).1∧CallCD P (laterB ops.toList j (zipN 0 ops.toList)) f (borA σ.H (xs.map σ.ρ++cap)).2.2 (drunC P N ops k K r) log j (dbl (mlA (xs.map σ.ρ++cap))) σ o.dst (borA σ.H (xs.map σ.ρ++cap)).2.1 (xs.map σ.ρ++cap)
   |none=>False)
  |some (g,want),none=>(match (gdst ops g).map σ.T with
   |some t=>(match gcond want t with
    |some gc=>simpleOp o.op=true∧dOk N o.dst=true∧(gc=true→cok σ.ρ (coks o.op)∧(aop P o.op (gro o.op σ.ρ) σ.H σ.n).ok)∧
     drunC P N ops k K r (log++[⟨j,rdE (aop P o.op (gro o.op σ.ρ) σ.H σ.n),[]⟩]) (σ.put o.dst (cndOf gc (aop P o.op (gro o.op σ.ρ) σ.H σ.n).v) [] (σ.n+64))
    |none=>False)
   |none=>False)
  |some (g,want),some (f,xs)=>(match (gdst ops g).map σ.T,fnOf (σ.ρ f) with
   |some t,some (f,cap)=>(match gcond want t with
    |some gc=>dOk N o.dst=true∧(gc=true→cok σ.ρ xs∧(borA σ.H (xs.map (fun x=>unc (σ.ρ x))++cap)).1)∧
     CallCDG P (laterB ops.toList j (zipN 0 ops.toList)) gc f (borA σ.H (xs.map (fun x=>unc (σ.ρ x))++cap)).2.2 (drunC P N ops k K r) log j (dbl (mlA (xs.map (fun x=>unc (σ.ρ x))++cap))) σ o.dst (borA σ.H (xs.map (fun x=>unc (σ.ρ x))++cap)).2.1
    |none=>False)
   |_,_=>False))
def CallCE (P:Program) (N:Nat) (ops:Array Oper) (k:List It→St→Prop) (K:List It) (r:List (Nat×Oper)) (f:FuncId) (args:List AT) (log:List Ent) (j:Nat) (rd:List Nat) (σ:St) (d:Option Tmp) (bw:Bool) (ts:List TV):Prop:=
 CallCD P (laterB ops.toList j (zipN 0 ops.toList)) f args (drunC P N ops k K r) log j rd σ d bw ts
def CallCEG (P:Program) (N:Nat) (ops:Array Oper) (k:List It→St→Prop) (K:List It) (r:List (Nat×Oper)) (gc:Bool) (f:FuncId) (args:List AT) (log:List Ent) (j:Nat) (rd:List Nat) (σ:St) (d:Option Tmp) (bw:Bool):Prop:=
 CallCDG P (laterB ops.toList j (zipN 0 ops.toList)) gc f args (drunC P N ops k K r) log j rd σ d bw
theorem drunC_nil (P:Program) (N:Nat) (ops:Array Oper) (k:List It→St→Prop) (K:List It) (log:List Ent) (σ:St):drunC P N ops k K [] log σ=(logB ops.toList log=true∧k K σ):=rfl
theorem drunC_cons (P:Program) (N:Nat) (ops:Array Oper) (k:List It→St→Prop) (K:List It) (j:Nat) (o:Oper) (r:List (Nat×Oper)) (log:List Ent) (σ:St):drunC P N ops k K ((j,o)::r) log σ=
 (match o.guard,isCall o.op with
 |none,none=>
  isField o.op=false∧dOk N o.dst=true∧(aop P o.op σ.ρ σ.H σ.n).ok∧
   drunC P N ops k K r (log++[⟨j,rdE (aop P o.op σ.ρ σ.H σ.n),wrE (ctOp o.op σ.ρ σ.n) (aop P o.op σ.ρ σ.H σ.n).hu⟩]) (σ.put o.dst (aop P o.op σ.ρ σ.H σ.n).v (aop P o.op σ.ρ σ.H σ.n).hu (σ.n+64))
 |none,some (f,xs)=>(match fnOf (σ.ρ f) with
  |some (f,cap)=>dOk N o.dst=true∧(borA σ.H (xs.map σ.ρ++cap)).1∧CallCE P N ops k K r f (borA σ.H (xs.map σ.ρ++cap)).2.2 log j (dbl (mlA (xs.map σ.ρ++cap))) σ o.dst (borA σ.H (xs.map σ.ρ++cap)).2.1 (xs.map σ.ρ++cap)
  |none=>False)
 |some (g,want),none=>(match (gdst ops g).map σ.T with
  |some t=>(match gcond want t with
   |some gc=>simpleOp o.op=true∧dOk N o.dst=true∧(gc=true→cok σ.ρ (coks o.op)∧(aop P o.op (gro o.op σ.ρ) σ.H σ.n).ok)∧
    drunC P N ops k K r (log++[⟨j,rdE (aop P o.op (gro o.op σ.ρ) σ.H σ.n),[]⟩]) (σ.put o.dst (cndOf gc (aop P o.op (gro o.op σ.ρ) σ.H σ.n).v) [] (σ.n+64))
   |none=>False)
  |none=>False)
 |some (g,want),some (f,xs)=>(match (gdst ops g).map σ.T,fnOf (σ.ρ f) with
  |some t,some (f,cap)=>(match gcond want t with
   |some gc=>dOk N o.dst=true∧(gc=true→cok σ.ρ xs∧(borA σ.H (xs.map (fun x=>unc (σ.ρ x))++cap)).1)∧
    CallCEG P N ops k K r gc f (borA σ.H (xs.map (fun x=>unc (σ.ρ x))++cap)).2.2 log j (dbl (mlA (xs.map (fun x=>unc (σ.ρ x))++cap))) σ o.dst (borA σ.H (xs.map (fun x=>unc (σ.ρ x))++cap)).2.1
   |none=>False)
  |_,_=>False)):=rfl
def DrawC (P:Program) (N:Nat) (ops:Array Oper) (k:List It→St→Prop) (K:List It) (σ:St):Prop:=
 drawB ops=true∧drunC P N ops k K (zipN 0 ops.toList) [] σ
structure Fin where
 res:List ResultVar
 R:RV→Prop
 S:St→Prop
 c:Bool
def resTV (P:Program) (σ:St):ResultVar→TV
 | .tmp t=>σ.T t
 | .cell x t=>(aop P (.load t (.tmp x)) σ.ρ σ.H σ.n).v
def resOk (P:Program) (σ:St):ResultVar→Prop
 | .tmp _=>True
 | .cell x t=>(aop P (.load t (.tmp x)) σ.ρ σ.H σ.n).ok
def atOf (l:List AV):TV→AT
 | .agg _=>.agg l
 |_=>.one (gl .junk l 0)
def resSto (P:Program) (σ:St) (H:Nat→OB):List ResultVar→Prop×List AT
 |[]=>(True,[])
 |x::r=>
  let s:=sto H (resTV P σ x)
  let y:=resSto P σ (fun k=>lk (H k) s.hu k) r
  (resOk P σ x∧s.ok∧y.1,atOf s.cs (resTV P σ x)::y.2)
def resKeep (P:Program) (σ:St) (k:Nat) (H:Nat→OB):List ResultVar→Bool
 |[]=>true
 |x::r=> !memN k (keys (sto H (resTV P σ x)).hu)&&resKeep P σ k (fun k'=>lk (H k') (sto H (resTV P σ x)).hu k') r
def ALeL:List AV→List AV→Prop
 |[],[]=>True
 |a::r,b::s=>ALe a b∧ALeL r s
 |_,_=>False
def ALeT:AT→AT→Prop
 | .one a,.one b=>ALe a b
 | .agg l,.agg m=>ALeL l m
 |_,_=>False
def ALeTL:List AT→List AT→Prop
 |[],[]=>True
 |a::r,b::s=>ALeT a b∧ALeTL r s
 |_,_=>False
def RLe:RV→RV→Prop
 | .val t,.val u=>ALeT t u
 | .tup l,.tup m=>ALeTL l m
 |_,_=>False
def rvOf:List AT→RV
 |[t]=>.val t
 |l=>.tup l
def FinK (P:Program) (fin:Fin) (σ:St):Prop:=
 fin.S σ∧(resSto P σ σ.H fin.res).1∧∃r,RLe (rvOf (resSto P σ σ.H fin.res).2) r∧fin.R r
def AT.tv:AT→TV
 | .one a=>.one (.av a)
 | .agg l=>.agg (l.map .av)
def startT:Nat→List AT→List (Nat×TV)
 |_,[]=>[]
 |i,t::r=>(i,t.tv)::startT (i+1) r
def arun (P:Program) (N:Nat) (fin:Fin):Nat→List It→St→Prop
 |0,_,_=>False
 |_+1,[],σ=>FinK P fin σ
 |m+1,.blk _::K,σ=>arun P N fin m K σ
 |_+1,.lp J::_,σ=>J σ
 |m+1,.code c::K,σ=>
  (match c with
  | .skip=>arun P N fin m K σ
  | .seq x y=>arun P N fin m (.code x::.code y::K) σ
  | .cond c x y=>(match σ.ρ c with
   | .one (.av (.bool b))=>(b=true→arun P N fin m (.code x::K) σ)∧(b=false→arun P N fin m (.code y::K) σ)
   |_=>False)
  | .block id c=>arun P N fin m (.code c::.blk id::K) σ
  | .exit id=>hasBlk id K=true∧arun P N fin m (unw id K) σ
  | .ret=>FinK P fin σ
  | .region _ ops false=>arun P N fin m (.ops ops.toList ops::K) σ
  | .region _ ops true=>bif fin.c then DrawC P N ops (arun P N fin m) K σ else DrawK P N ops (arun P N fin m) K σ
  | .loop body=>LoopK body (arun P N fin m) K σ
  |_=>False)
 |m+1,.ops [] _::K,σ=>arun P N fin m K σ
 |m+1,.ops (o::r) all::K,σ=>
  (match o.guard,isCall o.op with
  |none,none=>
   isField o.op=false∧dOk N o.dst=true∧(aop P o.op σ.ρ σ.H σ.n).ok∧arun P N fin m (.ops r all::K) (σ.put o.dst (aop P o.op σ.ρ σ.H σ.n).v (aop P o.op σ.ρ σ.H σ.n).hu (σ.n+1))
  |none,some (f,xs)=>(match fnOf (σ.ρ f) with
   |some (f,cap)=>dOk N o.dst=true∧(borA σ.H (xs.map σ.ρ++cap)).1∧CallK P N f (borA σ.H (xs.map σ.ρ++cap)).2.2 (arun P N fin m) (.ops r all::K) σ o.dst (borA σ.H (xs.map σ.ρ++cap)).2.1 (xs.map σ.ρ++cap)
   |none=>False)
  |some (g,want),none=>(match (gdst all g).map σ.T with
   |some t=>(match gcond want t with
    |some gc=>simpleOp o.op=true∧dOk N o.dst=true∧(gc=true→cok σ.ρ (coks o.op)∧(aop P o.op (gro o.op σ.ρ) σ.H σ.n).ok)∧
     arun P N fin m (.ops r all::K) (σ.put o.dst (cndOf gc (aop P o.op (gro o.op σ.ρ) σ.H σ.n).v) [] (σ.n+1))
    |none=>False)
   |none=>False)
  |some (g,want),some (f,xs)=>(match (gdst all g).map σ.T,fnOf (σ.ρ f) with
   |some t,some (f,cap)=>(match gcond want t with
    |some gc=>dOk N o.dst=true∧(gc=true→cok σ.ρ xs∧(borA σ.H (xs.map (fun x=>unc (σ.ρ x))++cap)).1)∧
     CallG P gc f (borA σ.H (xs.map (fun x=>unc (σ.ρ x))++cap)).2.2 (arun P N fin m) (.ops r all::K) σ o.dst (borA σ.H (xs.map (fun x=>unc (σ.ρ x))++cap)).2.1 (xs.map (fun x=>unc (σ.ρ x))++cap)
    |none=>False)
   |_,_=>False))
end Go.AM
/- The framework AM,part 18:what comes back from a call. -/
namespace Go.AM
open Go
def take (w:World) (own own':Own) (n L:Nat):Own:=fun b=>
 if b<w.heap.size then own b else
  match own' b with
  |some (k,q)=>if 1≤k∧k≤L then some (n+k,q) else none
  |none=>none
section
variable {N:Nat} {w0:World} {E A:Nat→Prop} {F:Frm} {T:Nat→TV} {H:Nat→OB} {a:Act} {w w':World} {own own':Own} {rt:Rt} {P:Program} {o:Oper} {n:Nat}
theorem objs_spec:∀(l:List AV) (k:Nat) (c:Nat) (d:OB),lk d (objs k l) c=(if k≤c then (match l[c - k]? with|some (.sl true nl es m f)=>⟨.sl true nl es m f,[]⟩|_=>d) else d)
 |[],k,c,d=>by simp[objs,lk]
 |x::r,k,c,d=>by
  have ih:=objs_spec r (k+1) c d
  by_cases hk:k=c
  ·subst hk
   cases x with
   |sl u nl es m f=>cases u with
    |true=>simp[objs,lk]
    |false=>simp only[objs];rw[ih,if_neg (by omega)];simp
   |_=>simp only[objs];rw[ih,if_neg (by omega)];simp
  ·have h2:lk d (objs k (x::r)) c=lk d (objs (k+1) r) c:=by
    cases x with
    |sl u nl es m f=>cases u with
     |true=>simp[objs,lk,hk]
     |false=>rfl
    |_=>rfl
   rw[h2,ih]
   by_cases hlt:k≤c
   ·rw[if_pos hlt,if_pos (by omega)]
    obtain⟨d',rfl⟩:∃d',c=k+1+d':=⟨c - (k+1),by omega⟩
    rw[show k+1+d' - (k+1)=d' by omega,show k+1+d' - k=d'+1 by omega]
    simp
   ·rw[if_neg hlt,if_neg (by omega)]
theorem Ow.cl {r r':Root} (hown:∀b q,own b=some (r,q)→own' b=some (r',q)):∀(b:AV) (p:Path) (v:Value),b.cl→Ow w own r b p v→Ow w own' r' b p v:=by
 intro b
 induction b with
 |int|bool|str|rng|junk=>intro p v _ h;exact h
 |pin x a _=>intro p v hc h;exact hc.elim
 |mp es=>intro p v hc h;exact hc.elim
 |ptr m f _=>intro p v hc h;exact hc.elim
 |fn g m f _=>intro p v hc h;exact hc.elim
 |sl u nl es n f ih=>
  intro p v hc h
  cases u with
  |false=>
   have hn:n=0:=hc
   subst hn
   obtain⟨ad,cap,rfl,h1,h2,h3,h4,h5⟩:=h
   exact⟨ad,cap,rfl,h1,h2,h3,h4,fun e=>absurd rfl e⟩
  |true=>
   rcases h with h|⟨b,cap,c,T,rfl,hnl,h1,h2,h3,h4,h5,h6⟩
   ·exact .inl h
   ·refine .inr ⟨b,cap,c,T,rfl,hnl,hown b _ h1,h2,h3,h4,h5,fun i hi j hj=>?_⟩
    obtain⟨x,hx,hr⟩:=h6 i hi j hj
    exact⟨x,hx,ih i j _ x (hc i hi j hj) hr⟩
def AT.vs:AT→Value→List Value
 | .one _,v=>[v]
 | .agg _,v=>v.cells.toList
def vsL:List AT→List Value→List Value
 |t::r,v::vs=>t.vs v++vsL r vs
 |_,_=>[]
def RV.vs:RV→Value→List Value
 | .val t,v=>t.vs v
 | .tup l,.tuple cs=>vsL l cs.toList
 | .tup _,_=>[]
theorem RelR1.cells {t:AT} {c0:Nat} {v:Value} (h:RelR1 w own c0 t v):(t.vs v).length=t.cells.length∧∀(c:Nat) (b:AV),t.cells[c]?=some b→∃x,(t.vs v)[c]?=some x∧Ow w own (c0+c) b [] x:=by
 cases t with
 |one x=>
  refine⟨rfl,fun c b hc=>?_⟩
  cases c with
  |zero=>simp[AT.cells] at hc;subst hc;exact⟨v,rfl,h⟩
  |succ c=>simp[AT.cells] at hc
 |agg l=>
  obtain⟨cs,rfl,h1,h2⟩:=h
  refine⟨by simpa [AT.vs,Value.cells,AT.cells] using h1,fun c b hc=>?_⟩
  obtain⟨x,g1,g2⟩:=h2 c b hc
  exact⟨x,by simpa [AT.vs,Value.cells] using g1,g2⟩
theorem RelRL.cells:∀{l:List AT} {c0:Nat} {vs:List Value},RelRL w own c0 l vs→(vsL l vs).length=(cellsA l).length∧∀(c:Nat) (b:AV),(cellsA l)[c]?=some b→∃x,(vsL l vs)[c]?=some x∧Ow w own (c0+c) b [] x
 |[],c0,[],_=>⟨rfl,fun c b hc=>by simp[cellsA] at hc⟩
 |[],c0,_::_,h=>h.elim
 |t::l,c0,[],h=>h.elim
 |t::l,c0,v::vs,h=>by
  obtain⟨h1,h2⟩:=h
  obtain⟨e1,g1⟩:=h1.cells
  obtain⟨e2,g2⟩:=RelRL.cells h2
  refine⟨by simp[vsL,cellsA,e1,e2],fun c b hc=>?_⟩
  simp only[cellsA,vsL] at hc ⊢
  by_cases hlt:c<t.cells.length
  ·rw[List.getElem?_append_left hlt] at hc
   rw[List.getElem?_append_left (by omega)]
   exact g1 c b hc
  ·rw[List.getElem?_append_right (by omega)] at hc
   rw[List.getElem?_append_right (by omega),e1]
   obtain⟨x,f1,f2⟩:=g2 _ b hc
   exact⟨x,f1,by rw[show c0+c=c0+t.cells.length+(c - t.cells.length) by omega];exact f2⟩
theorem RelR.cells {r:RV} {v:Value} (h:RelR w own r v):∀(c:Nat) (b:AV),r.cells[c]?=some b→∃x,(r.vs v)[c]?=some x∧Ow w own (1+c) b [] x:=by
 cases r with
 |val t=>exact(RelR1.cells h).2
 |tup l=>obtain⟨cs,rfl,h2⟩:=h;exact(RelRL.cells h2).2
theorem instL_get (bw:Bool):∀(l:List AV) (k j:Nat),(instL bw k l)[j]?=(l[j]?).map (inst1 bw (k+j))
 |[],k,j=>by simp[instL]
 |x::r,k,0=>by simp[instL]
 |x::r,k,j+1=>by
  simp only[instL,List.getElem?_cons_succ]
  rw[instL_get bw r (k+1) j,show k+1+j=k+(j+1) by omega]
theorem instL_len (bw:Bool):∀(l:List AV) (k:Nat),(instL bw k l).length=l.length
 |[],k=>rfl
 |x::r,k=>by simp[instL,instL_len bw r (k+1)]
section
variable {bw:Bool} {W:World} {ow:Own} {rt':Rt} {H':Nat→OB}
theorem instA_rel {t:AT} {c0 k0:Nat} {v:Value} (h:RelR1 w own c0 t v) (hc:∀(c:Nat) (b:AV) (x:Value),t.cells[c]?=some b→(t.vs v)[c]?=some x→RelS W ow rt' H' (inst1 bw (k0+c) b) x):RelC W ow rt' H' (instA bw k0 t) v:=by
 cases t with
 |one b=>exact hc 0 b v rfl rfl
 |agg l=>
  obtain⟨cs,rfl,h1,h2⟩:=h
  refine⟨cs,rfl,by rw[instL_len];exact h1,fun j s hj=>?_⟩
  rw[instL_get] at hj
  simp only[Option.map_eq_some_iff] at hj
  obtain⟨b,hb,rfl⟩:=hj
  obtain⟨x,g1,g2⟩:=h2 j b hb
  exact⟨x,g1,hc j b x hb (by simpa [AT.vs,Value.cells] using g1)⟩
theorem instAL_rel:∀{l:List AT} {c0 k0:Nat} {vs:List Value},RelRL w own c0 l vs→(∀(c:Nat) (b:AV) (x:Value),(cellsA l)[c]?=some b→(vsL l vs)[c]?=some x→RelS W ow rt' H' (inst1 bw (k0+c) b) x)→
 vs.length=(instAL bw k0 l).length∧∀(j:Nat) (s:CV),(instAL bw k0 l)[j]?=some s→∃x,vs[j]?=some x∧RelC W ow rt' H' s x
 |[],c0,k0,[],_,_=>⟨rfl,fun j s hj=>by simp[instAL] at hj⟩
 |[],c0,k0,_::_,h,_=>h.elim
 |t::l,c0,k0,[],h,_=>h.elim
 |t::l,c0,k0,v::vs,h,hc=>by
  obtain⟨h1,h2⟩:=h
  obtain⟨e1,g1⟩:=h1.cells
  obtain⟨i1,i2⟩:=instAL_rel (k0:=k0+t.cells.length) h2 (fun c b x hb hx=>by
   have:=hc (t.cells.length+c) b x (by simp only[cellsA];rw[List.getElem?_append_right (by omega)];simpa using hb) (by simp only[vsL];rw[List.getElem?_append_right (by omega),e1];simpa using hx)
   rw[show k0+t.cells.length+c=k0+(t.cells.length+c) by omega]
   exact this)
  refine⟨by simp[instAL,i1],fun j s hj=>?_⟩
  simp only[instAL] at hj
  cases j with
  |zero=>
   simp only[List.getElem?_cons_zero,Option.some.injEq] at hj
   subst hj
   refine⟨v,rfl,instA_rel h1 (fun c b x hb hx=>hc c b x ?_ ?_)⟩
   ·simp only[cellsA];rw[List.getElem?_append_left (List.getElem?_eq_some_iff.1 hb).1];exact hb
   ·simp only[vsL];rw[List.getElem?_append_left (List.getElem?_eq_some_iff.1 hx).1];exact hx
  |succ j=>
   obtain⟨x,f1,f2⟩:=i2 j s (by simpa using hj)
   exact⟨x,by simpa using f1,f2⟩
theorem instR_rel {r:RV} {k0:Nat} {v:Value} (h:RelR w own r v) (hc:∀(c:Nat) (b:AV) (x:Value),r.cells[c]?=some b→(r.vs v)[c]?=some x→RelS W ow rt' H' (inst1 bw (k0+c) b) x):RelT W ow rt' H' (instR bw k0 r) v:=by
 cases r with
 |val t=>
  have:=instA_rel h hc
  simp only[instR]
  cases hh:instA bw k0 t with
  |one s=>rw[hh] at this;exact this
  |agg l=>rw[hh] at this;exact this
 |tup l=>
  obtain⟨cs,rfl,h2⟩:=h
  obtain⟨g1,g2⟩:=instAL_rel h2 hc
  exact⟨cs,rfl,by simpa using g1,fun j s hj=>by
   obtain⟨x,f1,f2⟩:=g2 j s hj
   exact⟨x,by simpa using f1,f2⟩⟩
end
theorem inst1_mn {bw:Bool} {k m:Nat} {b:AV} (h:(inst1 bw k b).mn m):m=k:=by
 unfold inst1 at h
 split at h
 ·exact h.symm
 ·cases hb:bw&& !plain b<;>simp only[hb,cond_true,cond_false] at h<;>exact h.elim
theorem instL_mn {bw:Bool} {k m:Nat} {l:List AV} (h:∃s∈instL bw k l,s.mn m):k≤m∧m<k+l.length:=by
 obtain⟨s,hs,hm⟩:=h
 obtain⟨j,hj⟩:=List.getElem?_of_mem hs
 rw[instL_get] at hj
 simp only[Option.map_eq_some_iff] at hj
 obtain⟨b,hb,rfl⟩:=hj
 have:=inst1_mn hm
 have hlt:=(List.getElem?_eq_some_iff.1 hb).1
 omega
theorem instA_mn {bw:Bool} {k m:Nat} {t:AT} (h:(instA bw k t).mn m):k≤m∧m<k+t.cells.length:=by
 cases t with
 |one b=>have:=inst1_mn h;simp only[AT.cells,List.length_cons,List.length_nil];omega
 |agg l=>exact instL_mn h
theorem instAL_mn {bw:Bool} {m:Nat}:∀{l:List AT} {k:Nat},(∃c∈instAL bw k l,CV.mn c m)→k≤m∧m<k+(cellsA l).length
 |[],k,h=>by obtain⟨c,hc,_⟩:=h;cases hc
 |t::l,k,h=>by
  obtain⟨c,hc,hm⟩:=h
  simp only[cellsA,List.length_append]
  rcases List.mem_cons.1 hc with rfl|hc
  ·have:=instA_mn hm;omega
  ·have:=instAL_mn ⟨c,hc,hm⟩;omega
theorem instR_mn {bw:Bool} {k m:Nat} {r:RV} (h:(instR bw k r).mn m):k≤m∧m<k+r.cells.length:=by
 cases r with
 |val t=>
  simp only[instR] at h
  refine instA_mn (bw:=bw) ?_
  cases hh:instA bw k t with
  |one s=>rw[hh] at h;exact h
  |agg l=>rw[hh] at h;exact h
 |tup l=>exact instAL_mn h
theorem plain_rd {b:AV} {x:Value} {own own':Own} (hp:plain b=true) {r:Root} {p:Path} (h:Ow w own r b p x):Rd w own' b x:=by
 cases b<;>first|exact h|(simp[plain] at hp)
theorem clAll_get:∀{l:List AV} {c:Nat} {u:Option Bool} {es n:Nat} {f:Nat→Nat→AV},clAll l→l[c]?=some (.sl true u es n f)→(AV.sl true u es n f).cl
 |[],c,_,_,_,_,_,h=>by simp at h
 |x::r,0,_,_,_,_,hc,h=>by simp at h;subst h;exact hc.1
 |x::r,c+1,_,_,_,_,hc,h=>by
  refine clAll_get (l:=r) (c:=c) ?_ (by simpa using h)
  cases x with
  |sl u nl es m f=>cases u with
   |true=>exact hc.2
   |false=>exact hc
  |_=>exact hc
theorem ret_sound (h:SRf N w0 E F A T H a w own rt) {r:RV} (hA:∀k,n≤k→k≤n+r.cells.length→¬A k) {own0:Own} {bw:Bool} (hown0:bw=false→own0=own) {v:Value} (hg:Gives w own0 w' r v) (hcl:bw=true→clAll r.cells) {d:Option Tmp} (hd:∀s,d=some s→s<N):
 ∃A' own'' rt'',SRf N w0 E F A' (updT T d (instR bw (n+1) r)) (updH H (objs (n+1) r.cells)) (a.put d v) w' own'' rt''∧∀k,A' k→A k∨(n<k∧k≤n+r.cells.length):=by
 obtain⟨hkeep,own',hdom,hold,hroot,hr⟩:=hg
 have hb1:∀b,b<w.heap.size→take w own own' n r.cells.length b=own b:=fun b hb=>by simp[take,hb]
 have hheap:∀b,b<w.heap.size→w'.heap[b]?=w.heap[b]?:=fun b hb=>hkeep.block b hb (fun e=>e)
 have hlt:∀(b:Nat) (o:Obj),w.heap[b]?=some o→b<w.heap.size:=fun b o e=>(Array.getElem?_eq_some_iff.1 e).1
 have h0:∀b o,own b=none→w.heap[b]?=some o→take w own own' n r.cells.length b=none∧w'.heap[b]?=some o:=fun b o e1 e2=>
  ⟨by rw[hb1 b (hlt b o e2)];exact e1,by rw[hheap b (hlt b o e2)];exact e2⟩
 have hHo:∀k,A k→updH H (objs (n+1) r.cells) k=H k:=fun k hk=>by
  simp only[updH]
  rw[objs_spec]
  split
  ·rename_i hnk
   rw[List.getElem?_eq_none (Nat.le_of_not_lt (fun e=>hA k (by omega) (by omega) hk))]
  ·rfl
 let rt'':Rt:=fun k=>if n<k∧k≤n+r.cells.length then ((r.vs v)[k - (n+1)]?).getD undef else rt k
 have hrto:∀k,A k→rt'' k=rt k:=fun k hk=>by
  exact if_neg (fun e=>hA k (by omega) e.2 hk)
 have hov:∀k,A k→Over w own rt H w' (take w own own' n r.cells.length) rt'' (updH H (objs (n+1) r.cells)) k:=fun k hk=>
  Over.same (h.obj k) (hHo k hk) (hrto k hk) (fun b o q _ e2=>by rw[hheap b (hlt b o e2)];exact e2)
 have hin:∀b c q,c<r.cells.length→own' b=some (1+c,q)→take w own own' n r.cells.length b=some (n+1+c,q):=fun b c q hc e=>by
  have:¬b<w.heap.size:=fun hb=>by have e0:(1+c:Nat)=0:=hroot b _ q hb e;omega
  simp only[take,if_neg this,e]
  rw[if_pos (show (1:Nat)≤1+c∧(1+c:Nat)≤r.cells.length by omega)]
  simp only[Option.some.injEq,Prod.mk.injEq,and_true]
  exact(by omega:(n+(1+c):Nat)=n+1+c)
 have hnone:bw=false→∀b o,own' b=none→w'.heap[b]?=some o→take w own own' n r.cells.length b=none∧w'.heap[b]?=some o:=fun hbw b o e1 e2=>by
  refine⟨?_,e2⟩
  by_cases hb:b<w.heap.size
  ·rw[hb1 b hb]
   have:=(hold b hb).2 e1
   rw[hown0 hbw] at this
   exact this
  ·simp[take,hb,e1]
 have hcell:∀(c:Nat) (b:AV),r.cells[c]?=some b→∃x,(r.vs v)[c]?=some x∧Ow w' own' (1+c) b [] x:=hr.cells
 have hlc:∀(c:Nat) (b:AV),r.cells[c]?=some b→c<r.cells.length:=fun c b e=>(List.getElem?_eq_some_iff.1 e).1
 have hobj:∀(c:Nat) (nl:Option Bool) (es m:Nat) (f:Nat→Nat→AV),r.cells[c]?=some (.sl true nl es m f)→updH H (objs (n+1) r.cells) (n+1+c)=⟨.sl true nl es m f,[]⟩:=fun c nl es m f e=>by
  simp only[updH]
  rw[objs_spec,if_pos (by omega),show n+1+c - (n+1)=c by omega,e]
 have hnew:∀(c:Nat) (nl:Option Bool) (es m:Nat) (f:Nat→Nat→AV),r.cells[c]?=some (.sl true nl es m f)→∃x,(r.vs v)[c]?=some x∧rt'' (n+1+c)=x∧Ow w' (take w own own' n r.cells.length) (n+1+c) (.sl true nl es m f) [] x:=fun c nl es m f e=>by
  obtain⟨x,g1,g2⟩:=hcell c _ e
  have hrt:rt'' (n+1+c)=x:=by
   have hcl:=hlc c _ e
   show (if n<n+1+c∧n+1+c≤n+r.cells.length then ((r.vs v)[n+1+c - (n+1)]?).getD undef else rt (n+1+c))=x
   rw[if_pos (by omega),show n+1+c - (n+1)=c by omega,g1];rfl
  refine⟨x,g1,hrt,?_⟩
  cases hbw:bw with
  |false=>exact Ow.mono (hnone hbw) _ _ _ _ (fun b o q e1 e2=>⟨hin b c _ (hlc c _ e) e1,e2⟩) g2
  |true=>exact Ow.cl (fun b q e1=>hin b c q (hlc c _ e) e1) _ _ _ (clAll_get (hcl hbw) e) g2
 have hrel:RelT w' (take w own own' n r.cells.length) rt'' (updH H (objs (n+1) r.cells)) (instR bw (n+1) r) v:=by
  refine instR_rel hr (fun c b x hb hx=>?_)
  unfold inst1
  split
  ·rename_i nl es m f
   obtain⟨x',g1,g2,g3⟩:=hnew c _ _ _ _ hb
   rw[hx] at g1
   cases g1
   exact⟨by rw[hobj c _ _ _ _ hb];exact vle0,fun _=>by rw[hobj c _ _ _ _ hb,g2];rfl⟩
  ·rename_i hne
   obtain⟨x',g1,g2⟩:=hcell c b hb
   rw[hx] at g1
   cases g1
   cases hp:plain b with
   |true=>
    rw[Bool.not_true,Bool.and_false]
    exact plain_rd hp g2
   |false=>
    cases hbw:bw with
    |true=>trivial
    |false=>
     show Rd w' _ b x
     have g3:Rd w' own' b x:=by
      cases b with
      |sl u nl es m f=>cases u with
       |true=>exact absurd rfl (hne nl es m f)
       |false=>exact g2
      |mp es=>trivial
      |_=>exact g2
     exact Rd.mono (hnone hbw) _ _ g3
 have h2:SRf N w0 E F (fun k=>A k∨(n<k∧k≤n+r.cells.length)) T (updH H (objs (n+1) r.cells)) a w' (take w own own' n r.cells.length) rt'':=by
  refine⟨⟨⟨hkeep.os.trans h.keep.os,hkeep.tape.trans h.keep.tape,hkeep.output.trans h.keep.output,Nat.le_trans h.keep.size hkeep.size,fun b hb he=>?_⟩,fun b x e=>?_,fun k=>?_,fun k hk=>?_,fun b k q e=>?_,fun b hb=>?_,?_,?_⟩,h.defers,h.size,fun s=>RelT.over h0 (fun k hk=>hov k (h.men s k hk)) (h.tmp s),fun s k hk=>.inl (h.men s k hk),fun k v e=>⟨.inl (h.frz k v e).1,RelT.over h0 (fun k' hk'=>by obtain rfl:k=k':=hk';exact hov k (h.frz k v e).1) (h.frz k v e).2⟩⟩
  ·rw[hheap b (Nat.lt_of_lt_of_le hb h.keep.size)]
   exact h.keep.block b hb he
  ·by_cases hb:b<w.heap.size
   ·rw[hb1 b hb] at e
    exact⟨Nat.lt_of_lt_of_le hb hkeep.size,(h.dom b x e).2⟩
   ·refine⟨?_,.inl (Nat.le_trans h.keep.size (Nat.le_of_not_lt hb))⟩
    simp only[take,if_neg hb] at e
    cases ho:own' b with
    |none=>simp[ho] at e
    |some y=>exact hdom b y ho
  ·by_cases hk:A k
   ·rw[hHo k hk,hrto k hk]
    exact Ow.mono h0 _ _ _ _ (fun b o q e1 e2=>⟨by rw[hb1 b (hlt b o e2)];exact e1,by rw[hheap b (hlt b o e2)];exact e2⟩) (h.obj k)
   ·have hHk:updH H (objs (n+1) r.cells) k=(if n+1≤k then (match r.cells[k - (n+1)]? with|some (.sl true nl es m f)=>⟨.sl true nl es m f,[]⟩|_=>H k) else H k):=by
     simp only[updH];rw[objs_spec]
    rw[hHk]
    split
    ·split
     ·rename_i hnk nl es m f e
      obtain⟨x,_,g2,g3⟩:=hnew (k - (n+1)) _ _ _ _ e
      rw[show n+1+(k - (n+1))=k by omega] at g2 g3
      rw[g2]
      exact g3
     ·rw[h.dead k hk];trivial
    ·rw[h.dead k hk];trivial
  ·simp only[not_or,not_and] at hk
   simp only[updH]
   rw[objs_spec]
   split
   ·rename_i hnk
    rw[List.getElem?_eq_none (by have:=hk.2 (by omega);omega)]
    exact h.dead k hk.1
   ·exact h.dead k hk.1
  ·by_cases hb:b<w.heap.size
   ·rw[hb1 b hb] at e
    exact .inl (h.owned b k q e)
   ·simp only[take,if_neg hb] at e
    split at e
    ·split at e
     ·rename_i kk qq _ hk2
      simp only[Option.some.injEq,Prod.mk.injEq] at e
      obtain⟨rfl,rfl⟩:=e
      exact .inr ⟨Nat.lt_add_of_pos_right hk2.1,Nat.add_le_add_left hk2.2 n⟩
     ·cases e
    ·cases e
  ·have:=h.frn b hb
   rw[hb1 b (h.dom b _ this).1]
   exact this
  ·rw[hHo 0 h.frn0.2];exact h.frn0.1
  ·exact .inl h.frn0.2
 refine⟨_,_,_,h2.put hd hrel (fun k hk=>?_),fun k hk=>?_⟩
 ·have:=instR_mn hk
  exact .inr ⟨by omega,by omega⟩
 ·exact hk
end
end Go.AM
