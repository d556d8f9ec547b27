/- The framework AM,part 19:arguments of calls. -/
import Derived.Test.YtpbahibieegbgaaGreatAm2
namespace Go.AM
open Go
section
variable {N:Nat} {w0:World} {E A:Nat→Prop} {F:Frm} {T:Nat→TV} {H:Nat→OB} {a:Act} {w:World} {own:Own} {rt:Rt} {P:Program} {o:Oper} {n:Nat}
theorem rd_none {b:AV} {v:Value} {own:Own} (h:Rd w own b v):Rd w (fun _=>none) b v:=Rd.mono (fun _ _ _ h=>⟨rfl,h⟩) _ _ h
theorem borS0_sound (h:SRf N w0 E F A T H a w own rt) {s:SV} {v:Value} (hok:(borS0 H s).1) (hr:RelS0 w own rt H s v):
 ((borS0 H s).2.1=false→Rd w own (borS0 H s).2.2 v)∧Rd w (fun _=>none) (borS0 H s).2.2 v:=by
 cases s with
 |av b=>exact⟨fun _=>hr,rd_none hr⟩
 |own k p vs=>
  obtain⟨v',e1,e2⟩:=live_row h hok
  have:=hr.2 hok
  rw[e1] at this
  obtain rfl:=Option.some.inj this
  exact⟨(fun e=>by cases e),e2.rd⟩
 |ref k p vs i off=>
  simp only[borS0] at hok ⊢
  split at hok
  ·rename_i nl es m f ea
   obtain⟨hl,him⟩:=hok
   obtain⟨v',e1,e2⟩:=live_row h hl
   obtain⟨b,m',cap,e3,hv⟩:=hr.2 hl
   rw[ea] at e2
   obtain⟨b',cap',c,T',e4,_,hb,_,_,_,hc⟩:=ow_row e2 (by omega)
   rw[e1,e4] at e3
   simp only[Option.some.injEq,Value.slice.injEq,Addr.mk.injEq] at e3
   obtain⟨⟨rfl,_⟩,rfl,rfl⟩:=e3
   simp only[ea,AV.es] at hv
   refine⟨(fun e=>by cases e),b',_,c,T',(0,0),hv,rfl,hb,fun j hj=>?_⟩
   obtain⟨x,f1,f2⟩:=hc i him (off+j) (by omega)
   exact⟨x,by rw[Nat.add_assoc];exact f1,f2.rd⟩
  ·exact hok.elim
 |view k p vs lo hi=>
  simp only[borS0] at hok ⊢
  split at hok
  ·rename_i nl es m f ea
   obtain⟨hl,hlo,hhi⟩:=hok
   obtain⟨v',e1,e2⟩:=live_row h hl
   obtain⟨ad,m',cap,a',e3,hlc,hv0,hv⟩:=hr.2 hl
   rw[ea] at e2
   obtain⟨ad2,cap2,e4,g1,g2,g3⟩:=ow_slice e2
   rw[e1,e4] at e3
   simp only[Option.some.injEq,Value.slice.injEq] at e3
   obtain⟨rfl,rfl,rfl⟩:=e3
   refine⟨(fun e=>by cases e),a',_,hv,by omega,by omega,⟨fun e=>by simp at e,fun e=>by simp at e⟩,fun e=>?_,fun hn=>?_⟩
   ·by_cases hc:cap2=lo
    ·omega
    ·have:=hv0 (.inl hc)
     rw[e] at this
     have h2:ad2=none:=by cases ad2<;>simp at this ⊢
     have:=g3 h2
     omega
   ·obtain⟨b,cap3,c,T',e5,_,hb,_,_,_,hc⟩:=ow_row e2 (by omega)
    rw[e4] at e5
    simp only[Value.slice.injEq] at e5
    obtain⟨rfl,_,rfl⟩:=e5
    have:=hv0 (.inl (by omega))
    simp only[Option.map_some,Addr.add_lit,ea,AV.es,Nat.zero_add] at this
    refine⟨b,_,c,T',(0,0),this,rfl,hb,fun i hi' j hj=>?_⟩
    obtain⟨x,f1,f2⟩:=hc (lo+i) (by omega) j hj
    exact⟨x,by rw[←Nat.add_assoc,←Nat.add_mul];exact f1,f2.rd⟩
  ·exact hok.elim
 |clo g l=>exact⟨fun _=>trivial,trivial⟩
 |junk=>exact⟨fun _=>trivial,trivial⟩
theorem borL0_sound (h:SRf N w0 E F A T H a w own rt):∀(l:List SV),(borL0 H l).1→(borL0 H l).2.2.length=l.length∧∀(j:Nat) (s:SV) (v:Value),l[j]?=some s→RelS0 w own rt H s v→
 ∃b,(borL0 H l).2.2[j]?=some b∧((borL0 H l).2.1=false→Rd w own b v)∧Rd w (fun _=>none) b v
 |[],_=>⟨rfl,fun j s v hj=>by simp at hj⟩
 |s::r,hok=>by
  obtain⟨i1,i2⟩:=borL0_sound h r hok.2
  refine⟨by simp[borL0,i1],fun j s' v hj hr=>?_⟩
  simp only[borL0,Bool.or_eq_false_iff]
  cases j with
  |zero=>
   simp only[List.getElem?_cons_zero,Option.some.injEq] at hj
   subst hj
   obtain⟨g1,g2⟩:=borS0_sound h hok.1 hr
   exact⟨_,rfl,fun e=>g1 e.1,g2⟩
  |succ j=>
   obtain⟨b,f1,f2,f3⟩:=i2 j s' v (by simpa using hj) hr
   exact⟨b,by simpa using f1,fun e=>f2 e.2,f3⟩
theorem borS_sound (h:SRf N w0 E F A T H a w own rt) {s:SV} {v:Value} (hok:(borS H s).1) (hr:RelS w own rt H s v):
 ((borS H s).2.1=false→Rd w own (borS H s).2.2 v)∧Rd w (fun _=>none) (borS H s).2.2 v:=by
 cases s with
 |clo g l=>
  obtain⟨cs,rfl,h1,h2⟩:=hr
  obtain⟨i1,i2⟩:=borL0_sound h l hok
  have key:∀(j:Nat),j<l.length→∃x,cs[j]?=some x∧((borL0 H l).2.1=false→Rd w own (gl .junk (borL0 H l).2.2 j) x)∧Rd w (fun _=>none) (gl .junk (borL0 H l).2.2 j) x:=fun j hj=>by
   obtain⟨x,f1,f2⟩:=h2 j _ (List.getElem?_eq_getElem hj)
   obtain⟨b,g1,g2,g3⟩:=i2 j _ x (List.getElem?_eq_getElem hj) f2
   have:gl .junk (borL0 H l).2.2 j=b:=by rw[gl_eq,List.getD,g1];rfl
   rw[this]
   exact⟨x,f1,g2,g3⟩
  exact⟨fun e=>⟨cs,rfl,h1,fun j hj=>let ⟨x,f1,f2,_⟩:=key j hj;⟨x,f1,f2 e⟩⟩,cs,rfl,h1,fun j hj=>let ⟨x,f1,_,f3⟩:=key j hj;⟨x,f1,f3⟩⟩
 |_=>simp only[borS,RelS] at hok hr ⊢;exact borS0_sound h hok hr
theorem borL_sound (h:SRf N w0 E F A T H a w own rt):∀(l:List SV),(borL H l).1→(borL H l).2.2.length=l.length∧∀(j:Nat) (s:SV) (v:Value),l[j]?=some s→RelS w own rt H s v→
 ∃b,(borL H l).2.2[j]?=some b∧((borL H l).2.1=false→Rd w own b v)∧Rd w (fun _=>none) b v
 |[],_=>⟨rfl,fun j s v hj=>by simp at hj⟩
 |s::r,hok=>by
  obtain⟨i1,i2⟩:=borL_sound h r hok.2
  refine⟨by simp[borL,i1],fun j s' v hj hr=>?_⟩
  simp only[borL,Bool.or_eq_false_iff]
  cases j with
  |zero=>
   simp only[List.getElem?_cons_zero,Option.some.injEq] at hj
   subst hj
   obtain⟨g1,g2⟩:=borS_sound h hok.1 hr
   exact⟨_,rfl,fun e=>g1 e.1,g2⟩
  |succ j=>
   obtain⟨b,f1,f2,f3⟩:=i2 j s' v (by simpa using hj) hr
   exact⟨b,by simpa using f1,fun e=>f2 e.2,f3⟩
theorem borT_sound (h:SRf N w0 E F A T H a w own rt) {t:TV} {v:Value} (hok:(borT H t).1) (hr:RelT w own rt H t v):
 ((borT H t).2.1=false→RelA w own (borT H t).2.2 v)∧RelA w (fun _=>none) (borT H t).2.2 v:=by
 cases t with
 |one s=>exact borS_sound h hok hr
 |agg l=>
  obtain⟨cs,rfl,h1,h2⟩:=hr
  obtain⟨i1,i2⟩:=borL_sound h l hok
  have key:∀(j:Nat) (b:AV),(borL H l).2.2[j]?=some b→∃x,cs[j]?=some x∧((borL H l).2.1=false→Rd w own b x)∧Rd w (fun _=>none) b x:=fun j b hb=>by
   have hj:j<l.length:=by rw[←i1];exact(List.getElem?_eq_some_iff.1 hb).1
   obtain⟨x,f1,f2⟩:=h2 j _ (List.getElem?_eq_getElem hj)
   obtain⟨b',g1,g2,g3⟩:=i2 j _ x (List.getElem?_eq_getElem hj) f2
   rw[hb] at g1
   cases g1
   exact⟨x,f1,g2,g3⟩
  exact⟨fun e=>⟨cs,rfl,by rw[h1];exact i1.symm,fun j b hb=>let ⟨x,f1,f2,_⟩:=key j b hb;⟨x,f1,f2 e⟩⟩,cs,rfl,by rw[h1];exact i1.symm,fun j b hb=>let ⟨x,f1,_,f3⟩:=key j b hb;⟨x,f1,f3⟩⟩
 |_=>exact hok.elim
theorem borA_sound (h:SRf N w0 E F A T H a w own rt):∀(l:List TV) (vs:List Value),(borA H l).1→vs.length=l.length→(∀(i:Nat) (t:TV),l[i]?=some t→∃v,vs[i]?=some v∧RelT w own rt H t v)→
 (borA H l).2.2.length=l.length∧∀(i:Nat) (t:AT),(borA H l).2.2[i]?=some t→∃v,vs[i]?=some v∧((borA H l).2.1=false→RelA w own t v)∧RelA w (fun _=>none) t v
 |[],vs,_,_,_=>⟨rfl,fun i t hi=>by simp[borA] at hi⟩
 |t::r,[],_,hl,_=>by simp at hl
 |t::r,v::vs,hok,hl,hr=>by
  obtain⟨i1,i2⟩:=borA_sound h r vs hok.2 (by simpa using hl) (fun i t' hi=>by
   obtain⟨x,f1,f2⟩:=hr (i+1) t' (by simpa using hi)
   exact⟨x,by simpa using f1,f2⟩)
  refine⟨by simp[borA,i1],fun i t' hi=>?_⟩
  simp only[borA,Bool.or_eq_false_iff] at hi ⊢
  cases i with
  |zero=>
   simp only[List.getElem?_cons_zero,Option.some.injEq] at hi
   subst hi
   obtain⟨x,f1,f2⟩:=hr 0 t rfl
   simp only[List.getElem?_cons_zero,Option.some.injEq] at f1
   subst f1
   obtain⟨g1,g2⟩:=borT_sound h hok.1 f2
   exact⟨v,rfl,fun e=>g1 e.1,g2⟩
  |succ i=>
   obtain⟨x,f1,f2,f3⟩:=i2 i t' (by simpa using hi)
   exact⟨x,by simpa using f1,fun e=>f2 e.2,f3⟩
theorem Ow.rd2 {w:World} {own own2:Own} {r:Root} (h2:∀b,own b=none→own2 b=none) (h3:∀b q,own b=some (r,q)→own2 b=none):∀(a:AV) (p:Path) (v:Value),Ow w own r a p v→Rd w own2 a v:=by
 intro a
 induction a with
 |int|bool|str|rng|junk=>intro p v hv;exact hv
 |pin x a _=>intro p v hv;exact Rd.mono (fun b o e h=>⟨h2 b e,h⟩) _ _ hv
 |mp es=>intro p v hv;trivial
 |ptr m f _=>intro p v hv;exact Rd.mono (fun b o e h=>⟨h2 b e,h⟩) _ _ hv
 |fn g m f _=>intro p v hv;exact Rd.mono (fun b o e h=>⟨h2 b e,h⟩) _ _ hv
 |sl u nl es n f ih=>
  intro p v hv
  cases u with
  |false=>exact Rd.mono (fun b o e h=>⟨h2 b e,h⟩) _ _ hv
  |true=>
   rcases hv with ⟨rfl,ad,rfl,hnl⟩|⟨b,cap,c,T,rfl,hnl,ho,hb,h4,h5,h6,h7⟩
   ·exact⟨ad,0,rfl,Nat.le_refl _,Nat.zero_le _,hnl,fun _=>rfl,fun h=>absurd rfl h⟩
   ·refine⟨some ⟨b,0,none⟩,cap,rfl,h4,h5,⟨fun h=>absurd h hnl,fun _=>by simp⟩,fun h=>by simp at h,fun _=>⟨b,0,c,T,(0,0),rfl,h3 b p ho,hb,fun i hi j hj=>?_⟩⟩
    obtain⟨x,hx,hr⟩:=h7 i hi j hj
    exact⟨x,by simpa using hx,ih i j _ x hr⟩
section
variable {own2:Own} {k0:Nat} (h2:∀b,own b=none→own2 b=none) (h3:∀b k q,k≠k0→own b=some (k,q)→own2 b=none)
include h2 h3
theorem borS0_sound2 (h:SRf N w0 E F A T H a w own rt) {s:SV} {v:Value} (hok:(borS0 H s).1) (hr:RelS0 w own rt H s v) (hk:k0∉s.ml0):Rd w own2 (borS0 H s).2.2 v:=by
 cases s with
 |av b=>exact Rd.mono (fun b o e h=>⟨h2 b e,h⟩) _ _ hr
 |own k p vs=>
  have hne:k≠k0:=fun e=>hk (by simp[SV.ml0,e])
  obtain⟨v',e1,e2⟩:=live_row h hok
  have:=hr.2 hok
  rw[e1] at this
  obtain rfl:=Option.some.inj this
  exact e2.rd2 h2 (fun b q=>h3 b k q hne)
 |ref k p vs i off=>
  have hne:k≠k0:=fun e=>hk (by simp[SV.ml0,e])
  simp only[borS0] at hok ⊢
  split at hok
  ·rename_i nl es m f ea
   obtain⟨hl,him⟩:=hok
   obtain⟨v',e1,e2⟩:=live_row h hl
   obtain⟨b,m',cap,e3,hv⟩:=hr.2 hl
   rw[ea] at e2
   obtain⟨b',cap',c,T',e4,ho,hb,_,_,_,hc⟩:=ow_row e2 (by omega)
   rw[e1,e4] at e3
   simp only[Option.some.injEq,Value.slice.injEq,Addr.mk.injEq] at e3
   obtain⟨⟨rfl,_⟩,rfl,rfl⟩:=e3
   simp only[ea,AV.es] at hv
   refine⟨b',_,c,T',(0,0),hv,h3 b' k _ hne ho,hb,fun j hj=>?_⟩
   obtain⟨x,f1,f2⟩:=hc i him (off+j) (by omega)
   exact⟨x,by rw[Nat.add_assoc];exact f1,f2.rd2 h2 (fun b q=>h3 b k q hne)⟩
  ·exact hok.elim
 |view k p vs lo hi=>
  have hne:k≠k0:=fun e=>hk (by simp[SV.ml0,e])
  simp only[borS0] at hok ⊢
  split at hok
  ·rename_i nl es m f ea
   obtain⟨hl,hlo,hhi⟩:=hok
   obtain⟨v',e1,e2⟩:=live_row h hl
   obtain⟨ad,m',cap,a',e3,hlc,hv0,hv⟩:=hr.2 hl
   rw[ea] at e2
   obtain⟨ad2,cap2,e4,g1,g2,g3⟩:=ow_slice e2
   rw[e1,e4] at e3
   simp only[Option.some.injEq,Value.slice.injEq] at e3
   obtain⟨rfl,rfl,rfl⟩:=e3
   refine⟨a',_,hv,by omega,by omega,⟨fun e=>by simp at e,fun e=>by simp at e⟩,fun e=>?_,fun hn=>?_⟩
   ·by_cases hc:cap2=lo
    ·omega
    ·have:=hv0 (.inl hc)
     rw[e] at this
     have h2:ad2=none:=by cases ad2<;>simp at this ⊢
     have:=g3 h2
     omega
   ·obtain⟨b,cap3,c,T',e5,ho,hb,_,_,_,hc⟩:=ow_row e2 (by omega)
    rw[e4] at e5
    simp only[Value.slice.injEq] at e5
    obtain⟨rfl,_,rfl⟩:=e5
    have:=hv0 (.inl (by omega))
    simp only[Option.map_some,Addr.add_lit,ea,AV.es,Nat.zero_add] at this
    refine⟨b,_,c,T',(0,0),this,h3 b k _ hne ho,hb,fun i hi' j hj=>?_⟩
    obtain⟨x,f1,f2⟩:=hc (lo+i) (by omega) j hj
    exact⟨x,by rw[←Nat.add_assoc,←Nat.add_mul];exact f1,f2.rd2 h2 (fun b q=>h3 b k q hne)⟩
  ·exact hok.elim
 |clo g l=>trivial
 |junk=>trivial
theorem borL0_sound2 (h:SRf N w0 E F A T H a w own rt):∀(l:List SV),(borL0 H l).1→k0∉SV.mlL0 l→(borL0 H l).2.2.length=l.length∧∀(j:Nat) (s:SV) (v:Value),l[j]?=some s→RelS0 w own rt H s v→
 ∃b,(borL0 H l).2.2[j]?=some b∧Rd w own2 b v
 |[],_,_=>⟨rfl,fun j s v hj=>by simp at hj⟩
 |s::r,hok,hk=>by
  simp only[SV.mlL0,List.mem_append,not_or] at hk
  obtain⟨i1,i2⟩:=borL0_sound2 h r hok.2 hk.2
  refine⟨by simp[borL0,i1],fun j s' v hj hr=>?_⟩
  cases j with
  |zero=>
   simp only[List.getElem?_cons_zero,Option.some.injEq] at hj
   subst hj
   exact⟨_,rfl,borS0_sound2 h2 h3 h hok.1 hr hk.1⟩
  |succ j=>
   obtain⟨b,f1,f2⟩:=i2 j s' v (by simpa using hj) hr
   exact⟨b,by simpa [borL0] using f1,f2⟩
theorem borS_sound2 (h:SRf N w0 E F A T H a w own rt) {s:SV} {v:Value} (hok:(borS H s).1) (hr:RelS w own rt H s v) (hk:k0∉s.ml):Rd w own2 (borS H s).2.2 v:=by
 cases s with
 |clo g l=>
  obtain⟨cs,rfl,g1,g2⟩:=hr
  obtain⟨i1,i2⟩:=borL0_sound2 h2 h3 h l hok hk
  refine⟨cs,rfl,g1,fun j hj=>?_⟩
  obtain⟨x,f1,f2⟩:=g2 j _ (List.getElem?_eq_getElem hj)
  obtain⟨b,q1,q2⟩:=i2 j _ x (List.getElem?_eq_getElem hj) f2
  have:gl .junk (borL0 H l).2.2 j=b:=by rw[gl_eq,List.getD,q1];rfl
  exact⟨x,f1,by dsimp only;rw[this];exact q2⟩
 |_=>simp only[borS,RelS,SV.ml] at hok hr hk ⊢;exact borS0_sound2 h2 h3 h hok hr hk
theorem borL_sound2 (h:SRf N w0 E F A T H a w own rt):∀(l:List SV),(borL H l).1→k0∉SV.mlL l→(borL H l).2.2.length=l.length∧∀(j:Nat) (s:SV) (v:Value),l[j]?=some s→RelS w own rt H s v→
 ∃b,(borL H l).2.2[j]?=some b∧Rd w own2 b v
 |[],_,_=>⟨rfl,fun j s v hj=>by simp at hj⟩
 |s::r,hok,hk=>by
  simp only[SV.mlL,List.mem_append,not_or] at hk
  obtain⟨i1,i2⟩:=borL_sound2 h r hok.2 hk.2
  refine⟨by simp[borL,i1],fun j s' v hj hr=>?_⟩
  cases j with
  |zero=>
   simp only[List.getElem?_cons_zero,Option.some.injEq] at hj
   subst hj
   exact⟨_,rfl,borS_sound2 h2 h3 h hok.1 hr hk.1⟩
  |succ j=>
   obtain⟨b,f1,f2⟩:=i2 j s' v (by simpa using hj) hr
   exact⟨b,by simpa [borL] using f1,f2⟩
theorem borT_sound2 (h:SRf N w0 E F A T H a w own rt) {t:TV} {v:Value} (hok:(borT H t).1) (hr:RelT w own rt H t v) (hk:k0∉t.ml):RelA w own2 (borT H t).2.2 v:=by
 cases t with
 |one s=>exact borS_sound2 h2 h3 h hok hr hk
 |agg l=>
  obtain⟨cs,rfl,g1,g2⟩:=hr
  obtain⟨i1,i2⟩:=borL_sound2 h2 h3 h l hok hk
  refine⟨cs,rfl,by rw[g1];exact i1.symm,fun j b hb=>?_⟩
  have hj:j<l.length:=by rw[←i1];exact(List.getElem?_eq_some_iff.1 hb).1
  obtain⟨x,f1,f2⟩:=g2 j _ (List.getElem?_eq_getElem hj)
  obtain⟨b',q1,q2⟩:=i2 j _ x (List.getElem?_eq_getElem hj) f2
  have hb':(borL H l).2.2[j]?=some b:=hb
  rw[hb'] at q1
  cases q1
  exact⟨x,f1,q2⟩
 |_=>exact hok.elim
theorem borA_sound2 (h:SRf N w0 E F A T H a w own rt):∀(l:List TV) (vs:List Value),(borA H l).1→k0∉mlA l→vs.length=l.length→(∀(i:Nat) (t:TV),l[i]?=some t→∃v,vs[i]?=some v∧RelT w own rt H t v)→
 (borA H l).2.2.length=l.length∧∀(i:Nat) (t:AT),(borA H l).2.2[i]?=some t→∃v,vs[i]?=some v∧RelA w own2 t v
 |[],vs,_,_,_,_=>⟨rfl,fun i t hi=>by simp[borA] at hi⟩
 |t::r,[],_,_,hl,_=>by simp at hl
 |t::r,v::vs,hok,hk,hl,hr=>by
  simp only[mlA,List.mem_append,not_or] at hk
  obtain⟨i1,i2⟩:=borA_sound2 h r vs hok.2 hk.2 (by simpa using hl) (fun i t' hi=>by
   obtain⟨x,f1,f2⟩:=hr (i+1) t' (by simpa using hi)
   exact⟨x,by simpa using f1,f2⟩)
  refine⟨by simp[borA,i1],fun i t' hi=>?_⟩
  cases i with
  |zero=>
   simp only[borA,List.getElem?_cons_zero,Option.some.injEq] at hi
   subst hi
   obtain⟨x,f1,f2⟩:=hr 0 t rfl
   simp only[List.getElem?_cons_zero,Option.some.injEq] at f1
   subst f1
   exact⟨v,rfl,borT_sound2 h2 h3 h hok.1 f2 hk.1⟩
  |succ i=>
   obtain⟨x,f1,f2⟩:=i2 i t' (by simpa [borA] using hi)
   exact⟨x,by simpa using f1,f2⟩
end
theorem fnOf_sound {t:TV} {v:Value} {f:FuncId} {cap:List TV} (h:fnOf t=some (f,cap)) (hr:RelT w own rt H t v):
 ∃cs:Array Value,v=.func (.func f) #[] cs∧cs.size=cap.length∧∀(i:Nat) (t:TV),cap[i]?=some t→∃x,cs[i]?=some x∧RelT w own rt H t x:=by
 unfold fnOf at h
 split at h
 ·rename_i f' l
  simp only[Option.some.injEq,Prod.mk.injEq] at h
  obtain⟨rfl,rfl⟩:=h
  obtain⟨cs,rfl,h1,h2⟩:=hr
  have key:∀(l:List SV) (cs:List Value),cs.length=l.length→(∀(j:Nat) (s:SV),l[j]?=some s→∃x,cs[j]?=some x∧RelS0 w own rt H s x)→cs.length=(capL l).length∧∀(i:Nat) (t:TV),(capL l)[i]?=some t→∃x,cs[i]?=some x∧RelT w own rt H t x:=by
   intro l
   induction l with
   |nil=>intro cs h _;exact⟨h,fun i t hi=>by simp[capL] at hi⟩
   |cons s l ih=>
    intro cs hl hc
    cases cs with
    |nil=>simp at hl
    |cons c cs=>
     obtain⟨i1,i2⟩:=ih cs (by simpa using hl) (fun j s hj=>by
      obtain⟨x,f1,f2⟩:=hc (j+1) s (by simpa using hj)
      exact⟨x,by simpa using f1,f2⟩)
     refine⟨by simp[capL,i1],fun i t hi=>?_⟩
     cases i with
     |zero=>
      simp only[capL,List.getElem?_cons_zero,Option.some.injEq] at hi
      subst hi
      obtain⟨x,f1,f2⟩:=hc 0 s rfl
      simp only[List.getElem?_cons_zero,Option.some.injEq] at f1
      subst f1
      refine⟨c,rfl,?_⟩
      cases s with
      |clo g l'=>trivial
      |_=>exact f2
     |succ i=>
      obtain⟨x,f1,f2⟩:=i2 i t (by simpa [capL] using hi)
      exact⟨x,by simpa using f1,f2⟩
  obtain⟨k1,k2⟩:=key l cs.toList (by simpa using h1) (fun j s hj=>by
   obtain⟨x,f1,f2⟩:=h2 j s hj
   exact⟨x,by simpa using f1,f2⟩)
  exact⟨cs,rfl,by simpa using k1,fun i t hi=>by
   obtain⟨x,f1,f2⟩:=k2 i t hi
   exact⟨x,by simpa using f1,f2⟩⟩
 ·rename_i f' m g
  simp only[Option.some.injEq,Prod.mk.injEq] at h
  obtain⟨rfl,rfl⟩:=h
  obtain⟨cs,rfl,h1,h2⟩:=hr
  have hget:∀(m o i:Nat) (t:TV),(capF g o m)[i]?=some t→i<m∧t=.one (.av (g (o+i))):=by
   intro m
   induction m with
   |zero=>intro o i b hb;simp[capF] at hb
   |succ m ih=>
    intro o i b hb
    cases i with
    |zero=>simp[capF] at hb;exact⟨by omega,hb.symm⟩
    |succ i=>
     obtain⟨k1,k2⟩:=ih (o+1) i b (by simpa [capF] using hb)
     exact⟨by omega,by rw[k2];congr 3;omega⟩
  have hlen:∀(m o:Nat),(capF g o m).length=m:=by
   intro m
   induction m with
   |zero=>intro o;rfl
   |succ m ih=>intro o;simp[capF,ih]
  refine⟨cs,rfl,by rw[hlen,h1],fun i t hi=>?_⟩
  obtain⟨k1,k2⟩:=hget m 0 i t hi
  obtain⟨x,f1,f2⟩:=h2 i k1
  rw[Nat.zero_add] at k2
  subst k2
  exact⟨x,f1,f2⟩
 ·cases h
end
end Go.AM
/- The framework AM,part 20:the runs are sound. -/
namespace Go.AM
open Go
def wpIt (P:Program) (S:St→Act→World→Prop) (Qf:Exit→Act→World→Prop):List It→Exit→Act→World→Prop
 |[]=>Qf
 | .code c::K=>Exit.then (c.wp P (wpIt P S Qf K)) (wpIt P S Qf K)
 | .blk id::K=>Exit.inBlock id (wpIt P S Qf K)
 | .ops l all::K=>Exit.then (wpList P all (wpIt P S Qf K) l) (wpIt P S Qf K)
 | .lp J::K=>Exit.then (fun a w=>∃σ,S σ a w∧J σ) (wpIt P S Qf K)
section
variable {N:Nat} {w0:World} {E A:Nat→Prop} {F:Frm} {T:Nat→TV} {H:Nat→OB} {a:Act} {w:World} {own:Own} {rt:Rt} {P:Program} {o:Oper} {n:Nat}
variable {S:St→Act→World→Prop} {Qf:Exit→Act→World→Prop}
theorem wpIt_ret:∀{K:List It},Qf .ret a w→wpIt P S Qf K .ret a w
 |[],h=>h
 | .code _::K,h=>wpIt_ret (K:=K) h
 | .blk _::K,h=>wpIt_ret (K:=K) h
 | .ops _ _::K,h=>wpIt_ret (K:=K) h
 | .lp _::K,h=>wpIt_ret (K:=K) h
theorem wpIt_exit {id:Nat}:∀{K:List It},hasBlk id K=true→wpIt P S Qf (unw id K) .normal a w→wpIt P S Qf K (.exit id) a w
 |[],h,_=>by cases h
 | .code c::K,h,h2=>wpIt_exit (K:=K) h h2
 | .blk i::K,h,h2=>by
  simp only[hasBlk,Bool.or_eq_true,Nat.beq_eq] at h
  by_cases e:i=id
  ·subst e
   simp only[unw,Nat.beq_refl,cond_true] at h2
   show (if i=i then _ else _)
   rw[if_pos rfl]
   exact h2
  ·have e2:Nat.beq i id=false:=by
    cases hb:Nat.beq i id with
    |true=>exact absurd (Nat.eq_of_beq_eq_true hb) e
    |false=>rfl
   simp only[unw,e2,cond_false] at h2
   show (if id=i then _ else _)
   rw[if_neg (Ne.symm e)]
   exact wpIt_exit (K:=K) (h.resolve_left e) h2
 | .ops l all::K,h,h2=>wpIt_exit (K:=K) h h2
 | .lp J::K,h,h2=>wpIt_exit (K:=K) h h2
theorem put_T (σ:St) (d:Option Tmp) (v:TV) (hu:List (Nat×OB)) (m:Nat):(σ.put d v hu m).T=updT σ.T d v:=by
 funext s
 cases d<;>rfl
theorem put_H (σ:St) (d:Option Tmp) (v:TV) (hu:List (Nat×OB)) (m:Nat):(σ.put d v hu m).H=updH σ.H hu:=by
 funext k
 simp only[St.put,St.H,updH,lk_append]
theorem dOk_lt {d:Option Tmp} (h:dOk N d=true):∀s,d=some s→s<N:=by
 rintro s rfl
 simpa [dOk,Nat.blt_eq] using h
theorem least {p:Nat→Prop} (h:∃m,p m):∃m,p m∧∀k,p k→m≤k:=by
 obtain⟨m,hm⟩:=h
 induction m using Nat.strongRecOn with
 |_ m ih=>
  by_cases h:∃k,k<m∧p k
  ·obtain⟨k,hk,hp⟩:=h;exact ih k hk hp
  ·exact⟨m,hm,fun k hk=>Nat.le_of_not_lt (fun e=>h ⟨k,e,hk⟩)⟩
theorem wp_loop_fam {c:Code} {X:Type} (I:X→Act→World→Prop) (μ:X→Nat) {Q:Exit→Act→World→Prop} (h0:∃x,I x a w)
 (round:∀x a w,I x a w→c.wp P (Exit.then (fun a' w'=>∃x',I x' a' w'∧μ x'<μ x) Q) a w):(Code.loop c).wp P Q a w:=by
 classical
 let ex:Act→World→Nat→Prop:=fun a w m=>∃x,I x a w∧μ x=m
 let ν:Act→World→Nat:=fun a w=>if h:∃m,ex a w m then Classical.choose (least h) else 0
 refine wp_loop (fun a w=>∃x,I x a w) ν h0 (fun a w hx=>?_)
 have hex:∃m,ex a w m:=let ⟨x,hx⟩:=hx;⟨μ x,x,hx,rfl⟩
 obtain⟨⟨x,h1,h2⟩,_⟩:=Classical.choose_spec (least hex)
 refine wp_mono (round x a w h1) (fun e a' w' hq=>?_)
 cases e with
 |normal=>
  obtain⟨x',g1,g2⟩:=hq
  refine⟨⟨x',g1⟩,?_⟩
  have hex':∃m,ex a' w' m:=⟨μ x',x',g1,rfl⟩
  have e1:ν a w=Classical.choose (least hex):=dif_pos hex
  have e2:ν a' w'=Classical.choose (least hex'):=dif_pos hex'
  rw[e1,e2]
  exact Nat.lt_of_le_of_lt ((Classical.choose_spec (least hex')).2 _ ⟨x',g1,rfl⟩) (by rw[←h2];exact g2)
 |_=>exact hq
def uncT (T:Nat→TV):Nat→TV:=fun s=>match T s with
 | .cnd b c=>if b=true then c.tv else .junk
 |t=>t
theorem relC_tv {c:CV} {v:Value} (h:RelC w own rt H c v):RelT w own rt H c.tv v:=by
 cases c<;>exact h
theorem mn_tv {c:CV} {k:Nat} (h:c.tv.mn k):c.mn k:=by
 cases c<;>exact h
theorem cndOf_true {t:TV} {v:Value} (h:RelT w own rt H t v):RelT w own rt H (cndOf true t) v:=by
 unfold cndOf
 split
 ·exact⟨fun _=>h,(fun e=>by cases e)⟩
 ·exact⟨fun _=>h,(fun e=>by cases e)⟩
 ·trivial
theorem cndOf_false {t:TV}:RelT w own rt H (cndOf false t) undef:=by
 unfold cndOf
 split
 ·exact⟨(fun e=>by cases e),fun _=>rfl⟩
 ·exact⟨(fun e=>by cases e),fun _=>rfl⟩
 ·trivial
theorem cndOf_mn {b:Bool} {t:TV} {k:Nat} (h:(cndOf b t).mn k):t.mn k:=by
 unfold cndOf at h
 split at h
 ·exact h
 ·exact h
 ·exact h.elim
theorem avL_get:∀{l:List AV} {j:Nat} {s:SV},(avL l)[j]?=some s→∃a,l[j]?=some a∧s=.av a
 |[],j,s,h=>by simp[avL] at h
 |a::r,0,s,h=>by simp[avL] at h;exact⟨a,rfl,h.symm⟩
 |a::r,j+1,s,h=>by
  obtain⟨x,h1,h2⟩:=avL_get (l:=r) (j:=j) (s:=s) (by simpa [avL] using h)
  exact⟨x,by simpa using h1,h2⟩
theorem avL_mn {l:List AV} {k:Nat} {s:SV} (hs:s∈avL l):¬s.mn k:=by
 obtain⟨j,hj⟩:=List.getElem?_of_mem hs
 obtain⟨a,_,rfl⟩:=avL_get hj
 exact fun h=>h
theorem cv_mn {t:AT} {k:Nat}:¬t.cv.mn k:=by
 cases t with
 |one a=>exact fun h=>h
 |agg l=>rintro⟨s,hs,hk⟩;exact avL_mn hs hk
theorem objs_plain (l:List AV):∀(n:Nat),l.all plain=true→objs n l=[]:=by
 induction l with
 |nil=>intro n _;rfl
 |cons a r ih=>
  intro n h
  simp only[List.all_cons,Bool.and_eq_true] at h
  have:=ih (n+1) h.2
  cases a with
  |sl u nl es m f=>simp[plain] at h
  |_=>exact this
theorem objs_noOwn (l:List AV):∀(n:Nat),l.all noOwn=true→objs n l=[]:=by
 induction l with
 |nil=>intro n _;rfl
 |cons a r ih=>
  intro n h
  simp only[List.all_cons,Bool.and_eq_true] at h
  have:=ih (n+1) h.2
  cases a with
  |sl u nl es m f=>cases u with
   |true=>simp[noOwn] at h
   |false=>exact this
  |_=>exact this
theorem clAll_plain (l:List AV):l.all plain=true→clAll l:=by
 induction l with
 |nil=>intro _;trivial
 |cons a r ih=>
  intro h
  simp only[List.all_cons,Bool.and_eq_true] at h
  have:=ih h.2
  cases a with
  |sl u nl es m f=>simp[plain] at h
  |_=>exact this
theorem SRf.unc (h:SRf N w0 E F A T H a w own rt):SRf N w0 E F A (uncT T) H a w own rt:=by
 refine⟨h.toWRf,h.defers,h.size,fun s=>?_,fun s k hk=>?_,h.frz⟩
 ·have:=h.tmp s
  unfold uncT
  split
  ·rename_i b v e
   rw[e] at this
   split
   ·rename_i hb;exact relC_tv (this.1 hb)
   ·trivial
  ·exact this
 ·have:=h.men s k
  unfold uncT at hk
  split at hk
  ·rename_i b v e
   rw[e] at this
   split at hk
   ·exact this (mn_tv hk)
   ·exact hk.elim
  ·exact this hk
theorem opd_unc {x:Operand} (h:cok1 (opd T x)):opd (uncT T) x=AM.unc (opd T x):=by
 cases x with
 |tmp s=>
  simp only[opd] at h ⊢
  unfold uncT
  cases hT:T s with
  |cnd b v=>
   rw[hT] at h
   have hb:b=true:=h
   simp[hb,AM.unc]
  |_=>simp[AM.unc]
 |const v=>cases v<;>rfl
 |global g=>rfl
 |func f=>rfl
theorem unc_mn {t:TV} {k:Nat} (h:(AM.unc t).mn k):t.mn k:=by
 cases t<;>first|exact h|exact mn_tv h
theorem gcond_sound {all:Array Oper} {g:Nat} {want:Bool} {d:Tmp} {t:TV} {gc:Bool} (hd:gdst all g=some d) (ht:RelT w own rt H t (a.tmps.getD d undef)) (hg:gcond want t=some gc) {o:Oper} (ho:o.guard=some (g,want)):
 Region.wanted o (yielded all a.tmps)=gc:=by
 have hy:∀b,a.tmps.getD d undef=.bool b→yielded all a.tmps g=some b:=fun b e=>by
  unfold yielded
  unfold gdst at hd
  rw[hd]
  simp only[Option.bind_some]
  rw[Array.getD_eq_getD_getElem?] at e
  cases hh:a.tmps[d]? with
  |none=>rw[hh] at e;simp[undef] at e
  |some v=>rw[hh] at e;simp only[Option.getD_some] at e;rw[e]
 have hn:a.tmps.getD d undef=undef→yielded all a.tmps g=none:=fun e=>by
  unfold yielded
  unfold gdst at hd
  rw[hd]
  simp only[Option.bind_some]
  rw[Array.getD_eq_getD_getElem?] at e
  cases hh:a.tmps[d]? with
  |none=>rfl
  |some v=>rw[hh] at e;simp only[Option.getD_some] at e;rw[e];rfl
 unfold Region.wanted
 rw[ho]
 simp only
 unfold gcond at hg
 split at hg
 ·rename_i q
  simp only[Option.some.injEq] at hg
  rw[hy q ht,←hg]
  cases q<;>cases want<;>rfl
 ·rename_i b q
  simp only[Option.some.injEq] at hg
  cases b with
  |true=>rw[hy q (ht.1 rfl),←hg];cases q<;>cases want<;>rfl
  |false=>rw[hn (ht.2 rfl),←hg];cases want<;>rfl
 ·cases hg
theorem cok_mem {ρ:Operand→TV}:∀{l:List Operand},cok ρ l→∀x∈l,cok1 (ρ x)
 |x::r,h,y,hy=>by
  rcases List.mem_cons.1 hy with rfl|hy
  ·exact h.1
  ·exact cok_mem h.2 y hy
theorem aop_congr {op:Op} (hs:simpleOp op=true) {ρ ρ':Operand→TV} (h:∀x∈op.operands.toList,ρ x=ρ' x):aop P op ρ H n=aop P op ρ' H n:=by
 cases op<;>simp only[simpleOp,Bool.false_eq_true] at hs
 case call c=>
  cases hc:c.callee with
  |builtin b=>
   rw[hc] at hs
   cases b<;>simp only[Bool.false_eq_true] at hs
   all_goals have ha:∀x∈c.args.toList,ρ x=ρ' x:=fun x hx=>h x (by simp[Op.operands,Call.operands,hc] at hx ⊢;exact hx)
   all_goals simp only[aop,hc]
   all_goals split
   all_goals first
    |(rename_i x t e1 e2 e3;rw[ha x (by rw[e2];simp)])
    |(rename_i x y e1 e2;rw[ha x (by rw[e2];simp),ha y (by rw[e2];simp)])
    |(rename_i e1 _ _;cases e1;done)
    |(rename_i e1 _;cases e1;done)
    |rfl
  |_=>rw[hc] at hs;simp at hs
 case unOp u t x=>simp only[Op.operands] at h;cases u<;>simp[h,aop]
 case lookup t x y b=>
  simp only[Op.operands] at h
  cases b with
  |false=>simp[h,aop]
  |true=>rfl
 case makeFunc g first cap=>
  have key:∀(l:List Operand),(∀x∈l,ρ x=ρ' x)→cloOps ρ l=cloOps ρ' l:=by
   intro l
   induction l with
   |nil=>intro _;rfl
   |cons x r ih=>intro h;simp only[cloOps,h x (by simp),ih (fun y hy=>h y (by simp[hy]))]
  simp only[aop,key cap.toList (fun x hx=>h x (by simp[Op.operands] at hx ⊢;exact .inr hx))]
 case slice t x lo hi mx=>
  cases mx with
  |some m=>cases hs
  |none=>
   have key:∀(lo:Option Operand),(∀y,lo=some y→ρ y=ρ' y)→optI ρ lo=optI ρ' lo:=by
    intro lo h
    cases lo with
    |none=>rfl
    |some y=>simp only[optI,h y rfl]
   simp only[aop,h x (by simp[Op.operands]),key lo (fun y hy=>h y (by subst hy;simp[Op.operands])),key hi (fun y hy=>h y (by subst hy;simp[Op.operands]))]
 all_goals simp only[Op.operands] at h
 all_goals simp[h,aop,conv]
theorem pure_simple (h:SRf N w0 E F A T H a w own rt) (hs:simpleOp o.op=true) (hok:(aop P o.op (opd T) H n).ok):Pure1 P o a w own rt H (aop P o.op (opd T) H n).v:=by
 cases hop:o.op with
 |move x=>rw[←hop];exact pure_move h (.inl hop)
 |pick c x y=>rw[←hop];exact pure_pick h hop hok
 |load t x=>rw[←hop];exact pure_load h hop hok
 |nilCheck x=>rw[←hop];exact pure_nilCheck h hop hok
 |binOp op t x y yt=>rw[←hop];exact pure_binOp h hop hok
 |unOp op t x=>rw[←hop];exact pure_unOp h hop hok
 |convert s d x=>rw[←hop];exact pure_convert h hop hok
 |fieldAddr t x i=>rw[←hop];exact pure_fieldAddr h hop hok
 |indexAddr t x y=>rw[←hop];exact pure_indexAddr h hop hok
 |index t x y=>rw[←hop];exact pure_index h hop hok
 |makeFunc g first cap=>rw[←hop];exact pure_makeFunc h hop hok
 |slice t x lo hi mx=>
  cases mx with
  |some m=>rw[hop] at hs;cases hs
  |none=>rw[←hop];exact pure_slice h hop hok
 |call c=>
  rw[←hop]
  have hok':=hok
  rw[hop] at hok' hs
  simp only[aop] at hok'
  split at hok'
  ·rename_i x t e1 e2 e3
   exact pure_len h hop e1 e2 e3 hok
  ·rename_i e1 _ _;simp[simpleOp,e1] at hs
  ·rename_i x y tt e1 e2
   exact pure_minmax h hop e1 (.inl rfl) e2 hok
  ·rename_i x y tt e1 e2
   exact pure_minmax h hop e1 (.inr rfl) e2 hok
  ·exact hok'.elim
 |lookup t x y b=>
  cases b with
  |false=>rw[←hop];exact pure_lookup h hop hok
  |true=>rw[hop] at hs;simp[simpleOp] at hs
 |_=>rw[hop] at hs;simp[simpleOp] at hs
theorem guard_pure (h:SRf N w0 E F A T H a w own rt) (hs:simpleOp o.op=true) (hc:cok (opd T) (coks o.op)) (hok:(aop P o.op (gro o.op (opd T)) H n).ok):Pure1 P o a w own rt H (aop P o.op (gro o.op (opd T)) H n).v:=by
 by_cases hp:∃c x y,o.op=.pick c x y
 ·obtain⟨c,x,y,e⟩:=hp
  have e2:gro o.op (opd T)=opd T:=by rw[e];rfl
  rw[e2] at hok ⊢
  exact pure_pick h e hok
 ·have e2:gro o.op (opd T)=fun x=>AM.unc (opd T x):=by
   cases hop:o.op<;>first|rfl|exact absurd ⟨_,_,_,hop⟩ hp
  have e3:coks o.op=o.op.operands.toList:=by
   cases hop:o.op<;>first|rfl|exact absurd ⟨_,_,_,hop⟩ hp
  rw[e3] at hc
  rw[e2] at hok ⊢
  have hcong:aop P o.op (opd (uncT T)) H n=aop P o.op (fun x=>AM.unc (opd T x)) H n:=aop_congr hs (fun x hx=>opd_unc (cok_mem hc x hx))
  rw[←hcong] at hok ⊢
  obtain⟨v,h3,h4,h5⟩:=pure_simple h.unc hs hok
  exact⟨v,h3,h4,h5⟩
theorem gro_mn {op:Op} {ρ:Operand→TV} {x:Operand} {k:Nat} (h:(gro op ρ x).mn k):(ρ x).mn k:=by
 cases op<;>first|exact h|exact unc_mn h
theorem coks_sub {op:Op} {x:Operand} (h:x∈coks op):x∈op.operands.toList:=by
 cases op<;>first|exact h|simp[coks] at h
theorem gro_congr {op:Op} {ρ ρ':Operand→TV} {x:Operand} (h:ρ x=ρ' x):gro op ρ x=gro op ρ' x:=by
 cases op<;>simp only[gro,h]
theorem inst1_av {bw:Bool} {k:Nat} {a:AV} (h:plain a=true∨(bw=false∧noOwn a=true)):inst1 bw k a=.av a:=by
 cases a with
 |sl u nl es m f=>
  cases u with
  |true=>rcases h with h|h<;>simp[plain,noOwn] at h
  |false=>
   rcases h with h|h
   ·simp[plain] at h
   ·simp[inst1,h.1]
 |_=>
  rcases h with h|h
  ·simp[inst1,h]
  ·simp[inst1,h.1]
theorem instL_av {bw:Bool}:∀{l:List AV} {k:Nat},(∀a∈l,plain a=true∨(bw=false∧noOwn a=true))→instL bw k l=avL l
 |[],k,h=>rfl
 |a::r,k,h=>by
  simp only[instL,avL]
  rw[inst1_av (h a (by simp)),instL_av (fun x hx=>h x (by simp[hx]))]
theorem gPl_mem {bw:Bool} {t:AT} (h:gPl bw t=true):∀a∈t.cells,plain a=true∨(bw=false∧noOwn a=true):=by
 intro a ha
 unfold gPl at h
 simp only[Bool.or_eq_true,Bool.and_eq_true,List.all_eq_true,Bool.not_eq_true'] at h
 rcases h with h|⟨h1,h2⟩
 ·exact .inl (h a ha)
 ·exact .inr ⟨h1,h2 a ha⟩
theorem instA_cv {bw:Bool} {k:Nat} {t:AT} (h:gPl bw t=true):instA bw k t=t.cv:=by
 cases t with
 |one a=>simp only[instA,AT.cv];rw[inst1_av (gPl_mem h a (by simp[AT.cells]))]
 |agg l=>exact congrArg CV.agg (instL_av (l:=l) (gPl_mem h))
theorem tv_relC {c:CV} {v:Value} (h:RelT w own rt H c.tv v):RelC w own rt H c v:=by
 cases c with
 |one s=>exact h
 |agg l=>exact h
theorem ret_cnd {w':World} (h:SRf N w0 E F A T H a w own rt) {b:AT} (hA:∀k,n≤k→k≤n+b.cells.length→¬A k) {own0:Own} {bw:Bool} (hown0:bw=false→own0=own) {v:Value} (hg:Gives w own0 w' (.val b) v) (hp:gPl bw b=true) {d:Option Tmp} (hd:∀s,d=some s→s<N):
 ∃A' own'' rt'',SRf N w0 E F A' (updT T d (.cnd true b.cv)) H (a.put d v) w' own'' rt''∧∀k,A' k→A k∨(n<k∧k≤n+b.cells.length):=by
 have hp':=hp
 unfold gPl at hp'
 simp only[Bool.or_eq_true,Bool.and_eq_true,Bool.not_eq_true'] at hp'
 have hu:objs (n+1) (RV.val b).cells=[]:=by
  rcases hp' with h|h
  ·exact objs_plain _ _ h
  ·exact objs_noOwn _ _ h.2
 obtain⟨A',own'',rt'',q1,q2⟩:=ret_sound h (r:=.val b) hA hown0 hg (fun e=>by
  rcases hp' with h|h
  ·exact clAll_plain _ h
  ·rw[h.1] at e;cases e) (d:=d) hd
 rw[hu] at q1
 have q3:SRf N w0 E F A' (updT T d (b.cv.tv)) H (a.put d v) w' own'' rt'':=by
  have e:instR bw (n+1) (.val b)=b.cv.tv:=by simp only[instR];rw[instA_cv hp]
  rw[e] at q1
  exact q1
 refine⟨A',own'',rt'',?_,q2⟩
 cases d with
 |none=>exact q3
 |some s=>
  refine⟨q3.toWRf,q3.defers,q3.size,fun s'=>?_,fun s' k hk=>?_,q3.frz⟩
  ·have:=q3.tmp s'
   by_cases e:s'=s
   ·subst e
    simp only[updT,if_true] at this ⊢
    exact⟨fun _=>tv_relC this,fun e=>by cases e⟩
   ·simp only[updT,if_neg (fun h=>e (Eq.symm h))] at this ⊢
    exact this
  ·by_cases e:s'=s
   ·subst e
    simp only[updT,if_true] at hk
    exact(cv_mn hk).elim
   ·have:=q3.men s' k
    simp only[updT,if_neg (fun h=>e (Eq.symm h))] at hk this
    exact this hk
end
end Go.AM
/- The framework AM,part M:a part of an object is replaced in place. -/
namespace Go.AM
open Go
theorem hdr_nil (w:World) (a:AV) (v:Value):hdr w a v []=some v:=by cases a<;>rfl
section
variable {w w':World} {own own':Own} {k:Root}
theorem ow_putA {x:AV} {v0:Value} (h0:∀b o,own b=none→w.heap[b]?=some o→own' b=none∧w'.heap[b]?=some o):∀(p:Path) (a:AV) (p0:Path) (v:Value),a.okp p→hdr w a v p=some v0→Ow w own k a p0 v→Ow w' own' k x (p0++p) v0→
 (∀b o q,own b=some (k,p0++q)→¬p<+:q→w.heap[b]?=some o→own' b=some (k,p0++q)∧w'.heap[b]?=some o)→Ow w' own' k (a.putA p x) p0 v:=by
 intro p
 induction p with
 |nil=>
  intro a p0 v hok hh how hx _
  rw[hdr_nil] at hh
  cases hh
  have:a.putA [] x=x:=by cases a<;>rfl
  rw[this]
  simpa using hx
 |cons ij p ih=>
  obtain⟨i,j⟩:=ij
  intro a p0 v hok hh how hx hk
  cases a with
  |sl u nl es n f=>
   cases u with
   |false=>cases hok
   |true=>
    obtain⟨hi,hj,hok⟩:=hok
    rcases how with ⟨rfl,_⟩|⟨b,cap,c,T,rfl,hnl,ho,hb,h2,h3,h4,h5⟩
    ·omega
    ·have hb':=hk b _ [] (by simpa using ho) (by simp) hb
     refine .inr ⟨b,cap,c,T,rfl,hnl,by simpa using hb'.1,hb'.2,h2,h3,h4,fun i' hi' j' hj'=>?_⟩
     obtain⟨y,hy,hr⟩:=h5 i' hi' j' hj'
     refine⟨y,hy,?_⟩
     by_cases e:i'=i∧j'=j
     ·obtain⟨rfl,rfl⟩:=e
      simp only[and_self,if_true]
      simp only[AM.hdr,hb,Nat.zero_add] at hh
      simp[hy] at hh
      refine ih (f i' j') _ y hok hh hr (by simpa using hx) (fun b o q e1 e2 e3=>?_)
      have:=hk b o ((i',j')::q) (by simpa using e1) (fun hp=>e2 ((List.cons_prefix_cons.1 hp).2)) e3
      simpa using this
     ·dsimp only
      rw[if_neg e]
      refine Ow.mono h0 _ _ _ _ (fun b o q e1 e2=>?_) hr
      have:=hk b o ((i',j')::q) (by simpa using e1) (fun hp=>e (by
       have:=(List.cons_prefix_cons.1 hp).1
       simp only[Prod.mk.injEq] at this
       exact⟨this.1.symm,this.2.symm⟩)) e2
      simpa using this
  |_=>cases hok
theorem okp_putA {x:AV}:∀(p q:Path) (a:AV),a.okp p→q.length≤p.length→(a.putA p x).okp q→a.okp q∧(x.es=(a.at p).es→((a.putA p x).at q).es=(a.at q).es)
 |[],[],a,h,_,hq=>by
  have e:a.putA [] x=x:=by cases a<;>rfl
  have e2:a.at []=a:=by cases a<;>rfl
  have e3:x.at []=x:=by cases x<;>rfl
  rw[e,e2,e3]
  exact⟨h,fun h=>h⟩
 |[],y::q,a,_,hl,_=>by simp at hl
 |(i,j)::p,q,a,h,hl,hq=>by
  cases a with
  |sl u nl es n f=>
   cases u with
   |false=>cases h
   |true=>
    cases q with
    |nil=>exact⟨trivial,fun _=>rfl⟩
    |cons y q=>
     obtain⟨i',j'⟩:=y
     obtain⟨h1,h2,h3⟩:=h
     obtain⟨g1,g2,g3⟩:=hq
     by_cases e:i'=i∧j'=j
     ·obtain⟨rfl,rfl⟩:=e
      simp only[and_self,if_true] at g3
      obtain⟨k1,k2⟩:=okp_putA p q _ h3 (by simpa using hl) g3
      refine⟨⟨g1,g2,k1⟩,fun hx=>?_⟩
      have:=k2 hx
      simpa [AV.putA,AV.at] using this
     ·simp only[if_neg e] at g3
      refine⟨⟨g1,g2,g3⟩,fun hx=>?_⟩
      simp only[AV.putA,AV.at,if_neg e]
  |_=>cases h
theorem hdr_putA {x:AV}:∀(p q:Path) (a:AV) (p0:Path) (v:Value),a.okp p→q.length≤p.length→(a.putA p x).okp q→Ow w own k a p0 v→
 (∀b o q,own b=some (k,p0++q)→¬p<+:q→w.heap[b]?=some o→w'.heap[b]?=some o)→hdr w' (a.putA p x) v q=hdr w a v q
 |p,[],a,p0,v,_,_,_,_,_=>by rw[hdr_nil,hdr_nil]
 |[],y::q,a,p0,v,_,hl,_,_,_=>by simp at hl
 |(i,j)::p,(i',j')::q,a,p0,v,h,hl,hq,how,hk=>by
  cases a with
  |sl u nl es n f=>
   cases u with
   |false=>cases h
   |true=>
    obtain⟨h1,h2,h3⟩:=h
    obtain⟨g1,g2,g3⟩:=hq
    rcases how with ⟨rfl,_⟩|⟨b,cap,c,T,rfl,hnl,ho,hb,e2,e3,e4,e5⟩
    ·omega
    ·obtain⟨y,hy,hr⟩:=e5 i' g1 j' g2
     have hb':=hk b _ [] (by simpa using ho) (by simp) hb
     simp only[AV.putA,AM.hdr,hb,hb',Nat.zero_add,hy,Option.bind_some]
     dsimp only at g3
     by_cases e:i'=i∧j'=j
     ·obtain⟨rfl,rfl⟩:=e
      simp only[and_self,if_true] at g3 ⊢
      exact hdr_putA p q _ _ _ h3 (by simpa using hl) g3 hr (fun b o q e1 e2 e3=>hk b o ((i',j')::q) (by simpa using e1) (fun hp=>e2 ((List.cons_prefix_cons.1 hp).2)) e3)
     ·simp only[if_neg e] at g3 ⊢
      exact Ow.hdr_eq q _ _ _ g3 hr (fun b o q e1 e2=>hk b o ((i',j')::q) (by simpa using e1) (fun hp=>e (by
       have:=(List.cons_prefix_cons.1 hp).1
       simp only[Prod.mk.injEq] at this
       exact⟨this.1.symm,this.2.symm⟩)) e2)
  |_=>cases h
def subOwn (own:Own) (k:Nat) (p:Path):Own:=fun c=>
 match own c with
 |none=>none
 |some (k',q)=>if k'=k∧p<+:q then some (1,q.drop p.length) else some (0,[])
open Classical in
noncomputable def backOwn (own own1:Own) (k:Nat) (p:Path) (m:Nat):Own:=fun c=>
 if c<m∧∀q,own c≠some (k,p++q) then own c
 else match own1 c with
  |some (1,q)=>some (k,p++q)
  |_=>none
theorem subOwn_in {c:Nat} {k:Nat} {p q:Path} (h:own c=some (k,p++q)):subOwn own k p c=some (1,q):=by
 have:p<+:p++q:=List.prefix_append p q
 simp[subOwn,h]
theorem subOwn_out {c:Nat} {k k':Nat} {p q:Path} (h:own c=some (k',q)) (hn:∀q,own c≠some (k,p++q)):subOwn own k p c=some (0,[]):=by
 have:¬(k'=k∧p<+:q):=by
  rintro⟨rfl,r,rfl⟩
  exact hn r h
 simp only[subOwn,h,if_neg this]
theorem subOwn_none {c:Nat} {k:Nat} {p:Path} (h:own c=none):subOwn own k p c=none:=by simp[subOwn,h]
theorem subOwn_one {c:Nat} {k:Nat} {p q:Path} (h:subOwn own k p c=some (1,q)):own c=some (k,p++q):=by
 simp only[subOwn] at h
 split at h
 ·cases h
 ·rename_i k' q' e
  split at h
  ·rename_i hp
   obtain⟨rfl,r,rfl⟩:=hp
   simp at h
   rw[e,h]
  ·cases h
variable {N:Nat} {w0:World} {E A:Nat→Prop} {F:Frm} {H:Nat→OB} {rt:Rt}
theorem mut_sound (h:WRf w0 E F A H w own rt) {k:Nat} {p:Path} {x:AV} {i:Int} {v0 v:Value} (hl:(H k).a.okp p) (hh:hdr w (H k).a (rt k) p=some v0) (g:GivesM w (subOwn own k p) w' x i v0 v) (hes:x.es=((H k).a.at p).es):
 ∃own',WRf w0 E F A (updH H [(k,⟨(H k).a.putA p x,bump (H k).vs (p.length+1)⟩)]) w' own' rt∧(∀b o,own b=none→w.heap[b]?=some o→own' b=none∧w'.heap[b]?=some o)∧
  ∀k',Over w own rt H w' own' rt (updH H [(k,⟨(H k).a.putA p x,bump (H k).vs (p.length+1)⟩)]) k':=by
 obtain⟨hkeep,own1,d1,n1,f1,s1,ow1,_,_⟩:=g
 have hk0:k≠0:=by
  intro e
  subst e
  rw[h.frn0.1] at hl
  cases p<;>exact hl
 have hAk:A k:=by
  by_cases e:A k
  ·exact e
  ·rw[h.dead k e] at hl
   exfalso
   cases p<;>exact hl
 have hlt:∀b y,own b=some y→b<w.heap.size:=fun b y e=>(h.dom b y e).1
 have hblk:∀b,b<w.heap.size→(∀q,own b≠some (k,p++q))→w'.heap[b]?=w.heap[b]?:=fun b hb hn=>hkeep.block b hb (fun ⟨q,e⟩=>hn q (subOwn_one e))
 have hlt':∀(b:Nat) (o:Obj),w.heap[b]?=some o→b<w.heap.size:=fun b o e=>(Array.getElem?_eq_some_iff.1 e).1
 have hout:∀b,b<w.heap.size→(∀q,own b≠some (k,p++q))→backOwn own own1 k p w.heap.size b=own b:=fun b hb hn=>by
  simp only[backOwn];rw[if_pos ⟨hb,hn⟩]
 have hone:∀b q,own1 b=some (1,q)→backOwn own own1 k p w.heap.size b=some (k,p++q):=fun b q e=>by
  have hc:¬(b<w.heap.size∧∀q,own b≠some (k,p++q)):=by
   rintro⟨hb,hn⟩
   obtain⟨q0,e0⟩:=s1 b 1 q hb e (by decide)
   exact hn q0 (subOwn_one e0)
  simp only[backOwn]
  rw[if_neg hc,e]
  rfl
 have h0:∀b o,own b=none→w.heap[b]?=some o→backOwn own own1 k p w.heap.size b=none∧w'.heap[b]?=some o:=fun b o e1 e2=>by
  have hn:∀q,own b≠some (k,p++q):=fun q e=>by rw[e1] at e;cases e
  exact⟨by rw[hout b (hlt' b o e2) hn];exact e1,by rw[hblk b (hlt' b o e2) hn];exact e2⟩
 have h1:∀b o,own1 b=none→w'.heap[b]?=some o→backOwn own own1 k p w.heap.size b=none∧w'.heap[b]?=some o:=fun b o e1 e2=>by
  refine⟨?_,e2⟩
  by_cases hb:b<w.heap.size∧∀q,own b≠some (k,p++q)
  ·rw[hout b hb.1 hb.2]
   cases ho:own b with
   |none=>rfl
   |some y=>
    have:=f1 b (subOwn_out (k':=y.1) (q:=y.2) ho hb.2)
    rw[e1] at this;cases this
  ·simp only[backOwn]
   rw[if_neg hb,e1]
 have hoff:∀b o k' q,own b=some (k',q)→¬(k'=k∧p<+:q)→w.heap[b]?=some o→backOwn own own1 k p w.heap.size b=some (k',q)∧w'.heap[b]?=some o:=fun b o k' q e1 e2 e3=>by
  have hn:∀q,own b≠some (k,p++q):=fun q e=>by
   rw[e1] at e
   cases e
   exact e2 ⟨rfl,List.prefix_append _ _⟩
  exact⟨by rw[hout b (hlt' b o e3) hn];exact e1,by rw[hblk b (hlt' b o e3) hn];exact e3⟩
 have hHk:updH H [(k,⟨(H k).a.putA p x,bump (H k).vs (p.length+1)⟩)] k=⟨(H k).a.putA p x,bump (H k).vs (p.length+1)⟩:=updH_self _ _ _ _
 have hHo:∀k',k'≠k→updH H [(k,⟨(H k).a.putA p x,bump (H k).vs (p.length+1)⟩)] k'=H k':=fun k' e=>by simp[updH,lk,Ne.symm e]
 refine⟨backOwn own own1 k p w.heap.size,⟨⟨hkeep.os.trans h.keep.os,hkeep.tape.trans h.keep.tape,hkeep.output.trans h.keep.output,Nat.le_trans h.keep.size hkeep.size,fun b hb he=>?_⟩,fun b y e=>?_,fun k'=>?_,fun k' hk=>?_,fun b k' q e=>?_,fun b hb=>?_,?_⟩,h0,fun k'=>?_⟩
 ·rw[hblk b (Nat.lt_of_lt_of_le hb h.keep.size) (fun q e=>?_)]
  ·exact h.keep.block b hb he
  ·rcases (h.dom b _ e).2 with e'|e'|e'
   ·omega
   ·exact he e'
   ·have:=h.frn b e';rw[e] at this;exact hk0 (Prod.mk.inj (Option.some.inj this)).1
 ·by_cases hb:b<w.heap.size∧∀q,own b≠some (k,p++q)
  ·rw[hout b hb.1 hb.2] at e
   exact⟨Nat.lt_of_lt_of_le hb.1 hkeep.size,(h.dom b y e).2⟩
  ·simp only[backOwn] at e
   rw[if_neg hb] at e
   by_cases hb2:b<w.heap.size
   ·refine⟨Nat.lt_of_lt_of_le hb2 hkeep.size,?_⟩
    have:∃q,own b=some (k,p++q):=by
     by_cases h:∃q,own b=some (k,p++q)
     ·exact h
     ·exact absurd ⟨hb2,fun q e=>h ⟨q,e⟩⟩ hb
    obtain⟨q,e'⟩:=this
    exact(h.dom b _ e').2
   ·split at e
    ·rename_i q e1
     exact⟨d1 b _ e1,.inl (by have:=h.keep.size;omega)⟩
    ·cases e
 ·by_cases ek:k'=k
  ·subst ek
   rw[hHk]
   refine ow_putA h0 p _ [] _ hl hh (h.obj k') ?_ (fun b o q e1 e2 e3=>?_)
   ·exact Ow.mono h1 _ _ _ _ (fun b o q e1 e2=>⟨hone b q (by simpa using e1),e2⟩) ow1
   ·exact hoff b o k' q (by simpa using e1) (fun h=>e2 h.2) e3
  ·rw[hHo k' ek]
   exact Ow.mono h0 _ _ _ _ (fun b o q e1 e2=>hoff b o k' _ e1 (fun h=>ek h.1) e2) (h.obj k')
 ·have ek:k'≠k:=fun e=>hk (e▸hAk)
  rw[hHo k' ek]
  exact h.dead k' hk
 ·by_cases hb:b<w.heap.size∧∀q,own b≠some (k,p++q)
  ·rw[hout b hb.1 hb.2] at e
   exact h.owned b k' q e
  ·simp only[backOwn] at e
   rw[if_neg hb] at e
   split at e
   ·cases e;exact hAk
   ·cases e
 ·have e:=h.frn b hb
  rw[hout b (hlt b _ e) (fun q e2=>by rw[e] at e2;exact hk0 (Prod.mk.inj (Option.some.inj e2)).1.symm)]
  exact e
 ·rw[hHo 0 (fun e=>hk0 e.symm)]
  exact h.frn0
 ·by_cases ek:k'=k
  ·subst ek
   refine⟨by rw[hHk];exact fun d=>by rw[gl_bump];split<;>omega,fun q vs hvs hq=>?_⟩
   rw[hHk] at hq ⊢
   have hlen:q.length≤p.length:=by
    by_cases e:q.length≤p.length
    ·exact e
    ·exfalso
     have h3:=hvs (p.length+1)
     rw[hq.2,gl_verTake _ _ _ (by omega),gl_bump,if_pos rfl] at h3
     omega
   obtain⟨g1,g2⟩:=okp_putA p q _ hl hlen hq.1
   refine⟨⟨g1,?_⟩,g2 hes,fun u hu=>?_⟩
   ·rw[hq.2]
    exact verTake_bump _ _ _ (by omega)
   ·rw[hdr_putA (own:=own) (k:=k') p q _ [] _ hl hlen hq.1 (h.obj k') (fun b o q e1 e2 e3=>(hoff b o k' q (by simpa using e1) (fun h=>e2 h.2) e3).2)]
    exact hu
  ·exact Over.same (h.obj k') (hHo k' ek) rfl (fun b o q e1 e2=>(hoff b o k' q e1 (fun h=>ek h.1) e2).2)
end
end Go.AM
/- The framework AM,part 21:the runs are sound. -/
namespace Go.AM
open Go
section
variable {N:Nat} {w0:World} {E:Nat→Prop} {F:Frm} {σ:St} {a:Act} {w:World} {P:Program} {o:Oper} {all:Array Oper} {r:List Oper} {Q:Exit→Act→World→Prop}
theorem isField_ne (_h:isField o.op=false):True:=trivial
theorem sound_op (h:SR N w0 E F σ a w) (hg:o.guard=none) (hf:isField o.op=false) (hd:dOk N o.dst=true) (hok:(aop P o.op σ.ρ σ.H σ.n).ok)
 (next:∀a' w',SR N w0 E F (σ.put o.dst (aop P o.op σ.ρ σ.H σ.n).v (aop P o.op σ.ρ σ.H σ.n).hu (σ.n+1)) a' w'→wpList P all Q r a' w'):wpList P all Q (o::r) a w:=by
 obtain⟨A,own,rt,hs,hA⟩:=h
 obtain⟨v,w',own',rt',hrun,hs'⟩:=did_op hs (dOk_lt hd) (hA _ (Nat.le_refl _)) (isField_ne hf) hok
 have hw:Region.wanted o (yielded all a.tmps)=true:=by unfold Region.wanted;rw[hg]
 have hn:SR N w0 E F (σ.put o.dst (aop P o.op σ.ρ σ.H σ.n).v (aop P o.op σ.ρ σ.H σ.n).hu (σ.n+1)) (a.put o.dst v) w':=
  ⟨_,own',rt',by rw[put_T,put_H];exact hs',fun k hk e=>by
   have hk':σ.n+1≤k:=hk
   rcases e with e|e
   ·exact hA k (by omega) e
   ·omega⟩
 simp only[wpList,hw,if_true]
 left
 unfold Oper.wp
 rcases hrun with hrun|⟨hrun,rfl⟩
 ·rw[hrun,Oper.upon_value];exact next _ _ hn
 ·rw[hrun,Oper.upon_skip];exact next _ _ hn
theorem sound_guard {g:Nat} {want gc:Bool} {t:TV} (h:SR N w0 E F σ a w) (hg:o.guard=some (g,want)) (ht:(gdst all g).map σ.T=some t) (hgc:gcond want t=some gc) (hs:simpleOp o.op=true) (hd:dOk N o.dst=true)
 (hok:gc=true→cok σ.ρ (coks o.op)∧(aop P o.op (gro o.op σ.ρ) σ.H σ.n).ok)
 (next:∀a' w',SR N w0 E F (σ.put o.dst (cndOf gc (aop P o.op (gro o.op σ.ρ) σ.H σ.n).v) [] (σ.n+1)) a' w'→wpList P all Q r a' w'):wpList P all Q (o::r) a w:=by
 obtain⟨A,own,rt,hsr,hA⟩:=h
 cases hgd:gdst all g with
 |none=>rw[hgd] at ht;cases ht
 |some d=>
  rw[hgd] at ht
  simp only[Option.map_some,Option.some.injEq] at ht
  have hw:=gcond_sound (o:=o) hgd (by rw[←ht];exact hsr.tmp d) hgc hg
  have h2:SRf N w0 E F (fun k=>A k∨k=σ.n) σ.T σ.H a w own rt:=⟨hsr.toWRf.more _,hsr.defers,hsr.size,hsr.tmp,fun s k hk=>.inl (hsr.men s k hk),fun k v e=>⟨.inl (hsr.frz k v e).1,(hsr.frz k v e).2⟩⟩
  have hAn:∀k,σ.n+1≤k→¬(A k∨k=σ.n):=fun k hk e=>by
   rcases e with e|e
   ·exact hA k (by omega) e
   ·omega
  have hm:∀k,(cndOf gc (aop P o.op (gro o.op σ.ρ) σ.H σ.n).v).mn k→A k∨k=σ.n:=fun k hk=>by
   have:(aop P o.op (gro o.op σ.ρ) σ.H σ.n).v.mn k:=by
    exact cndOf_mn hk
   rcases aop_mn _ _ _ _ _ this with e|⟨x,hx⟩
   ·exact .inr e
   ·exact .inl (opd_men hsr x k (gro_mn hx))
  have fin:∀v,RelT w own rt σ.H (cndOf gc (aop P o.op (gro o.op σ.ρ) σ.H σ.n).v) v→SR N w0 E F (σ.put o.dst (cndOf gc (aop P o.op (gro o.op σ.ρ) σ.H σ.n).v) [] (σ.n+1)) (a.put o.dst v) w:=fun v hv=>
   ⟨_,own,rt,by rw[put_T,put_H];exact h2.put (dOk_lt hd) hv hm,hAn⟩
  simp only[wpList]
  rw[hw]
  cases gc with
  |true=>
   rw[if_pos rfl]
   left
   obtain⟨hc,hok⟩:=hok rfl
   obtain⟨v,h3,h4,_⟩:=guard_pure hsr hs hc hok
   unfold Oper.wp
   rw[h3,Oper.upon_value]
   exact next _ _ (fin v (cndOf_true h4))
  |false=>
   rw[if_neg (by simp)]
   exact next _ _ (fin undef cndOf_false)
theorem isCall_spec {f:Operand} {xs:List Operand} (h:isCall o.op=some (f,xs)):∃c,o.op=.call c∧c.callee=.value f∧c.args.toList=xs:=by
 unfold isCall at h
 split at h
 ·rename_i c e
  split at h
  ·rename_i f' e2
   simp only[Option.some.injEq,Prod.mk.injEq] at h
   exact⟨c,e,by rw[e2,h.1],h.2⟩
  ·cases h
 ·cases h
theorem call_made {A:Nat→Prop} {T:Nat→TV} {H:Nat→OB} {own:Own} {rt:Rt} (h:SRf N w0 E F A T H a w own rt) {f:Operand} {xs:List Operand} (hcl:isCall o.op=some (f,xs)) {fid:FuncId} {cap:List TV} (hf:fnOf (opd T f)=some (fid,cap))
 {L:List TV} (hL:L=xs.map (opd T)++cap) (hb:(borA H L).1) {R:RV→Prop} (hcon:ACalls P fid (borA H L).2.2 R) {next:Act→World→Prop}
 (hn:∀own0 w' v r,((borA H L).2.1=false→own0=own)→R r→Gives w own0 w' r v→next (a.put o.dst v) w'):o.wp P a w next Q:=by
 obtain⟨c,e1,e2,e3⟩:=isCall_spec hcl
 obtain⟨cs,hv,hcs,hcap⟩:=fnOf_sound hf (opd_rel h f)
 have hargs:c.args=xs.toArray:=by rw[←e3]
 have hrun:(execOp a.eval o).run P w=.ok (.enter fid ((xs.map a.eval).toArray++cs)) w:=by
  have:=hcon.enter ((xs.map a.eval).toArray++cs) w
  simp[execOp,e1,resolve,e2,hv,Deferred.ofValue,hargs,invoke,this]
 unfold Oper.wp
 rw[hrun,Oper.upon_enter]
 obtain⟨b1,b2⟩:=borA_sound h L (xs.map a.eval++cs.toList) hb (by rw[hL];simp[hcs]) (fun i t hi=>by
  subst hL
  by_cases hlt:i<xs.length
  ·rw[List.getElem?_append_left (by simpa using hlt)] at hi
   rw[List.getElem?_append_left (by simpa using hlt)]
   simp only[List.getElem?_map,List.getElem?_eq_getElem hlt,Option.map_some,Option.some.injEq] at hi ⊢
   subst hi
   exact⟨_,rfl,opd_rel h _⟩
  ·rw[List.getElem?_append_right (by simp;omega)] at hi
   rw[List.getElem?_append_right (by simp;omega)]
   simp only[List.length_map] at hi ⊢
   obtain⟨x,f1,f2⟩:=hcap _ t hi
   exact⟨x,by simpa using f1,f2⟩)
 have hcalls:=hcon.calls (if (borA H L).2.1=true then (fun _=>none) else own) w ((xs.map a.eval).toArray++cs) (fun b hb=>by
  split at hb
  ·exact absurd rfl hb
  ·cases ho:own b with
   |none=>exact absurd ho hb
   |some y=>exact(h.dom b y ho).1) (by rw[b1,hL];simp[hcs]) (fun i t hi=>by
  obtain⟨v,f1,f2,f3⟩:=b2 i t hi
  refine⟨v,by rw[←Array.getElem?_toList];simpa using f1,?_⟩
  split
  ·exact f3
  ·rename_i hne;exact f2 (by simpa using hne))
 refine Calls.mono hcalls (fun e w' he=>?_)
 obtain⟨v,r,rfl,hr,hg⟩:=he
 exact hn _ w' v r (fun e=>by rw[if_neg (by rw[e];simp)]) hr hg
theorem call_madeM {A:Nat→Prop} {T:Nat→TV} {H:Nat→OB} {own:Own} {rt:Rt} (h:SRf N w0 E F A T H a w own rt) {f:Operand} {xs:List Operand} (hcl:isCall o.op=some (f,xs)) {fid:FuncId} {cap:List TV} (hf:fnOf (opd T f)=some (fid,cap)) (hd:∀s,o.dst=some s→s<N)
 {k:Nat} {p:Path} {vs:List Nat} {l:List TV} (hL:.one (.own k p vs)::l=xs.map (opd T)++cap) (hb:(borA H (.one (.own k p vs)::l)).1) {x:AV} {i:Int} (hcon:AMut P fid ((H k).a.at p) (borA H l).2.2 x i) (hbw:(borA H l).2.1=false) (hes:x.es=((H k).a.at p).es)
 {next:Act→World→Prop}
 (hn:∀A' own' rt' w' v,SRf N w0 E F A' (updT T o.dst (.one (.av (.int .i64 i)))) (updH H [(k,⟨(H k).a.putA p x,bump (H k).vs (p.length+1)⟩)]) (a.put o.dst v) w' own' rt'→(∀k,A' k→A k)→next (a.put o.dst v) w'):o.wp P a w next Q:=by
 obtain⟨c,e1,e2,e3⟩:=isCall_spec hcl
 obtain⟨cs,hv,hcs,hcap⟩:=fnOf_sound hf (opd_rel h f)
 have hargs:c.args=xs.toArray:=by rw[←e3]
 have hrun:(execOp a.eval o).run P w=.ok (.enter fid ((xs.map a.eval).toArray++cs)) w:=by
  have:=hcon.enter ((xs.map a.eval).toArray++cs) w
  simp[execOp,e1,resolve,e2,hv,Deferred.ofValue,hargs,invoke,this]
 unfold Oper.wp
 rw[hrun,Oper.upon_enter]
 have hrel:∀(i:Nat) (t:TV),(TV.one (.own k p vs)::l)[i]?=some t→∃x,(xs.map a.eval++cs.toList)[i]?=some x∧RelT w own rt H t x:=fun i t hi=>by
  rw[hL] at hi
  by_cases hlt:i<xs.length
  ·rw[List.getElem?_append_left (by simpa using hlt)] at hi
   rw[List.getElem?_append_left (by simpa using hlt)]
   simp only[List.getElem?_map,List.getElem?_eq_getElem hlt,Option.map_some,Option.some.injEq] at hi ⊢
   subst hi
   exact⟨_,rfl,opd_rel h _⟩
  ·rw[List.getElem?_append_right (by simp;omega)] at hi
   rw[List.getElem?_append_right (by simp;omega)]
   simp only[List.length_map] at hi ⊢
   obtain⟨x,f1,f2⟩:=hcap _ t hi
   exact⟨x,by simpa using f1,f2⟩
 have hlen:(TV.one (.own k p vs)::l).length=(xs.map a.eval++cs.toList).length:=by rw[hL];simp[hcs]
 obtain⟨v0,hv0,hr0⟩:=hrel 0 _ rfl
 obtain⟨vl,hvl⟩:∃vl,xs.map a.eval++cs.toList=v0::vl:=by
  cases hx:xs.map a.eval++cs.toList with
  |nil=>rw[hx] at hv0;simp at hv0
  |cons y vl=>rw[hx] at hv0;simp at hv0;exact⟨vl,by rw[hv0]⟩
 have hlive:(H k).live p vs:=hb.1
 have hh:=hr0.2 hlive
 obtain⟨v1,g1,g2⟩:=live_row h hlive
 rw[hh] at g1
 cases g1
 obtain⟨b1,b2⟩:=borA_sound h l vl hb.2 (by rw[hvl] at hlen;simpa using hlen.symm) (fun i t hi=>by
  obtain⟨x,f1,f2⟩:=hrel (i+1) t (by simpa using hi)
  rw[hvl] at f1
  exact⟨x,by simpa using f1,f2⟩)
 have hsub:∀b,subOwn own k p b=none→own b=none:=fun b e=>by
  cases ho:own b with
  |none=>rfl
  |some y=>
   obtain⟨k',q⟩:=y
   simp only[subOwn,ho] at e
   split at e<;>cases e
 have hcalls:=hcon.calls (subOwn own k p) w ((xs.map a.eval).toArray++cs) v0 (fun b hb=>by
  cases ho:own b with
  |none=>exact absurd (subOwn_none ho) hb
  |some y=>exact(h.dom b y ho).1)
  (fun b k' q e=>by
   simp only[subOwn] at e
   split at e
   ·cases e
   ·split at e
    ·cases e;exact .inr rfl
    ·cases e;exact .inl ⟨rfl,rfl⟩)
  (by
   have:((xs.map a.eval).toArray++cs).toList=v0::vl:=by simpa using hvl
   have h2:=congrArg List.length this
   simp only[Array.length_toList,List.length_cons] at h2
   rw[h2,b1]
   rw[hvl] at hlen
   simpa using hlen.symm)
  (by
   have:((xs.map a.eval).toArray++cs).toList=v0::vl:=by simpa using hvl
   rw[←Array.getElem?_toList,this];rfl)
  (Ow.mono (fun b o e1 e2=>⟨subOwn_none e1,e2⟩) _ _ _ _ (fun b o q e1 e2=>⟨subOwn_in e1,e2⟩) g2)
  (fun j t hj=>by
   obtain⟨v,f1,f2,f3⟩:=b2 j t hj
   refine⟨v,?_,?_⟩
   ·have:((xs.map a.eval).toArray++cs).toList=v0::vl:=by simpa using hvl
    rw[←Array.getElem?_toList,this];simpa using f1
   ·have:=f2 hbw
    cases t with
    |one b=>exact Rd.mono (fun b o e1 e2=>⟨subOwn_none e1,e2⟩) _ _ this
    |agg l=>
     obtain⟨cs,rfl,g1,g2⟩:=this
     exact⟨cs,rfl,g1,fun j b hj=>let ⟨x,f1,f2⟩:=g2 j b hj;⟨x,f1,Rd.mono (fun b o e1 e2=>⟨subOwn_none e1,e2⟩) _ _ f2⟩⟩)
 refine Calls.mono hcalls (fun e w' he=>?_)
 obtain⟨v,rfl,hg⟩:=he
 obtain⟨own',q1,q2,q3⟩:=mut_sound h.toWRf hlive.1 hh hg hes
 obtain⟨_,_,_,_,_,_,_,hv,hin⟩:=hg
 exact hn A own' rt w' v (h.over q1 q2 (fun k _=>q3 k) (fun k e=>e) hd (t:=.one (.av (.int .i64 i))) ⟨hv,hin⟩ (fun k hk=>hk.elim)) (fun k e=>e)
theorem putB_size (w:World) (b:Nat) (o:Obj):(putB w b o).heap.size=w.heap.size:=by simp[putB]
theorem putB_ne {w:World} {b b':Nat} {o:Obj} (h:b'≠b):(putB w b o).heap[b']?=w.heap[b']?:=by
 simp only[putB]
 rw[Array.getElem?_setIfInBounds,if_neg (Ne.symm h)]
theorem cur_cells {w:World} {own:Own} {r:Root} {x:Value} {n:Nat} {v:Value} (h:Ow w own r (curA x n) [] v):∃b cap,v=.slice (some ⟨b,0,none⟩) 1 cap∧own b=some (r,[]):=by
 rcases h with ⟨h,_⟩|⟨b,cap,c,T,e,hnl,ho,_⟩
 ·cases h
 ·exact⟨b,cap,e,ho⟩
theorem cur_mono {w w':World} {own own':Own} {r r':Root} {x:Value} {n b cap:Nat} (h0:∀b o,own b=none→w.heap[b]?=some o→own' b=none∧w'.heap[b]?=some o) (hb:own' b=some (r',[])) (hh:w'.heap[b]?=w.heap[b]?) (h:Ow w own r (curA x n) [] (.slice (some ⟨b,0,none⟩) 1 cap)):Ow w' own' r' (curA x n) [] (.slice (some ⟨b,0,none⟩) 1 cap):=by
 rcases h with ⟨h,_⟩|⟨b',cap',c,T,e,hnl,ho,hb',h1,h2,h3,h4⟩
 ·cases h
 ·cases e
  refine .inr ⟨b,cap,c,T,rfl,by simp,hb,by rw[hh];exact hb',h1,h2,h3,fun i hi j hj=>?_⟩
  obtain⟨y,hy,hr⟩:=h4 i hi j hj
  refine⟨y,hy,?_⟩
  match j,hj with
  |0,_=>exact⟨hr.1,Rd.mono h0 _ _ hr.2⟩
  |1,_=>exact hr
  |2,_=>exact hr
theorem cur_after {w:World} {own own0:Own} {k:Root} {x:Value} {n b cap:Nat} {o:Obj} (hb:own b=some (k,[])) (h:Ow w own k (curA x n) [] (.slice (some ⟨b,0,none⟩) 1 cap)) (h':Ow (putB w b o) own0 1 (curA x n) [] (.slice (some ⟨b,0,none⟩) 1 cap)):Ow (putB w b o) own k (curA x n) [] (.slice (some ⟨b,0,none⟩) 1 cap):=by
 rcases h with ⟨h,_⟩|⟨_,_,c,T,e,hnl,ho,hb1,h1,h2,h3,h4⟩
 ·cases h
 rcases h' with ⟨h',_⟩|⟨_,_,c',T',e',hnl',ho',hb1',h1',h2',h3',h4'⟩
 ·cases h'
 cases e;cases e'
 refine .inr ⟨b,cap,c',T',rfl,by simp,hb,hb1',h1',h2',h3',fun i hi j hj=>?_⟩
 obtain⟨y',hy',hr'⟩:=h4' i hi j hj
 refine⟨y',hy',?_⟩
 match j,hj with
 |0,_=>
  obtain⟨y,hy,hr⟩:=h4 i hi 0 (by omega)
  refine⟨hr'.1,?_⟩
  rw[hr'.1,←hr.1]
  refine Rd.mono (fun b' o' e1 e2=>⟨e1,?_⟩) _ _ hr.2
  rw[putB_ne (fun e=>by rw[e,hb] at e1;cases e1)]
  exact e2
 |1,_=>exact hr'
 |2,_=>exact hr'
theorem okp_cur {x:Value} {n:Nat} {q:Path} (h:(curA x n).okp q):q=[]:=by
 cases q with
 |nil=>rfl
 |cons ij q=>
  obtain⟨i,j⟩:=ij
  obtain⟨_,hj,h⟩:=h
  exfalso
  match j,hj with
  |0,_=>cases q<;>exact h.elim
  |1,_=>cases q<;>exact h.elim
  |2,_=>cases q<;>exact h.elim
theorem SRf.putB {A:Nat→Prop} {T:Nat→TV} {H:Nat→OB} {own:Own} {rt:Rt} (h:SRf N w0 E F A T H a w own rt) {k b n cap:Nat} {x:Value} {o:Obj} (hH:(H k).a=curA x n) (hr:rt k=.slice (some ⟨b,0,none⟩) 1 cap) (hb:own b=some (k,[]))
 (ho:Ow (putB w b o) own k (curA x n) [] (.slice (some ⟨b,0,none⟩) 1 cap)):SRf N w0 E F A T H a (putB w b o) own rt:=by
 have hne:∀b' (k':Nat) q,k'≠k→own b'=some (k',q)→b'≠b:=fun b' k' q hk e e2=>by rw[e2,hb] at e;cases e;exact hk rfl
 have h0:∀b' o',own b'=none→w.heap[b']?=some o'→own b'=none∧(AM.putB w b o).heap[b']?=some o':=fun b' o' e1 e2=>⟨e1,by
  rw[putB_ne (fun e=>by rw[e,hb] at e1;cases e1)];exact e2⟩
 have hk0:k≠0:=fun e=>by
  have:=h.frn0.1
  rw[←e] at this
  rw[this] at hH
  exact absurd hH (by simp[OB.dead])
 have hov:∀k',Over w own rt H (AM.putB w b o) own rt H k':=fun k'=>by
  by_cases e:k'=k
  ·subst e
   refine⟨vle.refl _,fun q vs _ hl=>⟨hl,rfl,fun v hv=>?_⟩⟩
   have hq:=hl.1
   rw[hH] at hq
   rw[okp_cur hq] at hv ⊢
   rw[hdr_nil] at hv ⊢
   exact hv
  ·exact Over.same (h.obj k') rfl rfl (fun b' o' q e1 e2=>by rw[putB_ne (hne b' k' q e e1)];exact e2)
 refine⟨⟨⟨h.keep.os,h.keep.tape,h.keep.output,by rw[putB_size];exact h.keep.size,fun b' h1 h2=>?_⟩,fun b' y e=>?_,fun k'=>?_,h.dead,h.owned,h.frn,h.frn0⟩,h.defers,h.size,fun s=>RelT.over h0 (fun k' _=>hov k') (h.tmp s),h.men,fun k' v e=>⟨(h.frz k' v e).1,RelT.over h0 (fun k' _=>hov k') (h.frz k' v e).2⟩⟩
 ·rw[putB_ne (fun e=>?_)]
  ·exact h.keep.block b' h1 h2
  ·subst e
   rcases (h.dom _ _ hb).2 with e|e|e
   ·omega
   ·exact h2 e
   ·have:=h.frn _ e
    rw[hb] at this
    cases this
    exact hk0 rfl
 ·rw[putB_size];exact h.dom b' y e
 ·by_cases e:k'=k
  ·subst e;rw[hH,hr];exact ho
  ·exact Ow.mono h0 _ _ _ _ (fun b' o' q e1 e2=>⟨e1,by rw[putB_ne (hne b' k' _ e e1)];exact e2⟩) (h.obj k')
theorem memN_in:∀{l:List Nat} {k:Nat},k∈l→memN k l=true
 |x::r,k,h=>by
  rcases List.mem_cons.1 h with rfl|h
  ·simp[memN]
  ·simp[memN,memN_in h]
theorem call_madeC {A:Nat→Prop} {T:Nat→TV} {H:Nat→OB} {own:Own} {rt:Rt} (h:SRf N w0 E F A T H a w own rt) {f:Operand} {xs:List Operand} (hcl:isCall o.op=some (f,xs)) {fid:FuncId} {cap:List TV} (hf:fnOf (opd T f)=some (fid,cap))
 {k:Nat} {vs:List Nat} {l:List TV} (hL:.one (.ref k [] vs 0 0)::l=xs.map (opd T)++cap) (hb:(borA H (.one (.ref k [] vs 0 0)::l)).1) {x:Value} {n:Nat} {R:RV→Prop} (hcon:ACur P fid n (borA H l).2.2 R) (hH:(H k).a=curA x n) (hm:memN k (mlA l)=false)
 {next:Act→World→Prop}
 (hn:∀own0 w1 w' v r,(∀T',SRf N w0 E F A T' H a w own rt→SRf N w0 E F A T' H a w1 own rt)→((borA H l).2.1=false→own0=own)→R r→Gives w1 own0 w' r v→next (a.put o.dst v) w'):o.wp P a w next Q:=by
 obtain⟨c,e1,e2,e3⟩:=isCall_spec hcl
 obtain⟨cs,hv,hcs,hcap⟩:=fnOf_sound hf (opd_rel h f)
 have hargs:c.args=xs.toArray:=by rw[←e3]
 have hrun:(execOp a.eval o).run P w=.ok (.enter fid ((xs.map a.eval).toArray++cs)) w:=by
  have:=hcon.enter ((xs.map a.eval).toArray++cs) w
  simp[execOp,e1,resolve,e2,hv,Deferred.ofValue,hargs,invoke,this]
 unfold Oper.wp
 rw[hrun,Oper.upon_enter]
 have hrel:∀(i:Nat) (t:TV),(TV.one (.ref k [] vs 0 0)::l)[i]?=some t→∃x,(xs.map a.eval++cs.toList)[i]?=some x∧RelT w own rt H t x:=fun i t hi=>by
  rw[hL] at hi
  by_cases hlt:i<xs.length
  ·rw[List.getElem?_append_left (by simpa using hlt)] at hi
   rw[List.getElem?_append_left (by simpa using hlt)]
   simp only[List.getElem?_map,List.getElem?_eq_getElem hlt,Option.map_some,Option.some.injEq] at hi ⊢
   subst hi
   exact⟨_,rfl,opd_rel h _⟩
  ·rw[List.getElem?_append_right (by simp;omega)] at hi
   rw[List.getElem?_append_right (by simp;omega)]
   simp only[List.length_map] at hi ⊢
   obtain⟨x,f1,f2⟩:=hcap _ t hi
   exact⟨x,by simpa using f1,f2⟩
 have hlen:(TV.one (.ref k [] vs 0 0)::l).length=(xs.map a.eval++cs.toList).length:=by rw[hL];simp[hcs]
 obtain⟨v0,hv0,hr0⟩:=hrel 0 _ rfl
 obtain⟨vl,hvl⟩:∃vl,xs.map a.eval++cs.toList=v0::vl:=by
  cases hx:xs.map a.eval++cs.toList with
  |nil=>rw[hx] at hv0;simp at hv0
  |cons y vl=>rw[hx] at hv0;simp at hv0;exact⟨vl,by rw[hv0]⟩
 have hlive:(H k).live [] vs:=by
  have h1:=hb.1
  simp only[borT,borS,borS0] at h1
  have e:(H k).a.at []=curA x n:=by rw[hH];rfl
  rw[e] at h1
  exact h1.1
 obtain⟨b,m,cap',hh,hp⟩:=hr0.2 hlive
 rw[hdr_nil] at hh
 have hob:=h.obj k
 rw[hH,Option.some.inj hh] at hob
 obtain⟨b',cap'',ev,hown⟩:=cur_cells hob
 cases ev
 have hv0':v0=.pointer (some ⟨b,0,none⟩):=by rw[hp];simp
 have hrt:rt k=.slice (some ⟨b,0,none⟩) 1 cap':=Option.some.inj hh
 have hnotin:k∉mlA l:=fun e=>by rw[memN_in e] at hm;cases hm
 let own0:Own:=fun b'=>if b'=b then some (1,[]) else if (borA H l).2.1=true then none else (match own b' with|none=>none|some _=>some (0,[]))
 have o1:own0 b=some (1,[]):=if_pos rfl
 have o2:∀b',own b'=none→own0 b'=none:=fun b' e=>by
  have hne:b'≠b:=fun e2=>by rw[e2,hown] at e;cases e
  show (if b'=b then _ else _)=none
  rw[if_neg hne,e]
  split<;>rfl
 have o3:(borA H l).2.1=true→∀b',b'≠b→own0 b'=none:=fun e b' hne=>by
  show (if b'=b then _ else _)=none
  rw[if_neg hne,if_pos e]
 have o4:(borA H l).2.1=false→∀b',own0 b'=none→own b'=none:=fun e b' e2=>by
  have e2:(if b'=b then some ((1:Root),([]:Path)) else if (borA H l).2.1=true then none else (match own b' with|none=>none|some _=>some (0,[])))=none:=e2
  split at e2
  ·cases e2
  ·rw[e] at e2
   simp only[Bool.false_eq_true,if_false] at e2
   cases ho:own b' with
   |none=>rfl
   |some y=>rw[ho] at e2;cases e2
 have hvt:((xs.map a.eval).toArray++cs).toList=v0::vl:=by simpa using hvl
 have hlen2:vl.length=l.length:=by rw[hvl] at hlen;simpa using hlen.symm
 have hrel2:∀(i:Nat) (t:TV),l[i]?=some t→∃v,vl[i]?=some v∧RelT w own rt H t v:=fun i t hi=>by
  obtain⟨x,f1,f2⟩:=hrel (i+1) t (by simpa using hi)
  rw[hvl] at f1
  exact⟨x,by simpa using f1,f2⟩
 have hA2:(borA H l).2.2.length=l.length∧∀(i:Nat) (t:AT),(borA H l).2.2[i]?=some t→∃v,vl[i]?=some v∧RelA w own0 t v:=by
  cases hbw:(borA H l).2.1 with
  |true=>
   exact borA_sound2 (own2:=own0) (k0:=k) o2 (fun b' k' q hk e=>o3 hbw b' (fun e2=>by rw[e2,hown] at e;cases e;exact hk rfl)) h l vl hb.2 hnotin hlen2 hrel2
  |false=>
   obtain⟨b1,b2⟩:=borA_sound h l vl hb.2 hlen2 hrel2
   refine⟨b1,fun i t hi=>?_⟩
   obtain⟨v,f1,f2,_⟩:=b2 i t hi
   refine⟨v,f1,?_⟩
   have:=f2 hbw
   have hm0:∀b' (o':Obj),own b'=none→w.heap[b']?=some o'→own0 b'=none∧w.heap[b']?=some o':=fun b' o' e1 e2=>⟨o2 b' e1,e2⟩
   cases t with
   |one b=>exact Rd.mono hm0 _ _ this
   |agg l=>
    obtain⟨cs,rfl,g1,g2⟩:=this
    exact⟨cs,rfl,g1,fun j b hj=>let ⟨x,f1,f2⟩:=g2 j b hj;⟨x,f1,Rd.mono hm0 _ _ f2⟩⟩
 have hcalls:=hcon.calls own0 w ((xs.map a.eval).toArray++cs) b cap' x (fun b' hb'=>by
  by_cases e:b'=b
  ·rw[e];exact(h.dom b _ hown).1
  ·cases ho:own b' with
   |none=>exact absurd (o2 b' ho) hb'
   |some y=>exact(h.dom b' y ho).1)
  (fun b' k' q e=>by
   by_cases e2:b'=b
   ·exact .inr e2
   ·left
    have e:(if b'=b then some ((1:Root),([]:Path)) else if (borA H l).2.1=true then none else (match own b' with|none=>none|some _=>some (0,[])))=some (k',q):=e
    rw[if_neg e2] at e
    split at e
    ·cases e
    ·split at e
     ·cases e
     ·cases e;exact⟨rfl,rfl⟩) o1
  (by
   have h2:=congrArg List.length hvt
   simp only[Array.length_toList,List.length_cons] at h2
   rw[h2,hA2.1,hlen2])
  (by rw[←Array.getElem?_toList,hvt,hv0'];rfl)
  (cur_mono (fun b' o' e1 e2=>⟨o2 b' e1,e2⟩) o1 rfl hob)
  (fun i t hi=>by
   obtain⟨v,f1,f2⟩:=hA2.2 i t hi
   exact⟨v,by rw[←Array.getElem?_toList,hvt];simpa using f1,f2⟩)
 refine Calls.mono hcalls (fun e w' he=>?_)
 obtain⟨v,r,o',rfl,hr,hc',hg⟩:=he
 have hs1:∀T',SRf N w0 E F A T' H a w own rt→SRf N w0 E F A T' H a (AM.putB w b o') own rt:=fun T' h'=>h'.putB (o:=o') hH hrt hown (cur_after hown hob hc')
 cases hbw:(borA H l).2.1 with
 |true=>exact hn _ _ w' v r hs1 (fun e=>by rw[hbw] at e;cases e) hr hg
 |false=>
  obtain⟨k1,own',k2,k3,k4,k5⟩:=hg
  refine hn own _ w' v r hs1 (fun _=>rfl) hr ⟨k1,own',k2,fun b' hb'=>?_,k4,k5⟩
  exact⟨fun e=>(k3 b' hb').1 (o2 b' e),fun e=>o4 hbw b' ((k3 b' hb').2 e)⟩
theorem put_put (a:Act) (s:Nat) (v v':Value):(a.put (some s) v).put (some s) v'=a.put (some s) v':=by
 simp only[Act.put]
 congr 1
 apply Array.ext'
 simp
theorem call_madeN {A:Nat→Prop} {T:Nat→TV} {H:Nat→OB} {own:Own} {rt:Rt} {m:Nat} (h:SRf N w0 E F A T H a w own rt) {f:Operand} {xs:List Operand} (hcl:isCall o.op=some (f,xs)) {fid:FuncId} {cap:List TV} (hf:fnOf (opd T f)=some (fid,cap))
 {L:List TV} (hL:L=xs.map (opd T)++cap) (hb:(borA H L).1) {n:Nat} (hcon:ANew P fid (borA H L).2.2 n) (hbw:(borA H L).2.1=false) {s:Nat} (hd:o.dst=some s) (hs:s<N) (hA:∀k,m≤k→¬A k) {next:Act→World→Prop}
 (hn:∀x A' own' rt' w' v,SRf N w0 E F A' (updT T o.dst (.one (.ref (m+1) [] [0] 0 0))) (updH H [(m+1,⟨curA x n,[]⟩)]) (a.put o.dst v) w' own' rt'→(∀k,A' k→A k∨k=m+1)→next (a.put o.dst v) w'):o.wp P a w next Q:=by
 obtain⟨c,e1,e2,e3⟩:=isCall_spec hcl
 obtain⟨cs,hv,hcs,hcap⟩:=fnOf_sound hf (opd_rel h f)
 have hargs:c.args=xs.toArray:=by rw[←e3]
 have hrun:(execOp a.eval o).run P w=.ok (.enter fid ((xs.map a.eval).toArray++cs)) w:=by
  have:=hcon.enter ((xs.map a.eval).toArray++cs) w
  simp[execOp,e1,resolve,e2,hv,Deferred.ofValue,hargs,invoke,this]
 unfold Oper.wp
 rw[hrun,Oper.upon_enter]
 obtain⟨b1,b2⟩:=borA_sound h L (xs.map a.eval++cs.toList) hb (by rw[hL];simp[hcs]) (fun i t hi=>by
  subst hL
  by_cases hlt:i<xs.length
  ·rw[List.getElem?_append_left (by simpa using hlt)] at hi
   rw[List.getElem?_append_left (by simpa using hlt)]
   simp only[List.getElem?_map,List.getElem?_eq_getElem hlt,Option.map_some,Option.some.injEq] at hi ⊢
   subst hi
   exact⟨_,rfl,opd_rel h _⟩
  ·rw[List.getElem?_append_right (by simp;omega)] at hi
   rw[List.getElem?_append_right (by simp;omega)]
   simp only[List.length_map] at hi ⊢
   obtain⟨x,f1,f2⟩:=hcap _ t hi
   exact⟨x,by simpa using f1,f2⟩)
 have hcalls:=hcon.calls own w ((xs.map a.eval).toArray++cs) (fun b hb=>by
  cases ho:own b with
  |none=>exact absurd ho hb
  |some y=>exact(h.dom b y ho).1) (by rw[b1,hL];simp[hcs]) (fun i t hi=>by
  obtain⟨v,f1,f2,f3⟩:=b2 i t hi
  exact⟨v,by rw[←Array.getElem?_toList];simpa using f1,f2 hbw⟩)
 refine Calls.mono hcalls (fun e w' he=>?_)
 obtain⟨b,cap',x,rfl,hg⟩:=he
 obtain⟨A',own'',rt'',q1,q2⟩:=ret_sound (bw:=false) (n:=m) h (fun k h1 _=>hA k h1) (fun _=>rfl) hg (fun e=>by cases e) (d:=some s) (fun s' e=>by cases e;exact hs)
 have hu:updH H (objs (m+1) (RV.val (.one (curA x n))).cells)=updH H [(m+1,⟨curA x n,[]⟩)]:=rfl
 rw[hu] at q1
 have ht:=q1.tmp s
 simp only[updT,if_true] at ht
 rw[put_getD (by rw[h.size];exact hs),if_pos rfl] at ht
 have hHk:updH H [(m+1,⟨curA x n,[]⟩)] (m+1)=⟨curA x n,[]⟩:=by simp[updH,lk]
 have hlive:(updH H [(m+1,⟨curA x n,[]⟩)] (m+1)).live [] [0]:=by rw[hHk];exact⟨trivial,rfl⟩
 have hrt:rt'' (m+1)=.slice (some ⟨b,0,none⟩) 1 cap':=by
  have h2:=ht.2 hlive
  rw[hdr_nil] at h2
  exact Option.some.inj h2
 have hAm:A' (m+1):=by
  refine q1.men s (m+1) ?_
  simp only[updT,if_true]
  exact rfl
 have q3:=q1.put (d:=some s) (t:=.one (.ref (m+1) [] [0] 0 0)) (v:=.pointer (some ⟨b,0,none⟩)) (fun s' e=>by cases e;exact hs) (by
  refine⟨⟨?_,b,0,rfl⟩,fun _=>⟨b,1,cap',?_,?_⟩⟩
  ·rw[hHk];exact fun d=>by cases d<;>simp[gl]
  ·rw[hdr_nil,hrt]
  ·simp) (fun k hk=>by obtain rfl:m+1=k:=hk;exact hAm)
 have e5:updT (updT T (some s) (instR false (m+1) (RV.val (.one (curA x n))))) (some s) (.one (.ref (m+1) [] [0] 0 0))=updT T (some s) (.one (.ref (m+1) [] [0] 0 0)):=by
  funext s'
  simp only[updT]
  split<;>rfl
 rw[e5,put_put] at q3
 rw[hd] at hn ⊢
 exact hn x A' own'' rt'' w' _ q3 (fun k hk=>by
  rcases q2 k hk with e|e
  ·exact .inl e
  ·right
   have:(RV.val (.one (curA x n))).cells.length=1:=rfl
   omega)
theorem SRf.growK {A:Nat→Prop} {T:Nat→TV} {H:Nat→OB} {own:Own} {rt:Rt} (h:SRf N w0 E F A T H a w own rt) {w1:World} (hk:Keep w (fun _=>False) w1):SRf N w0 E F A T H a w1 own rt:=by
 have hlt:∀(b:Nat) (o:Obj),w.heap[b]?=some o→w1.heap[b]?=some o:=fun b o e=>by
  rw[hk.block b (Array.getElem?_eq_some_iff.1 e).1 (fun h=>h)];exact e
 have hw:WRf w0 E F A H w1 own rt:=⟨⟨hk.os.trans h.keep.os,hk.tape.trans h.keep.tape,hk.output.trans h.keep.output,Nat.le_trans h.keep.size hk.size,fun b h1 h2=>by
  rw[hk.block b (Nat.lt_of_lt_of_le h1 h.keep.size) (fun h=>h)];exact h.keep.block b h1 h2⟩,fun b x e=>⟨Nat.lt_of_lt_of_le (h.dom b x e).1 hk.size,(h.dom b x e).2⟩,
  fun k=>Ow.mono (fun b o e1 e2=>⟨e1,hlt b o e2⟩) _ _ _ _ (fun b o q e1 e2=>⟨e1,hlt b o e2⟩) (h.obj k),h.dead,h.owned,h.frn,h.frn0⟩
 have:=h.over (d:=none) hw (fun b o e1 e2=>⟨e1,hlt b o e2⟩) (fun k _=>Over.same (h.obj k) rfl rfl (fun b o q _ e2=>hlt b o e2)) (fun k hk=>hk) (fun s e=>nomatch e) (t:=.one .junk) (v:=undef) trivial (fun k hk=>hk.elim)
 exact this
theorem fnOf_noagg {t:TV} {fid:FuncId} {cap:List TV} (h:fnOf t=some (fid,cap)) {l:List SV} (h2:cap[0]?=some (.agg l)):False:=by
 unfold fnOf at h
 split at h
 ·rename_i f l'
  simp only[Option.some.injEq,Prod.mk.injEq] at h
  rw[←h.2] at h2
  cases l' with
  |nil=>simp[capL] at h2
  |cons s l'=>
   simp only[capL,List.getElem?_cons_zero,Option.some.injEq] at h2
   cases s<;>cases h2
 ·rename_i f m g
  simp only[Option.some.injEq,Prod.mk.injEq] at h
  rw[←h.2] at h2
  cases m with
  |zero=>simp[capF] at h2
  |succ m=>simp[capF] at h2
 ·cases h
theorem part_call {A:Nat→Prop} {T:Nat→TV} {H:Nat→OB} {own:Own} {rt:Rt} (h:SRf N w0 E F A T H a w own rt) {k:Nat} {p:Path} {vs:List Nat} (hlive:(H k).live p vs) {v0:Value} (hr0:RelT w own rt H (.one (.own k p vs)) v0)
 {g:FuncId} {x:AV} {i i':Int} (hi:inK .i64 i) (hcon:AMut P g ((H k).a.at p) [.one (.int .i64 i)] x i') (hes:x.es=((H k).a.at p).es):
 Calls P g #[v0,.int .i64 i] w fun e w'=>∃own',e=.returned (.int .i64 i')∧inK .i64 i'∧SRf N w0 E F A T (updH H [(k,⟨(H k).a.putA p x,bump (H k).vs (p.length+1)⟩)]) a w' own' rt∧w.heap.size≤w'.heap.size∧
  ∀b,own b=none→b<w.heap.size→own' b=none∧w'.heap[b]?=w.heap[b]?:=by
 have hh:=hr0.2 hlive
 obtain⟨v1,g1,g2⟩:=live_row h hlive
 rw[hh] at g1
 cases g1
 have hcalls:=hcon.calls (subOwn own k p) w #[v0,.int .i64 i] v0 (fun b hb=>by
  cases ho:own b with
  |none=>exact absurd (subOwn_none ho) hb
  |some y=>exact(h.dom b y ho).1)
  (fun b k' q e=>by
   simp only[subOwn] at e
   split at e
   ·cases e
   ·split at e
    ·cases e;exact .inr rfl
    ·cases e;exact .inl ⟨rfl,rfl⟩)
  rfl rfl
  (Ow.mono (fun b o e1 e2=>⟨subOwn_none e1,e2⟩) _ _ _ _ (fun b o q e1 e2=>⟨subOwn_in e1,e2⟩) g2)
  (fun j t hj=>by
   cases j with
   |zero=>cases hj;exact⟨_,rfl,rfl,hi⟩
   |succ j=>simp at hj)
 refine Calls.mono hcalls (fun e w' he=>?_)
 obtain⟨v,rfl,hg⟩:=he
 obtain⟨own',q1,q2,q3⟩:=mut_sound h.toWRf hlive.1 hh hg hes
 obtain⟨hk,_,_,_,_,_,_,hv,hin⟩:=hg
 subst hv
 refine⟨own',rfl,hin,?_,hk.size,fun b e hb=>?_⟩
 ·exact h.over (d:=none) q1 q2 (fun k _=>q3 k) (fun k e=>e) (fun s e=>nomatch e) (t:=.one .junk) (v:=undef) trivial (fun k hk=>hk.elim)
 ·have h2:=q2 b _ e (Array.getElem?_eq_getElem hb)
  exact⟨h2.1,by rw[h2.2,Array.getElem?_eq_getElem hb]⟩
theorem chain_sound {l:List SV} {y:Operand} {cs:Array Value} (ha:a.eval y=.agg cs) {Q:St→Int→Prop}:∀(parts:List (FuncId×Nat)) (i:Int) (σ:St) (B:Nat→Prop) (w:World) (own:Own) (rt:Rt) (A:Nat→Prop),
 SRf N w0 E F A σ.T σ.H a w own rt→(∀k,σ.n≤k→¬A k)→inK .i64 i→(∀b,B b→own b=none∧b<w.heap.size)→opd σ.T y=.agg l→partsM P l parts i σ Q→
 Chain P cs parts B (.int .i64 i) w fun v w'=>∃σ' i',Q σ' i'∧v=.int .i64 i'∧inK .i64 i'∧SR N w0 E F σ' a w'
 |[],i,σ,B,w,own,rt,A,h,hA,hi,hB,hy,hp=>fun w1 hk=>⟨σ,i,hp,rfl,hi,A,own,rt,h.growK hk,hA⟩
 |(g,c)::r,i,σ,B,w,own,rt,A,h,hA,hi,hB,hy,hp=>fun w1 hk v hv=>by
  have h1:=h.growK hk
  simp only[partsM] at hp
  split at hp
  case h_2=>exact hp.elim
  rename_i o p vs el
  obtain⟨hl,x,i',hcon,hes,hp⟩:=hp
  have hr:=opd_rel h1 y
  rw[hy,ha] at hr
  obtain⟨cs',e1,e2,e3⟩:=hr
  cases e1
  have hlc:l[c]?=some (.own o p vs):=by
   rw[gl_eq,List.getD_eq_getElem?_getD] at el
   cases hc:l[c]? with
   |none=>rw[hc] at el;cases el
   |some s=>rw[hc] at el;rw[←el];rfl
  obtain⟨v',f1,f2⟩:=e3 c _ hlc
  rw[hv] at f1
  cases f1
  refine Calls.mono (part_call h1 hl (v0:=v) f2 hi hcon hes) (fun e w' he=>?_)
  obtain⟨own',rfl,hin,hs,hsz,hkeep⟩:=he
  have hB1:∀b,(B b∨(w.heap.size≤b∧b<w1.heap.size))→own b=none∧b<w1.heap.size:=fun b hb=>by
   rcases hb with hb|hb
   ·exact⟨(hB b hb).1,Nat.lt_of_lt_of_le (hB b hb).2 hk.size⟩
   ·refine⟨?_,hb.2⟩
    cases ho:own b with
    |none=>rfl
    |some y=>have:=(h.dom b y ho).1;omega
  refine⟨_,rfl,hsz,fun b hb=>(hkeep b (hB1 b hb).1 (hB1 b hb).2).2,?_⟩
  have hs2:SRf N w0 E F A (σ.put none (.one .junk) [(o,⟨(σ.H o).a.putA p x,bump (σ.H o).vs (p.length+1)⟩)] (σ.n+1)).T (σ.put none (.one .junk) [(o,⟨(σ.H o).a.putA p x,bump (σ.H o).vs (p.length+1)⟩)] (σ.n+1)).H a w' own' rt:=by
   rw[put_T,put_H];exact hs
  exact chain_sound ha r i' (σ.put none (.one .junk) [(o,⟨(σ.H o).a.putA p x,bump (σ.H o).vs (p.length+1)⟩)] (σ.n+1)) _ w' own' rt A hs2 (fun k hk=>hA k (by
   have hk':σ.n+1≤k:=hk
   omega)) hin (fun b hb=>⟨(hkeep b (hB1 b hb).1 (hB1 b hb).2).1,Nat.lt_of_lt_of_le (hB1 b hb).2 hsz⟩) hy hp
theorem new_own' {w':World} {own':Own} {rt':Rt} {H':Nat→OB} {n:Nat} {x:AV} {v:Value} (hH:H' n=⟨x,[]⟩) (hrt:rt' n=v):RelT w' own' rt' H' (.one (.own n [] [0])) v:=
 ⟨by rw[hH];exact vle0,fun _=>by rw[hdr_nil,hrt]⟩
theorem take_sound {A:Nat→Prop} {H:Nat→OB} {own:Own} {rt:Rt} {w':World} {n:Nat} {x:AV} {v:Value} (h:WRf w0 E F A H w own rt) (hA:A n) (n0:n≠0) (hH:H n=.dead) (g:GivesT w (subOwn own n []) w' x v):
 ∃own' rt',rt' n=v∧WRf w0 E F A (updH H [(n,⟨x,[]⟩)]) w' own' rt'∧(∀b o,own b=none→w.heap[b]?=some o→own' b=none∧w'.heap[b]?=some o)∧∀k',k'≠n→Over w own rt H w' own' rt' (updH H [(n,⟨x,[]⟩)]) k':=by
 obtain⟨hkeep,own1,d1,n1,f1,s1,ow1⟩:=g
 have hlt:∀b y,own b=some y→b<w.heap.size:=fun b y e=>(h.dom b y e).1
 have hblk:∀b,b<w.heap.size→(∀q,own b≠some (n,[]++q))→w'.heap[b]?=w.heap[b]?:=fun b hb hn=>hkeep.block b hb (fun ⟨q,e⟩=>hn q (subOwn_one e))
 have hlt':∀(b:Nat) (o:Obj),w.heap[b]?=some o→b<w.heap.size:=fun b o e=>(Array.getElem?_eq_some_iff.1 e).1
 have hout:∀b,b<w.heap.size→(∀q,own b≠some (n,[]++q))→backOwn own own1 n [] w.heap.size b=own b:=fun b hb hn=>by
  simp only[backOwn];rw[if_pos ⟨hb,hn⟩]
 have hone:∀b q,own1 b=some (1,q)→backOwn own own1 n [] w.heap.size b=some (n,[]++q):=fun b q e=>by
  have hc:¬(b<w.heap.size∧∀q,own b≠some (n,[]++q)):=by
   rintro⟨hb,hn⟩
   obtain⟨q0,e0⟩:=s1 b 1 q hb e (by decide)
   exact hn q0 (subOwn_one e0)
  simp only[backOwn]
  rw[if_neg hc,e]
  rfl
 have h0:∀b o,own b=none→w.heap[b]?=some o→backOwn own own1 n [] w.heap.size b=none∧w'.heap[b]?=some o:=fun b o e1 e2=>by
  have hn:∀q,own b≠some (n,[]++q):=fun q e=>by rw[e1] at e;cases e
  exact⟨by rw[hout b (hlt' b o e2) hn];exact e1,by rw[hblk b (hlt' b o e2) hn];exact e2⟩
 have h1:∀b o,own1 b=none→w'.heap[b]?=some o→backOwn own own1 n [] w.heap.size b=none∧w'.heap[b]?=some o:=fun b o e1 e2=>by
  refine⟨?_,e2⟩
  by_cases hb:b<w.heap.size∧∀q,own b≠some (n,[]++q)
  ·rw[hout b hb.1 hb.2]
   cases ho:own b with
   |none=>rfl
   |some y=>
    have:=f1 b (subOwn_out (k':=y.1) (q:=y.2) ho hb.2)
    rw[e1] at this;cases this
  ·simp only[backOwn]
   rw[if_neg hb,e1]
 have hoff:∀b o k' q,own b=some (k',q)→k'≠n→w.heap[b]?=some o→backOwn own own1 n [] w.heap.size b=some (k',q)∧w'.heap[b]?=some o:=fun b o k' q e1 e2 e3=>by
  have hn:∀q,own b≠some (n,[]++q):=fun q e=>by
   rw[e1] at e
   cases e
   exact e2 rfl
  exact⟨by rw[hout b (hlt' b o e3) hn];exact e1,by rw[hblk b (hlt' b o e3) hn];exact e3⟩
 have hHn:updH H [(n,⟨x,[]⟩)] n=⟨x,[]⟩:=updH_self _ _ _ _
 have hHo:∀k',k'≠n→updH H [(n,⟨x,[]⟩)] k'=H k':=fun k' e=>by simp[updH,lk,Ne.symm e]
 refine⟨backOwn own own1 n [] w.heap.size,fun k'=>if k'=n then v else rt k',if_pos rfl,⟨⟨hkeep.os.trans h.keep.os,hkeep.tape.trans h.keep.tape,hkeep.output.trans h.keep.output,Nat.le_trans h.keep.size hkeep.size,fun b hb he=>?_⟩,fun b y e=>?_,fun k'=>?_,fun k' hk=>?_,fun b k' q e=>?_,fun b hb=>?_,?_⟩,h0,fun k' hk'=>?_⟩
 ·rw[hblk b (Nat.lt_of_lt_of_le hb h.keep.size) (fun q e=>?_)]
  ·exact h.keep.block b hb he
  ·rcases (h.dom b _ e).2 with e'|e'|e'
   ·omega
   ·exact he e'
   ·have:=h.frn b e';rw[e] at this;exact n0 (Prod.mk.inj (Option.some.inj this)).1
 ·by_cases hb:b<w.heap.size∧∀q,own b≠some (n,[]++q)
  ·rw[hout b hb.1 hb.2] at e
   exact⟨Nat.lt_of_lt_of_le hb.1 hkeep.size,(h.dom b y e).2⟩
  ·simp only[backOwn] at e
   rw[if_neg hb] at e
   by_cases hb2:b<w.heap.size
   ·refine⟨Nat.lt_of_lt_of_le hb2 hkeep.size,?_⟩
    have:∃q,own b=some (n,[]++q):=by
     by_cases h:∃q,own b=some (n,[]++q)
     ·exact h
     ·exact absurd ⟨hb2,fun q e=>h ⟨q,e⟩⟩ hb
    obtain⟨q,e'⟩:=this
    exact(h.dom b _ e').2
   ·split at e
    ·rename_i q e1
     exact⟨d1 b _ e1,.inl (by have:=h.keep.size;omega)⟩
    ·cases e
 ·by_cases ek:k'=n
  ·subst ek
   rw[hHn]
   try dsimp only
   rw[if_pos rfl]
   exact Ow.mono h1 _ _ _ _ (fun b o q e1 e2=>⟨hone b q (by simpa using e1),e2⟩) ow1
  ·rw[hHo k' ek]
   try dsimp only
   rw[if_neg ek]
   exact Ow.mono h0 _ _ _ _ (fun b o q e1 e2=>hoff b o k' _ e1 ek e2) (h.obj k')
 ·have ek:k'≠n:=fun e=>hk (e▸hA)
  rw[hHo k' ek]
  exact h.dead k' hk
 ·by_cases hb:b<w.heap.size∧∀q,own b≠some (n,[]++q)
  ·rw[hout b hb.1 hb.2] at e
   exact h.owned b k' q e
  ·simp only[backOwn] at e
   rw[if_neg hb] at e
   split at e
   ·cases e;exact hA
   ·cases e
 ·have e:=h.frn b hb
  rw[hout b (hlt b _ e) (fun q e2=>by rw[e] at e2;exact n0 (Prod.mk.inj (Option.some.inj e2)).1.symm)]
  exact e
 ·rw[hHo 0 (fun e=>n0 e.symm)]
  exact h.frn0
 ·exact Over.same (h.obj k') (hHo k' hk') (if_neg hk') (fun b o q e1 e2=>(hoff b o k' q e1 hk' e2).2)
theorem call_madeT {A:Nat→Prop} {T:Nat→TV} {H:Nat→OB} {own:Own} {rt:Rt} {n:Nat} (h:SRf N w0 E F A T H a w own rt) {f:Operand} {xs:List Operand} (hcl:isCall o.op=some (f,xs)) {fid:FuncId} {cap:List TV} (hf:fnOf (opd T f)=some (fid,cap)) (hd:∀s,o.dst=some s→s<N)
 {k:Nat} {p:Path} {vs:List Nat} {l:List TV} (hL:.one (.own k p vs)::l=xs.map (opd T)++cap) (hb:(borA H (.one (.own k p vs)::l)).1) {x:AV} (hcon:ATake P fid ((H k).a.at p) (borA H l).2.2 x) (hbw:(borA H l).2.1=false) (hn:¬A n)
 {next:Act→World→Prop}
 (hnx:∀A' own' rt' w' v,SRf N w0 E F A' (updT T o.dst (.one (.own n [] [0]))) (updH H [(n,⟨x,[]⟩),(k,(H k).cut p)]) (a.put o.dst v) w' own' rt'→(∀k,A' k→A k∨k=n)→next (a.put o.dst v) w'):o.wp P a w next Q:=by
 obtain⟨c,e1,e2,e3⟩:=isCall_spec hcl
 obtain⟨cs,hv,hcs,hcap⟩:=fnOf_sound hf (opd_rel h f)
 have hargs:c.args=xs.toArray:=by rw[←e3]
 have hrun:(execOp a.eval o).run P w=.ok (.enter fid ((xs.map a.eval).toArray++cs)) w:=by
  have:=hcon.enter ((xs.map a.eval).toArray++cs) w
  simp[execOp,e1,resolve,e2,hv,Deferred.ofValue,hargs,invoke,this]
 unfold Oper.wp
 rw[hrun,Oper.upon_enter]
 have hrel:∀(i:Nat) (t:TV),(TV.one (.own k p vs)::l)[i]?=some t→∃x,(xs.map a.eval++cs.toList)[i]?=some x∧RelT w own rt H t x:=fun i t hi=>by
  rw[hL] at hi
  by_cases hlt:i<xs.length
  ·rw[List.getElem?_append_left (by simpa using hlt)] at hi
   rw[List.getElem?_append_left (by simpa using hlt)]
   simp only[List.getElem?_map,List.getElem?_eq_getElem hlt,Option.map_some,Option.some.injEq] at hi ⊢
   subst hi
   exact⟨_,rfl,opd_rel h _⟩
  ·rw[List.getElem?_append_right (by simp;omega)] at hi
   rw[List.getElem?_append_right (by simp;omega)]
   simp only[List.length_map] at hi ⊢
   obtain⟨x,f1,f2⟩:=hcap _ t hi
   exact⟨x,by simpa using f1,f2⟩
 have hlen:(TV.one (.own k p vs)::l).length=(xs.map a.eval++cs.toList).length:=by rw[hL];simp[hcs]
 obtain⟨v0,hv0,hr0⟩:=hrel 0 _ rfl
 obtain⟨vl,hvl⟩:∃vl,xs.map a.eval++cs.toList=v0::vl:=by
  cases hx:xs.map a.eval++cs.toList with
  |nil=>rw[hx] at hv0;simp at hv0
  |cons y vl=>rw[hx] at hv0;simp at hv0;exact⟨vl,by rw[hv0]⟩
 have hlive:(H k).live p vs:=hb.1
 have hh:=hr0.2 hlive
 have hH:=h.dead n hn
 have n0:=not_zero h.toWRf hn
 obtain⟨q1,q2,q3,q4,q5⟩:=(h.toWRf.more n).cut hH (.inr rfl) hlive.1 []
 have g2:=q5 _ hh
 obtain⟨b1,b2⟩:=borA_sound h l vl hb.2 (by rw[hvl] at hlen;simpa using hlen.symm) (fun i t hi=>by
  obtain⟨x,f1,f2⟩:=hrel (i+1) t (by simpa using hi)
  rw[hvl] at f1
  exact⟨x,by simpa using f1,f2⟩)
 have hnn:∀b o,own b=none→w.heap[b]?=some o→subOwn (mv own k p n []) n [] b=none∧w.heap[b]?=some o:=fun b o e1 e2=>⟨subOwn_none (q2.none b e1),e2⟩
 have hlist:((xs.map a.eval).toArray++cs).toList=v0::vl:=by simpa using hvl
 have hcalls:=hcon.calls (subOwn (mv own k p n []) n []) w ((xs.map a.eval).toArray++cs) v0 (fun b hb=>by
  cases ho:mv own k p n [] b with
  |none=>exact absurd (subOwn_none ho) hb
  |some y=>exact(q1.dom b y ho).1)
  (fun b k' q e=>by
   simp only[subOwn] at e
   split at e
   ·cases e
   ·split at e
    ·cases e;exact .inr rfl
    ·cases e;exact .inl ⟨rfl,rfl⟩)
  (by
   have h2:=congrArg List.length hlist
   simp only[Array.length_toList,List.length_cons] at h2
   rw[h2,b1]
   rw[hvl] at hlen
   simpa using hlen.symm)
  (by rw[←Array.getElem?_toList,hlist];rfl)
  (Ow.mono (fun b o e1 e2=>⟨subOwn_none e1,e2⟩) _ _ _ _ (fun b o q e1 e2=>⟨subOwn_in e1,e2⟩) g2)
  (fun j t hj=>by
   obtain⟨v,f1,f2,f3⟩:=b2 j t hj
   refine⟨v,?_,?_⟩
   ·rw[←Array.getElem?_toList,hlist];simpa using f1
   ·have:=f2 hbw
    cases t with
    |one b=>exact Rd.mono hnn _ _ this
    |agg l=>
     obtain⟨cs,rfl,g1,g2⟩:=this
     exact⟨cs,rfl,g1,fun j b hj=>let ⟨x,f1,f2⟩:=g2 j b hj;⟨x,f1,Rd.mono hnn _ _ f2⟩⟩)
 refine Calls.mono hcalls (fun e w' he=>?_)
 obtain⟨v,rfl,hg⟩:=he
 obtain⟨own',rt',r1,r2,r3,r4⟩:=take_sound q1 (.inr rfl) n0 q4 hg
 have hHeq:updH H [(n,⟨x,[]⟩),(k,(H k).cut p)]=updH (updH H [(k,(H k).cut p)]) [(n,⟨x,[]⟩)]:=by
  rw[←updH_append];rfl
 refine hnx _ own' rt' w' v (by
  rw[hHeq]
  exact h.over r2 (fun b o e1 e2=>r3 b o (q2.none b e1) e2) (fun k' hk=>(q3 k').trans (r4 k' (fun e=>hn (e▸hk)))) (fun k hk=>.inl hk) hd (new_own' (updH_self _ _ _ _) r1) (fun k hk=>.inr hk.symm)) (fun k hk=>hk)
theorem sound_call {f:Operand} {xs:List Operand} {fid:FuncId} {cap:List TV} {k:List It→St→Prop} {K:List It} (h:SR N w0 E F σ a w) (hg:o.guard=none) (hcl:isCall o.op=some (f,xs)) (hf:fnOf (σ.ρ f)=some (fid,cap)) (hd:dOk N o.dst=true)
 (hb:(borA σ.H (xs.map σ.ρ++cap)).1) (hk:CallK5 P fid (borA σ.H (xs.map σ.ρ++cap)).2.2 k K σ o.dst (borA σ.H (xs.map σ.ρ++cap)).2.1 (xs.map σ.ρ++cap))
 (next:∀σ' a' w',k K σ'→SR N w0 E F σ' a' w'→wpList P all Q r a' w'):wpList P all Q (o::r) a w:=by
 obtain⟨A,own,rt,hs,hA⟩:=h
 have hw:Region.wanted o (yielded all a.tmps)=true:=by unfold Region.wanted;rw[hg]
 simp only[wpList,hw,if_true]
 left
 rcases hk with ⟨R,hcon,hrest⟩|hm|ht|hc|⟨n,s,hcon,hbw,hds,hrest⟩
 case inr.inr.inr.inr=>
  exact call_madeN hs hcl hf rfl hb hcon hbw hds (dOk_lt hd s hds) hA (fun x A' own' rt' w' v h1 h2=>next _ _ _ (hrest x) ⟨A',own',rt',by rw[put_T,put_H];exact h1,fun k hk e=>by
   have hk':σ.n+2≤k:=hk
   rcases h2 k e with e|e
   ·exact hA k (by omega) e
   ·omega⟩)
 case inr.inr.inr.inl=>
  obtain⟨r',vs,l,hL⟩:∃r vs l,xs.map σ.ρ++cap=.one (.ref r [] vs 0 0)::l:=by
   generalize hx:xs.map σ.ρ++cap=ts at hc
   unfold CallC at hc
   split at hc
   ·exact⟨_,_,_,rfl⟩
   ·exact hc.elim
  rw[hL] at hc hb
  obtain⟨x,n,R,hcon,hH,hm,hrest⟩:=hc
  refine call_madeC hs hcl hf hL.symm hb hcon hH hm (fun own0 w1 w' v rv hs1 h0 hr hgv=>?_)
  obtain⟨hcl2,hrun⟩:=hrest rv hr
  obtain⟨A',own'',rt'',q1,q2⟩:=ret_sound (hs1 _ hs) (fun k hk _=>hA k hk) h0 hgv hcl2 (dOk_lt hd)
  exact next _ _ _ hrun ⟨A',own'',rt'',by unfold St.ret;rw[put_T,put_H];exact q1,fun k hk e=>by
   have hk':σ.n+1+rv.cells.length≤k:=hk
   rcases q2 k e with e|e
   ·exact hA k (by omega) e
   ·omega⟩
 case inr.inr.inl=>
  obtain⟨r',p,vs,l,hL⟩:∃r p vs l,xs.map σ.ρ++cap=.one (.own r p vs)::l:=by
   generalize hx:xs.map σ.ρ++cap=ts at ht
   unfold CallT at ht
   split at ht
   ·exact⟨_,_,_,_,rfl⟩
   ·exact ht.elim
  rw[hL] at ht hb
  obtain⟨x,hcon,hbw,hne,hrest⟩:=ht
  refine call_madeT hs hcl hf (dOk_lt hd) hL.symm hb hcon hbw (hA _ (Nat.le_refl _)) (fun A' own' rt' w' v h1 h2=>next _ _ _ hrest ⟨A',own',rt',?_,fun k hk e=>?_⟩)
  ·rw[put_T,put_H];exact h1
  ·have hk':σ.n+1≤k:=hk
   rcases h2 k e with e|e
   ·exact hA k (by omega) e
   ·omega
 case inr.inl=>
  have hcase:(∃r p vs l,xs.map σ.ρ++cap=.one (.own r p vs)::l)∨∃l i,xs.map σ.ρ++cap=[.agg l,.one (.av (.int .i64 i))]:=by
   generalize hx:xs.map σ.ρ++cap=ts at hm
   unfold CallM at hm
   split at hm
   ·exact .inl ⟨_,_,_,_,rfl⟩
   ·exact .inr ⟨_,_,rfl⟩
   ·exact hm.elim
  rcases hcase with ⟨r',p,vs,l,hL⟩|⟨l,i,hL⟩
  case inr=>
   rw[hL] at hm
   obtain⟨parts,hwr,hpm⟩:=hm
   obtain⟨c,e1,e2,e3⟩:=isCall_spec hcl
   obtain⟨cs,hv,hcs,hcap⟩:=fnOf_sound hf (opd_rel hs f)
   have hargs:c.args=xs.toArray:=by rw[←e3]
   have hrun:(execOp a.eval o).run P w=.ok (.enter fid ((xs.map a.eval).toArray++cs)) w:=by
    have:=hwr.enter ((xs.map a.eval).toArray++cs) w
    simp[execOp,e1,resolve,e2,hv,Deferred.ofValue,hargs,invoke,this]
   unfold Oper.wp
   rw[hrun,Oper.upon_enter]
   have hrel:∀(i:Nat) (t:TV),(xs.map σ.ρ++cap)[i]?=some t→∃x,(xs.map a.eval++cs.toList)[i]?=some x∧RelT w own rt σ.H t x:=fun i t hi=>by
    by_cases hlt:i<xs.length
    ·rw[List.getElem?_append_left (by simpa using hlt)] at hi
     rw[List.getElem?_append_left (by simpa using hlt)]
     simp only[List.getElem?_map,List.getElem?_eq_getElem hlt,Option.map_some,Option.some.injEq] at hi ⊢
     subst hi
     exact⟨_,rfl,opd_rel hs _⟩
    ·rw[List.getElem?_append_right (by simp;omega)] at hi
     rw[List.getElem?_append_right (by simp;omega)]
     simp only[List.length_map] at hi ⊢
     obtain⟨x,f1,f2⟩:=hcap _ t hi
     exact⟨x,by simpa using f1,f2⟩
   have hlen:(xs.map a.eval++cs.toList).length=2:=by
    have:=congrArg List.length hL
    simpa [hcs] using this
   cases xs with
   |nil=>
    exfalso
    have hc0:cap[0]?=some (.agg l):=by
     have:([]:List Operand).map σ.ρ++cap=cap:=rfl
     rw[this] at hL;rw[hL];rfl
    exact fnOf_noagg hf hc0
   |cons y xs'=>
    have hy:σ.ρ y=.agg l:=by
     simp only[List.map_cons,List.cons_append,List.cons.injEq] at hL
     exact hL.1
    have hr:=opd_rel hs y
    have hy':opd σ.T y=.agg l:=hy
    rw[hy'] at hr
    obtain⟨cs0,ea,es0,_⟩:=hr
    obtain⟨x1,f1,f2⟩:=hrel 1 (.one (.av (.int .i64 i))) (by rw[hL];rfl)
    obtain⟨f2,f3⟩:=f2
    have hvec:((y::xs').map a.eval).toArray++cs=#[.agg cs0,.int .i64 i]:=by
     have h2:((y::xs').map a.eval++cs.toList)=[.agg cs0,.int .i64 i]:=by
      match hq:((y::xs').map a.eval++cs.toList),hlen with
      |[u1,u2],_=>
       rw[hq] at f1
       simp only[List.map_cons,List.cons_append,List.cons.injEq] at hq
       simp at f1
       rw[←hq.1,ea,f1,f2]
     apply Array.ext'
     simpa using h2
    rw[hvec]
    refine Calls.mono (hwr.calls (fun _=>False) cs0 (.int .i64 i) w _ es0 (chain_sound (E:=E) (F:=F) (N:=N) ea parts i σ (fun _=>False) w own rt A hs hA f3 (fun b hb=>hb.elim) hy' hpm) (fun b hb=>hb.elim)) (fun e w' he=>?_)
    obtain⟨v,rfl,_,_,σ',i',hk',rfl,hi',A',own',rt',hs',hA'⟩:=he
    refine next _ _ _ hk' ⟨A',own',rt',?_,fun k hk e=>hA' k (by
     have hk2:σ'.n+1≤k:=hk
     omega) e⟩
    rw[put_T,put_H]
    exact hs'.put (dOk_lt hd) ⟨rfl,hi'⟩ (fun k hk=>hk.elim)
  rw[hL] at hm hb
  obtain⟨x,i,hcon,hbw,hes,hrest⟩:=hm
  refine call_madeM hs hcl hf (dOk_lt hd) hL.symm hb hcon hbw hes (fun A' own' rt' w' v h1 h2=>next _ _ _ hrest ⟨A',own',rt',?_,fun k hk e=>?_⟩)
  ·rw[put_T,put_H];exact h1
  ·have hk':σ.n+1≤k:=hk
   exact hA k (by omega) (h2 k e)
 refine call_made hs hcl hf rfl hb hcon (fun own0 w' v rv h0 hr hgv=>?_)
 obtain⟨hcl2,hrun⟩:=hrest rv hr
 obtain⟨A',own'',rt'',q1,q2⟩:=ret_sound hs (fun k hk _=>hA k hk) h0 hgv hcl2 (dOk_lt hd)
 exact next _ _ _ hrun ⟨A',own'',rt'',by unfold St.ret;rw[put_T,put_H];exact q1,fun k hk e=>by
  have hk':σ.n+1+rv.cells.length≤k:=hk
  rcases q2 k e with e|e
  ·exact hA k (by omega) e
  ·omega⟩
theorem SRf.cndR {A:Nat→Prop} {T:Nat→TV} {H:Nat→OB} {own:Own} {rt:Rt} {d:Option Tmp} {bw:Bool} {m:Nat} {rv:RV} {v:Value} (h:SRf N w0 E F A (updT T d (instR bw m rv)) H (a.put d v) w own rt) (hd:∀s,d=some s→s<N):SRf N w0 E F A (updT T d (AM.cndR bw m rv)) H (a.put d v) w own rt:=by
 cases d with
 |none=>exact h
 |some s=>
  refine⟨h.toWRf,h.defers,h.size,fun s'=>?_,fun s' k hk=>?_,h.frz⟩
  ·have:=h.tmp s'
   by_cases e:s'=s
   ·subst e
    simp only[updT,if_true] at this ⊢
    exact cndOf_true this
   ·simp only[updT,if_neg (fun h=>e (Eq.symm h))] at this ⊢
    exact this
  ·by_cases e:s'=s
   ·subst e
    simp only[updT,if_true] at hk
    have:=h.men s' k
    simp only[updT,if_true] at this
    exact this (cndOf_mn hk)
   ·have:=h.men s' k
    simp only[updT,if_neg (fun h=>e (Eq.symm h))] at hk this
    exact this hk
theorem sound_callG {f:Operand} {xs:List Operand} {fid:FuncId} {cap:List TV} {k:List It→St→Prop} {K:List It} {g:Nat} {want gc:Bool} {t:TV} (h:SR N w0 E F σ a w) (hg:o.guard=some (g,want)) (ht:(gdst all g).map σ.T=some t) (hgc:gcond want t=some gc)
 (hcl:isCall o.op=some (f,xs)) (hf:fnOf (σ.ρ f)=some (fid,cap)) (hd:dOk N o.dst=true)
 (hb:gc=true→cok σ.ρ xs∧(borA σ.H (xs.map (fun x=>unc (σ.ρ x))++cap)).1) (hk:CallG P gc fid (borA σ.H (xs.map (fun x=>unc (σ.ρ x))++cap)).2.2 k K σ o.dst (borA σ.H (xs.map (fun x=>unc (σ.ρ x))++cap)).2.1 (xs.map (fun x=>unc (σ.ρ x))++cap))
 (next:∀σ' a' w',k K σ'→SR N w0 E F σ' a' w'→wpList P all Q r a' w'):wpList P all Q (o::r) a w:=by
 obtain⟨A,own,rt,hs,hA⟩:=h
 rcases hk with ⟨b,hp,hcon,hrun⟩|hk3
 case inr=>
  rcases or_assoc.2 hk3 with hk2|⟨hgf,b,hrun⟩
  case inr=>
   subst hgf
   cases hgd:gdst all g with
   |none=>rw[hgd] at ht;cases ht
   |some d=>
    rw[hgd] at ht
    simp only[Option.map_some,Option.some.injEq] at ht
    have hw:=gcond_sound (o:=o) hgd (by rw[←ht];exact hs.tmp d) hgc hg
    simp only[wpList]
    rw[hw,if_neg (by simp)]
    have hrel:RelT w own rt σ.H (.cnd false b.cv) undef:=⟨(fun e=>by cases e),fun _=>rfl⟩
    exact next _ _ _ hrun ⟨A,own,rt,by rw[put_T,put_H];exact hs.put (dOk_lt hd) hrel (fun k hk=>(cv_mn hk).elim),fun k hk=>hA k (by
     have:σ.n+1≤k:=hk
     omega)⟩
  case inl=>
   have hgt:gc=true:=by rcases hk2 with hk2|hk2<;>exact hk2.1
   subst hgt
   cases hgd:gdst all g with
   |none=>rw[hgd] at ht;cases ht
   |some d=>
    rw[hgd] at ht
    simp only[Option.map_some,Option.some.injEq] at ht
    have hw:=gcond_sound (o:=o) hgd (by rw[←ht];exact hs.tmp d) hgc hg
    simp only[wpList]
    rw[hw,if_pos rfl]
    left
    obtain⟨hc,hb⟩:=hb rfl
    have hL:xs.map (fun x=>unc (σ.ρ x))++cap=xs.map (opd (uncT σ.T))++cap:=by
     congr 1
     exact List.map_congr_left (fun x hx=>(opd_unc (cok_mem hc x hx)).symm)
    have hf2:fnOf (opd σ.T f)=some (fid,cap):=hf
    have hf':fnOf (opd (uncT σ.T) f)=some (fid,cap):=by
     have:cok1 (opd σ.T f):=by
      cases hh:opd σ.T f with
      |cnd b s=>rw[hh] at hf2;simp[fnOf] at hf2
      |_=>trivial
     rw[opd_unc this]
     cases hh:opd σ.T f with
     |cnd b s=>rw[hh] at hf2;simp[fnOf] at hf2
     |_=>rw[hh] at hf2;exact hf2
    rcases hk2 with ⟨_,R,hcon,hrest⟩|⟨_,r',vs,l,x,n,R,hts,hcon,hH,hm,hrest⟩
    ·refine call_made hs.unc hcl hf' hL hb hcon (fun own0 w' v rv h0 hr hgv=>?_)
     obtain⟨hcl2,hrun⟩:=hrest rv hr
     obtain⟨A',own'',rt'',q1,q2⟩:=ret_sound hs (fun k hk _=>hA k hk) h0 hgv hcl2 (dOk_lt hd)
     exact next _ _ _ hrun ⟨A',own'',rt'',by rw[put_T,put_H];exact q1.cndR (dOk_lt hd),fun k hk e=>by
      have hk':σ.n+1+rv.cells.length≤k:=hk
      rcases q2 k e with e|e
      ·exact hA k (by omega) e
      ·omega⟩
    ·rw[hts] at hb hL
     refine call_madeC hs.unc hcl hf' hL hb hcon hH hm (fun own0 w1 w' v rv hs1 h0 hr hgv=>?_)
     obtain⟨hcl2,hrun⟩:=hrest rv hr
     have hs1':SRf N w0 E F A σ.T σ.H a w1 own rt:=hs1 _ hs
     obtain⟨A',own'',rt'',q1,q2⟩:=ret_sound hs1' (fun k hk _=>hA k hk) h0 hgv hcl2 (dOk_lt hd)
     exact next _ _ _ hrun ⟨A',own'',rt'',by rw[put_T,put_H];exact q1.cndR (dOk_lt hd),fun k hk e=>by
      have hk':σ.n+1+rv.cells.length≤k:=hk
      rcases q2 k e with e|e
      ·exact hA k (by omega) e
      ·omega⟩
 cases hgd:gdst all g with
 |none=>rw[hgd] at ht;cases ht
 |some d=>
  rw[hgd] at ht
  simp only[Option.map_some,Option.some.injEq] at ht
  have hw:=gcond_sound (o:=o) hgd (by rw[←ht];exact hs.tmp d) hgc hg
  simp only[wpList]
  rw[hw]
  cases gc with
  |true=>
   rw[if_pos rfl]
   left
   obtain⟨hc,hb⟩:=hb rfl
   have hL:xs.map (fun x=>unc (σ.ρ x))++cap=xs.map (opd (uncT σ.T))++cap:=by
    congr 1
    exact List.map_congr_left (fun x hx=>(opd_unc (cok_mem hc x hx)).symm)
   have hf':fnOf (opd (uncT σ.T) f)=some (fid,cap):=by
    have:cok1 (opd σ.T f):=by
     have hf2:fnOf (opd σ.T f)=some (fid,cap):=hf
     cases hh:opd σ.T f with
     |cnd b s=>rw[hh] at hf2;simp[fnOf] at hf2
     |_=>trivial
    rw[opd_unc this]
    have hf2:fnOf (opd σ.T f)=some (fid,cap):=hf
    cases hh:opd σ.T f with
    |cnd b s=>rw[hh] at hf2;simp[fnOf] at hf2
    |_=>rw[hh] at hf2;exact hf2
   refine call_made hs.unc hcl hf' hL hb (hcon rfl) (fun own0 w' v rv h0 hr hgv=>?_)
   subst hr
   obtain⟨A',own'',rt'',q1,q2⟩:=ret_cnd hs (fun k hk _=>hA k hk) h0 hgv hp (d:=o.dst) (dOk_lt hd)
   exact next _ _ _ hrun ⟨A',own'',rt'',by rw[put_T,put_H];exact q1,fun k hk e=>by
    have hk':σ.n+1+b.cells.length≤k:=hk
    rcases q2 k e with e|e
    ·exact hA k (by omega) e
    ·have e2:(RV.val b).cells.length=b.cells.length:=rfl
     omega⟩
  |false=>
   rw[if_neg (by simp)]
   have hrel:RelT w own rt σ.H (.cnd false b.cv) undef:=⟨(fun e=>by cases e),fun _=>rfl⟩
   exact next _ _ _ hrun ⟨A,own,rt,by rw[put_T,put_H];exact hs.put (dOk_lt hd) hrel (fun k hk=>(cv_mn hk).elim),fun k hk=>hA k (by
    have:σ.n+1+b.cells.length≤k:=hk
    omega)⟩
end
end Go.AM
/- The framework AM,part D1:an operation looks at its operands,and at the objects that it says,alone. -/
namespace Go.AM
open Go
section
variable {H H':Nat→OB} {P:Program}
def surf0 (x y:AV):Prop:=x=y∨∃nl es n f g,x=.sl true nl es n f∧y=.sl true nl es n g
def surfA (a b:AV):Prop:=a=b∨(∃es es',a=.mp es∧b=.mp es'∧∀c d,mget es' c d=mget es c d)∨∃nl es n f g,a=.sl true nl es n f∧b=.sl true nl es n g∧∀i j,surf0 (f i j) (g i j)
def Surf (o o':OB):Prop:=o'.vs=o.vs∧surfA o.a o'.a
theorem surf0.symm {x y:AV} (h:surf0 x y):surf0 y x:=by
 rcases h with rfl|⟨nl,es,n,f,g,rfl,rfl⟩
 ·exact .inl rfl
 ·exact .inr ⟨_,_,_,_,_,rfl,rfl⟩
theorem Surf.symm {o o':OB} (h:Surf o o'):Surf o' o:=by
 obtain⟨h1,h2⟩:=h
 refine⟨h1.symm,?_⟩
 rcases h2 with h2|⟨es,es',e1,e2,h3⟩|⟨nl,es,n,f,g,e1,e2,h3⟩
 ·exact .inl h2.symm
 ·exact .inr (.inl ⟨_,_,e2,e1,fun c d=>(h3 c d).symm⟩)
 ·exact .inr (.inr ⟨_,_,_,_,_,e2,e1,fun i j=>(h3 i j).symm⟩)
theorem Surf.refl (o:OB):Surf o o:=⟨rfl,.inl rfl⟩
theorem surf_cut {o:OB} {p:Path} (hok:o.a.okp p) (hp:2≤p.length):Surf o (o.cut p):=by
 refine⟨rfl,?_⟩
 obtain⟨a,vs⟩:=o
 cases p with
 |nil=>simp at hp
 |cons ij p=>
  obtain⟨i,j⟩:=ij
  cases a with
  |sl u nl es n f=>
   cases u with
   |false=>cases hok
   |true=>
    obtain⟨_,_,hok⟩:=hok
    refine .inr (.inr ⟨nl,es,n,f,_,rfl,rfl,fun i' j'=>?_⟩)
    by_cases e:i'=i∧j'=j
    ·obtain⟨rfl,rfl⟩:=e
     simp only[and_self,if_true]
     cases p with
     |nil=>simp at hp
     |cons x p=>
      obtain⟨i2,j2⟩:=x
      generalize f i' j'=b at hok
      cases b with
      |sl u nl es n f=>
       cases u with
       |false=>cases hok
       |true=>exact .inr ⟨nl,es,n,f,_,rfl,rfl⟩
      |_=>cases hok
    ·rw[if_neg e];exact .inl rfl
  |_=>cases hok
theorem Surf.row {o o':OB} (h:Surf o o'):∀{p:Path},shx p=true→(∃nl es n f,o.a.at p=.sl true nl es n f)→(∀vs,o'.live p vs=o.live p vs)∧((o'.a.at p=o.a.at p)∨∃nl es n f g,o.a.at p=.sl true nl es n f∧o'.a.at p=.sl true nl es n g∧(p=[]→∀i j,surf0 (f i j) (g i j))):=by
 obtain⟨a,vs⟩:=o
 obtain⟨a',vs'⟩:=o'
 obtain⟨h1,h2⟩:=h
 dsimp only at h1 h2
 subst h1
 intro p hp hsl
 rcases h2 with rfl|⟨es,es',rfl,rfl,h3⟩|⟨nl,es,n,f,g,rfl,rfl,h3⟩
 ·exact⟨fun _=>rfl,.inl rfl⟩
 ·obtain⟨_,_,_,_,e⟩:=hsl
  cases p with
  |nil=>cases e
  |cons x p=>cases e
 ·cases p with
  |nil=>exact⟨fun _=>rfl,.inr ⟨nl,es,n,f,g,rfl,rfl,fun _=>h3⟩⟩
  |cons ij p=>
   obtain⟨i,j⟩:=ij
   cases p with
   |cons _ _=>cases hp
   |nil=>
    rcases h3 i j with e|⟨nl2,es2,n2,f2,g2,e1,e2⟩
    ·refine⟨fun w=>?_,.inl ?_⟩
     ·simp only[OB.live,AV.okp,e]
     ·simp only[AV.at,e]
    ·refine⟨fun w=>?_,.inr ⟨nl2,es2,n2,f2,g2,?_,?_,fun h=>by cases h⟩⟩
     ·simp only[OB.live,AV.okp,e1,e2]
     ·simp only[AV.at,e1]
     ·simp only[AV.at,e2]
theorem slOf_frame {s:SV} {r:Prop×Nat×Nat×(Nat→Nat→AV)×List Nat} (h:slOf H s=some r) (hH:∀k∈r.2.2.2.2,H' k=H k):slOf H' s=some r:=by
 cases s with
 |own k p vs=>
  have hk:H' k=H k:=by
   simp only[slOf] at h;split at h
   ·cases h;exact hH k (by simp)
   ·cases h
  simp only[slOf,hk] at h ⊢;exact h
 |view k p vs lo hi=>
  have hk:H' k=H k:=by
   simp only[slOf] at h;split at h
   ·cases h;exact hH k (by simp)
   ·cases h
  simp only[slOf,hk] at h ⊢;exact h
 |av a=>cases a<;>exact h
 |_=>exact h
theorem nlOf_frame {s:SV} {r:Prop×Bool×List Nat} (h:nlOf H s=some r) (hH:∀k∈r.2.2,H' k=H k):nlOf H' s=some r:=by
 cases s with
 |own k p vs=>
  have hk:H' k=H k:=by
   simp only[nlOf] at h;split at h
   ·cases h;exact hH k (by simp)
   ·cases h;exact hH k (by simp)
   ·cases h
  simp only[nlOf,hk] at h ⊢;exact h
 |av a=>cases a with
  |sl u nl es n f=>cases nl<;>exact h
  |_=>exact h
 |_=>exact h
theorem apSrc_frame {es:Nat} {s:SV} {r:Prop×Nat×(Nat→Nat→AV)×List Nat} (h:apSrc H es s=some r) (hH:∀k∈r.2.2.2,H' k=H k):apSrc H' es s=some r:=by
 cases s with
 |own k p vs=>
  have hk:H' k=H k:=by
   simp only[apSrc] at h;split at h
   ·cases h;exact hH k (by simp)
   ·cases h
  simp only[apSrc,hk] at h ⊢;exact h
 |view k p vs lo hi=>
  have hk:H' k=H k:=by
   simp only[apSrc] at h;split at h
   ·cases h;exact hH k (by simp)
   ·cases h
  simp only[apSrc,hk] at h ⊢;exact h
 |av a=>cases a<;>exact h
 |_=>exact h
theorem lenOf_frame {t:TypeId} {s:SV} {r:Prop×Nat×List Nat} (h:lenOf P t H s=some r) (hH:∀k∈r.2.2,H' k=H k):lenOf P t H' s=some r:=by
 by_cases hs:∃b,s=.av (.str b)
 ·obtain⟨b,rfl⟩:=hs;exact h
 ·have e:∀H,lenOf P t H s=(match slOf H s with
   |some (ok,_,n,_,rd)=>some ((tk P t).el.isSome=true∧ok,n,rd)
   |none=>none):=by
   intro H
   cases s with
   |av a=>cases a<;>first|rfl|exact absurd ⟨_,rfl⟩ hs
   |_=>rfl
  rw[e] at h ⊢
  cases h2:slOf H s with
  |none=>rw[h2] at h;cases h
  |some q=>
   rw[h2] at h
   obtain⟨ok,es,n,f,rd⟩:=q
   cases h
   rw[slOf_frame h2 hH]
theorem sto1_frame {s:SV} (hH:∀k∈(sto1 H s).rd,H' k=H k):sto1 H' s=sto1 H s:=by
 cases s with
 |own k p vs=>
  have hk:H' k=H k:=hH k (by simp[sto1])
  simp only[sto1,hk]
 |_=>rfl
theorem stoL_frame:∀{l:List SV} {H H':Nat→OB},(∀k∈(stoL H l).rd,H' k=H k)→stoL H' l=stoL H l
 |[],_,_,_=>rfl
 |s::r,H,H',h=>by
  have h1:sto1 H' s=sto1 H s:=sto1_frame (fun k hk=>h k (by simp only[stoL,List.mem_append];exact .inl hk))
  have h2:stoL (fun k=>lk (H' k) (sto1 H s).hu k) r=stoL (fun k=>lk (H k) (sto1 H s).hu k) r:=stoL_frame (fun k hk=>by
   have:=h k (by simp only[stoL,List.mem_append];exact .inr hk)
   simp only[this])
  simp only[stoL,h1,h2]
theorem sto_frame {t:TV} (hH:∀k∈(sto H t).rd,H' k=H k):sto H' t=sto H t:=by
 cases t with
 |one s=>exact sto1_frame hH
 |agg l=>exact stoL_frame hH
 |_=>rfl
theorem stoParts_frame {ρ ρ':Operand→TV}:∀{l:List (Nat×Operand)} {H H':Nat→OB},(∀x∈l,ρ' x.2=ρ x.2)→(∀k∈(stoParts H ρ l).1.rd,H' k=H k)→stoParts H' ρ' l=stoParts H ρ l
 |[],_,_,_,_=>rfl
 |(i,x)::r,H,H',hρ,h=>by
  have hx:ρ' x=ρ x:=hρ (i,x) (by simp)
  have h1:sto H' (ρ x)=sto H (ρ x):=sto_frame (fun k hk=>h k (by simp only[stoParts,List.mem_append];exact .inl hk))
  have h2:stoParts (fun k=>lk (H' k) (sto H (ρ x)).hu k) ρ' r=stoParts (fun k=>lk (H k) (sto H (ρ x)).hu k) ρ r:=stoParts_frame (fun y hy=>hρ y (by simp[hy])) (fun k hk=>by
   have:=h k (by simp only[stoParts,List.mem_append];exact .inr hk)
   simp only[this])
  simp only[stoParts,hx,h1,h2]
theorem s1_frame {s:SV} (h:∀k∈s.ml,H' k=H k):s1 H' s=s1 H s:=by
 cases s with
 |own k p vs=>simp only[s1,h k (by simp[SV.ml,SV.ml0])]
 |ref k p vs i o=>simp only[s1,h k (by simp[SV.ml,SV.ml0])]
 |view k p vs i o=>simp only[s1,h k (by simp[SV.ml,SV.ml0])]
 |_=>rfl
theorem s1L_frame:∀{l:List SV},(∀k∈SV.mlL l,H' k=H k)→s1L H' l=s1L H l
 |[],_=>rfl
 |s::r,h=>by
  simp only[s1L,s1_frame (s:=s) (fun k hk=>h k (by simp[SV.mlL,hk])),s1L_frame (l:=r) (fun k hk=>h k (by simp[SV.mlL,hk]))]
theorem t1_frame {t:TV} (h:∀k∈t.ml,H' k=H k):t1 H' t=t1 H t:=by
 cases t with
 |one s=>exact s1_frame h
 |agg l=>exact s1L_frame h
 |_=>rfl
theorem t1All_frame {ρ ρ':Operand→TV}:∀{l:List Operand},(∀x∈l,ρ' x=ρ x)→(∀k∈mlO ρ l,H' k=H k)→t1All H' ρ' l=t1All H ρ l
 |[],_,_=>rfl
 |x::r,hρ,h=>by
  have hx:ρ' x=ρ x:=hρ x (by simp)
  simp only[t1All,hx,t1_frame (t:=ρ x) (fun k hk=>h k (by simp[mlO,hk])),t1All_frame (l:=r) (fun y hy=>hρ y (by simp[hy])) (fun k hk=>h k (by simp[mlO,hk]))]
theorem buildF_frame {t:TypeId} {ρ ρ':Operand→TV}:∀{l:List (Nat×Operand)} {m:List SV},(∀x∈l,ρ' x.2=ρ x.2)→buildF P t ρ' l m=buildF P t ρ l m
 |[],_,_=>rfl
 |(i,x)::r,m,h=>by
  have hx:ρ' x=ρ x:=h (i,x) (by simp)
  simp only[buildF,hx]
  exact buildF_frame (fun y hy=>h y (by simp[hy]))
theorem buildOk_frame {t:TypeId} {ρ ρ':Operand→TV}:∀{l:List (Nat×Operand)},(∀x∈l,ρ' x.2=ρ x.2)→buildOk P t ρ' l=buildOk P t ρ l
 |[],_=>rfl
 |(i,x)::r,h=>by
  have hx:ρ' x=ρ x:=h (i,x) (by simp)
  simp only[buildOk,hx,buildOk_frame (l:=r) (fun y hy=>h y (by simp[hy]))]
theorem cloOps_frame {ρ ρ':Operand→TV}:∀{l:List Operand},(∀x∈l,ρ' x=ρ x)→cloOps ρ' l=cloOps ρ l
 |[],_=>rfl
 |x::r,h=>by
  have hx:ρ' x=ρ x:=h x (by simp)
  simp only[cloOps,hx,cloOps_frame (l:=r) (fun y hy=>h y (by simp[hy]))]
theorem snds_mem:∀{l:List (Nat×Operand)} {x:Operand},x∈snds l→∃y∈l,y.2=x
 |(i,z)::r,x,h=>by
  simp only[snds,List.mem_cons] at h
  rcases h with rfl|h
  ·exact⟨(i,x),by simp,rfl⟩
  ·obtain⟨y,h1,h2⟩:=snds_mem h;exact⟨y,by simp[h1],h2⟩
theorem slc_frame {t:TypeId} {s:SV} {lo hi:Option Int} (hok:(slc P t H s lo hi).ok) (hH:∀k∈(slc P t H s lo hi).rd,H' k=H k):slc P t H' s lo hi=slc P t H s lo hi:=by
 cases s with
 |own k p vs=>
  have hk:H' k=H k:=by
   simp only[slc] at hok hH
   split at hok
   ·rename_i e;rw[e] at hH;exact hH k (by simp)
   ·exact hok.elim
  simp only[slc,hk]
 |view k p vs i j=>
  have hk:H' k=H k:=by
   simp only[slc] at hok hH
   split at hok
   ·rename_i e;rw[e] at hH;exact hH k (by simp)
   ·exact hok.elim
  simp only[slc,hk]
 |av a=>cases a<;>rfl
 |_=>rfl
theorem conv_frame {s d:TypeId} {x:Operand} {ρ ρ':Operand→TV} (hρ:ρ' x=ρ x) (hok:(conv P s d x ρ H).ok) (hH:∀k∈(conv P s d x ρ H).rd,H' k=H k):conv P s d x ρ' H'=conv P s d x ρ H:=by
 unfold conv at hok hH ⊢
 rw[hρ]
 split
 ·rfl
 ·rfl
 ·rfl
 ·rename_i s' hne hne2 e1 e2 e3
  simp only[e1,e2,e3] at hok hH
  split at hok
  ·rename_i ok es m f rd e f1 f2
   rw[f1,f2] at hH
   have:=slOf_frame f1 hH
   rw[this,f2]
  ·exact hok.elim
 ·rfl
theorem apOld_frame {t:TypeId} {x y:TV} {n:Nat} (hok:(apOld P t x y H n).ok) (hH:∀k∈(apOld P t x y H n).rd,H' k=H k):apOld P t x y H' n=apOld P t x y H n:=by
 unfold apOld at hok hH ⊢
 cases he:(tk P t).el with
 |none=>rfl
 |some e=>
  rw[he] at hok hH
  dsimp only at hok hH ⊢
  cases x with
  |one s=>cases y with
   |one z=>
    dsimp only at hok hH ⊢
    cases hz:apSrc H (tk P e).sz z with
    |none=>rw[hz] at hok;exact hok.elim
    |some q=>
     obtain⟨ok2,m,g,rd2⟩:=q
     rw[hz] at hok hH
     dsimp only at hok hH
     have key:(∀k∈rd2,H' k=H k)→apSrc H' (tk P e).sz z=some (ok2,m,g,rd2):=fun h=>apSrc_frame hz h
     cases s with
     |av a=>
      cases a with
      |sl u nl es' n' f=>
       cases nl with
       |none=>exact hok.elim
       |some b=>cases b with
        |false=>exact hok.elim
        |true=>cases n' with
         |zero=>rw[key hH];rfl
         |succ n'=>exact hok.elim
      |_=>exact hok.elim
     |own k p vs=>
      dsimp only at hok hH
      have hk:H' k=H k:=by
       split at hok
       ·rename_i e2;rw[e2] at hH;exact hH k (by simp)
       ·exact hok.elim
      have hr:∀k∈rd2,H' k=H k:=by
       split at hok
       ·rename_i e2;rw[e2] at hH;exact fun k hk=>hH k (by simp[hk])
       ·exact hok.elim
      rw[key hr]
      dsimp only
      rw[hk]
     |_=>exact hok.elim
   |_=>exact hok.elim
  |_=>exact hok.elim
theorem apMv_frame {e:TypeId} {s:SV} {n k2:Nat} {ok2:Prop} {g:Nat→Nat→AV} (hok:(apMv P e s H n k2 ok2 g).ok) (hH:∀k∈(apMv P e s H n k2 ok2 g).rd,H' k=H k):apMv P e s H' n k2 ok2 g=apMv P e s H n k2 ok2 g:=by
 unfold apMv at hok hH ⊢
 dsimp only at hok hH ⊢
 cases s with
 |av a=>
  cases a with
  |sl u nl es' n' f=>
   cases nl with
   |none=>exact hok.elim
   |some b=>cases b with
    |false=>exact hok.elim
    |true=>cases n' with
     |zero=>
      have e:=hH k2 (by simp)
      rw[e]
      rfl
     |succ n'=>exact hok.elim
  |_=>exact hok.elim
 |own k p vs=>
  dsimp only at hok hH ⊢
  have hk:H' k=H k:=by
   split at hok
   ·rename_i e2;rw[e2] at hH;exact hH k (by simp)
   ·exact hok.elim
  have hk2:H' k2=H k2:=by
   split at hok
   ·rename_i e2;rw[e2] at hH;exact hH k2 (by simp)
   ·exact hok.elim
  rw[hk,hk2]
 |_=>exact hok.elim
theorem apOld_rd {t e:TypeId} {s:SV} {k:Nat} {vs:List Nat} {n:Nat} (he:(tk P t).el=some e) (hok:(apOld P t (.one s) (.one (.own k [] vs)) H n).ok):k∈(apOld P t (.one s) (.one (.own k [] vs)) H n).rd:=by
 unfold apOld at hok ⊢
 rw[he] at hok ⊢
 dsimp only at hok ⊢
 cases hz:apSrc H (tk P e).sz (.own k [] vs) with
 |none=>rw[hz] at hok;exact hok.elim
 |some q=>
  obtain⟨ok2,m,g,rd2⟩:=q
  have hk:k∈rd2:=by
   unfold apSrc at hz
   dsimp only at hz
   split at hz
   ·simp only[Option.some.injEq,Prod.mk.injEq] at hz
    rw[←hz.2.2.2];simp
   ·cases hz
  rw[hz] at hok
  dsimp only at hok ⊢
  split at hok
  ·exact hk
  ·split at hok
   ·rename_i e2
    exact List.mem_cons_of_mem _ hk
   ·exact hok.elim
  ·exact hok.elim
theorem apMv_rd {e:TypeId} {s:SV} {n k2:Nat} {ok2:Prop} {g:Nat→Nat→AV} (hok:(apMv P e s H n k2 ok2 g).ok):k2∈(apMv P e s H n k2 ok2 g).rd:=by
 unfold apMv at hok ⊢
 dsimp only at hok ⊢
 split at hok
 ·simp
 ·split at hok
  ·simp
  ·exact hok.elim
 ·exact hok.elim
theorem apOp_frame {t:TypeId} {x y:TV} {n:Nat} (hok:(apOp P t x y H n).ok) (hH:∀k∈(apOp P t x y H n).rd,H' k=H k):apOp P t x y H' n=apOp P t x y H n:=by
 unfold apOp at hok hH ⊢
 cases hel:(tk P t).el with
 |none=>rw[hel] at hok hH;exact apOld_frame hok hH
 |some e=>
  rw[hel] at hok hH
  cases x with
  |one s=>cases y with
   |one z=>
    dsimp only at hok hH ⊢
    cases hsrc:mvSrc H (tk P e).sz z with
    |some q=>
     obtain⟨k2,ok2,g⟩:=q
     rw[hsrc] at hok hH
     dsimp only at hok hH
     have hk2:=hH k2 (apMv_rd hok)
     have hsame:mvSrc H' (tk P e).sz z=mvSrc H (tk P e).sz z:=by
      unfold mvSrc at hsrc ⊢
      split at hsrc
      ·rename_i k vs
       split at hsrc
       ·rename_i nl es' m g' ea
        cases how:ownsN (tk P e).sz (g' 0) with
        |false=>rw[how] at hsrc;cases hsrc
        |true=>
         rw[how] at hsrc
         simp only[cond_true,Option.some.injEq,Prod.mk.injEq] at hsrc
         rw[←hsrc.1] at hk2
         rw[hk2,ea]
         dsimp only
         rw[how]
       ·cases hsrc
      ·cases hsrc
     rw[hsame,hsrc]
     exact apMv_frame hok hH
    |none=>
     rw[hsrc] at hok hH
     dsimp only at hok hH
     have hsame:mvSrc H' (tk P e).sz z=mvSrc H (tk P e).sz z:=by
      cases z with
      |own k p vs=>cases p with
       |nil=>
        have:=hH k (apOld_rd hel hok)
        simp only[mvSrc,this]
       |cons _ _=>rfl
      |_=>rfl
     rw[hsame,hsrc]
     exact apOld_frame hok hH
   |_=>exact apOld_frame hok hH
  |_=>exact apOld_frame hok hH
theorem optI_frame {ρ ρ':Operand→TV} {lo:Option Operand} (h:∀x,lo=some x→ρ' x=ρ x):optI ρ' lo=optI ρ lo:=by
 cases lo with
 |none=>rfl
 |some x=>simp only[optI,h x rfl]
def stoR (P:Program) (t:TypeId) (H1:Nat→OB) (k:Nat) (p:Path) (vs:List Nat) (i o es m:Nat) (z:TV):Res:=
 let s:=sto H1 z
 let K:=lk (H1 k) s.hu k
 { ok:=(H1 k).live p vs∧i<m∧s.ok∧(tk P t).can=true∧s.cs.length=(tk P t).sz∧o+s.cs.length≤es∧K.live p vs∧(K.a.at p).es=es∧(K.a.at p).n=m,v:=.junk,
   hu:=(k,⟨K.a.setR p i o s.cs,if s.cs.all plain then K.vs else bump K.vs (p.length+1)⟩)::s.hu,rd:=k::s.rd}
def stoM (P:Program) (t:TypeId) (H1:Nat→OB) (k:Nat) (p:Path) (vs:List Nat) (i o:Nat) (_:Option Bool) (es m:Nat) (_:Nat→Nat→AV) (z:TV):Res:=
 match z with
 | .one (.view k' p' vs' lo hi)=>
  (match (H1 k).a.at p' with
  | .sl true nl es' m' f'=>
   { ok:=k'=k∧p'=p++[(i,o)]∧(H1 k).live p vs∧(H1 k).live p' vs'∧lo=0∧hi≤m'∧(tk P t).sz=1∧i<m∧o+1≤es∧((H1 k).cut p').live p vs∧(((H1 k).cut p').a.at p).es=es∧(((H1 k).cut p').a.at p).n=m,v:=.junk,hu:=[(k,⟨((H1 k).a.cut p').setR p i o [.sl true (if nl=some false then some false else none) es' hi f'],bump (H1 k).vs (p.length+1)⟩)],rd:=[k]}
  |_=>bad)
 |z=>
  let s:=sto H1 z
  let K:=lk (H1 k) s.hu k
  { ok:=(H1 k).live p vs∧i<m∧s.ok∧(tk P t).can=true∧s.cs.length=(tk P t).sz∧o+s.cs.length≤es∧K.live p vs∧(K.a.at p).es=es∧(K.a.at p).n=m,v:=.junk,
    hu:=(k,⟨K.a.setR p i o s.cs,if s.cs.all plain then K.vs else bump K.vs (p.length+1)⟩)::s.hu,rd:=k::s.rd}
theorem mapA_frame {t:TV} {k:Nat} {vs:List Nat} {es:List (Int×Int×Int)} (h:mapA H t=some (k,vs,es)) (hk:H' k=H k):mapA H' t=some (k,vs,es):=by
 unfold mapA at h ⊢
 split at h
 ·split at h
  ·rename_i he
   simp only[Option.some.injEq,Prod.mk.injEq] at h
   obtain⟨rfl,rfl,rfl⟩:=h
   rw[hk,he]
  ·cases h
 ·cases h
theorem aop_frame {op:Op} {ρ ρ':Operand→TV} {n:Nat} (hρ:∀x∈op.operands.toList,ρ' x=ρ x) (hok:(aop P op ρ H n).ok) (hH:∀k∈(aop P op ρ H n).rd,H' k=H k) (hS:∀k∈(aop P op ρ H n).sh,Surf (H k) (H' k)):aop P op ρ' H' n=aop P op ρ H n:=by
 cases op with
 |move x=>have h1:=hρ x (by simp[Op.operands]);simp only[aop,h1]
 |assign x=>have h1:=hρ x (by simp[Op.operands]);simp only[aop,h1]
 |pick c x y=>
  have h1:=hρ c (by simp[Op.operands]);have h2:=hρ x (by simp[Op.operands]);have h3:=hρ y (by simp[Op.operands])
  simp only[aop,h1,h2,h3]
 |box t x=>
  have h1:=hρ x (by simp[Op.operands])
  have h2:sto H' (ρ x)=sto H (ρ x):=sto_frame hH
  simp only[aop,h1,h2]
 |alloc t=>rfl
 |build t parts=>
  have hp:∀x∈parts.toList,ρ' x.2=ρ x.2:=fun x hx=>hρ x.2 (by simp only[Op.operands,List.mem_map];exact⟨x,hx,rfl⟩)
  have h3:t1All H' ρ' (snds parts.toList)=t1All H ρ (snds parts.toList):=t1All_frame (fun x hx=>by obtain⟨y,h1,h2⟩:=snds_mem hx;rw[←h2];exact hp y h1) hH
  have h4:mlO ρ' (snds parts.toList)=mlO ρ (snds parts.toList):=by
   have:∀(l:List Operand),(∀x∈l,ρ' x=ρ x)→mlO ρ' l=mlO ρ l:=by
    intro l;induction l with
    |nil=>intro _;rfl
    |cons x r ih=>intro h;simp only[mlO,h x (by simp),ih (fun y hy=>h y (by simp[hy]))]
   exact this _ (fun x hx=>by obtain⟨y,h1,h2⟩:=snds_mem hx;rw[←h2];exact hp y h1)
  simp only[aop,buildF_frame hp,buildOk_frame hp,h3,h4]
 |buildSlice t len parts=>
  have hp:∀x∈parts.toList,ρ' x.2=ρ x.2:=fun x hx=>hρ x.2 (by simp only[Op.operands,List.mem_map];exact⟨x,hx,rfl⟩)
  simp only[aop] at hH hok ⊢
  cases he:(tk P t).el with
  |none=>rfl
  |some e=>
   rw[he] at hH
   have h2:stoParts H' ρ' parts.toList=stoParts H ρ parts.toList:=stoParts_frame hp hH
   simp only[h2]
 |load t x=>
  have h1:=hρ x (by simp[Op.operands])
  simp only[aop,h1] at hok hH hS ⊢
  split
  ·rfl
  ·rename_i k p vs i o hx
   rw[hx] at hok hH hS
   dsimp only at hok hH hS
   cases hsh:shl p (tk P t).agg with
   |false=>
    have hk:H' k=H k:=by
     split at hok
     ·rename_i e;rw[e] at hH;dsimp only at hH;rw[hsh] at hH;exact hH k (by simp)
     ·exact hok.elim
    rw[hk]
   |true=>
    have hp:p=[]∧(tk P t).agg=false:=by
     cases p with
     |nil=>exact⟨rfl,by simpa [shl] using hsh⟩
     |cons _ _=>cases hsh
    obtain⟨rfl,hag⟩:=hp
    have hs:Surf (H k) (H' k):=by
     split at hok
     ·rename_i e;rw[e] at hS;dsimp only at hS;rw[hsh] at hS;exact hS k (by simp)
     ·exact hok.elim
    have hsl:∃nl es n f,(H k).a.at []=.sl true nl es n f:=by
     split at hok
     ·rename_i e;exact⟨_,_,_,_,e⟩
     ·exact hok.elim
    obtain⟨q1,q2⟩:=hs.row (p:=[]) rfl hsl
    rcases q2 with q2|⟨nl,es,m,f,g,e1,e2,q3⟩
    ·rw[q2,hs.1]
     simp only[q1]
    ·rw[e1,e2]
     dsimp only
     have e3:ldTV P t (fun j=>ldc k [] (H' k).vs i j (g i j)) o=ldTV P t (fun j=>ldc k [] (H k).vs i j (f i j)) o:=by
      unfold ldTV
      rw[hag,hs.1]
      simp only[Bool.false_eq_true,if_false]
      rcases q3 rfl i o with e|⟨_,_,_,_,_,e4,e5⟩
      ·rw[e]
      ·rw[e4,e5];rfl
     rw[e3]
     simp only[q1]
  ·rfl
 |store t x y=>
  have h1:=hρ x (by simp[Op.operands]);have h2:=hρ y (by simp[Op.operands])
  simp only[aop,h1,h2] at hok hH ⊢
  cases hx:ρ x with
  |one s=>
   cases s with
   |ref k p vs i o=>
    rw[hx] at hok hH
    dsimp only at hok hH ⊢
    cases hk0:(H k).a.at p with
    |sl u nl es m f=>
     cases u with
     |true=>
      rw[hk0] at hok hH
      dsimp only at hok hH ⊢
      have rest:∀z,(∀k' p' vs' lo hi,z≠.one (.view k' p' vs' lo hi))→∀H1:Nat→OB,stoM P t H1 k p vs i o nl es m f z=stoR P t H1 k p vs i o es m z:=by
       intro z hz H1
       cases z with
       |one s=>cases s with
        |view k' p' vs' lo hi=>exact absurd rfl (hz k' p' vs' lo hi)
        |_=>rfl
       |_=>rfl
      by_cases hv:∃k' p' vs' lo hi,ρ y=.one (.view k' p' vs' lo hi)
      ·obtain⟨k',p',vs',lo,hi,hv⟩:=hv
       rw[hv] at hok hH ⊢
       dsimp only at hok hH ⊢
       cases hk1:(H k).a.at p' with
       |sl u2 nl2 es2 m2 f2=>
        cases u2 with
        |true=>
         rw[hk1] at hH
         have hk:H' k=H k:=hH k (by simp)
         rw[hk,hk0];dsimp only;rw[hk1]
        |false=>rw[hk1] at hok;exact hok.elim
       |_=>rw[hk1] at hok;exact hok.elim
      ·have hv':∀k' p' vs' lo hi,ρ y≠.one (.view k' p' vs' lo hi):=fun _ _ _ _ _ e=>hv ⟨_,_,_,_,_,e⟩
       have r1:=rest _ hv' H
       have hH2:∀k2∈k::(sto H (ρ y)).rd,H' k2=H k2:=fun k2 h2=>hH k2 (by
        have e:=congrArg Res.rd r1
        have h3:k2∈(stoM P t H k p vs i o nl es m f (ρ y)).rd:=by rw[e];exact h2
        exact h3)
       have hk:H' k=H k:=hH2 k (by simp)
       have hs:sto H' (ρ y)=sto H (ρ y):=sto_frame (fun k2 h=>hH2 k2 (by simp[h]))
       have r2:=rest _ hv' H'
       rw[hk]
       rw[hk0]
       dsimp only
       have e3:stoM P t H' k p vs i o nl es m f (ρ y)=stoM P t H k p vs i o nl es m f (ρ y):=by
        rw[r1,r2];simp only[stoR,hk,hs]
       have e4:=e3
       unfold stoM at e4
       rw[hk] at e4
       exact e4
     |false=>rw[hk0] at hok;exact hok.elim
    |_=>rw[hk0] at hok;exact hok.elim
   |_=>rfl
  |_=>rfl
 |nilCheck x=>
  have h1:=hρ x (by simp[Op.operands])
  simp only[aop,h1] at hok hH ⊢
 |binOp op t x y yt=>
  have h1:=hρ x (by simp[Op.operands]);have h2:=hρ y (by simp[Op.operands])
  simp only[aop,h1,h2] at hok hH ⊢
  split
  ·rename_i e s u es f e1 e2 e3
   simp only[e1,e2,e3] at hok hH
   cases hn:nlOf H s with
   |none=>rw[hn] at hok;exact hok.elim
   |some q=>
    obtain⟨ok,b,rd⟩:=q
    rw[hn] at hH
    rw[nlOf_frame hn hH]
  ·rename_i e s u es f e1 e2 e3
   simp only[e1,e2,e3] at hok hH
   cases hn:nlOf H s with
   |none=>rw[hn] at hok;exact hok.elim
   |some q=>
    obtain⟨ok,b,rd⟩:=q
    rw[hn] at hH
    rw[nlOf_frame hn hH]
  ·rfl
 |unOp u t x=>have h1:=hρ x (by simp[Op.operands]);cases u<;>simp only[aop,h1]
 |convert s d x=>exact conv_frame (hρ x (by simp[Op.operands])) hok hH
 |makeFunc g first cap=>
  have hc:cloOps ρ' cap.toList=cloOps ρ cap.toList:=cloOps_frame (fun x hx=>hρ x (by simp[Op.operands] at hx ⊢;exact .inr hx))
  simp only[aop,hc]
 |makeSlice t l c=>
  have h1:=hρ l (by simp[Op.operands]);have h2:=hρ c (by simp[Op.operands])
  simp only[aop,h1,h2]
 |slice t x lo hi mx=>
  cases mx with
  |some m=>
   cases lo with
   |none=>rfl
   |some lo=>
   cases hi with
   |none=>rfl
   |some hi=>
   have h1:=hρ x (by simp[Op.operands])
   have h2:=hρ lo (by simp[Op.operands])
   have h3:=hρ hi (by simp[Op.operands])
   have h4:=hρ m (by simp[Op.operands])
   simp only[aop,h1,h2,h3,h4] at hok hH ⊢
   split at hok
   ·rename_i s k1 i1 k2 i2 k3 i3 q1 q2 q3 q4
    try rw[q1,q2,q3,q4] at hH
    try dsimp only at hH ⊢
    cases hz:slOf H s with
    |none=>rw[hz] at hok;exact hok.elim
    |some r=>
     obtain⟨ok,es,mm,f,rd⟩:=r
     rw[hz] at hH
     rw[slOf_frame hz hH]
   ·exact hok.elim
  |none=>
   have h1:=hρ x (by simp[Op.operands])
   have h2:optI ρ' lo=optI ρ lo:=optI_frame (fun y hy=>hρ y (by subst hy;simp[Op.operands]))
   have h3:optI ρ' hi=optI ρ hi:=optI_frame (fun y hy=>hρ y (by subst hy;simp[Op.operands]))
   simp only[aop,h1,h2,h3] at hok hH ⊢
   cases hx:ρ x with
   |one s=>
    rw[hx] at hok hH
    cases hl:optI ρ lo with
    |none=>rfl
    |some l=>
     cases hh:optI ρ hi with
     |none=>rfl
     |some h=>
      rw[hl,hh] at hok hH
      exact slc_frame hok hH
   |_=>rfl
 |fieldAddr t x i=>
  have h1:=hρ x (by simp[Op.operands])
  simp only[aop,h1] at hok hH ⊢
 |field t x i=>have h1:=hρ x (by simp[Op.operands]);simp only[aop,h1]
 |indexAddr t x y=>
  have h1:=hρ x (by simp[Op.operands]);have h2:=hρ y (by simp[Op.operands])
  simp only[aop,h1,h2] at hok hH hS ⊢
  split
  ·rfl
  ·rename_i k p vs kk i e1 e2
   rw[e1,e2] at hok hH hS
   dsimp only at hok hH hS
   cases hsh:shx p with
   |false=>
    have hk:H' k=H k:=by
     split at hok
     ·rename_i e;rw[e] at hH;dsimp only at hH;rw[hsh] at hH;exact hH k (by simp)
     ·exact hok.elim
    rw[hk]
   |true=>
    have hs:Surf (H k) (H' k):=by
     split at hok
     ·rename_i e;rw[e] at hS;dsimp only at hS;rw[hsh] at hS;exact hS k (by simp)
     ·exact hok.elim
    have hsl:∃nl es n f,(H k).a.at p=.sl true nl es n f:=by
     split at hok
     ·rename_i e;exact⟨_,_,_,_,e⟩
     ·exact hok.elim
    obtain⟨q1,q2⟩:=hs.row hsh hsl
    rcases q2 with q2|⟨nl,es,m,f,g,e3,e4,_⟩
    ·rw[q2]
     simp only[q1]
    ·rw[e3,e4]
     simp only[q1]
  ·rename_i k p vs lo hi kk i e1 e2
   have hk:H' k=H k:=by
    rw[e1,e2] at hok hH
    dsimp only at hok hH
    split at hok
    ·rename_i e;rw[e] at hH;exact hH k (by simp)
    ·exact hok.elim
   rw[hk]
  ·rfl
 |index t x y=>
  have h1:=hρ x (by simp[Op.operands]);have h2:=hρ y (by simp[Op.operands])
  simp only[aop,h1,h2]
 |extract x i=>have h1:=hρ x (by simp[Op.operands]);simp only[aop,h1]
 |call c=>
  have ha:∀x∈c.args.toList,ρ' x=ρ x:=fun x hx=>hρ x (by simp[Op.operands,Call.operands] at hx ⊢;exact .inr hx)
  simp only[aop] at hok hH ⊢
  split
  ·rename_i x t e1 e2 e3
   have h1:=ha x (by rw[e2];simp)
   simp only[e1,e2,e3,h1] at hok hH ⊢
   cases hx:ρ x with
   |one s=>
    rw[hx] at hok hH
    dsimp only at hok hH ⊢
    cases hl:lenOf P t H s with
    |none=>rw[hl] at hok;exact hok.elim
    |some q=>
     obtain⟨ok,m,rd⟩:=q
     rw[hl] at hH
     rw[lenOf_frame hl hH]
   |_=>rfl
  ·rename_i x y t t' e1 e2 e3
   have h1:=ha x (by rw[e2];simp);have h2:=ha y (by rw[e2];simp)
   simp only[e1,e2,e3,h1,h2] at hok hH ⊢
   rw[apOp_frame hok.1 hH]
  ·rename_i x y e1 e2
   have h1:=ha x (by rw[e2];simp);have h2:=ha y (by rw[e2];simp)
   rw[h1,h2]
  ·rename_i x y e1 e2
   have h1:=ha x (by rw[e2];simp);have h2:=ha y (by rw[e2];simp)
   rw[h1,h2]
  ·rfl
 |lookup t x y b=>
  cases b with
  |true=>rfl
  |false=>
   have h1:=hρ x (by simp[Op.operands]);have h2:=hρ y (by simp[Op.operands])
   simp only[aop,h1,h2] at hok hS ⊢
   cases hk:keyA (ρ y) with
   |none=>rw[hk] at hok;revert hok;cases mapA H (ρ x)<;>exact fun h=>h.elim
   |some q=>
    obtain⟨c,d⟩:=q
    cases hm:mapA H (ρ x) with
    |none=>rw[hm] at hok;exact hok.elim
    |some q=>
     obtain⟨k,vs,es⟩:=q
     rw[hm,hk] at hok hS
     have hs:=hS k (by simp)
     obtain⟨es',e1,e2⟩:∃es',mapA H' (ρ x)=some (k,vs,es')∧∀c d,mget es' c d=mget es c d:=by
      unfold mapA at hm ⊢
      split at hm
      ·rename_i k' vs' _
       split at hm
       ·rename_i es0 he
        simp only[Option.some.injEq,Prod.mk.injEq] at hm
        obtain⟨rfl,rfl,rfl⟩:=hm
        rcases hs.2 with e|⟨f,f',e3,e4,e5⟩|⟨_,_,_,_,_,e3,_⟩
        ·rw[←e,he];exact⟨_,rfl,fun _ _=>rfl⟩
        ·rw[he] at e3
         cases e3
         rw[e4]
         exact⟨_,rfl,e5⟩
        ·rw[he] at e3;cases e3
       ·cases hm
      ·cases hm
     have hlv:(H' k).live [] vs=(H k).live [] vs:=by
      have hne:∀{H:Nat→OB} {es},mapA H (ρ x)=some (k,vs,es)→(H k).a=.mp es:=by
       intro H es hm
       unfold mapA at hm
       split at hm
       ·split at hm
        ·rename_i he
         simp only[Option.some.injEq,Prod.mk.injEq] at hm
         obtain⟨rfl,rfl,rfl⟩:=hm
         exact he
        ·cases hm
       ·cases hm
      simp only[OB.live,hne hm,hne e1,hs.1]
      rfl
     simp only[e1,e2,hlv]
 |mapEntry t x y=>
  have h1:=hρ x (by simp[Op.operands]);have h2:=hρ y (by simp[Op.operands])
  simp only[aop,h1,h2] at hok hH ⊢
  cases hk:keyA (ρ y) with
  |none=>rw[hk] at hok;revert hok;cases mapA H (ρ x)<;>exact fun h=>h.elim
  |some q=>
   obtain⟨c,d⟩:=q
   cases hm:mapA H (ρ x) with
   |none=>rw[hm] at hok;exact hok.elim
   |some q=>
    obtain⟨k,vs,es⟩:=q
    rw[hm,hk] at hH
    rw[mapA_frame hm (hH k (by simp))]
    simp only[hH k (by simp)]
 |entryStore t x y z=>
  have h1:=hρ x (by simp[Op.operands]);have h2:=hρ y (by simp[Op.operands]);have h3:=hρ z (by simp[Op.operands])
  simp only[aop,h1,h2,h3] at hok hH ⊢
  split at hok
  ·rename_i k vs es j v hm e4 e5
   rw[hm,e4,e5] at hH
   rw[mapA_frame hm (hH k (by simp)),e4,e5]
   simp only[hH k (by simp)]
  ·exact hok.elim
 |makeMap t r=>cases r<;>rfl
 |_=>rfl
theorem ctOp_congr {op:Op} {ρ ρ':Operand→TV} {n:Nat} (hρ:∀x∈op.operands.toList,ρ' x=ρ x):ctOp op ρ' n=ctOp op ρ n:=by
 unfold ctOp
 split
 ·rename_i c
  split
  ·rename_i x y hc hargs
   rw[hρ x (by simp[Op.operands,Call.operands,hargs])]
  ·rfl
 ·rename_i x y
  rw[hρ x (by simp[Op.operands])]
 ·rfl
theorem ctOf_mem {k n k':Nat} {p:Path} (h:k'∈ctOf k n p):k'=k∧2≤p.length∧k≠n:=by
 unfold ctOf at h
 cases e:Nat.blt 1 p.length&& !(Nat.beq k n) with
 |false=>rw[e] at h;simp at h
 |true=>
  rw[e] at h
  simp only[cond_true,List.mem_singleton] at h
  simp only[Bool.and_eq_true,Nat.blt_eq,Bool.not_eq_true'] at e
  exact⟨h,e.1,fun e2=>by rw[e2] at e;simp at e⟩
theorem aop_ct {op:Op} {ρ:Operand→TV} {n:Nat} (hok:(aop P op ρ H n).ok):∀k∈ctOp op ρ n,Surf (H k) (lk (H k) (aop P op ρ H n).hu k):=by
 intro k hk
 unfold ctOp at hk
 split at hk
 case h_3=>cases hk
 case h_2=>
  rename_i t x y
  split at hk
  ·rename_i k0 p vs hx
   simp only[List.mem_singleton] at hk
   subst hk
   simp only[aop,hx] at hok ⊢
   unfold mapA at hok ⊢
   split at hok
   ·rename_i e1 e2
    split at e1
    ·rename_i es' he
     cases he
     split at e1
     ·rename_i es0 he
      simp only[Option.some.injEq,Prod.mk.injEq] at e1
      obtain⟨rfl,rfl,rfl⟩:=e1
      simp only[lk,if_true]
      exact⟨rfl,.inr (.inl ⟨_,_,he,rfl,fun c d=>mget_ment c d⟩)⟩
     ·cases e1
    ·cases e1
   ·exact hok.elim
  ·cases hk
 rename_i c
 split at hk
 case h_2=>cases hk
 rename_i x y hc hargs
 split at hk
 case h_2=>cases hk
 rename_i k0 p vs hx
 obtain⟨rfl,hp,hn⟩:=ctOf_mem hk
 obtain⟨t,t',hty⟩:∃t t',c.argTypes.toList=[t,t']:=by
  simp only[aop,hc,hargs] at hok
  match h:c.argTypes.toList with
  |[]=>rw[h] at hok;exact hok.elim
  |[t]=>rw[h] at hok;exact hok.elim
  |[t,t']=>exact⟨t,t',rfl⟩
  |_::_::_::_=>rw[h] at hok;exact hok.elim
 simp only[aop,hc,hargs,hty,hx] at hok ⊢
 obtain⟨hok,_⟩:=hok
 have hold:(apOld P t (.one (.own k p vs)) (ρ y) H n).ok→Surf (H k) (lk (H k) (apOld P t (.one (.own k p vs)) (ρ y) H n).hu k):=by
  intro hok
  unfold apOld at hok ⊢
  split at hok
  ·exact hok.elim
  ·rename_i e hel
   dsimp only at hok ⊢
   split at hok
   ·rename_i s z e1 e2
    cases e1
    split at hok
    ·exact hok.elim
    ·rename_i ok2 m g rd2 hsrc
     dsimp only at hok ⊢
     split at hok
     ·rename_i nl es' l f ea
      have hl:=hok.2.1
      simp only[lk,if_neg (Ne.symm hn),if_true]
      exact surf_cut hl.1 hp
     ·exact hok.elim
   ·exact hok.elim
 unfold apOp at hok ⊢
 split at hok
 ·rename_i e s z hel e1 e2
  cases e1
  split at hok
  ·rename_i k2 ok2 g hsrc
   unfold apMv at hok ⊢
   dsimp only at hok ⊢
   split at hok
   ·rename_i nl es' l f ea
    have hl:=hok.2.2.1
    simp only[lk,if_neg (Ne.symm hn),if_true]
    exact surf_cut hl.1 hp
   ·exact hok.elim
  ·exact hold hok
 ·exact hold hok
theorem borS0_frame {s:SV} (h:∀k∈s.ml0,H' k=H k):borS0 H' s=borS0 H s:=by
 cases s with
 |own k p vs=>simp only[borS0,h k (by simp[SV.ml0])]
 |ref k p vs i o=>simp only[borS0,h k (by simp[SV.ml0])]
 |view k p vs i o=>simp only[borS0,h k (by simp[SV.ml0])]
 |_=>rfl
theorem borL0_frame:∀{l:List SV},(∀k∈SV.mlL0 l,H' k=H k)→borL0 H' l=borL0 H l
 |[],_=>rfl
 |s::r,h=>by simp only[borL0,borS0_frame (s:=s) (fun k hk=>h k (by simp[SV.mlL0,hk])),borL0_frame (l:=r) (fun k hk=>h k (by simp[SV.mlL0,hk]))]
theorem borS_frame {s:SV} (h:∀k∈s.ml,H' k=H k):borS H' s=borS H s:=by
 cases s with
 |clo g l=>simp only[borS,borL0_frame (l:=l) h]
 |junk=>rfl
 |av a=>rfl
 |own k p vs=>exact borS0_frame (s:=.own k p vs) h
 |ref k p vs i o=>exact borS0_frame (s:=.ref k p vs i o) h
 |view k p vs i o=>exact borS0_frame (s:=.view k p vs i o) h
theorem borL_frame:∀{l:List SV},(∀k∈SV.mlL l,H' k=H k)→borL H' l=borL H l
 |[],_=>rfl
 |s::r,h=>by simp only[borL,borS_frame (s:=s) (fun k hk=>h k (by simp[SV.mlL,hk])),borL_frame (l:=r) (fun k hk=>h k (by simp[SV.mlL,hk]))]
theorem borT_frame {t:TV} (h:∀k∈t.ml,H' k=H k):borT H' t=borT H t:=by
 cases t with
 |one s=>simp only[borT,borS_frame (s:=s) h]
 |agg l=>simp only[borT,borL_frame (l:=l) h]
 |_=>rfl
theorem borA_frame:∀{l:List TV},(∀k∈mlA l,H' k=H k)→borA H' l=borA H l
 |[],_=>rfl
 |t::r,h=>by simp only[borA,borT_frame (t:=t) (fun k hk=>h k (by simp[mlA,hk])),borA_frame (l:=r) (fun k hk=>h k (by simp[mlA,hk]))]
end
end Go.AM
/- The framework AM,part D2:a region whose order is open is run in the text's order. -/
namespace Go.AM
open Go
inductive Stp (P:Program) (N:Nat) (ops:Array Oper) (o:Oper) (m:Nat) (T:Nat→TV) (H:Nat→OB):List Nat→TV→List (Nat×OB)→List Nat→Prop
 |op (hg:o.guard=none) (hc:isCall o.op=none) (hf:isField o.op=false) (hd:dOk N o.dst=true) (hok:(aop P o.op (opd T) H m).ok):
  Stp P N ops o m T H (rdE (aop P o.op (opd T) H m)) (aop P o.op (opd T) H m).v (aop P o.op (opd T) H m).hu (wrE (ctOp o.op (opd T) m) (aop P o.op (opd T) H m).hu)
 |call {f:Operand} {xs:List Operand} {fid:FuncId} {cap:List TV} {r:RV} (hg:o.guard=none) (hc:isCall o.op=some (f,xs)) (hf:fnOf (opd T f)=some (fid,cap)) (hd:dOk N o.dst=true)
  (hb:(borA H (xs.map (opd T)++cap)).1) (hcon:ACalls P fid (borA H (xs.map (opd T)++cap)).2.2 (fun r'=>r'=r)) (hcl:(borA H (xs.map (opd T)++cap)).2.1=true→clAll r.cells) (hl:r.cells.length≤62):
  Stp P N ops o m T H (dbl (mlA (xs.map (opd T)++cap))) (instR (borA H (xs.map (opd T)++cap)).2.1 (m+1) r) (objs (m+1) r.cells) (dbl (keys (objs (m+1) r.cells)))
 |take {f:Operand} {xs:List Operand} {fid:FuncId} {cap:List TV} {k0:Nat} {p:Path} {vs:List Nat} {l:List TV} {x:AV} (hg:o.guard=none) (hc:isCall o.op=some (f,xs)) (hf:fnOf (opd T f)=some (fid,cap)) (hd:dOk N o.dst=true)
  (hL:.one (.own k0 p vs)::l=xs.map (opd T)++cap) (hb:(borA H (.one (.own k0 p vs)::l)).1) (hcon:ATake P fid ((H k0).a.at p) (borA H l).2.2 x) (hbw:(borA H l).2.1=false) (hne:Nat.beq k0 m=false):
  Stp P N ops o m T H (dbl (mlA (xs.map (opd T)++cap))) (.one (.own m [] [0])) [(m,⟨x,[]⟩),(k0,(H k0).cut p)] (wrE (ctOf k0 m p) [(m,⟨x,[]⟩),(k0,(H k0).cut p)])
 |gop {g:Nat} {want gc:Bool} {t:TV} {v:TV} {rd:List Nat} (hg:o.guard=some (g,want)) (hc:isCall o.op=none) (ht:(gdst ops g).map T=some t) (hgc:gcond want t=some gc) (hs:simpleOp o.op=true) (hd:dOk N o.dst=true)
  (hok:gc=true→cok (opd T) (coks o.op)∧(aop P o.op (gro o.op (opd T)) H m).ok∧(aop P o.op (gro o.op (opd T)) H m).v=v∧rdE (aop P o.op (gro o.op (opd T)) H m)=rd)
  (hmn:∀k,v.mn k→k=m∨∃x∈o.op.operands.toList,(gro o.op (opd T) x).mn k):Stp P N ops o m T H rd (cndOf gc v) [] []
 |gcall {g:Nat} {want gc:Bool} {t:TV} {f:Operand} {xs:List Operand} {fid:FuncId} {cap:List TV} {b:AT} {rd:List Nat} (hg:o.guard=some (g,want)) (hc:isCall o.op=some (f,xs)) (ht:(gdst ops g).map T=some t) (hgc:gcond want t=some gc)
  (hf:fnOf (opd T f)=some (fid,cap)) (hd:dOk N o.dst=true) (hp:gc=true→gPl (borA H (xs.map (fun x=>unc (opd T x))++cap)).2.1 b=true) (hl:b.cells.length≤62)
  (hok:gc=true→cok (opd T) xs∧(borA H (xs.map (fun x=>unc (opd T x))++cap)).1∧ACalls P fid (borA H (xs.map (fun x=>unc (opd T x))++cap)).2.2 (fun r=>r=.val b)∧dbl (mlA (xs.map (fun x=>unc (opd T x))++cap))=rd):Stp P N ops o m T H rd (.cnd gc b.cv) [] []
section
variable {P:Program} {N:Nat} {ops:Array Oper} {o:Oper} {m:Nat} {T T':Nat→TV} {H H':Nat→OB} {rd wr:List Nat} {v:TV} {hu:List (Nat×OB)}
theorem call_operands {f:Operand} {xs:List Operand} (h:isCall o.op=some (f,xs)):f∈o.op.operands.toList∧∀x∈xs,x∈o.op.operands.toList:=by
 obtain⟨c,e1,e2,e3⟩:=isCall_spec h
 rw[e1]
 simp only[Op.operands,Call.operands,e2]
 refine⟨by simp,fun x hx=>?_⟩
 rw[←e3] at hx
 simp at hx ⊢
 exact .inr hx
theorem dbl_mem:∀{l:List Nat} {k:Nat},k∈l→2*k∈dbl l∧2*k+1∈dbl l
 |x::r,k,h=>by
  rcases List.mem_cons.1 h with rfl|h
  ·simp[dbl]
  ·obtain⟨h1,h2⟩:=dbl_mem h
   exact⟨by simp[dbl,h1],by simp[dbl,h2]⟩
theorem sgl_mem:∀{l:List Nat} {k:Nat},k∈l→2*k∈sgl l
 |x::r,k,h=>by
  rcases List.mem_cons.1 h with rfl|h
  ·simp[sgl]
  ·simp[sgl,sgl_mem h]
theorem memN_mem:∀{l:List Nat} {k:Nat},memN k l=true→k∈l
 |x::r,k,h=>by
  simp only[memN,Bool.or_eq_true,Nat.beq_eq] at h
  rcases h with rfl|h
  ·simp
  ·simp[memN_mem h]
theorem wrE_mem {ct:List Nat}:∀{hu:List (Nat×OB)} {k:Nat},k∈keys hu→2*k+1∈wrE ct hu∧(2*k∈wrE ct hu∨k∈ct)
 |(x,o)::r,k,h=>by
  simp only[keys,List.mem_cons] at h
  cases e:memN x ct with
  |true=>
   simp only[wrE,e,cond_true]
   rcases h with rfl|h
   ·exact⟨by simp,.inr (memN_mem e)⟩
   ·obtain⟨h1,h2⟩:=wrE_mem (ct:=ct) h
    exact⟨by simp[h1],h2.imp (fun h=>by simp[h]) id⟩
  |false=>
   simp only[wrE,e,cond_false]
   rcases h with rfl|h
   ·exact⟨by simp,.inl (by simp)⟩
   ·obtain⟨h1,h2⟩:=wrE_mem (ct:=ct) h
    exact⟨by simp[h1],h2.imp (fun h=>by simp[h]) id⟩
theorem Stp.wrt (h:Stp P N ops o m T H rd v hu wr):∀k∈keys hu,2*k+1∈wr∧(2*k∈wr∨Surf (H k) (lk (H k) hu k)):=by
 intro k hk
 cases h with
 |op hg hc hf hd hok=>
  obtain⟨h1,h2⟩:=wrE_mem (ct:=ctOp o.op (opd T) m) hk
  exact⟨h1,h2.imp id (fun h=>aop_ct hok k h)⟩
 |call _ _ _ _ _ _ _ _=>exact⟨(dbl_mem hk).2,.inl (dbl_mem hk).1⟩
 |take hg hc hf hd hL hb hcon hbw hne=>
  rename_i f xs fid cap k0 p vs l x
  obtain⟨h1,h2⟩:=wrE_mem (ct:=ctOf k0 m p) hk
  refine⟨h1,h2.imp id (fun h=>?_)⟩
  obtain⟨rfl,hp,hn⟩:=ctOf_mem h
  simp only[lk,if_neg (Ne.symm hn),if_true]
  exact surf_cut hb.1.1 hp
 |gop _ _ _ _ _ _ _ _=>cases hk
 |gcall _ _ _ _ _ _ _ _ _=>cases hk
theorem Stp.frame (h:Stp P N ops o m T H rd v hu wr) (hT:∀s∈o.looksAt ops,T' s=T s) (hD:∀k,2*k+1∈rd→H' k=H k) (hS:∀k,2*k∈rd→Surf (H k) (H' k)):Stp P N ops o m T' H' rd v hu wr:=by
 have ho:∀x∈o.op.operands.toList,opd T' x=opd T x:=by
  intro x hx
  cases x with
  |tmp s=>exact hT s (List.mem_append_left _ (List.mem_filterMap.2 ⟨.tmp s,hx,rfl⟩))
  |_=>rfl
 have hgd:∀g want,o.guard=some (g,want)→(gdst ops g).map T'=(gdst ops g).map T:=by
  intro g want hg
  unfold gdst
  cases hd:(ops[g]?).bind (·.dst) with
  |none=>rfl
  |some d=>simp only[Option.map_some];rw[hT d (List.mem_append_right _ (by rw[hg];simp[hd]))]
 cases h with
 |op hg hc hf hd hok=>
  have e:=aop_frame (H':=H') ho hok (fun k hk=>hD k (List.mem_append_left _ (dbl_mem hk).2)) (fun k hk=>hS k (List.mem_append_right _ (sgl_mem hk)))
  have e2:ctOp o.op (opd T') m=ctOp o.op (opd T) m:=ctOp_congr ho
  rw[←e] at hok ⊢
  rw[←e2]
  exact .op hg hc hf hd hok
 |call hg hc hf hd hb hcon hcl hl=>
  rename_i f xs fid cap r
  obtain⟨q1,q2⟩:=call_operands hc
  have e1:xs.map (opd T')=xs.map (opd T):=List.map_congr_left (fun x hx=>ho x (q2 x hx))
  have e2:=borA_frame (H':=H') (H:=H) (l:=xs.map (opd T)++cap) (fun k hk=>hD k (dbl_mem hk).2)
  rw[←e2] at hb hcon hcl ⊢
  rw[←e1] at hb hcon hcl ⊢
  exact .call hg hc (by rw[ho f q1];exact hf) hd hb hcon hcl hl
 |take hg hc hf hd hL hb hcon hbw hne=>
  rename_i f xs fid cap k0 p vs l x
  obtain⟨q1,q2⟩:=call_operands hc
  have e1:xs.map (opd T')=xs.map (opd T):=List.map_congr_left (fun x hx=>ho x (q2 x hx))
  have hall:∀k∈mlA (.one (.own k0 p vs)::l),H' k=H k:=fun k hk=>hD k (by rw[hL] at hk;exact(dbl_mem hk).2)
  have e2:=borA_frame (H':=H') (H:=H) (l:=.one (.own k0 p vs)::l) hall
  have e3:=borA_frame (H':=H') (H:=H) (l:=l) (fun k hk=>hall k (by simp only[mlA];exact List.mem_append_right _ hk))
  have e4:H' k0=H k0:=hall k0 (by simp[mlA,TV.ml,SV.ml,SV.ml0])
  rw[←e4] at hcon ⊢
  rw[←e2] at hb
  rw[←e3] at hcon hbw
  rw[←e1] at hL ⊢
  exact .take hg hc (by rw[ho f q1];exact hf) hd hL hb hcon hbw hne
 |gop hg hc ht hgc hs hd hok hmn=>
  refine .gop hg hc (by rw[hgd _ _ hg];exact ht) hgc hs hd (fun e=>?_) (fun k hk=>?_)
  ·obtain⟨h1,h2,h3,h4⟩:=hok e
   have e:=aop_frame (H':=H') (ρ':=gro o.op (opd T')) (fun x hx=>gro_congr (ho x hx)) h2 (fun k hk=>hD k (by rw[←h4];exact List.mem_append_left _ (dbl_mem hk).2)) (fun k hk=>hS k (by rw[←h4];exact List.mem_append_right _ (sgl_mem hk)))
   rw[e]
   refine⟨?_,h2,h3,h4⟩
   have:∀(l:List Operand),(∀x∈l,opd T' x=opd T x)→cok (opd T) l→cok (opd T') l:=by
    intro l
    induction l with
    |nil=>intro _ _;trivial
    |cons x r ih=>intro h1 h2;exact⟨by rw[h1 x (by simp)];exact h2.1,ih (fun y hy=>h1 y (by simp[hy])) h2.2⟩
   exact this _ (fun x hx=>ho x (coks_sub hx)) h1
  ·rcases hmn k hk with h|⟨x,hx,h⟩
   ·exact .inl h
   ·exact .inr ⟨x,hx,by rw[gro_congr (ho x hx)];exact h⟩
 |gcall hg hc ht hgc hf hd hp hl hok=>
  rename_i g want gc t f xs fid cap b
  obtain⟨q1,q2⟩:=call_operands hc
  refine .gcall hg hc (by rw[hgd _ _ hg];exact ht) hgc (by rw[ho _ q1];exact hf) hd (fun e=>by
   obtain⟨h1,h2,h3,h4⟩:=hok e
   have e1:xs.map (fun x=>unc (opd T' x))=xs.map (fun x=>unc (opd T x)):=List.map_congr_left (fun x hx=>by simp only[ho x (q2 x hx)])
   have e2:=borA_frame (H':=H') (H:=H) (l:=xs.map (fun x=>unc (opd T x))++cap) (fun k hk=>hD k (by rw[←h4];exact(dbl_mem hk).2))
   rw[e1,e2]
   exact hp e) hl (fun e=>?_)
  obtain⟨h1,h2,h3,h4⟩:=hok e
  have e1:xs.map (fun x=>unc (opd T' x))=xs.map (fun x=>unc (opd T x)):=List.map_congr_left (fun x hx=>by simp only[ho x (q2 x hx)])
  have e2:=borA_frame (H':=H') (H:=H) (l:=xs.map (fun x=>unc (opd T x))++cap) (fun k hk=>hD k (by rw[←h4];exact(dbl_mem hk).2))
  rw[e1,e2]
  refine⟨?_,h2,h3,h4⟩
  have:∀(l:List Operand),(∀x∈l,opd T' x=opd T x)→cok (opd T) l→cok (opd T') l:=by
   intro l
   induction l with
   |nil=>intro _ _;trivial
   |cons x r ih=>intro h1 h2;exact⟨by rw[h1 x (by simp)];exact h2.1,ih (fun y hy=>h1 y (by simp[hy])) h2.2⟩
  exact this _ (fun x hx=>ho x (q2 x hx)) h1
end
section
variable {N:Nat} {w0:World} {E A:Nat→Prop} {F:Frm} {T:Nat→TV} {H:Nat→OB} {a:Act} {w:World} {own:Own} {rt:Rt} {P:Program} {o:Oper} {m:Nat} {ops:Array Oper} {rd wr:List Nat} {v:TV} {hu:List (Nat×OB)} {Q:Exit→Act→World→Prop}
theorem SRf.grow (h:SRf N w0 E F A T H a w own rt) (n:Nat):SRf N w0 E F (fun k=>A k∨k=n) T H a w own rt:=
 ⟨h.toWRf.more n,h.defers,h.size,h.tmp,fun s k hk=>.inl (h.men s k hk),fun k v e=>⟨.inl (h.frz k v e).1,(h.frz k v e).2⟩⟩
theorem Stp.sound {j:Nat} {K:Act→World→Prop} (hs:SRf N w0 E F A T H a w own rt) (hA:∀k,m≤k→k≤m+63→¬A k) (hj:ops[j]?=some o) (h:Stp P N ops o m T H rd v hu wr)
 (next:∀A' a' w' own' rt',SRf N w0 E F A' (updT T o.dst v) (updH H hu) a' w' own' rt'→(∀k,A' k→A k∨(m≤k∧k≤m+63))→K a' w'):wpOp P ops Q j K a w:=by
 unfold wpOp
 rw[hj]
 dsimp only
 cases h with
 |op hg hc hf hd hok=>
  obtain⟨v,w',own',rt',hrun,hs'⟩:=did_op hs (dOk_lt hd) (hA _ (Nat.le_refl _) (by omega)) (isField_ne hf) hok
  have hw:Region.wanted o (yielded ops a.tmps)=true:=by unfold Region.wanted;rw[hg]
  rw[hw,if_pos rfl]
  left
  have hn:=next _ _ _ _ _ hs' (fun k hk=>by
   rcases hk with e|e
   ·exact .inl e
   ·exact .inr (by omega))
  unfold Oper.wp
  rcases hrun with hrun|⟨hrun,rfl⟩
  ·rw[hrun,Oper.upon_value];exact hn
  ·rw[hrun,Oper.upon_skip];exact hn
 |call hg hc hf hd hb hcon hcl hl=>
  have hw:Region.wanted o (yielded ops a.tmps)=true:=by unfold Region.wanted;rw[hg]
  rw[hw,if_pos rfl]
  left
  refine call_made hs hc hf rfl hb hcon (fun own0 w' v rv h0 hr hgv=>?_)
  subst hr
  obtain⟨A',own'',rt'',q1,q2⟩:=ret_sound hs (fun k h1 h2=>hA k h1 (by omega)) h0 hgv hcl (dOk_lt hd)
  refine next _ _ _ _ _ q1 (fun k hk=>?_)
  rcases q2 k hk with e|e
  ·exact .inl e
  ·exact .inr (by omega)
 |take hg hc hf hd hL hb hcon hbw hne=>
  have hw:Region.wanted o (yielded ops a.tmps)=true:=by unfold Region.wanted;rw[hg]
  rw[hw,if_pos rfl]
  left
  refine call_madeT hs hc hf (dOk_lt hd) hL hb hcon hbw (hA _ (Nat.le_refl _) (by omega)) (fun A' own' rt' w' v h1 h2=>next _ _ _ _ _ h1 (fun k hk=>?_))
  rcases h2 k hk with e|e
  ·exact .inl e
  ·exact .inr (by omega)
 |gop hg hc ht hgc hsm hd hok hmn=>
  rename_i g want gc t v
  cases hgd:gdst ops g with
  |none=>rw[hgd] at ht;cases ht
  |some d=>
   rw[hgd] at ht
   simp only[Option.map_some,Option.some.injEq] at ht
   have hw:=gcond_sound (o:=o) hgd (by rw[←ht];exact hs.tmp d) hgc hg
   rw[hw]
   have h2:=hs.grow m
   have hm:∀k,(cndOf gc v).mn k→A k∨k=m:=fun k hk=>by
    have:v.mn k:=by
     exact cndOf_mn hk
    rcases hmn k this with e|⟨x,_,hx⟩
    ·exact .inr e
    ·exact .inl (opd_men hs x k (gro_mn hx))
   have fin:∀u,RelT w own rt H (cndOf gc v) u→K (a.put o.dst u) w:=fun u hu=>
    next _ _ _ _ _ (h2.put (dOk_lt hd) hu hm) (fun k hk=>by
     rcases hk with e|e
     ·exact .inl e
     ·exact .inr (by omega))
   cases gc with
   |true=>
    rw[if_pos rfl]
    left
    obtain⟨hc,hok,hv,hr⟩:=hok rfl
    obtain⟨u,h3,h4,_⟩:=guard_pure hs hsm hc hok
    unfold Oper.wp
    rw[h3,Oper.upon_value]
    refine fin u ?_
    rw[hv] at h4
    exact cndOf_true h4
   |false=>
    rw[if_neg (by simp)]
    exact fin undef cndOf_false
 |gcall hg hcl ht hgc hf hd hp hl hok=>
  rename_i g want gc t f xs fid cap b
  cases hgd:gdst ops g with
  |none=>rw[hgd] at ht;cases ht
  |some d=>
   rw[hgd] at ht
   simp only[Option.map_some,Option.some.injEq] at ht
   have hw:=gcond_sound (o:=o) hgd (by rw[←ht];exact hs.tmp d) hgc hg
   rw[hw]
   cases gc with
   |true=>
    rw[if_pos rfl]
    left
    obtain⟨hc,hb,hcon,_⟩:=hok rfl
    have hL:xs.map (fun x=>unc (opd T x))++cap=xs.map (opd (uncT T))++cap:=by
     congr 1
     exact List.map_congr_left (fun x hx=>(opd_unc (cok_mem hc x hx)).symm)
    have hf':fnOf (opd (uncT T) f)=some (fid,cap):=by
     have:cok1 (opd T f):=by
      cases hh:opd T f with
      |cnd b s=>rw[hh] at hf;simp[fnOf] at hf
      |_=>trivial
     rw[opd_unc this]
     cases hh:opd T f with
     |cnd b s=>rw[hh] at hf;simp[fnOf] at hf
     |_=>rw[hh] at hf;exact hf
    refine call_made hs.unc hcl hf' hL hb hcon (fun own0 w' v rv h0 hr hgv=>?_)
    subst hr
    have e0:(RV.val b).cells.length=b.cells.length:=rfl
    obtain⟨A',own'',rt'',q1,q2⟩:=ret_cnd hs (fun k h1 h2=>hA k h1 (by omega)) h0 hgv (hp rfl) (d:=o.dst) (dOk_lt hd)
    refine next _ _ _ _ _ q1 (fun k hk=>?_)
    rcases q2 k hk with e|e
    ·exact .inl e
    ·exact .inr (by omega)
   |false=>
    rw[if_neg (by simp)]
    have hrel:RelT w own rt H (.cnd false b.cv) undef:=⟨(fun e=>by cases e),fun _=>rfl⟩
    exact next _ _ _ _ _ (hs.put (dOk_lt hd) hrel (fun k hk=>(cv_mn hk).elim)) (fun k hk=>.inl hk)
end
def textK (P:Program) (N:Nat) (ops:Array Oper) (b:Nat) (Kf:(Nat→TV)→(Nat→OB)→Prop):List (Nat×Oper)→List Ent→(Nat→TV)→(Nat→OB)→Prop
 |[],log,T,H=>List.Pairwise (fun x y=>apartE ops.toList x y=true) log∧Kf T H
 |(j,o)::r,log,T,H=>∃rd v hu wr,Stp P N ops o (b+64*j) T H rd v hu wr∧textK P N ops b Kf r (log++[⟨j,rd,wr⟩]) (updT T o.dst v) (updH H hu)
section
variable {P:Program} {N:Nat} {ops:Array Oper} {b:Nat} {Kf:(Nat→TV)→(Nat→OB)→Prop}
theorem textK_sub:∀{l:List (Nat×Oper)} {log log':List Ent} {T:Nat→TV} {H:Nat→OB},log'.Sublist log→textK P N ops b Kf l log T H→textK P N ops b Kf l log' T H
 |[],log,log',T,H,hs,h=>⟨h.1.sublist hs,h.2⟩
 |(j,o)::r,log,log',T,H,hs,h=>by
  obtain⟨rd,v,hu,wr,h1,h2⟩:=h
  exact⟨rd,v,hu,wr,h1,textK_sub (hs.append (List.Sublist.refl _)) h2⟩
theorem textK_log:∀{l:List (Nat×Oper)} {log:List Ent} {T:Nat→TV} {H:Nat→OB},textK P N ops b Kf l log T H→List.Pairwise (fun x y=>apartE ops.toList x y=true) log
 |[],log,T,H,h=>h.1
 |(j,o)::r,log,T,H,h=>by
  obtain⟨rd,v,hu,wr,h1,h2⟩:=h
  exact(textK_log h2).sublist (List.sublist_append_left _ _)
theorem keys_lk:∀{hu:List (Nat×OB)} {k:Nat} {d:OB},k∉keys hu→lk d hu k=d
 |[],k,d,_=>rfl
 |(x,o)::r,k,d,h=>by
  simp only[keys,List.mem_cons,not_or] at h
  simp only[lk,if_neg (Ne.symm h.1)]
  exact keys_lk h.2
theorem disj_mem {x y:List Nat} (h:disj x y=true) {k:Nat} (hx:k∈x) (hy:k∈y):False:=by
 simp only[disj,List.all_eq_true] at h
 have:=h k hx k hy
 simp at this
theorem updT_ne {T:Nat→TV} {d:Option Tmp} {v:TV} {s:Nat} (h:d≠some s):updT T d v s=T s:=by
 cases d with
 |none=>rfl
 |some x=>
  have:x≠s:=fun e=>h (by rw[e])
  simp only[updT]
  first
   |rw[if_neg this]
   |rw[if_neg (Ne.symm this)]
   |(simp[this];done)
theorem updT_comm {T:Nat→TV} {d e:Option Tmp} {v u:TV} (h:∀x,d=some x→e≠some x):updT (updT T d v) e u=updT (updT T e u) d v:=by
 funext s
 by_cases hd:d=some s
 ·have he:e≠some s:=h s hd
  rw[updT_ne he,hd]
  cases e with
  |none=>rfl
  |some x=>simp[updT]
 ·rw[updT_ne (T:=updT T e u) hd]
  by_cases he:e=some s
  ·rw[he];simp[updT]
  ·rw[updT_ne he,updT_ne he,updT_ne hd]
theorem updH_comm {H:Nat→OB} {x y:List (Nat×OB)} (h:disj (keys x) (keys y)=true):updH (updH H x) y=updH (updH H y) x:=by
 funext k
 simp only[updH]
 by_cases hx:k∈keys x
 ·have hy:k∉keys y:=fun hy=>disj_mem h hx hy
  rw[keys_lk hy,keys_lk (d:=H k) hy]
 ·rw[keys_lk (d:=H k) hx]
  rw[keys_lk hx]
theorem textK_move {j:Nat} {o:Oper} {post:List (Nat×Oper)}:∀{pre:List (Nat×Oper)} {log:List Ent} {T:Nat→TV} {H:Nat→OB},(∀x∈pre,waitsT ops.toList 8 j x.1=false∧x.2.apart ops o=true)→
 textK P N ops b Kf (pre++(j,o)::post) log T H→
 ∃rd v hu wr,Stp P N ops o (b+64*j) T H rd v hu wr∧textK P N ops b Kf (pre++post) log (updT T o.dst v) (updH H hu)∧List.Pairwise (fun x y=>apartE ops.toList x y=true) (log++[⟨j,rd,wr⟩]):=by
 intro pre
 induction pre with
 |nil=>
  intro log T H _ h
  obtain⟨rd,v,hu,wr,h1,h2⟩:=h
  exact⟨rd,v,hu,wr,h1,textK_sub (List.sublist_append_left _ _) h2,textK_log h2⟩
 |cons x pre ih=>
  obtain⟨i,oi⟩:=x
  intro log T H hp h
  obtain⟨rdi,vi,hui,wri,h1,h2⟩:=h
  obtain⟨rd,v,hu,wr,g1,g2,g3⟩:=ih (fun x hx=>hp x (by simp[hx])) h2
  obtain⟨w1,w2⟩:=hp (i,oi) (by simp)
  have hap:apartE ops.toList ⟨i,rdi,wri⟩ ⟨j,rd,wr⟩=true:=by
   have:=List.pairwise_append.1 g3
   exact this.2.2 _ (by simp) _ (by simp)
  simp only[apartE,w1,Bool.false_or,Bool.and_eq_true] at hap
  obtain⟨⟨d1,d2⟩,d3⟩:=hap
  obtain⟨a1,a2,a3⟩:=Oper.apart_spec w2
  have s1:Stp P N ops o (b+64*j) T H rd v hu wr:=g1.frame (fun s hs=>(updT_ne (fun e=>a1 s e hs)).symm) (fun k hk=>by
   simp only[updH];exact(keys_lk (fun e=>disj_mem d1 (h1.wrt k e).1 hk)).symm) (fun k hk=>by
   simp only[updH]
   by_cases e:k∈keys hui
   ·exact((h1.wrt k e).2.resolve_left (fun e2=>disj_mem d1 e2 hk)).symm
   ·rw[keys_lk e];exact .refl _)
  have s2:Stp P N ops oi (b+64*i) (updT T o.dst v) (updH H hu) rdi vi hui wri:=h1.frame (fun s hs=>updT_ne (fun e=>a3 s e hs)) (fun k hk=>by
   simp only[updH];exact keys_lk (fun e=>disj_mem d3 hk (s1.wrt k e).1)) (fun k hk=>by
   simp only[updH]
   by_cases e:k∈keys hu
   ·exact(s1.wrt k e).2.resolve_left (fun e2=>disj_mem d3 hk e2)
   ·rw[keys_lk e];exact .refl _)
  refine⟨rd,v,hu,wr,s1,⟨rdi,vi,hui,wri,s2,?_⟩,g3.sublist ?_⟩
  ·rw[updT_comm (d:=o.dst) (e:=oi.dst) (fun x hx e=>a2 x e hx),updH_comm (x:=hu) (y:=hui) (by
    simp only[disj,List.all_eq_true]
    intro x hx y hy
    cases e:Nat.beq x y with
    |false=>rfl
    |true=>
     rw[Nat.eq_of_beq_eq_true e] at hx
     exact(disj_mem d2 (h1.wrt y hy).1 (s1.wrt y hx).1).elim)]
   exact g2
  ·rw[List.append_assoc]
   exact List.Sublist.append_left (List.sublist_append_right _ _) _
def unl (listed:Array Bool) (x:Nat×Oper):Bool:= !listed.getD x.1 true
theorem zipN_spec:∀{l:List Oper} {n:Nat} {x:Nat×Oper},x∈zipN n l↔n≤x.1∧l[x.1 - n]?=some x.2
 |[],n,x=>by simp[zipN]
 |o::r,n,x=>by
  obtain⟨j,y⟩:=x
  simp only[zipN,List.mem_cons,Prod.mk.injEq]
  rw[zipN_spec]
  dsimp only
  constructor
  ·rintro(⟨rfl,rfl⟩|⟨h1,h2⟩)
   ·simp
   ·refine⟨by omega,?_⟩
    rw[show j - n=(j - (n+1))+1 by omega]
    simpa using h2
  ·rintro⟨h1,h2⟩
   by_cases e:j=n
   ·subst e
    left
    simp at h2
    exact⟨rfl,h2.symm⟩
   ·right
    refine⟨by omega,?_⟩
    rw[show j - n=(j - (n+1))+1 by omega] at h2
    simpa using h2
theorem unl_split {listed:Array Bool} {j:Nat} {o:Oper} (hlt:j<listed.size) (hj:listed.getD j true=false):∀{l:List Oper} {n:Nat},(j,o)∈zipN n l→
 ∃pre post,(zipN n l).filter (unl listed)=pre++(j,o)::post∧(zipN n l).filter (unl (listed.setIfInBounds j true))=pre++post∧∀x∈pre,x.1<j∧x∈zipN n l∧listed.getD x.1 true=false
 |[],n,h=>by cases h
 |y::r,n,h=>by
  have hset:∀i,i≠j→(listed.setIfInBounds j true).getD i true=listed.getD i true:=fun i hi=>by
   simp[Array.getElem?_setIfInBounds_ne (Ne.symm hi)]
  by_cases e:n=j
  ·subst e
   have ho:o=y:=by
    simp only[zipN,List.mem_cons,Prod.mk.injEq] at h
    rcases h with ⟨_,h⟩|h
    ·exact h
    ·have:=(zipN_spec.1 h).1;simp at this;omega
   subst ho
   refine⟨[],(zipN (n+1) r).filter (unl listed),?_,?_,fun x hx=>by cases hx⟩
   ·simp only[zipN]
    rw[List.filter_cons_of_pos (by simp only[unl,hj,Bool.not_false])]
    rfl
   ·simp only[zipN]
    rw[List.filter_cons_of_neg (by simp[unl,hlt])]
    refine List.filter_congr (fun x hx=>?_)
    have:=(zipN_spec.1 hx).1
    simp only[unl]
    rw[hset x.1 (by omega)]
  ·have h':(j,o)∈zipN (n+1) r:=by
    simp only[zipN,List.mem_cons,Prod.mk.injEq] at h
    rcases h with ⟨h,_⟩|h
    ·exact absurd h.symm e
    ·exact h
   obtain⟨pre,post,h1,h2,h3⟩:=unl_split hlt hj h'
   have hnj:n<j:=by have:=(zipN_spec.1 h').1;simp at this;omega
   by_cases hu:unl listed (n,y)=true
   ·refine⟨(n,y)::pre,post,?_,?_,?_⟩
    ·simp only[zipN];rw[List.filter_cons_of_pos hu,h1];rfl
    ·simp only[zipN]
     have hu':unl (listed.setIfInBounds j true) (n,y)=true:=by
      simp only[unl] at hu ⊢;rw[hset n (by omega)];exact hu
     rw[List.filter_cons_of_pos hu',h2];rfl
    ·intro x hx
     rcases List.mem_cons.1 hx with rfl|hx
     ·refine⟨hnj,by simp[zipN],by simpa [unl] using hu⟩
     ·obtain⟨q1,q2,q3⟩:=h3 x hx
      exact⟨q1,by simp[zipN,q2],q3⟩
   ·refine⟨pre,post,?_,?_,?_⟩
    ·simp only[zipN];rw[List.filter_cons_of_neg hu,h1]
    ·simp only[zipN]
     have hu':¬unl (listed.setIfInBounds j true) (n,y)=true:=by
      simp only[unl] at hu ⊢;rw[hset n (by omega)];exact hu
     rw[List.filter_cons_of_neg hu',h2]
    ·intro x hx
     obtain⟨q1,q2,q3⟩:=h3 x hx
     exact⟨q1,by simp[zipN,q2],q3⟩
theorem pairsB_get {all:List Oper}:∀{l:List (Nat×Oper)} {n:Nat} {r:List Oper},l=zipN n r→pairsB ops all l=true→∀x∈l,∀y∈l,x.1<y.1→opB ops all x y=true:=by
 intro l
 induction l with
 |nil=>intro n r _ _ x hx;cases hx
 |cons z l ih=>
  intro n r hr h x hx y hy hxy
  cases r with
  |nil=>simp[zipN] at hr
  |cons o r=>
   simp only[zipN,List.cons.injEq] at hr
   obtain⟨rfl,hr⟩:=hr
   simp only[pairsB,Bool.and_eq_true,List.all_eq_true] at h
   rcases List.mem_cons.1 hx with rfl|hx
   ·rcases List.mem_cons.1 hy with rfl|hy
    ·omega
    ·exact h.1 y hy
   ·rcases List.mem_cons.1 hy with rfl|hy
    ·rw[hr] at hx
     have:=(zipN_spec.1 hx).1
     simp at hxy;omega
    ·exact ih hr h.2 x hx y hy hxy
theorem edgesB_get:∀{l:List (Nat×Oper)},edgesB l=true→∀x∈l,∀e∈x.2.after,Region.binds .any e=true→e.on<x.1
 |[],_,x,hx=>by cases hx
 |(j,o)::r,h,x,hx=>by
  simp only[edgesB,Bool.and_eq_true,List.all_eq_true] at h
  rcases List.mem_cons.1 hx with rfl|hx
  ·intro e he hb
   have:=h.1.1 e (by simpa using he)
   simp only[hb,Bool.not_true,Bool.false_or] at this
   exact Nat.le_of_ble_eq_true this
  ·exact edgesB_get h.2 x hx
end
section
variable {N:Nat} {w0:World} {E:Nat→Prop} {F:Frm} {P:Program} {ops:Array Oper} {b:Nat} {Kf:(Nat→TV)→(Nat→OB)→Prop} {Q:Exit→Act→World→Prop}
theorem getD_set {l:Array Bool} {j:Nat} (h:j<l.size) (k:Nat):(l.setIfInBounds j true).getD k false=if k=j then true else l.getD k false:=by
 rw[Array.getD_eq_getD_getElem?,Array.getD_eq_getD_getElem?,Array.getElem?_setIfInBounds]
 by_cases e:j=k
 ·subst e;simp[h]
 ·rw[if_neg e,if_neg (fun h=>e h.symm)]
theorem waitsT_listed {listed:Array Bool} (hcl:∀k i,listed.getD k false=true→waits ops.toList k i=true→listed.getD i false=true):∀(f j i:Nat),(∀i,waits ops.toList j i=true→listed.getD i false=true)→waitsT ops.toList f j i=true→listed.getD i false=true
 |0,_,_,_,h=>by cases h
 |f+1,j,i,hj,h=>by
  simp only[waitsT] at h
  split at h
  ·rename_i o ho
   simp only[List.any_eq_true,Bool.and_eq_true,Bool.or_eq_true,Nat.beq_eq] at h
   obtain⟨e,he,hb,hon⟩:=h
   have hl:listed.getD e.on false=true:=hj e.on (by
    unfold waits
    rw[ho]
    simp only[List.any_eq_true,Bool.and_eq_true]
    exact⟨e,he,hb,by simp⟩)
   rcases hon with rfl|hon
   ·exact hl
   ·exact waitsT_listed hcl f e.on i (fun i' h'=>hcl e.on i' hl h') hon
  ·cases h
theorem any_sound (hdr:drawB ops=true) (hQ:∀A T H a w own rt,Kf T H→SRf N w0 E F A T H a w own rt→(∀k,b+64*ops.size≤k→¬A k)→Q .normal a w):
 ∀(fuel:Nat) (listed:Array Bool) (A:Nat→Prop) (T:Nat→TV) (H:Nat→OB) (a:Act) (w:World) (own:Own) (rt:Rt),listed.size=ops.size→(∀k i,listed.getD k false=true→waits ops.toList k i=true→listed.getD i false=true)→
  ((zipN 0 ops.toList).filter (unl listed)).length≤fuel→textK P N ops b Kf ((zipN 0 ops.toList).filter (unl listed)) [] T H→SRf N w0 E F A T H a w own rt→
  (∀x∈(zipN 0 ops.toList).filter (unl listed),∀k,b+64*x.1≤k→k≤b+64*x.1+63→¬A k)→(∀k,b+64*ops.size≤k→¬A k)→wpAny P .any ops Q fuel listed a w:=by
 simp only[drawB,Bool.and_eq_true] at hdr
 obtain⟨hpairs,hedges⟩:=hdr
 have hready:∀(listed:Array Bool) (j:Nat),listed.size=ops.size→j∈Region.ready .any ops listed→j<listed.size∧listed.getD j true=false∧∃o,ops[j]?=some o∧(j,o)∈zipN 0 ops.toList∧∀i,waits ops.toList j i=true→listed.getD i false=true:=by
  intro listed j hsz hj
  obtain⟨h0,o,ho,hall⟩:=mem_ready.1 hj
  refine⟨by rw[hsz];exact(Array.getElem?_eq_some_iff.1 ho).1,h0,o,ho,zipN_spec.2 ⟨Nat.zero_le _,by simpa using ho⟩,fun i hi=>?_⟩
  unfold waits at hi
  have ho':ops.toList[j]?=some o:=by simpa using ho
  rw[ho'] at hi
  simp only[List.any_eq_true,Bool.and_eq_true] at hi
  obtain⟨e,he,hb,hon⟩:=hi
  have:=hall e (by simpa using he) hb
  rw[Nat.eq_of_beq_eq_true hon] at this
  exact this
 have hrem:∀(listed:Array Bool),listed.size=ops.size→Region.ready .any ops listed=[]→(zipN 0 ops.toList).filter (unl listed)=[]:=by
  intro listed hsz hnil
  cases hl:(zipN 0 ops.toList).filter (unl listed) with
  |nil=>rfl
  |cons x r=>
   exfalso
   have hx:x∈(zipN 0 ops.toList).filter (unl listed):=by rw[hl];simp
   obtain⟨j,o⟩:=x
   obtain⟨hx1,hx2⟩:=List.mem_filter.1 hx
   have hoj:=(zipN_spec.1 hx1).2
   simp only[Nat.sub_zero] at hoj
   have:j∈Region.ready .any ops listed:=by
    refine mem_ready.2 ⟨by simpa [unl] using hx2,o,by simpa using hoj,fun e he hb=>?_⟩
    have hlt:=edgesB_get hedges (j,o) hx1 e he hb
    dsimp only at hlt
    cases hL:listed.getD e.on false with
    |true=>rfl
    |false=>
     exfalso
     have hjs:j<ops.toList.length:=(List.getElem?_eq_some_iff.1 hoj).1
     have hes:e.on<ops.toList.length:=by omega
     have he2:(e.on,ops.toList[e.on])∈(zipN 0 ops.toList).filter (unl listed):=by
      refine List.mem_filter.2 ⟨zipN_spec.2 ⟨Nat.zero_le _,by simp⟩,?_⟩
      have hsz2:e.on<listed.size:=by rw[hsz];simpa using hes
      simp[unl,hsz2] at hL ⊢
      exact hL
     -- the filtered list begins with j,and is increasing
     have hinc:∀(l:List Oper) (n:Nat) (y:Nat×Oper) (rest:List (Nat×Oper)),(zipN n l).filter (unl listed)=y::rest→∀z∈(zipN n l).filter (unl listed),y.1≤z.1:=by
      intro l
      induction l with
      |nil=>intro n y rest h;simp[zipN] at h
      |cons q l ih=>
       intro n y rest h z hz
       simp only[zipN] at h hz
       by_cases hu:unl listed (n,q)=true
       ·rw[List.filter_cons_of_pos hu] at h hz
        cases h
        rcases List.mem_cons.1 hz with rfl|hz
        ·exact Nat.le_refl _
        ·have:=(zipN_spec.1 (List.mem_filter.1 hz).1).1
         dsimp only;omega
       ·rw[List.filter_cons_of_neg hu] at h hz
        exact ih (n+1) y rest h z hz
     have:=hinc _ _ _ _ hl _ he2
     dsimp only at this
     omega
   rw[hnil] at this
   cases this
 intro fuel
 induction fuel with
 |zero=>
  intro listed A T H a w own rt hsz hcl hlen htk hs hfree hfree2
  have hnil:(zipN 0 ops.toList).filter (unl listed)=[]:=List.length_eq_zero_iff.1 (Nat.le_zero.1 hlen)
  rw[hnil] at htk
  refine⟨?_,hQ A T H a w own rt htk.2 hs hfree2⟩
  cases hr:Region.ready .any ops listed with
  |nil=>rfl
  |cons j r=>
   obtain⟨h1,h2,o,h3,h4,_⟩:=hready listed j hsz (by rw[hr];simp)
   have:(j,o)∈(zipN 0 ops.toList).filter (unl listed):=List.mem_filter.2 ⟨h4,by simp only[unl,h2,Bool.not_false]⟩
   rw[hnil] at this
   cases this
 |succ fuel ih=>
  intro listed A T H a w own rt hsz hcl hlen htk hs hfree hfree2
  refine⟨fun hnil=>?_,fun j hj=>?_⟩
  ·have:=hrem listed hsz hnil
   rw[this] at htk
   exact hQ A T H a w own rt htk.2 hs hfree2
  ·obtain⟨h1,h2,o,h3,h4,h5⟩:=hready listed j hsz hj
   obtain⟨pre,post,e1,e2,e3⟩:=unl_split h1 h2 h4
   rw[e1] at htk
   obtain⟨rd,v,hu,wr,g1,g2,_⟩:=textK_move (fun x hx=>by
    obtain⟨q1,q2,q3⟩:=e3 x hx
    have hw:waits ops.toList j x.1=false:=by
     cases hw:waits ops.toList j x.1 with
     |false=>rfl
     |true=>
      have h6:=h5 x.1 hw
      have hlt:x.1<listed.size:=by omega
      simp[hlt] at h6 q3
      rw[h6] at q3
      cases q3
    have hwT:waitsT ops.toList 8 j x.1=false:=by
     cases hwT:waitsT ops.toList 8 j x.1 with
     |false=>rfl
     |true=>
      have h6:=waitsT_listed hcl 8 j x.1 h5 hwT
      have hlt:x.1<listed.size:=by omega
      simp[hlt] at h6 q3
      rw[h6] at q3
      cases q3
    refine⟨hwT,?_⟩
    have:=pairsB_get rfl hpairs x q2 (j,o) h4 q1
    simp only[opB,hw,Bool.false_or] at this
    exact this) htk
   refine g1.sound hs (fun k hk1 hk2=>hfree (j,o) (by rw[e1];simp) k hk1 (by dsimp only;omega)) h3 (fun A' a' w' own' rt' hs' hA'=>?_)
   have hsub:∀x∈pre++post,x∈(zipN 0 ops.toList).filter (unl listed)∧x.1≠j:=by
    intro x hx
    refine⟨by rw[e1];rcases List.mem_append.1 hx with h|h<;>simp[h],fun e=>?_⟩
    rw[←e2] at hx
    have:=(List.mem_filter.1 hx).2
    rw[unl,e] at this
    simp[h1] at this
   refine ih (listed.setIfInBounds j true) A' _ _ a' w' own' rt' (by simpa using hsz) (fun k i hk hw=>by
    rw[getD_set h1] at hk ⊢
    by_cases e:i=j
    ·rw[if_pos e]
    ·rw[if_neg e]
     by_cases ek:k=j
     ·subst ek;exact h5 i hw
     ·rw[if_neg ek] at hk;exact hcl k i hk hw) (by rw[e2];rw[e1] at hlen;simp at hlen ⊢;omega) (by rw[e2];exact g2) hs' (fun x hx k hk1 hk2 hk=>?_) (fun k hk1 hk=>?_)
   ·rw[e2] at hx
    obtain⟨q1,q2⟩:=hsub x hx
    rcases hA' k hk with h|h
    ·exact hfree x q1 k hk1 hk2 h
    ·have:x.1=j:=by omega
     exact q2 this
   ·rcases hA' k hk with h|h
    ·exact hfree2 k hk1 h
    ·have:j<ops.size:=by rw[←hsz];exact h1
     have:64*(j+1)≤64*ops.size:=Nat.mul_le_mul_left _ this
     omega
end
section
variable {P:Program} {N:Nat} {ops:Array Oper} {k:List It→St→Prop} {K:List It}
theorem logB_pairwise {all:List Oper}:∀{l:List Ent},logB all l=true→List.Pairwise (fun x y=>apartE all x y=true) l
 |[],_=>.nil
 |x::r,h=>by
  simp only[logB,Bool.and_eq_true,List.all_eq_true] at h
  exact .cons h.1 (logB_pairwise h.2)
theorem aop_mn2 {op:Op} (hs:simpleOp op=true) (ρ:Operand→TV) (H:Nat→OB) (n k:Nat) (h:(aop P op ρ H n).v.mn k):k=n∨∃x∈op.operands.toList,(ρ x).mn k:=by
 classical
 have e:aop P op ρ H n=aop P op (fun x=>if x∈op.operands.toList then ρ x else .junk) H n:=aop_congr hs (fun x hx=>by rw[if_pos hx])
 rw[e] at h
 rcases aop_mn _ _ _ _ _ h with h|⟨x,hx⟩
 ·exact .inl h
 ·by_cases hm:x∈op.operands.toList
  ·rw[if_pos hm] at hx;exact .inr ⟨x,hm,hx⟩
  ·rw[if_neg hm] at hx;exact hx.elim
theorem drun_text {b e:Nat}:∀{l:List Oper} {i:Nat} {log:List Ent} {σ:St},σ.n=b+64*i→i+l.length=e→drun P N ops k K (zipN i l) log σ→
 textK P N ops b (fun T H=>∃σ',σ'.T=T∧σ'.H=H∧σ'.n=b+64*e∧k K σ') (zipN i l) log σ.T σ.H
 |[],i,log,σ,hn,he,h=>by
  simp only[List.length_nil,Nat.add_zero] at he
  exact⟨logB_pairwise h.1,σ,rfl,rfl,by rw[hn,he],h.2⟩
 |o::r,i,log,σ,hn,he,h=>by
  have he':i+1+r.length=e:=by simp at he;omega
  have hput:∀(v:TV) (hu:List (Nat×OB)),(σ.put o.dst v hu (σ.n+64)).n=b+64*(i+1):=fun v hu=>by
   show σ.n+64=_
   omega
  simp only[zipN,drun] at h
  show textK P N ops b _ ((i,o)::zipN (i+1) r) log σ.T σ.H
  split at h
  ·rename_i hg hc
   obtain⟨h1,h2,h3,h4⟩:=h
   have:=drun_text (hput _ _) he' h4
   rw[put_T,put_H] at this
   rw[hn] at h3 this
   exact⟨_,_,_,_,.op hg hc h1 h2 h3,this⟩
  ·rename_i f xs hg hc
   split at h
   ·rename_i fid cap hf
    obtain⟨h1,h2,h7⟩:=h
    rcases h7 with ⟨r0,h3,h4,h5,h6⟩|ht
    ·have:=drun_text (hput _ _) he' h6
     rw[put_T,put_H] at this
     rw[hn] at this
     exact⟨_,_,_,_,.call hg hc hf h1 h2 h3 h4 (Nat.le_of_ble_eq_true h5),this⟩
    ·obtain⟨r',p,vs,l,hL⟩:∃r p vs l,xs.map σ.ρ++cap=.one (.own r p vs)::l:=by
      generalize hx:xs.map σ.ρ++cap=ts at ht
      unfold CallDT at ht
      split at ht
      ·exact⟨_,_,_,_,rfl⟩
      ·exact ht.elim
     have hL':.one (.own r' p vs)::l=xs.map (opd σ.T)++cap:=hL.symm
     rw[hL] at ht h2
     obtain⟨x,h3,h4,h5,h6⟩:=ht
     have:=drun_text (hput _ _) he' h6
     rw[put_T,put_H] at this
     rw[hn] at h5 this
     rw[hL'] at this
     exact⟨_,_,_,_,.take hg hc hf h1 hL' h2 h3 h4 h5,this⟩
   ·exact h.elim
  ·rename_i g want hg hc
   split at h
   ·rename_i t ht
    split at h
    ·rename_i gc hgc
     obtain⟨h1,h2,h3,h4⟩:=h
     have:=drun_text (hput _ _) he' h4
     rw[put_T,put_H] at this
     rw[hn] at this h3
     exact⟨_,_,_,_,.gop hg hc ht hgc h1 h2 (fun e=>⟨(h3 e).1,(h3 e).2,rfl,rfl⟩) (fun k hk=>aop_mn2 h1 _ _ _ _ hk),this⟩
    ·exact h.elim
   ·exact h.elim
  ·rename_i g want f xs hg hc
   split at h
   ·rename_i t fid cap ht hf
    split at h
    ·rename_i gc hgc
     obtain⟨h1,h2,a,h3,h30,h4,h5⟩:=h
     have:=drun_text (hput _ _) he' h5
     rw[put_T,put_H] at this
     exact⟨_,_,_,_,.gcall hg hc ht hgc hf h1 (fun _=>h3) (Nat.le_of_ble_eq_true h30) (fun e=>⟨(h2 e).1,(h2 e).2,h4 e,rfl⟩),this⟩
    ·exact h.elim
   ·exact h.elim
end
section
variable {N:Nat} {w0:World} {E:Nat→Prop} {F:Frm} {σ:St} {a:Act} {w:World} {P:Program} {ops:Array Oper} {k:List It→St→Prop} {K:List It} {Q:Exit→Act→World→Prop}
theorem zipN_len:∀{l:List Oper} {n:Nat},(zipN n l).length=l.length
 |[],_=>rfl
 |_::r,n=>by simp[zipN,zipN_len]
theorem SRf.draw {A:Nat→Prop} {T:Nat→TV} {H:Nat→OB} {own:Own} {rt:Rt} (h:SRf N w0 E F A T H a w own rt) (n:Nat):SRf N w0 E F A T H a { w with drawn:=n} own rt:=by
 have e:∀b (o:Obj),own b=none→w.heap[b]?=some o→own b=none∧({ w with drawn:=n}:World).heap[b]?=some o:=fun b o h1 h2=>⟨h1,h2⟩
 refine⟨⟨⟨h.keep.os,h.keep.tape,h.keep.output,h.keep.size,h.keep.block⟩,h.dom,fun k=>?_,h.dead,h.owned,h.frn,h.frn0⟩,h.defers,h.size,fun s=>?_,h.men,fun k v e'=>⟨(h.frz k v e').1,RelT.over e (fun k hk=>Over.same (h.obj k) rfl rfl (fun b o q h1 h2=>h2)) (h.frz k v e').2⟩⟩
 ·exact Ow.mono e _ _ _ _ (fun b o q h1 h2=>⟨h1,h2⟩) (h.obj k)
 ·exact RelT.over e (fun k hk=>Over.same (h.obj k) rfl rfl (fun b o q h1 h2=>h2)) (h.tmp s)
theorem draw_sound {id:Nat} (hm:P.follows .mixedOrders=true) (h:SR N w0 E F σ a w) (hk:DrawK P N ops k K σ) (next:∀σ' a' w',k K σ'→SR N w0 E F σ' a' w'→Q .normal a' w'):(Code.region id ops true).wp P Q a w:=by
 obtain⟨A,own,rt,hs,hA⟩:=h
 obtain⟨hd,hrun⟩:=hk
 have htext:=drun_text (b:=σ.n) (e:=ops.size) (by omega) (by simp) hrun
 refine wp_region_any hm ?_
 have hall:(zipN 0 ops.toList).filter (unl (Array.replicate ops.size false))=zipN 0 ops.toList:=by
  refine List.filter_eq_self.2 (fun x hx=>?_)
  have:=(zipN_spec.1 hx).2
  have:x.1 - 0<ops.toList.length:=(List.getElem?_eq_some_iff.1 this).1
  have h2:x.1<ops.size:=by simpa using this
  simp[unl,h2]
 refine any_sound (b:=σ.n) hd (fun A' T H a' w' own' rt' hKf hs' hA'=>?_) ops.size _ A σ.T σ.H a _ own rt (by simp) (fun k i h _=>by
  exfalso
  rw[Array.getD_eq_getD_getElem?] at h
  by_cases hk:k<ops.size<;>simp[hk] at h) (by rw[hall,zipN_len];simp) (by rw[hall];exact htext) (hs.draw _) (fun x _ k hk1 _=>hA k (by omega)) (fun k hk=>hA k (by omega))
 obtain⟨σ',e1,e2,e3,e4⟩:=hKf
 exact next σ' a' w' e4 ⟨A',own',rt',by rw[e1,e2];exact hs',fun k hk=>hA' k (by omega)⟩
end
end Go.AM
/- The framework AM,part D3:a region whose order is open,with calls that have several results. -/
namespace Go.AM
open Go
inductive GStp (P:Program) (N:Nat) (ops:Array Oper) (o:Oper) (m:Nat) (T:Nat→TV) (H:Nat→OB):List Nat→List Nat→(TV→List (Nat×OB)→Prop)→Prop
 |op (hg:o.guard=none) (hc:isCall o.op=none) (hf:isField o.op=false) (hd:dOk N o.dst=true) (hok:(aop P o.op (opd T) H m).ok):
  GStp P N ops o m T H (rdE (aop P o.op (opd T) H m)) (wrE (ctOp o.op (opd T) m) (aop P o.op (opd T) H m).hu) (fun v hu=>v=(aop P o.op (opd T) H m).v∧hu=(aop P o.op (opd T) H m).hu)
 |call {f:Operand} {xs:List Operand} {fid:FuncId} {cap:List TV} {R:RV→Prop} {ks:List Nat} (hg:o.guard=none) (hc:isCall o.op=some (f,xs)) (hf:fnOf (opd T f)=some (fid,cap)) (hd:dOk N o.dst=true)
  (hb:(borA H (xs.map (opd T)++cap)).1) (hcon:ACalls P fid (borA H (xs.map (opd T)++cap)).2.2 R) (hne:∃r,R r) (hr:∀r,R r→((borA H (xs.map (opd T)++cap)).2.1=true→clAll r.cells)∧r.cells.length≤62∧keys (objs (m+1) r.cells)=ks):
  GStp P N ops o m T H (dbl (mlA (xs.map (opd T)++cap))) (dbl ks) (fun v hu=>∃r,R r∧v=instR (borA H (xs.map (opd T)++cap)).2.1 (m+1) r∧hu=objs (m+1) r.cells)
 |cur {f:Operand} {xs:List Operand} {fid:FuncId} {cap:List TV} {R:RV→Prop} {ks:List Nat} {k:Nat} {vs:List Nat} {l:List TV} {x:Value} {n:Nat} (hg:o.guard=none) (hc:isCall o.op=some (f,xs)) (hf:fnOf (opd T f)=some (fid,cap)) (hd:dOk N o.dst=true)
  (hL:.one (.ref k [] vs 0 0)::l=xs.map (opd T)++cap) (hb:(borA H (.one (.ref k [] vs 0 0)::l)).1) (hcon:ACur P fid n (borA H l).2.2 R) (hH:(H k).a=curA x n) (hm:memN k (mlA l)=false) (hne:∃r,R r)
  (hr:∀r,R r→((borA H l).2.1=true→clAll r.cells)∧r.cells.length≤62∧keys (objs (m+1) r.cells)=ks):
  GStp P N ops o m T H (dbl (mlA (xs.map (opd T)++cap))) (dbl ks) (fun v hu=>∃r,R r∧v=instR (borA H l).2.1 (m+1) r∧hu=objs (m+1) r.cells)
 |det {rd wr:List Nat} {v:TV} {hu:List (Nat×OB)} (hg:o.guard≠none) (h:Stp P N ops o m T H rd v hu wr):GStp P N ops o m T H rd wr (fun v' hu'=>v'=v∧hu'=hu)
 |gcall {g:Nat} {want gc:Bool} {t:TV} {f:Operand} {xs:List Operand} {fid:FuncId} {cap:List TV} {R:AT→Prop} {rd:List Nat} (hg:o.guard=some (g,want)) (hc:isCall o.op=some (f,xs)) (ht:(gdst ops g).map T=some t) (hgc:gcond want t=some gc)
  (hf:fnOf (opd T f)=some (fid,cap)) (hd:dOk N o.dst=true) (hne:∃b,R b) (hp:∀b,R b→(gc=true→gPl (borA H (xs.map (fun x=>unc (opd T x))++cap)).2.1 b=true)∧b.cells.length≤62)
  (hok:gc=true→cok (opd T) xs∧(borA H (xs.map (fun x=>unc (opd T x))++cap)).1∧ACalls P fid (borA H (xs.map (fun x=>unc (opd T x))++cap)).2.2 (fun r=>∃b,R b∧r=.val b)∧dbl (mlA (xs.map (fun x=>unc (opd T x))++cap))=rd):
  GStp P N ops o m T H rd [] (fun v hu=>(∃b,R b∧v=.cnd gc b.cv)∧hu=[])
section
variable {P:Program} {N:Nat} {ops:Array Oper} {o:Oper} {m:Nat} {T T':Nat→TV} {H H':Nat→OB} {rd wr:List Nat} {Φ:TV→List (Nat×OB)→Prop}
theorem GStp.ne (h:GStp P N ops o m T H rd wr Φ):∃v hu,Φ v hu:=by
 cases h with
 |op _ _ _ _ _=>exact⟨_,_,rfl,rfl⟩
 |call _ _ _ _ _ _ hne _=>obtain⟨r,hr⟩:=hne;exact⟨_,_,r,hr,rfl,rfl⟩
 |cur _ _ _ _ _ _ _ _ _ hne _=>obtain⟨r,hr⟩:=hne;exact⟨_,_,r,hr,rfl,rfl⟩
 |det _ _=>exact⟨_,_,rfl,rfl⟩
 |gcall _ _ _ _ _ _ hne _ _=>obtain⟨b,hb⟩:=hne;exact⟨_,_,⟨b,hb,rfl⟩,rfl⟩
theorem GStp.wrt (h:GStp P N ops o m T H rd wr Φ) {v:TV} {hu:List (Nat×OB)} (hΦ:Φ v hu):∀k∈keys hu,2*k+1∈wr∧(2*k∈wr∨Surf (H k) (lk (H k) hu k)):=by
 intro k hk
 cases h with
 |op hg hc hf hd hok=>
  obtain⟨rfl,rfl⟩:=hΦ
  obtain⟨h1,h2⟩:=wrE_mem (ct:=ctOp o.op (opd T) m) hk
  exact⟨h1,h2.imp id (fun h=>aop_ct hok k h)⟩
 |call _ _ _ _ _ _ _ hr=>
  obtain⟨r,hR,rfl,rfl⟩:=hΦ
  rw[(hr r hR).2.2] at hk
  exact⟨(dbl_mem hk).2,.inl (dbl_mem hk).1⟩
 |cur _ _ _ _ _ _ _ _ _ _ hr=>
  obtain⟨r,hR,rfl,rfl⟩:=hΦ
  rw[(hr r hR).2.2] at hk
  exact⟨(dbl_mem hk).2,.inl (dbl_mem hk).1⟩
 |det _ h=>
  obtain⟨rfl,rfl⟩:=hΦ
  exact h.wrt k hk
 |gcall _ _ _ _ _ _ _ _ _=>
  obtain⟨_,rfl⟩:=hΦ
  cases hk
theorem GStp.frame (h:GStp P N ops o m T H rd wr Φ) (hT:∀s∈o.looksAt ops,T' s=T s) (hD:∀k,2*k+1∈rd→H' k=H k) (hS:∀k,2*k∈rd→Surf (H k) (H' k)):GStp P N ops o m T' H' rd wr Φ:=by
 have ho:∀x∈o.op.operands.toList,opd T' x=opd T x:=by
  intro x hx
  cases x with
  |tmp s=>exact hT s (List.mem_append_left _ (List.mem_filterMap.2 ⟨.tmp s,hx,rfl⟩))
  |_=>rfl
 cases h with
 |op hg hc hf hd hok=>
  have e:=aop_frame (H':=H') ho hok (fun k hk=>hD k (List.mem_append_left _ (dbl_mem hk).2)) (fun k hk=>hS k (List.mem_append_right _ (sgl_mem hk)))
  have e2:ctOp o.op (opd T') m=ctOp o.op (opd T) m:=ctOp_congr ho
  rw[←e] at hok ⊢
  rw[←e2]
  exact .op hg hc hf hd hok
 |call hg hc hf hd hb hcon hne hr=>
  rename_i f xs fid cap R ks
  obtain⟨q1,q2⟩:=call_operands hc
  have e1:xs.map (opd T')=xs.map (opd T):=List.map_congr_left (fun x hx=>ho x (q2 x hx))
  have e2:=borA_frame (H':=H') (H:=H) (l:=xs.map (opd T)++cap) (fun k hk=>hD k (dbl_mem hk).2)
  rw[←e2] at hb hcon hr ⊢
  rw[←e1] at hb hcon hr ⊢
  exact .call hg hc (by rw[ho f q1];exact hf) hd hb hcon hne hr
 |cur hg hc hf hd hL hb hcon hH hm hne hr=>
  rename_i f xs fid cap R ks k vs l x n
  obtain⟨q1,q2⟩:=call_operands hc
  have e1:xs.map (opd T')=xs.map (opd T):=List.map_congr_left (fun x hx=>ho x (q2 x hx))
  have hall:∀k'∈mlA (.one (.ref k [] vs 0 0)::l),H' k'=H k':=fun k' hk=>hD k' (by rw[hL] at hk;exact(dbl_mem hk).2)
  have e2:=borA_frame (H':=H') (H:=H) (l:=.one (.ref k [] vs 0 0)::l) hall
  have e3:=borA_frame (H':=H') (H:=H) (l:=l) (fun k' hk=>hall k' (by simp only[mlA];exact List.mem_append_right _ hk))
  have e4:H' k=H k:=hall k (by simp[mlA,TV.ml,SV.ml,SV.ml0])
  rw[←e4] at hH
  rw[←e2] at hb
  rw[←e3] at hcon hr ⊢
  rw[←e1] at hL ⊢
  exact .cur hg hc (by rw[ho f q1];exact hf) hd hL hb hcon hH hm hne hr
 |det hg h=>exact .det hg (h.frame hT hD hS)
 |gcall hg hc ht hgc hf hd hne hp hok=>
  rename_i g want gc t f xs fid cap R
  obtain⟨q1,q2⟩:=call_operands hc
  have hgd:(gdst ops g).map T'=(gdst ops g).map T:=by
   unfold gdst
   cases hd:(ops[g]?).bind (·.dst) with
   |none=>rfl
   |some d=>simp only[Option.map_some];rw[hT d (List.mem_append_right _ (by rw[hg];simp[hd]))]
  have key:gc=true→xs.map (fun x=>unc (opd T' x))=xs.map (fun x=>unc (opd T x))∧borA H' (xs.map (fun x=>unc (opd T x))++cap)=borA H (xs.map (fun x=>unc (opd T x))++cap):=fun e=>by
   obtain⟨h1,h2,h3,h4⟩:=hok e
   exact⟨List.map_congr_left (fun x hx=>by simp only[ho x (q2 x hx)]),borA_frame (H':=H') (H:=H) (l:=xs.map (fun x=>unc (opd T x))++cap) (fun k hk=>hD k (by rw[←h4];exact(dbl_mem hk).2))⟩
  refine .gcall hg hc (by rw[hgd];exact ht) hgc (by rw[ho _ q1];exact hf) hd hne (fun b hb=>⟨fun e=>?_,(hp b hb).2⟩) (fun e=>?_)
  ·rw[(key e).1,(key e).2]
   exact(hp b hb).1 e
  ·obtain⟨h1,h2,h3,h4⟩:=hok e
   rw[(key e).1,(key e).2]
   refine⟨?_,h2,h3,h4⟩
   have:∀(l:List Operand),(∀x∈l,opd T' x=opd T x)→cok (opd T) l→cok (opd T') l:=by
    intro l
    induction l with
    |nil=>intro _ _;trivial
    |cons x r ih=>intro h1 h2;exact⟨by rw[h1 x (by simp)];exact h2.1,ih (fun y hy=>h1 y (by simp[hy])) h2.2⟩
   exact this _ (fun x hx=>ho x (q2 x hx)) h1
theorem GStp.uniq (hc:isCall o.op=none) (hg0:o.guard=none) {rd' wr':List Nat} {Φ':TV→List (Nat×OB)→Prop} (h:GStp P N ops o m T H rd wr Φ) (h':GStp P N ops o m T H rd' wr' Φ'):rd'=rd∧wr'=wr∧Φ'=Φ:=by
 cases h with
 |op _ _ _ _ _=>
  cases h' with
  |op _ _ _ _ _=>exact⟨rfl,rfl,rfl⟩
  |call _ hc' _ _ _ _ _ _=>rw[hc] at hc';cases hc'
  |cur _ hc' _ _ _ _ _ _ _ _ _=>rw[hc] at hc';cases hc'
  |det hg' _=>exact absurd hg0 hg'
  |gcall hg' _ _ _ _ _ _ _ _=>rw[hg0] at hg';cases hg'
 |call _ hc' _ _ _ _ _ _=>rw[hc] at hc';cases hc'
 |cur _ hc' _ _ _ _ _ _ _ _ _=>rw[hc] at hc';cases hc'
 |det hg' _=>exact absurd hg0 hg'
 |gcall hg' _ _ _ _ _ _ _ _=>rw[hg0] at hg';cases hg'
end
section
variable {N:Nat} {w0:World} {E A:Nat→Prop} {F:Frm} {T:Nat→TV} {H:Nat→OB} {a:Act} {w:World} {own:Own} {rt:Rt} {P:Program} {o:Oper} {m:Nat} {ops:Array Oper} {rd wr:List Nat} {Φ:TV→List (Nat×OB)→Prop} {Q:Exit→Act→World→Prop}
theorem GStp.sound {j:Nat} {K:Act→World→Prop} (hs:SRf N w0 E F A T H a w own rt) (hA:∀k,m≤k→k≤m+63→¬A k) (hj:ops[j]?=some o) (h:GStp P N ops o m T H rd wr Φ)
 (next:∀v hu A' a' w' own' rt',Φ v hu→SRf N w0 E F A' (updT T o.dst v) (updH H hu) a' w' own' rt'→(∀k,A' k→A k∨(m≤k∧k≤m+63))→K a' w'):wpOp P ops Q j K a w:=by
 by_cases hdet:∃v hu,Stp P N ops o m T H rd v hu wr∧Φ v hu
 ·obtain⟨v,hu,h1,h2⟩:=hdet
  exact h1.sound hs hA hj (fun A' a' w' own' rt' h3 h4=>next v hu A' a' w' own' rt' h2 h3 h4)
 unfold wpOp
 rw[hj]
 dsimp only
 cases h with
 |op hg hc hf hd hok=>
  obtain⟨v,w',own',rt',hrun,hs'⟩:=did_op hs (dOk_lt hd) (hA _ (Nat.le_refl _) (by omega)) (isField_ne hf) hok
  have hw:Region.wanted o (yielded ops a.tmps)=true:=by unfold Region.wanted;rw[hg]
  rw[hw,if_pos rfl]
  left
  have hn:=next _ _ _ _ _ _ _ ⟨rfl,rfl⟩ hs' (fun k hk=>by
   rcases hk with e|e
   ·exact .inl e
   ·exact .inr (by omega))
  unfold Oper.wp
  rcases hrun with hrun|⟨hrun,rfl⟩
  ·rw[hrun,Oper.upon_value];exact hn
  ·rw[hrun,Oper.upon_skip];exact hn
 |call hg hc hf hd hb hcon hne hr=>
  have hw:Region.wanted o (yielded ops a.tmps)=true:=by unfold Region.wanted;rw[hg]
  rw[hw,if_pos rfl]
  left
  refine call_made hs hc hf rfl hb hcon (fun own0 w' v rv h0 hR hgv=>?_)
  obtain⟨r1,r2,r3⟩:=hr rv hR
  obtain⟨A',own'',rt'',q1,q2⟩:=ret_sound hs (fun k h1 h2=>hA k h1 (by omega)) h0 hgv r1 (dOk_lt hd)
  refine next _ _ _ _ _ _ _ ⟨rv,hR,rfl,rfl⟩ q1 (fun k hk=>?_)
  rcases q2 k hk with e|e
  ·exact .inl e
  ·exact .inr (by omega)
 |cur hg hc hf hd hL hb hcon hH hm hne hr=>
  have hw:Region.wanted o (yielded ops a.tmps)=true:=by unfold Region.wanted;rw[hg]
  rw[hw,if_pos rfl]
  left
  refine call_madeC hs hc hf hL hb hcon hH hm (fun own0 w1 w' v rv hs1 h0 hR hgv=>?_)
  obtain⟨r1,r2,r3⟩:=hr rv hR
  obtain⟨A',own'',rt'',q1,q2⟩:=ret_sound (hs1 _ hs) (fun k h1 h2=>hA k h1 (by omega)) h0 hgv r1 (dOk_lt hd)
  refine next _ _ _ _ _ _ _ ⟨rv,hR,rfl,rfl⟩ q1 (fun k hk=>?_)
  rcases q2 k hk with e|e
  ·exact .inl e
  ·exact .inr (by omega)
 |det hg h=>exact absurd ⟨_,_,h,rfl,rfl⟩ hdet
 |gcall hg hcl ht hgc hf hd hne hp hok=>
  rename_i g want gc t f xs fid cap R
  cases hgd:gdst ops g with
  |none=>rw[hgd] at ht;cases ht
  |some d=>
   rw[hgd] at ht
   simp only[Option.map_some,Option.some.injEq] at ht
   have hw:=gcond_sound (o:=o) hgd (by rw[←ht];exact hs.tmp d) hgc hg
   rw[hw]
   cases gc with
   |true=>
    rw[if_pos rfl]
    left
    obtain⟨hc,hb,hcon,_⟩:=hok rfl
    have hL:xs.map (fun x=>unc (opd T x))++cap=xs.map (opd (uncT T))++cap:=by
     congr 1
     exact List.map_congr_left (fun x hx=>(opd_unc (cok_mem hc x hx)).symm)
    have hf':fnOf (opd (uncT T) f)=some (fid,cap):=by
     have:cok1 (opd T f):=by
      cases hh:opd T f with
      |cnd b s=>rw[hh] at hf;simp[fnOf] at hf
      |_=>trivial
     rw[opd_unc this]
     cases hh:opd T f with
     |cnd b s=>rw[hh] at hf;simp[fnOf] at hf
     |_=>rw[hh] at hf;exact hf
    refine call_made hs.unc hcl hf' hL hb hcon (fun own0 w' v rv h0 hr hgv=>?_)
    obtain⟨b,hR,rfl⟩:=hr
    obtain⟨p1,p2⟩:=hp b hR
    have e0:(RV.val b).cells.length=b.cells.length:=rfl
    obtain⟨A',own'',rt'',q1,q2⟩:=ret_cnd hs (fun k h1 h2=>hA k h1 (by omega)) h0 hgv (p1 rfl) (d:=o.dst) (dOk_lt hd)
    refine next _ _ _ _ _ _ _ ⟨⟨b,hR,rfl⟩,rfl⟩ q1 (fun k hk=>?_)
    rcases q2 k hk with e|e
    ·exact .inl e
    ·exact .inr (by omega)
   |false=>
    rw[if_neg (by simp)]
    obtain⟨b,hR⟩:=hne
    have hrel:RelT w own rt H (.cnd false b.cv) undef:=⟨(fun e=>by cases e),fun _=>rfl⟩
    exact next _ _ _ _ _ _ _ ⟨⟨b,hR,rfl⟩,rfl⟩ (hs.put (dOk_lt hd) hrel (fun k hk=>(cv_mn hk).elim)) (fun k hk=>.inl hk)
end
def OneR (Φ:TV→List (Nat×OB)→Prop):Prop:=∀v hu v' hu',Φ v hu→Φ v' hu'→v'=v∧hu'=hu
def textG (P:Program) (N:Nat) (ops:Array Oper) (b:Nat) (Kf:(Nat→TV)→(Nat→OB)→Prop):List (Nat×Oper)→List Ent→(Nat→TV)→(Nat→OB)→Prop
 |[],log,T,H=>List.Pairwise (fun x y=>apartE ops.toList x y=true) log∧Kf T H
 |(j,o)::r,log,T,H=>∃rd wr Φ,GStp P N ops o (b+64*j) T H rd wr Φ∧(laterB ops.toList j (zipN 0 ops.toList)=true∨OneR Φ)∧∀v hu,Φ v hu→textG P N ops b Kf r (log++[⟨j,rd,wr⟩]) (updT T o.dst v) (updH H hu)
section
variable {P:Program} {N:Nat} {ops:Array Oper} {b:Nat} {Kf:(Nat→TV)→(Nat→OB)→Prop}
theorem textG_sub:∀{l:List (Nat×Oper)} {log log':List Ent} {T:Nat→TV} {H:Nat→OB},log'.Sublist log→textG P N ops b Kf l log T H→textG P N ops b Kf l log' T H
 |[],log,log',T,H,hs,h=>⟨h.1.sublist hs,h.2⟩
 |(j,o)::r,log,log',T,H,hs,h=>by
  obtain⟨rd,wr,Φ,h1,hl,h2⟩:=h
  exact⟨rd,wr,Φ,h1,hl,fun v hu hΦ=>textG_sub (hs.append (List.Sublist.refl _)) (h2 v hu hΦ)⟩
theorem textG_log:∀{l:List (Nat×Oper)} {log:List Ent} {T:Nat→TV} {H:Nat→OB},textG P N ops b Kf l log T H→List.Pairwise (fun x y=>apartE ops.toList x y=true) log
 |[],log,T,H,h=>h.1
 |(j,o)::r,log,T,H,h=>by
  obtain⟨rd,wr,Φ,h1,hl,h2⟩:=h
  obtain⟨v,hu,hΦ⟩:=h1.ne
  exact(textG_log (h2 v hu hΦ)).sublist (List.sublist_append_left _ _)
theorem laterB_get {all:List Oper} {i:Nat}:∀{l:List (Nat×Oper)},laterB all i l=true→∀x∈l,i<x.1→waitsT all 8 x.1 i=false→x.2.guard=none∧isCall x.2.op=none
 |[],_,x,hx,_,_=>by cases hx
 |(j,o)::r,h,x,hx,hlt,hw=>by
  simp only[laterB,Bool.and_eq_true,Bool.or_eq_true] at h
  rcases List.mem_cons.1 hx with rfl|hx
  ·dsimp only at hlt hw ⊢
   rcases h.1 with (e|e)|e
   ·have:=Nat.le_of_ble_eq_true e;omega
   ·obtain⟨e1,e2⟩:=e
    refine⟨by simpa using e1,?_⟩
    unfold isCallB at e2
    cases hc:isCall o.op with
    |none=>rfl
    |some _=>rw[hc] at e2;simp at e2
   ·rw[hw] at e;cases e
  ·exact laterB_get h.2 x hx hlt hw
theorem textG_move {j:Nat} {o:Oper} {post:List (Nat×Oper)} (hjo:(j,o)∈zipN 0 ops.toList):∀{pre:List (Nat×Oper)} {log:List Ent} {T:Nat→TV} {H:Nat→OB},(∀x∈pre,(waitsT ops.toList 8 j x.1=false∧x.2.apart ops o=true)∧x.1<j)→
 textG P N ops b Kf (pre++(j,o)::post) log T H→
 ∃rd wr Φ,GStp P N ops o (b+64*j) T H rd wr Φ∧(∀v hu,Φ v hu→textG P N ops b Kf (pre++post) log (updT T o.dst v) (updH H hu))∧List.Pairwise (fun x y=>apartE ops.toList x y=true) (log++[⟨j,rd,wr⟩]):=by
 intro pre
 induction pre with
 |nil=>
  intro log T H _ h
  obtain⟨rd,wr,Φ,h1,hl,h2⟩:=h
  obtain⟨v,hu,hΦ⟩:=h1.ne
  exact⟨rd,wr,Φ,h1,fun v hu hΦ=>textG_sub (List.sublist_append_left _ _) (h2 v hu hΦ),textG_log (h2 v hu hΦ)⟩
 |cons x pre ih=>
  obtain⟨i,oi⟩:=x
  intro log T H hp h
  obtain⟨rdi,wri,Φi,h1,hl,h2⟩:=h
  obtain⟨⟨w1,w2⟩,hij⟩:=hp (i,oi) (by simp)
  dsimp only at w1 hij
  obtain⟨a1,a2,a3⟩:=Oper.apart_spec w2
  have main:∀vi hui,Φi vi hui→∃rd wr Φ,GStp P N ops o (b+64*j) T H rd wr Φ∧GStp P N ops o (b+64*j) (updT T oi.dst vi) (updH H hui) rd wr Φ∧
   (∀v hu,Φ v hu→textG P N ops b Kf (pre++post) (log++[⟨i,rdi,wri⟩]) (updT (updT T oi.dst vi) o.dst v) (updH (updH H hui) hu))∧List.Pairwise (fun x y=>apartE ops.toList x y=true) (log++[⟨i,rdi,wri⟩]++[⟨j,rd,wr⟩])∧
   disj wri rd=true∧disj wri wr=true∧disj rdi wr=true:=by
   intro vi hui hΦi
   obtain⟨rd,wr,Φ,g1,g2,g3⟩:=ih (fun x hx=>hp x (by simp[hx])) (h2 vi hui hΦi)
   have hap:apartE ops.toList ⟨i,rdi,wri⟩ ⟨j,rd,wr⟩=true:=by
    have:=List.pairwise_append.1 g3
    exact this.2.2 _ (by simp) _ (by simp)
   simp only[apartE,w1,Bool.false_or,Bool.and_eq_true] at hap
   obtain⟨⟨d1,d2⟩,d3⟩:=hap
   refine⟨rd,wr,Φ,g1.frame (fun s hs=>(updT_ne (fun e=>a1 s e hs)).symm) (fun k hk=>?_) (fun k hk=>?_),g1,g2,g3,d1,d2,d3⟩
   ·simp only[updH];exact(keys_lk (fun e=>disj_mem d1 (h1.wrt hΦi k e).1 hk)).symm
   ·simp only[updH]
    by_cases e:k∈keys hui
    ·exact((h1.wrt hΦi k e).2.resolve_left (fun e2=>disj_mem d1 e2 hk)).symm
    ·rw[keys_lk e];exact .refl _
  obtain⟨vi0,hui0,hΦ0⟩:=h1.ne
  obtain⟨rd,wr,Φ,s1,_,k2,g3,d1,d2,d3⟩:=main vi0 hui0 hΦ0
  refine⟨rd,wr,Φ,s1,fun v hu hΦ=>⟨rdi,wri,Φi,?_,hl,fun vi hui hΦi=>?_⟩,g3.sublist ?_⟩
  ·exact h1.frame (fun s hs=>updT_ne (fun e=>a3 s e hs)) (fun k hk=>by
    simp only[updH];exact keys_lk (fun e=>disj_mem d3 hk (s1.wrt hΦ k e).1)) (fun k hk=>by
    simp only[updH]
    by_cases e:k∈keys hu
    ·exact(s1.wrt hΦ k e).2.resolve_left (fun e2=>disj_mem d3 hk e2)
    ·rw[keys_lk e];exact .refl _)
  ·have key:textG P N ops b Kf (pre++post) (log++[⟨i,rdi,wri⟩]) (updT (updT T oi.dst vi) o.dst v) (updH (updH H hui) hu):=by
    rcases hl with hl|hone
    ·obtain⟨hg0,hcj⟩:=laterB_get hl (j,o) hjo hij w1
     obtain⟨rd',wr',Φ',s1',t1',k2',_⟩:=main vi hui hΦi
     obtain⟨rfl,rfl,rfl⟩:=s1.uniq hcj hg0 s1'
     exact k2' v hu hΦ
    ·obtain⟨rfl,rfl⟩:=hone _ _ _ _ hΦ0 hΦi
     exact k2 v hu hΦ
   rw[updT_comm (d:=o.dst) (e:=oi.dst) (fun x hx e=>a2 x e hx),updH_comm (x:=hu) (y:=hui) (by
    simp only[disj,List.all_eq_true]
    intro x hx y hy
    cases e:Nat.beq x y with
    |false=>rfl
    |true=>
     rw[Nat.eq_of_beq_eq_true e] at hx
     exact(disj_mem d2 (h1.wrt hΦi y hy).1 (s1.wrt hΦ y hx).1).elim)]
   exact key
  ·rw[List.append_assoc]
   exact List.Sublist.append_left (List.sublist_append_right _ _) _
end
section
variable {N:Nat} {w0:World} {E:Nat→Prop} {F:Frm} {P:Program} {ops:Array Oper} {b:Nat} {Kf:(Nat→TV)→(Nat→OB)→Prop} {Q:Exit→Act→World→Prop}
theorem anyG_sound (hdr:drawB ops=true) (hQ:∀A T H a w own rt,Kf T H→SRf N w0 E F A T H a w own rt→(∀k,b+64*ops.size≤k→¬A k)→Q .normal a w):
 ∀(fuel:Nat) (listed:Array Bool) (A:Nat→Prop) (T:Nat→TV) (H:Nat→OB) (a:Act) (w:World) (own:Own) (rt:Rt),listed.size=ops.size→(∀k i,listed.getD k false=true→waits ops.toList k i=true→listed.getD i false=true)→
  ((zipN 0 ops.toList).filter (unl listed)).length≤fuel→textG P N ops b Kf ((zipN 0 ops.toList).filter (unl listed)) [] T H→SRf N w0 E F A T H a w own rt→
  (∀x∈(zipN 0 ops.toList).filter (unl listed),∀k,b+64*x.1≤k→k≤b+64*x.1+63→¬A k)→(∀k,b+64*ops.size≤k→¬A k)→wpAny P .any ops Q fuel listed a w:=by
 simp only[drawB,Bool.and_eq_true] at hdr
 obtain⟨hpairs,hedges⟩:=hdr
 have hready:∀(listed:Array Bool) (j:Nat),listed.size=ops.size→j∈Region.ready .any ops listed→j<listed.size∧listed.getD j true=false∧∃o,ops[j]?=some o∧(j,o)∈zipN 0 ops.toList∧∀i,waits ops.toList j i=true→listed.getD i false=true:=by
  intro listed j hsz hj
  obtain⟨h0,o,ho,hall⟩:=mem_ready.1 hj
  refine⟨by rw[hsz];exact(Array.getElem?_eq_some_iff.1 ho).1,h0,o,ho,zipN_spec.2 ⟨Nat.zero_le _,by simpa using ho⟩,fun i hi=>?_⟩
  unfold waits at hi
  have ho':ops.toList[j]?=some o:=by simpa using ho
  rw[ho'] at hi
  simp only[List.any_eq_true,Bool.and_eq_true] at hi
  obtain⟨e,he,hb,hon⟩:=hi
  have:=hall e (by simpa using he) hb
  rw[Nat.eq_of_beq_eq_true hon] at this
  exact this
 have hrem:∀(listed:Array Bool),listed.size=ops.size→Region.ready .any ops listed=[]→(zipN 0 ops.toList).filter (unl listed)=[]:=by
  intro listed hsz hnil
  cases hl:(zipN 0 ops.toList).filter (unl listed) with
  |nil=>rfl
  |cons x r=>
   exfalso
   have hx:x∈(zipN 0 ops.toList).filter (unl listed):=by rw[hl];simp
   obtain⟨j,o⟩:=x
   obtain⟨hx1,hx2⟩:=List.mem_filter.1 hx
   have hoj:=(zipN_spec.1 hx1).2
   simp only[Nat.sub_zero] at hoj
   have:j∈Region.ready .any ops listed:=by
    refine mem_ready.2 ⟨by simpa [unl] using hx2,o,by simpa using hoj,fun e he hb=>?_⟩
    have hlt:=edgesB_get hedges (j,o) hx1 e he hb
    dsimp only at hlt
    cases hL:listed.getD e.on false with
    |true=>rfl
    |false=>
     exfalso
     have hjs:j<ops.toList.length:=(List.getElem?_eq_some_iff.1 hoj).1
     have hes:e.on<ops.toList.length:=by omega
     have he2:(e.on,ops.toList[e.on])∈(zipN 0 ops.toList).filter (unl listed):=by
      refine List.mem_filter.2 ⟨zipN_spec.2 ⟨Nat.zero_le _,by simp⟩,?_⟩
      have hsz2:e.on<listed.size:=by rw[hsz];simpa using hes
      simp[unl,hsz2] at hL ⊢
      exact hL
     -- the filtered list begins with j,and is increasing
     have hinc:∀(l:List Oper) (n:Nat) (y:Nat×Oper) (rest:List (Nat×Oper)),(zipN n l).filter (unl listed)=y::rest→∀z∈(zipN n l).filter (unl listed),y.1≤z.1:=by
      intro l
      induction l with
      |nil=>intro n y rest h;simp[zipN] at h
      |cons q l ih=>
       intro n y rest h z hz
       simp only[zipN] at h hz
       by_cases hu:unl listed (n,q)=true
       ·rw[List.filter_cons_of_pos hu] at h hz
        cases h
        rcases List.mem_cons.1 hz with rfl|hz
        ·exact Nat.le_refl _
        ·have:=(zipN_spec.1 (List.mem_filter.1 hz).1).1
         dsimp only;omega
       ·rw[List.filter_cons_of_neg hu] at h hz
        exact ih (n+1) y rest h z hz
     have:=hinc _ _ _ _ hl _ he2
     dsimp only at this
     omega
   rw[hnil] at this
   cases this
 intro fuel
 induction fuel with
 |zero=>
  intro listed A T H a w own rt hsz hcl hlen htk hs hfree hfree2
  have hnil:(zipN 0 ops.toList).filter (unl listed)=[]:=List.length_eq_zero_iff.1 (Nat.le_zero.1 hlen)
  rw[hnil] at htk
  refine⟨?_,hQ A T H a w own rt htk.2 hs hfree2⟩
  cases hr:Region.ready .any ops listed with
  |nil=>rfl
  |cons j r=>
   obtain⟨h1,h2,o,h3,h4,_⟩:=hready listed j hsz (by rw[hr];simp)
   have:(j,o)∈(zipN 0 ops.toList).filter (unl listed):=List.mem_filter.2 ⟨h4,by simp only[unl,h2,Bool.not_false]⟩
   rw[hnil] at this
   cases this
 |succ fuel ih=>
  intro listed A T H a w own rt hsz hcl hlen htk hs hfree hfree2
  refine⟨fun hnil=>?_,fun j hj=>?_⟩
  ·have:=hrem listed hsz hnil
   rw[this] at htk
   exact hQ A T H a w own rt htk.2 hs hfree2
  ·obtain⟨h1,h2,o,h3,h4,h5⟩:=hready listed j hsz hj
   obtain⟨pre,post,e1,e2,e3⟩:=unl_split h1 h2 h4
   rw[e1] at htk
   obtain⟨rd,wr,Φ,g1,g2,_⟩:=textG_move h4 (fun x hx=>by
    obtain⟨q1,q2,q3⟩:=e3 x hx
    have hw:waits ops.toList j x.1=false:=by
     cases hw:waits ops.toList j x.1 with
     |false=>rfl
     |true=>
      have h6:=h5 x.1 hw
      have hlt:x.1<listed.size:=by omega
      simp[hlt] at h6 q3
      rw[h6] at q3
      cases q3
    have hwT:waitsT ops.toList 8 j x.1=false:=by
     cases hwT:waitsT ops.toList 8 j x.1 with
     |false=>rfl
     |true=>
      have h6:=waitsT_listed hcl 8 j x.1 h5 hwT
      have hlt:x.1<listed.size:=by omega
      simp[hlt] at h6 q3
      rw[h6] at q3
      cases q3
    refine⟨⟨hwT,?_⟩,q1⟩
    have:=pairsB_get rfl hpairs x q2 (j,o) h4 q1
    simp only[opB,hw,Bool.false_or] at this
    exact this) htk
   refine g1.sound hs (fun k hk1 hk2=>hfree (j,o) (by rw[e1];simp) k hk1 (by dsimp only;omega)) h3 (fun v hu A' a' w' own' rt' hΦ hs' hA'=>?_)
   have hsub:∀x∈pre++post,x∈(zipN 0 ops.toList).filter (unl listed)∧x.1≠j:=by
    intro x hx
    refine⟨by rw[e1];rcases List.mem_append.1 hx with h|h<;>simp[h],fun e=>?_⟩
    rw[←e2] at hx
    have:=(List.mem_filter.1 hx).2
    rw[unl,e] at this
    simp[h1] at this
   refine ih (listed.setIfInBounds j true) A' _ _ a' w' own' rt' (by simpa using hsz) (fun k i hk hw=>by
    rw[getD_set h1] at hk ⊢
    by_cases e:i=j
    ·rw[if_pos e]
    ·rw[if_neg e]
     by_cases ek:k=j
     ·subst ek;exact h5 i hw
     ·rw[if_neg ek] at hk;exact hcl k i hk hw) (by rw[e2];rw[e1] at hlen;simp at hlen ⊢;omega) (by rw[e2];exact g2 v hu hΦ) hs' (fun x hx k hk1 hk2 hk=>?_) (fun k hk1 hk=>?_)
   ·rw[e2] at hx
    obtain⟨q1,q2⟩:=hsub x hx
    rcases hA' k hk with h|h
    ·exact hfree x q1 k hk1 hk2 h
    ·have:x.1=j:=by omega
     exact q2 this
   ·rcases hA' k hk with h|h
    ·exact hfree2 k hk1 h
    ·have:j<ops.size:=by rw[←hsz];exact h1
     have:64*(j+1)≤64*ops.size:=Nat.mul_le_mul_left _ this
     omega
end
section
variable {P:Program} {N:Nat} {ops:Array Oper} {k:List It→St→Prop} {K:List It}
theorem drunC_text {b e:Nat}:∀{l:List Oper} {i:Nat} {log:List Ent} {σ:St},σ.n=b+64*i→i+l.length=e→drunC P N ops k K (zipN i l) log σ→
 textG P N ops b (fun T H=>∃σ',σ'.T=T∧σ'.H=H∧σ'.n=b+64*e∧k K σ') (zipN i l) log σ.T σ.H
 |[],i,log,σ,hn,he,h=>by
  simp only[List.length_nil,Nat.add_zero] at he
  exact⟨logB_pairwise h.1,σ,rfl,rfl,by rw[hn,he],h.2⟩
 |o::r,i,log,σ,hn,he,h=>by
  have he':i+1+r.length=e:=by simp at he;omega
  have hput:∀(v:TV) (hu:List (Nat×OB)),(σ.put o.dst v hu (σ.n+64)).n=b+64*(i+1):=fun v hu=>by
   show σ.n+64=_
   omega
  simp only[zipN,drunC] at h
  show textG P N ops b _ ((i,o)::zipN (i+1) r) log σ.T σ.H
  split at h
  ·rename_i hg hc
   obtain⟨h1,h2,h3,h4⟩:=h
   have:=drunC_text (hput _ _) he' h4
   rw[put_T,put_H] at this
   rw[hn] at h3 this
   exact⟨_,_,_,.op hg hc h1 h2 h3,.inr (fun v hu v' hu' e1 e2=>⟨e2.1.trans e1.1.symm,e2.2.trans e1.2.symm⟩),fun v hu hΦ=>by obtain⟨rfl,rfl⟩:=hΦ;exact this⟩
  ·rename_i f xs hg hc
   split at h
   ·rename_i fid cap hf
    obtain⟨h1,h2,h7⟩:=h
    rcases h7 with ⟨R,ks,hlt,hcon,hne,hr⟩|⟨r',vs,l,x,n,R,ks,hlt,hL,hcon,hH,hm,hne,hr⟩
    ·refine⟨_,_,_,.call (ks:=ks) hg hc hf h1 h2 hcon hne (fun r0 hR=>?_),hlt.imp id ?_,fun v hu hΦ=>?_⟩
     ·obtain⟨g1,g2,g3,_⟩:=hr r0 hR
      exact⟨g1,Nat.le_of_ble_eq_true g2,by rw[←hn];exact g3⟩
     ·rintro⟨r0,hone⟩ v hu v' hu' ⟨q,hq,rfl,rfl⟩ ⟨q',hq',rfl,rfl⟩
      rw[hone q hq,hone q' hq']
      exact⟨rfl,rfl⟩
     ·obtain⟨r0,hR,rfl,rfl⟩:=hΦ
      obtain⟨_,_,_,g4⟩:=hr r0 hR
      have:=drunC_text (hput _ _) he' g4
      rw[put_T,put_H] at this
      rw[hn] at this
      exact this
    ·have hL':.one (.ref r' [] vs 0 0)::l=xs.map (opd σ.T)++cap:=hL.symm
     rw[hL] at h2
     refine⟨_,_,_,.cur (ks:=ks) hg hc hf h1 hL' h2 hcon hH hm hne (fun r0 hR=>?_),.inl hlt,fun v hu hΦ=>?_⟩
     ·obtain⟨g1,g2,g3,_⟩:=hr r0 hR
      exact⟨g1,Nat.le_of_ble_eq_true g2,by rw[←hn];exact g3⟩
     ·obtain⟨r0,hR,rfl,rfl⟩:=hΦ
      obtain⟨_,_,_,g4⟩:=hr r0 hR
      have:=drunC_text (hput _ _) he' g4
      rw[put_T,put_H] at this
      rw[hn] at this
      exact this
   ·exact h.elim
  ·rename_i g want hg hc
   split at h
   ·rename_i t ht
    split at h
    ·rename_i gc hgc
     obtain⟨h1,h2,h3,h4⟩:=h
     have:=drunC_text (hput _ _) he' h4
     rw[put_T,put_H] at this
     rw[hn] at this h3
     exact⟨_,_,_,.det (by rw[hg];simp) (.gop hg hc ht hgc h1 h2 (fun e=>⟨(h3 e).1,(h3 e).2,rfl,rfl⟩) (fun k hk=>aop_mn2 h1 _ _ _ _ hk)),.inr (fun v hu v' hu' e1 e2=>⟨e2.1.trans e1.1.symm,e2.2.trans e1.2.symm⟩),fun v hu hΦ=>by obtain⟨rfl,rfl⟩:=hΦ;exact this⟩
    ·exact h.elim
   ·exact h.elim
  ·rename_i g want f xs hg hc
   split at h
   ·rename_i t fid cap ht hf
    split at h
    ·rename_i gc hgc
     obtain⟨h1,h2,R,hlt,hne,hcon,hr⟩:=h
     refine⟨_,_,_,.gcall (R:=R) hg hc ht hgc hf h1 hne (fun b hb=>⟨fun _=>(hr b hb).1,Nat.le_of_ble_eq_true (hr b hb).2.1⟩) (fun e=>⟨(h2 e).1,(h2 e).2,hcon e,rfl⟩),hlt.imp id ?_,fun v hu hΦ=>?_⟩
     ·rintro⟨b0,hone⟩ v hu v' hu' ⟨⟨q,hq,rfl⟩,rfl⟩ ⟨⟨q',hq',rfl⟩,rfl⟩
      rw[hone q hq,hone q' hq']
      exact⟨rfl,rfl⟩
     ·obtain⟨⟨b0,hR,rfl⟩,rfl⟩:=hΦ
      have:=drunC_text (hput _ _) he' (hr b0 hR).2.2
      rw[put_T,put_H] at this
      exact this
    ·exact h.elim
   ·exact h.elim
end
section
variable {N:Nat} {w0:World} {E:Nat→Prop} {F:Frm} {σ:St} {a:Act} {w:World} {P:Program} {ops:Array Oper} {k:List It→St→Prop} {K:List It} {Q:Exit→Act→World→Prop}
theorem drawC_sound {id:Nat} (hm:P.follows .mixedOrders=true) (h:SR N w0 E F σ a w) (hk:DrawC P N ops k K σ) (next:∀σ' a' w',k K σ'→SR N w0 E F σ' a' w'→Q .normal a' w'):(Code.region id ops true).wp P Q a w:=by
 obtain⟨A,own,rt,hs,hA⟩:=h
 obtain⟨hd,hrun⟩:=hk
 have htext:=drunC_text (b:=σ.n) (e:=ops.size) (by omega) (by simp) hrun
 refine wp_region_any hm ?_
 have hall:(zipN 0 ops.toList).filter (unl (Array.replicate ops.size false))=zipN 0 ops.toList:=by
  refine List.filter_eq_self.2 (fun x hx=>?_)
  have:=(zipN_spec.1 hx).2
  have:x.1 - 0<ops.toList.length:=(List.getElem?_eq_some_iff.1 this).1
  have h2:x.1<ops.size:=by simpa using this
  simp[unl,h2]
 refine anyG_sound (b:=σ.n) hd (fun A' T H a' w' own' rt' hKf hs' hA'=>?_) ops.size _ A σ.T σ.H a _ own rt (by simp) (fun k i h _=>by
  exfalso
  rw[Array.getD_eq_getD_getElem?] at h
  by_cases hk:k<ops.size<;>simp[hk] at h) (by rw[hall,zipN_len];simp) (by rw[hall];exact htext) (hs.draw _) (fun x _ k hk1 _=>hA k (by omega)) (fun k hk=>hA k (by omega))
 obtain⟨σ',e1,e2,e3,e4⟩:=hKf
 exact next σ' a' w' e4 ⟨A',own',rt',by rw[e1,e2];exact hs',fun k hk=>hA' k (by omega)⟩
end
end Go.AM
