/- The framework AM,part 22:a run on abstract states is sound. -/
import Derived.Test.YtpbahibieegbgaaGreatAm3
import Derived.SizedLaws
import Derived.WideKeyArgs
import Derived.ChangeSame
import Derived.Below
namespace Go.AM
open Go
section
variable {N:Nat} {w0:World} {E:Nat→Prop} {F:Frm} {P:Program}
theorem Ow.rdDis {w:World} {own own':Own} {r:Root} (h0:∀b,own b=none→own' b=none):∀(a:AV) (p:Path) (v:Value),(∀b q,own b=some (r,p++q)→own' b=none)→Ow w own r a p v→Rd w own' a v:=by
 intro a
 induction a with
 |int|bool|str|rng|junk=>intro p v _ hv;exact hv
 |pin x a _=>intro p v _ hv;exact Rd.mono (fun b o e h=>⟨h0 b e,h⟩) _ _ hv
 |mp es=>intro p v _ hv;trivial
 |ptr m f _=>intro p v _ hv;exact Rd.mono (fun b o e h=>⟨h0 b e,h⟩) _ _ hv
 |fn g m f _=>intro p v _ hv;exact Rd.mono (fun b o e h=>⟨h0 b e,h⟩) _ _ hv
 |sl u nl es n f ih=>
  intro p v hp hv
  cases u with
  |false=>exact Rd.mono (fun b o e h=>⟨h0 b e,h⟩) _ _ hv
  |true=>
   rcases hv with ⟨rfl,ad,rfl,hnl⟩|⟨b,cap,c,T,rfl,hnl,ho,hb,h2,h3,h4,h5⟩
   ·exact⟨ad,0,rfl,Nat.le_refl _,Nat.zero_le _,hnl,fun _=>rfl,fun h=>absurd rfl h⟩
   ·refine⟨some ⟨b,0,none⟩,cap,rfl,h2,h3,⟨fun h=>absurd h hnl,fun _=>by simp⟩,fun h=>by simp at h,fun _=>⟨b,0,c,T,(0,0),rfl,hp b [] (by simpa using ho),hb,fun i hi j hj=>?_⟩⟩
    obtain⟨x,hx,hr⟩:=h5 i hi j hj
    exact⟨x,by simpa using hx,ih i j _ x (fun b q e=>hp b ((i,j)::q) (by simpa using e)) hr⟩
def disOwn (own:Own) (k:Nat):Own:=fun b=>
 match own b with
 |some (k',q)=>if k'=k∧q≠[] then none else some (k',q)
 |none=>none
theorem disOwn_none {own:Own} {k b:Nat} (h:own b=none):disOwn own k b=none:=by simp[disOwn,h]
theorem disOwn_some {own:Own} {k b:Nat} {x:Root×Path} (h:disOwn own k b=some x):own b=some x∧¬(x.1=k∧x.2≠[]):=by
 unfold disOwn at h
 cases ho:own b with
 |none=>rw[ho] at h;cases h
 |some y=>
  obtain⟨k',q⟩:=y
  rw[ho] at h
  dsimp only at h
  by_cases e:k'=k∧q≠[]
  ·rw[if_pos e] at h;cases h
  ·rw[if_neg e] at h
   simp only[Option.some.injEq] at h
   subst h
   exact⟨rfl,e⟩
theorem disOwn_keep {own:Own} {k b:Nat} {k':Root} {q:Path} (h:own b=some (k',q)) (hn:¬(k'=k∧q≠[])):disOwn own k b=some (k',q):=by
 unfold disOwn
 rw[h]
 exact if_neg hn
theorem disOwn_gone {own:Own} {k b:Nat} {q:Path} (h:own b=some (k,q)) (hq:q≠[]):disOwn own k b=none:=by
 unfold disOwn
 rw[h]
 exact if_pos ⟨rfl,hq⟩
theorem ow_ro {w:World} {own:Own} {k:Nat} {a:AV} {p:Path} {v:Value} (hp:p≠[]) (h:Ow w own k a p v):Ow w (disOwn own k) k a.ro p v:=by
 have hrd:∀{b:AV},Rd w own b v→Rd w (disOwn own k) b v:=fun h=>Rd.mono (fun b o e h=>⟨disOwn_none e,h⟩) _ _ h
 cases a with
 |sl u nl es n f=>
  have:=Ow.rdDis (own':=disOwn own k) (fun b e=>disOwn_none e) (.sl u nl es n f) p v (fun b q e=>disOwn_gone e (by
   intro hq
   exact hp (List.append_eq_nil_iff.1 hq).1)) h
  exact this
 |mp=>trivial
 |junk=>trivial
 |_=>exact hrd h
theorem ow_dis {w:World} {own:Own} {k:Nat} {a:AV} {v:Value} (h:Ow w own k a [] v):Ow w (disOwn own k) k a.dis [] v:=by
 have hrd:∀{b:AV},Rd w own b v→Rd w (disOwn own k) b v:=fun h=>Rd.mono (fun b o e h=>⟨disOwn_none e,h⟩) _ _ h
 cases a with
 |sl u nl es n f=>
  cases u with
  |false=>
   obtain⟨a,cap,e,h1,h2,h3,h4,h5⟩:=hrd h
   refine⟨a,cap,e,h1,h2,h3,h4,fun hn=>?_⟩
   obtain⟨b,off,c,T,fz,e1,e2,e3,e4⟩:=h5 hn
   refine⟨b,off,c,T,fz,e1,e2,e3,fun i hi j hj=>?_⟩
   obtain⟨x,g1,g2⟩:=e4 i hi j hj
   exact⟨x,g1,Rd.ro g2⟩
  |true=>
   rcases h with h|⟨b,cap,c,T,e,hnl,ho,hb,h2,h3,h4,h5⟩
   ·exact .inl h
   ·refine .inr ⟨b,cap,c,T,e,hnl,disOwn_keep ho (by simp),hb,h2,h3,h4,fun i hi j hj=>?_⟩
    obtain⟨x,g1,g2⟩:=h5 i hi j hj
    exact⟨x,g1,ow_ro (by simp) g2⟩
 |mp es=>
  obtain⟨b,e,ho,hb,hm⟩:=h
  exact⟨b,e,disOwn_keep ho (by simp),hb,hm⟩
 |junk=>trivial
 |_=>exact hrd h
theorem okp_dis {a:AV} {p:Path} (h:a.dis.okp p):p=[]∧a.okp p:=by
 cases a with
 |sl u nl es n f=>
  cases u with
  |false=>cases p<;>exact False.elim h
  |true=>
   cases p with
   |nil=>exact⟨rfl,trivial⟩
   |cons x p=>
    obtain⟨i,j⟩:=x
    exfalso
    have h:(f i j).ro.okp p:=h.2.2
    generalize f i j=c at h
    cases c<;>cases p<;>exact False.elim h
 |mp=>cases p with
  |nil=>exact⟨rfl,trivial⟩
  |cons x p=>exact False.elim h
 |_=>cases p<;>exact False.elim h
theorem dis_at_es (a:AV):(a.dis.at []).es=(a.at []).es:=by cases a<;>rfl
theorem disown_relS0 {w:World} {own:Own} {rt:Rt} {H H':Nat→OB} {k:Nat} (hk:H' k=⟨(H k).a.dis,(H k).vs⟩) (hn:∀k',k'≠k→H' k'=H k') {s:SV} {v:Value} (h:RelS0 w own rt H s v):RelS0 w (disOwn own k) rt H' s v:=by
 have key:∀{q:Path} {vs:List Nat},(H' k).live q vs→q=[]∧(H k).live q vs:=fun {q vs} hl=>by
  obtain⟨h1,h2⟩:=hl
  rw[hk] at h1 h2
  obtain⟨e1,e2⟩:=okp_dis h1
  exact⟨e1,e2,h2⟩
 have hvs:(H' k).vs=(H k).vs:=by rw[hk]
 cases s with
 |av a=>exact Rd.mono (fun b o e h=>⟨disOwn_none e,h⟩) _ _ h
 |own k' q vs=>
  by_cases e:k'=k
  ·subst e
   refine⟨by rw[hvs];exact h.1,fun hl=>?_⟩
   obtain⟨rfl,hl'⟩:=key hl
   have:=h.2 hl'
   rw[hdr_nil] at this ⊢
   exact this
  ·simp only[RelS0,hn k' e];exact h
 |ref k' q vs i o=>
  by_cases e:k'=k
  ·subst e
   refine⟨⟨by rw[hvs];exact h.1.1,h.1.2⟩,fun hl=>?_⟩
   obtain⟨rfl,hl'⟩:=key hl
   have:=h.2 hl'
   have ee:((H' k').a.at []).es=((H k').a.at []).es:=by rw[hk];exact dis_at_es _
   rw[hdr_nil] at this ⊢
   rw[ee]
   exact this
  ·simp only[RelS0,hn k' e];exact h
 |view k' q vs lo hi=>
  by_cases e:k'=k
  ·subst e
   refine⟨by rw[hvs];exact h.1,fun hl=>?_⟩
   obtain⟨rfl,hl'⟩:=key hl
   have:=h.2 hl'
   have ee:((H' k').a.at []).es=((H k').a.at []).es:=by rw[hk];exact dis_at_es _
   rw[hdr_nil] at this ⊢
   rw[ee]
   exact this
  ·simp only[RelS0,hn k' e];exact h
 |clo=>trivial
 |junk=>trivial
theorem disown_relS {w:World} {own:Own} {rt:Rt} {H H':Nat→OB} {k:Nat} (hk:H' k=⟨(H k).a.dis,(H k).vs⟩) (hn:∀k',k'≠k→H' k'=H k') {s:SV} {v:Value} (h:RelS w own rt H s v):RelS w (disOwn own k) rt H' s v:=by
 cases s with
 |clo g l=>
  obtain⟨cs,e,h1,h2⟩:=h
  exact⟨cs,e,h1,fun j s hj=>let ⟨x,f1,f2⟩:=h2 j s hj;⟨x,f1,disown_relS0 hk hn f2⟩⟩
 |av a=>exact disown_relS0 (w:=w) (own:=own) (rt:=rt) (s:=.av a) hk hn h
 |own k2 q vs=>exact disown_relS0 (w:=w) (own:=own) (rt:=rt) (s:=.own k2 q vs) hk hn h
 |ref k2 q vs i o=>exact disown_relS0 (w:=w) (own:=own) (rt:=rt) (s:=.ref k2 q vs i o) hk hn h
 |view k2 q vs lo hi=>exact disown_relS0 (w:=w) (own:=own) (rt:=rt) (s:=.view k2 q vs lo hi) hk hn h
 |junk=>trivial
theorem disown_relL {w:World} {own:Own} {rt:Rt} {H H':Nat→OB} {k:Nat} (hk:H' k=⟨(H k).a.dis,(H k).vs⟩) (hn:∀k',k'≠k→H' k'=H k') {l:List SV} {cs:Array Value} (h:RelL w own rt H l cs):RelL w (disOwn own k) rt H' l cs:=
 ⟨h.1,fun j s hj=>let ⟨x,f1,f2⟩:=h.2 j s hj;⟨x,f1,disown_relS hk hn f2⟩⟩
theorem disown_relC {w:World} {own:Own} {rt:Rt} {H H':Nat→OB} {k:Nat} (hk:H' k=⟨(H k).a.dis,(H k).vs⟩) (hn:∀k',k'≠k→H' k'=H k') {c:CV} {v:Value} (h:RelC w own rt H c v):RelC w (disOwn own k) rt H' c v:=by
 cases c with
 |one s=>exact disown_relS hk hn h
 |agg l=>obtain⟨cs,e,h⟩:=h;exact⟨cs,e,disown_relL hk hn h⟩
theorem disown_relT {w:World} {own:Own} {rt:Rt} {H H':Nat→OB} {k:Nat} (hk:H' k=⟨(H k).a.dis,(H k).vs⟩) (hn:∀k',k'≠k→H' k'=H k') {t:TV} {v:Value} (h:RelT w own rt H t v):RelT w (disOwn own k) rt H' t v:=by
 cases t with
 |one s=>exact disown_relS hk hn h
 |agg l=>obtain⟨cs,e,h⟩:=h;exact⟨cs,e,disown_relL hk hn h⟩
 |tup l=>
  obtain⟨cs,e,h1,h2⟩:=h
  exact⟨cs,e,h1,fun j c hj=>let ⟨x,f1,f2⟩:=h2 j c hj;⟨x,f1,disown_relC hk hn f2⟩⟩
 |cnd b c=>exact⟨fun e=>disown_relC hk hn (h.1 e),h.2⟩
theorem disown_sound {τ:St} {k:Nat} {a:Act} {w:World} (h:SR N w0 E F τ a w):SR N w0 E F (τ.disown k) a w:=by
 obtain⟨A,own,rt,hs,hA⟩:=h
 have hk:(τ.disown k).H k=⟨(τ.H k).a.dis,(τ.H k).vs⟩:=by
  show (if k=k then _ else _)=_
  rw[if_pos rfl]
 have hn:∀k',k'≠k→(τ.disown k).H k'=τ.H k':=fun k' e=>by
  show (if k=k' then _ else _)=_
  rw[if_neg (Ne.symm e)]
  rfl
 have hdead:∀k',τ.H k'=.dead→(τ.disown k).H k'=.dead:=fun k' e=>by
  by_cases e2:k'=k
  ·subst e2;rw[hk,e];rfl
  ·rw[hn k' e2];exact e
 refine⟨A,disOwn own k,rt,⟨⟨hs.keep,fun b x e=>?_,fun k'=>?_,fun k' e=>hdead k' (hs.dead k' e),fun b k' q e=>?_,fun b e=>?_,⟨hdead 0 hs.frn0.1,hs.frn0.2⟩⟩,hs.defers,hs.size,fun s=>disown_relT hk hn (hs.tmp s),hs.men,fun k' v e=>?_⟩,hA⟩
 ·exact hs.dom b x (disOwn_some e).1
 ·by_cases e:k'=k
  ·subst e;rw[hk];exact ow_dis (hs.obj k')
  ·rw[hn k' e]
   exact Ow.mono (fun b o e1 e2=>⟨disOwn_none e1,e2⟩) _ _ _ _ (fun b o q e1 e2=>⟨disOwn_keep e1 (fun h=>e h.1),e2⟩) (hs.obj k')
 ·exact hs.owned b k' q (disOwn_some e).1
 ·exact disOwn_keep (hs.frn b e) (by simp)
 ·obtain⟨g1,g2⟩:=hs.frz k' v e
  exact⟨g1,disown_relT hk hn g2⟩
theorem forg_sound {nm:TypeId→Bool} {op:Op} {τ:St} {a:Act} {w:World} (h:SR N w0 E F τ a w):SR N w0 E F (forg nm op τ) a w:=by
 unfold forg
 split
 ·rename_i t x
  split
  ·rename_i k _ _ _ _
   cases hn:nm t with
   |false=>exact h
   |true=>exact disown_sound h
  ·exact h
 ·exact h
theorem op_both {all:Array Oper} {Q:Exit→Act→World→Prop} {o:Oper} {r:List Oper} {σ τ:St} {a:Act} {w:World} (h:SR N w0 E F σ a w) (h':SR N w0 E F τ a w) (hg:o.guard=none) (hd:dOk N o.dst=true) (hok:(aop P o.op σ.ρ σ.H σ.n).ok) (hok':(aop P o.op τ.ρ τ.H τ.n).ok)
 (next:∀a' w',SR N w0 E F (σ.put o.dst (aop P o.op σ.ρ σ.H σ.n).v (aop P o.op σ.ρ σ.H σ.n).hu (σ.n+1)) a' w'→SR N w0 E F (τ.put o.dst (aop P o.op τ.ρ τ.H τ.n).v (aop P o.op τ.ρ τ.H τ.n).hu (τ.n+1)) a' w'→wpList P all Q r a' w'):wpList P all Q (o::r) a w:=by
 obtain⟨A,own,rt,hs,hA⟩:=h
 obtain⟨A2,own2,rt2,hs2,hA2⟩:=h'
 obtain⟨v,w',own',rt',hrun,hs'⟩:=did_op hs (dOk_lt hd) (hA _ (Nat.le_refl _)) trivial hok
 obtain⟨v2,w2',own2',rt2',hrun2,hs2'⟩:=did_op hs2 (dOk_lt hd) (hA2 _ (Nat.le_refl _)) trivial hok'
 have heq:v2=v∧w2'=w':=by
  rcases hrun with hrun|⟨hrun,rfl⟩
  ·rcases hrun2 with hrun2|⟨hrun2,rfl⟩
   ·rw[hrun] at hrun2
    simp only[Result.ok.injEq,Next.value.injEq] at hrun2
    exact⟨hrun2.1.symm,hrun2.2.symm⟩
   ·rw[hrun] at hrun2
    simp at hrun2
  ·rcases hrun2 with hrun2|⟨hrun2,rfl⟩
   ·rw[hrun] at hrun2
    simp at hrun2
   ·rw[hrun] at hrun2
    simp only[Result.ok.injEq,true_and] at hrun2
    exact⟨rfl,hrun2.symm⟩
 obtain⟨rfl,rfl⟩:=heq
 have hw:Region.wanted o (yielded all a.tmps)=true:=by unfold Region.wanted;rw[hg]
 have hn:SR N w0 E F (σ.put o.dst (aop P o.op σ.ρ σ.H σ.n).v (aop P o.op σ.ρ σ.H σ.n).hu (σ.n+1)) (a.put o.dst v2) w2':=
  ⟨_,own',rt',by rw[put_T,put_H];exact hs',fun k hk e=>by
   have hk':σ.n+1≤k:=hk
   rcases e with e|e
   ·exact hA k (by omega) e
   ·omega⟩
 have hn2:SR N w0 E F (τ.put o.dst (aop P o.op τ.ρ τ.H τ.n).v (aop P o.op τ.ρ τ.H τ.n).hu (τ.n+1)) (a.put o.dst v2) w2':=
  ⟨_,own2',rt2',by rw[put_T,put_H];exact hs2',fun k hk e=>by
   have hk':τ.n+1≤k:=hk
   rcases e with e|e
   ·exact hA2 k (by omega) e
   ·omega⟩
 simp only[wpList,hw,if_true]
 left
 unfold Oper.wp
 rcases hrun with hrun|⟨hrun,rfl⟩
 ·rw[hrun,Oper.upon_value];exact next _ _ hn hn2
 ·rw[hrun,Oper.upon_skip];exact next _ _ hn hn2
theorem prun_sound {Qf:Exit→Act→World→Prop} {nm:TypeId→Bool} {k:List It→St→Prop} (hk:∀K σ a w,k K σ→SR N w0 E F σ a w→wpIt P (SR N w0 E F) Qf K .normal a w):
 ∀(m:Nat) (K:List It) (σ τ:St) (a:Act) (w:World),prun P N nm k m K σ τ→SR N w0 E F σ a w→SR N w0 E F τ a w→wpIt P (SR N w0 E F) Qf K .normal a w:=by
 intro m
 induction m with
 |zero=>intro K σ τ a w h _ _;exact h.elim
 |succ m ih=>
  intro K σ τ a w h hs ht
  cases K with
  |nil=>exact h.elim
  |cons it K=>
   cases it with
   |blk id=>exact ih K σ τ a w h hs ht
   |lp J=>exact h.elim
   |code c=>
    cases c with
    |skip=>exact wp_skip (ih K σ τ a w h hs ht)
    |seq x y=>exact wp_seq (ih (.code x::.code y::K) σ τ a w h hs ht)
    |cond c x y=>
     simp only[prun] at h
     split at h
     ·rename_i b hc
      have hs0:=hs
      obtain⟨A,own,rt,h1,h2⟩:=hs0
      have hv:a.eval c=.bool b:=by
       have:=opd_rel h1 c
       have hc':opd σ.T c=.one (.av (.bool b)):=hc
       rw[hc'] at this
       exact this
      exact wp_cond_split hv (fun e=>ih (.code x::K) σ τ a w (h.1 e) hs ht) (fun e=>ih (.code y::K) σ τ a w (h.2 e) hs ht)
     ·exact h.elim
    |block id c=>exact wp_block (ih (.code c::.blk id::K) σ τ a w h hs ht)
    |exit id=>exact wp_exit (wpIt_exit h.1 (ih (unw id K) σ τ a w h.2 hs ht))
    |region id ops draw=>
     cases draw with
     |false=>exact wp_region_list (ih (.ops ops.toList ops::K) σ τ a w h hs ht)
     |true=>exact hk _ σ a w h hs
    |_=>exact hk _ σ a w h hs
   |ops l all=>
    show wpList P all (wpIt P (SR N w0 E F) Qf K) l a w
    cases l with
    |nil=>exact ih K σ τ a w h hs ht
    |cons o r=>
     simp only[prun] at h
     split at h
     ·rename_i hg hcl
      obtain⟨⟨h1,h2⟩,h3,h4,h5⟩:=h
      exact op_both hs (forg_sound ht) hg h2 h3 h4 (fun a' w' hs' ht'=>ih (.ops r all::K) _ _ a' w' h5 hs' ht')
     ·rename_i f xs hg hcl
      split at h
      ·rename_i fid cap hf
       obtain⟨h1,h2,R,hcon,hrest⟩:=h
       obtain⟨A,own,rt,hs1,hA⟩:=hs
       obtain⟨A2,own2,rt2,ht1,hA2⟩:=ht
       have hw:Region.wanted o (yielded all a.tmps)=true:=by unfold Region.wanted;rw[hg]
       simp only[wpList,hw,if_true]
       left
       refine call_made ht1 hcl hf rfl h2 hcon (fun own0 w' v rv h0 hr hgv=>?_)
       obtain⟨hcl2,hrun⟩:=hrest rv hr
       obtain⟨A',own'',rt'',q1,q2⟩:=ret_sound (bw:=true) hs1 (fun k hk _=>hA k hk) (fun e=>by cases e) hgv (fun _=>hcl2) (dOk_lt h1)
       exact hk (.ops r all::K) _ _ _ hrun ⟨A',own'',rt'',by unfold St.ret;rw[put_T,put_H];exact q1,fun k hk e=>by
        have hk':σ.n+1+rv.cells.length≤k:=hk
        rcases q2 k e with e|e
        ·exact hA k (by omega) e
        ·omega⟩
      ·exact h.elim
     ·exact h.elim
end
section
variable {N:Nat} {w0:World} {E:Nat→Prop} {F:Frm} {P:Program} {fin:Fin}
theorem arun_sound (hmx:P.follows .mixedOrders=true) {Qf:Exit→Act→World→Prop} (hQ:∀σ a w,FinK P fin σ→SR N w0 E F σ a w→Qf .normal a w∧Qf .ret a w):
 ∀(m:Nat) (K:List It) (σ:St) (a:Act) (w:World),arun P N fin m K σ→SR N w0 E F σ a w→wpIt P (SR N w0 E F) Qf K .normal a w:=by
 intro m
 induction m with
 |zero=>intro K σ a w h _;exact h.elim
 |succ m ih=>
  intro K σ a w h hs
  cases K with
  |nil=>exact(hQ σ a w h hs).1
  |cons it K=>
   cases it with
   |blk id=>exact ih K σ a w h hs
   |lp J=>exact⟨σ,hs,h⟩
   |code c=>
    show c.wp P (wpIt P (SR N w0 E F) Qf K) a w
    cases c with
    |skip=>exact wp_skip (ih K σ a w h hs)
    |seq x y=>exact wp_seq (ih (.code x::.code y::K) σ a w h hs)
    |cond c x y=>
     simp only[arun] at h
     split at h
     ·rename_i b hc
      obtain⟨A,own,rt,h1,h2⟩:=hs
      have hv:a.eval c=.bool b:=by
       have:=opd_rel h1 c
       have hc':opd σ.T c=.one (.av (.bool b)):=hc
       rw[hc'] at this
       exact this
      exact wp_cond_split hv (fun e=>ih (.code x::K) σ a w (h.1 e) ⟨A,own,rt,h1,h2⟩) (fun e=>ih (.code y::K) σ a w (h.2 e) ⟨A,own,rt,h1,h2⟩)
     ·exact h.elim
    |block id c=>exact wp_block (ih (.code c::.blk id::K) σ a w h hs)
    |exit id=>exact wp_exit (wpIt_exit h.1 (ih (unw id K) σ a w h.2 hs))
    |ret=>exact wp_ret (wpIt_ret (hQ σ a w h hs).2)
    |region id ops draw=>
     cases draw with
     |false=>exact wp_region_list (ih (.ops ops.toList ops::K) σ a w h hs)
     |true=>
      simp only[arun] at h
      cases hc:fin.c with
      |false=>
       rw[hc,cond_false] at h
       exact draw_sound hmx hs h (fun σ' a' w' h1 h2=>ih K σ' a' w' h1 h2)
      |true=>
       rw[hc,cond_true] at h
       exact drawC_sound hmx hs h (fun σ' a' w' h1 h2=>ih K σ' a' w' h1 h2)
    |loop body=>
     obtain⟨X,S,Inv,μ,⟨x0,i0,l0⟩,hround⟩:=h
     refine wp_loop_fam (fun x a w=>Inv x∧SR N w0 E F (S x) a w) μ ⟨x0,i0,l0 N w0 E F a w hs⟩ (fun x a w hx=>?_)
     have:=ih _ (S x) a w (hround x hx.1) hx.2
     refine wp_mono this (fun e a' w' hq=>?_)
     cases e with
     |normal=>
      obtain⟨σ',g1,x',g2,g3,g4⟩:=hq
      exact⟨x',⟨g3,g2 N w0 E F a' w' g1⟩,g4⟩
     |_=>exact hq
    |_=>exact h.elim
   |ops l all=>
    show wpList P all (wpIt P (SR N w0 E F) Qf K) l a w
    cases l with
    |nil=>exact ih K σ a w h hs
    |cons o r=>
     have ih':∀σ a w,arun P N fin m (.ops r all::K) σ→SR N w0 E F σ a w→wpList P all (wpIt P (SR N w0 E F) Qf K) r a w:=fun σ a w h1 h2=>ih (.ops r all::K) σ a w h1 h2
     simp only[arun] at h
     split at h
     ·rename_i hg hcl
      obtain⟨h1,h2,h3,h4⟩:=h
      exact sound_op hs hg h1 h2 h3 (fun a' w' hs'=>ih' _ a' w' h4 hs')
     ·rename_i f xs hg hcl
      split at h
      ·rename_i fid cap hf
       obtain⟨h1,h2,h3⟩:=h
       rcases h3 with h3|⟨R,hcon,hrest⟩
       ·exact sound_call hs hg hcl hf h1 h2 h3 (fun σ' a' w' g1 g2=>ih' σ' a' w' g1 g2)
       obtain⟨A,own,rt,hs1,hA⟩:=hs
       have hw:Region.wanted o (yielded all a.tmps)=true:=by unfold Region.wanted;rw[hg]
       simp only[wpList,hw,if_true]
       left
       refine call_made hs1 hcl hf rfl h2 hcon (fun own0 w' v rv h0 hr hgv=>?_)
       obtain⟨hcl2,nm,m',hrun⟩:=hrest rv hr
       obtain⟨A',own'',rt'',q1,q2⟩:=ret_sound hs1 (fun k hk _=>hA k hk) h0 hgv hcl2 (dOk_lt h1)
       have hS:SR N w0 E F (σ.ret o.dst (borA σ.H (xs.map σ.ρ++cap)).2.1 rv) (a.put o.dst v) w':=⟨A',own'',rt'',by unfold St.ret;rw[put_T,put_H];exact q1,fun k hk e=>by
        have hk':σ.n+1+rv.cells.length≤k:=hk
        rcases q2 k e with e|e
        ·exact hA k (by omega) e
        ·omega⟩
       exact prun_sound (fun K σ a w g1 g2=>ih K σ a w g1 g2) m' (.ops r all::K) _ _ _ _ hrun hS hS
      ·exact h.elim
     ·rename_i g want hg hcl
      split at h
      ·rename_i t ht
       split at h
       ·rename_i gc hgc
        obtain⟨h1,h2,h3,h4⟩:=h
        exact sound_guard hs hg ht hgc h1 h2 h3 (fun a' w' hs'=>ih' _ a' w' h4 hs')
       ·exact h.elim
      ·exact h.elim
     ·rename_i g want f xs hg hcl
      split at h
      ·rename_i t fid cap ht hf
       split at h
       ·rename_i gc hgc
        obtain⟨h1,h2,h3⟩:=h
        exact sound_callG hs hg ht hgc hcl hf h1 h2 h3 (fun σ' a' w' g1 g2=>ih' σ' a' w' g1 g2)
       ·exact h.elim
      ·exact h.elim
end
end Go.AM
/- The framework AM,part 23:a function's contract out of the run of its body. -/
namespace Go.AM
open Go
section
variable {N:Nat} {w0:World} {E A:Nat→Prop} {F:Frm} {T:Nat→TV} {H:Nat→OB} {a:Act} {w w':World} {own own':Own} {rt:Rt} {P:Program} {o:Oper} {n:Nat} {σ:St}
theorem ALeL.get:∀{l m:List AV},ALeL l m→l.length=m.length∧∀(j:Nat) (b:AV),m[j]?=some b→∃x,l[j]?=some x∧ALe x b
 |[],[],_=>⟨rfl,fun j b h=>by simp at h⟩
 |[],_::_,h=>h.elim
 |_::_,[],h=>h.elim
 |x::l,y::m,h=>by
  obtain⟨h1,h2⟩:=h
  obtain⟨i1,i2⟩:=ALeL.get h2
  refine⟨by simp[i1],fun j b hj=>?_⟩
  cases j with
  |zero=>simp at hj;subst hj;exact⟨x,rfl,h1⟩
  |succ j=>obtain⟨z,f1,f2⟩:=i2 j b (by simpa using hj);exact⟨z,by simpa using f1,f2⟩
theorem ALeT.rel {t u:AT} (h:ALeT t u) {c:Nat} {v:Value} (hr:RelR1 w own c t v):RelR1 w own c u v∧t.cells.length=u.cells.length:=by
 cases t with
 |one x=>cases u with
  |one y=>exact⟨ALe.ow h hr,rfl⟩
  |agg m=>exact h.elim
 |agg l=>cases u with
  |one y=>exact h.elim
  |agg m=>
   obtain⟨h1,h2⟩:=ALeL.get h
   obtain⟨cs,rfl,g1,g2⟩:=hr
   refine⟨⟨cs,rfl,by rw[g1,h1],fun j b hj=>?_⟩,h1⟩
   obtain⟨x,f1,f2⟩:=h2 j b hj
   obtain⟨z,k1,k2⟩:=g2 j x f1
   exact⟨z,k1,f2.ow k2⟩
theorem RLe.rel {r r':RV} (h:RLe r r') {v:Value} (hr:RelR w own r v):RelR w own r' v:=by
 cases r with
 |val t=>cases r' with
  |val u=>exact(ALeT.rel h hr).1
  |tup l=>exact h.elim
 |tup l=>cases r' with
  |val u=>exact h.elim
  |tup m=>
   obtain⟨cs,rfl,hr⟩:=hr
   refine⟨cs,rfl,?_⟩
   have:∀(l m:List AT) (c:Nat) (vs:List Value),ALeTL l m→RelRL w own c l vs→RelRL w own c m vs:=by
    intro l
    induction l with
    |nil=>intro m c vs hm hr;cases m with
     |nil=>exact hr
     |cons=>exact hm.elim
    |cons t l ih=>
     intro m c vs hm hr
     cases m with
     |nil=>exact hm.elim
     |cons u m=>
      cases vs with
      |nil=>exact hr.elim
      |cons v vs=>
       obtain⟨q1,q2⟩:=ALeT.rel hm.1 hr.1
       exact⟨q1,ih m _ vs hm.2 (by rw[←q2];exact hr.2)⟩
   exact this l m 1 _ h hr
def RelF (w:World) (own:Own) (n c:Nat):AT→Value→Prop
 | .one b,v=>Ow w own n b [(0,c)] v
 | .agg l,v=>∃cs,v=.agg cs∧cs.size=l.length∧∀(j:Nat) (b:AV),l[j]?=some b→∃x,cs[j]?=some x∧Ow w own n b [(0,c+j)] x
def RelFL (w:World) (own:Own) (n:Nat):Nat→List AT→List Value→Prop
 |_,[],[]=>True
 |c,t::r,v::vs=>RelF w own n c t v∧RelFL w own n (c+t.cells.length) r vs
 |_,_,_=>False
theorem RelF.mvd (hm:Mvd own own' n) {c:Nat} {t:AT} {v:Value} (h:RelF w own n c t v):RelF w own' n c t v:=by
 have key:∀{b:AV} {p:Path} {x:Value},Ow w own n b p x→Ow w own' n b p x:=fun h=>
  Ow.mono (fun b o e1 e2=>⟨hm.none b e1,e2⟩) _ _ _ _ (fun b o q e1 e2=>⟨hm.stay b _ e1,e2⟩) h
 cases t with
 |one b=>exact key h
 |agg l=>
  obtain⟨cs,rfl,h1,h2⟩:=h
  exact⟨cs,rfl,h1,fun j b hj=>let ⟨x,f1,f2⟩:=h2 j b hj;⟨x,f1,key f2⟩⟩
noncomputable def resV (P:Program) (a:Act) (w:World):ResultVar→Value
 | .tmp t=>a.tmps.getD t undef
 | .cell x t=>(match (Instr.loadAt t (a.tmps.getD x undef)).run P w with| .ok v _=>v|_=>undef)
def resGot (P:Program) (a:Act) (w:World):ResultVar→Prop
 | .tmp _=>True
 | .cell x t=>(Instr.loadAt t (a.tmps.getD x undef)).run P w=.ok (resV P a w (.cell x t)) w
theorem run_loadAt {t:TypeId} {v u:Value} {w:World} (h:(Instr.loadAt t v).run P w=.ok u w):(do loadVar t (←asAddr v):Sem Value).run P w=.ok u w:=by
 unfold Instr.loadAt at h
 rw[Sem.run_bind] at h ⊢
 cases v with
 |pointer o=>
  cases o with
  |some ad=>exact h
  |none=>simp[Instr.sureAddr,stuck] at h
 |_=>simp[Instr.sureAddr,stuck] at h
theorem mapM_res:∀(l:List ResultVar),(∀x∈l,resGot P a w x)→(l.mapM (m:=Sem) (fun x=>match x with
 | .tmp t=>(pure (a.tmps.getD t undef):Sem Value)
 | .cell x t=>do loadVar t (←asAddr (a.tmps.getD x undef)))).run P w=.ok (l.map (resV P a w)) w:=by
 intro l
 induction l with
 |nil=>intro _;rfl
 |cons x l ih=>
  intro hl
  have hx:=hl x (by simp)
  have:=ih (fun y hy=>hl y (by simp[hy]))
  cases x with
  |tmp t=>
   simp only[List.mapM_cons,List.map_cons]
   simp only[Sem.run_bind,Sem.run_pure,Result.andThen_ok,this]
   rfl
  |cell x t=>
   have e:=run_loadAt hx
   simp only[List.mapM_cons,List.map_cons]
   rw[Sem.run_bind,e]
   simp only[Sem.run_bind,Sem.run_pure,Result.andThen_ok,this]
theorem results_list {fn:Func} (h:∀x∈fn.results.toList,resGot P a w x):
 (results fn a.tmps).run P w=.ok (match fn.results.toList.map (resV P a w) with|[v]=>v|l=>.tuple l.toArray) w:=by
 have e:=mapM_res (P:=P) (a:=a) (w:=w) fn.results.toList h
 unfold results
 rw[Array.mapM_eq_mapM_toList]
 have map_run:∀{α β:Type} (f:α→β) (x:Sem α) (v:α),x.run P w=.ok v w→(f<$>x).run P w=.ok (f v) w:=by
  intro α β f x v hx
  have:f<$>x=x>>=fun y=>pure (f y):=rfl
  rw[this,Sem.run_bind,hx]
  simp
 rw[Sem.run_bind]
 refine(congrArg (fun r=>Result.andThen r _) (map_run List.toArray _ _ e)).trans ?_
 simp only[Result.andThen_ok]
 cases hl:fn.results.toList.map (resV P a w) with
 |nil=>simp
 |cons v vs=>cases vs with
  |nil=>simp
  |cons v2 vs=>simp
theorem resOk_got (hs:SRf N w0 E F A σ.T σ.H a w own rt) {x:ResultVar} (h:resOk P σ x):resGot P a w x∧RelT w own rt σ.H (resTV P σ x) (resV P a w x):=by
 cases x with
 |tmp t=>exact⟨trivial,hs.tmp t⟩
 |cell x t=>
  obtain ⟨v, h1, h2, _⟩ := pure_load (o := ⟨none, .load t (.tmp x), 0, "", #[], none⟩) (n := σ.n) hs rfl h
  have e:(Instr.loadAt t (a.tmps.getD x undef)).run P w=.ok v w:=by
   have h3 : (execOp a.eval ⟨none, .load t (.tmp x), 0, "", #[], none⟩).run P w = .ok (.value v) w := h1
   simp only[execOp] at h3
   have ee:a.eval (.tmp x)=a.tmps.getD x undef:=rfl
   rw[ee] at h3
   cases hr:(Instr.loadAt t (a.tmps.getD x undef)).run P w with
   |ok u w2=>
    rw[Sem.run_bind,hr] at h3
    simp at h3
    obtain⟨rfl,rfl⟩:=h3
    rfl
   |halt x w2=>rw[Sem.run_bind,hr] at h3;simp at h3
  have e2:resV P a w (.cell x t)=v:=by simp only[resV,e]
  exact⟨by show Sem.run P (Instr.loadAt t (a.tmps.getD x undef)) w=Result.ok (resV P a w (ResultVar.cell x t)) w;rw[e2];exact e,by rw[e2];exact h2⟩
theorem resSto_ok:∀{res:List ResultVar} {H:Nat→OB},(resSto P σ H res).1→∀x∈res,resOk P σ x
 |[],_,_,x,hx=>by cases hx
 |y::r,H,h,x,hx=>by
  rcases List.mem_cons.1 hx with rfl|hx
  ·exact h.1
  ·exact resSto_ok h.2.2 x hx
theorem gatherR (hA:A n):∀(res:List ResultVar) (c0:Nat) (H:Nat→OB) (own:Own),WRf w0 E F A H w own rt→H n=.dead→(∀x∈res,RelT w own rt H (resTV P σ x) (resV P a w x))→(resSto P σ H res).1→
 ∃own' H',WRf w0 E F A H' w own' rt∧Mvd own own' n∧RelFL w own' n c0 (resSto P σ H res).2 (res.map (resV P a w))
 |[],c0,H,own,h,hn,_,_=>⟨own,H,h,Mvd.refl _ _,trivial⟩
 |x::r,c0,H,own,h,hn,hr,hok=>by
  have hx:=hr x (by simp)
  have hok:=hok.2
  obtain⟨own1,g1,g2,g3,g4,g5,g6,g7⟩:=gatherT h hn hA (fun j=>[(0,c0+j)]) hok.1 hx
  have hf:RelF w own1 n c0 (atOf (sto H (resTV P σ x)).cs (resTV P σ x)) (resV P a w x):=by
   have hok1:=hok.1
   generalize resTV P σ x=t at *
   cases t with
   |agg l=>
    obtain⟨cs,e,h1,h2⟩:=hx
    refine⟨cs,e,?_,fun j b hj=>?_⟩
    ·rw[e] at g1;exact g1
    ·obtain⟨z,f1,f2⟩:=g3 j b hj
     rw[e] at f1
     exact⟨z,f1,f2⟩
   |one s=>
    obtain⟨own2,y,e1,_,_,_,e4,_⟩:=gather1 h hn hA hok1 hx [(0,c0)]
    have hcs:(sto H (.one s)).cs=[y]:=e1
    obtain⟨z,f1,f2⟩:=g3 0 y (by rw[hcs];rfl)
    rw[e4] at f1
    simp at f1
    subst f1
    simp only[atOf,hcs,gl,RelF]
    exact f2
   |_=>exact hok1.elim
  obtain⟨own2,H2,k1,k2,k3⟩:=gatherR hA r (c0+(atOf (sto H (resTV P σ x)).cs (resTV P σ x)).cells.length) (updH H (sto H (resTV P σ x)).hu) own1 g2 g7 (fun y hy=>RelT.over (fun b o z1 z2=>⟨g5.none b z1,z2⟩) (fun k _=>g6 k) (hr y (by simp[hy]))) hok.2
  exact⟨own2,H2,k1,g5.trans k2,hf.mvd k2,k3⟩
def rest (own:Own) (n:Nat):Own:=fun b=>
 match own b with
 |some (k,q)=>if k=0 then some (0,q) else if k=n then (match q with|(_,c)::q=>some (1+c,q)|[]=>none) else none
 |none=>none
theorem fin_sound {fin:Fin} {own0:Own} (hs:SRf N w0 (fun _=>False) F A σ.T σ.H a w own rt) (hn:¬A n) (hF:∀b,own0 b=none↔¬F b) (hfin:FinK P fin σ):
 (∀x∈fin.res,resGot P a w x)∧∃r,fin.R r∧Gives w0 own0 w r (match fin.res.map (resV P a w) with|[v]=>v|l=>.tuple l.toArray):=by
 obtain⟨_,hok,r,hle,hR⟩:=hfin
 have hH:=hs.dead n hn
 have n0:=not_zero hs.toWRf hn
 have hgot:=fun x hx=>resOk_got (P:=P) hs (resSto_ok hok x hx)
 obtain⟨own1,H1,g1,g2,g3⟩:=gatherR (a:=a) (n:=n) (.inr rfl) fin.res 0 σ.H own (hs.toWRf.more n) hH (fun x hx=>(hgot x hx).2) hok
 have h0:∀b o,own1 b=none→w.heap[b]?=some o→rest own1 n b=none∧w.heap[b]?=some o:=fun b o e1 e2=>⟨by simp[rest,e1],e2⟩
 have key:∀{b:AV} {c:Nat} {x:Value},Ow w own1 n b [(0,c)] x→Ow w (rest own1 n) (1+c) b [] x:=fun h=>
  Ow.mono h0 _ _ _ _ (fun b o q e1 e2=>⟨by simp[rest,e1,n0],e2⟩) h
 have key1:∀{t:AT} {c:Nat} {v:Value},RelF w own1 n c t v→RelR1 w (rest own1 n) (1+c) t v:=by
  intro t c v h
  cases t with
  |one b=>exact key h
  |agg l=>
   obtain⟨cs,rfl,h1,h2⟩:=h
   exact⟨cs,rfl,h1,fun j b hj=>let ⟨x,f1,f2⟩:=h2 j b hj;⟨x,f1,by rw[Nat.add_assoc];exact key f2⟩⟩
 have keyL:∀(l:List AT) (c:Nat) (vs:List Value),RelFL w own1 n c l vs→RelRL w (rest own1 n) (1+c) l vs:=by
  intro l
  induction l with
  |nil=>intro c vs h;cases vs<;>exact h
  |cons t l ih=>
   intro c vs h
   cases vs with
   |nil=>exact h.elim
   |cons v vs=>exact⟨key1 h.1,by rw[Nat.add_assoc];exact ih _ vs h.2⟩
 refine⟨fun x hx=>(hgot x hx).1,r,hR,hs.keep,rest own1 n,fun b x e=>?_,fun b hb=>?_,fun b k q hb e=>?_,RLe.rel hle ?_⟩
 ·cases ho:own1 b with
  |none=>simp[rest,ho] at e
  |some y=>exact(g1.dom b y ho).1
 ·constructor
  ·intro e
   have hnF:=(hF b).1 e
   cases ho:own1 b with
   |none=>simp[rest,ho]
   |some y=>
    rcases (g1.dom b y ho).2 with e|e|e
    ·omega
    ·exact e.elim
    ·exact absurd e hnF
  ·intro e
   refine(hF b).2 (fun hf=>?_)
   simp[rest,g1.frn b hf] at e
 ·cases ho:own1 b with
  |none=>simp[rest,ho] at e
  |some y=>
   rcases (g1.dom b y ho).2 with e'|e'|e'
   ·omega
   ·exact e'.elim
   ·simp only[rest,g1.frn b e',if_true,Option.some.injEq,Prod.mk.injEq] at e
    exact e.1.symm
 ·have hL:=keyL _ 0 _ g3
  cases hr:(resSto P σ σ.H fin.res).2 with
  |nil=>
   rw[hr] at hL
   cases hv:fin.res.map (resV P a w) with
   |nil=>exact⟨#[],rfl,trivial⟩
   |cons v vs=>rw[hv] at hL;exact hL.elim
  |cons t l=>
   rw[hr] at hL
   cases hv:fin.res.map (resV P a w) with
   |nil=>rw[hv] at hL;exact hL.elim
   |cons v vs=>
    rw[hv] at hL
    cases l with
    |nil=>
     cases vs with
     |nil=>exact hL.1
     |cons v2 vs=>exact hL.2.elim
    |cons t2 l=>
     cases vs with
     |nil=>exact hL.2.elim
     |cons v2 vs=>exact⟨(v::v2::vs).toArray,rfl,hL⟩
theorem lk_startT:∀(l:List AT) (i s:Nat),lk TV.junk (startT i l) s=if i≤s then (match l[s - i]? with|some t=>t.tv|none=>.junk) else .junk
 |[],i,s=>by simp[startT,lk]
 |t::r,i,s=>by
  simp only[startT,lk]
  rw[lk_startT r (i+1) s]
  by_cases e:i=s
  ·subst e;simp
  ·rw[if_neg e]
   by_cases h:i≤s
   ·rw[if_pos h,if_pos (by omega)]
    obtain⟨d,rfl⟩:∃d,s=i+1+d:=⟨s - (i+1),by omega⟩
    rw[show i+1+d - (i+1)=d by omega,show i+1+d - i=d+1 by omega]
    simp
   ·rw[if_neg h,if_neg (by omega)]
theorem start_sr {fn:Func} {args:List AT} {own0:Own} {w:World} {vs:Array Value} (hown:∀b,own0 b≠none→b<w.heap.size) (hvs:vs.size=args.length) (hargs:∀(i:Nat) (t:AT),args[i]?=some t→∃v,vs[i]?=some v∧RelA w own0 t v) (hlen:args.length≤fn.ntmps):
 SR fn.ntmps w (fun _=>False) (⟨fun b=>own0 b≠none,fun _=>none,fun _ h=>absurd rfl h⟩:Frm) ⟨startT 0 args,[],1⟩ { tmps:=vs++Array.replicate (fn.ntmps - vs.size) undef,defers:=[]} w:=by
 refine⟨fun k=>k=0,fun b=>if own0 b≠none then some (0,[]) else none,fun _=>undef,⟨⟨Keep.refl _ _,fun b x e=>?_,fun k=>trivial,fun k hk=>rfl,fun b k q e=>?_,fun b hb=>if_pos hb,rfl,rfl⟩,rfl,by simp;omega,fun s=>?_,fun s k hk=>?_,fun k v e=>nomatch e⟩,fun k hk e=>?_⟩
 ·by_cases hb:own0 b≠none
  ·exact⟨hown b hb,.inr (.inr hb)⟩
  ·rw[if_neg hb] at e;cases e
 ·by_cases hb:own0 b≠none
  ·rw[if_pos hb] at e;cases e;rfl
  ·rw[if_neg hb] at e;cases e
 ·have e:(St.T ⟨startT 0 args,[],1⟩) s=(match args[s]? with|some t=>t.tv|none=>.junk):=by
   show lk TV.junk (startT 0 args) s=_
   rw[lk_startT,if_pos (Nat.zero_le _)];rfl
  rw[e]
  cases hs:args[s]? with
  |none=>trivial
  |some t=>
   obtain⟨v,h1,h2⟩:=hargs s t hs
   have hlt:s<vs.size:=(Array.getElem?_eq_some_iff.1 h1).1
   have hv:(vs++Array.replicate (fn.ntmps - vs.size) undef).getD s undef=v:=by
    rw[Array.getD_eq_getD_getElem?,Array.getElem?_append_left hlt,h1];rfl
   simp only[hv]
   have hm:∀b (o:Obj),own0 b=none→w.heap[b]?=some o→(if own0 b≠none then some ((0:Root),([]:Path)) else none)=none∧w.heap[b]?=some o:=fun b o e1 e2=>⟨if_neg (by simp[e1]),e2⟩
   cases t with
   |one b=>exact Rd.mono hm _ _ h2
   |agg l=>
    obtain⟨cs,rfl,g1,g2⟩:=h2
    refine⟨cs,rfl,by simpa using g1,fun j s hj=>?_⟩
    simp only[List.getElem?_map,Option.map_eq_some_iff] at hj
    obtain⟨b,hb,rfl⟩:=hj
    obtain⟨x,f1,f2⟩:=g2 j b hb
    exact⟨x,f1,Rd.mono hm _ _ f2⟩
 ·exfalso
  have e:(St.T ⟨startT 0 args,[],1⟩) s=(match args[s]? with|some t=>t.tv|none=>.junk):=by
   show lk TV.junk (startT 0 args) s=_
   rw[lk_startT,if_pos (Nat.zero_le _)];rfl
  rw[e] at hk
  split at hk
  ·rename_i t _
   cases t with
   |one b=>exact hk
   |agg l=>
    obtain⟨s,hs,hk⟩:=hk
    simp only[List.mem_map] at hs
    obtain⟨b,_,rfl⟩:=hs
    exact hk
  ·exact hk
 ·have hk':1≤k:=hk
  omega
theorem ACalls.of_run0 {c : Bool} {f : FuncId} {fn : Func} {cd : Code} {args : List AT} {R : RV → Prop} {m : Nat} (hmx : P.follows .mixedOrders = true) (hf : P.funcs[f]? = some fn) (hb : fn.body = some cd) (hname : (fn.name == "runtime.NumGoroutine") = false) (hlen : args.length ≤ fn.ntmps)
 (h:arun P fn.ntmps ⟨fn.results.toList,R,fun _=>True,c⟩ m [.code cd] ⟨startT 0 args,[],1⟩):ACalls P f args R:=by
 refine⟨fun vs w=>?_,fun own0 w vs hown hvs hargs=>?_⟩
 ·have hne : ¬ fn.name = "runtime.NumGoroutine" := by intro e; rw [e] at hname; exact absurd hname (by decide)
  simp[callFunc,hf,hb,hne]
 ·refine calls_of_wp hf hb ?_
  have hstart:SR fn.ntmps w (fun _=>False) (⟨fun b=>own0 b≠none,fun _=>none,fun k h=>absurd rfl h⟩:Frm) ⟨startT 0 args,[],1⟩ { tmps:=vs++Array.replicate (fn.ntmps - vs.size) undef,defers:=[]} w:=start_sr hown hvs hargs hlen
  have hQ:∀σ a w',FinK P ⟨fn.results.toList,R,fun _=>True,c⟩ σ→SR fn.ntmps w (fun _=>False) (⟨fun b=>own0 b≠none,fun _=>none,fun k h=>absurd rfl h⟩:Frm) σ a w'→
   (a.defers=[]∧∃v,(results fn a.tmps).run P w'=.ok v w'∧∃v' r,Ending.returned v=.returned v'∧R r∧Gives w own0 w' r v'):=by
   rintro σ a w' hfin ⟨A,own,rt,h1,h2⟩
   obtain⟨q1,r,q2,q3⟩:=fin_sound (own0:=own0) h1 (h2 σ.n (Nat.le_refl _)) (fun b=>by simp) hfin
   refine⟨h1.defers,_,?_,_,r,rfl,q2,q3⟩
   exact results_list q1
  have:=arun_sound (P:=P) hmx (Qf:=bodyPost P fn (fun e w'=>∃v r,e=.returned v∧R r∧Gives w own0 w' r v)) (fun σ a w' h1 h2=>⟨hQ σ a w' h1 h2,hQ σ a w' h1 h2⟩) m [.code cd] _ _ _ h hstart
  refine wp_mono this (fun e a w' hq=>?_)
  cases e<;>exact hq
theorem ACalls.of_run {f : FuncId} {fn : Func} {c : Code} {args : List AT} {R : RV → Prop} {m : Nat} (hmx : P.follows .mixedOrders = true) (hf : P.funcs[f]? = some fn) (hb : fn.body = some c) (hname : (fn.name == "runtime.NumGoroutine") = false) (hlen : args.length ≤ fn.ntmps)
 (h:arun P fn.ntmps ⟨fn.results.toList,R,fun _=>True,false⟩ m [.code c] ⟨startT 0 args,[],1⟩):ACalls P f args R:=ACalls.of_run0 hmx hf hb hname hlen h
theorem ACalls.of_runC {f : FuncId} {fn : Func} {c : Code} {args : List AT} {R : RV → Prop} {m : Nat} (hmx : P.follows .mixedOrders = true) (hf : P.funcs[f]? = some fn) (hb : fn.body = some c) (hname : (fn.name == "runtime.NumGoroutine") = false) (hlen : args.length ≤ fn.ntmps)
 (h:arun P fn.ntmps ⟨fn.results.toList,R,fun _=>True,true⟩ m [.code c] ⟨startT 0 args,[],1⟩):ACalls P f args R:=ACalls.of_run0 hmx hf hb hname hlen h
end
end Go.AM
/- The framework AM,part 24:what one state says,another says too. -/
namespace Go.AM
open Go
def AV.okq:AV→Path→Prop
 |_,[]=>True
 | .sl _ _ es n f,(i,j)::p=>i<n∧j<es∧(f i j).okq p
 |_,_=>False
theorem AV.okp.okq:∀{p:Path} {a:AV},a.okp p→a.okq p:=by
 intro p
 induction p with
 |nil=>intro a _;cases a<;>trivial
 |cons ij p ih=>
  obtain⟨i,j⟩:=ij
  intro a h
  cases a with
  |sl u nl es n f=>
   cases u with
   |true=>exact⟨h.1,h.2.1,ih h.2.2⟩
   |false=>exact h.elim
  |_=>exact h.elim
theorem ALe.okq {a b:AV} (h:ALe a b):∀{p:Path},b.okq p→a.okq p:=by
 induction h with
 |refl a=>exact fun h=>h
 |junk a=>intro p h;cases p with
  |nil=>cases a<;>trivial
  |cons x p=>exact h.elim
 |rng k lo hi n h1 h2=>intro p h;cases p with
  |nil=>trivial
  |cons x p=>exact h.elim
 |rngs k lo hi lo' hi' h1 h2=>intro p h;cases p with
  |nil=>trivial
  |cons x p=>exact h.elim
 |nl u nl es n f=>intro p h;cases p with
  |nil=>trivial
  |cons x p=>exact h
 |nil u es es' f g=>intro p h;cases p with
  |nil=>trivial
  |cons x p=>exact absurd h.1 (Nat.not_lt_zero _)
 |sl u nl es n f g h0 ih=>intro p h;cases p with
  |nil=>trivial
  |cons x p=>exact⟨h.1,h.2.1,ih _ h.1 _ h.2.1 h.2.2⟩
 |ptr m f g h0 ih=>intro p h;cases p with
  |nil=>trivial
  |cons x p=>exact h.elim
 |trans a b c _ _ ih ih'=>exact fun h=>ih (ih' h)
theorem ALe.hdr {w:World} {a b:AV} (h:ALe a b):∀{p:Path} {v:Value},b.okq p→AM.hdr w a v p=AM.hdr w b v p:=by
 induction h with
 |refl a=>intros;rfl
 |junk a=>intro p v h;cases p with
  |nil=>rw[hdr_nil,hdr_nil]
  |cons x p=>exact h.elim
 |rng k lo hi n h1 h2=>intro p v h;cases p with
  |nil=>rw[hdr_nil,hdr_nil]
  |cons x p=>exact h.elim
 |rngs k lo hi lo' hi' h1 h2=>intro p v h;cases p with
  |nil=>rw[hdr_nil,hdr_nil]
  |cons x p=>exact h.elim
 |nl u nl es n f=>intro p v h;cases p with
  |nil=>rw[hdr_nil,hdr_nil]
  |cons x p=>cases v with
   |slice o n' cap=>cases o<;>rfl
   |_=>rfl
 |nil u es es' f g=>intro p v h;cases p with
  |nil=>rw[hdr_nil,hdr_nil]
  |cons x p=>exact absurd h.1 (Nat.not_lt_zero _)
 |sl u nl es n f g h0 ih=>intro p v h;cases p with
  |nil=>rw[hdr_nil,hdr_nil]
  |cons x p=>
   obtain⟨i,j⟩:=x
   have:=fun x=>ih i h.1 j h.2.1 (p:=p) (v:=x) h.2.2
   have e:(fun x=>AM.hdr w (f i j) x p)=(fun x=>AM.hdr w (g i j) x p):=funext this
   cases v with
   |slice o n' cap=>
    cases o with
    |some ad=>simp only[AM.hdr,e]
    |none=>rfl
   |_=>rfl
 |ptr m f g h0 ih=>intro p v h;cases p with
  |nil=>rw[hdr_nil,hdr_nil]
  |cons x p=>exact h.elim
 |trans a b c h1 h2 ih ih'=>intro p v h;rw[ih (h2.okq h),ih' h]
abbrev Ren:=List (Nat×Nat)
def rn:Ren→Nat→Option Nat
 |[],_=>none
 |(k,k')::r,s=>if k=s then some k' else rn r s
def SLe0 (ren:Ren) (nils:List Nat) (H H':Nat→OB):SV→SV→Prop
 |_,.junk=>True
 | .av a,.av b=>ALe a b
 | .own k p vs,.own k' p' vs'=>rn ren k=some k'∧p'=p∧(H k).live p vs∧vs'=verTake [] (p.length+1)
 | .ref k p vs i o,.ref k' p' vs' i' o'=>rn ren k=some k'∧p'=p∧i'=i∧o'=o∧(H k).live p vs∧vs'=verTake [] (p.length+1)∧((H' k').a.at p).es=((H k).a.at p).es
 | .view k p vs lo hi,.view k' p' vs' lo' hi'=>rn ren k=some k'∧p'=p∧lo'=lo∧hi'=hi∧(H k).live p vs∧vs'=verTake [] (p.length+1)∧((H' k').a.at p).es=((H k).a.at p).es
 | .av (.sl _ (some true) _ n _),.own k' p' vs'=>n=0∧k'∈nils∧p'=[]∧vs'=[0]
 |_,_=>False
def SLeL0 (ren:Ren) (nils:List Nat) (H H':Nat→OB):List SV→List SV→Prop
 |[],[]=>True
 |s::r,s'::r'=>SLe0 ren nils H H' s s'∧SLeL0 ren nils H H' r r'
 |_,_=>False
def SLe (ren:Ren) (nils:List Nat) (H H':Nat→OB):SV→SV→Prop
 | .clo g l,.clo g' l'=>g'=g∧SLeL0 ren nils H H' l l'
 |s,s'=>SLe0 ren nils H H' s s'
def SLeL (ren:Ren) (nils:List Nat) (H H':Nat→OB):List SV→List SV→Prop
 |[],[]=>True
 |s::r,s'::r'=>SLe ren nils H H' s s'∧SLeL ren nils H H' r r'
 |_,_=>False
def TLe (ren:Ren) (nils:List Nat) (H H':Nat→OB):TV→TV→Prop
 |_,.one .junk=>True
 | .one s,.one s'=>SLe ren nils H H' s s'
 | .agg l,.agg l'=>SLeL ren nils H H' l l'
 |_,_=>False
def TLeA (ren:Ren) (nils:List Nat) (T:Nat→TV) (H H':Nat→OB):List (Nat×TV)→Prop
 |[]=>True
 |(s,t)::r=>TLe ren nils H H' (T s) t∧TLeA ren nils T H H' r
def OLeA (H H':Nat→OB):Ren→Prop
 |[]=>True
 |(k,k')::r=>ALe (H k).a (H' k').a∧(H' k').vs=[]∧(4<k'∨(k=k'∧(H k).live [] [0]))∧OLeA H H' r
def nilsOk (H':Nat→OB):List Nat→Prop
 |[]=>True
 |k::r=>(∃es g,H' k=⟨.sl true none es 0 g,[]⟩)∧nilsOk H' r
def renOk (nils:List Nat) (n:Nat):Ren→Bool
 |[]=>true
 |(k,k')::r=> !Nat.beq k 0&& !Nat.beq k' 0&&Nat.blt k' n&&(rn r k).isNone&&r.all (fun x=> !Nat.beq x.2 k')&&nils.all (fun x=> !Nat.beq x k')&&renOk nils n r
def nilOk (n:Nat):List Nat→Bool
 |[]=>true
 |k::r=>Nat.blt 4 k&&Nat.blt k n&&nilOk n r
def allIn (ren:Ren) (nils:List Nat):List (Nat×OB)→Bool
 |[]=>true
 |(k,_)::r=>(ren.any (fun x=>Nat.beq x.2 k)||nils.any (fun x=>Nat.beq x k))&&allIn ren nils r
def rnInv:Ren→Nat→Option Nat
 |[],_=>none
 |(k,k')::r,s=>if k'=s then some k else rnInv r s
theorem renOk_get {nils:List Nat} {n:Nat}:∀{ren:Ren} {k k':Nat},renOk nils n ren=true→rn ren k=some k'→k≠0∧k'≠0∧k'<n∧rnInv ren k'=some k∧k'∉nils
 |[],k,k',_,h=>by cases h
 |(x,x')::r,k,k',hr,h=>by
  simp only[renOk,Bool.and_eq_true,Bool.not_eq_true',Option.isNone_iff_eq_none,List.all_eq_true] at hr
  obtain⟨⟨⟨⟨⟨⟨h1,h2⟩,h3⟩,h4⟩,h5⟩,h6⟩,h7⟩:=hr
  simp only[rn] at h
  by_cases e:x=k
  ·subst e
   rw[if_pos rfl] at h
   cases h
   refine⟨Nat.ne_of_beq_eq_false h1,Nat.ne_of_beq_eq_false h2,Nat.le_of_ble_eq_true h3,by simp[rnInv],fun hm=>?_⟩
   have:=h6 _ hm;simp at this
  ·rw[if_neg e] at h
   obtain⟨i1,i2,i3,i4,i5⟩:=renOk_get h7 h
   refine⟨i1,i2,i3,?_,i5⟩
   have hne:x'≠k':=by
    intro e2
    have:∀{r:Ren} {k k':Nat},rnInv r k'=some k→∃y∈r,y.2=k':=by
     intro r
     induction r with
     |nil=>intro k k' h;cases h
     |cons y r ih=>
      intro k k' h
      simp only[rnInv] at h
      by_cases e:y.2=k'
      ·exact⟨y,by simp,e⟩
      ·rw[if_neg e] at h
       obtain⟨z,z1,z2⟩:=ih h
       exact⟨z,by simp[z1],z2⟩
    obtain⟨y,y1,y2⟩:=this i4
    have:=h5 y y1
    rw[y2,e2] at this
    simp at this
   simp only[rnInv,if_neg hne]
   exact i4
theorem rnInv_get {nils:List Nat} {n:Nat}:∀{ren:Ren} {k k':Nat},renOk nils n ren=true→rnInv ren k'=some k→rn ren k=some k'
 |[],k,k',_,h=>by cases h
 |(x,x')::r,k,k',hr,h=>by
  simp only[renOk,Bool.and_eq_true,Bool.not_eq_true',Option.isNone_iff_eq_none,List.all_eq_true] at hr
  obtain⟨⟨⟨⟨⟨⟨h1,h2⟩,h3⟩,h4⟩,h5⟩,h6⟩,h7⟩:=hr
  simp only[rnInv] at h
  by_cases e:x'=k'
  ·subst e
   rw[if_pos rfl] at h
   cases h
   simp[rn]
  ·rw[if_neg e] at h
   have i:=rnInv_get h7 h
   have:x≠k:=by intro e2;subst e2;rw[i] at h4;cases h4
   simp only[rn,if_neg this]
   exact i
theorem OLeA.get {H H':Nat→OB}:∀{ren:Ren} {k k':Nat},OLeA H H' ren→rn ren k=some k'→ALe (H k).a (H' k').a∧(H' k').vs=[]∧(4<k'∨(k=k'∧(H k).live [] [0]))
 |[],k,k',_,h=>by cases h
 |(x,x')::r,k,k',hr,h=>by
  simp only[rn] at h
  by_cases e:x=k
  ·subst e;rw[if_pos rfl] at h;cases h;exact⟨hr.1,hr.2.1,hr.2.2.1⟩
  ·rw[if_neg e] at h;exact OLeA.get hr.2.2.2 h
theorem nilsOk_get {H':Nat→OB}:∀{l:List Nat} {k:Nat},nilsOk H' l→k∈l→∃es g,H' k=⟨.sl true none es 0 g,[]⟩
 |[],k,_,h=>by cases h
 |x::r,k,hr,h=>by
  rcases List.mem_cons.1 h with rfl|h
  ·exact hr.1
  ·exact nilsOk_get hr.2 h
theorem nilOk_get {n:Nat}:∀{l:List Nat} {k:Nat},nilOk n l=true→k∈l→4<k∧k<n
 |[],k,_,h=>by cases h
 |x::r,k,hr,h=>by
  simp only[nilOk,Bool.and_eq_true] at hr
  rcases List.mem_cons.1 h with rfl|h
  ·exact⟨Nat.le_of_ble_eq_true hr.1.1,Nat.le_of_ble_eq_true hr.1.2⟩
  ·exact nilOk_get hr.2 h
theorem allIn_get {ren:Ren} {nils:List Nat}:∀{h:List (Nat×OB)} {k:Nat},allIn ren nils h=true→lk OB.dead h k≠.dead→(∃x,rnInv ren k=some x)∨k∈nils
 |[],k,_,h=>absurd rfl h
 |(x,o)::r,k,hr,h=>by
  simp only[allIn,Bool.and_eq_true,Bool.or_eq_true,List.any_eq_true] at hr
  by_cases e:x=k
  ·subst e
   rcases hr.1 with ⟨y,y1,y2⟩|⟨y,y1,y2⟩
   ·left
    have y2':y.2=x:=by simpa using y2
    clear hr h
    induction ren with
    |nil=>cases y1
    |cons z ren ih=>
     simp only[rnInv]
     by_cases e:z.2=x
     ·rw[if_pos e];exact⟨_,rfl⟩
     ·rw[if_neg e]
      rcases List.mem_cons.1 y1 with rfl|y1
      ·exact absurd y2' e
      ·exact ih y1
   ·right;have:y=x:=by simpa using y2
    rw[←this];exact y1
  ·simp only[lk,if_neg e] at h
   exact allIn_get hr.2 h
def reown (ren:Ren) (own:Own):Own:=fun b=>
 match own b with
 |some (k,q)=>if k=0 then some (0,q) else (match rn ren k with|some k'=>some (k',q)|none=>none)
 |none=>none
def rert (ren:Ren) (_:List Nat) (rt:Rt):Rt:=fun k=>
 match rnInv ren k with
 |some x=>rt x
 |none=>.slice none 0 0
section
variable {N:Nat} {w0:World} {E A:Nat→Prop} {F:Frm} {T:Nat→TV} {H H':Nat→OB} {a:Act} {w:World} {own:Own} {rt:Rt} {ren:Ren} {nils:List Nat} {n:Nat}
theorem vle_zero (p:Path) (vs:List Nat):vle (verTake [] (p.length+1)) vs:=by
 intro d
 have:∀(m d:Nat),gl 0 (verTake [] m) d=0:=by
  intro m
  induction m with
  |zero=>intro d;cases d<;>rfl
  |succ m ih=>intro d;cases d with
   |zero=>rfl
   |succ d=>exact ih d
 rw[this];exact Nat.zero_le _
theorem SLe0.rel (_:WRf w0 E F A H w own rt) (hren:renOk nils n ren=true) (ho:OLeA H H' ren) (_:nilsOk H' nils) (hni:∀k∈nils,rnInv ren k=none) {s s':SV} {v:Value} (h:SLe0 ren nils H H' s s') (hr:RelS0 w own rt H s v):
 RelS0 w (reown ren own) (rert ren nils rt) H' s' v:=by
 have h0:∀b o,own b=none→w.heap[b]?=some o→reown ren own b=none∧w.heap[b]?=some o:=fun b o e1 e2=>⟨by simp[reown,e1],e2⟩
 have key:∀{k k':Nat} {p:Path} {vs:List Nat},rn ren k=some k'→(H k).live p vs→∀{v:Value},hdr w (H k).a (rt k) p=some v→((H' k').a.okp p→hdr w (H' k').a (rert ren nils rt k') p=some v):=by
  intro k k' p vs e1 e2 v e3 e4
  obtain⟨q1,q2,q3,q4,q5⟩:=renOk_get hren e1
  have hal:=(ho.get e1).1
  rw[←hal.hdr e4.okq]
  simp only[rert,q4]
  exact e3
 cases s' with
 |junk=>trivial
 |av b=>
  cases s with
  |av a=>exact Rd.mono h0 _ _ (h.rd hr)
  |_=>exact h.elim
 |clo g l=>cases s<;>first|exact h.elim|(simp[SLe0] at h)
 |own k' p' vs'=>
  cases s with
  |own k p vs=>
   obtain⟨e1,rfl,e2,rfl⟩:=h
   exact⟨vle_zero _ _,fun hl=>key e1 e2 (hr.2 e2) hl.1⟩
  |av a=>
   cases a with
   |sl u nl es m f=>
    cases nl with
    |none=>exact h.elim
    |some b=>
     cases b with
     |false=>exact h.elim
     |true=>
      obtain⟨rfl,h1,rfl,rfl⟩:=h
      refine⟨vle_zero [] _,fun _=>?_⟩
      rw[hdr_nil]
      have hv:v=.slice none 0 0:=rd_nil (u:=u) hr
      rw[hv]
      simp only[rert,hni _ h1]
   |_=>exact h.elim
  |_=>exact h.elim
 |ref k' p' vs' i' o'=>
  cases s with
  |ref k p vs i o=>
   obtain⟨e1,rfl,rfl,rfl,e2,rfl,e3⟩:=h
   refine⟨⟨vle_zero _ _,hr.1.2⟩,fun hl=>?_⟩
   obtain⟨b,m,cap,g1,g2⟩:=hr.2 e2
   exact⟨b,m,cap,key e1 e2 g1 hl.1,by rw[e3];exact g2⟩
  |_=>exact h.elim
 |view k' p' vs' i' o'=>
  cases s with
  |view k p vs i o=>
   obtain⟨e1,rfl,rfl,rfl,e2,rfl,e3⟩:=h
   refine⟨vle_zero _ _,fun hl=>?_⟩
   obtain⟨b,m,cap,a',g1,g2⟩:=hr.2 e2
   exact⟨b,m,cap,a',key e1 e2 g1 hl.1,by rw[e3];exact g2⟩
  |_=>exact h.elim
theorem SLeL0.get:∀{l l':List SV},SLeL0 ren nils H H' l l'→l.length=l'.length∧∀(j:Nat) (s':SV),l'[j]?=some s'→∃s,l[j]?=some s∧SLe0 ren nils H H' s s'
 |[],[],_=>⟨rfl,fun j s h=>by simp at h⟩
 |[],_::_,h=>h.elim
 |_::_,[],h=>h.elim
 |x::l,y::m,h=>by
  obtain⟨h1,h2⟩:=h
  obtain⟨i1,i2⟩:=SLeL0.get h2
  refine⟨by simp[i1],fun j b hj=>?_⟩
  cases j with
  |zero=>simp at hj;subst hj;exact⟨x,rfl,h1⟩
  |succ j=>obtain⟨z,f1,f2⟩:=i2 j b (by simpa using hj);exact⟨z,by simpa using f1,f2⟩
theorem SLeL.get:∀{l l':List SV},SLeL ren nils H H' l l'→l.length=l'.length∧∀(j:Nat) (s':SV),l'[j]?=some s'→∃s,l[j]?=some s∧SLe ren nils H H' s s'
 |[],[],_=>⟨rfl,fun j s h=>by simp at h⟩
 |[],_::_,h=>h.elim
 |_::_,[],h=>h.elim
 |x::l,y::m,h=>by
  obtain⟨h1,h2⟩:=h
  obtain⟨i1,i2⟩:=SLeL.get h2
  refine⟨by simp[i1],fun j b hj=>?_⟩
  cases j with
  |zero=>simp at hj;subst hj;exact⟨x,rfl,h1⟩
  |succ j=>obtain⟨z,f1,f2⟩:=i2 j b (by simpa using hj);exact⟨z,by simpa using f1,f2⟩
theorem RelS.relS0 {s:SV} {v:Value} (hc:∀g l,s≠.clo g l) (h:RelS w own rt H s v):RelS0 w own rt H s v:=by
 cases s with
 |clo g l=>exact absurd rfl (hc g l)
 |_=>exact h
theorem RelS0.relS {s:SV} {v:Value} (hc:∀g l,s≠.clo g l) (h:RelS0 w own rt H s v):RelS w own rt H s v:=by
 cases s with
 |clo g l=>exact absurd rfl (hc g l)
 |_=>exact h
theorem SLe.rel (hs:WRf w0 E F A H w own rt) (hren:renOk nils n ren=true) (ho:OLeA H H' ren) (hn:nilsOk H' nils) (hni:∀k∈nils,rnInv ren k=none) {s s':SV} {v:Value} (h:SLe ren nils H H' s s') (hr:RelS w own rt H s v):
 RelS w (reown ren own) (rert ren nils rt) H' s' v:=by
 by_cases hc:∃g l,s=.clo g l
 ·obtain⟨g,l,rfl⟩:=hc
  cases s' with
  |junk=>trivial
  |clo g' l'=>
   obtain⟨rfl,h⟩:=h
   obtain⟨cs,rfl,c1,c2⟩:=hr
   obtain⟨i1,i2⟩:=h.get
   refine⟨cs,rfl,by rw[c1,i1],fun j s' hj=>?_⟩
   obtain⟨s,f1,f2⟩:=i2 j s' hj
   obtain⟨x,g1,g2⟩:=c2 j s f1
   exact⟨x,g1,f2.rel hs hren ho hn hni g2⟩
  |_=>exact h.elim
 ·have hc1:∀g l,s≠.clo g l:=fun g l e=>hc ⟨g,l,e⟩
  have h0:SLe0 ren nils H H' s s':=by
   cases s with
   |clo g l=>exact absurd rfl (hc1 g l)
   |_=>exact h
  have hr0:=hr.relS0 hc1
  by_cases hc':∃g l,s'=.clo g l
  ·obtain⟨g,l,rfl⟩:=hc'
   cases s<;>first|exact h0.elim|(simp[SLe0] at h0)
  ·exact(h0.rel hs hren ho hn hni hr0).relS (fun g l e=>hc' ⟨g,l,e⟩)
theorem SLeL.relL (hs:WRf w0 E F A H w own rt) (hren:renOk nils n ren=true) (ho:OLeA H H' ren) (hn:nilsOk H' nils) (hni:∀k∈nils,rnInv ren k=none) {l l':List SV} {cs:Array Value} (h:SLeL ren nils H H' l l') (hr:RelL w own rt H l cs):
 RelL w (reown ren own) (rert ren nils rt) H' l' cs:=by
 obtain⟨i1,i2⟩:=h.get
 obtain⟨c1,c2⟩:=hr
 refine⟨by rw[c1,i1],fun j s' hj=>?_⟩
 obtain⟨s,f1,f2⟩:=i2 j s' hj
 obtain⟨x,g1,g2⟩:=c2 j s f1
 exact⟨x,g1,f2.rel hs hren ho hn hni g2⟩
theorem TLe.rel (hs:WRf w0 E F A H w own rt) (hren:renOk nils n ren=true) (ho:OLeA H H' ren) (hn:nilsOk H' nils) (hni:∀k∈nils,rnInv ren k=none) {t t':TV} {v:Value} (h:TLe ren nils H H' t t') (hr:RelT w own rt H t v):
 RelT w (reown ren own) (rert ren nils rt) H' t' v:=by
 cases t' with
 |one s'=>
  by_cases hj:s'=.junk
  ·subst hj;trivial
  ·cases t with
   |one s=>
    have h':SLe ren nils H H' s s':=by
     cases s' with
     |junk=>exact absurd rfl hj
     |_=>exact h
    exact h'.rel hs hren ho hn hni hr
   |_=>cases s'<;>first|exact absurd rfl hj|exact h.elim
 |agg l'=>
  cases t with
  |agg l=>
   obtain⟨cs,rfl,hr⟩:=hr
   exact⟨cs,rfl,SLeL.relL hs hren ho hn hni h hr⟩
  |_=>exact h.elim
 |_=>cases t<;>exact h.elim
theorem SLe0.men (hren:renOk nils n ren=true) {s s':SV} (h:SLe0 ren nils H H' s s') {k:Nat} (hk:s'.mn0 k):(∃x,rnInv ren k=some x)∨k∈nils:=by
 cases s' with
 |own k' p' vs'=>
  cases hk
  cases s with
  |own k p vs=>exact .inl ⟨_,(renOk_get hren h.1).2.2.2.1⟩
  |av a=>
   cases a with
   |sl u nl es m f=>
    cases nl with
    |none=>exact h.elim
    |some b=>cases b with
     |false=>exact h.elim
     |true=>exact .inr h.2.1
   |_=>exact h.elim
  |_=>exact h.elim
 |ref k' p' vs' i o=>cases hk;cases s with
  |ref k p vs i o=>exact .inl ⟨_,(renOk_get hren h.1).2.2.2.1⟩
  |_=>exact h.elim
 |view k' p' vs' i o=>cases hk;cases s with
  |view k p vs i o=>exact .inl ⟨_,(renOk_get hren h.1).2.2.2.1⟩
  |_=>exact h.elim
 |_=>exact hk.elim
theorem SLe.men (hren:renOk nils n ren=true) {s s':SV} (h:SLe ren nils H H' s s') {k:Nat} (hk:s'.mn k):(∃x,rnInv ren k=some x)∨k∈nils:=by
 by_cases hc':∃g l,s'=.clo g l
 ·obtain⟨g,l',rfl⟩:=hc'
  obtain⟨x,hx,hk⟩:=hk
  cases s with
  |clo g' l=>
   obtain⟨rfl,h⟩:=h
   obtain⟨j,hj⟩:=List.getElem?_of_mem hx
   obtain⟨y,f1,f2⟩:=h.get.2 j x hj
   exact f2.men hren hk
  |_=>first|exact h.elim|(simp[SLe,SLe0] at h)
 ·have hk0:s'.mn0 k:=by cases s'<;>first|exact hk|exact absurd ⟨_,_,rfl⟩ hc'
  have h0:SLe0 ren nils H H' s s':=by
   cases s with
   |clo g l=>
    cases s' with
    |clo g l=>exact absurd ⟨_,_,rfl⟩ hc'
    |_=>exact h
   |_=>exact h
  exact h0.men hren hk0
theorem TLe.men (hren:renOk nils n ren=true) {t t':TV} (h:TLe ren nils H H' t t') {k:Nat} (hk:t'.mn k):(∃x,rnInv ren k=some x)∨k∈nils:=by
 cases t' with
 |one s'=>
  by_cases hj:s'=.junk
  ·subst hj;exact hk.elim
  ·cases t with
   |one s=>
    have h':SLe ren nils H H' s s':=by
     cases s' with
     |junk=>exact absurd rfl hj
     |_=>exact h
    exact h'.men hren hk
   |_=>cases s'<;>first|exact absurd rfl hj|exact h.elim
 |agg l'=>
  cases t with
  |agg l=>
   obtain⟨x,hx,hk⟩:=hk
   obtain⟨j,hj⟩:=List.getElem?_of_mem hx
   obtain⟨y,f1,f2⟩:=(SLeL.get h).2 j x hj
   exact f2.men hren hk
  |_=>exact h.elim
 |_=>cases t<;>exact h.elim
end
theorem TLeA.get {ren:Ren} {nils:List Nat} {T:Nat→TV} {H H':Nat→OB}:∀{l:List (Nat×TV)},TLeA ren nils T H H' l→∀s,TLe ren nils H H' (T s) (lk .junk l s)
 |[],_,s=>by show TLe _ _ _ _ _ (.one .junk);cases T s<;>trivial
 |(x,t)::r,h,s=>by
  simp only[lk]
  by_cases e:x=s
  ·subst e;rw[if_pos rfl];exact h.1
  ·rw[if_neg e];exact TLeA.get h.2 s
theorem Le.of {σ σ':St} (ren:Ren) (nils:List Nat) (hn0:((Nat.blt 4 σ'.n||Nat.ble σ.n σ'.n)&&Nat.blt 0 σ'.n)=true) (hren:renOk nils σ'.n ren=true) (hnl:nilOk σ'.n nils=true) (hall:allIn ren nils σ'.h=true) (ho:OLeA σ.H σ'.H ren) (hn:nilsOk σ'.H nils) (ht:TLeA ren nils σ.T σ.H σ'.H σ'.t):Le σ σ':=by
 rintro N w0 E F a w ⟨A,own,rt,hs,hA⟩
 have hni:∀k∈nils,rnInv ren k=none:=by
  intro k hk
  cases e:rnInv ren k with
  |none=>rfl
  |some x=>exact absurd hk (renOk_get hren (rnInv_get hren e)).2.2.2.2
 have htt:=fun s=>ht.get s
 refine⟨fun k=>k=0∨(∃x,rnInv ren k=some x)∨k∈nils∨F.z k≠none,reown ren own,rert ren nils rt,⟨⟨hs.keep,fun b x e=>?_,fun k=>?_,fun k hk=>?_,fun b k q e=>?_,fun b hb=>?_,?_⟩,hs.defers,hs.size,fun s=>?_,fun s k hk=>?_,fun k v e=>?_⟩,fun k hk e=>?_⟩
 ·cases e1:own b with
  |none=>simp[reown,e1] at e
  |some y=>exact hs.dom b y e1
 ·cases e:rnInv ren k with
  |some x=>
   have e1:=rnInv_get hren e
   obtain⟨q1,q2,q3,q4,q5⟩:=renOk_get hren e1
   refine(ho.get e1).1.ow ?_
   have e2:rert ren nils rt k=rt x:=by simp[rert,e]
   rw[e2]
   refine Ow.mono (r:=x) (fun b o e1 e2=>⟨by simp[reown,e1],e2⟩) _ [] [] _ (fun b o q f1 f2=>⟨?_,f2⟩) (hs.obj x)
   simp only[List.nil_append] at f1 ⊢
   simp[reown,f1,q1,e1]
  |none=>
   by_cases hk:k∈nils
   ·obtain⟨es,g,e2⟩:=nilsOk_get hn hk
    rw[e2]
    refine .inl ⟨rfl,none,?_,⟨fun e=>by simp at e,fun e=>by simp at e⟩⟩
    simp[rert,e]
   ·have:σ'.H k=.dead:=by
     by_cases e2:σ'.H k=.dead
     ·exact e2
     ·rcases allIn_get hall e2 with ⟨x,h⟩|h
      ·rw[e] at h;cases h
      ·exact absurd h hk
    rw[this];trivial
 ·by_cases e2:σ'.H k=.dead
  ·exact e2
  ·rcases allIn_get hall e2 with h|h
   ·exact absurd (.inr (.inl h)) hk
   ·exact absurd (.inr (.inr (.inl h))) hk
 ·cases e1:own b with
  |none=>simp[reown,e1] at e
  |some y=>
   obtain⟨k1,q1⟩:=y
   simp only[reown,e1] at e
   by_cases h0:k1=0
   ·rw[if_pos h0] at e;cases e;exact .inl rfl
   ·rw[if_neg h0] at e
    cases e2:rn ren k1 with
    |none=>rw[e2] at e;cases e
    |some k'=>
     rw[e2] at e;cases e
     exact .inr (.inl ⟨_,(renOk_get hren e2).2.2.2.1⟩)
 ·simp[reown,hs.frn b hb]
 ·refine⟨?_,.inl rfl⟩
  by_cases e2:σ'.H 0=.dead
  ·exact e2
  ·rcases allIn_get hall e2 with ⟨x,h⟩|h
   ·exact absurd rfl (renOk_get hren (rnInv_get hren h)).2.1
   ·exact absurd (nilOk_get hnl h).1 (by omega)
 ·exact(htt s).rel hs.toWRf hren ho hn hni (hs.tmp s)
 ·rcases (htt s).men hren hk with h|h
  ·exact .inr (.inl h)
  ·exact .inr (.inr (.inl h))
 ·have hz:F.z k≠none:=by rw[e];exact fun h=>nomatch h
  obtain⟨z1,z2⟩:=F.hz k hz
  obtain⟨g1,g2⟩:=hs.frz k v e
  refine⟨.inr (.inr (.inr hz)),vle_zero [] _,fun hl=>?_⟩
  rw[hdr_nil]
  cases ei:rnInv ren k with
  |some x=>
   rcases (ho.get (rnInv_get hren ei)).2.2 with h|⟨rfl,h⟩
   ·omega
   ·have:=g2.2 h
    rw[hdr_nil] at this
    simp only[rert,ei]
    exact this
  |none=>
   exfalso
   have hd:σ'.H k=.dead:=by
    by_cases e2:σ'.H k=.dead
    ·exact e2
    ·rcases allIn_get hall e2 with ⟨x,h⟩|h
     ·rw[ei] at h;cases h
     ·exact absurd (nilOk_get hnl h).1 (by omega)
   rw[hd] at hl
   exact hl.1
 ·simp only[Bool.and_eq_true,Bool.or_eq_true] at hn0
  have hpos:0<σ'.n:=Nat.le_of_ble_eq_true hn0.2
  rcases e with e|⟨x,e⟩|e|e
  ·omega
  ·exact absurd (renOk_get hren (rnInv_get hren e)).2.2.1 (by omega)
  ·exact absurd (nilOk_get hnl e).2 (by omega)
  ·rcases hn0.1 with h|h
   ·have:=F.hz k e
    have:=Nat.le_of_ble_eq_true h
    omega
   ·have:=Nat.le_of_ble_eq_true h
    cases ez:F.z k with
    |none=>exact absurd ez e
    |some v=>exact hA k (by omega) (hs.frz k v ez).1
end Go.AM
/- The framework AM,part 25:tools for the contracts of single functions. -/
namespace Go.AM
open Go
def gf {α:Type} (cs:α→List AV) (d:α) (l:List α):Nat→Nat→AV:=fun i j=>gl .junk (cs (l.getD i d)) j
def cI (n:Int):List AV:=[.int .i64 n]
def cB (n:UInt8):List AV:=[.int .u8 n.toNat]
def cS (s:List UInt8):List AV:=[.str s]
def fI:List Int→Nat→Nat→AV:=gf cI 0
def fB:List UInt8→Nat→Nat→AV:=gf cB 0
def fS:List (List UInt8)→Nat→Nat→AV:=gf cS []
def cL (u:Bool) (l:List Int):List AV:=[.sl u none 1 l.length (fI l)]
def fL (u:Bool):List (List Int)→Nat→Nat→AV:=gf (cL u) []
abbrev aI (u:Bool) (l:List Int):AV:=.sl u none 1 l.length (fI l)
abbrev aL (u v:Bool) (l:List (List Int)):AV:=.sl u none 1 l.length (fL v l)
theorem fI_at (l:List Int) (i:Nat):fI l i 0=.int .i64 (l.getD i 0):=rfl
theorem fB_at (l:List UInt8) (i:Nat):fB l i 0=.int .u8 (l.getD i 0).toNat:=rfl
theorem fS_at (l:List (List UInt8)) (i:Nat):fS l i 0=.str (l.getD i []):=rfl
theorem fL_at (u:Bool) (l:List (List Int)) (i:Nat):fL u l i 0=.sl u none 1 (l.getD i []).length (fI (l.getD i [])):=rfl
section
variable (P:Program) (t:TypeId)
theorem b_add (k:IntKind) (a b:Int):binop P t .add (.one (.av (.int k a))) (.one (.av (.int k b)))=(inK k (a+b),.av (.int k (a+b))):=by simp[binop,intOp]
theorem b_sub (k:IntKind) (a b:Int):binop P t .sub (.one (.av (.int k a))) (.one (.av (.int k b)))=(inK k (a - b),.av (.int k (a - b))):=by simp[binop,intOp]
theorem b_mul (k:IntKind) (a b:Int):binop P t .mul (.one (.av (.int k a))) (.one (.av (.int k b)))=(inK k (a*b),.av (.int k (a*b))):=by simp[binop,intOp]
theorem b_quo (k:IntKind) (a b:Int):binop P t .quo (.one (.av (.int k a))) (.one (.av (.int k b)))=(b≠0∧inK k (a.tdiv b),.av (.int k (a.tdiv b))):=by simp[binop,intOp]
theorem b_rem (k:IntKind) (a b:Int):binop P t .rem (.one (.av (.int k a))) (.one (.av (.int k b)))=(b≠0,.av (.int k (a.tmod b))):=by simp[binop,intOp]
theorem b_eql (k:IntKind) (a b:Int):binop P t .eql (.one (.av (.int k a))) (.one (.av (.int k b)))=(True,.av (.bool (decide (a=b)))):=by
 simp only[binop,intOp,true_and,and_true,Prod.mk.injEq,SV.av.injEq,AV.bool.injEq]
 cases h:decide (a=b)<;>simp at h<;>simp[h]
theorem b_neq (k:IntKind) (a b:Int):binop P t .neq (.one (.av (.int k a))) (.one (.av (.int k b)))=(True,.av (.bool (decide (a≠b)))):=by
 have e:(a !=b)=decide (a≠b):=by
  by_cases h:a=b<;>simp[h]
 simp only[binop,intOp,e,and_true]
theorem b_lss (k:IntKind) (a b:Int):binop P t .lss (.one (.av (.int k a))) (.one (.av (.int k b)))=(True,.av (.bool (decide (a<b)))):=by simp[binop,intOp]
theorem b_leq (k:IntKind) (a b:Int):binop P t .leq (.one (.av (.int k a))) (.one (.av (.int k b)))=(True,.av (.bool (decide (a≤b)))):=by simp[binop,intOp]
theorem b_gtr (k:IntKind) (a b:Int):binop P t .gtr (.one (.av (.int k a))) (.one (.av (.int k b)))=(True,.av (.bool (decide (b<a)))):=by simp[binop,intOp]
theorem b_geq (k:IntKind) (a b:Int):binop P t .geq (.one (.av (.int k a))) (.one (.av (.int k b)))=(True,.av (.bool (decide (b≤a)))):=by simp[binop,intOp]
theorem b_rng_i (op:BinOp) (k k':IntKind) (lo hi n:Int):binop P t op (.one (.av (.rng k lo hi))) (.one (.av (.int k' n)))=rngOp op k k' n n:=by cases op<;>rfl
theorem b_i_rng (op:BinOp) (k k':IntKind) (lo hi n:Int):binop P t op (.one (.av (.int k n))) (.one (.av (.rng k' lo hi)))=rngOp op k k' lo hi:=by cases op<;>rfl
theorem b_rng_rng (op:BinOp) (k k':IntKind) (lo hi lo' hi':Int):binop P t op (.one (.av (.rng k lo hi))) (.one (.av (.rng k' lo' hi')))=rngOp op k k' lo' hi':=by cases op<;>rfl
theorem r_add (lo hi:Int):rngOp .add .i64 .i64 lo hi=(True,.av (AV.full .i64)):=by simp[rngOp]
theorem r_sub (lo hi:Int):rngOp .sub .i64 .i64 lo hi=(True,.av (AV.full .i64)):=by simp[rngOp]
theorem r_mul (lo hi:Int):rngOp .mul .i64 .i64 lo hi=(True,.av (AV.full .i64)):=by simp[rngOp]
theorem r_xor (lo hi:Int):rngOp .xor .i64 .i64 lo hi=(True,.av (AV.full .i64)):=by simp[rngOp]
theorem r_and255:rngOp .and .i64 .i64 255 255=(True,.av (.rng .i64 0 255)):=by simp[rngOp]
theorem r_andbig:rngOp .and .i64 .i64 1073741823 1073741823=(True,.av (AV.full .i64)):=by simp[rngOp]
theorem r_shr (n:Int):rngOp .shr .i64 .u64 n n=(0≤n∧n<64,.av (AV.full .i64)):=by simp[rngOp,IntKind.bits]
theorem kn_rng (k:IntKind) (lo hi:Int):(AV.rng k lo hi).kn=true:=rfl
theorem b_shl (k k':IntKind) (a b:Int):binop P t .shl (.one (.av (.int k a))) (.one (.av (.int k' b)))=(0≤b∧b<k.bits∧inK k (a*2^b.toNat),.av (.int k (a*2^b.toNat))):=by simp[binop,shOp]
theorem b_shr (k k':IntKind) (a b:Int):binop P t .shr (.one (.av (.int k a))) (.one (.av (.int k' b)))=(0≤b∧b<k.bits∧inK k (a.fdiv (2^b.toNat)),.av (.int k (a.fdiv (2^b.toNat)))):=by simp[binop,shOp]
theorem b_seql (a b:List UInt8):binop P t .eql (.one (.av (.str a))) (.one (.av (.str b)))=(True,.av (.bool (decide (a=b)))):=by
 have e:(a==b)=decide (a=b):=by rw[Bool.eq_iff_iff];simp
 simp only[binop,e]
theorem b_sneq (a b:List UInt8):binop P t .neq (.one (.av (.str a))) (.one (.av (.str b)))=(True,.av (.bool (decide (a≠b)))):=by
 have e:(!(a==b))=decide (a≠b):=by rw[Bool.eq_iff_iff];simp
 simp only[binop,e]
theorem b_beql (a b:Bool):binop P t .eql (.one (.av (.bool a))) (.one (.av (.bool b)))=((tk P t).bl=true,.av (.bool (decide (a=b)))):=by
 have e:(a==b)=decide (a=b):=by rw[Bool.eq_iff_iff];simp
 simp only[binop,e]
theorem b_bneq (a b:Bool):binop P t .neq (.one (.av (.bool a))) (.one (.av (.bool b)))=((tk P t).bl=true,.av (.bool (decide (a≠b)))):=by
 have e:(!(a==b))=decide (a≠b):=by rw[Bool.eq_iff_iff];simp
 simp only[binop,e]
theorem b_aeql (l l':List SV):binop P t .eql (.agg l) (.agg l')=(match avs l,avs l',eqL l l' with|some k1,some k2,some b=>(StructEq P t∧kinA (tk P t).z k1=true∧kinA (tk P t).z k2=true,.av (.bool b))|_,_,_=>(False,.junk)):=rfl
theorem b_aneq (l l':List SV):binop P t .neq (.agg l) (.agg l')=(match avs l,avs l',eqL l l' with|some k1,some k2,some b=>(StructEq P t∧kinA (tk P t).z k1=true∧kinA (tk P t).z k2=true,.av (.bool (!b)))|_,_,_=>(False,.junk)):=rfl
theorem b_sadd (a b:List UInt8):binop P t .add (.one (.av (.str a))) (.one (.av (.str b)))=(a.length+b.length≤maxLen,.av (.str (a++b))):=by simp[binop]
end
theorem inKi (n:Int):inK .i64 n=(-9223372036854775808≤n∧n≤9223372036854775807):=rfl
theorem inKb (n:Int):inK .u8 n=(0≤n∧n≤255):=rfl
theorem maxLen_eq:maxLen=9223372036854775807:=rfl
theorem o_i64 (n:Int) (h:(decide (-9223372036854775808≤n)&&decide (n≤9223372036854775807))=true):ofVT (.int .i64 n)=.one (.av (.int .i64 n)):=by
 simp only[Bool.and_eq_true,decide_eq_true_eq] at h
 have:IntKind.i64.min≤n∧n≤IntKind.i64.max:=h
 simp only[ofVT,ofV,if_pos this]
theorem o_u8 (n:Int) (h:(decide (0≤n)&&decide (n≤255))=true):ofVT (.int .u8 n)=.one (.av (.int .u8 n)):=by
 simp only[Bool.and_eq_true,decide_eq_true_eq] at h
 have:IntKind.u8.min≤n∧n≤IntKind.u8.max:=h
 simp only[ofVT,ofV,if_pos this]
theorem o_u64 (n:Int) (h:(decide (0≤n)&&decide (n≤18446744073709551615))=true):ofVT (.int .u64 n)=.one (.av (.int .u64 n)):=by
 simp only[Bool.and_eq_true,decide_eq_true_eq] at h
 have:IntKind.u64.min≤n∧n≤IntKind.u64.max:=h
 simp[ofVT,ofV,this]
theorem o_bool (b:Bool):ofVT (.bool b)=.one (.av (.bool b)):=rfl
theorem o_str (s:ByteArray):ofVT (.string s)=.one (.av (.str s.data.toList)):=rfl
theorem o_nil:ofVT (.slice none 0 0)=.one (.av nilAV):=rfl
theorem lk_cons {α:Type} (d:α) (k:Nat) (v:α) (r:List (Nat×α)) (s:Nat):lk d ((k,v)::r) s=bif Nat.beq k s then v else lk d r s:=by
 simp only[lk]
 by_cases h:k=s
 ·subst h;simp
 ·rw[if_neg h]
  cases e:Nat.beq k s with
  |true=>exact absurd (Nat.eq_of_beq_eq_true e) h
  |false=>rfl
theorem lk_nil {α:Type} (d:α) (s:Nat):lk d [] s=d:=rfl
theorem beq_self (n:Nat):Nat.beq n n=true:=by simp
theorem bif_and (b c:Bool):(bif b then c else false)=(b&&c):=by cases b<;>rfl
theorem bif_or (b c:Bool):(bif b then true else c)=(b||c):=by cases b<;>rfl
theorem dec_and (p q:Prop) [Decidable p] [Decidable q]:(decide p&&decide q)=decide (p∧q):=by by_cases hp:p<;>by_cases hq:q<;>simp[hp,hq]
theorem dec_or (p q:Prop) [Decidable p] [Decidable q]:(decide p||decide q)=decide (p∨q):=by by_cases hp:p<;>by_cases hq:q<;>simp[hp,hq]
theorem andF (a b:Bool):((a&&b)=false)=(a=false∨b=false):=by cases a<;>cases b<;>simp
theorem orF (a b:Bool):((a||b)=false)=(a=false∧b=false):=by cases a<;>cases b<;>simp
theorem gbt (b:Bool):(b==true)=b:=by cases b<;>rfl
theorem gbf (b:Bool):(b==false)= !b:=by cases b<;>rfl
theorem eqAV_int (k:IntKind) (a b:Int):eqAV (.int k a) (.int k b)=some (decide (a=b)):=by
 have e:(a==b)=decide (a=b):=by rw[Bool.eq_iff_iff];simp
 simp only[eqAV,e,if_true]
theorem eqAV_bool (a b:Bool):eqAV (.bool a) (.bool b)=some (decide (a=b)):=by
 have e:(a==b)=decide (a=b):=by rw[Bool.eq_iff_iff];simp
 simp only[eqAV,e]
theorem eqAV_str (a b:List UInt8):eqAV (.str a) (.str b)=some (decide (a=b)):=by
 have e:(a==b)=decide (a=b):=by rw[Bool.eq_iff_iff];simp
 simp only[eqAV,e]
def kz:Option TypeDesc→AV→Bool
 |some (.int _),.int _ _=>true
 |some .bool,.bool _=>true
 |some .string,.str _=>true
 |_,_=>false
def flatB (P:Program):List Field→Nat→List AV→Bool
 |[],_,[]=>true
 | f :: r, o, z :: zs => !(f.name == "_") && Nat.beq f.offset o && kz (P.underlying f.type) z && flatB P r (o + 1) zs
 |_,_,_=>false
theorem eqFields_flat {P:Program} {w:World} {d:Nat} {xs ys:Array Value}:∀(fs:List Field) (o:Nat) (z l l':List AV) (b:Bool),flatB P fs o z=true→kinA z l=true→kinA z l'=true→
 (∀(j:Nat) (a:AV),l[j]?=some a→∃x,xs[o+j]?=some x∧Rd w (fun _=>none) a x)→(∀(j:Nat) (a:AV),l'[j]?=some a→∃x,ys[o+j]?=some x∧Rd w (fun _=>none) a x)→
 eqL (l.map .av) (l'.map .av)=some b→(Op.eqFields (d+1) xs ys fs).run P w=.ok b w:=by
 intro fs
 induction fs with
 |nil=>
  intro o z l l' b hf hk hk' _ _ he
  cases z with
  |nil=>
   cases l with
   |nil=>cases l' with
    |nil=>simp only[List.map_nil,eqL,Option.some.injEq] at he;subst he;rfl
    |cons=>simp[kinA] at hk'
   |cons=>simp[kinA] at hk
  |cons=>simp[flatB] at hf
 |cons f fs ih=>
  intro o z l l' b hf hk hk' hx hy he
  cases z with
  |nil=>simp[flatB] at hf
  |cons z zs=>
   cases l with
   |nil=>simp[kinA] at hk
   |cons a l=>
    cases l' with
    |nil=>simp[kinA] at hk'
    |cons a' l'=>
     simp only[flatB,Bool.and_eq_true,Bool.not_eq_true'] at hf
     obtain⟨⟨⟨hn,ho⟩,hz⟩,hf⟩:=hf
     have ho:=Nat.eq_of_beq_eq_true ho
     simp only[kinA,Bool.and_eq_true] at hk hk'
     obtain⟨x,x1,x2⟩:=hx 0 a rfl
     obtain⟨y,y1,y2⟩:=hy 0 a' rfl
     have hx':∀(j:Nat) (a:AV),l[j]?=some a→∃x,xs[o+1+j]?=some x∧Rd w (fun _=>none) a x:=fun j c hc=>by
      obtain⟨u,u1,u2⟩:=hx (j+1) c (by simpa using hc)
      exact⟨u,by rw[Nat.add_assoc,Nat.add_comm 1 j];exact u1,u2⟩
     have hy':∀(j:Nat) (a:AV),l'[j]?=some a→∃x,ys[o+1+j]?=some x∧Rd w (fun _=>none) a x:=fun j c hc=>by
      obtain⟨u,u1,u2⟩:=hy (j+1) c (by simpa using hc)
      exact⟨u,by rw[Nat.add_assoc,Nat.add_comm 1 j];exact u1,u2⟩
     simp only[Nat.add_zero] at x1 y1
     have hne : f.name ≠ "_" := by intro e; rw [e] at hn; simp at hn
     have hpart:∀(cs:Array Value) (v:Value),cs[o]?=some v→(part f.type cs f.offset).run P w=.ok v w:=by
      intro cs v hv
      rw[ho]
      cases hu:P.underlying f.type with
      |none=>rw[hu] at hz;cases z<;>simp[kz] at hz
      |some td=>rw[hu] at hz;cases td<;>cases z<;>simp[kz] at hz<;>simp[part,isAgg,run_underlying hu,hv]
     simp only[List.map_cons,eqL] at he
     cases h1:eqAV a a' with
     |none=>rw[h1] at he;simp at he
     |some b1=>
      cases h2:eqL (l.map .av) (l'.map .av) with
      |none=>rw[h1,h2] at he;simp at he
      |some b2=>
       rw[h1,h2] at he
       simp only[Option.some.injEq] at he
       subst he
       have hrec:=ih (o+1) zs l l' b2 hf hk.2 hk'.2 hx' hy' h2
       have heq:(Op.equalIn (d+1) f.type x y).run P w=.ok b1 w:=by
        cases hu:P.underlying f.type with
        |none=>rw[hu] at hz;cases z<;>simp[kz] at hz
        |some td=>
         rw[hu] at hz
         cases z with
         |int k n=>
          cases td<;>simp[kz] at hz
          cases a<;>simp[kin1] at hk
          cases a'<;>simp[kin1] at hk'
          rename_i k1 n1 k2 n2
          obtain⟨rfl,_⟩:=x2
          obtain⟨rfl,_⟩:=y2
          simp only[eqAV] at h1
          split at h1
          ·rename_i e;subst e
           simp only[Option.some.injEq] at h1
           rw[run_equalIn_int w d f.type k1 _ n1 n2 hu,h1]
          ·cases h1
         |bool n=>
          cases td<;>simp[kz] at hz
          cases a<;>simp[kin1] at hk
          cases a'<;>simp[kin1] at hk'
          rename_i b1' b2'
          have x2:x=.bool b1':=x2
          have y2:y=.bool b2':=y2
          subst x2;subst y2
          simp only[eqAV,Option.some.injEq] at h1
          rw[run_equalIn_bool' w d f.type _ _ hu,h1]
         |str n=>
          cases td<;>simp[kz] at hz
          cases a<;>simp[kin1] at hk
          cases a'<;>simp[kin1] at hk'
          rename_i s1 s2
          have x2:x=.string ⟨s1.toArray⟩:=x2
          have y2:y=.string ⟨s2.toArray⟩:=y2
          subst x2;subst y2
          simp only[eqAV,Option.some.injEq] at h1
          rw[run_equalIn_string w d f.type _ _ hu,←h1]
          simp[ByteArray.toList_eq]
         |_=>cases td<;>simp[kz] at hz
       simp only[Op.eqFields,hne,ne_eq,not_false_eq_true,if_true,Sem.run_bind,hpart xs x x1,hpart ys y y1,Result.andThen_ok,heq]
       cases b1 with
       |false=>simp
       |true=>simpa using hrec
theorem structEq_of {P:Program} {t:TypeId} {fs:Array Field} (hu:P.underlying t=some (.struct fs)) (hp:P.stoodInHeld t=false) (hm:P.eqGuardType P.depth t=false) (hf:flatB P fs.toList 0 (tk P t).z=true):StructEq P t=True:=by
 simp only[eq_iff_iff,iff_true]
 intro l l' xs ys w b _ _ hk hk' hx hy he x y
 have hfo:P.fieldsOf t=fs:=by simp[Program.fieldsOf,hu]
 have hu':P.underlying t=some (.struct (P.fieldsOf t)):=by rw[hfo];exact hu
 have key:(Op.equalIn 10000 t (.agg xs) (.agg ys)).run P w=.ok b w:=by
  rw[run_equalIn_struct w 9999 t xs ys hu' hp,hfo]
  exact eqFields_flat fs.toList 0 (tk P t).z l l' b hf hk hk' (fun j a hj=>by simpa using hx j a hj) (fun j a hj=>by simpa using hy j a hj) he
 refine⟨run_eqGuard_agg w _ t x y xs ys hm,run_eqGuard_agg w _ t x y xs ys hm,?_,?_⟩
 ·rw[run_eql_struct,key];rfl
 ·rw[run_neq_struct,key];rfl
theorem FinK.val {P:Program} {fin:Fin} {σ:St} {x:ResultVar} (hres:fin.res=[x]) (b:AT) (h0:resOk P σ x) (h1:(sto σ.H (resTV P σ x)).ok) (h2:ALeT (atOf (sto σ.H (resTV P σ x)).cs (resTV P σ x)) b) (h3:fin.R (.val b)) (h4:fin.S σ):FinK P fin σ:=by
 unfold FinK
 rw[hres]
 exact⟨h4,⟨h0,h1,trivial⟩,.val b,h2,h3⟩
theorem FinK.val1 {P:Program} {c:Bool} {σ:St} {t:Tmp} {b:AT} (h1:(sto σ.H (σ.T t)).ok) (h2:ALeT (atOf (sto σ.H (σ.T t)).cs (σ.T t)) b):FinK P ⟨[.tmp t],fun r=>r=.val b,fun _=>True,c⟩ σ:=
 FinK.val rfl b trivial h1 h2 rfl trivial
theorem FinK.cell1 {P:Program} {c:Bool} {σ:St} {x:Tmp} {t:TypeId} {b:AT} (h0:resOk P σ (.cell x t)) (h1:(sto σ.H (resTV P σ (.cell x t))).ok) (h2:ALeT (atOf (sto σ.H (resTV P σ (.cell x t))).cs (resTV P σ (.cell x t))) b):FinK P ⟨[.cell x t],fun r=>r=.val b,fun _=>True,c⟩ σ:=
 FinK.val rfl b h0 h1 h2 rfl trivial
theorem FinK.tup {P:Program} {c:Bool} {res:List ResultVar} {σ:St} {l:List AT} (h1:(resSto P σ σ.H res).1) (h2:RLe (rvOf (resSto P σ σ.H res).2) (.tup l)):FinK P ⟨res,fun r=>r=.tup l,fun _=>True,c⟩ σ:=
 ⟨trivial,h1,.tup l,h2,rfl⟩
def pickT (T:Nat→TV):List Nat→List (Nat×TV)
 |[]=>[]
 |s::r=>(s,T s)::pickT T r
def pickH (H:Nat→OB):List Nat→List (Nat×OB)
 |[]=>[]
 |s::r=>(s,H s)::pickH H r
theorem LoopK.intro {body:Code} {k:List It→St→Prop} {K:List It} {σ:St} (X:Type) (ts:X→List (Nat×TV)) (hs:X→List (Nat×OB)) (keep keepH:List Nat) (n:Nat) (Inv:X→Prop) (μ:X→Nat) (x0:X)
 (h0:Inv x0) (h1:Le σ ⟨ts x0++pickT σ.T keep,hs x0++pickH σ.H keepH,n⟩)
 (h2:∀x,Inv x→k (.code body::.lp (fun σ'=>∃x',Le σ' ⟨ts x'++pickT σ.T keep,hs x'++pickH σ.H keepH,n⟩∧Inv x'∧μ x'<μ x)::K) ⟨ts x++pickT σ.T keep,hs x++pickH σ.H keepH,n⟩):LoopK body k K σ:=
 ⟨X,fun x=>⟨ts x++pickT σ.T keep,hs x++pickH σ.H keepH,n⟩,Inv,μ,⟨x0,h0,h1⟩,h2⟩
theorem CallK.one {P:Program} {N:Nat} {f:FuncId} {args:List AT} {k:List It→St→Prop} {K:List It} {σ:St} {d:Option Tmp} {bw:Bool} {ts:List TV} {r:RV} (h:ACalls P f args (fun r'=>r'=r)) (h1:bw=true→clAll r.cells) (h2:k K (σ.ret d bw r)):CallK P N f args k K σ d bw ts:=
 .inl (.inl ⟨_,h,fun r' e=>by subst e;exact⟨h1,h2⟩⟩)
theorem CallK.ex {D:Type} {Q:D→Prop} {mk:D→RV} {P:Program} {N:Nat} {f:FuncId} {args:List AT} {k:List It→St→Prop} {K:List It} {σ:St} {d:Option Tmp} {bw:Bool} {ts:List TV} (h:ACalls P f args (fun r=>∃x,Q x∧r=mk x)) (h1:bw=true→∀x,Q x→clAll (mk x).cells) (h2:∀x,Q x→k K (σ.ret d bw (mk x))):CallK P N f args k K σ d bw ts:=
 .inl (.inl ⟨_,h,fun r' e=>by obtain⟨x,hq,rfl⟩:=e;exact⟨fun e=>h1 e x hq,h2 x hq⟩⟩)
theorem CallK.cur {D:Type} {Q:D→Prop} {mk:D→RV} {P:Program} {N:Nat} {f:FuncId} {args l':List AT} {k:List It→St→Prop} {K:List It} {σ:St} {d:Option Tmp} {bw bw':Bool} {r:Nat} {vs:List Nat} {l:List TV} {x:Value} {n:Nat} (h:ACur P f n l' (fun r=>∃x,Q x∧r=mk x)) (ha:(σ.H r).a=curA x n) (hl:(borA σ.H l).2=(bw',l')) (hm:memN r (mlA l)=false)
 (h1:bw'=true→∀x,Q x→clAll (mk x).cells) (h2:∀x,Q x→k K (σ.ret d bw' (mk x))):CallK P N f args k K σ d bw (.one (.ref r [] vs 0 0)::l):=
 .inl (.inr (.inr (.inr (.inl ⟨x,n,_,by rw[hl];exact h,ha,hm,fun r' e=>by obtain⟨x,hq,rfl⟩:=e;rw[hl];exact⟨fun e=>h1 e x hq,h2 x hq⟩⟩))))
theorem CallK.new {P:Program} {N:Nat} {f:FuncId} {args:List AT} {k:List It→St→Prop} {K:List It} {σ:St} {s:Nat} {ts:List TV} {n:Nat} (h:ANew P f args n) (h2:∀x,k K (σ.put (some s) (.one (.ref (σ.n+1) [] [0] 0 0)) [(σ.n+1,⟨curA x n,[]⟩)] (σ.n+2))):CallK P N f args k K σ (some s) false ts:=
 .inl (.inr (.inr (.inr (.inr ⟨n,s,h,rfl,rfl,h2⟩))))
theorem CallK.two {D:Type} {Q:D→Prop} {mk:D→RV} {P:Program} {N:Nat} {f:FuncId} {args:List AT} {k:List It→St→Prop} {K:List It} {σ:St} {d:Option Tmp} {bw:Bool} {ts:List TV} (h:ACalls P f args (fun r=>∃x,Q x∧r=mk x)) (h1:bw=true→∀x,Q x→clAll (mk x).cells) (nm:TypeId→Bool) (m:Nat) (h2:∀x,Q x→prun P N nm k m K (σ.ret d bw (mk x)) (σ.ret d bw (mk x))):CallK P N f args k K σ d bw ts:=
 .inr ⟨_,h,fun r' e=>by obtain⟨x,hq,rfl⟩:=e;exact⟨fun e=>h1 e x hq,nm,m,h2 x hq⟩⟩
theorem PeekK.ex {D:Type} {Q:D→Prop} {mk:D→RV} {P:Program} {f:FuncId} {args:List AT} {k:List It→St→Prop} {K:List It} {σ:St} {d:Option Tmp} (h:ACalls P f args (fun r=>∃x,Q x∧r=mk x)) (h1:∀x,Q x→clAll (mk x).cells) (h2:∀x,Q x→k K (σ.ret d true (mk x))):PeekK P f args k K σ d:=
 ⟨_,h,fun r' e=>by obtain⟨x,hq,rfl⟩:=e;exact⟨h1 x hq,h2 x hq⟩⟩
theorem CallCE.one {P:Program} {N:Nat} {ops:Array Oper} {k:List It→St→Prop} {K:List It} {l:List (Nat×Oper)} {f:FuncId} {args:List AT} {log:List Ent} {j:Nat} {rd:List Nat} {σ:St} {d:Option Tmp} {bw:Bool} {ts:List TV} {r:RV} (h:ACalls P f args (fun r'=>r'=r)) (h1:bw=true→clAll r.cells) (hl:Nat.ble r.cells.length 62=true)
 (h2:drunC P N ops k K l (log++[⟨j,rd,dbl (keys (objs (σ.n+1) r.cells))⟩]) (σ.put d (instR bw (σ.n+1) r) (objs (σ.n+1) r.cells) (σ.n+64))):CallCE P N ops k K l f args log j rd σ d bw ts:=
 .inl ⟨_,_,.inr ⟨r,fun _ e=>e⟩,h,⟨r,rfl⟩,fun r' e=>by subst e;exact⟨h1,hl,rfl,h2⟩⟩
theorem CallCE.ex {D:Type} {Q:D→Prop} {mk:D→RV} {P:Program} {N:Nat} {ops:Array Oper} {k:List It→St→Prop} {K:List It} {l:List (Nat×Oper)} {f:FuncId} {args:List AT} {log:List Ent} {j:Nat} {rd:List Nat} {σ:St} {d:Option Tmp} {bw:Bool} {ts:List TV} (h:ACalls P f args (fun r=>∃x,Q x∧r=mk x)) (hlt:laterB ops.toList j (zipN 0 ops.toList)=true) (x0:D) (hq0:Q x0) (h1:bw=true→∀x,Q x→clAll (mk x).cells) (hl:∀x,Nat.ble (mk x).cells.length 62=true) (hk:∀x,keys (objs (σ.n+1) (mk x).cells)=keys (objs (σ.n+1) (mk x0).cells))
 (h2:∀x,Q x→drunC P N ops k K l (log++[⟨j,rd,dbl (keys (objs (σ.n+1) (mk x0).cells))⟩]) (σ.put d (instR bw (σ.n+1) (mk x)) (objs (σ.n+1) (mk x).cells) (σ.n+64))):CallCE P N ops k K l f args log j rd σ d bw ts:=
 .inl ⟨(fun r=>∃x,Q x∧r=mk x),_,.inl hlt,h,⟨mk x0,x0,hq0,rfl⟩,fun r' e=>by obtain⟨x,hq,rfl⟩:=e;exact⟨fun e=>h1 e x hq,hl x,hk x,h2 x hq⟩⟩
theorem CallCE.cur {D:Type} {Q:D→Prop} {mk:D→RV} {P:Program} {N:Nat} {ops:Array Oper} {k:List It→St→Prop} {K:List It} {l0:List (Nat×Oper)} {f:FuncId} {args l':List AT} {log:List Ent} {j:Nat} {rd:List Nat} {σ:St} {d:Option Tmp} {bw bw':Bool} {r:Nat} {vs:List Nat} {l:List TV} {x:Value} {n:Nat} (h:ACur P f n l' (fun r=>∃x,Q x∧r=mk x)) (hlt:laterB ops.toList j (zipN 0 ops.toList)=true) (x0:D) (hq0:Q x0) (ha:(σ.H r).a=curA x n) (hlq:(borA σ.H l).2=(bw',l')) (hm:memN r (mlA l)=false)
 (h1:bw'=true→∀x,Q x→clAll (mk x).cells) (hl:∀x,Nat.ble (mk x).cells.length 62=true) (hk:∀x,keys (objs (σ.n+1) (mk x).cells)=keys (objs (σ.n+1) (mk x0).cells))
 (h2:∀x,Q x→drunC P N ops k K l0 (log++[⟨j,rd,dbl (keys (objs (σ.n+1) (mk x0).cells))⟩]) (σ.put d (instR bw' (σ.n+1) (mk x)) (objs (σ.n+1) (mk x).cells) (σ.n+64))):CallCE P N ops k K l0 f args log j rd σ d bw (.one (.ref r [] vs 0 0)::l):=
 .inr ⟨r,vs,l,x,n,(fun r=>∃x,Q x∧r=mk x),_,hlt,rfl,by rw[hlq];exact h,ha,hm,⟨mk x0,x0,hq0,rfl⟩,fun r' e=>by obtain⟨x,hq,rfl⟩:=e;rw[hlq];exact⟨fun e=>h1 e x hq,hl x,hk x,h2 x hq⟩⟩
theorem ACalls.imp {P:Program} {f:FuncId} {args:List AT} {R R':RV→Prop} (h:ACalls P f args R) (hr:∀r,R r→R' r):ACalls P f args R':=
 ⟨h.enter,fun own0 w vs h1 h2 h3=>(h.calls own0 w vs h1 h2 h3).mono (fun e w' he=>by
  obtain⟨v,x,h1,h2,h3⟩:=he
  exact⟨v,x,h1,hr x h2,h3⟩)⟩
theorem CallCEG.one {P:Program} {N:Nat} {ops:Array Oper} {k:List It→St→Prop} {K:List It} {l:List (Nat×Oper)} {gc:Bool} {f:FuncId} {args:List AT} {log:List Ent} {j:Nat} {rd:List Nat} {σ:St} {d:Option Tmp} {bw:Bool} {a:AT} (hp:gPl bw a=true) (hl:Nat.ble a.cells.length 62=true) (h:gc=true→ACalls P f args (fun r'=>r'=.val a))
 (h2:drunC P N ops k K l (log++[⟨j,rd,[]⟩]) (σ.put d (.cnd gc a.cv) [] (σ.n+64))):CallCEG P N ops k K l gc f args log j rd σ d bw:=
 ⟨fun b=>b=a,.inr ⟨a,fun _ e=>e⟩,⟨a,rfl⟩,fun e=>(h e).imp (fun r hr=>⟨a,rfl,hr⟩),fun b hb=>by subst hb;exact⟨hp,hl,h2⟩⟩
theorem CallCEG.ex {D:Type} {Q:D→Prop} {mk:D→AT} {P:Program} {N:Nat} {ops:Array Oper} {k:List It→St→Prop} {K:List It} {l:List (Nat×Oper)} {gc:Bool} {f:FuncId} {args:List AT} {log:List Ent} {j:Nat} {rd:List Nat} {σ:St} {d:Option Tmp} {bw:Bool} (h:gc=true→ACalls P f args (fun r=>∃x,Q x∧r=.val (mk x))) (hlt:laterB ops.toList j (zipN 0 ops.toList)=true) (x0:D) (hq0:Q x0) (hp:∀x,gPl bw (mk x)=true) (hl:∀x,Nat.ble (mk x).cells.length 62=true)
 (h2:∀x,(gc=true→Q x)→drunC P N ops k K l (log++[⟨j,rd,[]⟩]) (σ.put d (.cnd gc (mk x).cv) [] (σ.n+64))):CallCEG P N ops k K l gc f args log j rd σ d bw:=
 ⟨fun b=>∃x,(gc=true→Q x)∧b=mk x,.inl hlt,⟨mk x0,x0,fun _=>hq0,rfl⟩,fun e=>(h e).imp (fun r hr=>by obtain⟨x,hx,rfl⟩:=hr;exact⟨mk x,⟨x,fun _=>hx,rfl⟩,rfl⟩),fun b hb=>by obtain⟨x,hx,rfl⟩:=hb;exact⟨hp x,hl x,h2 x hx⟩⟩
theorem FinK.ex {D:Type} {Q:D→Prop} {mk:D→RV} {P:Program} {c:Bool} {res:List ResultVar} {S:St→Prop} {σ:St} (x:D) (hq:Q x) (h:FinK P ⟨res,fun r=>r=mk x,S,c⟩ σ):FinK P ⟨res,fun r=>∃x,Q x∧r=mk x,S,c⟩ σ:=by
 obtain⟨h0,h1,r,h2,h3⟩:=h
 exact⟨h0,h1,r,h2,x,hq,h3⟩
theorem CallG.one {P:Program} {gc:Bool} {f:FuncId} {args:List AT} {k:List It→St→Prop} {K:List It} {σ:St} {d:Option Tmp} {bw:Bool} {ts:List TV} {a:AT} (hp:gPl bw a=true) (h:gc=true→ACalls P f args (fun r'=>r'=.val a)) (h2:k K (σ.put d (.cnd gc a.cv) [] (σ.n+1+a.cells.length))):CallG P gc f args k K σ d bw ts:=
 .inl ⟨a,hp,h,h2⟩
theorem CallG.skip {P:Program} {f:FuncId} {args:List AT} {k:List It→St→Prop} {K:List It} {σ:St} {d:Option Tmp} {bw:Bool} {ts:List TV} (a:AT) (h2:k K (σ.put d (.cnd false a.cv) [] (σ.n+1))):CallG P false f args k K σ d bw ts:=
 .inr (.inr (.inr ⟨rfl,a,h2⟩))
theorem CallG.cur {D:Type} {Q:D→Prop} {mk:D→RV} {P:Program} {f:FuncId} {args l':List AT} {k:List It→St→Prop} {K:List It} {σ:St} {d:Option Tmp} {bw bw':Bool} {r:Nat} {vs:List Nat} {l:List TV} {x:Value} {n:Nat} (h:ACur P f n l' (fun r=>∃x,Q x∧r=mk x)) (ha:(σ.H r).a=curA x n) (hl:(borA σ.H l).2=(bw',l')) (hm:memN r (mlA l)=false)
 (h1:bw'=true→∀x,Q x→clAll (mk x).cells) (h2:∀x,Q x→k K (σ.put d (cndR bw' (σ.n+1) (mk x)) (objs (σ.n+1) (mk x).cells) (σ.n+1+(mk x).cells.length))):CallG P true f args k K σ d bw (.one (.ref r [] vs 0 0)::l):=
 .inr (.inr (.inl ⟨rfl,r,vs,l,x,n,(fun r=>∃x,Q x∧r=mk x),rfl,by rw[hl];exact h,ha,hm,fun r' e=>by obtain⟨x,hq,rfl⟩:=e;rw[hl];exact⟨fun e=>h1 e x hq,h2 x hq⟩⟩))
theorem CallE.one {P:Program} {N:Nat} {ops:Array Oper} {k:List It→St→Prop} {K:List It} {l:List (Nat×Oper)} {f:FuncId} {args:List AT} {log:List Ent} {j:Nat} {rd:List Nat} {σ:St} {d:Option Tmp} {bw:Bool} {ts:List TV} {r:RV} (h:ACalls P f args (fun r'=>r'=r)) (h1:bw=true→clAll r.cells) (h3:Nat.ble r.cells.length 62=true)
 (h2:drun P N ops k K l (log++[⟨j,rd,dbl (keys (objs (σ.n+1) r.cells))⟩]) (σ.put d (instR bw (σ.n+1) r) (objs (σ.n+1) r.cells) (σ.n+64))):CallE P N ops k K l f args log j rd σ d bw ts:=
 .inl ⟨r,h,h1,h3,h2⟩
theorem CallEG.one {P:Program} {N:Nat} {ops:Array Oper} {k:List It→St→Prop} {K:List It} {l:List (Nat×Oper)} {gc:Bool} {f:FuncId} {args:List AT} {log:List Ent} {j:Nat} {rd:List Nat} {σ:St} {d:Option Tmp} {bw:Bool} {a:AT} (hp:gPl bw a=true) (hl:Nat.ble a.cells.length 62=true) (h:gc=true→ACalls P f args (fun r'=>r'=.val a))
 (h2:drun P N ops k K l (log++[⟨j,rd,[]⟩]) (σ.put d (.cnd gc a.cv) [] (σ.n+64))):CallEG P N ops k K l gc f args log j rd σ d bw:=
 ⟨a,hp,hl,h,h2⟩
theorem cl_gf {α:Type} {cs:α→List AV} {d:α} {l:List α} {nl:Option Bool} {es n:Nat} (h:∀a,∀c∈cs a,c.cl):(AV.sl true nl es n (gf cs d l)).cl:=by
 intro i _ j _
 show (gl .junk (cs (l.getD i d)) j).cl
 rcases gl_mem (d:=AV.junk) (l:=cs (l.getD i d)) (i:=j) with e|e
 ·exact h _ _ e
 ·rw[e];trivial
theorem cl_I (nl:Option Bool) (es n:Nat) (l:List Int):(AV.sl true nl es n (fI l)).cl=True:=by
 simp only[eq_iff_iff,iff_true]
 exact cl_gf (fun a c hc=>by simp[cI] at hc;subst hc;trivial)
theorem cl_L (nl:Option Bool) (es n:Nat) (l:List (List Int)):(AV.sl true nl es n (fL true l)).cl=True:=by
 simp only[eq_iff_iff,iff_true]
 exact cl_gf (fun a c hc=>by simp[cL] at hc;subst hc;rw[cl_I];trivial)
theorem ALe.of {u:Bool} {nl nl':Option Bool} {es n n':Nat} {f g:Nat→Nat→AV} (hnl:nl'=none∨nl'=nl) (hn:n=n') (h:∀i,i<n→∀j,j<es→ALe (f i j) (g i j)):ALe (.sl u nl es n f) (.sl u nl' es n' g):=by
 subst hn
 rcases hnl with rfl|rfl
 ·exact .trans _ _ _ (.sl u nl es n f g h) (.nl u nl es n g)
 ·exact .sl u _ es n f g h
def isRng (b:AV):Prop:=b=.junk∨∃k lo hi,b=.rng k lo hi
theorem ale_isRng {a b:AV} (h:ALe a b):isRng a→isRng b:=by
 induction h with
 |refl a=>exact id
 |junk a=>exact fun _=>.inl rfl
 |rng k lo hi n h1 h2=>exact fun _=>.inr ⟨_,_,_,rfl⟩
 |rngs k lo hi lo' hi' h1 h2=>exact fun _=>.inr ⟨_,_,_,rfl⟩
 |trans a b c _ _ ih ih'=>exact fun e=>ih' (ih e)
 |_=>intro e;rcases e with e|⟨_,_,_,e⟩<;>cases e
theorem ale_int_l0 {k:IntKind} {n:Int} {a b:AV} (h:ALe a b):a=.int k n→b=.int k n∨isRng b:=by
 induction h with
 |refl a=>exact .inl
 |junk a=>exact fun _=>.inr (.inl rfl)
 |rng k lo hi n h1 h2=>exact fun _=>.inr (.inr ⟨_,_,_,rfl⟩)
 |trans a b c _ h2 ih ih'=>
  intro e
  rcases ih e with h|h
  ·exact ih' h
  ·exact .inr (ale_isRng h2 h)
 |_=>intro e;cases e
theorem ale_int_l {k:IntKind} {n:Int} {b:AV} (h:ALe (.int k n) b):b=.int k n∨isRng b:=ale_int_l0 h rfl
theorem ale_bool_l0 {n:Bool} {a b:AV} (h:ALe a b):a=.bool n→b=.bool n∨isRng b:=by
 induction h with
 |refl a=>exact .inl
 |junk a=>exact fun _=>.inr (.inl rfl)
 |rng k lo hi n h1 h2=>exact fun _=>.inr (.inr ⟨_,_,_,rfl⟩)
 |trans a b c _ h2 ih ih'=>
  intro e
  rcases ih e with h|h
  ·exact ih' h
  ·exact .inr (ale_isRng h2 h)
 |_=>intro e;cases e
theorem ale_bool_l {n:Bool} {b:AV} (h:ALe (.bool n) b):b=.bool n∨isRng b:=ale_bool_l0 h rfl
theorem ale_str_l0 {n:List UInt8} {a b:AV} (h:ALe a b):a=.str n→b=.str n∨isRng b:=by
 induction h with
 |refl a=>exact .inl
 |junk a=>exact fun _=>.inr (.inl rfl)
 |rng k lo hi n h1 h2=>exact fun _=>.inr (.inr ⟨_,_,_,rfl⟩)
 |trans a b c _ h2 ih ih'=>
  intro e
  rcases ih e with h|h
  ·exact ih' h
  ·exact .inr (ale_isRng h2 h)
 |_=>intro e;cases e
theorem ale_str_l {n:List UInt8} {b:AV} (h:ALe (.str n) b):b=.str n∨isRng b:=ale_str_l0 h rfl
theorem ale_refl (a:AV):ALe a a=True:=by simp[ALe.refl]
theorem ale_int (k:IntKind) (a b:Int):ALe (.int k a) (.int k b)=(a=b):=by
 apply propext
 constructor
 ·intro h;rcases ale_int_l h with h|h
  ·cases h;rfl
  ·rcases h with h|⟨_,_,_,h⟩<;>cases h
 ·rintro rfl;exact .refl _
theorem ale_bool (a b:Bool):ALe (.bool a) (.bool b)=(a=b):=by
 apply propext
 constructor
 ·intro h;rcases ale_bool_l h with h|h
  ·cases h;rfl
  ·rcases h with h|⟨_,_,_,h⟩<;>cases h
 ·rintro rfl;exact .refl _
theorem ale_str (a b:List UInt8):ALe (.str a) (.str b)=(a=b):=by
 apply propext
 constructor
 ·intro h;rcases ale_str_l h with h|h
  ·cases h;rfl
  ·rcases h with h|⟨_,_,_,h⟩<;>cases h
 ·rintro rfl;exact .refl _
theorem ale_rng (k:IntKind) (n lo hi:Int) (h:lo≤n∧n≤hi):ALe (.int k n) (.rng k lo hi):=.rng k lo hi n h.1 h.2
end Go.AM
/- The framework AM,part 26:arguments that are read as data,as abstract values. -/
namespace Go.AM
open Go Go.RowKit Go.WideShapes Go.ChangeShapes
inductive RT where
 |nil
 |int (k:IntKind) (r:RT)
 |bool (r:RT)
 |str (r:RT)
 |sl (e r:RT)
def RT.len:RT→Nat
 | .nil=>0
 | .int _ r=>r.len+1
 | .bool r=>r.len+1
 | .str r=>r.len+1
 | .sl _ r=>r.len+1
def RT.app:RT→RT→RT
 | .nil,s=>s
 | .int k r,s=>.int k (r.app s)
 | .bool r,s=>.bool (r.app s)
 | .str r,s=>.str (r.app s)
 | .sl e r,s=>.sl e (r.app s)
def RT.has:RT→List AV→Prop
 | .nil,l=>l=[]
 | .int k r,l=>∃n m,l=.int k n::m∧inK k n∧r.has m
 | .bool r,l=>∃b m,l=.bool b::m∧r.has m
 | .str r,l=>∃s m,l=.str s::m∧s.length≤2^47∧r.has m
 | .sl e r,l=>∃n f m,l=.sl false none e.len n f::m∧n≤2^47∧(∀i,i<n→∃row,e.has row∧∀j,f i j=gl .junk row j)∧r.has m
theorem RT.has_len:∀{r:RT} {l:List AV},r.has l→l.length=r.len
 | .nil,l,h=>by cases h;rfl
 | .int k r,l,h=>by obtain⟨n,m,rfl,_,h⟩:=h;simp[RT.len,RT.has_len h]
 | .bool r,l,h=>by obtain⟨n,m,rfl,h⟩:=h;simp[RT.len,RT.has_len h]
 | .str r,l,h=>by obtain⟨n,m,rfl,_,h⟩:=h;simp[RT.len,RT.has_len h]
 | .sl e r,l,h=>by obtain⟨n,f,m,rfl,_,_,h⟩:=h;simp[RT.len,RT.has_len h]
theorem RT.has_app:∀{r s:RT} {l m:List AV},r.has l→s.has m→(r.app s).has (l++m)
 | .nil,s,l,m,h,h'=>by cases h;exact h'
 | .int k r,s,l,m,h,h'=>by obtain⟨n,q,rfl,h1,h⟩:=h;exact⟨n,_,rfl,h1,RT.has_app h h'⟩
 | .bool r,s,l,m,h,h'=>by obtain⟨n,q,rfl,h⟩:=h;exact⟨n,_,rfl,RT.has_app h h'⟩
 | .str r,s,l,m,h,h'=>by obtain⟨n,q,rfl,h1,h⟩:=h;exact⟨n,_,rfl,h1,RT.has_app h h'⟩
 | .sl e r,s,l,m,h,h'=>by obtain⟨n,f,q,rfl,h1,h2,h⟩:=h;exact⟨n,f,_,rfl,h1,h2,RT.has_app h h'⟩
mutual
def rtOf (P:Program):Nat→TypeId→Option RT
 |0,_=>none
 |m+1,t=>match P.underlying t with
  |some .bool=>some (.bool .nil)
  |some (.int k)=>some (.int k .nil)
  |some .string=>some (.str .nil)
  |some (.slice e)=>(match rtOf P m e with
   |some E=>bif Nat.beq E.len (P.cellsOf e)&& !Nat.beq E.len 0&& !Nat.beq (P.bytesOf e) 0 then some (.sl E .nil) else none
   |none=>none)
  |some (.struct fs)=>rtFs P m (P.cellsOf t) fs.toList 0
  |_=>none
def rtFs (P:Program):Nat→Nat→List Field→Nat→Option RT
 |0,_,_,_=>none
 |_+1,sz,[],o=>bif Nat.beq o sz then some .nil else none
 |m+1,sz,f::r,o=>match rtOf P m f.type,rtFs P m sz r (o+P.cellsOf f.type) with
  |some R,some S=>bif Nat.beq f.offset o&&Nat.beq R.len (P.cellsOf f.type) then some (R.app S) else none
  |_,_=>none
end
section
variable {H:Type} {enc:TypeId×Value→H} {P:Program} {w:World} {sp:Nat→Bool}
def RdL (w:World) (l:List AV) (cs:List Value):Prop:=l.length=cs.length∧∀(j:Nat) (a:AV),l[j]?=some a→∃v,cs[j]?=some v∧Rd w (fun _=>none) a v
theorem RdL.one {a:AV} {v:Value} (h:Rd w (fun _=>none) a v):RdL w [a] [v]:=by
 refine⟨rfl,fun j b hj=>?_⟩
 cases j with
 |zero=>simp at hj;subst hj;exact⟨v,rfl,h⟩
 |succ j=>simp at hj
theorem RdL.app {l m:List AV} {cs ds:List Value} (h:RdL w l cs) (h':RdL w m ds):RdL w (l++m) (cs++ds):=by
 refine⟨by simp[h.1,h'.1],fun j a hj=>?_⟩
 by_cases e:j<l.length
 ·rw[List.getElem?_append_left e] at hj
  rw[List.getElem?_append_left (by rw[←h.1];exact e)]
  exact h.2 j a hj
 ·rw[List.getElem?_append_right (by omega)] at hj
  rw[List.getElem?_append_right (by rw[←h.1];omega),←h.1]
  exact h'.2 _ a hj
theorem mapM_get {α β:Type} {f:α→Option β}:∀{l:List α} {r:List β},l.mapM f=some r→r.length=l.length∧∀(j:Nat) (x:α),l[j]?=some x→∃y,r[j]?=some y∧f x=some y
 |[],r,h=>by simp at h;subst h;exact⟨rfl,fun j x h=>by simp at h⟩
 |a::l,r,h=>by
  simp only[List.mapM_cons,Option.bind_eq_bind,Option.bind_eq_some_iff,Option.pure_def,Option.some.injEq] at h
  obtain⟨y,h1,q,h2,rfl⟩:=h
  obtain⟨i1,i2⟩:=mapM_get h2
  refine⟨by simp[i1],fun j x hj=>?_⟩
  cases j with
  |zero=>simp at hj;subst hj;exact⟨y,rfl,h1⟩
  |succ j=>obtain⟨z,f1,f2⟩:=i2 j x (by simpa using hj);exact⟨z,by simpa using f1,f2⟩
theorem cells_get {base:Nat} {a:Addr} {n:Nat} {cs:List Value} (h:w.cells? base a n=some cs):cs.length=n∧∀i,i<n→∃v,cs[i]?=some v∧w.cell? (a.add i)=some v:=by
 unfold World.cells? at h
 split at h
 ·obtain⟨h1,h2⟩:=mapM_get h
  refine⟨by simpa using h1,fun i hi=>?_⟩
  exact h2 i i (by simp[hi])
 ·cases h
theorem cell_row {a:Addr} {v:Value} (h:w.cell? a=some v):∃c T fz,a.spot=none∧w.heap[a.block]?=some (.cells c T fz)∧c[a.off]?=some v:=by
 unfold World.cell? at h
 split at h
 ·rename_i c T fz hc
  by_cases hs:a.spot.isSome
  ·rw[if_pos hs] at h;cases h
  ·rw[if_neg hs] at h
   exact⟨c,T,fz,by simpa using hs,hc,h⟩
 ·cases h
theorem add_block {a:Addr} {n:Nat}:(a.add n).block=a.block:=by
 unfold Addr.add;split<;>rfl
theorem add_off {a:Addr} {n:Nat}:(a.add n).off=a.off+n:=by
 unfold Addr.add;split
 ·rename_i h;subst h;rfl
 ·rfl
theorem weightsAll_mem {e:TypeId}:∀{l:List (DataW H)} {d:DataW H},d∈l→∀n∈d.weights P e,n∈DataW.weightsAll P e l
 |x::l,d,h,n,hn=>by
  simp only[DataW.weightsAll,List.mem_append]
  rcases List.mem_cons.1 h with rfl|h
  ·exact .inl hn
  ·exact .inr (weightsAll_mem h n hn)
theorem reach_lt {n:Nat} (h:n≤reachBytes):n≤2^47:=Nat.le_trans h (by decide)
theorem beq_true {a b:Nat} (h:Nat.beq a b=true):a=b:=Nat.eq_of_beq_eq_true h
theorem bif_some {b:Bool} {α:Type} {x r:α} (h:(bif b then some x else none)=some r):b=true∧x=r:=by
 cases b with
 |true=>simp at h;exact⟨rfl,h⟩
 |false=>simp at h
theorem trod_has:∀(m:Nat),
 (∀(t:TypeId) (R:RT) (n:Nat) (cs:List Value) (x:DataW H×List MemPlace),rtOf P m t=some R→DataW.trod enc P w 0 sp true n t cs=some x→(∀k∈x.1.weights P t,k≤reachBytes)→∃l,R.has l∧RdL w l cs)∧
 (∀(sz:Nat) (fs:List Field) (o:Nat) (R:RT) (n:Nat) (cs:List Value) (xs:List (DataW H×List MemPlace)),rtFs P m sz fs o=some R→cs.length=sz→
  (∀(i:Nat) (f:Field),fs[i]?=some f→DataW.trod enc P w 0 sp true n f.type ((cs.drop f.offset).take (P.cellsOf f.type))=xs[i]?)→xs.length=fs.length→
  (∀k∈DataW.weightsEach P (fs.map (·.type)) (xs.map (·.1)),k≤reachBytes)→o≤sz∧∃l,R.has l∧RdL w l (cs.drop o)):=by
 intro m
 induction m with
 |zero=>exact⟨fun t R n cs x h=>by simp[rtOf] at h,fun sz fs o R n cs xs h=>by simp[rtFs] at h⟩
 |succ m ih=>
  obtain⟨ih1,ih2⟩:=ih
  refine⟨fun t R n cs x h hx hw=>?_,fun sz fs o R n cs xs h hcs hx hxl hw=>?_⟩
  ·simp only[rtOf] at h
   split at h
   ·rename_i hu
    cases h
    obtain⟨b,rfl,rfl⟩:=DataW.trod_bool hu hx
    exact⟨[.bool b],⟨b,[],rfl,rfl⟩,RdL.one rfl⟩
   ·rename_i k hu
    cases h
    obtain⟨i,rfl,rfl,hwf⟩:=DataW.trod_int hu hx
    have hk:inK k i:=by
     simp only[Lit.wf,Bool.and_eq_true,decide_eq_true_eq] at hwf
     exact hwf
    exact⟨[.int k i],⟨i,[],rfl,hk,rfl⟩,RdL.one ⟨rfl,hk⟩⟩
   ·rename_i hu
    cases h
    obtain⟨s,rfl,rfl,_⟩:=DataW.trod_string hu hx
    have hl:s.data.toList.length≤2^47:=reach_lt (hw _ (by simp[DataW.weights]))
    exact⟨[.str s.data.toList],⟨_,[],rfl,hl,rfl⟩,RdL.one (by show Value.string s=_;simp)⟩
   ·rename_i e hu
    split at h
    ·rename_i E hE
     obtain⟨hb,rfl⟩:=bif_some h
     simp only[Bool.and_eq_true,Bool.not_eq_true'] at hb
     obtain⟨⟨hlen,hne⟩,hby⟩:=hb
     have hlen:=beq_true hlen
     have hne:E.len≠0:=Nat.ne_of_beq_eq_false hne
     have hby:P.bytesOf e≠0:=Nat.ne_of_beq_eq_false hby
     rcases DataW.trod_slice hu hx with ⟨rfl,rfl⟩|⟨a,len,cap,elems,rest,n',rfl,rfl,rfl,_,hlc,hcm,hel,hget,_,_⟩
     ·exact⟨[.sl false none E.len 0 (fun _ _=>.junk)],⟨0,_,[],rfl,by omega,fun i hi=>by omega,rfl⟩,RdL.one ⟨none,0,rfl,Nat.le_refl _,Nat.zero_le _,⟨fun _=>rfl,fun h=>(by cases h)⟩,fun _=>rfl,fun h=>absurd rfl h⟩⟩
     ·have hrow:∀i,i<len→∃row ci,E.has row∧RdL w row ci∧w.cells? 0 (a.add (i*P.cellsOf e)) (P.cellsOf e)=some ci:=by
       intro i hi
       have hg:=hget i hi
       have hi':i<elems.length:=by omega
       rw[List.getElem?_eq_getElem hi'] at hg
       obtain⟨ci,h1,h2⟩:=Option.bind_eq_some_iff.1 hg
       obtain⟨row,g1,g2⟩:=ih1 e E n' ci _ hE h2 (fun k hk=>hw k (by
        simp only[DataW.weights,hu,List.mem_cons,List.mem_append]
        exact .inr (.inl (weightsAll_mem (List.mem_map.2 ⟨_,List.getElem_mem hi',rfl⟩) k hk))))
       exact⟨row,ci,g1,g2,h1⟩
      classical
      let F:Nat→List AV:=fun i=>if h:i<len then Classical.choose (hrow i h) else []
      have hF:∀i (h:i<len),∃ci,E.has (F i)∧RdL w (F i) ci∧w.cells? 0 (a.add (i*P.cellsOf e)) (P.cellsOf e)=some ci:=by
       intro i h
       have:=Classical.choose_spec (hrow i h)
       simp only[F,dif_pos h]
       exact this
      have hbound:len≤2^47:=by
       have h1:(elems.map (·.1)).length+(rest.map (·.1)).length≤((elems.map (·.1)).length+(rest.map (·.1)).length)*P.bytesOf e:=Nat.le_mul_of_pos_right _ (Nat.pos_of_ne_zero hby)
       have h2:=hw (((elems.map (·.1)).length+(rest.map (·.1)).length)*P.bytesOf e) (by simp only[DataW.weights,hu];simp)
       have h3:=reach_lt h2
       simp at h1 h3
       omega
      refine⟨[.sl false none E.len len (fun i j=>gl .junk (F i) j)],⟨len,_,[],rfl,hbound,fun i hi=>⟨F i,(hF i hi).choose_spec.1,fun j=>rfl⟩,rfl⟩,RdL.one ?_⟩
      have hblk:len≠0→∃c T fz,a.spot=none∧w.heap[a.block]?=some (.cells c T fz):=by
       intro h0
       obtain⟨ci,_,_,h3⟩:=hF 0 (by omega)
       obtain⟨_,h4⟩:=cells_get h3
       obtain⟨v,_,h5⟩:=h4 0 (by omega)
       obtain⟨c,T,fz,q1,q2,_⟩:=cell_row h5
       rw[add_block,add_block] at q2
       refine⟨c,T,fz,?_,q2⟩
       simpa [Addr.add] using q1
      refine⟨some a,cap,rfl,hlc,hcm,⟨fun h=>(by cases h),fun h=>(by cases h)⟩,fun h=>(by cases h),fun h0=>?_⟩
      obtain⟨c,T,fz,q1,q2⟩:=hblk h0
      refine⟨a.block,a.off,c,T,fz,by cases a;simp at q1 ⊢;exact q1,rfl,q2,fun i hi j hj=>?_⟩
      obtain⟨ci,h1,h2,h3⟩:=hF i hi
      obtain⟨h4,h5⟩:=cells_get h3
      obtain⟨v,g1,g2⟩:=h5 j (by omega)
      obtain⟨c',T',fz',r1,r2,r3⟩:=cell_row g2
      rw[add_block,add_block,q2] at r2
      cases r2
      refine⟨v,?_,?_⟩
      ·have:((a.add (i*P.cellsOf e)).add j).off=a.off+(i*E.len+j):=by
        rw[add_off,add_off,hlen];omega
       rw[←this];exact r3
      ·have hjl:j<(F i).length:=by rw[RT.has_len h1];exact hj
       obtain⟨v',k1,k2⟩:=h2.2 j _ (List.getElem?_eq_getElem hjl)
       rw[g1] at k1
       cases k1
       show Rd w (fun _=>none) (gl .junk (F i) j) v
       rw[gl_eq]
       simpa [List.getD,hjl] using k2
    ·cases h
   ·rename_i fs hu
    obtain⟨xs,n',rfl,rfl,hl,hxl,hf⟩:=DataW.trod_struct hu hx
    obtain⟨_,l,h1,h2⟩:=ih2 _ _ 0 R n' cs xs h hl (fun i f hi=>hf i f (by simpa using hi)) (by simpa using hxl) (fun k hk=>hw k (by simp only[DataW.weights,hu];exact hk))
    exact⟨l,h1,by simpa using h2⟩
   ·cases h
  ·cases fs with
   |nil=>
    simp only[rtFs] at h
    obtain⟨h1,rfl⟩:=bif_some h
    have h1:=beq_true h1
    subst h1
    refine⟨Nat.le_refl _,[],rfl,?_⟩
    have:cs.drop o=[]:=List.drop_eq_nil_of_le (by omega)
    rw[this]
    exact⟨rfl,fun j a hj=>by simp at hj⟩
   |cons f r=>
    simp only[rtFs] at h
    split at h
    ·rename_i R' S hR hS
     obtain⟨hb,rfl⟩:=bif_some h
     simp only[Bool.and_eq_true] at hb
     have hoff:=beq_true hb.1
     have hlen:=beq_true hb.2
     cases xs with
     |nil=>simp at hxl
     |cons x xs=>
      have hx0:=hx 0 f rfl
      simp only[List.getElem?_cons_zero] at hx0
      have hweq:DataW.weightsEach P ((f::r).map (·.type)) ((x::xs).map (·.1))=x.1.weights P f.type++DataW.weightsEach P (r.map (·.type)) (xs.map (·.1)):=rfl
      rw[hweq] at hw
      obtain⟨l1,g1,g2⟩:=ih1 _ _ _ _ _ hR hx0 (fun k hk=>hw k (List.mem_append_left _ hk))
      obtain⟨ho,l2,g3,g4⟩:=ih2 _ _ _ _ n cs xs hS hcs (fun i f' hi=>by
       have:=hx (i+1) f' (by simpa using hi)
       simpa using this) (by simpa using hxl) (fun k hk=>hw k (List.mem_append_right _ hk))
      refine⟨by omega,l1++l2,RT.has_app g1 g3,?_⟩
      have e:cs.drop o=(cs.drop o).take (P.cellsOf f.type)++cs.drop (o+P.cellsOf f.type):=by
       rw[←List.drop_drop];exact(List.take_append_drop _ _).symm
      rw[e]
      rw[hoff] at g2
      exact g2.app g4
    ·cases h
end
def RdLe (a b:AV):Prop:=∀(w:World) (own:Own) (v:Value),Rd w own a v→Rd w own b v
def RdLeL:List AV→List AV→Prop
 |[],[]=>True
 |a::r,b::s=>RdLe a b∧RdLeL r s
 |_,_=>False
theorem RdLeL.refl:∀(l:List AV),RdLeL l l
 |[]=>trivial
 |_::r=>⟨fun _ _ _ h=>h,RdLeL.refl r⟩
theorem RdLeL.get:∀{l m:List AV},RdLeL l m→l.length=m.length∧∀(j:Nat) (b:AV),m[j]?=some b→∃a,l[j]?=some a∧RdLe a b
 |[],[],_=>⟨rfl,fun j b h=>by simp at h⟩
 |[],_::_,h=>h.elim
 |_::_,[],h=>h.elim
 |x::l,y::m,h=>by
  obtain⟨h1,h2⟩:=h
  obtain⟨i1,i2⟩:=RdLeL.get h2
  refine⟨by simp[i1],fun j b hj=>?_⟩
  cases j with
  |zero=>simp at hj;subst hj;exact⟨x,rfl,h1⟩
  |succ j=>obtain⟨z,f1,f2⟩:=i2 j b (by simpa using hj);exact⟨z,by simpa using f1,f2⟩
def Dec {α:Type} (R:RT) (cs:α→List AV) (good:α→Prop):Prop:=∀l,R.has l→∃x,good x∧RdLeL l (cs x)
theorem dec_int (k:IntKind):Dec (.int k .nil) (fun n=>[.int k n]) (inK k):=by
 rintro l ⟨n,m,rfl,h,rfl⟩
 exact⟨n,h,RdLeL.refl _⟩
theorem dec_sl {α:Type} {E:RT} {cs:α→List AV} {good:α→Prop} (d:α) (h:Dec E cs good):Dec (.sl E .nil) (fun l=>[.sl false none E.len l.length (gf cs d l)]) (fun l=>l.length≤2^47∧∀x∈l,good x):=by
 rintro l ⟨n,f,m,rfl,hn,hrow,rfl⟩
 have h1:∀i,i<n→∃x,good x∧∃row,(∀j,f i j=gl .junk row j)∧row.length=E.len∧RdLeL row (cs x):=by
  intro i hi
  obtain⟨row,h2,h3⟩:=hrow i hi
  obtain⟨x,h4,h5⟩:=h row h2
  exact⟨x,h4,row,h3,RT.has_len h2,h5⟩
 classical
 let X:Nat→α:=fun i=>if h:i<n then Classical.choose (h1 i h) else d
 have hX:∀i (h:i<n),good (X i)∧∃row,(∀j,f i j=gl .junk row j)∧row.length=E.len∧RdLeL row (cs (X i)):=by
  intro i h
  have:=Classical.choose_spec (h1 i h)
  simp only[X,dif_pos h]
  exact this
 refine⟨(List.range n).map X,⟨by simpa using hn,fun x hx=>?_⟩,?_,trivial⟩
 ·simp only[List.mem_map,List.mem_range] at hx
  obtain⟨i,hi,rfl⟩:=hx
  exact(hX i hi).1
 ·rintro w own v ⟨a,cap,rfl,g1,g2,g3,g4,g5⟩
  refine⟨a,cap,by simp,by simpa using g1,g2,g3,g4,fun h0=>?_⟩
  obtain⟨b,off,c,T,fz,rfl,k1,k2,k3⟩:=g5 (by simpa using h0)
  refine⟨b,off,c,T,fz,rfl,k1,k2,fun i hi j hj=>?_⟩
  have hi:i<n:=by simpa using hi
  obtain⟨x,q1,q2⟩:=k3 i hi j hj
  refine⟨x,q1,?_⟩
  obtain⟨_,row,r1,r2,r3⟩:=hX i hi
  obtain⟨s1,s2⟩:=r3.get
  have e:((List.range n).map X).getD i d=X i:=by simp[List.getD,hi]
  show Rd w own (gl .junk (cs (((List.range n).map X).getD i d)) j) x
  rw[e]
  have hjr:j<(cs (X i)).length:=by omega
  obtain⟨a,t1,t2⟩:=s2 j _ (List.getElem?_eq_getElem hjr)
  have e2:gl .junk (cs (X i)) j=(cs (X i))[j]:=by rw[gl_eq];simp[List.getD,hjr]
  have e3:f i j=a:=by rw[r1,gl_eq];simp[List.getD,t1]
  rw[e2]
  rw[e3] at q2
  exact t2 w own x q2
section
variable {H:Type} {enc:TypeId×Value→H} {P:Program} {W:World}
theorem rel_of_one {a b:AV} {v:Value} (h:RdL W [a] v.cells.toList) (hv:∀cs,v≠.agg cs) (hle:RdLe a b):RelA W (fun _=>none) (.one b) v:=by
 obtain⟨x,h1,h2⟩:=h.2 0 a rfl
 have:x=v:=by
  cases v with
  |agg cs=>exact absurd rfl (hv cs)
  |_=>simp[Value.cells] at h1;exact h1.symm
 rw[←this]
 exact hle _ _ _ h2
theorem trodAll_stays (hl:laidOutB P=true) {W W':World} {sp:Nat→Bool}:∀{ts:List TypeId} {vs:List Value} {ds:List (DataW H)} {p:List MemPlace},(∀t∈ts,P.readableRec t=true∧t<P.types.size)→
 DataW.TrodAll enc P W 0 (fun _=>true) true ts vs ds p→(∀q∈p,W.sameAt W' q)→(∀q∈p,sp q.block=true)→DataW.TrodAll enc P W' 0 sp true ts vs ds p
 |[],[],[],p,_,h,_,_=>h
 |t::ts,v::vs,d::ds,p,hr,h,h1,h2=>by
  obtain⟨p1,p2,g1,g2,rfl⟩:=h
  refine⟨p1,p2,?_,trodAll_stays hl (fun t ht=>hr t (by simp[ht])) g2 (fun q hq=>h1 q (List.mem_append_right _ hq)) (fun q hq=>h2 q (List.mem_append_right _ hq)),rfl⟩
  exact WideElems.Trod_stays hl (hr t (by simp)).1 (hr t (by simp)).2 g1 (fun q hq=>h1 q (List.mem_append_left _ hq)) (fun q hq=>h2 q (List.mem_append_left _ hq))
 |[],_::_,_,_,_,h,_,_=>h.elim
 |_::_,[],_,_,_,h,_,_=>h.elim
 |_::_,_::_,[],_,_,h,_,_=>h.elim
 |[],[],_::_,_,_,h,_,_=>h.elim
theorem law_post {f:Func} {s:ChangeSpec} {args:Array Value} {ds gs:List (DataW H)} {before:List MemPlace} {t:TypeId} {apart fresh handsOn again:Bool} (hW:DataW.Whole enc P f.params.toList s.vars apart W args.toList ds gs before)
 (hvars:s.vars=[]) (hfn:s.fn H ds={ results:=[.lit (.bool true)],args:=ds}) (hl:laidOutB P=true) (hr:∀t∈f.params.toList,P.readableRec t=true∧t<P.types.size) (hrt:f.resultTypes=#[t]) (ht:P.underlying t=some .bool)
 {W':World} (hb:Below W.heap.size W W'):s.post enc P f apart fresh handsOn again W args (.bool true) W':=by
 have hW0:=hW
 obtain⟨p,q,h1,h2,rfl,hz,hnd⟩:=hW
 rw[hvars] at h2
 obtain⟨rfl,rfl⟩:=trodVars_none h2
 simp only[List.append_nil] at *
 have hlt:∀x∈p,x.block<W.heap.size:=fun x hx=>hW0.lt x hx
 have hres:∀(b:Nat) (sp:Nat→Bool) (hd:Bool),DataW.TrodAll enc P W' b sp hd f.resultTypes.toList ((Value.bool true).resultList f.resultTypes.size) (s.fn H ds).results []:=by
  intro b sp hd
  rw[hrt,hfn]
  exact trodAll_mk1 (shut_bool ht true)
 have hargs:∀sp:Nat→Bool,(∀x∈p,sp x.block=true)→DataW.TrodAll enc P W' 0 sp true f.params.toList args.toList (s.fn H ds).args p:=by
  intro sp hsp
  rw[hfn]
  exact trodAll_stays hl hr h1 (fun x hx=>hb.same (hlt x hx)) hsp
 have hvs:∀sp:Nat→Bool,DataW.TrodVars enc P W' sp s.vars (s.fn H ds).vars []:=by
  intro sp
  rw[hvars,hfn]
  rfl
 have hold:∀x∈p,(fun b=>decide (b<W.heap.size)) x.block=true:=fun x hx=>by simpa using hlt x hx
 refine⟨ds,[],p,[],p,[],hW0,?_,?_,?_,World.keptBut_mono (fun x hx=>⟨hx,?_⟩) (hb.frame (· ∈p)),fun _=>?_⟩
 ·rw[List.append_nil];exact hres _ _ _
 ·rw[List.append_nil];exact hargs _ hold
 ·rw[List.append_nil];exact hvs _
 ·exact .inr (.inl hx)
 ·refine⟨ok_one hrt rfl (okWide_bool_mk ht true),(s.fn H ds).results++ds,[],[]++p,⟨[]++p,[],?_,?_,by simp,?_,?_⟩,?_⟩
  ·have ha:=hargs (fun _=>true) (fun _ _=>rfl)
   rw[hfn] at ha ⊢
   have hr':=hres 0 (fun _=>true) true
   rw[hfn] at hr'
   exact trodAll_append ha hr'
  ·have:=hvs (fun _=>true)
   rw[hvars] at this ⊢
   rfl
  ·intro b off hp
   have hin:MemPlace.cell b off∈p:=by simpa using hp
   rw[hb.frozen (hlt _ hin)]
   exact hz b off hin
  ·intro ha
   have:=hnd ha
   simpa using this
  ·intro x hx _
   simpa using hx
theorem Keep.below {W W':World} (h:Keep W (fun _=>False) W'):Below W.heap.size W W':=
 ⟨h.os,h.tape,h.output,h.size,fun k hk=>h.block k hk (fun e=>e)⟩
theorem law_calls {fid:FuncId} {args:List AT} {vs:Array Value} (h:ACalls P fid args (fun r=>r=.val (.one (.bool true)))) (hs:vs.size=args.length) (hr:∀(i:Nat) (t:AT),args[i]?=some t→∃v,vs[i]?=some v∧RelA W (fun _=>none) t v):
 Calls P fid vs W fun e W'=>e=.returned (.bool true)∧Below W.heap.size W W':=by
 refine(h.calls (fun _=>none) W vs (fun b hb=>absurd rfl hb) hs hr).mono (fun e W' he=>?_)
 obtain⟨v,r,rfl,rfl,hk,own',_,_,_,hrel⟩:=he
 have hv:v=.bool true:=hrel
 exact⟨by rw[hv],hk.below⟩
theorem law_args:∀{ts:List TypeId} {vs:List Value} {ds:List (DataW H)} {p:List MemPlace},DataW.TrodAll enc P W 0 (fun _=>true) true ts vs ds p→(∀k∈DataW.weightsEach P ts ds,k≤reachBytes)→
 ∀(i:Nat) (t:TypeId),ts[i]?=some t→∃v,vs[i]?=some v∧∀(m:Nat) (R:RT),rtOf P m t=some R→∃l,R.has l∧RdL W l v.cells.toList
 |[],[],[],p,_,_,i,t,h=>by simp at h
 |t0::ts,v::vs,d::ds,p,h,hw,i,t,hi=>by
  obtain⟨p1,p2,⟨n,g1⟩,g2,rfl⟩:=h
  cases i with
  |zero=>
   simp at hi
   subst hi
   refine⟨v,rfl,fun m R hR=>?_⟩
   exact(trod_has m).1 _ R n _ _ hR g1 (fun k hk=>hw k (by simp only[DataW.weightsEach,List.mem_append];exact .inl hk))
  |succ i=>
   obtain⟨u,f1,f2⟩:=law_args g2 (fun k hk=>hw k (by simp only[DataW.weightsEach,List.mem_append];exact .inr hk)) i t (by simpa using hi)
   exact⟨u,by simpa using f1,f2⟩
 |[],_::_,_,_,h,_,_,_,_=>h.elim
 |_::_,[],_,_,h,_,_,_,_=>h.elim
 |_::_,_::_,[],_,h,_,_,_,_=>h.elim
 |[],[],_::_,_,h,_,_,_,_=>h.elim
theorem trod_len:∀{ts:List TypeId} {vs:List Value} {ds:List (DataW H)} {p:List MemPlace},DataW.TrodAll enc P W 0 (fun _=>true) true ts vs ds p→vs.length=ts.length∧ds.length=ts.length
 |[],[],[],p,_=>⟨rfl,rfl⟩
 |t0::ts,v::vs,d::ds,p,h=>by
  obtain⟨p1,p2,_,g2,_⟩:=h
  obtain⟨i1,i2⟩:=trod_len g2
  exact⟨by simp[i1],by simp[i2]⟩
 |[],_::_,_,_,h=>h.elim
 |_::_,[],_,_,h=>h.elim
 |_::_,_::_,[],_,h=>h.elim
 |[],[],_::_,_,h=>h.elim
theorem okWide_slice {t e:TypeId} {v:Value} {r:Reach} {b:Nat} (hu:P.underlying t=some (.slice e)) (h:Value.okWide P W r b t v):∀cs,v≠.agg cs:=by
 rintro cs rfl
 simp[Value.okWide,hu,Cell.okWide,Cell.ok] at h
theorem arg_one {α:Type} {t:TypeId} {v:Value} {m:Nat} {R:RT} {c:α→AV} {good:α→Prop} (hv:∀cs,v≠.agg cs) (hR:rtOf P m t=some R)
 (h:∀(m:Nat) (R:RT),rtOf P m t=some R→∃l,R.has l∧RdL W l v.cells.toList) (hd:Dec R (fun x=>[c x]) good):∃x,good x∧RelA W (fun _=>none) (.one (c x)) v:=by
 obtain⟨l,h1,h2⟩:=h m R hR
 obtain⟨x,h3,h4⟩:=hd l h1
 cases l with
 |nil=>exact h4.elim
 |cons a l=>cases l with
  |nil=>exact⟨x,h3,rel_of_one h2 hv h4.1⟩
  |cons b l=>exact h4.2.elim
end
end Go.AM
/- The framework AM,part 27:functions that write into their first argument's memory. -/
namespace Go.AM
open Go
section
variable {N:Nat} {w0:World} {E A:Nat→Prop} {F:Frm} {a:Act} {w w':World} {own own':Own} {rt:Rt} {P:Program} {n:Nat} {σ:St}
end
end Go.AM
/- The framework AM,part 28:functions that only call others with parts of their first argument. -/
namespace Go.AM
open Go
structure WInv (cs:Array Value) (N bx:Nat) (T:TypeId) (k:Value) (a:Act) (w:World):Prop where
 defers:a.defers=[]
 size:a.tmps.size=N
 k1:a.tmps.getD 1 undef=k
 k2:a.tmps.getD 2 undef=.pointer (some ⟨bx,0,none⟩)
 blk:w.heap[bx]?=some (.cells cs T (0,0))
section
variable {P:Program} {Qn:Exit→Act→World→Prop} {cs:Array Value} {N bx:Nat} {T:TypeId} {k:Value} {a:Act} {w:World}
structure WCh (P:Program) (cs:Array Value) (B:Nat→Prop) (w0:World) (bx:Nat) (Q:Value→World→Prop) (parts:List (FuncId×Nat)) (k:Value) (w:World):Prop where
 size:w0.heap.size≤w.heap.size
 keep:∀b,B b→w.heap[b]?=w0.heap[b]?
 inn:∀b,B b∨b=bx→b<w.heap.size
 go:∃B' wp,Keep wp (fun _=>False) w∧(∀b,B b∨b=bx→B' b∨(wp.heap.size≤b∧b<w.heap.size))∧Chain P cs parts B' k wp Q
variable {B:Nat→Prop} {w0:World} {Q:Value→World→Prop} {parts:List (FuncId×Nat)}
end
end Go.AM
/- The framework AM,part 29:functions that take their first argument over. -/
namespace Go.AM
open Go
section
variable {N:Nat} {w0:World} {E A:Nat→Prop} {F:Frm} {a:Act} {w w':World} {own own':Own} {rt:Rt} {P:Program} {n:Nat} {σ:St}
end
end Go.AM
/- The framework AM,part 30:functions that move a cursor,and functions that make one. -/
namespace Go.AM
open Go
theorem memN_false:∀{l:List Nat} {k:Nat},memN k l=false→k∉l
 |x::r,k,h,hk=>by
  simp only[memN,Bool.or_eq_false_iff] at h
  rcases List.mem_cons.1 hk with rfl|hk
  ·simp at h
  ·exact memN_false h.2 hk
section
variable {N:Nat} {w0:World} {E A:Nat→Prop} {F:Frm} {a:Act} {w w':World} {own own':Own} {rt:Rt} {P:Program} {n:Nat} {σ:St}
theorem gatherR2 (hA:A n):∀(res:List ResultVar) (c0:Nat) (H:Nat→OB) (own:Own),WRf w0 E F A H w own rt→H n=.dead→(∀x∈res,RelT w own rt H (resTV P σ x) (resV P a w x))→(resSto P σ H res).1→
 ∃own' H',WRf w0 E F A H' w own' rt∧Mvd own own' n∧RelFL w own' n c0 (resSto P σ H res).2 (res.map (resV P a w))∧∀k,resKeep P σ k H res=true→H' k=H k
 |[],c0,H,own,h,hn,_,_=>⟨own,H,h,Mvd.refl _ _,trivial,fun _ _=>rfl⟩
 |x::r,c0,H,own,h,hn,hr,hok=>by
  have hx:=hr x (by simp)
  have hok:=hok.2
  obtain⟨own1,g1,g2,g3,g4,g5,g6,g7⟩:=gatherT h hn hA (fun j=>[(0,c0+j)]) hok.1 hx
  have hf:RelF w own1 n c0 (atOf (sto H (resTV P σ x)).cs (resTV P σ x)) (resV P a w x):=by
   have hok1:=hok.1
   generalize resTV P σ x=t at *
   cases t with
   |agg l=>
    obtain⟨cs,e,h1,h2⟩:=hx
    refine⟨cs,e,?_,fun j b hj=>?_⟩
    ·rw[e] at g1;exact g1
    ·obtain⟨z,f1,f2⟩:=g3 j b hj
     rw[e] at f1
     exact⟨z,f1,f2⟩
   |one s=>
    obtain⟨own2,y,e1,_,_,_,e4,_⟩:=gather1 h hn hA hok1 hx [(0,c0)]
    have hcs:(sto H (.one s)).cs=[y]:=e1
    obtain⟨z,f1,f2⟩:=g3 0 y (by rw[hcs];rfl)
    rw[e4] at f1
    simp at f1
    subst f1
    simp only[atOf,hcs,gl,RelF]
    exact f2
   |_=>exact hok1.elim
  obtain⟨own2,H2,k1,k2,k3,k4⟩:=gatherR2 hA r (c0+(atOf (sto H (resTV P σ x)).cs (resTV P σ x)).cells.length) (updH H (sto H (resTV P σ x)).hu) own1 g2 g7 (fun y hy=>RelT.over (fun b o z1 z2=>⟨g5.none b z1,z2⟩) (fun k _=>g6 k) (hr y (by simp[hy]))) hok.2
  refine⟨own2,H2,k1,g5.trans k2,⟨hf.mvd k2,k3⟩,fun k hk=>?_⟩
  simp only[resKeep,Bool.and_eq_true,Bool.not_eq_true'] at hk
  rw[k4 k hk.2]
  simp only[updH]
  exact keys_lk (memN_false hk.1)
theorem cur_end {own0:Own} {x:Value} {n b cap:Nat} {o:Obj} (hb:own0 b=some (1,[])) (hsz:b<w0.heap.size) (h:Ow w0 own0 1 (curA x n) [] (.slice (some ⟨b,0,none⟩) 1 cap)) (ho:w.heap[b]?=some o) (h':Ow w own 1 (curA x n) [] (.slice (some ⟨b,0,none⟩) 1 cap)):
 Ow (putB w0 b o) own0 1 (curA x n) [] (.slice (some ⟨b,0,none⟩) 1 cap):=by
 rcases h with ⟨h,_⟩|⟨_,_,c,T,e,hnl,ho1,hb1,h1,h2,h3,h4⟩
 ·cases h
 rcases h' with ⟨h',_⟩|⟨_,_,c',T',e',hnl',ho',hb1',h1',h2',h3',h4'⟩
 ·cases h'
 cases e;cases e'
 rw[ho] at hb1'
 cases hb1'
 refine .inr ⟨b,cap,c',T',rfl,by simp,hb,by simp[putB,hsz],h1',h2',h3',fun i hi j hj=>?_⟩
 obtain⟨y',hy',hr'⟩:=h4' i hi j hj
 refine⟨y',hy',?_⟩
 match j,hj with
 |0,_=>
  obtain⟨y,hy,hr⟩:=h4 i hi 0 (by omega)
  refine⟨hr'.1,?_⟩
  rw[hr'.1,←hr.1]
  refine Rd.mono (fun b' o' e1 e2=>⟨e1,?_⟩) _ _ hr.2
  rw[putB_ne (fun e=>by rw[e,hb] at e1;cases e1)]
  exact e2
 |1,_=>exact hr'
 |2,_=>exact hr'
def curS0 (P:Program) (x:Value) (n:Nat) (res:List ResultVar):St→Prop:=fun σ=>ALe (σ.H 1).a (curA x n)∧(σ.H 1).live [] [0]∧resKeep P σ 1 σ.H res=true
theorem fin_soundC {c:Bool} {R:RV→Prop} {res:List ResultVar} {own0:Own} {b cap nb:Nat} {x:Value} (hs:SRf N w0 (fun b'=>b'=b) F A σ.T σ.H a w own rt) (hn:¬A n) (hF:∀b',F.b b'↔own0 b'=some (0,[])) (hz:F.z 1=some (.slice (some ⟨b,0,none⟩) 1 cap))
 (hown:∀b' k q,own0 b'=some (k,q)→(k=0∧q=[])∨b'=b) (hb:own0 b=some (1,[])) (hsz:b<w0.heap.size) (h0:Ow w0 own0 1 (curA x nb) [] (.slice (some ⟨b,0,none⟩) 1 cap))
 (hfin:FinK P ⟨res,R,curS0 P x nb res,c⟩ σ):
 (∀y∈res,resGot P a w y)∧∃r o,R r∧Ow (putB w0 b o) own0 1 (curA x nb) [] (.slice (some ⟨b,0,none⟩) 1 cap)∧Gives (putB w0 b o) own0 w r (match res.map (resV P a w) with|[v]=>v|l=>.tuple l.toArray):=by
 obtain⟨⟨hle1,hlive,hkeep⟩,hok,r,hle,hR⟩:=hfin
 have hH:=hs.dead n hn
 have n0:=not_zero hs.toWRf hn
 have hA1:A 1:=(hs.frz 1 _ hz).1
 have n1:n≠1:=fun e=>hn (e▸hA1)
 have hgot:=fun x hx=>resOk_got (P:=P) hs (resSto_ok hok x hx)
 obtain⟨own1,H1,g1,g2,g3,g4⟩:=gatherR2 (a:=a) (n:=n) (.inr rfl) res 0 σ.H own (hs.toWRf.more n) hH (fun x hx=>(hgot x hx).2) hok
 have hH1:=g4 1 hkeep
 have hrt:rt 1=.slice (some ⟨b,0,none⟩) 1 cap:=by
  have e2:=(hs.frz 1 _ hz).2.2 hlive
  rw[hdr_nil] at e2
  exact Option.some.inj e2
 have hc1:Ow w own1 1 (curA x nb) [] (.slice (some ⟨b,0,none⟩) 1 cap):=by
  have:=g1.obj 1
  rw[hH1,hrt] at this
  exact hle1.ow this
 obtain⟨b2,cap2,e,hb1⟩:=cur_cells hc1
 cases e
 obtain⟨o,ho⟩:∃o,w.heap[b]?=some o:=by
  have:b<w.heap.size:=(g1.dom b _ hb1).1
  exact⟨w.heap[b],by simp[this]⟩
 let own2:Own:=fun b'=>if b'=b then some (0,[]) else rest own1 n b'
 have q1:∀b',b'≠b→own2 b'=rest own1 n b':=fun b' e=>if_neg e
 have h0':∀b' o',own1 b'=none→w.heap[b']?=some o'→own2 b'=none∧w.heap[b']?=some o':=fun b' o' e1 e2=>⟨by
  rw[q1 b' (fun e=>by rw[e,hb1] at e1;cases e1)];simp[rest,e1],e2⟩
 have key:∀{y:AV} {c:Nat} {v:Value},Ow w own1 n y [(0,c)] v→Ow w own2 (1+c) y [] v:=fun h=>
  Ow.mono h0' _ _ _ _ (fun b' o' q e1 e2=>⟨by
   rw[q1 b' (fun e=>by rw[e,hb1] at e1;simp at e1)];simp[rest,e1,n0],e2⟩) h
 have key1:∀{t:AT} {c:Nat} {v:Value},RelF w own1 n c t v→RelR1 w own2 (1+c) t v:=by
  intro t c v h
  cases t with
  |one b=>exact key h
  |agg l=>
   obtain⟨cs,rfl,h1,h2⟩:=h
   exact⟨cs,rfl,h1,fun j b hj=>let ⟨x,f1,f2⟩:=h2 j b hj;⟨x,f1,by rw[Nat.add_assoc];exact key f2⟩⟩
 have keyL:∀(l:List AT) (c:Nat) (vs:List Value),RelFL w own1 n c l vs→RelRL w own2 (1+c) l vs:=by
  intro l
  induction l with
  |nil=>intro c vs h;cases vs<;>exact h
  |cons t l ih=>
   intro c vs h
   cases vs with
   |nil=>exact h.elim
   |cons v vs=>exact⟨key1 h.1,by rw[Nat.add_assoc];exact ih _ vs h.2⟩
 have hdom:∀b' y,own1 b'=some y→b'≠b→b'<w0.heap.size→own1 b'=some (0,[]):=fun b' y e1 e2 e3=>by
  rcases (g1.dom b' y e1).2 with e'|e'|e'
  ·omega
  ·exact absurd e' e2
  ·exact g1.frn b' e'
 refine⟨fun x hx=>(hgot x hx).1,r,o,hR,cur_end hb hsz h0 ho hc1,⟨hs.keep.os,hs.keep.tape,hs.keep.output,by rw[putB_size];exact hs.keep.size,fun b' h1 _=>?_⟩,own2,fun b' y e=>?_,fun b' hb'=>?_,fun b' k q hb' e=>?_,RLe.rel hle ?_⟩
 ·rw[putB_size] at h1
  by_cases e:b'=b
  ·subst e;rw[ho];simp[putB,hsz]
  ·rw[putB_ne e];exact hs.keep.block b' h1 e
 ·by_cases e2:b'=b
  ·subst e2;exact(g1.dom _ _ hb1).1
  ·rw[q1 b' e2] at e
   cases ho1:own1 b' with
   |none=>simp[rest,ho1] at e
   |some y=>exact(g1.dom b' y ho1).1
 ·rw[putB_size] at hb'
  by_cases e2:b'=b
  ·subst e2
   rw[hb]
   show (some ((1:Root),([]:Path))=none↔(if b'=b' then some ((0:Root),([]:Path)) else rest own1 n b')=none)
   rw[if_pos rfl]
   exact⟨(fun e=>nomatch e),(fun e=>nomatch e)⟩
  ·rw[q1 b' e2]
   constructor
   ·intro e
    cases ho1:own1 b' with
    |none=>simp[rest,ho1]
    |some y=>
     rcases (g1.dom b' y ho1).2 with e'|e'|e'
     ·omega
     ·exact absurd e' e2
     ·have:=(hF b').1 e'
      rw[e] at this;cases this
   ·intro e
    cases ho0:own0 b' with
    |none=>rfl
    |some y=>
     obtain⟨k,q⟩:=y
     rcases hown b' k q ho0 with ⟨rfl,rfl⟩|e'
     ·have:=g1.frn b' ((hF b').2 ho0)
      simp[rest,this] at e
     ·exact absurd e' e2
 ·rw[putB_size] at hb'
  by_cases e2:b'=b
  ·subst e2
   have e:(if b'=b' then some ((0:Root),([]:Path)) else rest own1 n b')=some (k,q):=e
   rw[if_pos rfl] at e
   cases e;rfl
  ·rw[q1 b' e2] at e
   cases ho1:own1 b' with
   |none=>simp[rest,ho1] at e
   |some y=>
    have:=hdom b' y ho1 e2 hb'
    simp only[rest,this,if_true,Option.some.injEq,Prod.mk.injEq] at e
    exact e.1.symm
 ·have hL:=keyL _ 0 _ g3
  cases hr:(resSto P σ σ.H res).2 with
  |nil=>
   rw[hr] at hL
   cases hv:res.map (resV P a w) with
   |nil=>exact⟨#[],rfl,trivial⟩
   |cons v vs=>rw[hv] at hL;exact hL.elim
  |cons t l=>
   rw[hr] at hL
   cases hv:res.map (resV P a w) with
   |nil=>rw[hv] at hL;exact hL.elim
   |cons v vs=>
    rw[hv] at hL
    cases l with
    |nil=>
     cases vs with
     |nil=>exact hL.1
     |cons v2 vs=>exact hL.2.elim
    |cons t2 l=>
     cases vs with
     |nil=>exact hL.2.elim
     |cons v2 vs=>exact⟨(v::v2::vs).toArray,rfl,hL⟩
theorem ACur.of_run0 {f:FuncId} {fn:Func} {cd:Code} {nb:Nat} {args:List AT} {R:RV→Prop} {m:Nat} {I:Type} (a0:Value→I→AV) (hopen:∀(w:World) (own:Own) (x:Value) (v:Value),Ow w own 1 (curA x nb) [] v→∃i,Ow w own 1 (a0 x i) [] v) (_:∀x i,(a0 x i).es=3)
 (hmx : P.follows .mixedOrders = true) (hf : P.funcs[f]? = some fn) (hb : fn.body = some cd) (hname : (fn.name == "runtime.NumGoroutine") = false) (hlen : args.length + 1 ≤ fn.ntmps)
 (h:∀x i,arun P fn.ntmps ⟨fn.results.toList,R,curS0 P x nb fn.results.toList,true⟩ m [.code cd] ⟨(0,.one (.ref 1 [] [0] 0 0))::startT 1 args,[(1,⟨a0 x i,[]⟩)],5⟩):ACur P f nb args R:=by
 refine⟨fun vs w=>?_,fun own0 w vs b cap x hown hrt hob hvs hv0 how hargs=>?_⟩
 ·have hne : ¬ fn.name = "runtime.NumGoroutine" := by intro e; rw [e] at hname; exact absurd hname (by decide)
  simp[callFunc,hf,hb,hne]
 ·refine calls_of_wp hf hb ?_
  obtain⟨i0,how0⟩:=hopen _ _ _ _ how
  have h:=h x i0
  have hFr:∀k,(if k=1 then some (Value.slice (some ⟨b,0,none⟩) 1 cap) else none)≠none→0<k∧k≤4:=by
   intro k hk
   by_cases e:k=1
   ·omega
   ·rw[if_neg e] at hk;exact absurd rfl hk
  have hstart:SR fn.ntmps w (fun b'=>b'=b) (⟨fun b=>own0 b=some (0,[]),fun k=>if k=1 then some (Value.slice (some ⟨b,0,none⟩) 1 cap) else none,hFr⟩:Frm) ⟨(0,.one (.ref 1 [] [0] 0 0))::startT 1 args,[(1,⟨a0 x i0,[]⟩)],5⟩ { tmps:=vs++Array.replicate (fn.ntmps - vs.size) undef,defers:=[]} w:=by
   have hHk:∀k,(St.H ⟨(0,.one (.ref 1 [] [0] 0 0))::startT 1 args,[(1,⟨a0 x i0,[]⟩)],5⟩) k=if k=1 then ⟨a0 x i0,[]⟩ else .dead:=by
    intro k
    show lk OB.dead [(1,⟨a0 x i0,[]⟩)] k=_
    simp only[lk]
    by_cases e:k=1
    ·subst e;rfl
    ·rw[if_neg e,if_neg (fun h=>e h.symm)]
   have hT0:∀s,(St.T ⟨(0,.one (.ref 1 [] [0] 0 0))::startT 1 args,[(1,⟨a0 x i0,[]⟩)],5⟩) s=if s=0 then .one (.ref 1 [] [0] 0 0) else (match args[s - 1]? with|some t=>t.tv|none=>.junk):=by
    intro s
    show lk TV.junk ((0,TV.one (.ref 1 [] [0] 0 0))::startT 1 args) s=_
    simp only[lk]
    by_cases e:s=0
    ·subst e;rfl
    ·rw[if_neg e,if_neg (fun h=>e h.symm),lk_startT,if_pos (by omega)];try rfl
   have hown1:RelT w own0 (fun k=>if k=1 then (Value.slice (some ⟨b,0,none⟩) 1 cap) else undef) (St.H ⟨(0,.one (.ref 1 [] [0] 0 0))::startT 1 args,[(1,⟨a0 x i0,[]⟩)],5⟩) (.one (.own 1 [] [0])) (Value.slice (some ⟨b,0,none⟩) 1 cap):=by
    refine⟨vle_zero [] _,fun hl=>?_⟩
    rw[hdr_nil];exact congrArg some (if_pos rfl)
   have href:RelT w own0 (fun k=>if k=1 then (Value.slice (some ⟨b,0,none⟩) 1 cap) else undef) (St.H ⟨(0,.one (.ref 1 [] [0] 0 0))::startT 1 args,[(1,⟨a0 x i0,[]⟩)],5⟩) (.one (.ref 1 [] [0] 0 0)) (.pointer (some ⟨b,0,none⟩)):=by
    refine⟨⟨vle_zero [] _,b,0,rfl⟩,fun hl=>⟨b,1,cap,?_,?_⟩⟩
    ·rw[hdr_nil];exact congrArg some (if_pos rfl)
    ·simp
   have hgetv:∀s v,vs[s]?=some v→(vs++Array.replicate (fn.ntmps - vs.size) undef).getD s undef=v:=by
    intro s v h1
    have hlt:s<vs.size:=(Array.getElem?_eq_some_iff.1 h1).1
    rw[Array.getD_eq_getD_getElem?,Array.getElem?_append_left hlt,h1];rfl
   refine⟨fun k=>k=0∨k=1,own0,fun k=>if k=1 then (Value.slice (some ⟨b,0,none⟩) 1 cap) else undef,⟨⟨Keep.refl _ _,fun b' y e=>?_,fun k=>?_,fun k hk=>?_,fun b' k q e=>?_,fun b hb=>hb,?_⟩,rfl,by simp;omega,fun s=>?_,fun s k hk=>?_,fun k v e=>?_⟩,fun k hk e=>?_⟩
   ·refine⟨hown b' (by rw[e];exact fun h=>nomatch h),.inr ?_⟩
    obtain⟨k,q⟩:=y
    rcases hrt b' k q e with ⟨rfl,rfl⟩|e'
    ·exact .inr e
    ·exact .inl e'
   ·rw[hHk]
    by_cases e:k=1
    ·subst e;rw[if_pos rfl,if_pos rfl];exact how0
    ·rw[if_neg e];trivial
   ·rw[hHk,if_neg (fun e=>hk (.inr e))]
   ·rcases hrt b' k q e with ⟨rfl,_⟩|e'
    ·exact .inl rfl
    ·subst e'
     rw[hob] at e
     cases e
     exact .inr rfl
   ·exact⟨by rw[hHk,if_neg (by omega)],.inl rfl⟩
   ·rw[hT0]
    by_cases es:s=0
    ·subst es
     rw[if_pos rfl,hgetv 0 _ hv0]
     exact href
    ·rw[if_neg es]
     cases hs:args[s - 1]? with
     |none=>trivial
     |some t=>
      obtain⟨v,h1,h2⟩:=hargs (s - 1) t hs
      rw[show s - 1+1=s by omega] at h1
      rw[hgetv s v h1]
      cases t with
      |one b=>exact h2
      |agg l=>
       obtain⟨cs,rfl,g1,g2⟩:=h2
       refine⟨cs,rfl,by simpa using g1,fun j s hj=>?_⟩
       simp only[List.getElem?_map,Option.map_eq_some_iff] at hj
       obtain⟨b,hb,rfl⟩:=hj
       obtain⟨x,f1,f2⟩:=g2 j b hb
       exact⟨x,f1,f2⟩
   ·rw[hT0] at hk
    by_cases es:s=0
    ·rw[if_pos es] at hk
     exact .inr hk.symm
    ·exfalso
     rw[if_neg es] at hk
     split at hk
     ·rename_i t _
      cases t with
      |one b=>exact hk
      |agg l=>
       obtain⟨s,hs,hk⟩:=hk
       simp only[List.mem_map] at hs
       obtain⟨b,_,rfl⟩:=hs
       exact hk
     ·exact hk
   ·by_cases e1:k=1
    ·subst e1
     cases e
     exact⟨.inr rfl,hown1⟩
    ·have e:(if k=1 then some (Value.slice (some ⟨b,0,none⟩) 1 cap) else none)=some v:=e
     rw[if_neg e1] at e;cases e
   ·have hk':5≤k:=hk
    omega
  have hQ:∀σ a w',FinK P ⟨fn.results.toList,R,curS0 P x nb fn.results.toList,true⟩ σ→SR fn.ntmps w (fun b'=>b'=b) (⟨fun b=>own0 b=some (0,[]),fun k=>if k=1 then some (Value.slice (some ⟨b,0,none⟩) 1 cap) else none,hFr⟩:Frm) σ a w'→
   (a.defers=[]∧∃v,(results fn a.tmps).run P w'=.ok v w'∧∃v' r o,Ending.returned v=.returned v'∧R r∧Ow (putB w b o) own0 1 (curA x nb) [] (.slice (some ⟨b,0,none⟩) 1 cap)∧Gives (putB w b o) own0 w' r v'):=by
   rintro σ a w' hfin ⟨A,own,rt,h1,h2⟩
   obtain⟨q1,r,o,q2,q3,q4⟩:=fin_soundC (own0:=own0) h1 (h2 σ.n (Nat.le_refl _)) (fun b=>Iff.rfl) rfl hrt hob (hown b (by rw[hob];exact fun h=>nomatch h)) how hfin
   exact⟨h1.defers,_,results_list q1,_,r,o,rfl,q2,q3,q4⟩
  have:=arun_sound (P:=P) hmx (Qf:=bodyPost P fn (fun e w'=>∃v r o,e=.returned v∧R r∧Ow (putB w b o) own0 1 (curA x nb) [] (.slice (some ⟨b,0,none⟩) 1 cap)∧Gives (putB w b o) own0 w' r v)) (fun σ a w' h1 h2=>⟨hQ σ a w' h1 h2,hQ σ a w' h1 h2⟩) m [.code cd] _ _ _ h hstart
  refine wp_mono this (fun e a w' hq=>?_)
  cases e<;>exact hq
theorem ACur.of_run {f : FuncId} {fn : Func} {c : Code} {nb : Nat} {args : List AT} {R : RV → Prop} {m : Nat} (hmx : P.follows .mixedOrders = true) (hf : P.funcs[f]? = some fn) (hb : fn.body = some c) (hname : (fn.name == "runtime.NumGoroutine") = false) (hlen : args.length + 1 ≤ fn.ntmps)
 (h:∀x,arun P fn.ntmps ⟨fn.results.toList,R,curS0 P x nb fn.results.toList,true⟩ m [.code c] ⟨(0,.one (.ref 1 [] [0] 0 0))::startT 1 args,[(1,⟨curA x nb,[]⟩)],5⟩):ACur P f nb args R:=
 ACur.of_run0 (I:=Unit) (fun x _=>curA x nb) (fun _ _ _ _ h=>⟨(),h⟩) (fun _ _=>rfl) hmx hf hb hname hlen (fun x _=>h x)
def curI (x:Value) (n:Nat) (i:Int):AV:=.sl true none 3 1 (fun _ j=>gl .junk [.pin x (curS n),.int .i64 i,AV.full .i64] j)
theorem cur_open {nb:Nat} (w:World) (own:Own) (x v:Value) (h:Ow w own 1 (curA x nb) [] v):∃i:{ i:Int // 0≤i∧i≤9223372036854775807},Ow w own 1 (curI x nb i.1) [] v:=by
 rcases h with ⟨h,_⟩|⟨b,cap,c,T,e,hnl,ho,hb,h1,h2,h3,h4⟩
 ·cases h
 obtain⟨y,hy,z,rfl,g1,g2,g3⟩:=h4 0 (by omega) 1 (by omega)
 refine⟨⟨z,g2,g3⟩,.inr ⟨b,cap,c,T,e,by simp,ho,hb,h1,h2,h3,fun i hi j hj=>?_⟩⟩
 obtain⟨u,hu,hr⟩:=h4 i hi j hj
 refine⟨u,hu,?_⟩
 obtain rfl:i=0:=by omega
 match j,hj with
 |0,_=>exact hr
 |1,_=>
  rw[hy] at hu
  cases hu
  exact⟨rfl,g1⟩
 |2,_=>exact hr
theorem ACur.unrng {f:FuncId} {nb:Nat} {args:List AT} {k:IntKind} {lo hi:Int} (h:ACur P f nb args (fun r=>r=.val (.one (.rng k lo hi)))):ACur P f nb args (fun r=>∃z:Int,(lo≤z∧z≤hi)∧r=.val (.one (.int k z))):=by
 refine⟨h.enter,fun own0 w vs b cap x h1 h2 h3 h4 h5 h6 h7=>Calls.mono (h.calls own0 w vs b cap x h1 h2 h3 h4 h5 h6 h7) (fun e w' he=>?_)⟩
 obtain⟨v,r,o,rfl,rfl,h8,k1,own',k2,k3,k4,z,rfl,g1,g2,g3⟩:=he
 exact⟨_,.val (.one (.int k z)),o,rfl,⟨z,⟨g2,g3⟩,rfl⟩,h8,k1,own',k2,k3,k4,rfl,g1⟩
def resOwn (own:Own) (k:Nat):Own:=fun b'=>match own b' with
 |none=>none
 |some (k',q)=>if k'=k then some (1,q) else some (0,q)
theorem resOwn_none {own:Own} {k b:Nat} (h:own b=none):resOwn own k b=none:=by simp[resOwn,h]
theorem resOwn_some {own:Own} {k b k':Nat} {q:Path} (h:own b=some (k',q)):resOwn own k b=if k'=k then some (1,q) else some (0,q):=by simp[resOwn,h]
theorem ANew.of_run {f : FuncId} {fn : Func} {cd : Code} {args : List AT} {nb : Nat} {m : Nat} {t : Tmp} (hmx : P.follows .mixedOrders = true) (hf : P.funcs[f]? = some fn) (hb : fn.body = some cd) (hname : (fn.name == "runtime.NumGoroutine") = false) (hlen : args.length ≤ fn.ntmps) (hres : fn.results.toList = [.tmp t])
 (h:arun P fn.ntmps ⟨[],fun _=>True,fun σ=>∃k,σ.T t=.one (.ref k [] [0] 0 0)∧(σ.H k).live [] [0]∧ALe (σ.H k).a (.sl true none 3 1 (fun _ j=>gl .junk [curS nb,.rng .i64 0 9223372036854775807,AV.full .i64] j)),true⟩ m [.code cd] ⟨startT 0 args,[],1⟩):ANew P f args nb:=by
 refine⟨fun vs w=>?_,fun own0 w vs hown hvs hargs=>?_⟩
 ·have hne : ¬ fn.name = "runtime.NumGoroutine" := by intro e; rw [e] at hname; exact absurd hname (by decide)
  simp[callFunc,hf,hb,hne]
 ·refine calls_of_wp hf hb ?_
  have hstart:SR fn.ntmps w (fun _=>False) (⟨fun b=>own0 b≠none,fun _=>none,fun k h=>absurd rfl h⟩:Frm) ⟨startT 0 args,[],1⟩ { tmps:=vs++Array.replicate (fn.ntmps - vs.size) undef,defers:=[]} w:=start_sr hown hvs hargs hlen
  have hQ:∀σ a w',FinK P ⟨[],fun _=>True,fun σ=>∃k,σ.T t=.one (.ref k [] [0] 0 0)∧(σ.H k).live [] [0]∧ALe (σ.H k).a (.sl true none 3 1 (fun _ j=>gl .junk [curS nb,.rng .i64 0 9223372036854775807,AV.full .i64] j)),true⟩ σ→SR fn.ntmps w (fun _=>False) (⟨fun b=>own0 b≠none,fun _=>none,fun k h=>absurd rfl h⟩:Frm) σ a w'→
   (a.defers=[]∧∃v,(results fn a.tmps).run P w'=.ok v w'∧∃b cap x,Ending.returned v=.returned (.pointer (some ⟨b,0,none⟩))∧Gives w own0 w' (.val (.one (curA x nb))) (.slice (some ⟨b,0,none⟩) 1 cap)):=by
   rintro σ a w' ⟨⟨k,e1,e2,e3⟩,_⟩ ⟨A,own,rt,h1,h2⟩
   have ht:=h1.tmp t
   rw[e1] at ht
   obtain⟨b,n',cap,q1,q2⟩:=ht.2 e2
   rw[hdr_nil] at q1
   have hrt:=Option.some.inj q1
   have hob:=e3.ow (h1.obj k)
   rw[hrt] at hob
   have hk0:k≠0:=fun e=>by
    have hd:=h1.frn0.1
    rw[←e] at hd
    rw[hd] at e2
    exact e2.1.elim
   rcases hob with ⟨hq,_⟩|⟨b',cap',c,T,e,hnl,ho,hb',g1,g2,g3,g4⟩
   ·cases hq
   cases e
   obtain⟨x,hx,hrx⟩:=g4 0 (by omega) 0 (by omega)
   have hpv:a.tmps.getD t undef=.pointer (some ⟨b,0,none⟩):=by rw[q2];simp
   refine⟨h1.defers,a.tmps.getD t undef,?_,b,cap,x,by rw[hpv],h1.keep,resOwn own k,fun b' y hy=>?_,fun b' hb2=>?_,fun b' k' q hb2 hy=>?_,?_⟩
   ·have:=results_list (P:=P) (fn:=fn) (a:=a) (w:=w') (by rw[hres];intro x hx;simp at hx;subst hx;trivial)
    rw[hres] at this
    exact this
   ·cases ho':own b' with
    |none=>rw[resOwn_none ho'] at hy;cases hy
    |some z=>exact(h1.dom b' z ho').1
   ·constructor
    ·intro hn
     cases ho':own b' with
     |none=>exact resOwn_none ho'
     |some z=>
      rcases (h1.dom b' z ho').2 with e|e|e
      ·omega
      ·exact e.elim
      ·exact absurd hn e
    ·intro hn
     cases hF:own0 b' with
     |none=>rfl
     |some z=>
      have hF':own b'=some (0,[]):=h1.frn b' (show own0 b'≠none by rw[hF];exact fun h=>nomatch h)
      rw[resOwn_some hF'] at hn
      split at hn<;>cases hn
   ·cases ho':own b' with
    |none=>rw[resOwn_none ho'] at hy;cases hy
    |some z=>
     rcases (h1.dom b' z ho').2 with e|e|e
     ·omega
     ·exact e.elim
     ·have:=h1.frn b' e
      rw[resOwn_some this,if_neg (Ne.symm hk0)] at hy
      cases hy;rfl
   ·have hnone:∀b'' (o:Obj),own b''=none→w'.heap[b'']?=some o→resOwn own k b''=none∧w'.heap[b'']?=some o:=fun b'' o e1 e2=>⟨resOwn_none e1,e2⟩
    refine .inr ⟨b,cap,c,T,rfl,by simp,?_,hb',g1,g2,g3,fun i hi j hj=>?_⟩
    ·rw[resOwn_some ho,if_pos rfl]
    ·obtain⟨u,hu,hr⟩:=g4 i hi j hj
     obtain rfl:i=0:=by omega
     refine⟨u,hu,?_⟩
     match j,hj with
     |0,_=>
      rw[hx] at hu
      cases hu
      exact⟨rfl,Rd.mono hnone _ _ hrx⟩
     |1,_=>exact hr
     |2,_=>exact hr
  have:=arun_sound (P:=P) hmx (Qf:=bodyPost P fn (fun e w'=>∃b cap x,e=.returned (.pointer (some ⟨b,0,none⟩))∧Gives w own0 w' (.val (.one (curA x nb))) (.slice (some ⟨b,0,none⟩) 1 cap))) (fun σ a w' h1 h2=>⟨hQ σ a w' h1 h2,hQ σ a w' h1 h2⟩) m [.code cd] _ _ _ h hstart
  refine wp_mono this (fun e a w' hq=>?_)
  cases e<;>exact hq
end
theorem FinK.cur {P:Program} {c:Bool} {res:List ResultVar} {R:RV→Prop} {x:Value} {n:Nat} {σ:St} (h0:ALe (σ.H 1).a (curA x n)) (h1:(σ.H 1).live [] [0]) (h2:resKeep P σ 1 σ.H res=true) (h:FinK P ⟨res,R,fun _=>True,c⟩ σ):FinK P ⟨res,R,curS0 P x n res,c⟩ σ:=by
 obtain⟨_,h4⟩:=h
 exact⟨⟨h0,h1,h2⟩,h4⟩
end Go.AM
/- The framework AM,part 31:calls under a guard of which several results are possible. -/
namespace Go.AM
open Go
theorem CallG.exB {Q:Bool→Prop} {P:Program} {gc:Bool} {f:FuncId} {args:List AT} {k:List It→St→Prop} {K:List It} {σ:St} {d:Option Tmp} {bw:Bool} {ts:List TV} (h:gc=true→ACalls P f args (fun r=>∃x,Q x∧r=.val (.one (.bool x)))) (h2:∀x,(gc=true→Q x)→k K (σ.put d (.cnd gc (AT.one (.bool x)).cv) [] (σ.n+1+(AT.one (.bool x)).cells.length))):CallG P gc f args k K σ d bw ts:=by
 cases gc with
 |false=>exact .inl ⟨.one (.bool false),by cases bw<;>rfl,fun e=>(nomatch e),h2 false (fun e=>nomatch e)⟩
 |true=>exact .inr (.inl ⟨rfl,_,h rfl,fun r e=>by
  obtain⟨x,hq,rfl⟩:=e
  exact⟨fun _=>trivial,by cases bw<;>exact h2 x (fun _=>hq)⟩⟩)
theorem CallG.exI {Q:Int→Prop} {P:Program} {gc:Bool} {f:FuncId} {args:List AT} {k:List It→St→Prop} {K:List It} {σ:St} {d:Option Tmp} {bw:Bool} {ts:List TV} (h:gc=true→ACalls P f args (fun r=>∃x,Q x∧r=.val (.one (.int .i64 x)))) (h2:∀x,(gc=true→Q x)→k K (σ.put d (.cnd gc (AT.one (.int .i64 x)).cv) [] (σ.n+1+(AT.one (.int .i64 x)).cells.length))):CallG P gc f args k K σ d bw ts:=by
 cases gc with
 |false=>exact .inl ⟨.one (.int .i64 0),by cases bw<;>rfl,fun e=>(nomatch e),h2 0 (fun e=>nomatch e)⟩
 |true=>exact .inr (.inl ⟨rfl,_,h rfl,fun r e=>by
  obtain⟨x,hq,rfl⟩:=e
  exact⟨fun _=>trivial,by cases bw<;>exact h2 x (fun _=>hq)⟩⟩)
end Go.AM
/- The framework AM,part 32:a result of which nothing is owned any more. -/
namespace Go.AM
open Go
def AT.ro:AT→AT
 | .one a=>.one a.ro
 | .agg l=>.agg (l.map AV.ro)
def RV.ro:RV→RV
 | .val t=>.val t.ro
 | .tup l=>.tup (l.map AT.ro)
theorem AT.ro_len (t:AT):t.ro.cells.length=t.cells.length:=by
 cases t with
 |one a=>rfl
 |agg l=>show (l.map AV.ro).length=l.length;simp
section
variable {w w':World} {own0 own':Own}
theorem relR1_ro {own2:Own} (h0:∀b,own' b=none→own2 b=none) (h1:∀b k q,own' b=some (k,q)→0<k→own2 b=none) {c:Nat} (hc:0<c) {t:AT} {v:Value} (h:RelR1 w' own' c t v):RelR1 w' own2 c t.ro v:=by
 have key:∀{c:Nat} {a:AV} {x:Value},0<c→Ow w' own' c a [] x→Ow w' own2 c a.ro [] x:=fun {c a x} hc h=>by
  have hrd:∀{b:AV},Rd w' own' b x→Rd w' own2 b x:=fun h=>Rd.mono (fun b o e h=>⟨h0 b e,h⟩) _ _ h
  cases a with
  |sl u nl es n f=>
   have:=Ow.rdDis (own':=own2) h0 (.sl u nl es n f) [] x (fun b q e=>h1 b c _ e hc) h
   exact this
  |mp=>trivial
  |junk=>trivial
  |_=>exact hrd h
 cases t with
 |one a=>exact key hc h
 |agg l=>
  obtain⟨cs,e,e1,e2⟩:=h
  refine⟨cs,e,by simpa using e1,fun j b hj=>?_⟩
  simp only[List.getElem?_map] at hj
  cases hl:l[j]? with
  |none=>rw[hl] at hj;cases hj
  |some a=>
   rw[hl] at hj
   simp only[Option.map_some,Option.some.injEq] at hj
   subst hj
   obtain⟨x,f1,f2⟩:=e2 j a hl
   exact⟨x,f1,key (by omega) f2⟩
theorem relRL_ro {own2:Own} (h0:∀b,own' b=none→own2 b=none) (h1:∀b k q,own' b=some (k,q)→0<k→own2 b=none):∀{l:List AT} {c:Nat} {vs:List Value},0<c→RelRL w' own' c l vs→RelRL w' own2 c (l.map AT.ro) vs
 |[],c,vs,hc,h=>by cases vs<;>exact h
 |t::l,c,[],hc,h=>h.elim
 |t::l,c,v::vs,hc,h=>⟨relR1_ro h0 h1 hc h.1,by rw[AT.ro_len];exact relRL_ro h0 h1 (by omega) h.2⟩
theorem Gives.ro {r:RV} {v:Value} (h:Gives w own0 w' r v):Gives w own0 w' r.ro v:=by
 obtain⟨hk,own',g1,g2,g3,g4⟩:=h
 have h0:∀b,own' b=none→(fun b=>if b<w.heap.size then own' b else none) b=none:=fun b e=>by
  dsimp only
  split
  ·exact e
  ·rfl
 have h1:∀b k q,own' b=some (k,q)→0<k→(fun b=>if b<w.heap.size then own' b else none) b=none:=fun b k q e hk=>by
  dsimp only
  split
  ·rename_i hb
   have:=g3 b k q hb e
   rw[this] at hk
   exact absurd hk (Nat.lt_irrefl 0)
  ·rfl
 refine⟨hk,(fun b=>if b<w.heap.size then own' b else none),fun b x e=>?_,fun b hb=>?_,fun b k q hb e=>?_,?_⟩
 ·dsimp only at e
  split at e
  ·exact g1 b x e
  ·cases e
 ·dsimp only
  rw[if_pos hb]
  exact g2 b hb
 ·dsimp only at e
  rw[if_pos hb] at e
  exact g3 b k q hb e
 ·cases r with
  |val t=>exact relR1_ro h0 h1 (by decide) g4
  |tup l=>
   obtain⟨cs,e,h⟩:=g4
   exact⟨cs,e,relRL_ro h0 h1 (by decide) h⟩
end
theorem ACalls.ro {P:Program} {f:FuncId} {args:List AT} {R:RV→Prop} (h:ACalls P f args R):ACalls P f args (fun r=>∃r0,R r0∧r=r0.ro):=
 ⟨h.enter,fun own0 w vs h1 h2 h3=>(h.calls own0 w vs h1 h2 h3).mono (fun e w' he=>by
  obtain⟨v,x,h1,h2,h3⟩:=he
  exact⟨v,x.ro,h1,⟨x,h2,rfl⟩,h3.ro⟩)⟩
theorem ACalls.ro1 {P:Program} {f:FuncId} {args:List AT} {r0:RV} (h:ACalls P f args (fun r=>r=r0)):ACalls P f args (fun r=>r=r0.ro):=
 h.ro.imp (fun r hr=>by obtain⟨r1,e,h⟩:=hr;rw[h,e])
theorem ACalls.roX {D:Type} {Q:D→Prop} {mk:D→RV} {P:Program} {f:FuncId} {args:List AT} (h:ACalls P f args (fun r=>∃x,Q x∧r=mk x)):ACalls P f args (fun r=>∃x,Q x∧r=(mk x).ro):=
 h.ro.imp (fun r hr=>by obtain⟨r1,⟨x,hq,e⟩,h⟩:=hr;exact⟨x,hq,by rw[h,e]⟩)
end Go.AM
