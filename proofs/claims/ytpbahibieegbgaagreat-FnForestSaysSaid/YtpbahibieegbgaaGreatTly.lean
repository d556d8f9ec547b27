/- Lemmas for the proof of this claim. -/
import Derived.Test.YtpbahibieegbgaaGreatBas
namespace Go.AM
set_option maxHeartbeats 64000000
open Go Go.Proofs
set_option maxRecDepth 100000
def tlyS (s w:List Int):Nat→Int→Int
 |0,_=>0
 |i+1,c=>tlyS s w i c+(if s.getD i 0=c then w.getD i 0 else 0)
def vOk (n:Int) (s w:List Int) (j:Nat):Prop:=(-1≤s.getD j 0∧s.getD j 0≤n - 1)∧0≤w.getD j 0∧w.getD j 0≤1000
theorem tlyS_bd {n:Int} {s w:List Int} {c:Int}:∀{i:Nat},(∀j,j<i→vOk n s w j)→0≤tlyS s w i c∧tlyS s w i c≤1000*i
 |0,_=>⟨Int.le_refl _,by simp[tlyS]⟩
 |i+1,h=>by
  have:=tlyS_bd (c:=c) (i:=i) (fun j hj=>h j (by omega))
  have h2:=(h i (by omega)).2
  simp only[tlyS]
  split<;>omega
open Classical in
noncomputable def tly (n:Int) (s w:List Int):List Int:=
 if (1≤n∧n≤3)∧s.length=w.length∧s.length≤64∧∀j,j<s.length→vOk n s w j then (List.range n.toNat).map (fun (c:Nat)=>tlyS s w s.length c) else []
theorem rangeLe (g:Nat→Int) (m:Nat):ALe (.sl true none 1 m (fun i' j=>gl .junk [.int .i64 (g i')] j)) (.sl true none 1 ((List.range m).map g).length (fI ((List.range m).map g))):=by
 refine ALe.of (.inl rfl) (by simp) (fun i' hi' j hj=>?_)
 obtain rfl:j=0:=by omega
 have:((List.range m).map g).getD i' 0=g i':=by rw[List.getD_eq_getElem?_getD];simp[hi']
 show ALe (.int .i64 (g i')) (.int .i64 (((List.range m).map g).getD i' 0))
 rw[this]
 exact .refl _
theorem iTally (m:Nat) (s w:List Int) (u u':Bool) (nl nl':Option Bool) (hs:okI (2^47) s) (hw:okI (2^47) w):ACalls Tryz.prog 91 [.one (.int .i64 (m:Int)),.one (.sl u nl 1 s.length (fI s)),.one (.sl u' nl' 1 w.length (fI w))] (fun r=>r=.val (.one (aI true (tly m s w)))):=by
 have hsl:=hs.1
 have hwl:=hw.1
 have nt:Tryz.f91.ntmps=61:=rfl
 have rs:Tryz.f91.results=#[.tmp 6]:=rfl
 refine ACalls.of_run (m:=400) mixed Tryz.func91 rfl rfl (Nat.le_of_ble_eq_true rfl) ?_
 simp only[nt,rs]
 clear nt rs
 (try refine am ?_);(try exact amT)
 refine CallK.one (within m 1 3) (fun _=>amC) ?_
 (try refine am ?_);(try exact amT)
 refine⟨fun h=>?_,fun h=>?_⟩
 ·have e:tly m s w=[]:=if_neg (fun hh=>by omega)
  rw[e]
  refine FinK.val1 ?_ ?_
  all_goals try refine amF ?_
  all_goals try exact amT
  exact .nil _ _ _ _ _
 refine CallK.one (zerosI m (by omega)) (fun _=>amC) ?_
 (try refine am ?_);(try exact amT)
 refine LoopK.auto (Nat) (fun i=>[(29,.one (.av (.int .i64 i))),(7,.one (.own 302 [] [0]))]) (fun i=>[(302,⟨.sl true none 1 m (fun i' j=>gl .junk [.int .i64 (tlyS s w i (i':Int))] j),[]⟩)]) [0,2,27,28] (k0:=?k01) (keepH:=?kh1) 400 (fun i=>i≤s.length∧∀j,j<i→vOk m s w j) (fun i=>s.length - i) (0) ?kea1 ?keb1 ?_ ?_ ?_
 case kea1=>exact amN
 case keb1=>exact amN
 ·exact⟨Nat.zero_le _,fun j hj=>by omega⟩
 ·refine LeA [] ?_ ?_ ?_
  all_goals try refine amL ?_
  all_goals try exact amT
  refine ALe.of (.inl rfl) (by simp) (fun i' hi' j hj=>?_)
  obtain rfl:j=0:=by omega
  have:(List.replicate m (0:Int)).getD i' 0=0:=by rw[List.getD_eq_getElem?_getD];(try simp at hi');simp[hi']
  show ALe (.int .i64 ((List.replicate m (0:Int)).getD i' 0)) (.int .i64 0)
  rw[this]
  exact .refl _
 ·intro i hi
  have hb:=fun c=>tlyS_bd (c:=c) hi.2
  (try refine am ?_);(try exact amT)
  refine⟨fun hlt=>?_,fun hlt=>?_⟩
  ·repeat' with_reducible first|apply zA|intro _
   all_goals try exact amA
   refine CallK.one (within (s.getD i 0) (-1) (m - 1)) (fun _=>amC) ?_
   (try refine am ?_);(try exact amT)
   repeat' with_reducible first|apply zA|intro _
   all_goals try exact amA
   refine CallG.one rfl (fun hg=>within (w.getD i 0) 0 1000) ?_
   (try refine am ?_);(try exact amT)
   refine⟨fun hh=>?_,fun hh=>?_⟩
   ·have e:tly m s w=[]:=if_neg (fun h2=>by have:=h2.2.2.2 i hlt;unfold vOk at this;omega)
    rw[e]
    refine FinK.val1 ?_ ?_
    all_goals try refine amF ?_
    all_goals try exact amT
    exact .nil _ _ _ _ _
   have hv:vOk m s w i:=by unfold vOk;omega
   have hb0:=hb (s.getD i 0)
   refine⟨fun hn=>?_,fun hn=>?_⟩
   ·have hb1:=hb ((s.getD i 0).toNat:Int)
    repeat' with_reducible first|apply zA|intro _
    all_goals try exact amA
    refine⟨i+1,?_,⟨by omega,fun j hj=>?_⟩,by omega⟩
    ·refine LeA [] ?_ ?_ ?_
     all_goals try refine amL ?_
     all_goals try exact amT
     refine ALe.of (.inl rfl) rfl (fun i' hi' j hj=>?_)
     by_cases e:i'=(s.getD i 0).toNat
     ·have e3:tlyS s w (i+1) (i':Int)=tlyS s w i (i':Int)+w.getD i 0:=by
       simp only[tlyS];rw[if_pos (by omega)]
      rw[e3,←e,if_pos ⟨rfl,Nat.zero_le _,hj⟩]
      exact .refl _
     ·have e3:tlyS s w (i+1) (i':Int)=tlyS s w i (i':Int):=by
       simp only[tlyS];rw[if_neg (by omega)];omega
      rw[e3,if_neg (fun h=>e h.1)]
      exact .refl _
    ·by_cases e:j=i
     ·rw[e];exact hv
     ·exact hi.2 j (by omega)
   ·repeat' with_reducible first|apply zA|intro _
    all_goals try exact amA
    refine⟨i+1,?_,⟨by omega,fun j hj=>?_⟩,by omega⟩
    ·refine LeA [] ?_ ?_ ?_
     all_goals try refine amL ?_
     all_goals try exact amT
     refine ALe.of (.inl rfl) rfl (fun i' hi' j hj=>?_)
     have e3:tlyS s w (i+1) (i':Int)=tlyS s w i (i':Int):=by
      simp only[tlyS];rw[if_neg (by omega)];omega
     rw[e3]
     exact .refl _
    ·by_cases e:j=i
     ·rw[e];exact hv
     ·exact hi.2 j (by omega)
  ·have e:i=s.length:=by omega
   subst e
   have e:tly m s w=(List.range m).map (fun (c:Nat)=>tlyS s w s.length c):=if_pos ⟨by omega,by omega,by omega,hi.2⟩
   rw[e]
   refine FinK.val1 ?_ ?_
   all_goals try refine amF ?_
   all_goals try exact amT
   exact rangeLe _ m
theorem iTallyN (n:Int) (s w:List Int) (u u':Bool) (nl nl':Option Bool) (hs:okI (2^47) s) (hw:okI (2^47) w):ACalls Tryz.prog 91 [.one (.int .i64 n),.one (.sl u nl 1 s.length (fI s)),.one (.sl u' nl' 1 w.length (fI w))] (fun r=>r=.val (.one (aI true (tly n s w)))):=by
 by_cases hn:0≤n
 ·obtain⟨m,rfl⟩:=Int.eq_ofNat_of_zero_le hn
  exact iTally m s w u u' nl nl' hs hw
 have hsl:=hs.1
 have hwl:=hw.1
 have nt:Tryz.f91.ntmps=61:=rfl
 have rs:Tryz.f91.results=#[.tmp 6]:=rfl
 refine ACalls.of_run (m:=400) mixed Tryz.func91 rfl rfl (Nat.le_of_ble_eq_true rfl) ?_
 simp only[nt,rs]
 clear nt rs
 (try refine am ?_);(try exact amT)
 refine CallK.one (within n 1 3) (fun _=>amC) ?_
 (try refine am ?_);(try exact amT)
 refine⟨fun h=>?_,fun h=>absurd h (by omega)⟩
 have e:tly n s w=[]:=if_neg (fun hh=>by omega)
 rw[e]
 refine FinK.val1 ?_ ?_
 all_goals try refine amF ?_
 all_goals try exact amT
 exact .nil _ _ _ _ _
theorem tly_len (n:Int) (s w:List Int):(tly n s w).length≤3:=by
 unfold tly
 split
 ·simp;omega
 ·simp
end Go.AM
