/- Lemmas for the proof of this claim. -/
import Derived.Test.YtpbahibieegbgaaGreatWna
import Derived.Test.YtpbahibieegbgaaGreatCln
import Derived.Test.YtpbahibieegbgaaGreatWlib
namespace Go.AM
set_option maxHeartbeats 64000000
open Go Go.Proofs
set_option maxRecDepth 100000
theorem l16CopyI (l:List (List Int)) (u v:Bool) (h:okL (2^40) l):ACalls Tryz.prog 222 [.agg [aL u v l]] (fun r=>r=.val (.agg [aL true true l])):=by
 have hl:=h.1
 have nt:Tryz.f222.ntmps=26:=rfl
 have rs:Tryz.f222.results=#[.cell 2 75]:=rfl
 refine ACalls.of_run (m:=400) mixed Tryz.func222 rfl rfl (Nat.le_of_ble_eq_true rfl) ?_
 simp only[nt,rs]
 clear nt rs
 (try refine am ?_);(try exact amT)
 refine LoopK.auto (Nat) (fun i=>[(4,.one (.av (.int .i64 i))),(3,.one (.ref 302 [] [0] 0 0))]) (fun i=>[(302,⟨.sl true none 1 1 (fun _ _=>.sl true none 1 i (fL true l)),[]⟩)]) [1,2] (k0:=?k01) (keepH:=?kh1) 400 (fun i=>i≤l.length) (fun i=>l.length - i) (0) ?kea1 ?keb1 ?_ ?_ ?_
 case kea1=>exact amN
 case keb1=>exact amN
 ·exact Nat.zero_le _
 ·refine LeA [] ?_ ?_ ?_
  all_goals try refine amL ?_
  all_goals try exact amT
  exact boxLe (.nil _ _ _ _ _)
 ·intro i hi
  have hm:=okL_at h i
  (try refine am ?_);(try exact amT)
  repeat' with_reducible first|apply zA|intro _
  all_goals try exact amA
  ·have hlt:i<l.length:=by assumption
   refine⟨i+1,?_,by omega,by omega⟩
   refine LeA [] ?_ ?_ ?_
   all_goals try refine amL ?_
   all_goals try exact amT
   exact boxLe (appRow (.inl rfl) rfl roI)
  ·have ei:i=l.length:=by omega
   subst ei
   refine FinK.cell1 ?_ ?_ ?_
   all_goals try refine amF ?_
   all_goals try exact amT
   all_goals (first|exact .refl _)
theorem dropLe {l:List Int} {k:Nat} {nl:Option Bool} {n:Nat} {g:Nat→Nat→AV} (h:n=l.length - k):ALe (.sl true nl 1 n (apF 0 g fun i j=>fI l (k+i) j)) (.sl true none 1 (l.drop k).length (fI (l.drop k))):=by
 refine ALe.of (.inl rfl) (by rw[List.length_drop];exact h) (fun i hi j hj=>?_)
 obtain rfl:j=0:=by omega
 show ALe (fI _ (k+(i - 0)) 0) _
 rw[fI_at,fI_at,getD_drop,Nat.sub_zero]
 exact .refl _
theorem specWindowDrop (l:List (List Int)) (u v:Bool) (h:okL (2^40) l):ACalls Tryz.prog 237 [.agg [aL u v l]] (fun r=>r=.tup [.agg [aL true true (wDropA l)],.one (.bool (wDropOk l))]):=by
 have hl:=h.1
 have h47:okL (2^47) l:=⟨by omega,fun r hr=>⟨by have:=(h.2 r hr).1;omega,(h.2 r hr).2⟩⟩
 have hm:=okL_at h (l.length - 1)
 by_cases hc:wokB l=true∧0<l.length
 case neg=>
  have hx:(wokB l=true∧¬(l.length:Int)=0)→False:=fun hh=>hc ⟨hh.1,by omega⟩
  have e:wDropOk l=false:=by
   unfold wDropOk
   cases hw:wokB l with
   |false=>rfl
   |true=>rw[decide_eq_false (fun h=>hc ⟨hw,h⟩),Bool.and_false]
  have e2:wDropA l=l:=by unfold wDropA;rw[e];rfl
  rw[e,e2]
  have nt:Tryz.f237.ntmps=47:=rfl
  have rs:Tryz.f237.results=#[.cell 2 75,.tmp 3]:=rfl
  refine ACalls.of_run (m:=400) mixed Tryz.func237 rfl rfl (Nat.le_of_ble_eq_true rfl) ?_
  simp only[nt,rs]
  clear nt rs
  (try refine am ?_);(try exact amT)
  refine CallK.one (l16CopyI l _ _ h) (fun _=>amC) ?_
  (try refine am ?_);(try exact amT)
  repeat' with_reducible first|apply zA|intro _
  all_goals try exact amA
  refine CallK.one (specWindowOk l _ _ h47.1 (fun r hr=>(h47.2 r hr).1)) (fun _=>amC) ?_
  (try refine am ?_);(try exact amT)
  repeat' with_reducible first|apply zA|intro _
  all_goals try exact amA
  all_goals (try (exfalso;exact hx (by assumption)))
  refine FinK.tup ?_ ?_
  all_goals try refine amF ?_
  all_goals try exact amT
 have hx:(wokB l=false∨(l.length:Int)=0)→False:=fun hh=>by
  rcases hh with hh|hh
  ·rw[hc.1] at hh;cases hh
  ·have:=hc.2;omega
 have hwk:wok l:=by simpa [wokB] using hc.1
 have hlp:0<l.length:=hc.2
 have e:wDropOk l=true:=by unfold wDropOk;rw[hc.1,decide_eq_true hlp];rfl
 have e2:wDropA l=wDrop l:=by unfold wDropA;rw[e];rfl
 rw[e,e2]
 have hrow:=(hwk.2 (l.length - 1) (by omega)).1
 have et:((l.length:Int) - 1).toNat=l.length - 1:=by omega
 have hdl:((l.getD (l.length - 1) []).drop 1).length=(l.getD (l.length - 1) []).length - 1:=List.length_drop
 have nt:Tryz.f237.ntmps=47:=rfl
 have rs:Tryz.f237.results=#[.cell 2 75,.tmp 3]:=rfl
 refine ACalls.of_run (m:=400) mixed Tryz.func237 rfl rfl (Nat.le_of_ble_eq_true rfl) ?_
 simp only[nt,rs]
 clear nt rs
 (try refine am ?_);(try exact amT)
 refine CallK.one (l16CopyI l _ _ h) (fun _=>amC) ?_
 (try refine am ?_);(try exact amT)
 repeat' with_reducible first|apply zA|intro _
 all_goals try exact amA
 refine CallK.one (specWindowOk l _ _ h47.1 (fun r hr=>(h47.2 r hr).1)) (fun _=>amC) ?_
 (try refine am ?_);(try exact amT)
 (try refine am ?_);(try simp only[et]);(try refine am ?_);(try exact amT)
 repeat' with_reducible first|apply zA|intro _
 all_goals try exact amA
 all_goals (try (exfalso;exact hx (by assumption)))
 ·exact fI_free (by assumption)
 ·rename_i h0
  have ed:wDrop l=l.take (l.length - 1):=by unfold wDrop;rw[show Nat.ble (l.getD (l.length - 1) []).length 1=true from Nat.ble_eq_true_of_le (by omega)];rfl
  rw[ed]
  refine FinK.tup ?_ ?_
  all_goals try refine amF ?_
  all_goals try exact amT
  refine rowsLe2 (by rw[List.length_take];omega) (fun i hi=>?_)
  have hne:¬i=l.length - 1:=by omega
  have hne2:¬i=((l.length:Int) - 1).toNat:=by omega
  simp only[hne,false_and,if_false]
  rw[fL_at,show (l.take (l.length - 1)).getD i []=l.getD i [] by rw[List.getD_eq_getElem?_getD,List.getD_eq_getElem?_getD,List.getElem?_take,if_pos (by omega)]]
  exact .refl _
 ·rename_i h0
  have ed:wDrop l=l.set (l.length - 1) ((l.getD (l.length - 1) []).drop 1):=by unfold wDrop;rw[show Nat.ble (l.getD (l.length - 1) []).length 1=false from by rw[Bool.eq_false_iff];intro hh;have:=Nat.le_of_ble_eq_true hh;omega];rfl
  rw[ed]
  refine FinK.tup ?_ ?_
  all_goals try refine amF ?_
  all_goals try exact amT
  refine rowsLe2 (by rw[List.length_set]) (fun i hi=>?_)
  by_cases e3:i=l.length - 1
  ·subst e3
   rw[getD_set_eq (by omega)]
   simp only[Nat.le_refl,Nat.lt_one_iff,if_true,and_self,gl]
   exact dropLe (by omega)
  ·have hne2:¬i=((l.length:Int) - 1).toNat:=by omega
   simp only[e3,false_and,if_false]
   rw[fL_at,getD_set_ne (fun e=>e3 e.symm)]
   exact .refl _
end Go.AM
namespace Go.AM
open Go Go.Proofs
set_option maxRecDepth 100000
theorem apF_r {n i:Nat} (h:i=n) (f g:Nat→Nat→AV):apF n f g i 0=g 0 0:=by
 unfold apF
 rw[if_neg (by omega),h,Nat.sub_self]
theorem apF_l {n i:Nat} (h:i<n) (f g:Nat→Nat→AV):apF n f g i 0=f i 0:=by
 unfold apF
 rw[if_pos h]
theorem appInt {row:List Int} {x:Int} {nl:Option Bool} {n:Nat} (hn:n=row.length+1):ALe (.sl true nl 1 n (apF row.length (fI row) (rowsF [[.int .i64 x]]))) (.sl true none 1 (row++[x]).length (fI (row++[x]))):=by
 refine ALe.of (.inl rfl) (by rw[hn];simp) (fun i hi j hj=>?_)
 obtain rfl:j=0:=by omega
 by_cases e:i<row.length
 ·rw[apF_l e,fI_at,fI_at,getD_app_l e];exact .refl _
 ·obtain rfl:i=row.length:=by omega
  rw[apF_r rfl,fI_at,getD_app_r];exact .refl _
theorem oneInt {x:Int} {nl:Option Bool}:ALe (.sl true nl 1 1 (rowsF [[.int .i64 x]])) (.sl true none 1 [x].length (fI [x])):=by
 refine ALe.of (.inl rfl) rfl (fun i hi j hj=>?_)
 obtain rfl:j=0:=by omega
 obtain rfl:i=0:=by omega
 exact .refl _
theorem oneInt2 {x:Int} {nl:Option Bool} {n:Nat} {g:Nat→Nat→AV} (hn:n=1:=by rfl):ALe (.sl true nl 1 n (apF 0 g (rowsF [[.int .i64 x]]))) (.sl true none 1 [x].length (fI [x])):=by
 subst hn
 refine ALe.of (.inl rfl) rfl (fun i hi j hj=>?_)
 obtain rfl:j=0:=by omega
 obtain rfl:i=0:=by omega
 exact .refl _
end Go.AM
namespace Go.AM
set_option maxHeartbeats 64000000
open Go Go.Proofs
set_option maxRecDepth 100000
theorem specWindowAdd (l:List (List Int)) (bit:Int) (u v:Bool) (h:okL (2^40) l) (_:inK .i64 bit):ACalls Tryz.prog 214 [.agg [aL u v l],.one (.int .i64 bit)] (fun r=>r=.tup [.agg [aL true true (wAddA l bit)],.one (.bool (wAddOk l bit))]):=by
 have hl:=h.1
 have h47:okL (2^47) l:=⟨by omega,fun r hr=>⟨by have:=(h.2 r hr).1;omega,(h.2 r hr).2⟩⟩
 by_cases hc:wokB l=true∧0≤bit∧bit≤1
 case neg=>
  have e:wAddOk l bit=false:=by
   unfold wAddOk
   cases hw:wokB l with
   |false=>rfl
   |true=>rw[decide_eq_false (fun h=>hc ⟨hw,h⟩),Bool.and_false]
  have e2:wAddA l bit=l:=by unfold wAddA;rw[e];rfl
  rw[e,e2]
  have nt:Tryz.f214.ntmps=126:=rfl
  have rs:Tryz.f214.results=#[.cell 4 75,.tmp 5]:=rfl
  refine ACalls.of_run (m:=400) mixed Tryz.func214 rfl rfl (Nat.le_of_ble_eq_true rfl) ?_
  simp only[nt,rs]
  clear nt rs
  (try refine am ?_);(try exact amT)
  refine CallK.one (l16CopyI l _ _ h) (fun _=>amC) ?_
  (try refine am ?_);(try exact amT)
  repeat' with_reducible first|apply zA|intro _
  all_goals try exact amA
  refine CallK.one (specWindowOk l _ _ h47.1 (fun r hr=>(h47.2 r hr).1)) (fun _=>amC) ?_
  (try refine am ?_);(try exact amT)
  repeat' with_reducible first|apply zA|intro _
  all_goals try exact amA
  refine CallG.one rfl (fun hg=>l1In bit 0 1) ?_
  (try refine am ?_);(try exact amT)
  refine⟨fun _=>?_,fun hh=>absurd hh hc⟩
  refine FinK.tup ?_ ?_
  all_goals try refine amF ?_
  all_goals try exact amT
 have hwk:wok l:=by simpa [wokB] using hc.1
 have h8:=hwk.1
 have hb:=hc.2
 have e:wAddOk l bit=true:=by unfold wAddOk;rw[hc.1,decide_eq_true hb];rfl
 have e2:wAddA l bit=wAdd l bit:=by unfold wAddA;rw[e];rfl
 rw[e,e2]
 have hi0:=wInv_in hwk hb
 have hx:(wokB l=false∨¬(0≤bit∧bit≤1))→False:=fun hh=>by
  rcases hh with hh|hh
  ·rw[hc.1] at hh;cases hh
  ·exact hh hb
 have nt:Tryz.f214.ntmps=126:=rfl
 have rs:Tryz.f214.results=#[.cell 4 75,.tmp 5]:=rfl
 refine ACalls.of_run (m:=400) mixed Tryz.func214 rfl rfl (Nat.le_of_ble_eq_true rfl) ?_
 simp only[nt,rs]
 clear nt rs
 (try refine am ?_);(try exact amT)
 refine CallK.one (l16CopyI l _ _ h) (fun _=>amC) ?_
 (try refine am ?_);(try exact amT)
 repeat' with_reducible first|apply zA|intro _
 all_goals try exact amA
 refine CallK.one (specWindowOk l _ _ h47.1 (fun r hr=>(h47.2 r hr).1)) (fun _=>amC) ?_
 (try refine am ?_);(try exact amT)
 repeat' with_reducible first|apply zA|intro _
 all_goals try exact amA
 refine CallG.one rfl (fun hg=>l1In bit 0 1) ?_
 (try refine am ?_);(try exact amT)
 refine⟨fun hh=>(hx hh).elim,fun _=>?_⟩
 refine⟨fun hl0=>?_,fun hl0=>?_⟩
 ·have hap:∀f g:Nat→Nat→AV,apF l.length f g 0 0=g 0 0:=apF_r (by omega)
  have hro:∀a:AV,rowsF [[a]] 0 0=a:=fun _=>rfl
  (try refine am ?_);(try simp only[hap,hro]);(try refine am ?_);(try exact amT)
  (try refine am ?_);(try simp only[hap,hro]);(try refine am ?_);(try exact amT)
  repeat' with_reducible first|apply zA|intro _
  all_goals try exact amA
  refine LoopK.auto ((Nat×List (List Int))) (fun p=>[(7,.one (.av (.int .i64 p.1))),(6,.one (.ref 302 [] [0] 0 0))]) (fun p=>[(302,⟨.sl true none 1 1 (fun _ _=>.sl true none 1 p.2.length (fL true p.2)),[]⟩)]) [4] (k0:=?k01) (keepH:=?kh1) 400 (fun p=>p.1<8∧wInv p.1 p.2∧wAdd l bit=wGo (8 - p.1) p.1 p.2) (fun p=>8 - p.1) ((0,wIn l bit)) ?kea1 ?keb1 ?_ ?_ ?_
  case kea1=>exact amN
  case keb1=>exact amN
  ·exact⟨by omega,hi0,rfl⟩
  ·refine LeA [] ?_ ?_ ?_
   all_goals try refine amL ?_
   all_goals try exact amT
   refine boxLe ?_
   have ew:wIn l bit=[[bit]]:=by unfold wIn wBase;rw[show Nat.beq l.length 0=true by rw[show l.length=0 by omega];rfl];rfl
   rw[ew]
   refine rowsLe2 (by rw[show l.length=0 by omega];rfl) (fun a ha=>?_)
   obtain rfl:a=0:=by omega
   first|exact oneInt|exact oneInt2
  ·rintro⟨i,m⟩ ⟨hi,hinv,he⟩
   replace hi:i<8:=hi
   have hinv':=hinv
   obtain⟨w1,w2,w3,w4⟩:=hinv'
   replace w1:m.length≤8:=w1
   replace w2:i<m.length:=w2
   replace w3:(m.getD i []).length≤4:=w3
   replace he:wAdd l bit=wGo (8 - i) i m:=he
   replace hinv:wInv i m:=hinv
   have hwr:=(w4 i w2).1
   replace hwr:1≤(m.getD i []).length:=hwr
   have htn:((i:Int)+1).toNat=i+1:=by omega
   have hn1:(i+1=i)=False:=eq_false (by omega)
   have hn2:(i=i+1)=False:=eq_false (by omega)
   have hbd:(2:Int)^i≤128:=(by decide:∀i,i<8→(2:Int)^i≤128) i hi
   have hv0:¬3<(m.getD i []).length∨((0≤(m.getD i []).getD 0 0∧(m.getD i []).getD 0 0≤2^i)∧(0≤(m.getD i []).getD 1 0∧(m.getD i []).getD 1 0≤2^i)):=by
    by_cases h3:3<(m.getD i []).length
    ·exact .inr ⟨(w4 i w2).2.2 0 (show 0<(m.getD i []).length by omega),(w4 i w2).2.2 1 (show 1<(m.getD i []).length by omega)⟩
    ·exact .inl h3
   have hn3:(m.getD (i+1) []).length≤3:=by
    by_cases e:i+1<m.length
    ·exact(w4 (i+1) e).2.1 (show i+1≠i by omega)
    ·have:m.getD (i+1) []=[]:=by rw[List.getD_eq_getElem?_getD,List.getElem?_eq_none (by omega)];rfl
     rw[this];exact Nat.zero_le _
   by_cases hx:i+1=m.length
   ·have hx':((i:Int)+1=(m.length:Int))=True:=eq_true (by omega)
    have ha1:∀f g:Nat→Nat→AV,apF m.length f g i 0=f i 0:=apF_l w2
    have ha2:∀f g:Nat→Nat→AV,apF m.length f g (i+1) 0=g 0 0:=apF_r hx
    have hro2:∀a:AV,rowsF [[a]] 0 0=a:=fun _=>rfl
    (try refine am (e:=by simp (maxSteps:=10000000) (maxDischargeDepth:=4) only[arun,AV.ro,drun_nil,drun_cons,DrawK,drunC_nil,drunC_cons,DrawC,zipN,isCall,isField,simpleOp,gdst,gcond,unc,cok,cok1,cndOf,gro,coks,hasBlk,unw,dOk,St.put,St.ρ,opd,St.T,St.H,lk_cons,lk_nil,o_i64,o_bool,pickT0,pickH0,rst0,rstS,rstT,aop,slOf,lenOf,apOp,apOld,apMv,mvSrc,owns1,ownsN,knN,shl,shx,rdE,wrE,ctOp,ctOf,dbl,sgl,memN,apSrc,slc,optI,uwb,ixOk,OB.live,AV.okp,AV.at,verTake,bump,sto,sto1,stoL,stoParts,CV.tv,TK.can,ldTV,ldc,cellsF,inOrder,fldOff,fldTy,gl,kn_int,kn_sl,AV.ro,AV.setR,AV.n,AV.es,AV.cut,OB.cut,plain,fr_int,fr_rows1,freeN,lim,b_add,b_eql,b_lss,b_leq,b_geq,fI_at,fL_at,Op.operands,Call.operands,gbf,Array.toList_append,List.nil_append,List.cons_append,List.append_nil,List.length_cons,List.length_nil,List.all_cons,List.all_nil,Option.map,Option.bind,Option.isSome,Option.getD,Option.some.injEq,List.getElem?_toArray,List.getElem?_cons_zero,List.getElem?_cons_succ,Nat.reduceAdd,Nat.reduceMul,Nat.reduceLeDiff,Nat.reduceLT,Nat.blt,Nat.ble,Nat.beq,Nat.add_zero,Nat.zero_add,Nat.sub_zero,beq_self,Int.toNat_natCast,Int.reduceLE,Int.reduceNeg,Int.reduceToNat,Int.natCast_nonneg,Int.ofNat_lt,Int.ofNat_le,Int.natCast_add,Int.natCast_one,inKi,maxLen_eq,bif_or,dec_or,and_self,imp_self,reduceIte,reduceCtorEq,true_and,and_true,false_and,or_true,or_false,ne_eq,not_false_eq_true,decide_true,decide_eq_true_eq,decide_eq_false_iff_not,Bool.and_self,Bool.and_true,Bool.or_false,Bool.or_true,Bool.not_true,Bool.not_false,Bool.not_eq_true',Bool.false_eq_true,cond_true,cond_false,forall_const,false_implies,implies_true,exists_eq_left',eq_self,List.not_mem_nil,List.mem_cons,forall_eq,nilAV,tk3,tk33,tk44,tk75,hx',ha2,hro2,htn,hn1];exact rfl) (h:=?_));(try exact amT)
    repeat' with_reducible first|apply zA|intro _
    all_goals try exact amA
    all_goals (try (exact fI_free (by assumption)))
    ·have h3':¬3<(m.getD i []).length:=by omega
     rw[he,wGo_end h3']
     refine FinK.tup ?_ ?_
     all_goals try refine amF ?_
     all_goals try exact amT
    ·have h3:3<(m.getD i []).length:=by omega
     obtain rfl:i=7:=by omega
     rw[he,show 8 - 7=0+1 from rfl,wGo_last h3]
     refine FinK.tup ?_ ?_
     all_goals try refine amF ?_
     all_goals try exact amT
     refine rowsLe2 (by rw[List.length_set]) (fun a ha=>?_)
     by_cases e1:a=7
     ·subst e1
      rw[getD_set_eq w2]
      simp only[and_true,if_true,Nat.le_refl,Nat.zero_lt_one,gl]
      all_goals (first|exact dropLe rfl)
     ·simp only[e1,false_and,if_false]
      rw[fL_at,getD_set_ne (fun e=>e1 e.symm)]
      exact .refl _
    ·have h3:3<(m.getD i []).length:=by omega
     have h7:i≠7:=by omega
     refine⟨(i+1,wStep i m),?_,⟨show i+1<8 by omega,wInv_step hinv h3 h7,?_⟩,show 8 - (i+1)<8 - i by omega⟩
     ·refine LeA [] ?_ ?_ ?_
      all_goals try refine amL ?_
      all_goals try exact amT
      refine boxLe ?_
      have hlen:(wStep i m).length=m.length+1:=by rw[wStep_len];have:=wExt_len (r:=i) w2;omega
      refine rowsLe2 (by rw[hlen]) (fun a ha=>?_)
      rw[wStep_at w2]
      by_cases e1:a=i
      ·subst e1
       simp only[hn2,ha1,and_true,if_false,if_true,Nat.le_refl,Nat.zero_lt_one,gl]
       all_goals (first|exact dropLe rfl)
      ·by_cases e2:a=i+1
       ·subst e2
        have em:m.getD (i+1) []=[]:=by rw[List.getD_eq_getElem?_getD,List.getElem?_eq_none (by omega)];rfl
        simp only[hn1,em,and_true,if_false,if_true,Nat.le_refl,Nat.zero_lt_one,gl]
        all_goals (first|exact oneInt2)
       ·have ea:=apF_l (i:=a) (n:=m.length) (by omega)
        simp only[e1,e2,ea,false_and,if_false]
        all_goals (first|exact .refl _)
     ·show wAdd l bit=wGo (8 - (i+1)) (i+1) (wStep i m)
      rw[he,show 8 - i=(8 - (i+1))+1 by omega,wGo_step h3 h7]
   ·have hx':((i:Int)+1=(m.length:Int))=False:=eq_false (by omega)
    (try refine am (e:=by simp (maxSteps:=10000000) (maxDischargeDepth:=4) only[arun,AV.ro,drun_nil,drun_cons,DrawK,drunC_nil,drunC_cons,DrawC,zipN,isCall,isField,simpleOp,gdst,gcond,unc,cok,cok1,cndOf,gro,coks,hasBlk,unw,dOk,St.put,St.ρ,opd,St.T,St.H,lk_cons,lk_nil,o_i64,o_bool,pickT0,pickH0,rst0,rstS,rstT,aop,slOf,lenOf,apOp,apOld,apMv,mvSrc,owns1,ownsN,knN,rows_at0,shl,shx,rdE,wrE,ctOp,ctOf,dbl,sgl,memN,apSrc,slc,optI,uwb,bad,ixOk,OB.live,AV.okp,AV.at,verTake,bump,sto,sto1,stoL,stoParts,CV.tv,TK.can,ldTV,ldc,cellsF,inOrder,fldOff,fldTy,gl,kn_int,kn_sl,AV.ro,AV.setR,AV.n,AV.es,AV.cut,OB.cut,plain,fr_int,fr_rows1,freeN,lim,b_add,b_eql,b_lss,b_leq,b_geq,fI_at,fL_at,Op.operands,Call.operands,gbf,Array.toList_append,List.nil_append,List.cons_append,List.append_nil,List.length_cons,List.length_nil,List.all_cons,List.all_nil,Option.map,Option.bind,Option.isSome,Option.getD,Option.some.injEq,List.getElem?_toArray,List.getElem?_cons_zero,List.getElem?_cons_succ,Nat.reduceAdd,Nat.reduceMul,Nat.reduceLeDiff,Nat.reduceLT,Nat.blt,Nat.ble,Nat.beq,Nat.add_zero,Nat.zero_add,Nat.sub_zero,beq_self,Int.toNat_natCast,Int.reduceLE,Int.reduceNeg,Int.reduceToNat,Int.natCast_nonneg,Int.ofNat_lt,Int.ofNat_le,Int.natCast_add,Int.natCast_one,inKi,maxLen_eq,bif_or,dec_or,and_self,imp_self,reduceIte,reduceCtorEq,true_and,and_true,false_and,or_true,or_false,ne_eq,not_false_eq_true,decide_true,decide_false,decide_eq_true_eq,decide_eq_false_iff_not,Bool.and_self,Bool.and_true,Bool.or_false,Bool.or_true,Bool.not_true,Bool.not_false,Bool.not_eq_true',Bool.false_eq_true,cond_true,cond_false,forall_const,false_implies,implies_true,exists_eq_left',eq_self,List.not_mem_nil,List.mem_cons,forall_eq,nilAV,tk3,tk33,tk44,tk75,hx',htn,hn1];exact rfl) (h:=?_));(try exact amT)
    repeat' with_reducible first|apply zA|intro _
    all_goals try exact amA
    all_goals (try (exact fI_free (by assumption)))
    ·have h3':¬3<(m.getD i []).length:=by omega
     rw[he,wGo_end h3']
     refine FinK.tup ?_ ?_
     all_goals try refine amF ?_
     all_goals try exact amT
    ·have h3:3<(m.getD i []).length:=by omega
     have h7:i≠7:=by omega
     refine⟨(i+1,wStep i m),?_,⟨show i+1<8 by omega,wInv_step hinv h3 h7,?_⟩,show 8 - (i+1)<8 - i by omega⟩
     ·refine LeA [] ?_ ?_ ?_
      all_goals try refine amL ?_
      all_goals try exact amT
      refine boxLe ?_
      have hlen:(wStep i m).length=m.length:=by rw[wStep_len];have:=wExt_len (r:=i) w2;omega
      refine rowsLe2 (by rw[hlen]) (fun a ha=>?_)
      rw[wStep_at w2]
      by_cases e1:a=i
      ·subst e1
       simp only[hn2,and_true,if_false,if_true,Nat.le_refl,Nat.zero_lt_one,gl]
       all_goals (first|exact dropLe rfl)
      ·by_cases e2:a=i+1
       ·subst e2
        simp only[hn1,and_true,if_false,if_true,Nat.le_refl,Nat.zero_lt_one,gl]
        all_goals (first|exact appInt rfl)
       ·simp only[e1,e2,false_and,if_false]
        all_goals (first|exact .refl _)
     ·show wAdd l bit=wGo (8 - (i+1)) (i+1) (wStep i m)
      rw[he,show 8 - i=(8 - (i+1))+1 by omega,wGo_step h3 h7]
 ·have hro:=hwk.2 0 (by omega)
  have hr3:=hro.1
  (try refine am ?_);(try exact amT)
  repeat' with_reducible first|apply zA|intro _
  all_goals try exact amA
  refine LoopK.auto ((Nat×List (List Int))) (fun p=>[(7,.one (.av (.int .i64 p.1))),(6,.one (.ref 302 [] [0] 0 0))]) (fun p=>[(302,⟨.sl true none 1 1 (fun _ _=>.sl true none 1 p.2.length (fL true p.2)),[]⟩)]) [4] (k0:=?k02) (keepH:=?kh2) 400 (fun p=>p.1<8∧wInv p.1 p.2∧wAdd l bit=wGo (8 - p.1) p.1 p.2) (fun p=>8 - p.1) ((0,wIn l bit)) ?kea2 ?keb2 ?_ ?_ ?_
  case kea2=>exact amN
  case keb2=>exact amN
  ·exact⟨by omega,hi0,rfl⟩
  ·refine LeA [] ?_ ?_ ?_
   all_goals try refine amL ?_
   all_goals try exact amT
   refine boxLe ?_
   have hl0':0<l.length:=by omega
   have ew:wIn l bit=l.set 0 (l.getD 0 []++[bit]):=by unfold wIn wBase;rw[show Nat.beq l.length 0=false by rw[Bool.eq_false_iff];intro hh;have:=Nat.eq_of_beq_eq_true hh;omega];rfl
   rw[ew]
   refine rowsLe2 (by rw[List.length_set]) (fun a ha=>?_)
   by_cases e3:a=0
   ·subst e3
    rw[getD_set_eq hl0']
    exact appInt rfl
   ·simp only[e3,false_and,if_false]
    rw[fL_at,getD_set_ne (fun e=>e3 e.symm)]
    exact .refl _
  ·rintro⟨i,m⟩ ⟨hi,hinv,he⟩
   replace hi:i<8:=hi
   have hinv':=hinv
   obtain⟨w1,w2,w3,w4⟩:=hinv'
   replace w1:m.length≤8:=w1
   replace w2:i<m.length:=w2
   replace w3:(m.getD i []).length≤4:=w3
   replace he:wAdd l bit=wGo (8 - i) i m:=he
   replace hinv:wInv i m:=hinv
   have hwr:=(w4 i w2).1
   replace hwr:1≤(m.getD i []).length:=hwr
   have htn:((i:Int)+1).toNat=i+1:=by omega
   have hn1:(i+1=i)=False:=eq_false (by omega)
   have hn2:(i=i+1)=False:=eq_false (by omega)
   have hbd:(2:Int)^i≤128:=(by decide:∀i,i<8→(2:Int)^i≤128) i hi
   have hv0:¬3<(m.getD i []).length∨((0≤(m.getD i []).getD 0 0∧(m.getD i []).getD 0 0≤2^i)∧(0≤(m.getD i []).getD 1 0∧(m.getD i []).getD 1 0≤2^i)):=by
    by_cases h3:3<(m.getD i []).length
    ·exact .inr ⟨(w4 i w2).2.2 0 (show 0<(m.getD i []).length by omega),(w4 i w2).2.2 1 (show 1<(m.getD i []).length by omega)⟩
    ·exact .inl h3
   have hn3:(m.getD (i+1) []).length≤3:=by
    by_cases e:i+1<m.length
    ·exact(w4 (i+1) e).2.1 (show i+1≠i by omega)
    ·have:m.getD (i+1) []=[]:=by rw[List.getD_eq_getElem?_getD,List.getElem?_eq_none (by omega)];rfl
     rw[this];exact Nat.zero_le _
   by_cases hx:i+1=m.length
   ·have hx':((i:Int)+1=(m.length:Int))=True:=eq_true (by omega)
    have ha1:∀f g:Nat→Nat→AV,apF m.length f g i 0=f i 0:=apF_l w2
    have ha2:∀f g:Nat→Nat→AV,apF m.length f g (i+1) 0=g 0 0:=apF_r hx
    have hro2:∀a:AV,rowsF [[a]] 0 0=a:=fun _=>rfl
    (try refine am (e:=by simp (maxSteps:=10000000) (maxDischargeDepth:=4) only[arun,AV.ro,drun_nil,drun_cons,DrawK,drunC_nil,drunC_cons,DrawC,zipN,isCall,isField,simpleOp,gdst,gcond,unc,cok,cok1,cndOf,gro,coks,hasBlk,unw,dOk,St.put,St.ρ,opd,St.T,St.H,lk_cons,lk_nil,o_i64,o_bool,pickT0,pickH0,rst0,rstS,rstT,aop,slOf,lenOf,apOp,apOld,apMv,mvSrc,owns1,ownsN,knN,shl,shx,rdE,wrE,ctOp,ctOf,dbl,sgl,memN,apSrc,slc,optI,uwb,ixOk,OB.live,AV.okp,AV.at,verTake,bump,sto,sto1,stoL,stoParts,CV.tv,TK.can,ldTV,ldc,cellsF,inOrder,fldOff,fldTy,gl,kn_int,kn_sl,AV.ro,AV.setR,AV.n,AV.es,AV.cut,OB.cut,plain,fr_int,fr_rows1,freeN,lim,b_add,b_eql,b_lss,b_leq,b_geq,fI_at,fL_at,Op.operands,Call.operands,gbf,Array.toList_append,List.nil_append,List.cons_append,List.append_nil,List.length_cons,List.length_nil,List.all_cons,List.all_nil,Option.map,Option.bind,Option.isSome,Option.getD,Option.some.injEq,List.getElem?_toArray,List.getElem?_cons_zero,List.getElem?_cons_succ,Nat.reduceAdd,Nat.reduceMul,Nat.reduceLeDiff,Nat.reduceLT,Nat.blt,Nat.ble,Nat.beq,Nat.add_zero,Nat.zero_add,Nat.sub_zero,beq_self,Int.toNat_natCast,Int.reduceLE,Int.reduceNeg,Int.reduceToNat,Int.natCast_nonneg,Int.ofNat_lt,Int.ofNat_le,Int.natCast_add,Int.natCast_one,inKi,maxLen_eq,bif_or,dec_or,and_self,imp_self,reduceIte,reduceCtorEq,true_and,and_true,false_and,or_true,or_false,ne_eq,not_false_eq_true,decide_true,decide_eq_true_eq,decide_eq_false_iff_not,Bool.and_self,Bool.and_true,Bool.or_false,Bool.or_true,Bool.not_true,Bool.not_false,Bool.not_eq_true',Bool.false_eq_true,cond_true,cond_false,forall_const,false_implies,implies_true,exists_eq_left',eq_self,List.not_mem_nil,List.mem_cons,forall_eq,nilAV,tk3,tk33,tk44,tk75,hx',ha2,hro2,htn,hn1];exact rfl) (h:=?_));(try exact amT)
    repeat' with_reducible first|apply zA|intro _
    all_goals try exact amA
    all_goals (try (exact fI_free (by assumption)))
    ·have h3':¬3<(m.getD i []).length:=by omega
     rw[he,wGo_end h3']
     refine FinK.tup ?_ ?_
     all_goals try refine amF ?_
     all_goals try exact amT
    ·have h3:3<(m.getD i []).length:=by omega
     obtain rfl:i=7:=by omega
     rw[he,show 8 - 7=0+1 from rfl,wGo_last h3]
     refine FinK.tup ?_ ?_
     all_goals try refine amF ?_
     all_goals try exact amT
     refine rowsLe2 (by rw[List.length_set]) (fun a ha=>?_)
     by_cases e1:a=7
     ·subst e1
      rw[getD_set_eq w2]
      simp only[and_true,if_true,Nat.le_refl,Nat.zero_lt_one,gl]
      all_goals (first|exact dropLe rfl)
     ·simp only[e1,false_and,if_false]
      rw[fL_at,getD_set_ne (fun e=>e1 e.symm)]
      exact .refl _
    ·have h3:3<(m.getD i []).length:=by omega
     have h7:i≠7:=by omega
     refine⟨(i+1,wStep i m),?_,⟨show i+1<8 by omega,wInv_step hinv h3 h7,?_⟩,show 8 - (i+1)<8 - i by omega⟩
     ·refine LeA [] ?_ ?_ ?_
      all_goals try refine amL ?_
      all_goals try exact amT
      refine boxLe ?_
      have hlen:(wStep i m).length=m.length+1:=by rw[wStep_len];have:=wExt_len (r:=i) w2;omega
      refine rowsLe2 (by rw[hlen]) (fun a ha=>?_)
      rw[wStep_at w2]
      by_cases e1:a=i
      ·subst e1
       simp only[hn2,ha1,and_true,if_false,if_true,Nat.le_refl,Nat.zero_lt_one,gl]
       all_goals (first|exact dropLe rfl)
      ·by_cases e2:a=i+1
       ·subst e2
        have em:m.getD (i+1) []=[]:=by rw[List.getD_eq_getElem?_getD,List.getElem?_eq_none (by omega)];rfl
        simp only[hn1,em,and_true,if_false,if_true,Nat.le_refl,Nat.zero_lt_one,gl]
        all_goals (first|exact oneInt2)
       ·have ea:=apF_l (i:=a) (n:=m.length) (by omega)
        simp only[e1,e2,ea,false_and,if_false]
        all_goals (first|exact .refl _)
     ·show wAdd l bit=wGo (8 - (i+1)) (i+1) (wStep i m)
      rw[he,show 8 - i=(8 - (i+1))+1 by omega,wGo_step h3 h7]
   ·have hx':((i:Int)+1=(m.length:Int))=False:=eq_false (by omega)
    (try refine am (e:=by simp (maxSteps:=10000000) (maxDischargeDepth:=4) only[arun,AV.ro,drun_nil,drun_cons,DrawK,drunC_nil,drunC_cons,DrawC,zipN,isCall,isField,simpleOp,gdst,gcond,unc,cok,cok1,cndOf,gro,coks,hasBlk,unw,dOk,St.put,St.ρ,opd,St.T,St.H,lk_cons,lk_nil,o_i64,o_bool,pickT0,pickH0,rst0,rstS,rstT,aop,slOf,lenOf,apOp,apOld,apMv,mvSrc,owns1,ownsN,knN,rows_at0,shl,shx,rdE,wrE,ctOp,ctOf,dbl,sgl,memN,apSrc,slc,optI,uwb,bad,ixOk,OB.live,AV.okp,AV.at,verTake,bump,sto,sto1,stoL,stoParts,CV.tv,TK.can,ldTV,ldc,cellsF,inOrder,fldOff,fldTy,gl,kn_int,kn_sl,AV.ro,AV.setR,AV.n,AV.es,AV.cut,OB.cut,plain,fr_int,fr_rows1,freeN,lim,b_add,b_eql,b_lss,b_leq,b_geq,fI_at,fL_at,Op.operands,Call.operands,gbf,Array.toList_append,List.nil_append,List.cons_append,List.append_nil,List.length_cons,List.length_nil,List.all_cons,List.all_nil,Option.map,Option.bind,Option.isSome,Option.getD,Option.some.injEq,List.getElem?_toArray,List.getElem?_cons_zero,List.getElem?_cons_succ,Nat.reduceAdd,Nat.reduceMul,Nat.reduceLeDiff,Nat.reduceLT,Nat.blt,Nat.ble,Nat.beq,Nat.add_zero,Nat.zero_add,Nat.sub_zero,beq_self,Int.toNat_natCast,Int.reduceLE,Int.reduceNeg,Int.reduceToNat,Int.natCast_nonneg,Int.ofNat_lt,Int.ofNat_le,Int.natCast_add,Int.natCast_one,inKi,maxLen_eq,bif_or,dec_or,and_self,imp_self,reduceIte,reduceCtorEq,true_and,and_true,false_and,or_true,or_false,ne_eq,not_false_eq_true,decide_true,decide_false,decide_eq_true_eq,decide_eq_false_iff_not,Bool.and_self,Bool.and_true,Bool.or_false,Bool.or_true,Bool.not_true,Bool.not_false,Bool.not_eq_true',Bool.false_eq_true,cond_true,cond_false,forall_const,false_implies,implies_true,exists_eq_left',eq_self,List.not_mem_nil,List.mem_cons,forall_eq,nilAV,tk3,tk33,tk44,tk75,hx',htn,hn1];exact rfl) (h:=?_));(try exact amT)
    repeat' with_reducible first|apply zA|intro _
    all_goals try exact amA
    all_goals (try (exact fI_free (by assumption)))
    ·have h3':¬3<(m.getD i []).length:=by omega
     rw[he,wGo_end h3']
     refine FinK.tup ?_ ?_
     all_goals try refine amF ?_
     all_goals try exact amT
    ·have h3:3<(m.getD i []).length:=by omega
     have h7:i≠7:=by omega
     refine⟨(i+1,wStep i m),?_,⟨show i+1<8 by omega,wInv_step hinv h3 h7,?_⟩,show 8 - (i+1)<8 - i by omega⟩
     ·refine LeA [] ?_ ?_ ?_
      all_goals try refine amL ?_
      all_goals try exact amT
      refine boxLe ?_
      have hlen:(wStep i m).length=m.length:=by rw[wStep_len];have:=wExt_len (r:=i) w2;omega
      refine rowsLe2 (by rw[hlen]) (fun a ha=>?_)
      rw[wStep_at w2]
      by_cases e1:a=i
      ·subst e1
       simp only[hn2,and_true,if_false,if_true,Nat.le_refl,Nat.zero_lt_one,gl]
       all_goals (first|exact dropLe rfl)
      ·by_cases e2:a=i+1
       ·subst e2
        simp only[hn1,and_true,if_false,if_true,Nat.le_refl,Nat.zero_lt_one,gl]
        all_goals (first|exact appInt rfl)
       ·simp only[e1,e2,false_and,if_false]
        all_goals (first|exact .refl _)
     ·show wAdd l bit=wGo (8 - (i+1)) (i+1) (wStep i m)
      rw[he,show 8 - i=(8 - (i+1))+1 by omega,wGo_step h3 h7]
end Go.AM
namespace Go.AM
set_option maxHeartbeats 64000000
open Go Go.Proofs
set_option maxRecDepth 100000
theorem okL47 {m:List (List Int)} (hm:okL (2^40) m):okL (2^47) m:=⟨by have:=hm.1;omega,fun r hr=>⟨by have:=(hm.2 r hr).1;omega,(hm.2 r hr).2⟩⟩
theorem bk3072 (m:List (List Int)):(0≤bOnes (bkts m)∧bOnes (bkts m)≤3072)∧(0≤bSize (bkts m)∧bSize (bkts m)≤3072):=by
 have h1:=bkts_len (l:=m)
 have h2:=bk_bd (bkts_ok (l:=m))
 omega
theorem specShrink (l:List (List Int)) (k:Int) (u v:Bool) (h:okL (2^40) l) (hk:inK .i64 k):ACalls Tryz.prog 223 [.agg [aL u v l],.one (.int .i64 k)] (fun r=>r=.tup [.agg [aL true true (shrink l k).1],.one (.int .i64 (shrink l k).2)]):=by
 have hl:=h.1
 have nt:Tryz.f223.ntmps=23:=rfl
 have rs:Tryz.f223.results=#[.cell 4 75,.tmp 5]:=rfl
 refine ACalls.of_run (m:=400) mixed Tryz.func223 rfl rfl (Nat.le_of_ble_eq_true rfl) ?_
 simp only[nt,rs]
 clear nt rs
 (try refine am ?_);(try exact amT)
 refine CallK.one (l16CopyI l _ _ h) (fun _=>amC) ?_
 (try refine am ?_);(try exact amT)
 repeat' with_reducible first|apply zA|intro _
 all_goals try exact amA
 refine LoopK.auto ((List (List Int)×Nat)) (fun p=>[(7,.one (.av (.int .i64 p.2))),(6,.one (.ref 302 [] [0] 0 0))]) (fun p=>[(302,⟨.sl true none 1 1 (fun _ _=>.sl true none 1 p.1.length (fL true p.1)),[]⟩)]) [1,4] (k0:=?k01) (keepH:=?kh1) 400 (fun p=>shInv l k p) (fun p=>wMu p.1) ((l,0)) ?kea1 ?keb1 ?_ ?_ ?_
 case kea1=>exact amN
 case keb1=>exact amN
 ·exact shInv_start h
 ·refine LeA [] ?_ ?_ ?_
  all_goals try refine amL ?_
  all_goals try exact amT
  exact boxLe (.refl _)
 ·rintro⟨m,n⟩ hinv
  have hm:okL (2^40) m:=hinv.1
  have hn:n≤24:=by
   rcases hinv.2.1 with h0|h0
   ·have:n=0:=h0
    omega
   ·have:n+wMu m≤24:=h0.2
    omega
  have hnn:=cutAt_nn (l:=m) (k:=k)
  (try refine am ?_);(try exact amT)
  refine CallK.one (specCutAt m k _ _ (okL47 hm) hk) (fun _=>amC) ?_
  (try refine am ?_);(try exact amT)
  repeat' with_reducible first|apply zA|intro _
  all_goals try exact amA
  ·have hc:cutAt m k≠0:=by omega
   refine CallK.one (specWindowDrop m _ _ hm) (fun _=>amC) ?_
   (try refine am ?_);(try exact amT)
   repeat' with_reducible first|apply zA|intro _
   all_goals try exact amA
   refine⟨(wDropA m,n+1),?_,shInv_step hinv hc,(wDropA_cut hc).2.2⟩
   refine LeA [] ?_ ?_ ?_
   all_goals try refine amL ?_
   all_goals try exact amT
   all_goals (first|exact boxLe (.refl _))
  ·have hc:cutAt m k=0:=by omega
   have he:=shInv_end hinv hc
   rw[he.1]
   refine FinK.tup ?_ ?_
   all_goals try refine amF ?_
   all_goals try exact amT
theorem specWindowStep (l:List (List Int)) (bit k:Int) (u v:Bool) (h:okL (2^40) l) (hbit:inK .i64 bit) (hk:inK .i64 k):ACalls Tryz.prog 213 [.agg [aL u v l],.one (.int .i64 bit),.one (.int .i64 k)] (fun r=>r=.tup [.agg [aL true true (wsWin l bit k)],.one (.bool (wsRose l bit k)),.one (.bool (wsOk l bit k))]):=by
 have hl:=h.1
 have ha:=wAddA_ok (bit:=bit) h
 have hs:=shrink_ok (k:=k) ha
 have b1:=bk3072 (wAddA l bit)
 have b2:=bk3072 (shrink (wAddA l bit) k).1
 have b3:=mul_bd b2.1 b1.2
 have b4:=mul_bd b1.1 b2.2
 have nt:Tryz.f213.ntmps=52:=rfl
 have rs:Tryz.f213.results=#[.cell 6 75,.tmp 7,.tmp 8]:=rfl
 refine ACalls.of_run (m:=400) mixed Tryz.func213 rfl rfl (Nat.le_of_ble_eq_true rfl) ?_
 simp only[nt,rs]
 clear nt rs
 (try refine am ?_);(try exact amT)
 refine CallK.one (specWindowAdd l bit _ _ h hbit) (fun _=>amC) ?_
 (try refine am ?_);(try exact amT)
 repeat' with_reducible first|apply zA|intro _
 all_goals try exact amA
 refine CallG.one rfl (fun hg=>l1In k 1 9) ?_
 (try refine am ?_);(try exact amT)
 repeat' with_reducible first|apply zA|intro _
 all_goals try exact amA
 ·rename_i hc
  have e:wsOk l bit k=false:=by
   unfold wsOk
   rcases hc with hc|hc
   ·rw[hc];rfl
   ·rw[decide_eq_false hc,Bool.and_false]
  have e2:wsWin l bit k=l:=by unfold wsWin;rw[e];rfl
  have e3:wsRose l bit k=false:=by unfold wsRose;rw[e];rfl
  rw[e,e2,e3]
  refine CallK.one (l16CopyI l _ _ h) (fun _=>amC) ?_
  (try refine am ?_);(try exact amT)
  repeat' with_reducible first|apply zA|intro _
  all_goals try exact amA
  refine FinK.tup ?_ ?_
  all_goals try refine amF ?_
  all_goals try exact amT
 ·rename_i hc
  have e:wsOk l bit k=true:=by unfold wsOk;rw[hc.1,decide_eq_true hc.2];rfl
  have e2:wsWin l bit k=(shrink (wAddA l bit) k).1:=by unfold wsWin;rw[e];rfl
  have e3:wsRose l bit k=wsRoseA (wAddA l bit) (shrink (wAddA l bit) k):=by unfold wsRose;rw[e];rfl
  rw[e,e2,e3]
  refine CallK.one (specShrink (wAddA l bit) k _ _ ha hk) (fun _=>amC) ?_
  (try refine am ?_);(try exact amT)
  repeat' with_reducible first|apply zA|intro _
  all_goals try exact amA
  refine CallEG.one rfl rfl (fun hg=>specWindowOnes (shrink (wAddA l bit) k).1 _ _ (okL47 hs)) ?_
  (try refine am ?_);(try exact amT)
  repeat' with_reducible first|apply zA|intro _
  all_goals try exact amA
  refine CallEG.one rfl rfl (fun hg=>specWindowTotal (wAddA l bit) _ _ (okL47 ha)) ?_
  (try refine am ?_);(try exact amT)
  repeat' with_reducible first|apply zA|intro _
  all_goals try exact amA
  refine CallEG.one rfl rfl (fun hg=>specWindowOnes (wAddA l bit) _ _ (okL47 ha)) ?_
  (try refine am ?_);(try exact amT)
  repeat' with_reducible first|apply zA|intro _
  all_goals try exact amA
  refine CallEG.one rfl rfl (fun hg=>specWindowTotal (shrink (wAddA l bit) k).1 _ _ (okL47 hs)) ?_
  (try refine am ?_);(try exact amT)
  repeat' with_reducible first|apply zA|intro _
  all_goals try exact amA
  refine FinK.tup ?_ ?_
  all_goals try refine amF ?_
  all_goals try exact amT
  unfold wsRoseA
  rw[←Bool.decide_and]
  exact decide_eq_decide.2 ⟨fun hh=>⟨by omega,hh.2⟩,fun hh=>⟨by omega,hh.2⟩⟩
end Go.AM
namespace Go.AM
set_option maxHeartbeats 64000000
open Go Go.Proofs
set_option maxRecDepth 100000
theorem detLe {nl:Option Bool} {F:Nat→Nat→AV} {d:DDet} (h0:ALe (F 0 0) (aL true true d.warn)) (h1:ALe (F 0 1) (aL true true d.drift)):ALe (.sl true nl 2 1 F) (.sl true none 2 1 (fun _ j=>gl .junk (cDet true true d) j)):=by
 refine ALe.of (.inl rfl) rfl (fun a ha j hj=>?_)
 obtain rfl:a=0:=by omega
 rcases (by omega:j=0∨j=1) with rfl|rfl
 ·exact h0
 ·exact h1
theorem l18CopyI (d:DDet) (u v:Bool) (h:okDet (2^40) d):ACalls Tryz.prog 210 [.agg (cDet u v d)] (fun r=>r=.val (.agg (cDet true true d))):=by
 have nt:Tryz.f210.ntmps=10:=rfl
 have rs:Tryz.f210.results=#[.cell 2 77]:=rfl
 refine ACalls.of_run (m:=400) mixed Tryz.func210 rfl rfl (Nat.le_of_ble_eq_true rfl) ?_
 simp only[nt,rs]
 clear nt rs
 (try refine am ?_);(try exact amT)
 repeat' with_reducible first|apply zA|intro _
 all_goals try exact amA
 refine CallE.one (l16CopyI d.warn _ _ h.1) (fun _=>amC) rfl ?_
 (try refine am ?_);(try exact amT)
 repeat' with_reducible first|apply zA|intro _
 all_goals try exact amA
 refine CallE.one (l16CopyI d.drift _ _ h.2) (fun _=>amC) rfl ?_
 (try refine am ?_);(try exact amT)
 repeat' with_reducible first|apply zA|intro _
 all_goals try exact amA
 refine FinK.cell1 ?_ ?_ ?_
 all_goals try refine amF ?_
 all_goals try exact amT
theorem specDetStep (d:DDet) (bit w r:Int) (u v:Bool) (h:okDet (2^40) d) (hbit:inK .i64 bit) (hw:inK .i64 w) (hr:inK .i64 r):ACalls Tryz.prog 200 [.agg (cDet u v d),.one (.int .i64 bit),.one (.int .i64 w),.one (.int .i64 r)] (fun q=>q=.tup [.agg (cDet true true (detStep d bit w r).1),.one (.int .i64 (detStep d bit w r).2)]):=by
 have nt:Tryz.f200.ntmps=54:=rfl
 have rs:Tryz.f200.results=#[.cell 8 77,.tmp 9]:=rfl
 refine ACalls.of_run (m:=400) mixed Tryz.func200 rfl rfl (Nat.le_of_ble_eq_true rfl) ?_
 simp only[nt,rs]
 clear nt rs
 (try refine am ?_);(try exact amT)
 refine CallK.one (specWindowStep d.warn bit w _ _ h.1 hbit hw) (fun _=>amC) ?_
 (try refine am ?_);(try exact amT)
 repeat' with_reducible first|apply zA|intro _
 all_goals try exact amA
 refine CallK.one (specWindowStep d.drift bit r _ _ h.2 hbit hr) (fun _=>amC) ?_
 (try refine am ?_);(try exact amT)
 repeat' with_reducible first|apply zA|intro _
 all_goals try exact amA
 ·rename_i hc
  have e:(wsOk d.warn bit w&&wsOk d.drift bit r)=false:=by
   rcases hc with hc|hc
   ·rw[hc];rfl
   ·rw[hc,Bool.and_false]
  have e2:detStep d bit w r=(d,3):=by unfold detStep;rw[e];rfl
  rw[e2]
  refine CallK.one (l18CopyI d _ _ h) (fun _=>amC) ?_
  (try refine am ?_);(try exact amT)
  repeat' with_reducible first|apply zA|intro _
  all_goals try exact amA
  refine FinK.tup ?_ ?_
  all_goals try refine amF ?_
  all_goals try exact amT
 ·rename_i hc h1
  have e:(wsOk d.warn bit w&&wsOk d.drift bit r)=true:=by rw[hc.1,hc.2];rfl
  have e2:detStep d bit w r=(⟨[],[]⟩,2):=by unfold detStep;rw[e,h1];rfl
  rw[e2]
  refine FinK.tup ?_ ?_
  all_goals try refine amF ?_
  all_goals try exact amT
  all_goals (first|exact⟨.nil _ _ _ _ _,.nil _ _ _ _ _⟩|exact .nil _ _ _ _ _)
 ·rename_i hc h1 h2
  have e:(wsOk d.warn bit w&&wsOk d.drift bit r)=true:=by rw[hc.1,hc.2];rfl
  have e2:detStep d bit w r=(⟨wsWin d.warn bit w,wsWin d.drift bit r⟩,1):=by unfold detStep;rw[e,h1,h2];rfl
  rw[e2]
  refine FinK.tup ?_ ?_
  all_goals try refine amF ?_
  all_goals try exact amT
 ·rename_i hc h1 h2
  have e:(wsOk d.warn bit w&&wsOk d.drift bit r)=true:=by rw[hc.1,hc.2];rfl
  have e2:detStep d bit w r=(⟨wsWin d.warn bit w,wsWin d.drift bit r⟩,0):=by unfold detStep;rw[e,h1,h2];rfl
  rw[e2]
  refine FinK.tup ?_ ?_
  all_goals try refine amF ?_
  all_goals try exact amT
theorem specDetRun (l:List Int) (w r:Int) (u:Bool) (h:okI (2^40) l) (hw:inK .i64 w) (hr:inK .i64 r):ACalls Tryz.prog 185 [.one (aI u l),.one (.int .i64 w),.one (.int .i64 r)] (fun q=>q=.tup [.agg (cDet true true (detRunA l w r l.length).1),.one (aI true (detRunA l w r l.length).2)]):=by
 have hl:=h.1
 have nt:Tryz.f185.ntmps=39:=rfl
 have rs:Tryz.f185.results=#[.cell 6 77,.tmp 7]:=rfl
 refine ACalls.of_run (m:=400) mixed Tryz.func185 rfl rfl (Nat.le_of_ble_eq_true rfl) ?_
 simp only[nt,rs]
 clear nt rs
 (try refine am ?_);(try exact amT)
 repeat' with_reducible first|apply zA|intro _
 all_goals try exact amA
 refine LoopK.auto (Nat) (fun i=>[(10,.one (.av (.int .i64 i))),(8,.one (.ref 302 [] [0] 0 0)),(9,.one (.own 303 [] [0]))]) (fun i=>[(302,⟨.sl true none 2 1 (fun _ j=>gl .junk (cDet true true (detRunA l w r i).1) j),[]⟩),(303,⟨.sl true none 1 (detRunA l w r i).2.length (fI (detRunA l w r i).2),[]⟩)]) [0,1,2,6] (k0:=?k01) (keepH:=?kh1) 400 (fun i=>i≤l.length) (fun i=>l.length - i) (0) ?kea1 ?keb1 ?_ ?_ ?_
 case kea1=>exact amN
 case keb1=>exact amN
 ·exact Nat.zero_le _
 ·refine LeA [] ?_ ?_ ?_
  all_goals try refine amL ?_
  all_goals try exact amT
  exact⟨ALe.of (.inl rfl) rfl (fun i hi=>by omega),detLe (.nil _ _ _ _ _) (.nil _ _ _ _ _)⟩
 ·intro i hi
  have hrun:=detRunA_ok (l:=l) (w:=w) (r:=r) (i:=i)
  have hlen:=hrun.2.1
  (try refine am ?_);(try exact amT)
  repeat' with_reducible first|apply zA|intro _
  all_goals try exact amA
  ·have hlt:i<l.length:=by assumption
   have hbit:=h.2 _ (getD_mem (d:=0) hlt)
   refine CallE.one (specDetStep (detRunA l w r i).1 (l.getD i 0) w r _ _ hrun.1 hbit hw hr) (fun _=>amC) rfl ?_
   (try refine am ?_);(try exact amT)
   repeat' with_reducible first|apply zA|intro _
   all_goals try exact amA
   refine⟨i+1,?_,by omega,by omega⟩
   refine LeA [] ?_ ?_ ?_
   all_goals try refine amL ?_
   all_goals try exact amT
   exact⟨appInt rfl,detLe (.refl _) (.refl _)⟩
  ·have ei:i=l.length:=by omega
   subst ei
   refine FinK.tup ?_ ?_
   all_goals try refine amF ?_
   all_goals try exact amT
end Go.AM
