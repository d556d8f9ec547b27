/- Lemmas for the proof of this claim. -/
import Derived.Test.YtpbahibieegbgaaGreatTr2
import Derived.Test.YtpbahibieegbgaaGreatData
namespace Go.AM
set_option maxHeartbeats 64000000
open Go Go.Proofs
set_option maxRecDepth 100000
def zr (c:Nat) (a:DAttr):List Int:=List.replicate (bins a*c) 0
def statsNew (s:DSchema):DStats:=if schemaOk s then ⟨List.replicate s.classes.length 0,s.attrs.map (zr s.classes.length)⟩ else ⟨[],[]⟩
theorem zr_take (s:DSchema) {i:Nat} (h:i<s.attrs.length):(s.attrs.take (i+1)).map (zr s.classes.length)=(s.attrs.take i).map (zr s.classes.length)++[zr s.classes.length (s.attrs.getD i default)]:=by
 rw[take_succ (d:=default) h,List.map_append];rfl
theorem zr_len (s:DSchema) {i:Nat} (h:i≤s.attrs.length):((s.attrs.take i).map (zr s.classes.length)).length=i:=by simp[h]
theorem schema_bd {s:DSchema} (h:schemaOk s) {i:Nat} (hi:i<s.attrs.length):bins (s.attrs.getD i default)*s.classes.length≤12∧attrOk (s.attrs.getD i default):=by
 have ha:=h.2.2.2.1 i hi
 have hb:=attrOk_bins ha
 have hc:=h.2.1.2
 exact⟨Nat.mul_le_mul hb.2 hc,ha⟩
theorem specStatsNew (s:DSchema) (u v:Bool) (h:okSchema (2^47) s):ACalls Tryz.prog 81 [.agg (cSchema u v s)] (fun r=>r=.val (.agg (cStats true true (statsNew s)))):=by
 have nt:Tryz.f81.ntmps=38:=rfl
 have rs:Tryz.f81.results=#[.cell 2 46]:=rfl
 refine ACalls.of_run (m:=400) mixed Tryz.func81 rfl rfl (Nat.le_of_ble_eq_true rfl) ?_
 simp only[nt,rs]
 clear nt rs
 (try refine am ?_);(try exact amT)
 repeat' with_reducible first|apply zA|intro _
 all_goals try exact amA
 refine CallK.one (specSchemaOk s _ _ h) (fun _=>amC) ?_
 (try refine am ?_);(try exact amT)
 refine⟨fun hs=>?_,fun hs=>?_⟩
 ·have e:statsNew s=⟨[],[]⟩:=if_neg hs
  rw[e]
  repeat' with_reducible first|apply zA|intro _
  all_goals try exact amA
  refine FinK.cell1 ?_ ?_ ?_
  all_goals try refine amF ?_
  all_goals try exact amT
  exact⟨.nil _ _ _ _ _,.nil _ _ _ _ _⟩
 have e:statsNew s=⟨List.replicate s.classes.length 0,s.attrs.map (zr s.classes.length)⟩:=if_pos hs
 rw[e]
 have hb1:=hs.1
 have hb2:=hs.2.1
 repeat' with_reducible first|apply zA|intro _
 all_goals try exact amA
 refine LoopK.auto (Nat) (fun i=>[(4,.one (.av (.int .i64 i))),(3,.one (.ref 302 [] [0] 0 0))]) (fun i=>[(302,⟨.sl true none 2 1 (fun _ j=>gl .junk [aI true (List.replicate s.classes.length 0),aL true true ((s.attrs.take i).map (zr s.classes.length))] j),[]⟩)]) [1,2] (k0:=?k01) (keepH:=?kh1) 400 (fun i=>i≤s.attrs.length) (fun i=>s.attrs.length - i) (0) ?kea1 ?keb1 ?_ ?_ ?_
 case kea1=>exact amN
 case keb1=>exact amN
 ·exact Nat.zero_le _
 ·refine LeA [] ?_ ?_ ?_
  all_goals try refine amL ?_
  all_goals try exact amT
  refine ALe.of (.inl rfl) rfl (fun i' hi' j hj=>?_)
  have hj':j=0∨j=1:=by omega
  obtain rfl:i'=0:=by omega
  rcases hj' with rfl|rfl
  ·(try simp only[gl,true_and,and_true,and_self,false_and,and_false,if_true,if_false,reduceIte,Nat.le_refl,Nat.lt_irrefl,Nat.zero_le,Nat.reduceLT,Nat.reduceLeDiff,Nat.reduceSub,Nat.reduceEqDiff,Nat.sub_self,Nat.sub_zero,Nat.add_zero,Nat.zero_add,Nat.reduceAdd,OfNat.ofNat_ne_zero,OfNat.zero_ne_ofNat,zero_ne_one,one_ne_zero,Nat.zero_ne_one,Nat.one_ne_zero,Nat.not_lt_zero,Nat.succ_ne_zero]);refine zrow _ _ ?_ (.inl rfl);intro i2 hi2;first|rfl|exact fI_rep _ hi2
  ·simp[gl];exact .nil _ _ _ _ _
 ·intro i hi
  (try refine am ?_);(try exact amT)
  refine⟨fun hlt=>?_,fun hlt=>?_⟩
  ·have hrl:=zr_len s hi
   have hbd:=schema_bd hs hlt
   repeat' with_reducible first|apply zA|intro _
   all_goals try exact amA
   refine CallE.one (specBins (s.attrs.getD i default) _ false (h.1.2 _ (getD_mem hlt))) (fun _=>amC) rfl ?_
   (try refine am ?_);(try exact amT)
   have ht:((bins (s.attrs.getD i default):Int)*(s.classes.length:Int)).toNat=bins (s.attrs.getD i default)*s.classes.length:=by rw[←Int.natCast_mul,Int.toNat_natCast]
   (try refine am ?_);(try simp only[if_pos hbd.2,ht]);(try refine am ?_);(try exact amT)
   repeat' with_reducible first|apply zA|intro _
   all_goals try exact amA
   refine⟨i+1,?_,by omega,by omega⟩
   refine LeA [] ?_ ?_ ?_
   all_goals try refine amL ?_
   all_goals try exact amT
   refine ALe.of (.inl rfl) rfl (fun i' hi' j hj=>?_)
   have hj':j=0∨j=1:=by omega
   obtain rfl:i'=0:=by omega
   rcases hj' with rfl|rfl
   ·simp[gl];exact .refl _
   ·simp only[gl,if_true,Nat.le_refl,and_self,Nat.one_lt_two,Nat.sub_self]
    refine appLe2 (x:=zr s.classes.length (s.attrs.getD i default)) rfl (zr_take s hlt) (fun j hj=>?_) (.inl rfl)
    obtain rfl:j=0:=by omega
    show ALe _ (aI true (List.replicate _ 0))
    simp only[gl]
    refine zrow _ _ ?_ (.inl rfl)
    intro i2 hi2
    first|rfl|exact fI_rep _ hi2
  ·have ei:i=s.attrs.length:=by omega
   subst ei
   refine FinK.cell1 ?_ ?_ ?_
   all_goals try refine amF ?_
   all_goals try exact amT
   rw[List.take_length]
   exact .refl _
theorem implStatsNew (s:DSchema) (u v:Bool) (h:okSchema (2^47) s):ACalls Tryz.prog 76 [.agg (cSchema u v s)] (fun r=>r=.val (.agg (cStats true true (statsNew s)))):=by
 have nt:Tryz.f76.ntmps=36:=rfl
 have rs:Tryz.f76.results=#[.cell 2 46]:=rfl
 refine ACalls.of_run (m:=400) mixed Tryz.func76 rfl rfl (Nat.le_of_ble_eq_true rfl) ?_
 simp only[nt,rs]
 clear nt rs
 (try refine am ?_);(try exact amT)
 repeat' with_reducible first|apply zA|intro _
 all_goals try exact amA
 refine CallK.one (implSchemaOk s _ _ h) (fun _=>amC) ?_
 (try refine am ?_);(try exact amT)
 refine⟨fun hs=>?_,fun hs=>?_⟩
 ·have e:statsNew s=⟨[],[]⟩:=if_neg hs
  rw[e]
  repeat' with_reducible first|apply zA|intro _
  all_goals try exact amA
  refine FinK.cell1 ?_ ?_ ?_
  all_goals try refine amF ?_
  all_goals try exact amT
  exact⟨.nil _ _ _ _ _,.nil _ _ _ _ _⟩
 have e:statsNew s=⟨List.replicate s.classes.length 0,s.attrs.map (zr s.classes.length)⟩:=if_pos hs
 rw[e]
 have hb1:=hs.1
 have hb2:=hs.2.1
 repeat' with_reducible first|apply zA|intro _
 all_goals try exact amA
 refine CallK.one (zerosI s.classes.length (by omega)) (fun _=>amC) ?_
 (try refine am ?_);(try exact amT)
 repeat' with_reducible first|apply zA|intro _
 all_goals try exact amA
 refine LoopK.auto (Nat) (fun i=>[(18,.one (.av (.int .i64 i))),(3,.one (.ref 302 [] [0] 0 0))]) (fun i=>[(302,⟨.sl true none 2 1 (fun _ j=>gl .junk [aI true (List.replicate s.classes.length 0),aL true true ((s.attrs.take i).map (zr s.classes.length))] j),[]⟩)]) [1,2,16,17] (k0:=?k02) (keepH:=?kh2) 400 (fun i=>i≤s.attrs.length) (fun i=>s.attrs.length - i) (0) ?kea2 ?keb2 ?_ ?_ ?_
 case kea2=>exact amN
 case keb2=>exact amN
 ·exact Nat.zero_le _
 ·refine LeA [] ?_ ?_ ?_
  all_goals try refine amL ?_
  all_goals try exact amT
  refine ALe.of (.inl rfl) rfl (fun i' hi' j hj=>?_)
  have hj':j=0∨j=1:=by omega
  obtain rfl:i'=0:=by omega
  rcases hj' with rfl|rfl
  ·(try simp only[gl,true_and,and_true,and_self,false_and,and_false,if_true,if_false,reduceIte,Nat.le_refl,Nat.lt_irrefl,Nat.zero_le,Nat.reduceLT,Nat.reduceLeDiff,Nat.reduceSub,Nat.reduceEqDiff,Nat.sub_self,Nat.sub_zero,Nat.add_zero,Nat.zero_add,Nat.reduceAdd,OfNat.ofNat_ne_zero,OfNat.zero_ne_ofNat,zero_ne_one,one_ne_zero,Nat.zero_ne_one,Nat.one_ne_zero,Nat.not_lt_zero,Nat.succ_ne_zero]);refine zrow _ _ ?_ (.inl rfl);intro i2 hi2;first|rfl|exact fI_rep _ hi2
  ·simp[gl];exact .nil _ _ _ _ _
 ·intro i hi
  (try refine am ?_);(try exact amT)
  refine⟨fun hlt=>?_,fun hlt=>?_⟩
  ·have hrl:=zr_len s hi
   have hbd:=schema_bd hs hlt
   repeat' with_reducible first|apply zA|intro _
   all_goals try exact amA
   refine CallE.one (implBins (s.attrs.getD i default) _ false (h.1.2 _ (getD_mem hlt))) (fun _=>amC) rfl ?_
   (try refine am ?_);(try exact amT)
   have ht:((bins (s.attrs.getD i default):Int)*(s.classes.length:Int)).toNat=bins (s.attrs.getD i default)*s.classes.length:=by rw[←Int.natCast_mul,Int.toNat_natCast]
   (try refine am ?_);(try simp only[ht]);(try refine am ?_);(try exact amT)
   repeat' with_reducible first|apply zA|intro _
   all_goals try exact amA
   refine CallE.one (zerosI (bins (s.attrs.getD i default)*s.classes.length) (by omega)) (fun _=>amC) rfl ?_
   (try refine am ?_);(try exact amT)
   repeat' with_reducible first|apply zA|intro _
   all_goals try exact amA
   refine⟨i+1,?_,by omega,by omega⟩
   refine LeA [] ?_ ?_ ?_
   all_goals try refine amL ?_
   all_goals try exact amT
   refine ALe.of (.inl rfl) rfl (fun i' hi' j hj=>?_)
   have hj':j=0∨j=1:=by omega
   obtain rfl:i'=0:=by omega
   rcases hj' with rfl|rfl
   ·simp[gl];exact .refl _
   ·simp only[gl,if_true,Nat.le_refl,and_self,Nat.one_lt_two,Nat.sub_self]
    refine appLe2 (x:=zr s.classes.length (s.attrs.getD i default)) rfl (zr_take s hlt) (fun j hj=>?_) (.inl rfl)
    obtain rfl:j=0:=by omega
    show ALe _ (aI true (List.replicate _ 0))
    simp only[gl]
    refine zrow _ _ ?_ (.inl rfl)
    intro i2 hi2
    first|rfl|exact fI_rep _ hi2
  ·have ei:i=s.attrs.length:=by omega
   subst ei
   refine FinK.cell1 ?_ ?_ ?_
   all_goals try refine amF ?_
   all_goals try exact amT
   rw[List.take_length]
   exact .refl _
def treeNew (s:DSchema) (l:List Int):DTree:=if attrsOk s l then ⟨[⟨true,⟨0,0⟩,[],0,statsNew s,0,l,0,-1,0⟩],0⟩ else ⟨[],0⟩
theorem specTreeNew (s:DSchema) (l:List Int) (u v u':Bool) (nl:Option Bool) (h:okSchema (2^47) s) (hl:l.length≤2^40):ACalls Tryz.prog 172 [.agg (cSchema u v s),.one (.sl u' nl 1 l.length (fI l))] (fun r=>r=.val (.agg (cTree true true (treeNew s l)))):=by
 have nt:Tryz.f172.ntmps=18:=rfl
 have rs:Tryz.f172.results=#[.cell 4 30]:=rfl
 refine ACalls.of_run (m:=400) mixed Tryz.func172 rfl rfl (Nat.le_of_ble_eq_true rfl) ?_
 simp only[nt,rs]
 clear nt rs
 (try refine am ?_);(try exact amT)
 repeat' with_reducible first|apply zA|intro _
 all_goals try exact amA
 refine CallK.one (specAttrsOk s l _ _ _ _ h (by omega)) (fun _=>amC) ?_
 (try refine am ?_);(try exact amT)
 refine⟨fun hs=>?_,fun hs=>?_⟩
 ·have e:treeNew s l=⟨[],0⟩:=if_neg hs
  rw[e]
  repeat' with_reducible first|apply zA|intro _
  all_goals try exact amA
  refine FinK.cell1 ?_ ?_ ?_
  all_goals try refine amF ?_
  all_goals try exact amT
  exact .nil _ _ _ _ _
 have e:treeNew s l=⟨[⟨true,⟨0,0⟩,[],0,statsNew s,0,l,0,-1,0⟩],0⟩:=if_pos hs
 rw[e]
 repeat' with_reducible first|apply zA|intro _
 all_goals try exact amA
 refine CallK.one (specStatsNew s _ _ h) (fun _=>amC) ?_
 (try refine am ?_);(try exact amT)
 repeat' with_reducible first|apply zA|intro _
 all_goals try exact amA
 refine FinK.cell1 ?_ ?_ ?_
 all_goals try refine amF ?_
 all_goals try exact amT
 refine ALe.of (.inl rfl) rfl (fun i hi j hj=>?_)
 obtain rfl:i=0:=by omega
 have hj':j=0∨j=1∨j=2∨j=3∨j=4∨j=5∨j=6∨j=7∨j=8∨j=9∨j=10∨j=11:=by omega
 rcases hj' with rfl|rfl|rfl|rfl|rfl|rfl|rfl|rfl|rfl|rfl|rfl|rfl<;>first|exact ALe.refl _|exact .nil _ _ _ _ _|exact ALe.of (.inl rfl) rfl (fun i hi j hj=>by
  obtain rfl:j=0:=by omega
  exact ALe.refl _)
theorem okI_rep {B m:Nat} (h:m≤B):okI B (List.replicate m 0):=by
 refine⟨by simp;exact h,fun x hx=>?_⟩
 have:=List.eq_of_mem_replicate hx
 subst this
 rw[inKi];omega
theorem statsNew_ok (s:DSchema):okStats (2^47) (statsNew s)∧(statsNew s).totals.length≤3∧tot (statsNew s).cells≤60:=by
 by_cases h:schemaOk s
 ·have e:statsNew s=⟨List.replicate s.classes.length 0,s.attrs.map (zr s.classes.length)⟩:=if_pos h
  rw[e]
  have hc:=h.2.1
  have ha:=h.1
  have hb:∀a∈s.attrs,bins a*s.classes.length≤12:=fun a hm=>by
   obtain⟨i,hi,rfl⟩:=List.getElem_of_mem hm
   have:=(schema_bd h hi).1
   simpa [List.getD,hi] using this
  refine⟨⟨okI_rep (by omega),by simp;omega,fun x hx=>?_⟩,by simp;omega,?_⟩
  ·obtain⟨a,hm,rfl⟩:=List.mem_map.1 hx
   exact okI_rep (by have:=hb a hm;omega)
  ·have:∀(l:List DAttr),(∀a∈l,bins a*s.classes.length≤12)→tot (l.map (zr s.classes.length))≤12*l.length:=by
    intro l
    induction l with
    |nil=>intro _;simp[tot,sm]
    |cons a l ih=>
     intro hl
     have h1:=ih (fun x hx=>hl x (List.mem_cons_of_mem _ hx))
     have h2:=hl a (by simp)
     unfold tot at h1 ⊢
     simp only[List.map_cons,sm,List.length_cons]
     have:(zr s.classes.length a).length=bins a*s.classes.length:=by simp[zr]
     rw[this];omega
   have:=this s.attrs hb
   dsimp only
   omega
 ·have e:statsNew s=⟨[],[]⟩:=if_neg h
  rw[e]
  exact⟨⟨⟨by decide,fun x hx=>by simp at hx⟩,by decide,fun x hx=>by simp at hx⟩,by decide,by decide⟩
end Go.AM
