/- Lemmas for the proof of this claim. -/
import Derived.Test.YtpbahibieegbgaaGreatFdr
import Derived.Test.YtpbahibieegbgaaGreatMem
import Derived.Test.YtpbahibieegbgaaGreatMer
import Derived.Test.YtpbahibieegbgaaGreatFst
import Derived.Test.YtpbahibieegbgaaGreatDll
namespace Go.AM
set_option maxHeartbeats 64000000
open Go Go.Proofs
set_option maxRecDepth 100000
def smF (f:DForest):Prop:=f.members.length≤4∧∀m∈f.members,smM m
theorem memRowT {l:List DMember} {i n:Nat} {nl nl':Option Bool} {g:Nat→Nat→AV} (hnl:nl'=none∨nl'=nl) (hn:n=i+1) (hg:∀j,j<7→ALe (g 0 j) (fMember true l i j)):ALe (.sl true nl 7 n (apF i (fMember true l) g)) (.sl true nl' 7 (i+1) (fMember true l)):=by
 refine ALe.of hnl hn (fun a ha j hj=>?_)
 unfold apF
 by_cases e:a<i
 ·rw[if_pos e];exact .refl _
 ·rw[if_neg e]
  obtain rfl:a=i:=by omega
  rw[Nat.sub_self]
  exact hg j hj
theorem smF_sm {f:DForest} (h:smF f) {i:Nat} (hi:i<f.members.length):smM (f.members.getD i default):=h.2 _ (getD_mem hi)
theorem smF_47 {f:DForest} (h:smF f):okForest (2^47) f:=⟨Nat.le_trans h.1 (by decide),fun m hm=>smM_47 (h.2 m hm)⟩
theorem smF_app {l:List DMember} {x:DMember} (h:∀m∈l,smM m) (hx:smM x):∀m∈l++[x],smM m:=fun m hm=>by
 rcases List.mem_append.1 hm with hm|hm
 ·exact h m hm
 ·obtain rfl:m=x:=(by simpa using hm)
  exact hx
def bdF (f:DForest):Prop:=f.members.length≤5∧∀m∈f.members,bdM m
theorem bdF_47 {f:DForest} (h:bdF f):okForest (2^47) f:=⟨Nat.le_trans h.1 (by decide),fun m hm=>bdM_47 (h.2 m hm)⟩
theorem bdF_z {f:DForest} (h:bdF f):zForest f≤2^40:=by
 have h1:=h.1
 have h2:=sm_bd (f:=zMember) (B:=2^37+2112) (l:=f.members) (fun x hx=>bdM_z (h.2 x hx))
 have h3:(2^37+2112)*f.members.length≤(2^37+2112)*5:=Nat.mul_le_mul_left _ h1
 have e:zForest f=f.members.length+sm zMember f.members:=rfl
 omega
theorem smF_bd {f:DForest} (h:smF f):bdF f:=⟨Nat.le_trans h.1 (by decide),fun m hm=>smM_bd (h.2 m hm)⟩
theorem l24CopyI (f:DForest) (u v:Bool) (h:smF f):ACalls Tryz.prog 183 [.agg (cForest u v f)] (fun r=>r=.val (.agg (cForest true true f))):=by
 have hl:=h.1
 have nt:Tryz.f183.ntmps=25:=rfl
 have rs:Tryz.f183.results=#[.cell 2 67]:=rfl
 refine ACalls.of_run (m:=400) mixed Tryz.func183 rfl rfl (Nat.le_of_ble_eq_true rfl) ?_
 simp only[nt,rs]
 clear nt rs
 (try refine am ?_);(try exact amT)
 repeat' with_reducible first|apply zA|intro _
 all_goals try exact amA
 refine LoopK.auto (Nat) (fun i=>[(4,.one (.av (.int .i64 i))),(3,.one (.ref 302 [] [0] 0 0))]) (fun i=>[(302,⟨.sl true none 1 1 (fun _ _=>.sl true none 7 i (fMember true f.members)),[]⟩)]) [1,2] (k0:=?k01) (keepH:=?kh1) 400 (fun i=>i≤f.members.length) (fun i=>f.members.length - i) (0) ?kea1 ?keb1 ?_ ?_ ?_
 case kea1=>exact amN
 case keb1=>exact amN
 ·exact Nat.zero_le _
 ·refine LeA [] ?_ ?_ ?_
  all_goals try refine amL ?_
  all_goals try exact amT
  exact boxLe (.nil ..)
 ·intro i hi
  (try refine am ?_);(try exact amT)
  repeat' with_reducible first|apply zA|intro _
  all_goals try exact amA
  ·have hm:=smF_sm h (by assumption:i<f.members.length)
   refine CallE.one (l23CopyI (f.members.getD i default) _ _ (smM_40 hm) ⟨smT_n hm.1,smT_n hm.2.1⟩) (fun _=>amC) rfl ?_
   (try refine am ?_);(try exact amT)
   repeat' with_reducible first|apply zA|intro _
   all_goals try exact amA
   refine⟨i+1,?_,by omega,by omega⟩
   refine LeA [] ?_ ?_ ?_
   all_goals try refine amL ?_
   all_goals try exact amT
   refine boxLe (memRowT (.inl rfl) rfl (fun j hj=>?_))
   rw[fMember_at]
   exact .refl _
  ·have e:i=f.members.length:=by omega
   subst e
   refine FinK.cell1 ?_ ?_ ?_
   all_goals try refine amF ?_
   all_goals try exact amT
theorem spec_ForestNewW (c:DConf) (tp:DTape) (u v u3:Bool) (hc:okConf (2^20) c) (htp:okTape 1000 tp):ACalls Tryz.prog 155 [.agg (cConf u v c),.agg (cTape u3 false tp)] (fun r=>∃x:DForest×DTape×Bool,smF x.1∧r=.tup [.agg (cForest true true x.1),.agg (cTape true false x.2.1),.one (.bool x.2.2)]):=by
 have e0:smF ⟨[]⟩:=⟨Nat.zero_le _,fun m hm=>nomatch hm⟩
 have nt:Tryz.f155.ntmps=48:=rfl
 have rs:Tryz.f155.results=#[.cell 4 67,.cell 5 162,.tmp 6]:=rfl
 refine ACalls.of_runC (m:=400) mixed Tryz.func155 rfl rfl (Nat.le_of_ble_eq_true rfl) ?_
 simp only[nt,rs]
 clear nt rs
 (try refine am ?_);(try exact amT)
 repeat' with_reducible first|apply zA|intro _
 all_goals try exact amA
 refine CallK.one (spec_l15Copy tp _ (tp40 htp)) (fun _=>amC) ?_
 (try refine am ?_);(try exact amT)
 repeat' with_reducible first|apply zA|intro _
 all_goals try exact amA
 refine CallK.one (specConfOk c _ _ (conf47 hc)) (fun _=>amC) ?_
 (try refine am ?_);(try exact amT)
 repeat' with_reducible first|apply zA|intro _
 all_goals try exact amA
 ·refine FinK.ex ((⟨[]⟩,tp,false)) ?hq1 ?_
  case hq1=>exact e0
  refine FinK.tup ?_ ?_
  all_goals try refine amF ?_
  all_goals try exact amT
  exact .nil ..
 have hk:confOk c:=by assumption
 have hmb:=hk.2.2.1
 refine LoopK.auto ((List DMember×DTape×Nat)) (fun y=>[(9,.one (.av (.int .i64 y.2.2))),(7,.one (.ref 302 [] [0] 0 0)),(8,.one (.ref 303 [] [0] 0 0))]) (fun y=>[(302,⟨.sl true none 1 1 (fun _ _=>.sl true none 7 y.1.length (fMember true y.1)),[]⟩),(303,⟨.sl true none 2 1 (fun _ j=>gl .junk (cTape true false y.2.1) j),[]⟩)]) [2,3,4,5] (k0:=?k02) (keepH:=?kh2) 400 (fun y=>(y.1.length=y.2.2∧(y.2.2:Int)≤c.members)∧okTape 1000 y.2.1∧∀m∈y.1,smM m) (fun y=>c.members.toNat - y.2.2) (([],tp,0)) ?kea2 ?keb2 ?_ ?_ ?_
 case kea2=>exact amN
 case keb2=>exact amN
 ·exact⟨⟨rfl,by dsimp only;omega⟩,htp,fun m hm=>nomatch hm⟩
 ·refine LeA [] ?_ ?_ ?_
  all_goals try refine amL ?_
  all_goals try exact amT
  exact⟨boxSt,boxLe (.nil ..)⟩
 ·rintro⟨l,tq,i⟩ ⟨⟨hl,hi⟩,htq,hb⟩
  dsimp only at hl hi htq hb ⊢
  (try refine am ?_);(try exact amT)
  repeat' with_reducible first|apply zA|intro _
  all_goals try exact amA
  ·refine CallK.ex (spec_MemberNewW c tq _ _ _ hc htq) (fun _ _ _=>amC) ?_
   rintro⟨m,nt,b⟩ ⟨hm,hnt⟩
   (try refine am ?_);(try exact amT)
   dsimp only at hm hnt ⊢
   repeat' with_reducible first|apply zA|intro _
   all_goals try exact amA
   ·refine CallK.one (spec_l15Copy tp _ (tp40 htp)) (fun _=>amC) ?_
    (try refine am ?_);(try exact amT)
    repeat' with_reducible first|apply zA|intro _
    all_goals try exact amA
    refine FinK.ex ((⟨[]⟩,tp,false)) ?hq2 ?_
    case hq2=>exact e0
    refine FinK.tup ?_ ?_
    all_goals try refine amF ?_
    all_goals try exact amT
    exact .nil ..
   ·refine⟨(l++[m],nt,i+1),?_,⟨⟨by simp[hl],by dsimp only;omega⟩,hnt,smF_app hb hm⟩,by dsimp only;omega⟩
    refine LeA [] ?_ ?_ ?_
    all_goals try refine amL ?_
    all_goals try exact amT
    exact⟨boxSt,boxLe (memApp rfl)⟩
  ·refine FinK.ex ((⟨l⟩,tq,true)) ?hq3 ?_
   case hq3=>exact⟨by dsimp only;omega,hb⟩
   refine FinK.tup ?_ ?_
   all_goals try refine amF ?_
   all_goals try exact amT
end Go.AM
namespace Go.AM
set_option maxHeartbeats 64000000
open Go Go.Proofs
set_option maxRecDepth 100000
theorem spec_MemberStepE (c:DConf) (m:DMember) (e:DEx) (tp:DTape) (u v u' v' u2 u3:Bool) (hc:okConf (2^20) c) (hm:smM m) (he:okEx (2^20) e) (htp:okTape 1000 tp):ACalls Tryz.prog 184 [.agg (cConf u v c),.agg (cMember u' v' m),.agg (cEx u2 false e),.agg (cTape u3 false tp)] (fun q=>∃x:DMember×DTape×(Bool×Bool)×Bool,(smM x.1∧okTape 1000 x.2.1)∧q=.tup [.agg (cMember true true x.1),.agg (cTape true false x.2.1),.agg [.rng .i64 IntKind.i64.min IntKind.i64.max,.rng .i64 IntKind.i64.min IntKind.i64.max,.rng .i64 IntKind.i64.min IntKind.i64.max,.rng .i64 IntKind.i64.min IntKind.i64.max,.rng .i64 IntKind.i64.min IntKind.i64.max,.rng .i64 IntKind.i64.min IntKind.i64.max,.bool x.2.2.1.1,.bool x.2.2.1.2],.one (.bool x.2.2.2)]):=spec_MemberStep c m e tp u v u' v' u2 u3 hc hm he htp
theorem spec_l23Right (nb:Nat) (hn:nb≤2^40) (c:DConf) (n:Int) (u v:Bool) (hc:okConf (2^20) c) (hcl:1≤c.schema.classes.length) (hnn:0≤n∧n≤100):ACur Tryz.prog 159 nb [.agg (cConf u v c),.one (.int .i64 n)] (fun q=>∃x:DMember,smM x∧q=.val (.agg (cMember true true x))):=by
 have tpb:∀b:List UInt8,b.length≤1000→okTape 1000 ⟨b,0⟩:=fun b h=>⟨h,inK6 (by dsimp only;omega)⟩
 have nt:Tryz.f159.ntmps=49:=rfl
 have rs:Tryz.f159.results=#[.cell 6 79]:=rfl
 refine ACur.of_run (m:=400) mixed Tryz.func159 rfl rfl (Nat.le_of_ble_eq_true rfl) (fun xc=>?_)
 simp only[nt,rs]
 clear nt rs
 (try refine am ?_);(try exact amT)
 repeat' with_reducible first|apply zA|intro _
 all_goals try exact amA
 refine CallCE.cur (spec_l15Bytes nb hn 4 (by decide)) rfl ([]) ?hcq rfl rfl rfl (fun _ _ _=>amC) (fun _=>rfl) (fun _=>rfl) ?_
 case hcq=>exact by simp
 rintro bs hbs
 (try refine am ?_);(try exact amT)
 repeat' with_reducible first|apply zA|intro _
 all_goals try exact amA
 refine CallCE.ex (spec_MemberNewW c ⟨bs,0⟩ _ _ _ hc (tpb bs hbs)) rfl ((⟨⟨[],0⟩,false,⟨[],0⟩,⟨[],[]⟩⟩,⟨[],0⟩,false)) ?hcq (fun _ _ _=>amC) (fun _=>rfl) (fun _=>rfl) ?_
 case hcq=>exact⟨smM0 smT_0,tpb [] (by simp)⟩
 rintro⟨m0,nt,b⟩ ⟨hm0,hnt⟩
 (try refine am ?_);(try exact amT)
 dsimp only at hm0 hnt ⊢
 repeat' with_reducible first|apply zA|intro _
 all_goals try exact amA
 refine CallK.cur (spec_l1Below nb hn _) rfl rfl rfl (fun _ _ _=>amC) ?_
 rintro z ⟨hz0,hz1⟩
 (try refine am ?_);(try exact amT)
 repeat' with_reducible first|apply zA|intro _
 all_goals try exact amA
 refine LoopK.auto ((DMember×Nat)) (fun y=>[(11,.one (.av (.int .i64 y.2))),(7,.one (.ref 302 [] [0] 0 0))]) (fun y=>[(302,⟨.sl true none 7 1 (fun _ j=>gl .junk (cMember true true y.1) j),[]⟩)]) [0,2,4,6,10] (k0:=?k01) (keepH:=?kh1) 700 (fun y=>smM y.1∧(y.2:Int)≤n) (fun y=>n.toNat - y.2) ((m0,0)) ?kea1 ?keb1 ?_ ?_ ?_
 case kea1=>exact amN
 case keb1=>exact amN
 ·exact⟨hm0,by dsimp only;omega⟩
 ·refine LeA [] ?_ ?_ ?_
  all_goals try refine amL ?_
  all_goals try exact amT
  exact boxSt
 ·rintro⟨m,i⟩ ⟨hm,hi⟩
  dsimp only at hm hi ⊢
  (try refine am ?_);(try exact amT)
  repeat' with_reducible first|apply zA|intro _
  all_goals try exact amA
  ·refine CallK.cur (spec_l23Stream nb hn c _ _ _ _ hc.1 hcl) rfl rfl rfl (fun _ _ _=>amC) ?_
   rintro e he
   (try refine am ?_);(try exact amT)
   repeat' with_reducible first|apply zA|intro _
   all_goals try exact amA
   refine CallCE.cur (spec_l15Bytes nb hn 24 (by decide)) rfl ([]) ?hcq rfl rfl rfl (fun _ _ _=>amC) (fun _=>rfl) (fun _=>rfl) ?_
   case hcq=>exact by simp
   rintro bs hbs
   (try refine am ?_);(try exact amT)
   repeat' with_reducible first|apply zA|intro _
   all_goals try exact amA
   refine CallCE.ex (spec_MemberStepE c m e ⟨bs,0⟩ _ _ _ _ _ _ hc hm he (tpb bs hbs)) rfl ((m,⟨[],0⟩,(false,false),false)) ?hcq (fun _ _ _=>amC) (fun _=>rfl) (fun _=>rfl) ?_
   case hcq=>exact⟨hm,tpb [] (by simp)⟩
   rintro⟨m2,nt2,sb,b2⟩ ⟨hm2,hnt2⟩
   (try refine am ?_);(try exact amT)
   dsimp only at hm2 hnt2 ⊢
   repeat' with_reducible first|apply zA|intro _
   all_goals try exact amA
   refine⟨(m2,i+1),?_,⟨hm2,by dsimp only;omega⟩,by dsimp only;omega⟩
   refine LeA [] ?_ ?_ ?_
   all_goals try refine amL ?_
   all_goals try exact amT
   exact boxSt
  ·refine FinK.cur (.refl _) ⟨trivial,rfl⟩ (by kernel_rfl) ?_
   refine FinK.ex (m) ?hq1 ?_
   case hq1=>exact hm
   refine FinK.cell1 ?_ ?_ ?_
   all_goals try refine amF ?_
   all_goals try exact amT
theorem spec_l23Draw (nb:Nat) (hn:nb≤2^40) (c:DConf) (u v:Bool) (hc:okConf (2^20) c) (hcl:1≤c.schema.classes.length) (hal:c.schema.attrs.length≤5):ACur Tryz.prog 130 nb [.agg (cConf u v c)] (fun q=>∃x:DMember,bdM x∧q=.val (.agg (cMember true true x))):=by
 have nt:Tryz.f130.ntmps=40:=rfl
 have rs:Tryz.f130.results=#[.cell 4 79]:=rfl
 refine ACur.of_run (m:=400) mixed Tryz.func130 rfl rfl (Nat.le_of_ble_eq_true rfl) (fun xc=>?_)
 simp only[nt,rs]
 clear nt rs
 (try refine am ?_);(try exact amT)
 repeat' with_reducible first|apply zA|intro _
 all_goals try exact amA
 refine CallCE.cur (spec_l1PickInt nb hn true (some false) [0,4,20,40,40] (by simp) (by simp)) rfl (0) ?hcq rfl rfl rfl (fun _ _ _=>amC) (fun _=>rfl) (fun _=>rfl) ?_
 case hcq=>exact by simp
 rintro n hnn
 (try refine am ?_);(try exact amT)
 have hn2:0≤n∧n≤100:=by simp at hnn;omega
 repeat' with_reducible first|apply zA|intro _
 all_goals try exact amA
 refine CallCE.cur (spec_l23Right nb hn c n _ _ hc hcl hn2) rfl (⟨⟨[],0⟩,false,⟨[],0⟩,⟨[],[]⟩⟩) ?hcq rfl rfl rfl (fun _ _ _=>amC) (fun _=>rfl) (fun _=>rfl) ?_
 case hcq=>exact smM0 smT_0
 rintro m hm
 (try refine am ?_);(try exact amT)
 have hb:=smM_bd hm
 repeat' with_reducible first|apply zA|intro _
 all_goals try exact amA
 refine CallK.cur (spec_l1Below nb hn 14) rfl rfl rfl (fun _ _ _=>amC) ?_
 rintro z ⟨hz0,hz1⟩
 (try refine am ?_);(try exact amT)
 repeat' with_reducible first|apply zA|intro _
 all_goals try exact amA
 ·refine FinK.cur (.refl _) ⟨trivial,rfl⟩ (by kernel_rfl) ?_
  refine FinK.ex (⟨m.tree, !m.hasYoung,m.young,m.det⟩) ?hq2 ?_
  case hq2=>exact hb
  refine FinK.cell1 ?_ ?_ ?_
  all_goals try refine amF ?_
  all_goals try exact amT
 ·refine CallK.cur (spec_l19Draw nb hn c.schema _ _ hc.1 hal) rfl rfl rfl (fun _ _ _=>amC) ?_
  rintro t ht
  (try refine am ?_);(try exact amT)
  repeat' with_reducible first|apply zA|intro _
  all_goals try exact amA
  refine FinK.cur (.refl _) ⟨trivial,rfl⟩ (by kernel_rfl) ?_
  refine FinK.ex (⟨t,m.hasYoung,m.young,m.det⟩) ?hq3 ?_
  case hq3=>exact⟨ht,hb.2⟩
  refine FinK.cell1 ?_ ?_ ?_
  all_goals try refine amF ?_
  all_goals try exact amT
 ·refine CallK.cur (spec_l19Draw nb hn c.schema _ _ hc.1 hal) rfl rfl rfl (fun _ _ _=>amC) ?_
  rintro t ht
  (try refine am ?_);(try exact amT)
  repeat' with_reducible first|apply zA|intro _
  all_goals try exact amA
  refine FinK.cur (.refl _) ⟨trivial,rfl⟩ (by kernel_rfl) ?_
  refine FinK.ex (⟨m.tree,m.hasYoung,t,m.det⟩) ?hq4 ?_
  case hq4=>exact⟨hb.1,ht,hb.2.2⟩
  refine FinK.cell1 ?_ ?_ ?_
  all_goals try refine amF ?_
  all_goals try exact amT
 ·refine CallK.cur (spec_l18Draw nb hn) rfl rfl rfl (fun _ _ _=>amC) ?_
  rintro d hd
  (try refine am ?_);(try exact amT)
  repeat' with_reducible first|apply zA|intro _
  all_goals try exact amA
  refine FinK.cur (.refl _) ⟨trivial,rfl⟩ (by kernel_rfl) ?_
  refine FinK.ex (⟨m.tree,m.hasYoung,m.young,d⟩) ?hq5 ?_
  case hq5=>exact⟨hb.1,hb.2.1,hd⟩
  refine FinK.cell1 ?_ ?_ ?_
  all_goals try refine amF ?_
  all_goals try exact amT
 ·refine FinK.cur (.refl _) ⟨trivial,rfl⟩ (by kernel_rfl) ?_
  refine FinK.ex (m) ?hq6 ?_
  case hq6=>exact hb
  refine FinK.cell1 ?_ ?_ ?_
  all_goals try refine amF ?_
  all_goals try exact amT
end Go.AM
namespace Go.AM
set_option maxHeartbeats 64000000
open Go Go.Proofs
set_option maxRecDepth 100000
theorem rngFree:(AV.rng IntKind.i64 IntKind.i64.min IntKind.i64.max).free:=trivial
theorem spec_ForestStepW (c:DConf) (f:DForest) (e:DEx) (tp:DTape) (u v u' v' u2 u3:Bool) (hc:okConf (2^20) c) (hf:smF f) (he:okEx (2^20) e) (htp:okTape 1000 tp):ACalls Tryz.prog 158 [.agg (cConf u v c),.agg (cForest u' v' f),.agg (cEx u2 false e),.agg (cTape u3 false tp)] (fun r=>∃x:DForest×DTape×Int,smF x.1∧r=.tup [.agg (cForest true true x.1),.agg (cTape true false x.2.1),.one .junk,.one (.int .i64 x.2.2)]):=by
 have hc47:=conf47 hc
 have he47:okEx (2^47) e:=⟨okI_up he.1 (by decide),he.2⟩
 have htp40:=tp40 htp
 have hfl:=hf.1
 have nt:Tryz.f158.ntmps=92:=rfl
 have rs:Tryz.f158.results=#[.cell 8 67,.cell 9 162,.tmp 10,.tmp 11]:=rfl
 refine ACalls.of_runC (m:=400) mixed Tryz.func158 rfl rfl (Nat.le_of_ble_eq_true rfl) ?_
 simp only[nt,rs]
 clear nt rs
 (try refine am ?_);(try exact amT)
 repeat' with_reducible first|apply zA|intro _
 all_goals try exact amA
 refine CallK.one (specForestOk c f _ _ _ _ hc47 (smF_47 hf) (bdF_z (smF_bd hf))) (fun _=>amC) ?_
 (try refine am ?_);(try exact amT)
 repeat' with_reducible first|apply zA|intro _
 all_goals try exact amA
 refine CallG.one rfl (fun hg=>specExOk c.schema e _ _ _ hc47.1 he47) ?_
 (try refine am ?_);(try exact amT)
 repeat' with_reducible first|apply zA|intro _
 all_goals try exact amA
 refine CallG.one rfl (fun hg=>specTapeOk tp _ htp40) ?_
 (try refine am ?_);(try exact amT)
 repeat' with_reducible first|apply zA|intro _
 all_goals try exact amA
 ·refine CallCE.one (l24CopyI f _ _ hf) (fun _=>amC) rfl ?_
  (try refine am ?_);(try exact amT)
  refine CallCE.one (spec_l15Copy tp _ htp40) (fun _=>amC) rfl ?_
  (try refine am ?_);(try exact amT)
  repeat' with_reducible first|apply zA|intro _
  all_goals try exact amA
  refine FinK.ex ((f,tp,1)) ?hq1 ?_
  case hq1=>exact hf
  refine FinK.tup ?_ ?_
  all_goals try refine amF ?_
  all_goals try exact amT
  all_goals exact .junk _
 refine CallK.one (spec_l15Copy tp _ htp40) (fun _=>amC) ?_
 (try refine am ?_);(try exact amT)
 repeat' with_reducible first|apply zA|intro _
 all_goals try exact amA
 refine LoopK.auto ((List DMember×DTape×Nat)) (fun y=>[(15,.one (.av (.int .i64 y.2.2))),(12,.one (.ref 302 [] [0] 0 0)),(13,.one (.ref 303 [] [0] 0 0)),(14,.one (.own 304 [] [0]))]) (fun y=>[(302,⟨.sl true none 1 1 (fun _ _=>.sl true none 7 y.1.length (fMember true y.1)),[]⟩),(303,⟨.sl true none 2 1 (fun _ j=>gl .junk (cTape true false y.2.1) j),[]⟩),(304,⟨.sl true none 8 y.2.2 (fun _ _=>.junk),[]⟩)]) [4,5,6,7,8,9] (k0:=?k01) (keepH:=?kh1) 700 (fun y=>(y.1.length=y.2.2∧y.2.2≤f.members.length)∧okTape 1000 y.2.1∧∀m∈y.1,smM m) (fun y=>f.members.length - y.2.2) (([],tp,0)) ?kea1 ?keb1 ?_ ?_ ?_
 case kea1=>exact amN
 case keb1=>exact amN
 ·exact⟨⟨rfl,Nat.zero_le _⟩,htp,fun m hm=>nomatch hm⟩
 ·refine LeA [] ?_ ?_ ?_
  all_goals try refine amL ?_
  all_goals try exact amT
  exact⟨ALe.of (.inl rfl) rfl (fun i hi=>by omega),boxSt,boxLe (.nil ..)⟩
 ·rintro⟨l,tq,i⟩ ⟨⟨hl,hi⟩,htq,hb⟩
  dsimp only at hl hi htq hb ⊢
  (try refine am ?_);(try exact amT)
  repeat' with_reducible first|apply zA|intro _
  all_goals try exact amA
  ·refine CallCE.ex (spec_MemberStepE c (f.members.getD i default) e tq _ _ _ _ _ _ hc (smF_sm hf (by assumption)) he htq) rfl ((⟨⟨[],0⟩,false,⟨[],0⟩,⟨[],[]⟩⟩,tq,(false,false),false)) ?hcq (fun _ _ _=>amC) (fun _=>rfl) (fun _=>rfl) ?_
   case hcq=>exact⟨smM0 smT_0,htq⟩
   rintro⟨m,nt,sb,b⟩ ⟨hm,hnt⟩
   (try refine am ?_);(try exact amT)
   dsimp only at hm hnt ⊢
   repeat' with_reducible first|apply zA|intro _
   all_goals try exact amA
   all_goals try with_reducible exact rngFree
   ·refine CallCE.one (l24CopyI f _ _ hf) (fun _=>amC) rfl ?_
    (try refine am ?_);(try exact amT)
    refine CallCE.one (spec_l15Copy tp _ htp40) (fun _=>amC) rfl ?_
    (try refine am ?_);(try exact amT)
    repeat' with_reducible first|apply zA|intro _
    all_goals try exact amA
    refine FinK.ex ((f,tp,2)) ?hq2 ?_
    case hq2=>exact hf
    refine FinK.tup ?_ ?_
    all_goals try refine amF ?_
    all_goals try exact amT
    all_goals exact .junk _
   ·refine⟨(l++[m],nt,i+1),?_,⟨⟨by simp[hl],by dsimp only;omega⟩,hnt,smF_app hb hm⟩,by dsimp only;omega⟩
    refine LeA [] ?_ ?_ ?_
    all_goals try refine amL ?_
    all_goals try exact amT
    exact⟨ALe.of (.inl rfl) rfl (fun i hi j hj=>.junk _),boxSt,boxLe (memApp rfl)⟩
  ·refine FinK.ex ((⟨l⟩,tq,0)) ?hq3 ?_
   case hq3=>exact⟨by dsimp only;omega,hb⟩
   refine FinK.tup ?_ ?_
   all_goals try refine amF ?_
   all_goals try exact amT
   exact .junk _
theorem spec_l24Right (nb:Nat) (hn:nb≤2^40) (c:DConf) (n:Int) (u v:Bool) (hc:okConf (2^20) c) (hcl:1≤c.schema.classes.length) (hnn:0≤n∧n≤100):ACur Tryz.prog 129 nb [.agg (cConf u v c),.one (.int .i64 n)] (fun q=>∃x:DForest,smF x∧q=.val (.agg (cForest true true x))):=by
 have tpb:∀b:List UInt8,b.length≤1000→okTape 1000 ⟨b,0⟩:=fun b h=>⟨h,inK6 (by dsimp only;omega)⟩
 have nt:Tryz.f129.ntmps=49:=rfl
 have rs:Tryz.f129.results=#[.cell 6 67]:=rfl
 refine ACur.of_run (m:=400) mixed Tryz.func129 rfl rfl (Nat.le_of_ble_eq_true rfl) (fun xc=>?_)
 simp only[nt,rs]
 clear nt rs
 (try refine am ?_);(try exact amT)
 repeat' with_reducible first|apply zA|intro _
 all_goals try exact amA
 refine CallCE.cur (spec_l15Bytes nb hn 8 (by decide)) rfl ([]) ?hcq rfl rfl rfl (fun _ _ _=>amC) (fun _=>rfl) (fun _=>rfl) ?_
 case hcq=>exact by simp
 rintro bs hbs
 (try refine am ?_);(try exact amT)
 repeat' with_reducible first|apply zA|intro _
 all_goals try exact amA
 refine CallCE.ex (spec_ForestNewW c ⟨bs,0⟩ _ _ _ hc (tpb bs hbs)) rfl ((⟨[]⟩,⟨[],0⟩,false)) ?hcq (fun _ _ _=>amC) (fun _=>rfl) (fun _=>rfl) ?_
 case hcq=>exact⟨Nat.zero_le _,fun m hm=>nomatch hm⟩
 rintro⟨f0,nt,b⟩ hf0
 (try refine am ?_);(try exact amT)
 dsimp only at hf0 ⊢
 repeat' with_reducible first|apply zA|intro _
 all_goals try exact amA
 refine CallK.cur (spec_l1Below nb hn _) rfl rfl rfl (fun _ _ _=>amC) ?_
 rintro z ⟨hz0,hz1⟩
 (try refine am ?_);(try exact amT)
 repeat' with_reducible first|apply zA|intro _
 all_goals try exact amA
 refine LoopK.auto ((DForest×Nat)) (fun y=>[(11,.one (.av (.int .i64 y.2))),(7,.one (.ref 302 [] [0] 0 0))]) (fun y=>[(302,⟨.sl true none 1 1 (fun _ j=>gl .junk (cForest true true y.1) j),[]⟩)]) [0,2,4,6,10] (k0:=?k02) (keepH:=?kh2) 700 (fun y=>smF y.1∧(y.2:Int)≤n) (fun y=>n.toNat - y.2) ((f0,0)) ?kea2 ?keb2 ?_ ?_ ?_
 case kea2=>exact amN
 case keb2=>exact amN
 ·exact⟨hf0,by dsimp only;omega⟩
 ·refine LeA [] ?_ ?_ ?_
  all_goals try refine amL ?_
  all_goals try exact amT
  exact boxSt
 ·rintro⟨f,i⟩ ⟨hf,hi⟩
  dsimp only at hf hi ⊢
  (try refine am ?_);(try exact amT)
  repeat' with_reducible first|apply zA|intro _
  all_goals try exact amA
  ·refine CallK.cur (spec_l23Stream nb hn c _ _ _ _ hc.1 hcl) rfl rfl rfl (fun _ _ _=>amC) ?_
   rintro e he
   (try refine am ?_);(try exact amT)
   repeat' with_reducible first|apply zA|intro _
   all_goals try exact amA
   refine CallCE.cur (spec_l15Bytes nb hn 80 (by decide)) rfl ([]) ?hcq rfl rfl rfl (fun _ _ _=>amC) (fun _=>rfl) (fun _=>rfl) ?_
   case hcq=>exact by simp
   rintro bs hbs
   (try refine am ?_);(try exact amT)
   repeat' with_reducible first|apply zA|intro _
   all_goals try exact amA
   refine CallCE.ex (spec_ForestStepW c f e ⟨bs,0⟩ _ _ _ _ _ _ hc hf he (tpb bs hbs)) rfl ((f,⟨[],0⟩,0)) ?hcq (fun _ _ _=>amC) (fun _=>rfl) (fun _=>rfl) ?_
   case hcq=>exact hf
   rintro⟨f2,nt2,k⟩ hf2
   (try refine am ?_);(try exact amT)
   dsimp only at hf2 ⊢
   repeat' with_reducible first|apply zA|intro _
   all_goals try exact amA
   refine⟨(f2,i+1),?_,⟨hf2,by dsimp only;omega⟩,by dsimp only;omega⟩
   refine LeA [] ?_ ?_ ?_
   all_goals try refine amL ?_
   all_goals try exact amT
   exact boxSt
  ·refine FinK.cur (.refl _) ⟨trivial,rfl⟩ (by kernel_rfl) ?_
   refine FinK.ex (f) ?hq4 ?_
   case hq4=>exact hf
   refine FinK.cell1 ?_ ?_ ?_
   all_goals try refine amF ?_
   all_goals try exact amT
theorem memSet {l:List DMember} {k:Nat} {x:DMember} (hk:k<l.length):ALe (.sl true none 7 l.length fun i' j'=>if i'=k∧0≤j'∧j'<7 then gl .junk (cMember true true x) j' else fMember true l i' j') (.sl true none 7 (l.set k x).length (fMember true (l.set k x))):=by
 refine ALe.of (.inl rfl) (by simp) (fun i hi j hj=>?_)
 simp only[fMember_at]
 by_cases e:i=k
 ·subst e
  have e1:(l.set i x).getD i default=x:=by rw[List.getD_eq_getElem?_getD,List.getElem?_set];simp[hk]
  rw[if_pos ⟨rfl,Nat.zero_le _,hj⟩,e1]
  exact .refl _
 ·have e1:(l.set k x).getD i default=l.getD i default:=by rw[List.getD_eq_getElem?_getD,List.getElem?_set,if_neg (Ne.symm e),←List.getD_eq_getElem?_getD]
  rw[if_neg (fun h=>e h.1),e1]
  exact .refl _
theorem takeM {l:List DMember} {n:Nat} (hn:n≤l.length):ALe (.sl true none 7 n (fMember true l)) (.sl true none 7 (l.take n).length (fMember true (l.take n))):=by
 refine ALe.of (.inl rfl) (by simp;omega) (fun i hi j hj=>?_)
 rw[fMember_at,fMember_at]
 have:(l.take n).getD i default=l.getD i default:=by
  rw[List.getD_eq_getElem?_getD,List.getElem?_take,if_pos hi,←List.getD_eq_getElem?_getD]
 rw[this];exact .refl _
theorem bdF_app {l:List DMember} {x:DMember} (h:∀m∈l,bdM m) (hx:bdM x):∀m∈l++[x],bdM m:=fun m hm=>by
 rcases List.mem_append.1 hm with hm|hm
 ·exact h m hm
 ·obtain rfl:m=x:=(by simpa using hm)
  exact hx
theorem bdF_set {l:List DMember} {k:Nat} {x:DMember} (h:∀m∈l,bdM m) (hx:bdM x):∀m∈l.set k x,bdM m:=fun m hm=>by
 rcases List.mem_or_eq_of_mem_set hm with hm|hm
 ·exact h m hm
 ·subst hm;exact hx
theorem spec_l24Draw (nb:Nat) (hn:nb≤2^40) (c:DConf) (u v:Bool) (hc:okConf (2^20) c) (hcl:1≤c.schema.classes.length) (hal:c.schema.attrs.length≤5):ACur Tryz.prog 88 nb [.agg (cConf u v c)] (fun q=>∃x:DForest,bdF x∧q=.val (.agg (cForest true true x))):=by
 have b0:bdM ⟨⟨[],0⟩,false,⟨[],0⟩,⟨[],[]⟩⟩:=smM_bd (smM0 smT_0)
 have nt:Tryz.f88.ntmps=51:=rfl
 have rs:Tryz.f88.results=#[.cell 4 67]:=rfl
 refine ACur.of_run (m:=400) mixed Tryz.func88 rfl rfl (Nat.le_of_ble_eq_true rfl) (fun xc=>?_)
 simp only[nt,rs]
 clear nt rs
 (try refine am ?_);(try exact amT)
 repeat' with_reducible first|apply zA|intro _
 all_goals try exact amA
 refine CallCE.cur (spec_l1PickInt nb hn true (some false) [0,5,20,36] (by simp) (by simp)) rfl (0) ?hcq rfl rfl rfl (fun _ _ _=>amC) (fun _=>rfl) (fun _=>rfl) ?_
 case hcq=>exact by simp
 rintro n hnn
 (try refine am ?_);(try exact amT)
 have hn2:0≤n∧n≤100:=by simp at hnn;omega
 repeat' with_reducible first|apply zA|intro _
 all_goals try exact amA
 refine CallCE.cur (spec_l24Right nb hn c n _ _ hc hcl hn2) rfl (⟨[]⟩) ?hcq rfl rfl rfl (fun _ _ _=>amC) (fun _=>rfl) (fun _=>rfl) ?_
 case hcq=>exact⟨Nat.zero_le _,fun m hm=>nomatch hm⟩
 rintro f hf
 (try refine am ?_);(try exact amT)
 have hb:=smF_bd hf
 have hfl:=hf.1
 repeat' with_reducible first|apply zA|intro _
 all_goals try exact amA
 refine CallK.cur (spec_l1Below nb hn 14) rfl rfl rfl (fun _ _ _=>amC) ?_
 rintro z ⟨hz0,hz1⟩
 (try refine am ?_);(try exact amT)
 repeat' with_reducible first|apply zA|intro _
 all_goals try exact amA
 ·refine CallCE.cur (spec_l23Draw nb hn c _ _ hc hcl hal) rfl (⟨⟨[],0⟩,false,⟨[],0⟩,⟨[],[]⟩⟩) ?hcq rfl rfl rfl (fun _ _ _=>amC) (fun _=>rfl) (fun _=>rfl) ?_
  case hcq=>exact b0
  rintro m hm
  (try refine am ?_);(try exact amT)
  repeat' with_reducible first|apply zA|intro _
  all_goals try exact amA
  refine FinK.cur (.refl _) ⟨trivial,rfl⟩ (by kernel_rfl) ?_
  refine FinK.ex (⟨f.members++[m]⟩) ?hq5 ?_
  case hq5=>exact⟨by simp;omega,bdF_app hb.2 hm⟩
  refine FinK.cell1 ?_ ?_ ?_
  all_goals try refine amF ?_
  all_goals try exact amT
  exact memApp rfl
 ·refine FinK.cur (.refl _) ⟨trivial,rfl⟩ (by kernel_rfl) ?_
  refine FinK.ex (⟨f.members.take (f.members.length - 1)⟩) ?hq6 ?_
  case hq6=>exact⟨by simp;omega,fun x hx=>hb.2 x (List.mem_of_mem_take hx)⟩
  refine FinK.cell1 ?_ ?_ ?_
  all_goals try refine amF ?_
  all_goals try exact amT
  have e:((f.members.length:Int) - 1).toNat=f.members.length - 1:=by omega
  rw[e]
  exact takeM (by omega)
 ·refine FinK.cur (.refl _) ⟨trivial,rfl⟩ (by kernel_rfl) ?_
  refine FinK.ex (f) ?hq7 ?_
  case hq7=>exact hb
  refine FinK.cell1 ?_ ?_ ?_
  all_goals try refine amF ?_
  all_goals try exact amT
 ·refine CallCE.cur (spec_l23Draw nb hn c _ _ hc hcl hal) rfl (⟨⟨[],0⟩,false,⟨[],0⟩,⟨[],[]⟩⟩) ?hcq rfl rfl rfl (fun _ _ _=>amC) (fun _=>rfl) (fun _=>rfl) ?_
  case hcq=>exact b0
  rintro m hm
  (try refine am ?_);(try exact amT)
  repeat' with_reducible first|apply zA|intro _
  all_goals try exact amA
  refine FinK.cur (.refl _) ⟨trivial,rfl⟩ (by kernel_rfl) ?_
  refine FinK.ex (⟨f.members.set 0 m⟩) ?hq8 ?_
  case hq8=>exact⟨by simp;omega,bdF_set hb.2 hm⟩
  refine FinK.cell1 ?_ ?_ ?_
  all_goals try refine amF ?_
  all_goals try exact amT
  exact memSet (by omega)
 ·refine FinK.cur (.refl _) ⟨trivial,rfl⟩ (by kernel_rfl) ?_
  refine FinK.ex (f) ?hq9 ?_
  case hq9=>exact hb
  refine FinK.cell1 ?_ ?_ ?_
  all_goals try refine amF ?_
  all_goals try exact amT
 ·refine FinK.cur (.refl _) ⟨trivial,rfl⟩ (by kernel_rfl) ?_
  refine FinK.ex (f) ?hq10 ?_
  case hq10=>exact hb
  refine FinK.cell1 ?_ ?_ ?_
  all_goals try refine amF ?_
  all_goals try exact amT
theorem spec_DrawForestSays (code:List UInt8) (h:code.length≤2^40):ACalls Tryz.prog 32 [.one (aB false code)] (fun r=>∃x:DConf×DForest×DEx,(okConf (2^11) x.1∧bdF x.2.1∧okEx (2^20+1) x.2.2)∧r=.tup [.agg (cConf true true x.1),.agg (cForest true true x.2.1),.agg (cEx true false x.2.2)]):=by
 have nt:Tryz.f32.ntmps=25:=rfl
 have rs:Tryz.f32.results=#[.cell 2 64,.cell 3 67,.cell 4 50]:=rfl
 refine ACalls.of_runC (m:=400) mixed Tryz.func32 rfl rfl (Nat.le_of_ble_eq_true rfl) ?_
 simp only[nt,rs]
 clear nt rs
 (try refine am ?_);(try exact amT)
 repeat' with_reducible first|apply zA|intro _
 all_goals try exact amA
 refine CallK.new (spec_l1New code h) ?_
 rintro xc
 (try refine am ?_);(try exact amT)
 repeat' with_reducible first|apply zA|intro _
 all_goals try exact amA
 refine CallK.cur (spec_l23Conf code.length h) rfl rfl rfl (fun _ _ _=>amC) ?_
 rintro c ⟨hc0,hc1,hc2⟩
 (try refine am ?_);(try exact amT)
 have hc:okConf (2^20) c:=okConf_up hc0
 repeat' with_reducible first|apply zA|intro _
 all_goals try exact amA
 refine CallK.cur (spec_l24Draw code.length h c _ _ hc hc2 hc1) rfl rfl rfl (fun _ _ _=>amC) ?_
 rintro f hf
 (try refine am ?_);(try exact amT)
 repeat' with_reducible first|apply zA|intro _
 all_goals try exact amA
 refine CallK.cur (spec_l1Once code.length h 12) rfl rfl rfl (fun _ _ _=>amC) ?_
 rintro b hb
 (try refine am ?_);(try exact amT)
 repeat' with_reducible first|apply zA|intro _
 all_goals try exact amA
 ·refine CallK.cur (spec_l23Bent code.length h) rfl rfl rfl (fun _ _ _=>amC) ?_
  rintro c2 hc2
  (try refine am ?_);(try exact amT)
  have hs2:okSchema (2^20) c2.schema:=okSchema_up hc2.1
  repeat' with_reducible first|apply zA|intro _
  all_goals try exact amA
  refine CallCE.cur (spec_l7Draw code.length h c2.schema _ _ hs2) rfl (⟨[],0⟩) ?hcq rfl rfl rfl (fun _ _ _=>amC) (fun _=>rfl) (fun _=>rfl) ?_
  case hcq=>exact⟨⟨Nat.zero_le _,fun x hx=>by simp at hx⟩,inK6 (by decide)⟩
  rintro e he
  (try refine am ?_);(try exact amT)
  repeat' with_reducible first|apply zA|intro _
  all_goals try exact amA
  refine FinK.ex ((c2,f,e)) ?hq11 ?_
  case hq11=>exact⟨hc2,hf,he⟩
  refine FinK.tup ?_ ?_
  all_goals try refine amF ?_
  all_goals try exact amT
 ·refine CallCE.cur (spec_l7Draw code.length h c.schema _ _ hc.1) rfl (⟨[],0⟩) ?hcq rfl rfl rfl (fun _ _ _=>amC) (fun _=>rfl) (fun _=>rfl) ?_
  case hcq=>exact⟨⟨Nat.zero_le _,fun x hx=>by simp at hx⟩,inK6 (by decide)⟩
  rintro e he
  (try refine am ?_);(try exact amT)
  repeat' with_reducible first|apply zA|intro _
  all_goals try exact amA
  refine FinK.ex ((c,f,e)) ?hq12 ?_
  case hq12=>exact⟨okConf_up hc0,hf,he⟩
  refine FinK.tup ?_ ?_
  all_goals try refine amF ?_
  all_goals try exact amT
theorem spec_DrawForestSaysR (code:List UInt8) (h:code.length≤2^40):ACalls Tryz.prog 32 [.one (aB false code)] (fun r=>∃x:DConf×DForest×DEx,(okConf (2^11) x.1∧bdF x.2.1∧okEx (2^20+1) x.2.2)∧r=.tup [.agg (cConf false true x.1),.agg (cForest false true x.2.1),.agg (cEx false false x.2.2)]):=
 ACalls.roX (spec_DrawForestSays code h)
end Go.AM
