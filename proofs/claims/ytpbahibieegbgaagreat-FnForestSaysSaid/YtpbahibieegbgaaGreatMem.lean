/- Lemmas for the proof of this claim. -/
import Derived.Test.YtpbahibieegbgaaGreatCnf
import Derived.Test.YtpbahibieegbgaaGreatWna
import Derived.Test.YtpbahibieegbgaaGreatSam
namespace Go.AM
set_option maxHeartbeats 64000000
open Go Go.Proofs
set_option maxRecDepth 100000
def ATRd:AT→AT→Prop
 | .one a,.one b=>RdLe a b
 | .agg l,.agg m=>RdLeL l m
 |_,_=>False
def ATRdL:List AT→List AT→Prop
 |[],[]=>True
 |a::r,b::s=>ATRd a b∧ATRdL r s
 |_,_=>False
theorem ATRd.rel {a b:AT} {w:World} {own:Own} {v:Value} (h:ATRd a b) (hr:RelA w own a v):RelA w own b v:=by
 cases a with
 |one a=>cases b with
  |one b=>exact h w own v hr
  |agg m=>exact h.elim
 |agg l=>cases b with
  |one b=>exact h.elim
  |agg m=>
   obtain⟨cs,rfl,h1,h2⟩:=hr
   obtain⟨g1,g2⟩:=RdLeL.get h
   refine⟨cs,rfl,by rw[h1,g1],fun j b hb=>?_⟩
   obtain⟨a,f1,f2⟩:=g2 j b hb
   obtain⟨x,f3,f4⟩:=h2 j a f1
   exact⟨x,f3,f2 w own x f4⟩
theorem ATRdL.get:∀{l m:List AT},ATRdL l m→l.length=m.length∧∀(i:Nat) (b:AT),m[i]?=some b→∃a,l[i]?=some a∧ATRd a b
 |[],[],_=>⟨rfl,fun i b h=>by simp at h⟩
 |a::r,b::s,h=>by
  obtain⟨h1,h2⟩:=ATRdL.get h.2
  refine⟨by simp[h1],fun i c hc=>?_⟩
  cases i with
  |zero=>simp at hc;subst hc;exact⟨a,rfl,h.1⟩
  |succ i=>simpa using h2 i c (by simpa using hc)
theorem ACalls.weak {P:Program} {f:FuncId} {args args':List AT} {R:RV→Prop} (h:ACalls P f args' R) (hw:ATRdL args args'):ACalls P f args R:=by
 obtain⟨h1,h2⟩:=hw.get
 refine⟨h.enter,fun own0 w vs hown hvs hargs=>h.calls own0 w vs hown (by rw[hvs,h1]) (fun i t ht=>?_)⟩
 obtain⟨a,g1,g2⟩:=h2 i t ht
 obtain⟨v,g3,g4⟩:=hargs i a g1
 exact⟨v,g3,g2.rel g4⟩
theorem rdLe_nil {u:Bool} {es:Nat} {g:Nat→Nat→AV}:RdLe nilAV (.sl u none es 0 g):=by
 rintro w own v ⟨a,cap,rfl,h1,h2,h3,h4,h5⟩
 exact⟨a,cap,rfl,h1,h2,⟨fun e=>by simp at e,fun e=>by simp at e⟩,h4,fun h=>absurd rfl h⟩
theorem rdLe_refl {a:AV}:RdLe a a:=fun _ _ _ h=>h
def memberOk (c:DConf) (m:DMember):Prop:=confOk c∧fits c.schema c.rule m.tree∧(wok m.det.warn∧wok m.det.drift)∧if m.hasYoung=true then fits c.schema c.rule m.young else m.young.nodes.length=0∧m.young.seen=0
instance (c:DConf) (m:DMember):Decidable (memberOk c m):=by unfold memberOk;infer_instance
theorem young0 (t:DTree):(t=⟨[],0⟩)↔(t.nodes.length=0∧t.seen=0):=by
 cases t
 simp
theorem implMemberOk (c:DConf) (m:DMember) (u v u' v':Bool) (h:okConf (2^47) c) (hm:okMember (2^47) m) (hz:zMember m≤2^40):ACalls Tryz.prog 136 [.agg (cConf u v c),.agg (cMember u' v' m)] (fun q=>q=.val (.one (.bool (decide (memberOk c m))))):=by
 have hz1:zTree m.tree≤2^40:=by unfold zMember at hz;omega
 have hz2:zTree m.young≤2^40:=by unfold zMember at hz;omega
 have hyl:=hm.2.2.1.1.1
 have nt:Tryz.f136.ntmps=37:=rfl
 have rs:Tryz.f136.results=#[.tmp 4]:=rfl
 refine ACalls.of_run (m:=400) mixed Tryz.func136 rfl rfl (Nat.le_of_ble_eq_true rfl) ?_
 simp only[nt,rs]
 clear nt rs
 (try refine am ?_);(try exact amT)
 repeat' with_reducible first|apply zA|intro _
 all_goals try exact amA
 refine CallK.one (implConfOk c _ _ h) (fun _=>amC) ?_
 (try refine am ?_);(try exact amT)
 repeat' with_reducible first|apply zA|intro _
 all_goals try exact amA
 refine CallG.one rfl (fun hg=>implFits c.schema c.rule m.tree _ _ _ _ h.1 h.2.1 hm.1 hz1) ?_
 (try refine am ?_);(try exact amT)
 repeat' with_reducible first|apply zA|intro _
 all_goals try exact amA
 refine CallG.one rfl (fun hg=>implDetOk m.det _ _ hm.2.2.2) ?_
 (try refine am ?_);(try exact amT)
 repeat' with_reducible first|apply zA|intro _
 all_goals try exact amA
 ·refine FinK.val1 ?_ ?_
  all_goals try refine amF ?_
  all_goals try exact amT
  rename_i h1
  refine(decide_eq_false (fun e=>?_)).symm
  obtain⟨e1,e2,⟨e3,e4⟩,e5⟩:=e
  rcases h1 with (h1|h1)|h1
  ·exact h1 e1
  ·exact h1 e2
  ·simp[wokB,e3,e4] at h1
 ·rename_i h1 h2
  obtain⟨⟨f1,f2⟩,f3⟩:=h1
  have f3:wok m.det.warn∧wok m.det.drift:=by simpa [wokB] using f3
  refine CallK.one (implFits c.schema c.rule m.young _ _ _ _ h.1 h.2.1 hm.2.2.1 hz2) (fun _=>amC) ?_
  (try refine am ?_);(try exact amT)
  repeat' with_reducible first|apply zA|intro _
  all_goals try exact amA
  refine FinK.val1 ?_ ?_
  all_goals try refine amF ?_
  all_goals try exact amT
  refine decide_eq_decide.2 ?_
  unfold memberOk
  rw[if_pos h2]
  exact⟨fun e=>⟨f1,f2,f3,e⟩,fun e=>e.2.2.2⟩
 ·rename_i h1 h2
  obtain⟨⟨f1,f2⟩,f3⟩:=h1
  have f3:wok m.det.warn∧wok m.det.drift:=by simpa [wokB] using f3
  refine CallK.one ((ACalls.weak (implTreeSame m.young ⟨[],0⟩ _ _ false false hm.2.2.1) ⟨RdLeL.refl _,⟨rdLe_nil,rdLe_refl,trivial⟩,trivial⟩)) (fun _=>amC) ?_
  (try refine am ?_);(try exact amT)
  repeat' with_reducible first|apply zA|intro _
  all_goals try exact amA
  refine FinK.val1 ?_ ?_
  all_goals try refine amF ?_
  all_goals try exact amT
  refine decide_eq_decide.2 ((young0 _).trans ?_)
  unfold memberOk
  rw[if_neg (by rw[h2];simp)]
  exact⟨fun e=>⟨f1,f2,f3,e⟩,fun e=>e.2.2.2⟩
theorem specMemberOk (c:DConf) (m:DMember) (u v u' v':Bool) (h:okConf (2^47) c) (hm:okMember (2^47) m) (hz:zMember m≤2^40):ACalls Tryz.prog 96 [.agg (cConf u v c),.agg (cMember u' v' m)] (fun q=>q=.val (.one (.bool (decide (memberOk c m))))):=by
 have hz1:zTree m.tree≤2^40:=by unfold zMember at hz;omega
 have hz2:zTree m.young≤2^40:=by unfold zMember at hz;omega
 have hyl:=hm.2.2.1.1.1
 have nt:Tryz.f96.ntmps=44:=rfl
 have rs:Tryz.f96.results=#[.tmp 4]:=rfl
 refine ACalls.of_run (m:=400) mixed Tryz.func96 rfl rfl (Nat.le_of_ble_eq_true rfl) ?_
 simp only[nt,rs]
 clear nt rs
 (try refine am ?_);(try exact amT)
 repeat' with_reducible first|apply zA|intro _
 all_goals try exact amA
 refine CallK.one (specConfOk c _ _ h) (fun _=>amC) ?_
 (try refine am ?_);(try exact amT)
 repeat' with_reducible first|apply zA|intro _
 all_goals try exact amA
 refine CallG.one rfl (fun hg=>specFits c.schema c.rule m.tree _ _ _ _ h.1 h.2.1 hm.1 hz1) ?_
 (try refine am ?_);(try exact amT)
 repeat' with_reducible first|apply zA|intro _
 all_goals try exact amA
 refine CallG.one rfl (fun hg=>specDetOk m.det _ _ hm.2.2.2) ?_
 (try refine am ?_);(try exact amT)
 repeat' with_reducible first|apply zA|intro _
 all_goals try exact amA
 ·refine FinK.val1 ?_ ?_
  all_goals try refine amF ?_
  all_goals try exact amT
  rename_i h1
  refine(decide_eq_false (fun e=>?_)).symm
  obtain⟨e1,e2,⟨e3,e4⟩,e5⟩:=e
  rcases h1 with (h1|h1)|h1
  ·exact h1 e1
  ·exact h1 e2
  ·simp[wokB,e3,e4] at h1
 ·rename_i h1 h2
  obtain⟨⟨f1,f2⟩,f3⟩:=h1
  have f3:wok m.det.warn∧wok m.det.drift:=by simpa [wokB] using f3
  refine CallK.one (specFits c.schema c.rule m.young _ _ _ _ h.1 h.2.1 hm.2.2.1 hz2) (fun _=>amC) ?_
  (try refine am ?_);(try exact amT)
  repeat' with_reducible first|apply zA|intro _
  all_goals try exact amA
  refine FinK.val1 ?_ ?_
  all_goals try refine amF ?_
  all_goals try exact amT
  refine decide_eq_decide.2 ?_
  unfold memberOk
  rw[if_pos h2]
  exact⟨fun e=>⟨f1,f2,f3,e⟩,fun e=>e.2.2.2⟩
 ·rename_i h1 h2
  obtain⟨⟨f1,f2⟩,f3⟩:=h1
  have f3:wok m.det.warn∧wok m.det.drift:=by simpa [wokB] using f3
  refine FinK.val1 ?_ ?_
  all_goals try refine amF ?_
  all_goals try exact amT
  refine decide_eq_decide.2 ?_
  unfold memberOk
  rw[if_neg (by rw[h2];simp)]
  exact⟨fun e=>⟨f1,f2,f3,by omega,e.2⟩,fun e=>by have:=e.2.2.2;omega⟩
def forestOk (c:DConf) (f:DForest):Prop:=confOk c∧(f.members.length:Int)=c.members∧∀i,i<f.members.length→memberOk c (f.members.getD i default)
instance (c:DConf) (f:DForest):Decidable (forestOk c f):=by unfold forestOk;infer_instance
theorem indexFuncM (l:List DMember) (u v:Bool) (nl:Option Bool) (f:FuncId) (g:Nat→AV) (p:DMember→Bool) (hl:l.length≤2^47) (hf:∀x∈l,ACalls Tryz.prog f [.agg (cMember v v x),.one (g 0)] (fun r=>r=.val (.one (.bool (p x))))):
 ACalls Tryz.prog 165 [.one (.sl u nl 7 l.length (fMember v l)),.one (.fn (.func f) 1 g)] (fun r=>r=.val (.one (.int .i64 (fidxN (fun j=>p (l.getD j default)) 0 l.length)))):=by
 have nt:Tryz.f165.ntmps=19:=rfl
 have rs:Tryz.f165.results=#[.tmp 4]:=rfl
 refine ACalls.of_run (m:=400) mixed Tryz.func165 rfl rfl (Nat.le_of_ble_eq_true rfl) ?_
 simp only[nt,rs]
 clear nt rs
 (try refine am ?_);(try exact amT)
 repeat' with_reducible first|apply zA|intro _
 all_goals try exact amA
 refine LoopK.auto (Nat) (fun i=>[(8,.one (.av (.int .i64 i)))]) (fun i=>[]) [0,1,7] (k0:=?k01) (keepH:=?kh1) 400 (fun i=>i≤l.length∧fidxN (fun j=>p (l.getD j default)) 0 l.length=fidxN (fun j=>p (l.getD j default)) i (l.length - i)) (fun i=>l.length - i) (0) ?kea1 ?keb1 ?_ ?_ ?_
 case kea1=>exact amN
 case keb1=>exact amN
 ·exact⟨Nat.zero_le _,by simp⟩
 ·refine LeA [] ?_ ?_ ?_
  all_goals try refine amL ?_
  all_goals try exact amT
 ·rintro i ⟨hi,hs⟩
  (try refine am ?_);(try exact amT)
  repeat' with_reducible first|apply zA|intro _
  all_goals try exact amA
  ·have hlt:i<l.length:=by assumption
   have e:l.length - i=(l.length - (i+1))+1:=by omega
   refine CallK.one (hf (l.getD i default) (getD_mem hlt)) (fun _=>amC) ?_
   (try refine am ?_);(try exact amT)
   repeat' with_reducible first|apply zA|intro _
   all_goals try exact amA
   ·refine FinK.val1 ?_ ?_
    all_goals try refine amF ?_
    all_goals try exact amT
    rename_i h1 h2
    rw[hs,e,fidxN,if_pos h2]
   ·rename_i h1 h2
    rw[e,fidxN,if_neg (by rw[h2];simp)] at hs
    refine⟨i+1,?_,⟨by omega,hs⟩,by omega⟩
    refine LeA [] ?_ ?_ ?_
    all_goals try refine amL ?_
    all_goals try exact amT
  ·refine FinK.val1 ?_ ?_
   all_goals try refine amF ?_
   all_goals try exact amT
   have e:l.length - i=0:=by omega
   rw[hs,e,fidxN]
theorem containsFuncM (l:List DMember) (u v:Bool) (nl:Option Bool) (f:FuncId) (g:Nat→AV) (p:DMember→Bool) (hl:l.length≤2^47) (hf:∀x∈l,ACalls Tryz.prog f [.agg (cMember v v x),.one (g 0)] (fun r=>r=.val (.one (.bool (p x))))):
 ACalls Tryz.prog 134 [.one (.sl u nl 7 l.length (fMember v l)),.one (.fn (.func f) 1 g)] (fun r=>r=.val (.one (.bool (decide (∃j,j<l.length∧p (l.getD j default)=true))))):=by
 have nt:Tryz.f134.ntmps=9:=rfl
 have rs:Tryz.f134.results=#[.tmp 4]:=rfl
 refine ACalls.of_run (m:=400) mixed Tryz.func134 rfl rfl (Nat.le_of_ble_eq_true rfl) ?_
 simp only[nt,rs]
 clear nt rs
 (try refine am ?_);(try exact amT)
 refine CallK.one (indexFuncM l _ _ _ f _ p hl (fun x hx=>hf x hx)) (fun _=>amC) ?_
 (try refine am ?_);(try exact amT)
 refine FinK.val1 ?_ ?_
 all_goals try refine amF ?_
 all_goals try exact amT
 refine decide_eq_decide.2 ((fidxN_ex _ _ _).trans ?_)
 constructor
 ·rintro⟨j,h1,h2,h3⟩;exact⟨j,by omega,h3⟩
 ·rintro⟨j,h1,h2⟩;exact⟨j,by omega,by omega,h2⟩
theorem forestOk1 (c:DConf) (m:DMember) (u v u' v':Bool) (mm:Nat) (g:Nat→AV) (h:okConf (2^47) c) (hm:okMember (2^47) m) (hz:zMember m≤2^40) (hmm:14≤mm) (hg:∀j,g j=gl .junk (cConf u v c) j):ACalls Tryz.prog 135 [.agg (cMember u' v' m),.one (.ptr mm g)] (fun r=>r=.val (.one (.bool (!decide (memberOk c m))))):=by
 have nt:Tryz.f135.ntmps=8:=rfl
 have rs:Tryz.f135.results=#[.tmp 3]:=rfl
 refine ACalls.of_run (m:=400) mixed Tryz.func135 rfl rfl (Nat.le_of_ble_eq_true rfl) ?_
 simp only[nt,rs]
 clear nt rs
 (try refine am ?_);(try exact amT)
 (try refine am ?_);(try simp only[hg]);(try refine am ?_);(try exact amT)
 repeat' with_reducible first|apply zA|intro _
 all_goals try exact amA
 refine CallK.one (implMemberOk c m _ _ _ _ h hm hz) (fun _=>amC) ?_
 (try refine am ?_);(try exact amT)
 repeat' with_reducible first|apply zA|intro _
 all_goals try exact amA
 refine FinK.val1 ?_ ?_
 all_goals try refine amF ?_
 all_goals try exact amT
theorem implForestOk (c:DConf) (f:DForest) (u v u' v':Bool) (h:okConf (2^47) c) (hf:okForest (2^47) f) (hz:zForest f≤2^40):ACalls Tryz.prog 90 [.agg (cConf u v c),.agg (cForest u' v' f)] (fun q=>q=.val (.one (.bool (decide (forestOk c f))))):=by
 have hl:=hf.1
 have hzm:∀x∈f.members,zMember x≤2^40:=fun x hx=>by
  have:=sm_mem (f:=zMember) hx
  have e:zForest f=f.members.length+sm zMember f.members:=rfl
  omega
 have nt:Tryz.f90.ntmps=22:=rfl
 have rs:Tryz.f90.results=#[.tmp 4]:=rfl
 refine ACalls.of_run (m:=400) mixed Tryz.func90 rfl rfl (Nat.le_of_ble_eq_true rfl) ?_
 simp only[nt,rs]
 clear nt rs
 (try refine am ?_);(try exact amT)
 refine CallK.one (implConfOk c _ _ h) (fun _=>amC) ?_
 (try refine am ?_);(try exact amT)
 repeat' with_reducible first|apply zA|intro _
 all_goals try exact amA
 refine CallG.one rfl (fun hg=>containsFuncM f.members _ _ _ _ _ (fun m=> !decide (memberOk c m)) hf.1 (fun x hx=>forestOk1 c x _ _ _ _ _ _ h (hf.2 x hx) (hzm x hx) (by omega) (fun j=>rfl))) ?_
 (try refine am ?_);(try exact amT)
 repeat' with_reducible first|apply zA|intro _
 all_goals try exact amA
 refine FinK.val1 ?_ ?_
 all_goals try refine amF ?_
 all_goals try exact amT
 have hb:(!decide (∃j,j<f.members.length∧¬memberOk c (f.members.getD j default)))=decide (∀i,i<f.members.length→memberOk c (f.members.getD i default)):=by
  rw[←decide_not]
  exact decide_eq_decide.2 ⟨fun h i hi=>Decidable.byContradiction (fun e=>h ⟨i,hi,e⟩),fun h ⟨j,h1,h2⟩=>h2 (h j h1)⟩
 simp only[hb,dec_and]
 exact decide_eq_decide.2 ⟨fun ⟨⟨a,b⟩,c⟩=>⟨a,b,c⟩,fun ⟨a,b,c⟩=>⟨⟨a,b⟩,c⟩⟩
theorem specForestOk (c:DConf) (f:DForest) (u v u' v':Bool) (h:okConf (2^47) c) (hf:okForest (2^47) f) (hz:zForest f≤2^40):ACalls Tryz.prog 35 [.agg (cConf u v c),.agg (cForest u' v' f)] (fun q=>q=.val (.one (.bool (decide (forestOk c f))))):=by
 have hl:=hf.1
 have hzm:∀x∈f.members,zMember x≤2^40:=fun x hx=>by
  have:=sm_mem (f:=zMember) hx
  have e:zForest f=f.members.length+sm zMember f.members:=rfl
  omega
 have nt:Tryz.f35.ntmps=32:=rfl
 have rs:Tryz.f35.results=#[.tmp 4]:=rfl
 refine ACalls.of_run (m:=400) mixed Tryz.func35 rfl rfl (Nat.le_of_ble_eq_true rfl) ?_
 simp only[nt,rs]
 clear nt rs
 (try refine am ?_);(try exact amT)
 refine CallK.one (specConfOk c _ _ h) (fun _=>amC) ?_
 (try refine am ?_);(try exact amT)
 repeat' with_reducible first|apply zA|intro _
 all_goals try exact amA
 ·refine FinK.val1 ?_ ?_
  all_goals try refine amF ?_
  all_goals try exact amT
  rename_i h1
  refine(decide_eq_false (fun e=>?_)).symm
  rcases h1 with h1|h1
  ·exact h1 e.1
  ·exact h1 e.2.1
 rename_i h1
 refine LoopK.auto (Nat) (fun i=>[(5,.one (.av (.int .i64 i)))]) (fun i=>[]) [2,3] (k0:=?k02) (keepH:=?kh2) 400 (fun i=>i≤f.members.length∧∀j,j<i→memberOk c (f.members.getD j default)) (fun i=>f.members.length - i) (0) ?kea2 ?keb2 ?_ ?_ ?_
 case kea2=>exact amN
 case keb2=>exact amN
 ·exact⟨Nat.zero_le _,fun j hj=>by omega⟩
 ·refine LeA [] ?_ ?_ ?_
  all_goals try refine amL ?_
  all_goals try exact amT
 ·intro i hi
  (try refine am ?_);(try exact amT)
  repeat' with_reducible first|apply zA|intro _
  all_goals try exact amA
  ·have hlt:i<f.members.length:=by assumption
   refine CallE.one (specMemberOk c (f.members.getD i default) _ _ _ _ h (hf.2 _ (getD_mem hlt)) (hzm _ (getD_mem hlt))) (fun _=>amC) rfl ?_
   (try refine am ?_);(try exact amT)
   repeat' with_reducible first|apply zA|intro _
   all_goals try exact amA
   ·refine FinK.val1 ?_ ?_
    all_goals try refine amF ?_
    all_goals try exact amT
    rename_i h2
    exact(decide_eq_false (fun e=>h2 (e.2.2 i hlt))).symm
   ·rename_i h2
    refine⟨i+1,?_,⟨by omega,fun j hj=>?_⟩,by omega⟩
    ·refine LeA [] ?_ ?_ ?_
     all_goals try refine amL ?_
     all_goals try exact amT
    ·by_cases e:j=i
     ·rw[e];exact h2
     ·exact hi.2 j (by omega)
  ·refine FinK.val1 ?_ ?_
   all_goals try refine amF ?_
   all_goals try exact amT
   exact(decide_eq_true ⟨h1.1,h1.2,fun j hj=>hi.2 j (by omega)⟩).symm
end Go.AM
namespace Go.AM
set_option maxHeartbeats 64000000
open Go Go.Proofs
set_option maxRecDepth 100000
theorem implFracOk (a:DFrac):ACalls Tryz.prog 138 [.agg (cFrac a)] (fun r=>r=.val (.one (.bool (decide ((0≤a.num∧a.num≤4000000000000000)∧1≤a.den∧a.den≤4000000000000000))))):=by
 have nt:Tryz.f138.ntmps=11:=rfl
 have rs:Tryz.f138.results=#[.tmp 2]:=rfl
 refine ACalls.of_run (m:=400) mixed Tryz.func138 rfl rfl (Nat.le_of_ble_eq_true rfl) ?_
 simp only[nt,rs]
 clear nt rs
 (try refine am ?_);(try exact amT)
 repeat' with_reducible first|apply zA|intro _
 all_goals try exact amA
 refine CallK.one (within a.num 0 4000000000000000) (fun _=>amC) ?_
 (try refine am ?_);(try exact amT)
 repeat' with_reducible first|apply zA|intro _
 all_goals try exact amA
 refine CallG.one rfl (fun hg=>within a.den 1 4000000000000000) ?_
 (try refine am ?_);(try exact amT)
 repeat' with_reducible first|apply zA|intro _
 all_goals try exact amA
 refine FinK.val1 ?_ ?_
 all_goals try refine amF ?_
 all_goals try exact amT
theorem specFracOk (a:DFrac):ACalls Tryz.prog 230 [.agg (cFrac a)] (fun r=>r=.val (.one (.bool (decide ((0≤a.num∧a.num≤4000000000000000)∧1≤a.den∧a.den≤4000000000000000))))):=by
 have nt:Tryz.f230.ntmps=11:=rfl
 have rs:Tryz.f230.results=#[.tmp 2]:=rfl
 refine ACalls.of_run (m:=400) mixed Tryz.func230 rfl rfl (Nat.le_of_ble_eq_true rfl) ?_
 simp only[nt,rs]
 clear nt rs
 (try refine am ?_);(try exact amT)
 repeat' with_reducible first|apply zA|intro _
 all_goals try exact amA
 refine CallK.one (l1In a.num 0 4000000000000000) (fun _=>amC) ?_
 (try refine am ?_);(try exact amT)
 repeat' with_reducible first|apply zA|intro _
 all_goals try exact amA
 refine CallG.one rfl (fun hg=>l1In a.den 1 4000000000000000) ?_
 (try refine am ?_);(try exact amT)
 repeat' with_reducible first|apply zA|intro _
 all_goals try exact amA
 refine FinK.val1 ?_ ?_
 all_goals try refine amF ?_
 all_goals try exact amT
theorem thou_bd {a:DFrac} (h1:0≤a.num∧a.num≤a.den) (h2:1≤a.den∧a.den≤100000):0≤(1000*a.num).tdiv a.den∧(1000*a.num).tdiv a.den≤100000000:=by
 have e:(1000*a.num).tdiv a.den=(1000*a.num) / a.den:=Int.tdiv_eq_ediv_of_nonneg (by omega)
 have hb:=Int.ediv_nonneg (a:=1000*a.num) (b:=a.den) (by omega) (by omega)
 have hc:(1000*a.num) / a.den≤1000*a.num:=Int.ediv_le_self _ (by omega)
 omega
theorem implThousandths (a:DFrac) (h1:0≤a.num∧a.num≤a.den) (h2:1≤a.den∧a.den≤100000):ACalls Tryz.prog 93 [.agg (cFrac a)] (fun r=>r=.val (.one (.int .i64 ((1000*a.num).tdiv a.den)))):=by
 have hb:=thou_bd h1 h2
 have nt:Tryz.f93.ntmps=19:=rfl
 have rs:Tryz.f93.results=#[.tmp 2]:=rfl
 refine ACalls.of_run (m:=400) mixed Tryz.func93 rfl rfl (Nat.le_of_ble_eq_true rfl) ?_
 simp only[nt,rs]
 clear nt rs
 (try refine am ?_);(try exact amT)
 repeat' with_reducible first|apply zA|intro _
 all_goals try exact amA
 refine CallK.one (implFracOk a) (fun _=>amC) ?_
 (try refine am ?_);(try exact amT)
 repeat' with_reducible first|apply zA|intro _
 all_goals try exact amA
 refine FinK.val1 ?_ ?_
 all_goals try refine amF ?_
 all_goals try exact amT
def voice (w:List (List Int)):Int:=(1000*(1+bSize (bkts w) - bOnes (bkts w))).tdiv (2+bSize (bkts w))
def voicesL (f:DForest):List Int:=f.members.map fun m=>voice m.det.drift
def voicesA (c:DConf) (f:DForest):List Int:=if forestOk c f then voicesL f else []
theorem voicesL_get (f:DForest) {i:Nat} (h:i<f.members.length):(voicesL f).getD i 0=voice (f.members.getD i default).det.drift:=by
 rw[List.getD_eq_getElem?_getD]
 simp[voicesL,h,List.getD]
theorem voicesL_len (f:DForest):(voicesL f).length=f.members.length:=by simp[voicesL]
theorem voicesL_take (f:DForest) {i:Nat} (h:i<f.members.length):(voicesL f).take (i+1)=(voicesL f).take i++[voice (f.members.getD i default).det.drift]:=by
 rw[take_succ (d:=(0:Int)) (by rw[voicesL_len];exact h),voicesL_get f h]
theorem bk_facts (w:List (List Int)):0≤bOnes (bkts w)∧bOnes (bkts w)≤bSize (bkts w)∧bSize (bkts w)≤3072:=by
 have h:=bk_bd (bkts_ok (l:=w))
 have hl:=bkts_len (l:=w)
 refine⟨h.1,h.2.1,?_⟩
 have:=h.2.2
 omega
theorem implVoices (c:DConf) (f:DForest) (u v u' v':Bool) (h:okConf (2^47) c) (hf:okForest (2^47) f) (hz:zForest f≤2^40):ACalls Tryz.prog 34 [.agg (cConf u v c),.agg (cForest u' v' f)] (fun r=>r=.val (.one (aI true (voicesA c f)))):=by
 have hlen:f.members.length≤2^40:=by unfold zForest zMemberS at hz;omega
 have nt:Tryz.f34.ntmps=41:=rfl
 have rs:Tryz.f34.results=#[.tmp 4]:=rfl
 refine ACalls.of_run (m:=400) mixed Tryz.func34 rfl rfl (Nat.le_of_ble_eq_true rfl) ?_
 simp only[nt,rs]
 clear nt rs
 (try refine am ?_);(try exact amT)
 repeat' with_reducible first|apply zA|intro _
 all_goals try exact amA
 refine CallK.one (implForestOk c f _ _ _ _ h hf hz) (fun _=>amC) ?_
 (try refine am ?_);(try exact amT)
 refine⟨fun hs=>?_,fun hs=>?_⟩
 ·have e:voicesA c f=[]:=if_neg hs
  rw[e]
  repeat' with_reducible first|apply zA|intro _
  all_goals try exact amA
  refine FinK.val1 ?_ ?_
  all_goals try refine amF ?_
  all_goals try exact amT
  exact .nil _ _ _ _ _
 have e:voicesA c f=voicesL f:=if_pos hs
 rw[e]
 repeat' with_reducible first|apply zA|intro _
 all_goals try exact amA
 refine LoopK.auto (Nat) (fun i=>[(17,.one (.av (.int .i64 i))),(5,.one (.own 302 [] [0]))]) (fun i=>[(302,⟨.sl true none 1 ((voicesL f).take i).length (fI ((voicesL f).take i)),[]⟩)]) [15,16] (k0:=?k01) (keepH:=?kh1) 400 (fun i=>i≤f.members.length) (fun i=>f.members.length - i) (0) ?kea1 ?keb1 ?_ ?_ ?_
 case kea1=>exact amN
 case keb1=>exact amN
 ·exact Nat.zero_le _
 ·refine LeA [] ?_ ?_ ?_
  all_goals try refine amL ?_
  all_goals try exact amT
  exact ALe.of (.inl rfl) rfl (fun i hi=>by simp at hi)
 ·intro i hi
  have hL:((voicesL f).take i).length=i:=by rw[List.length_take,voicesL_len];omega
  (try refine am ?_);(try exact amT)
  refine⟨fun hlt=>?_,fun hlt=>?_⟩
  ·obtain⟨hb1,hb2,hb3⟩:=bk_facts (f.members.getD i default).det.drift
   have hw:=(hf.2 _ (getD_mem (d:=default) hlt)).2.2.2.2
   repeat' with_reducible first|apply zA|intro _
   all_goals try exact amA
   refine CallK.one (implWindowTotal (f.members.getD i default).det.drift _ _ hw) (fun _=>amC) ?_
   (try refine am ?_);(try exact amT)
   repeat' with_reducible first|apply zA|intro _
   all_goals try exact amA
   refine CallK.one (implWindowOnes (f.members.getD i default).det.drift _ _ hw) (fun _=>amC) ?_
   (try refine am ?_);(try exact amT)
   repeat' with_reducible first|apply zA|intro _
   all_goals try exact amA
   refine CallK.one (implThousandths ⟨1+bSize (bkts (f.members.getD i default).det.drift) - bOnes (bkts (f.members.getD i default).det.drift),2+bSize (bkts (f.members.getD i default).det.drift)⟩ (by dsimp only;omega) (by dsimp only;omega)) (fun _=>amC) ?_
   (try refine am ?_);(try exact amT)
   repeat' with_reducible first|apply zA|intro _
   all_goals try exact amA
   refine⟨i+1,?_,by omega,by omega⟩
   refine LeA [] ?_ ?_ ?_
   all_goals try refine amL ?_
   all_goals try exact amT
   exact appLe1 (x:=voice (f.members.getD i default).det.drift) (voicesL_take f hlt) rfl (.inl rfl)
  ·have ei:(voicesL f).take i=voicesL f:=List.take_of_length_le (by rw[voicesL_len];omega)
   refine FinK.val1 ?_ ?_
   all_goals try refine amF ?_
   all_goals try exact amT
   rw[ei]
   exact .refl _
theorem voicesA_ok (c:DConf) (f:DForest) (hl:f.members.length≤2^40):okI (2^47) (voicesA c f):=by
 unfold voicesA
 split
 ·refine⟨by rw[voicesL_len];omega,fun x hx=>?_⟩
  unfold voicesL at hx
  obtain⟨m,_,rfl⟩:=List.mem_map.1 hx
  obtain⟨hb1,hb2,hb3⟩:=bk_facts m.det.drift
  have:=thou_bd (a:=⟨1+bSize (bkts m.det.drift) - bOnes (bkts m.det.drift),2+bSize (bkts m.det.drift)⟩) (by dsimp only;omega) (by dsimp only;omega)
  unfold voice
  rw[inKi]
  dsimp only at this
  omega
 ·exact⟨Nat.zero_le _,fun x hx=>by simp at hx⟩
end Go.AM
