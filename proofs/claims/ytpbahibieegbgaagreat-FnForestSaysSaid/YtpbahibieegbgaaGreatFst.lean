/- Lemmas for the proof of this claim. -/
import Derived.Test.YtpbahibieegbgaaGreatLrn
import Derived.Test.YtpbahibieegbgaaGreatFdr
import Derived.Test.YtpbahibieegbgaaGreatMem
import Derived.Test.YtpbahibieegbgaaGreatSay
namespace Go.AM
set_option maxHeartbeats 64000000
open Go Go.Proofs
set_option maxRecDepth 100000
theorem fullLe {z:Int} (h:inK .i64 z):ALe (.int .i64 z) (AV.full .i64):=.rng _ _ _ _ h.1 h.2
def stA (b b':Bool):List AV:=[AV.full .i64,AV.full .i64,AV.full .i64,AV.full .i64,AV.full .i64,AV.full .i64,.bool b,.bool b']
theorem stLe {a b c d e f:Int} {x y:Bool} (ha:inK .i64 a) (h:(0≤b∧b≤100)∧(0≤c∧c≤100)∧(-1≤d∧d≤100)∧(-1≤e∧e≤100)∧(0≤f∧f≤100)):ALeL [.int .i64 a,.int .i64 b,.int .i64 c,.int .i64 d,.int .i64 e,.int .i64 f,.bool x,.bool y] (stA x y):=
 ⟨fullLe ha,fullLe (inK6 (by omega)),fullLe (inK6 (by omega)),fullLe (inK6 (by omega)),fullLe (inK6 (by omega)),fullLe (inK6 (by omega)),.refl _,.refl _,trivial⟩
theorem detStep_rng (d:DDet) (b w r:Int):0≤(detStep d b w r).2∧(detStep d b w r).2≤3:=by
 unfold detStep
 cases wsOk d.warn b w&&wsOk d.drift b r<;>cases wsRose d.drift b r<;>cases wsRose d.warn b w<;>simp
theorem specDetStepW (d:DDet) (bit w r:Int) (u v:Bool) (h:wok d.warn∧wok d.drift) (hbit:inK .i64 bit) (hw:inK .i64 w) (hr:inK .i64 r):ACalls Tryz.prog 200 [.agg (cDet u v d),.one (.int .i64 bit),.one (.int .i64 w),.one (.int .i64 r)] (fun q=>∃x:DDet×Int,(okDet (2^5) x.1∧0≤x.2∧x.2≤3)∧q=.tup [.agg (cDet true true x.1),.one (.int .i64 x.2)]):=
 (specDetStep d bit w r u v (okDet_up (wokDet h)) hbit hw hr).imp (fun _ hq=>⟨_,⟨wokDet (detStep_wok h),detStep_rng d bit w r⟩,hq⟩)
theorem spec_l1BitW (b:Bool):ACalls Tryz.prog 179 [.one (.bool b)] (fun r=>∃z:Int,(0≤z∧z≤1)∧r=.val (.one (.int .i64 z))):=
 (spec_l1Bit b).imp (fun _ hq=>⟨_,by split<;>omega,hq⟩)
theorem specTreeSaysW (s:DSchema) (t:DTree) (e:DEx) (u v u' v' w:Bool) (h:okSchema (2^47) s) (h':okTree (2^47) t) (he:okEx (2^47) e):ACalls Tryz.prog 197 [.agg (cSchema u v s),.agg (cTree u' v' t),.agg (cEx w false e)] (fun r=>∃z:Int,inK .i64 z∧r=.val (.one (.int .i64 z))):=
 (specTreeSays s t e u v u' v' w h h' he).imp (fun _ hq=>⟨_,by
  have h1:=topOf_rng (leafVote s t e)
  have h2:=(leafVote_ok (s:=s) (e:=e) h.2.1 h').1
  exact⟨by show (-9223372036854775808:Int)≤_;omega,by show _≤(9223372036854775807:Int);omega⟩,hq⟩)
theorem spec_MemberStep (c:DConf) (m:DMember) (e:DEx) (tp:DTape) (u v u' v' u2 u3:Bool) (hc:okConf (2^20) c) (hm:smM m) (he:okEx (2^20) e) (htp:okTape 1000 tp):ACalls Tryz.prog 184 [.agg (cConf u v c),.agg (cMember u' v' m),.agg (cEx u2 false e),.agg (cTape u3 false tp)] (fun q=>∃x:DMember×DTape×(Bool×Bool)×Bool,(smM x.1∧okTape 1000 x.2.1)∧q=.tup [.agg (cMember true true x.1),.agg (cTape true false x.2.1),.agg (stA x.2.2.1.1 x.2.2.1.2),.one (.bool x.2.2.2)]):=by
 have hc47:=conf47 hc
 have hs47:=hc47.1
 have hm40:=smM_40 hm
 have hmn:m.tree.nodes.length≤2^38∧m.young.nodes.length≤2^38:=⟨smT_n hm.1,smT_n hm.2.1⟩
 have hmz:zMember m≤2^40:=Nat.le_trans (bdM_z (smM_bd hm)) (by decide)
 have he47:okEx (2^47) e:=⟨okI_up he.1 (by decide),he.2⟩
 have htp40:=tp40 htp
 have h0:∀z:Int,-1000000000000000≤z→z≤1000000000000000→inK .i64 z:=fun z h1 h2=>⟨by show (-9223372036854775808:Int)≤_;omega,by show _≤(9223372036854775807:Int);omega⟩
 have h0f:∀z:Int,-1000000000000000≤z→z≤1000000000000000→ALe (.int .i64 z) (AV.full .i64):=fun z h1 h2=>fullLe (h0 z h1 h2)
 have nt:Tryz.f184.ntmps=215:=rfl
 have rs:Tryz.f184.results=#[.cell 8 79,.cell 9 162,.cell 10 190,.tmp 11]:=rfl
 refine ACalls.of_runC (m:=400) mixed Tryz.func184 rfl rfl (Nat.le_of_ble_eq_true rfl) ?_
 simp only[nt,rs]
 clear nt rs
 (try refine am ?_);(try exact amT)
 repeat' with_reducible first|apply zA|intro _
 all_goals try exact amA
 refine CallK.one (specMemberOk c m _ _ _ _ hc47 (smM_47 hm) hmz) (fun _=>amC) ?_
 (try refine am ?_);(try exact amT)
 repeat' with_reducible first|apply zA|intro _
 all_goals try exact amA
 refine CallG.one rfl (fun hg=>specExOk c.schema e _ _ _ hs47 he47) ?_
 (try refine am ?_);(try exact amT)
 repeat' with_reducible first|apply zA|intro _
 all_goals try exact amA
 refine CallG.one rfl (fun hg=>specTapeOk tp _ htp40) ?_
 (try refine am ?_);(try exact amT)
 repeat' with_reducible first|apply zA|intro _
 all_goals try exact amA
 ·refine CallCE.one (l23CopyI m _ _ hm40 hmn) (fun _=>amC) rfl ?_
  (try refine am ?_);(try exact amT)
  refine CallCE.one (spec_l15Copy tp _ htp40) (fun _=>amC) rfl ?_
  (try refine am ?_);(try exact amT)
  repeat' with_reducible first|apply zA|intro _
  all_goals try exact amA
  refine FinK.ex ((m,tp,(false,false),false)) ?hq1 ?_
  case hq1=>exact⟨hm,htp⟩
  refine FinK.tup ?_ ?_
  all_goals try refine amF ?_
  all_goals try exact amT
  exact stLe (h0 _ (by decide) (by decide)) (by decide)
 have hmo:memberOk c m:=by simp_all
 have hexo:exOk c.schema e:=by simp_all
 have hk:=hmo.1
 have hdk:=hmo.2.2.1
 have hr:=hc.2.1
 have hpk:0≤c.pick∧c.pick≤100:=by have h1:=hk.2.2.2.1;have h2:=hk.1.1;omega
 refine CallK.one (l23CopyI m _ _ hm40 hmn) (fun _=>amC) ?_
 (try refine am ?_);(try exact amT)
 repeat' with_reducible first|apply zA|intro _
 all_goals try exact amA
 refine CallK.ex (specTreeSaysW c.schema m.tree e _ _ _ _ _ hs47 (smT_47 hm.1) he47) (fun _ _ _=>amC) ?_
 rintro sa hsa
 (try refine am ?_);(try exact amT)
 repeat' with_reducible first|apply zA|intro _
 all_goals try exact amA
 refine CallK.ex (spec_l1BitW _) (fun _ _ _=>amC) ?_
 rintro bt hbt
 (try refine am ?_);(try exact amT)
 repeat' with_reducible first|apply zA|intro _
 all_goals try exact amA
 refine CallK.ex (specTake tp _ htp40) (fun _ _ _=>amC) ?_
 rintro⟨nt,d,b⟩ ⟨⟨h1,h2⟩,hd⟩
 (try refine am ?_);(try exact amT)
 dsimp only at h1 h2 hd ⊢
 repeat' with_reducible first|apply zA|intro _
 all_goals try exact amA
 ·refine CallCE.one (l23CopyI m _ _ hm40 hmn) (fun _=>amC) rfl ?_
  (try refine am ?_);(try exact amT)
  refine CallCE.one (spec_l15Copy tp _ htp40) (fun _=>amC) rfl ?_
  (try refine am ?_);(try exact amT)
  repeat' with_reducible first|apply zA|intro _
  all_goals try exact amA
  refine FinK.ex ((m,tp,(false,false),false)) ?hq2 ?_
  case hq2=>exact⟨hm,htp⟩
  refine FinK.tup ?_ ?_
  all_goals try refine amF ?_
  all_goals try exact amT
  exact stLe (h0 _ (by decide) (by decide)) (by decide)
 have hnt:okTape 1000 nt:=tpB htp h1 h2
 refine CallK.ex (specWeightOf c.lambda d hk.2.2.2.2.1 (by omega)) (fun _ _ _=>amC) ?_
 rintro w hw
 (try refine am ?_);(try exact amT)
 repeat' with_reducible first|apply zA|intro _
 all_goals try exact amA
 ·refine CallK.ex (spec_TreeLearn c.schema c.rule m.tree e w nt c.pick _ _ _ _ _ _ hc.1 hr hm.1 he (by omega) hnt hpk) (fun _ _ _=>amC) ?_
  rintro⟨t2,tp2,g⟩ ⟨ht2,htp2,hg⟩
  (try refine am ?_);(try exact amT)
  dsimp only at ht2 htp2 hg ⊢
  repeat' with_reducible first|apply zA|intro _
  all_goals try exact amA
  ·refine CallCE.one (l23CopyI m _ _ hm40 hmn) (fun _=>amC) rfl ?_
   (try refine am ?_);(try exact amT)
   refine CallCE.one (spec_l15Copy tp _ htp40) (fun _=>amC) rfl ?_
   (try refine am ?_);(try exact amT)
   repeat' with_reducible first|apply zA|intro _
   all_goals try exact amA
   refine FinK.ex ((m,tp,(false,false),false)) ?hq3 ?_
   case hq3=>exact⟨hm,htp⟩
   refine FinK.tup ?_ ?_
   all_goals try refine amF ?_
   all_goals try exact amT
   exact stLe (h0 _ (by decide) (by decide)) (by decide)
  ·refine CallK.ex (spec_TreeLearn c.schema c.rule m.young e w tp2 c.pick _ _ _ _ _ _ hc.1 hr hm.2.1 he (by omega) htp2 hpk) (fun _ _ _=>amC) ?_
   rintro⟨y2,tp3,g2⟩ ⟨hy2,htp3,hg2⟩
   (try refine am ?_);(try exact amT)
   dsimp only at hy2 htp3 hg2 ⊢
   repeat' with_reducible first|apply zA|intro _
   all_goals try exact amA
   ·refine CallCE.one (l23CopyI m _ _ hm40 hmn) (fun _=>amC) rfl ?_
    (try refine am ?_);(try exact amT)
    refine CallCE.one (spec_l15Copy tp _ htp40) (fun _=>amC) rfl ?_
    (try refine am ?_);(try exact amT)
    repeat' with_reducible first|apply zA|intro _
    all_goals try exact amA
    refine FinK.ex ((m,tp,(false,false),false)) ?hq4 ?_
    case hq4=>exact⟨hm,htp⟩
    refine FinK.tup ?_ ?_
    all_goals try refine amF ?_
    all_goals try exact amT
    exact stLe (h0 _ (by decide) (by decide)) (by decide)
   ·skip
    refine CallK.ex (specDetStepW m.det bt c.warn c.drift _ _ hdk (h0 _ (by omega) (by omega)) hc.2.2.2.2.2.1 hc.2.2.2.2.2.2) (fun _ _ _=>amC) ?_
    rintro⟨dd,dc⟩ ⟨hdd,hdc⟩
    (try refine am ?_);(try exact amT)
    dsimp only at hdd hdc ⊢
    repeat' with_reducible first|apply zA|intro _
    all_goals try exact amA
    all_goals first|exact absurd ((Eq.symm ‹m.hasYoung=true›).trans ‹m.hasYoung=false›) (by decide)|exact absurd ((Eq.symm ‹m.hasYoung=true›).trans (And.right ‹dc=1∧m.hasYoung=false›)) (by decide)|skip
    ·skip
     refine FinK.ex ((⟨y2,false,⟨[],0⟩,dd⟩,tp3,(false,true),true)) ?hq5 ?_
     case hq5=>exact⟨⟨hy2,smT_0,hdd⟩,htp3⟩
     refine FinK.tup ?_ ?_
     all_goals try refine amF ?_
     all_goals try exact amT
     exact⟨.nil ..,stLe hsa (by omega)⟩
    ·skip
     refine FinK.ex ((⟨t2,m.hasYoung,y2,dd⟩,tp3,(false,false),true)) ?hq6 ?_
     case hq6=>exact⟨⟨ht2,hy2,hdd⟩,htp3⟩
     refine FinK.tup ?_ ?_
     all_goals try refine amF ?_
     all_goals try exact amT
     exact stLe hsa (by omega)
  ·skip
   refine CallK.ex (specDetStepW m.det bt c.warn c.drift _ _ hdk (h0 _ (by omega) (by omega)) hc.2.2.2.2.2.1 hc.2.2.2.2.2.2) (fun _ _ _=>amC) ?_
   rintro⟨dd,dc⟩ ⟨hdd,hdc⟩
   (try refine am ?_);(try exact amT)
   dsimp only at hdd hdc ⊢
   repeat' with_reducible first|apply zA|intro _
   all_goals try exact amA
   all_goals first|exact absurd ((Eq.symm ‹m.hasYoung=true›).trans ‹m.hasYoung=false›) (by decide)|exact absurd ((Eq.symm ‹m.hasYoung=true›).trans (And.right ‹dc=1∧m.hasYoung=false›)) (by decide)|skip
   ·refine CallK.ex (spec_l23Root c tp2 _ _ _ hc hk htp2) (fun _ _ _=>amC) ?_
    rintro⟨rt,nt2,fb⟩ ⟨hrt,hnt2⟩
    (try refine am ?_);(try exact amT)
    dsimp only at hrt hnt2 ⊢
    repeat' with_reducible first|apply zA|intro _
    all_goals try exact amA
    ·refine CallCE.one (l23CopyI m _ _ hm40 hmn) (fun _=>amC) rfl ?_
     (try refine am ?_);(try exact amT)
     refine CallCE.one (spec_l15Copy tp _ htp40) (fun _=>amC) rfl ?_
     (try refine am ?_);(try exact amT)
     repeat' with_reducible first|apply zA|intro _
     all_goals try exact amA
     refine FinK.ex ((m,tp,(false,false),false)) ?hq7 ?_
     case hq7=>exact⟨hm,htp⟩
     refine FinK.tup ?_ ?_
     all_goals try refine amF ?_
     all_goals try exact amT
     exact stLe (h0 _ (by decide) (by decide)) (by decide)
    ·skip
     refine FinK.ex ((⟨t2,true,rt,dd⟩,nt2,(true,false),true)) ?hq8 ?_
     case hq8=>exact⟨⟨ht2,hrt,hdd⟩,hnt2⟩
     refine FinK.tup ?_ ?_
     all_goals try refine amF ?_
     all_goals try exact amT
     exact stLe hsa (by omega)
   ·refine CallK.ex (spec_l23Root c tp2 _ _ _ hc hk htp2) (fun _ _ _=>amC) ?_
    rintro⟨rt,nt2,fb⟩ ⟨hrt,hnt2⟩
    (try refine am ?_);(try exact amT)
    dsimp only at hrt hnt2 ⊢
    repeat' with_reducible first|apply zA|intro _
    all_goals try exact amA
    ·refine CallCE.one (l23CopyI m _ _ hm40 hmn) (fun _=>amC) rfl ?_
     (try refine am ?_);(try exact amT)
     refine CallCE.one (spec_l15Copy tp _ htp40) (fun _=>amC) rfl ?_
     (try refine am ?_);(try exact amT)
     repeat' with_reducible first|apply zA|intro _
     all_goals try exact amA
     refine FinK.ex ((m,tp,(false,false),false)) ?hq9 ?_
     case hq9=>exact⟨hm,htp⟩
     refine FinK.tup ?_ ?_
     all_goals try refine amF ?_
     all_goals try exact amT
     exact stLe (h0 _ (by decide) (by decide)) (by decide)
    ·skip
     refine FinK.ex ((⟨rt,false,⟨[],0⟩,dd⟩,nt2,(false,true),true)) ?hq10 ?_
     case hq10=>exact⟨⟨hrt,smT_0,hdd⟩,hnt2⟩
     refine FinK.tup ?_ ?_
     all_goals try refine amF ?_
     all_goals try exact amT
     exact⟨.nil ..,stLe hsa (by omega)⟩
   ·skip
    refine FinK.ex ((⟨t2,m.hasYoung,m.young,dd⟩,tp2,(false,false),true)) ?hq11 ?_
    case hq11=>exact⟨⟨ht2,hm.2.1,hdd⟩,htp2⟩
    refine FinK.tup ?_ ?_
    all_goals try refine amF ?_
    all_goals try exact amT
    exact stLe hsa (by omega)
 ·skip
  refine CallK.ex (specDetStepW m.det bt c.warn c.drift _ _ hdk (h0 _ (by omega) (by omega)) hc.2.2.2.2.2.1 hc.2.2.2.2.2.2) (fun _ _ _=>amC) ?_
  rintro⟨dd,dc⟩ ⟨hdd,hdc⟩
  (try refine am ?_);(try exact amT)
  dsimp only at hdd hdc ⊢
  repeat' with_reducible first|apply zA|intro _
  all_goals try exact amA
  ·refine CallK.ex (spec_l23Root c nt _ _ _ hc hk hnt) (fun _ _ _=>amC) ?_
   rintro⟨rt,nt2,fb⟩ ⟨hrt,hnt2⟩
   (try refine am ?_);(try exact amT)
   dsimp only at hrt hnt2 ⊢
   repeat' with_reducible first|apply zA|intro _
   all_goals try exact amA
   ·refine CallCE.one (l23CopyI m _ _ hm40 hmn) (fun _=>amC) rfl ?_
    (try refine am ?_);(try exact amT)
    refine CallCE.one (spec_l15Copy tp _ htp40) (fun _=>amC) rfl ?_
    (try refine am ?_);(try exact amT)
    repeat' with_reducible first|apply zA|intro _
    all_goals try exact amA
    refine FinK.ex ((m,tp,(false,false),false)) ?hq12 ?_
    case hq12=>exact⟨hm,htp⟩
    refine FinK.tup ?_ ?_
    all_goals try refine amF ?_
    all_goals try exact amT
    exact stLe (h0 _ (by decide) (by decide)) (by decide)
   ·skip
    refine FinK.ex ((⟨m.tree,true,rt,dd⟩,nt2,(true,false),true)) ?hq13 ?_
    case hq13=>exact⟨⟨hm.1,hrt,hdd⟩,hnt2⟩
    refine FinK.tup ?_ ?_
    all_goals try refine amF ?_
    all_goals try exact amT
    exact stLe hsa (by omega)
  ·skip
   refine FinK.ex ((⟨m.young,false,⟨[],0⟩,dd⟩,nt,(false,true),true)) ?hq14 ?_
   case hq14=>exact⟨⟨hm.2.1,smT_0,hdd⟩,hnt⟩
   refine FinK.tup ?_ ?_
   all_goals try refine amF ?_
   all_goals try exact amT
   exact⟨.nil ..,stLe hsa (by omega)⟩
  ·refine CallK.ex (spec_l23Root c nt _ _ _ hc hk hnt) (fun _ _ _=>amC) ?_
   rintro⟨rt,nt2,fb⟩ ⟨hrt,hnt2⟩
   (try refine am ?_);(try exact amT)
   dsimp only at hrt hnt2 ⊢
   repeat' with_reducible first|apply zA|intro _
   all_goals try exact amA
   ·refine CallCE.one (l23CopyI m _ _ hm40 hmn) (fun _=>amC) rfl ?_
    (try refine am ?_);(try exact amT)
    refine CallCE.one (spec_l15Copy tp _ htp40) (fun _=>amC) rfl ?_
    (try refine am ?_);(try exact amT)
    repeat' with_reducible first|apply zA|intro _
    all_goals try exact amA
    refine FinK.ex ((m,tp,(false,false),false)) ?hq15 ?_
    case hq15=>exact⟨hm,htp⟩
    refine FinK.tup ?_ ?_
    all_goals try refine amF ?_
    all_goals try exact amT
    exact stLe (h0 _ (by decide) (by decide)) (by decide)
   ·skip
    refine FinK.ex ((⟨rt,false,⟨[],0⟩,dd⟩,nt2,(false,true),true)) ?hq16 ?_
    case hq16=>exact⟨⟨hrt,smT_0,hdd⟩,hnt2⟩
    refine FinK.tup ?_ ?_
    all_goals try refine amF ?_
    all_goals try exact amT
    exact⟨.nil ..,stLe hsa (by omega)⟩
  ·skip
   refine FinK.ex ((⟨m.tree,m.hasYoung,m.young,dd⟩,nt,(false,false),true)) ?hq17 ?_
   case hq17=>exact⟨⟨hm.1,hm.2.1,hdd⟩,hnt⟩
   refine FinK.tup ?_ ?_
   all_goals try refine amF ?_
   all_goals try exact amT
   exact stLe hsa (by omega)
end Go.AM
