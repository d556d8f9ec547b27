/- Lemmas for the proof of this claim. -/
import Derived.Test.YtpbahibieegbgaaGreatNat
import Derived.Test.YtpbahibieegbgaaGreatTr2
namespace Go.AM
set_option maxHeartbeats 64000000
open Go Go.Proofs
set_option maxRecDepth 100000
theorem specLnOf0 (k:Int):ACalls Tryz.prog 235 [.one (.int .i64 k)] (fun r=>r=.val (.one (.int .i64 (lnOf k)))):=by
 have nt:Tryz.f235.ntmps=10:=rfl
 have rs:Tryz.f235.results=#[.tmp 2]:=rfl
 refine ACalls.of_run (m:=400) mixed Tryz.func235 rfl rfl (Nat.le_of_ble_eq_true rfl) ?_
 simp only[nt,rs]
 clear nt rs
 (try refine am ?_);(try exact amT)
 refine CallK.one (l1In k 1 9) (fun _=>amC) ?_
 (try refine am ?_);(try exact amT)
 have hb:¬(1≤k∧k≤9)∨((k*2302585+999).tdiv 1000=(k*2302585+999) / 1000∧1≤k∧k≤9):=by
  by_cases e:1≤k∧k≤9
  ·exact .inr ⟨Int.tdiv_eq_ediv_of_nonneg (by omega),e⟩
  ·exact .inl e
 repeat' with_reducible first|apply zA|intro _
 all_goals try exact amA
 ·refine FinK.val1 ?_ ?_
  all_goals try refine amF ?_
  all_goals try exact amT
  exact(if_neg (by omega)).symm
 ·refine FinK.val1 ?_ ?_
  all_goals try refine amF ?_
  all_goals try exact amT
  exact(if_pos (by omega)).symm
theorem spec_l12Share (x:DFrac):ACalls Tryz.prog 218 [.agg (cFrac x)] (fun r=>r=.val (.one (.bool (decide (((0≤x.num∧x.num≤4000000000000000)∧1≤x.den∧x.den≤4000000000000000)∧x.num≤x.den))))):=by
 have nt:Tryz.f218.ntmps=12:=rfl
 have rs:Tryz.f218.results=#[.tmp 2]:=rfl
 refine ACalls.of_run (m:=400) mixed Tryz.func218 rfl rfl (Nat.le_of_ble_eq_true rfl) ?_
 simp only[nt,rs]
 clear nt rs
 (try refine am ?_);(try exact amT)
 refine CallK.one (specFracOk x) (fun _=>amC) ?_
 (try refine am ?_);(try exact amT)
 repeat' with_reducible first|apply zA|intro _
 all_goals try exact amA
 refine FinK.val1 ?_ ?_
 all_goals try refine amF ?_
 all_goals try exact amT
theorem specFracGap (x y:DFrac) (hx:okFrac (2^40) x) (hy:okFrac (2^40) y):ACalls Tryz.prog 233 [.agg (cFrac x),.agg (cFrac y)] (fun r=>∃z:List Int×List Int×Bool,(lims 16 z.1∧lims 16 z.2.1)∧r=.tup [.one (aI true z.1),.one (aI true z.2.1),.one (.bool z.2.2)]):=by
 have nt:Tryz.f233.ntmps=45:=rfl
 have rs:Tryz.f233.results=#[.tmp 4,.tmp 5,.tmp 6]:=rfl
 refine ACalls.of_runC (m:=400) mixed Tryz.func233 rfl rfl (Nat.le_of_ble_eq_true rfl) ?_
 simp only[nt,rs]
 clear nt rs
 (try refine am ?_);(try exact amT)
 refine CallK.one (specFracOk x) (fun _=>amC) ?_
 (try refine am ?_);(try exact amT)
 repeat' with_reducible first|apply zA|intro _
 all_goals try exact amA
 refine CallG.one rfl (fun hg=>specFracOk y) ?_
 (try refine am ?_);(try exact amT)
 repeat' with_reducible first|apply zA|intro _
 all_goals try exact amA
 refine CallG.exI (fun hg=>specFracCmp x y hx hy) ?_
 rintro z hz
 (try refine am ?_);(try exact amT)
 repeat' with_reducible first|apply zA|intro _
 all_goals try exact amA
 ·refine FinK.ex (([],[],false)) ?hq1 ?_
  case hq1=>exact⟨lims_nil,lims_nil⟩
  refine FinK.tup ?_ ?_
  all_goals try refine amF ?_
  all_goals try exact amT
  exact ALe.of (.inl rfl) rfl (fun i hi=>by omega)
 refine CallCE.ex (spec_l3Times x.num y.den hx.1 hy.2) rfl ([]) ?hcq (fun _ _ _=>amC) (fun _=>rfl) (fun _=>rfl) ?_
 case hcq=>exact lims_nil
 rintro l hl
 (try refine am ?_);(try exact amT)
 have hl1:=hl.1
 refine CallCE.ex (spec_l3Times y.num x.den hy.1 hx.2) rfl ([]) ?hcq (fun _ _ _=>amC) (fun _=>rfl) (fun _=>rfl) ?_
 case hcq=>exact lims_nil
 rintro m hm
 (try refine am ?_);(try exact amT)
 have hm1:=hm.1
 refine CallCE.ex (specNatSub l m _ _ _ _ (by omega) (by omega)) rfl (([],false)) ?hcq (fun _ _ _=>amC) (fun _=>rfl) (fun _=>rfl) ?_
 case hcq=>exact lims_nil
 rintro⟨g,gb⟩ hg
 (try refine am ?_);(try exact amT)
 dsimp only at hg ⊢
 have hg1:=hg.1
 repeat' with_reducible first|apply zA|intro _
 all_goals try exact amA
 refine CallK.ex (spec_l3Times x.den y.den hx.2 hy.2) (fun _ _ _=>amC) ?_
 rintro q hq
 (try refine am ?_);(try exact amT)
 have hq1:=hq.1
 repeat' with_reducible first|apply zA|intro _
 all_goals try exact amA
 refine FinK.ex ((g,q,true)) ?hq2 ?_
 case hq2=>exact⟨hg,hq⟩
 refine FinK.tup ?_ ?_
 all_goals try refine amF ?_
 all_goals try exact amT
theorem specBeyond (x y:DFrac) (n k:Int) (hx:okFrac (2^40) x) (hy:okFrac (2^40) y) (hn:inK .i64 n):ACalls Tryz.prog 220 [.agg (cFrac x),.agg (cFrac y),.one (.int .i64 n),.one (.int .i64 k)] (fun r=>∃b:Bool,anyV b∧r=.val (.one (.bool b))):=by
 have nt:Tryz.f220.ntmps=78:=rfl
 have rs:Tryz.f220.results=#[.tmp 8]:=rfl
 refine ACalls.of_runC (m:=400) mixed Tryz.func220 rfl rfl (Nat.le_of_ble_eq_true rfl) ?_
 simp only[nt,rs]
 clear nt rs
 (try refine am ?_);(try exact amT)
 refine CallK.one (spec_l12Share x) (fun _=>amC) ?_
 (try refine am ?_);(try exact amT)
 repeat' with_reducible first|apply zA|intro _
 all_goals try exact amA
 refine CallG.one rfl (fun hg=>spec_l12Share y) ?_
 (try refine am ?_);(try exact amT)
 repeat' with_reducible first|apply zA|intro _
 all_goals try exact amA
 refine CallG.exI (fun hg=>specFracCmp x y hx hy) ?_
 rintro z hz
 (try refine am ?_);(try exact amT)
 repeat' with_reducible first|apply zA|intro _
 all_goals try exact amA
 refine CallG.one rfl (fun hg=>l1In n 1 999) ?_
 (try refine am ?_);(try exact amT)
 repeat' with_reducible first|apply zA|intro _
 all_goals try exact amA
 refine CallG.one rfl (fun hg=>l1In k 1 9) ?_
 (try refine am ?_);(try exact amT)
 repeat' with_reducible first|apply zA|intro _
 all_goals try exact amA
 ·refine FinK.ex (false) ?hq3 ?_
  case hq3=>exact trivial
  refine FinK.val1 ?_ ?_
  all_goals try refine amF ?_
  all_goals try exact amT
 refine CallK.ex (specFracGap x y hx hy) (fun _ _ _=>amC) ?_
 rintro⟨a,b,c⟩ ⟨ha,hb⟩
 (try refine am ?_);(try exact amT)
 dsimp only at ha hb ⊢
 have ha1:=ha.1
 have hb1:=hb.1
 repeat' with_reducible first|apply zA|intro _
 all_goals try exact amA
 refine CallK.ex (specNatMul a a _ _ _ _ (by omega) (by omega)) (fun _ _ _=>amC) ?_
 rintro⟨l,lb⟩ hl
 (try refine am ?_);(try exact amT)
 dsimp only at hl ⊢
 have hl1:=hl.1
 repeat' with_reducible first|apply zA|intro _
 all_goals try exact amA
 refine CallK.ex (spec_l3Times 2000 n ⟨by decide,by decide⟩ hn) (fun _ _ _=>amC) ?_
 rintro t ht
 (try refine am ?_);(try exact amT)
 have ht1:=ht.1
 repeat' with_reducible first|apply zA|intro _
 all_goals try exact amA
 refine CallK.ex (specNatMul l t _ _ _ _ (by omega) (by omega)) (fun _ _ _=>amC) ?_
 rintro⟨l2,l2b⟩ hl2
 (try refine am ?_);(try exact amT)
 dsimp only at hl2 ⊢
 have hl21:=hl2.1
 repeat' with_reducible first|apply zA|intro _
 all_goals try exact amA
 refine CallK.ex (specNatMul b b _ _ _ _ (by omega) (by omega)) (fun _ _ _=>amC) ?_
 rintro⟨r,rb⟩ hr
 (try refine am ?_);(try exact amT)
 dsimp only at hr ⊢
 have hr1:=hr.1
 repeat' with_reducible first|apply zA|intro _
 all_goals try exact amA
 refine CallK.one (specLnOf0 k) (fun _=>amC) ?_
 (try refine am ?_);(try exact amT)
 have hln:=lnOf_bd k
 repeat' with_reducible first|apply zA|intro _
 all_goals try exact amA
 refine CallK.ex (spec_l3Times (lnOf k) 1 ⟨by show (-9223372036854775808:Int)≤_;omega,by show _≤(9223372036854775807:Int);omega⟩ ⟨by decide,by decide⟩) (fun _ _ _=>amC) ?_
 rintro t2 ht2
 (try refine am ?_);(try exact amT)
 have ht21:=ht2.1
 repeat' with_reducible first|apply zA|intro _
 all_goals try exact amA
 refine CallK.ex (specNatMul r t2 _ _ _ _ (by omega) (by omega)) (fun _ _ _=>amC) ?_
 rintro⟨r2,r2b⟩ hr2
 (try refine am ?_);(try exact amT)
 dsimp only at hr2 ⊢
 have hr21:=hr2.1
 repeat' with_reducible first|apply zA|intro _
 all_goals try exact amA
 refine CallK.ex (specNatCmp l2 r2 _ _ _ _ (by omega) (by omega)) (fun _ _ _=>amC) ?_
 rintro z2 hz2
 (try refine am ?_);(try exact amT)
 repeat' with_reducible first|apply zA|intro _
 all_goals try exact amA
 refine FinK.ex (decide (0<z2)) ?hq4 ?_
 case hq4=>exact trivial
 refine FinK.val1 ?_ ?_
 all_goals try refine amF ?_
 all_goals try exact amT
theorem specTied (r:DRule) (n:Int) (hr:okRule (2^47) r):ACalls Tryz.prog 221 [.agg (cRule r),.one (.int .i64 n)] (fun q=>∃b:Bool,anyV b∧q=.val (.one (.bool b))):=by
 have hln:=lnOf_bd r.sure
 have hm:¬(ruleOk r∧1≤n∧n≤999)∨((0≤2*n*r.tie∧2*n*r.tie≤1996002)∧0≤2*n*r.tie*r.tie∧2*n*r.tie*r.tie≤1994005998):=by
  by_cases e:ruleOk r∧1≤n∧n≤999
  ·have h2:=e.1.2.1
   have h3:0≤2*n*r.tie:=Int.mul_nonneg (by omega) h2.1
   have h4:2*n*r.tie≤1998*999:=Int.mul_le_mul (by omega) h2.2 h2.1 (by decide)
   have h5:2*n*r.tie*r.tie≤1996002*999:=Int.mul_le_mul (by omega) h2.2 h2.1 (by decide)
   exact .inr ⟨⟨h3,by omega⟩,Int.mul_nonneg h3 h2.1,by omega⟩
  ·exact .inl e
 have nt:Tryz.f221.ntmps=26:=rfl
 have rs:Tryz.f221.results=#[.tmp 4]:=rfl
 refine ACalls.of_runC (m:=400) mixed Tryz.func221 rfl rfl (Nat.le_of_ble_eq_true rfl) ?_
 simp only[nt,rs]
 clear nt rs
 (try refine am ?_);(try exact amT)
 repeat' with_reducible first|apply zA|intro _
 all_goals try exact amA
 refine CallCE.one (specRuleOk r hr) (fun _=>amC) rfl ?_
 (try refine am ?_);(try exact amT)
 repeat' with_reducible first|apply zA|intro _
 all_goals try exact amA
 refine CallCEG.one rfl rfl (fun hg=>l1In n 1 999) ?_
 (try refine am ?_);(try exact amT)
 repeat' with_reducible first|apply zA|intro _
 all_goals try exact amA
 refine CallCEG.one rfl rfl (fun hg=>specLnOf0 r.sure) ?_
 (try refine am ?_);(try exact amT)
 repeat' with_reducible first|apply zA|intro _
 all_goals try exact amA
 all_goals (try (have:=hm.resolve_left (fun h=>h ‹_›);omega))
 refine FinK.ex (decide ((ruleOk r∧1≤n∧n≤999)∧1000*lnOf r.sure<2*n*r.tie*r.tie)) ?hq5 ?_
 case hq5=>exact trivial
 refine FinK.val1 ?_ ?_
 all_goals try refine amF ?_
 all_goals try exact amT
theorem specVerdict (r:DRule) (x y:DFrac) (n:Int) (hr:okRule (2^47) r) (hx:okFrac (2^40) x) (hy:okFrac (2^40) y) (hn:inK .i64 n):ACalls Tryz.prog 206 [.agg (cRule r),.agg (cFrac x),.agg (cFrac y),.one (.int .i64 n)] (fun q=>∃z:Int,(0≤z∧z≤9)∧q=.val (.one (.int .i64 z))):=by
 have nt:Tryz.f206.ntmps=49:=rfl
 have rs:Tryz.f206.results=#[.tmp 8]:=rfl
 refine ACalls.of_runC (m:=400) mixed Tryz.func206 rfl rfl (Nat.le_of_ble_eq_true rfl) ?_
 simp only[nt,rs]
 clear nt rs
 (try refine am ?_);(try exact amT)
 refine CallK.one (specRuleOk r hr) (fun _=>amC) ?_
 (try refine am ?_);(try exact amT)
 repeat' with_reducible first|apply zA|intro _
 all_goals try exact amA
 refine CallG.one rfl (fun hg=>l1In n 1 999) ?_
 (try refine am ?_);(try exact amT)
 repeat' with_reducible first|apply zA|intro _
 all_goals try exact amA
 refine CallG.one rfl (fun hg=>spec_l12Share x) ?_
 (try refine am ?_);(try exact amT)
 repeat' with_reducible first|apply zA|intro _
 all_goals try exact amA
 refine CallG.one rfl (fun hg=>spec_l12Share y) ?_
 (try refine am ?_);(try exact amT)
 repeat' with_reducible first|apply zA|intro _
 all_goals try exact amA
 refine CallG.exI (fun hg=>specFracCmp x y hx hy) ?_
 rintro z hz
 (try refine am ?_);(try exact amT)
 repeat' with_reducible first|apply zA|intro _
 all_goals try exact amA
 ·refine FinK.ex (4) ?hq6 ?_
  case hq6=>exact by omega
  refine FinK.val1 ?_ ?_
  all_goals try refine amF ?_
  all_goals try exact amT
 ·refine FinK.ex (3) ?hq7 ?_
  case hq7=>exact by omega
  refine FinK.val1 ?_ ?_
  all_goals try refine amF ?_
  all_goals try exact amT
 refine CallK.ex (specBeyond x y n r.sure hx hy hn) (fun _ _ _=>amC) ?_
 rintro b hb
 (try refine am ?_);(try exact amT)
 repeat' with_reducible first|apply zA|intro _
 all_goals try exact amA
 ·refine FinK.ex (1) ?hq8 ?_
  case hq8=>exact by omega
  refine FinK.val1 ?_ ?_
  all_goals try refine amF ?_
  all_goals try exact amT
 refine CallK.ex (specTied r n hr) (fun _ _ _=>amC) ?_
 rintro c hc
 (try refine am ?_);(try exact amT)
 repeat' with_reducible first|apply zA|intro _
 all_goals try exact amA
 ·refine FinK.ex (2) ?hq9 ?_
  case hq9=>exact by omega
  refine FinK.val1 ?_ ?_
  all_goals try refine amF ?_
  all_goals try exact amT
 ·refine FinK.ex (0) ?hq10 ?_
  case hq10=>exact by omega
  refine FinK.val1 ?_ ?_
  all_goals try refine amF ?_
  all_goals try exact amT
end Go.AM
