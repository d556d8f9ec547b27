/- Lemmas for the proof of this claim. -/
import Derived.Test.YtpbahibieegbgaaGreatTr2
import Derived.Test.YtpbahibieegbgaaGreatAm4
namespace Go.AM
set_option maxHeartbeats 64000000
open Go Go.Proofs
set_option maxRecDepth 100000
def jF:Nat→Nat→AV:=fun _ _=>.junk
theorem implThr1:ACalls Tryz.prog 164 [.one (.int .i64 1)] (fun r=>r=.val (.one (.sl true (some false) 1 7 jF))):=by
 have nt:Tryz.f164.ntmps=10:=rfl
 have rs:Tryz.f164.results=#[.tmp 2]:=rfl
 refine ACalls.of_run (m:=400) mixed Tryz.func164 rfl rfl (Nat.le_of_ble_eq_true rfl) ?_
 simp only[nt,rs]
 clear nt rs
 (try refine am ?_);(try exact amT)
 repeat' with_reducible first|apply zA|intro _
 all_goals try exact amA
 all_goals
  refine FinK.val1 ?_ ?_
  all_goals try refine amF ?_
  all_goals try exact amT
  exact ALe.of (.inr rfl) rfl (fun i hi j hj=>.junk _)
theorem implThr6:ACalls Tryz.prog 164 [.one (.int .i64 6)] (fun r=>r=.val (.one (.sl true (some false) 1 7 jF))):=by
 have nt:Tryz.f164.ntmps=10:=rfl
 have rs:Tryz.f164.results=#[.tmp 2]:=rfl
 refine ACalls.of_run (m:=400) mixed Tryz.func164 rfl rfl (Nat.le_of_ble_eq_true rfl) ?_
 simp only[nt,rs]
 clear nt rs
 (try refine am ?_);(try exact amT)
 repeat' with_reducible first|apply zA|intro _
 all_goals try exact amA
 all_goals
  refine FinK.val1 ?_ ?_
  all_goals try refine amF ?_
  all_goals try exact amT
  exact ALe.of (.inr rfl) rfl (fun i hi j hj=>.junk _)
theorem implThr0 (n:Int) (h1:n≠1) (h6:n≠6):ACalls Tryz.prog 164 [.one (.int .i64 n)] (fun r=>r=.val (.one (nilAV))):=by
 have nt:Tryz.f164.ntmps=10:=rfl
 have rs:Tryz.f164.results=#[.tmp 2]:=rfl
 refine ACalls.of_run (m:=400) mixed Tryz.func164 rfl rfl (Nat.le_of_ble_eq_true rfl) ?_
 simp only[nt,rs]
 clear nt rs
 (try refine am ?_);(try exact amT)
 repeat' with_reducible first|apply zA|intro _
 all_goals try exact amA
 all_goals first|exact absurd (by assumption) h1|exact absurd (by assumption) h6|skip
 refine FinK.val1 ?_ ?_
 all_goals try refine amF ?_
 all_goals try exact amT
 all_goals first|done|exact .refl _|exact ALe.of (.inr rfl) rfl (fun i hi=>by omega)
theorem specThr1:ACalls Tryz.prog 140 [.one (.int .i64 1)] (fun r=>r=.val (.one (.sl true (some false) 1 7 jF))):=by
 have nt:Tryz.f140.ntmps=11:=rfl
 have rs:Tryz.f140.results=#[.tmp 2]:=rfl
 refine ACalls.of_run (m:=400) mixed Tryz.func140 rfl rfl (Nat.le_of_ble_eq_true rfl) ?_
 simp only[nt,rs]
 clear nt rs
 (try refine am ?_);(try exact amT)
 repeat' with_reducible first|apply zA|intro _
 all_goals try exact amA
 all_goals
  refine FinK.val1 ?_ ?_
  all_goals try refine amF ?_
  all_goals try exact amT
  exact ALe.of (.inr rfl) rfl (fun i hi j hj=>.junk _)
theorem specThr6:ACalls Tryz.prog 140 [.one (.int .i64 6)] (fun r=>r=.val (.one (.sl true (some false) 1 7 jF))):=by
 have nt:Tryz.f140.ntmps=11:=rfl
 have rs:Tryz.f140.results=#[.tmp 2]:=rfl
 refine ACalls.of_run (m:=400) mixed Tryz.func140 rfl rfl (Nat.le_of_ble_eq_true rfl) ?_
 simp only[nt,rs]
 clear nt rs
 (try refine am ?_);(try exact amT)
 repeat' with_reducible first|apply zA|intro _
 all_goals try exact amA
 all_goals
  refine FinK.val1 ?_ ?_
  all_goals try refine amF ?_
  all_goals try exact amT
  exact ALe.of (.inr rfl) rfl (fun i hi j hj=>.junk _)
theorem specThr0 (n:Int) (h1:n≠1) (h6:n≠6):ACalls Tryz.prog 140 [.one (.int .i64 n)] (fun r=>r=.val (.one (.sl true (some false) 1 0 jF))):=by
 have nt:Tryz.f140.ntmps=11:=rfl
 have rs:Tryz.f140.results=#[.tmp 2]:=rfl
 refine ACalls.of_run (m:=400) mixed Tryz.func140 rfl rfl (Nat.le_of_ble_eq_true rfl) ?_
 simp only[nt,rs]
 clear nt rs
 (try refine am ?_);(try exact amT)
 repeat' with_reducible first|apply zA|intro _
 all_goals try exact amA
 all_goals first|exact absurd (by assumption) h1|exact absurd (by assumption) h6|skip
 refine FinK.val1 ?_ ?_
 all_goals try refine amF ?_
 all_goals try exact amT
 all_goals first|done|exact .refl _|exact ALe.of (.inr rfl) rfl (fun i hi=>by omega)
theorem specThr0R (n:Int) (h1:n≠1) (h6:n≠6):ACalls Tryz.prog 140 [.one (.int .i64 n)] (fun r=>r=.val (.one (.sl false (some false) 1 0 jF))):=ACalls.ro1 (specThr0 n h1 h6)
theorem implConfOk (c:DConf) (u v:Bool) (h:okConf (2^47) c):ACalls Tryz.prog 133 [.agg (cConf u v c)] (fun q=>q=.val (.one (.bool (decide (confOk c))))):=by
 have hl:=h.1.1.1
 by_cases h16:c.lambda=1∨c.lambda=6
 ·have nt:Tryz.f133.ntmps=48:=rfl
  have rs:Tryz.f133.results=#[.tmp 2]:=rfl
  refine ACalls.of_run (m:=400) mixed Tryz.func133 rfl rfl (Nat.le_of_ble_eq_true rfl) ?_
  simp only[nt,rs]
  clear nt rs
  (try refine am ?_);(try exact amT)
  refine CallK.one (implSchemaOk c.schema _ _ h.1) (fun _=>amC) ?_
  (try refine am ?_);(try exact amT)
  repeat' with_reducible first|apply zA|intro _
  all_goals try exact amA
  refine CallG.one rfl (fun hg=>implRuleOk c.rule h.2.1) ?_
  (try refine am ?_);(try exact amT)
  repeat' with_reducible first|apply zA|intro _
  all_goals try exact amA
  refine CallG.one rfl (fun hg=>within c.members 1 4) ?_
  (try refine am ?_);(try exact amT)
  repeat' with_reducible first|apply zA|intro _
  all_goals try exact amA
  refine CallG.one rfl (fun hg=>within c.pick 1 c.schema.attrs.length) ?_
  (try refine am ?_);(try exact amT)
  repeat' with_reducible first|apply zA|intro _
  all_goals try exact amA
  refine CallG.one (a:=.one (.sl false (some false) 1 7 jF)) rfl (fun hg=>?_) ?_
  ·rcases h16 with e|e
   ·rw[e];exact ACalls.ro1 implThr1
   ·rw[e];exact ACalls.ro1 implThr6
  (try refine am ?_);(try exact amT)
  repeat' with_reducible first|apply zA|intro _
  all_goals try exact amA
  refine CallG.one rfl (fun hg=>within c.warn 1 9) ?_
  (try refine am ?_);(try exact amT)
  repeat' with_reducible first|apply zA|intro _
  all_goals try exact amA
  refine CallG.one rfl (fun hg=>within c.drift 1 9) ?_
  (try refine am ?_);(try exact amT)
  repeat' with_reducible first|apply zA|intro _
  all_goals try exact amA
  refine FinK.val1 ?_ ?_
  all_goals try refine amF ?_
  all_goals try exact amT
  refine decide_eq_decide.2 ?_
  unfold confOk
  exact⟨fun ⟨⟨⟨⟨⟨⟨a,b⟩,c⟩,d⟩,e⟩,f⟩,g⟩=>⟨a,b,c,d,h16,e,f,g⟩,fun ⟨a,b,c,d,_,e,f,g⟩=>⟨⟨⟨⟨⟨⟨a,b⟩,c⟩,d⟩,e⟩,f⟩,g⟩⟩
 ·have e0:decide (confOk c)=false:=decide_eq_false (fun e=>h16 e.2.2.2.2.1)
  rw[e0]
  have nt:Tryz.f133.ntmps=48:=rfl
  have rs:Tryz.f133.results=#[.tmp 2]:=rfl
  refine ACalls.of_run (m:=400) mixed Tryz.func133 rfl rfl (Nat.le_of_ble_eq_true rfl) ?_
  simp only[nt,rs]
  clear nt rs
  (try refine am ?_);(try exact amT)
  refine CallK.one (implSchemaOk c.schema _ _ h.1) (fun _=>amC) ?_
  (try refine am ?_);(try exact amT)
  repeat' with_reducible first|apply zA|intro _
  all_goals try exact amA
  refine CallG.one rfl (fun hg=>implRuleOk c.rule h.2.1) ?_
  (try refine am ?_);(try exact amT)
  repeat' with_reducible first|apply zA|intro _
  all_goals try exact amA
  refine CallG.one rfl (fun hg=>within c.members 1 4) ?_
  (try refine am ?_);(try exact amT)
  repeat' with_reducible first|apply zA|intro _
  all_goals try exact amA
  refine CallG.one rfl (fun hg=>within c.pick 1 c.schema.attrs.length) ?_
  (try refine am ?_);(try exact amT)
  repeat' with_reducible first|apply zA|intro _
  all_goals try exact amA
  refine CallG.one rfl (fun hg=>implThr0 c.lambda (fun e=>h16 (.inl e)) (fun e=>h16 (.inr e))) ?_
  (try refine am ?_);(try exact amT)
  repeat' with_reducible first|apply zA|intro _
  all_goals try exact amA
  refine CallG.one rfl (fun hg=>within c.warn 1 9) ?_
  (try refine am ?_);(try exact amT)
  repeat' with_reducible first|apply zA|intro _
  all_goals try exact amA
  refine CallG.one rfl (fun hg=>within c.drift 1 9) ?_
  (try refine am ?_);(try exact amT)
  repeat' with_reducible first|apply zA|intro _
  all_goals try exact amA
  refine FinK.val1 ?_ ?_
  all_goals try refine amF ?_
  all_goals try exact amT
theorem specConfOk (c:DConf) (u v:Bool) (h:okConf (2^47) c):ACalls Tryz.prog 95 [.agg (cConf u v c)] (fun q=>q=.val (.one (.bool (decide (confOk c))))):=by
 have hl:=h.1.1.1
 by_cases h16:c.lambda=1∨c.lambda=6
 ·have nt:Tryz.f95.ntmps=49:=rfl
  have rs:Tryz.f95.results=#[.tmp 2]:=rfl
  refine ACalls.of_run (m:=400) mixed Tryz.func95 rfl rfl (Nat.le_of_ble_eq_true rfl) ?_
  simp only[nt,rs]
  clear nt rs
  (try refine am ?_);(try exact amT)
  refine CallK.one (specSchemaOk c.schema _ _ h.1) (fun _=>amC) ?_
  (try refine am ?_);(try exact amT)
  repeat' with_reducible first|apply zA|intro _
  all_goals try exact amA
  refine CallG.one rfl (fun hg=>specRuleOk c.rule h.2.1) ?_
  (try refine am ?_);(try exact amT)
  repeat' with_reducible first|apply zA|intro _
  all_goals try exact amA
  refine CallG.one rfl (fun hg=>l1In c.members 1 4) ?_
  (try refine am ?_);(try exact amT)
  repeat' with_reducible first|apply zA|intro _
  all_goals try exact amA
  refine CallG.one rfl (fun hg=>l1In c.pick 1 c.schema.attrs.length) ?_
  (try refine am ?_);(try exact amT)
  repeat' with_reducible first|apply zA|intro _
  all_goals try exact amA
  refine CallG.one (a:=.one (.sl false (some false) 1 7 jF)) rfl (fun hg=>?_) ?_
  ·rcases h16 with e|e
   ·rw[e];exact ACalls.ro1 specThr1
   ·rw[e];exact ACalls.ro1 specThr6
  (try refine am ?_);(try exact amT)
  repeat' with_reducible first|apply zA|intro _
  all_goals try exact amA
  refine CallG.one rfl (fun hg=>l1In c.warn 1 9) ?_
  (try refine am ?_);(try exact amT)
  repeat' with_reducible first|apply zA|intro _
  all_goals try exact amA
  refine CallG.one rfl (fun hg=>l1In c.drift 1 9) ?_
  (try refine am ?_);(try exact amT)
  repeat' with_reducible first|apply zA|intro _
  all_goals try exact amA
  refine FinK.val1 ?_ ?_
  all_goals try refine amF ?_
  all_goals try exact amT
  refine decide_eq_decide.2 ?_
  unfold confOk
  exact⟨fun ⟨⟨⟨⟨⟨⟨⟨a,b⟩,c⟩,d⟩,_⟩,e⟩,f⟩,g⟩=>⟨a,b,c,d,h16,e,f,g⟩,fun ⟨a,b,c,d,_,e,f,g⟩=>⟨⟨⟨⟨⟨⟨⟨a,b⟩,c⟩,d⟩,by omega⟩,e⟩,f⟩,g⟩⟩
 ·have e0:decide (confOk c)=false:=decide_eq_false (fun e=>h16 e.2.2.2.2.1)
  rw[e0]
  have nt:Tryz.f95.ntmps=49:=rfl
  have rs:Tryz.f95.results=#[.tmp 2]:=rfl
  refine ACalls.of_run (m:=400) mixed Tryz.func95 rfl rfl (Nat.le_of_ble_eq_true rfl) ?_
  simp only[nt,rs]
  clear nt rs
  (try refine am ?_);(try exact amT)
  refine CallK.one (specSchemaOk c.schema _ _ h.1) (fun _=>amC) ?_
  (try refine am ?_);(try exact amT)
  repeat' with_reducible first|apply zA|intro _
  all_goals try exact amA
  refine CallG.one rfl (fun hg=>specRuleOk c.rule h.2.1) ?_
  (try refine am ?_);(try exact amT)
  repeat' with_reducible first|apply zA|intro _
  all_goals try exact amA
  refine CallG.one rfl (fun hg=>l1In c.members 1 4) ?_
  (try refine am ?_);(try exact amT)
  repeat' with_reducible first|apply zA|intro _
  all_goals try exact amA
  refine CallG.one rfl (fun hg=>l1In c.pick 1 c.schema.attrs.length) ?_
  (try refine am ?_);(try exact amT)
  repeat' with_reducible first|apply zA|intro _
  all_goals try exact amA
  refine CallG.one rfl (fun hg=>specThr0R c.lambda (fun e=>h16 (.inl e)) (fun e=>h16 (.inr e))) ?_
  (try refine am ?_);(try exact amT)
  repeat' with_reducible first|apply zA|intro _
  all_goals try exact amA
  refine CallG.one rfl (fun hg=>l1In c.warn 1 9) ?_
  (try refine am ?_);(try exact amT)
  repeat' with_reducible first|apply zA|intro _
  all_goals try exact amA
  refine CallG.one rfl (fun hg=>l1In c.drift 1 9) ?_
  (try refine am ?_);(try exact amT)
  repeat' with_reducible first|apply zA|intro _
  all_goals try exact amA
  refine FinK.val1 ?_ ?_
  all_goals try refine amF ?_
  all_goals try exact amT
end Go.AM
