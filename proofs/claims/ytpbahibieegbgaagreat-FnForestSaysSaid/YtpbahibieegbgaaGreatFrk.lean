/- Lemmas for the proof of this claim. -/
import Derived.Test.YtpbahibieegbgaaGreatSch
namespace Go.AM
set_option maxHeartbeats 64000000
open Go Go.Proofs
set_option maxRecDepth 100000
theorem implForkOk (s:DSchema) (f:DFork) (u v:Bool) (h:okSchema (2^47) s) (_:okFork (2^47) f):ACalls Tryz.prog 121 [.agg (cSchema u v s),.agg (cFork f)] (fun r=>r=.val (.one (.bool (decide (forkOk s f))))):=by
 have hl:=h.1.1
 have nt:Tryz.f121.ntmps=39:=rfl
 have rs:Tryz.f121.results=#[.tmp 4]:=rfl
 refine ACalls.of_run (m:=400) mixed Tryz.func121 rfl rfl (Nat.le_of_ble_eq_true rfl) ?_
 simp only[nt,rs]
 clear nt rs
 (try refine am ?_);(try exact amT)
 refine CallK.one (implSchemaOk s _ _ h) (fun _=>amC) ?_
 (try refine am ?_);(try exact amT)
 repeat' with_reducible first|apply zA|intro _
 all_goals try exact amA
 refine CallG.one rfl (fun hg=>within f.attr 0 (s.attrs.length - 1)) ?_
 (try refine am ?_);(try exact amT)
 repeat' with_reducible first|apply zA|intro _
 all_goals try exact amA
 ·refine FinK.val1 ?_ ?_
  all_goals try refine amF ?_
  all_goals try exact amT
  rename_i h1
  refine(decide_eq_false (fun e=>?_)).symm
  rcases h1 with h1|h1
  ·exact h1 e.1
  ·exact h1 e.2.1
 rename_i h1
 have hat:=h1.1.2.2.2.1 f.attr.toNat (by omega)
 have hb:=attrOk_bins hat
 have hk:=h.1.2 _ (getD_mem (d:=default) (show f.attr.toNat<s.attrs.length by omega))
 have hc:=hk.2.1.1
 refine CallK.one (implBins (s.attrs.getD f.attr.toNat default) _ false hk) (fun _=>amC) ?_
 (try refine am ?_);(try exact amT)
 repeat' with_reducible first|apply zA|intro _
 all_goals try exact amA
 ·refine CallK.one (within f.at_ (-1) _) (fun _=>amC) ?_
  (try refine am ?_);(try exact amT)
  refine FinK.val1 ?_ ?_
  all_goals try refine amF ?_
  all_goals try exact amT
  rename_i h2
  exact decide_eq_decide.2 ⟨fun e=>⟨h1.1,h1.2,e.1,by rw[if_pos (by omega)];omega⟩,fun e=>by have:=e.2.2;rw[if_pos (by omega)] at this;omega⟩
 ·refine CallK.one (within f.at_ (-1) _) (fun _=>amC) ?_
  (try refine am ?_);(try exact amT)
  refine FinK.val1 ?_ ?_
  all_goals try refine amF ?_
  all_goals try exact amT
  rename_i h2
  exact decide_eq_decide.2 ⟨fun e=>⟨h1.1,h1.2,e.1,by rw[if_neg (by omega)];omega⟩,fun e=>by have:=e.2.2;rw[if_neg (by omega)] at this;omega⟩
theorem specForkOk (s:DSchema) (f:DFork) (u v:Bool) (h:okSchema (2^47) s) (_:okFork (2^47) f):ACalls Tryz.prog 78 [.agg (cSchema u v s),.agg (cFork f)] (fun r=>r=.val (.one (.bool (decide (forkOk s f))))):=by
 have hl:=h.1.1
 have nt:Tryz.f78.ntmps=49:=rfl
 have rs:Tryz.f78.results=#[.tmp 4]:=rfl
 refine ACalls.of_run (m:=400) mixed Tryz.func78 rfl rfl (Nat.le_of_ble_eq_true rfl) ?_
 simp only[nt,rs]
 clear nt rs
 (try refine am ?_);(try exact amT)
 refine CallK.one (specSchemaOk s _ _ h) (fun _=>amC) ?_
 (try refine am ?_);(try exact amT)
 repeat' with_reducible first|apply zA|intro _
 all_goals try exact amA
 refine CallG.one rfl (fun hg=>l1In f.attr 0 (s.attrs.length - 1)) ?_
 (try refine am ?_);(try exact amT)
 repeat' with_reducible first|apply zA|intro _
 all_goals try exact amA
 ·refine FinK.val1 ?_ ?_
  all_goals try refine amF ?_
  all_goals try exact amT
  rename_i h1
  refine(decide_eq_false (fun e=>?_)).symm
  rcases h1 with h1|h1
  ·exact h1 e.1
  ·exact h1 e.2.1
 ·rename_i h1 h2
  have hat:=h1.1.2.2.2.1 f.attr.toNat (by omega)
  have hb:=attrOk_bins hat
  have hk:=h.1.2 _ (getD_mem (d:=default) (show f.attr.toNat<s.attrs.length by omega))
  refine CallE.one (specBins (s.attrs.getD f.attr.toNat default) _ false hk) (fun _=>amC) rfl ?_
  (try refine am ?_);(try exact amT)
  (try refine am ?_);(try simp only[if_pos hat]);(try refine am ?_);(try exact amT)
  repeat' with_reducible first|apply zA|intro _
  all_goals try exact amA
  refine CallE.one (l1In f.at_ (-1) _) (fun _=>amC) rfl ?_
  (try refine am ?_);(try exact amT)
  repeat' with_reducible first|apply zA|intro _
  all_goals try exact amA
  refine FinK.val1 ?_ ?_
  all_goals try refine amF ?_
  all_goals try exact amT
  exact decide_eq_decide.2 ⟨fun e=>⟨h1.1,h1.2,e.1,by rw[if_pos (by omega)];omega⟩,fun e=>by have:=e.2.2;rw[if_pos (by omega)] at this;omega⟩
 ·rename_i h1 h2
  have hat:=h1.1.2.2.2.1 f.attr.toNat (by omega)
  have hb:=attrOk_bins hat
  have hk:=h.1.2 _ (getD_mem (d:=default) (show f.attr.toNat<s.attrs.length by omega))
  refine CallE.one (specBins (s.attrs.getD f.attr.toNat default) _ false hk) (fun _=>amC) rfl ?_
  (try refine am ?_);(try exact amT)
  (try refine am ?_);(try simp only[if_pos hat]);(try refine am ?_);(try exact amT)
  repeat' with_reducible first|apply zA|intro _
  all_goals try exact amA
  refine CallE.one (l1In f.at_ (-1) _) (fun _=>amC) rfl ?_
  (try refine am ?_);(try exact amT)
  repeat' with_reducible first|apply zA|intro _
  all_goals try exact amA
  refine FinK.val1 ?_ ?_
  all_goals try refine amF ?_
  all_goals try exact amT
  exact decide_eq_decide.2 ⟨fun e=>⟨h1.1,h1.2,e.1,by rw[if_neg (by omega)];omega⟩,fun e=>by have:=e.2.2;rw[if_neg (by omega)] at this;omega⟩
theorem implBranches (s:DSchema) (f:DFork) (u v:Bool) (h:okSchema (2^47) s) (hf:okFork (2^47) f):ACalls Tryz.prog 71 [.agg (cSchema u v s),.agg (cFork f)] (fun r=>r=.val (.one (.int .i64 (branches s f)))):=by
 have hl:=h.1.1
 by_cases h1:forkOk s f
 ·have hr:=h1.2.1
  have hat:=h1.1.2.2.2.1 f.attr.toNat (by omega)
  have hk:=h.1.2 _ (getD_mem (d:=default) (show f.attr.toNat<s.attrs.length by omega))
  have nt:Tryz.f71.ntmps=21:=rfl
  have rs:Tryz.f71.results=#[.tmp 4]:=rfl
  refine ACalls.of_run (m:=400) mixed Tryz.func71 rfl rfl (Nat.le_of_ble_eq_true rfl) ?_
  simp only[nt,rs]
  clear nt rs
  (try refine am ?_);(try exact amT)
  refine CallK.one (implForkOk s f _ _ h hf) (fun _=>amC) ?_
  (try refine am ?_);(try exact amT)
  repeat' with_reducible first|apply zA|intro _
  all_goals try exact amA
  ·rename_i h9
   exact absurd h1 h9
  ·rename_i h8 h2
   refine CallK.one (implBins (s.attrs.getD f.attr.toNat default) _ false hk) (fun _=>amC) ?_
   (try refine am ?_);(try exact amT)
   skip
   refine FinK.val1 ?_ ?_
   all_goals try refine amF ?_
   all_goals try exact amT
   have e:branches s f=bins (s.attrs.getD f.attr.toNat default):=by unfold branches;rw[if_pos h1,if_pos (by omega)]
   rw[e]
  ·rename_i h8 h2
   refine FinK.val1 ?_ ?_
   all_goals try refine amF ?_
   all_goals try exact amT
   have e:branches s f=2:=by unfold branches;rw[if_pos h1,if_neg (by omega)]
   rw[e]
   rfl
 ·have nt:Tryz.f71.ntmps=21:=rfl
  have rs:Tryz.f71.results=#[.tmp 4]:=rfl
  refine ACalls.of_run (m:=400) mixed Tryz.func71 rfl rfl (Nat.le_of_ble_eq_true rfl) ?_
  simp only[nt,rs]
  clear nt rs
  (try refine am ?_);(try exact amT)
  refine CallK.one (implForkOk s f _ _ h hf) (fun _=>amC) ?_
  (try refine am ?_);(try exact amT)
  repeat' with_reducible first|apply zA|intro _
  all_goals try exact amA
  all_goals try exact absurd (by assumption) h1
  refine FinK.val1 ?_ ?_
  all_goals try refine amF ?_
  all_goals try exact amT
  exact(congrArg (Nat.cast:Nat→Int) (if_neg h1:branches s f=0)).symm
theorem implBranchOf (s:DSchema) (f:DFork) (b:Int) (u v:Bool) (h:okSchema (2^47) s) (hf:okFork (2^47) f) (_:inK .i64 b):ACalls Tryz.prog 127 [.agg (cSchema u v s),.agg (cFork f),.one (.int .i64 b)] (fun r=>r=.val (.one (.int .i64 (branchOf s f b)))):=by
 have hl:=h.1.1
 by_cases h1:forkOk s f
 ·have hr:=h1.2.1
  have hat:=h1.1.2.2.2.1 f.attr.toNat (by omega)
  have hbn:=attrOk_bins hat
  have hk:=h.1.2 _ (getD_mem (d:=default) (show f.attr.toNat<s.attrs.length by omega))
  have hkc:=hk.2.1.1
  have nt:Tryz.f127.ntmps=51:=rfl
  have rs:Tryz.f127.results=#[.tmp 6]:=rfl
  refine ACalls.of_run (m:=400) mixed Tryz.func127 rfl rfl (Nat.le_of_ble_eq_true rfl) ?_
  simp only[nt,rs]
  clear nt rs
  (try refine am ?_);(try exact amT)
  refine CallK.one (implForkOk s f _ _ h hf) (fun _=>amC) ?_
  (try refine am ?_);(try exact amT)
  repeat' with_reducible first|apply zA|intro _
  all_goals try exact amA
  refine CallG.one rfl (fun hg=>implBins (s.attrs.getD f.attr.toNat default) _ false hk) ?_
  (try refine am ?_);(try exact amT)
  skip
  repeat' with_reducible first|apply zA|intro _
  all_goals try exact amA
  refine CallG.one rfl (fun hg=>within b 0 _) ?_
  (try refine am ?_);(try exact amT)
  repeat' with_reducible first|apply zA|intro _
  all_goals try exact amA
  ·refine FinK.val1 ?_ ?_
   all_goals try refine amF ?_
   all_goals try exact amT
   rename_i h9
   exact(if_neg (fun e=>by rcases h9 with h9|h9;exact h9 h1;exact h9 e.2)).symm
  ·refine FinK.val1 ?_ ?_
   all_goals try refine amF ?_
   all_goals try exact amT
   rename_i h9 h10
   unfold branchOf
   rw[if_pos ⟨h1,h9.2⟩,if_pos (by omega)]
  ·refine FinK.val1 ?_ ?_
   all_goals try refine amF ?_
   all_goals try exact amT
   rename_i h9 h10 h11
   unfold branchOf
   rw[if_pos ⟨h1,h9.2⟩,if_neg (by omega),if_pos (by omega)]
  ·refine FinK.val1 ?_ ?_
   all_goals try refine amF ?_
   all_goals try exact amT
   rename_i h9 h10 h11
   unfold branchOf
   rw[if_pos ⟨h1,h9.2⟩,if_neg (by omega),if_neg (by omega)]
 ·have e:branchOf s f b= -1:=if_neg (fun e=>h1 e.1)
  rw[e]
  have nt:Tryz.f127.ntmps=51:=rfl
  have rs:Tryz.f127.results=#[.tmp 6]:=rfl
  refine ACalls.of_run (m:=400) mixed Tryz.func127 rfl rfl (Nat.le_of_ble_eq_true rfl) ?_
  simp only[nt,rs]
  clear nt rs
  (try refine am ?_);(try exact amT)
  refine CallK.one (implForkOk s f _ _ h hf) (fun _=>amC) ?_
  (try refine am ?_);(try exact amT)
  repeat' with_reducible first|apply zA|intro _
  all_goals try exact amA
  all_goals try exact absurd (by assumption) h1
  refine CallG.one (a:=.one (.int .i64 0)) rfl (fun hg=>absurd (of_decide_eq_true hg) h1) ?_
  (try refine am ?_);(try exact amT)
  repeat' with_reducible first|apply zA|intro _
  all_goals try exact amA
  refine CallG.one rfl (fun hg=>within b 0 _) ?_
  (try refine am ?_);(try exact amT)
  repeat' with_reducible first|apply zA|intro _
  all_goals try exact amA
  ·refine FinK.val1 ?_ ?_
   all_goals try refine amF ?_
   all_goals try exact amT
  all_goals exact absurd (And.left (by assumption)) h1
theorem specBranches (s:DSchema) (f:DFork) (u v:Bool) (h:okSchema (2^47) s) (hf:okFork (2^47) f):ACalls Tryz.prog 66 [.agg (cSchema u v s),.agg (cFork f)] (fun r=>r=.val (.one (.int .i64 (branches s f)))):=by
 have hl:=h.1.1
 by_cases h1:forkOk s f
 ·have hr:=h1.2.1
  have hat:=h1.1.2.2.2.1 f.attr.toNat (by omega)
  have hk:=h.1.2 _ (getD_mem (d:=default) (show f.attr.toNat<s.attrs.length by omega))
  have hbe:(if attrOk (s.attrs.getD f.attr.toNat default) then bins (s.attrs.getD f.attr.toNat default) else 0)=bins (s.attrs.getD f.attr.toNat default):=if_pos hat
  have nt:Tryz.f66.ntmps=19:=rfl
  have rs:Tryz.f66.results=#[.tmp 4]:=rfl
  refine ACalls.of_run (m:=400) mixed Tryz.func66 rfl rfl (Nat.le_of_ble_eq_true rfl) ?_
  simp only[nt,rs]
  clear nt rs
  (try refine am ?_);(try exact amT)
  refine CallK.one (specForkOk s f _ _ h hf) (fun _=>amC) ?_
  (try refine am ?_);(try exact amT)
  repeat' with_reducible first|apply zA|intro _
  all_goals try exact amA
  ·rename_i h9
   exact absurd h1 h9
  ·rename_i h8 h2
   refine CallK.one (specBins (s.attrs.getD f.attr.toNat default) _ false hk) (fun _=>amC) ?_
   (try refine am ?_);(try exact amT)
   (try refine am ?_);(try simp only[hbe]);(try refine am ?_);(try exact amT)
   refine FinK.val1 ?_ ?_
   all_goals try refine amF ?_
   all_goals try exact amT
   have e:branches s f=bins (s.attrs.getD f.attr.toNat default):=by unfold branches;rw[if_pos h1,if_pos (by omega)]
   rw[e]
  ·rename_i h8 h2
   refine FinK.val1 ?_ ?_
   all_goals try refine amF ?_
   all_goals try exact amT
   have e:branches s f=2:=by unfold branches;rw[if_pos h1,if_neg (by omega)]
   rw[e]
   rfl
 ·have nt:Tryz.f66.ntmps=19:=rfl
  have rs:Tryz.f66.results=#[.tmp 4]:=rfl
  refine ACalls.of_run (m:=400) mixed Tryz.func66 rfl rfl (Nat.le_of_ble_eq_true rfl) ?_
  simp only[nt,rs]
  clear nt rs
  (try refine am ?_);(try exact amT)
  refine CallK.one (specForkOk s f _ _ h hf) (fun _=>amC) ?_
  (try refine am ?_);(try exact amT)
  repeat' with_reducible first|apply zA|intro _
  all_goals try exact amA
  all_goals try exact absurd (by assumption) h1
  refine FinK.val1 ?_ ?_
  all_goals try refine amF ?_
  all_goals try exact amT
  exact(congrArg (Nat.cast:Nat→Int) (if_neg h1:branches s f=0)).symm
theorem l1Bit (b:Bool):ACalls Tryz.prog 179 [.one (.bool b)] (fun r=>r=.val (.one (.int .i64 (if b=true then 1 else 0)))):=by
 have nt:Tryz.f179.ntmps=4:=rfl
 have rs:Tryz.f179.results=#[.tmp 2]:=rfl
 refine ACalls.of_run (m:=400) mixed Tryz.func179 rfl rfl (Nat.le_of_ble_eq_true rfl) ?_
 simp only[nt,rs]
 clear nt rs
 (try refine am ?_);(try exact amT)
 repeat' with_reducible first|apply zA|intro _
 all_goals try exact amA
 ·refine FinK.val1 ?_ ?_
  all_goals try refine amF ?_
  all_goals try exact amT
  rename_i h
  rw[if_pos h]
 ·refine FinK.val1 ?_ ?_
  all_goals try refine amF ?_
  all_goals try exact amT
  rename_i h
  rw[if_neg (by simp[h])]
theorem specBranchOf (s:DSchema) (f:DFork) (b:Int) (u v:Bool) (h:okSchema (2^47) s) (hf:okFork (2^47) f) (_:inK .i64 b):ACalls Tryz.prog 154 [.agg (cSchema u v s),.agg (cFork f),.one (.int .i64 b)] (fun r=>r=.val (.one (.int .i64 (branchOf s f b)))):=by
 have hl:=h.1.1
 by_cases h1:forkOk s f
 ·have hr:=h1.2.1
  have hat:=h1.1.2.2.2.1 f.attr.toNat (by omega)
  have hbn:=attrOk_bins hat
  have hk:=h.1.2 _ (getD_mem (d:=default) (show f.attr.toNat<s.attrs.length by omega))
  have hkc:=hk.2.1.1
  have hbe:(if attrOk (s.attrs.getD f.attr.toNat default) then bins (s.attrs.getD f.attr.toNat default) else 0)=bins (s.attrs.getD f.attr.toNat default):=if_pos hat
  have nt:Tryz.f154.ntmps=47:=rfl
  have rs:Tryz.f154.results=#[.tmp 6]:=rfl
  refine ACalls.of_run (m:=400) mixed Tryz.func154 rfl rfl (Nat.le_of_ble_eq_true rfl) ?_
  simp only[nt,rs]
  clear nt rs
  (try refine am ?_);(try exact amT)
  refine CallK.one (specForkOk s f _ _ h hf) (fun _=>amC) ?_
  (try refine am ?_);(try exact amT)
  repeat' with_reducible first|apply zA|intro _
  all_goals try exact amA
  refine CallG.one rfl (fun hg=>specBins (s.attrs.getD f.attr.toNat default) _ false hk) ?_
  (try refine am ?_);(try exact amT)
  (try refine am ?_);(try simp only[hbe]);(try refine am ?_);(try exact amT)
  repeat' with_reducible first|apply zA|intro _
  all_goals try exact amA
  refine CallG.one rfl (fun hg=>l1In b 0 _) ?_
  (try refine am ?_);(try exact amT)
  repeat' with_reducible first|apply zA|intro _
  all_goals try exact amA
  ·refine FinK.val1 ?_ ?_
   all_goals try refine amF ?_
   all_goals try exact amT
   rename_i h9
   exact(if_neg (fun e=>by rcases h9 with h9|h9;exact h9 h1;exact h9 e.2)).symm
  ·refine FinK.val1 ?_ ?_
   all_goals try refine amF ?_
   all_goals try exact amT
   rename_i h9 h10
   unfold branchOf
   rw[if_pos ⟨h1,h9.2⟩,if_pos (by omega)]
  ·rename_i h9 h10 h11
   refine CallK.one (l1Bit _) (fun _=>amC) ?_
   (try refine am ?_);(try exact amT)
   refine FinK.val1 ?_ ?_
   all_goals try refine amF ?_
   all_goals try exact amT
   have e:branchOf s f b=if b=f.at_∨0<(s.attrs.getD f.attr.toNat default).cuts.length∧b<f.at_ then 0 else 1:=by
    unfold branchOf
    rw[if_pos ⟨h1,h9.2⟩,if_neg (by omega)]
   rw[e]
   by_cases hx:f.at_<b
   ·rw[if_pos hx,if_neg (by omega)]
   ·rw[if_neg hx,if_pos (by omega)]
  ·rename_i h9 h10 h11
   refine CallK.one (l1Bit _) (fun _=>amC) ?_
   (try refine am ?_);(try exact amT)
   refine FinK.val1 ?_ ?_
   all_goals try refine amF ?_
   all_goals try exact amT
   have e:branchOf s f b=if b=f.at_∨0<(s.attrs.getD f.attr.toNat default).cuts.length∧b<f.at_ then 0 else 1:=by
    unfold branchOf
    rw[if_pos ⟨h1,h9.2⟩,if_neg (by omega)]
   rw[e]
   by_cases hx:b=f.at_
   ·rw[if_neg (by omega),if_pos (by omega)]
   ·rw[if_pos hx,if_neg (by omega)]
 ·have e:branchOf s f b= -1:=if_neg (fun e=>h1 e.1)
  rw[e]
  have nt:Tryz.f154.ntmps=47:=rfl
  have rs:Tryz.f154.results=#[.tmp 6]:=rfl
  refine ACalls.of_run (m:=400) mixed Tryz.func154 rfl rfl (Nat.le_of_ble_eq_true rfl) ?_
  simp only[nt,rs]
  clear nt rs
  (try refine am ?_);(try exact amT)
  refine CallK.one (specForkOk s f _ _ h hf) (fun _=>amC) ?_
  (try refine am ?_);(try exact amT)
  repeat' with_reducible first|apply zA|intro _
  all_goals try exact amA
  all_goals try exact absurd (by assumption) h1
  refine CallG.one (a:=.one (.int .i64 0)) rfl (fun hg=>absurd (of_decide_eq_true hg) h1) ?_
  (try refine am ?_);(try exact amT)
  repeat' with_reducible first|apply zA|intro _
  all_goals try exact amA
  refine CallG.one rfl (fun hg=>l1In b 0 _) ?_
  (try refine am ?_);(try exact amT)
  repeat' with_reducible first|apply zA|intro _
  all_goals try exact amA
  ·refine FinK.val1 ?_ ?_
   all_goals try refine amF ?_
   all_goals try exact amT
  all_goals exact absurd (And.left (by assumption)) h1
end Go.AM
namespace Go.AM
set_option maxHeartbeats 64000000
open Go Go.Proofs
set_option maxRecDepth 100000
theorem implAttrsOk (s:DSchema) (l:List Int) (u v u':Bool) (nl:Option Bool) (h:okSchema (2^47) s) (hl:l.length≤2^47):ACalls Tryz.prog 74 [.agg (cSchema u v s),.one (.sl u' nl 1 l.length (fI l))] (fun r=>r=.val (.one (.bool (decide (attrsOk s l))))):=by
 have hl0:=h.1.1
 have nt:Tryz.f74.ntmps=34:=rfl
 have rs:Tryz.f74.results=#[.tmp 4]:=rfl
 refine ACalls.of_run (m:=400) mixed Tryz.func74 rfl rfl (Nat.le_of_ble_eq_true rfl) ?_
 simp only[nt,rs]
 clear nt rs
 (try refine am ?_);(try exact amT)
 repeat' with_reducible first|apply zA|intro _
 all_goals try exact amA
 refine CallE.one (implSchemaOk s _ _ h) (fun _=>amC) rfl ?_
 (try refine am ?_);(try exact amT)
 repeat' with_reducible first|apply zA|intro _
 all_goals try exact amA
 refine CallEG.one rfl rfl (fun hg=>implAscending l _ _ hl) ?_
 (try refine am ?_);(try exact amT)
 have he:((l.length:Int) - 1).toNat=l.length - 1:=by omega
 (try refine am ?_);(try simp only[he]);(try refine am ?_);(try exact amT)
 repeat' with_reducible first|apply zA|intro _
 all_goals try exact amA
 refine FinK.val1 ?_ ?_
 all_goals try refine amF ?_
 all_goals try exact amT
 refine decide_eq_decide.2 ⟨fun e=>?_,fun e=>?_⟩
 ·obtain⟨⟨⟨⟨e1,e2⟩,e3⟩,e4⟩,e5⟩:=e
  refine⟨e1,by omega,e3,fun i hi=>?_⟩
  have h1:=asc_le e3 (i:=0) (j:=i) (by omega) hi
  have h2:=asc_le e3 (i:=i) (j:=l.length - 1) (by omega) (by omega)
  omega
 ·obtain⟨e1,e2,e3,e4⟩:=e
  have h1:=e4 0 e2
  have h2:=e4 (l.length - 1) (by omega)
  exact⟨⟨⟨⟨e1,by omega⟩,e3⟩,by omega⟩,by omega⟩
theorem specAttrsOk (s:DSchema) (l:List Int) (u v u':Bool) (nl:Option Bool) (h:okSchema (2^47) s) (hl:l.length≤2^47):ACalls Tryz.prog 79 [.agg (cSchema u v s),.one (.sl u' nl 1 l.length (fI l))] (fun r=>r=.val (.one (.bool (decide (attrsOk s l))))):=by
 have hl0:=h.1.1
 have nt:Tryz.f79.ntmps=46:=rfl
 have rs:Tryz.f79.results=#[.tmp 4]:=rfl
 refine ACalls.of_run (m:=400) mixed Tryz.func79 rfl rfl (Nat.le_of_ble_eq_true rfl) ?_
 simp only[nt,rs]
 clear nt rs
 (try refine am ?_);(try exact amT)
 refine CallK.one (specSchemaOk s _ _ h) (fun _=>amC) ?_
 (try refine am ?_);(try exact amT)
 repeat' with_reducible first|apply zA|intro _
 all_goals try exact amA
 ·refine FinK.val1 ?_ ?_
  all_goals try refine amF ?_
  all_goals try exact amT
  rename_i h1
  refine(decide_eq_false (fun e=>?_)).symm
  rcases h1 with h1|h1
  ·exact h1 e.1
  ·have:=e.2.1;omega
 rename_i h1
 refine LoopK.auto (Nat) (fun i=>[(5,.one (.av (.int .i64 i)))]) (fun i=>[]) [1,2] (k0:=?k01) (keepH:=?kh1) 400 (fun i=>i≤l.length∧(∀j,j<i→0≤l.getD j 0∧l.getD j 0≤(s.attrs.length:Int) - 1)∧∀j,j+1<i→l.getD j 0<l.getD (j+1) 0) (fun i=>l.length - i) (0) ?kea1 ?keb1 ?_ ?_ ?_
 case kea1=>exact amN
 case keb1=>exact amN
 ·exact⟨Nat.zero_le _,fun j hj=>by omega,fun j hj=>by omega⟩
 ·refine LeA [] ?_ ?_ ?_
  all_goals try refine amL ?_
  all_goals try exact amT
 ·intro i hi
  (try refine am ?_);(try exact amT)
  repeat' with_reducible first|apply zA|intro _
  all_goals try exact amA
  ·have hlt:i<l.length:=by assumption
   have e1:((i:Int) - 1).toNat=i - 1:=by omega
   refine CallE.one (l1In (l.getD i 0) 0 _) (fun _=>amC) rfl ?_
   (try refine am ?_);(try exact amT)
   repeat' with_reducible first|apply zA|intro _
   all_goals try exact amA
   ·refine FinK.val1 ?_ ?_
    all_goals try refine amF ?_
    all_goals try exact amT
    rename_i h6
    refine(decide_eq_false (fun e=>?_)).symm
    have e3:=e.2.2.2 i hlt
    rcases h6 with h6|⟨h6,h7⟩
    ·omega
    ·have e4:=e.2.2.1 (i - 1) (by omega)
     rw[e1] at h7
     have e5:i - 1+1=i:=by omega
     rw[e5] at e4
     omega
   ·rename_i h6
    refine⟨i+1,?_,⟨by omega,fun j hj=>?_,fun j hj=>?_⟩,by omega⟩
    ·refine LeA [] ?_ ?_ ?_
     all_goals try refine amL ?_
     all_goals try exact amT
    ·by_cases e:j=i
     ·rw[e];exact h6.1
     ·exact hi.2.1 j (by omega)
    ·by_cases e:j+1=i
     ·have e5:j=i - 1:=by omega
      have h7:=h6.2
      rw[e1] at h7
      rw[e,e5]
      omega
     ·exact hi.2.2 j (by omega)
  ·refine FinK.val1 ?_ ?_
   all_goals try refine amF ?_
   all_goals try exact amT
   exact(decide_eq_true ⟨h1.1,by omega,fun j hj=>hi.2.2 j (by omega),fun j hj=>hi.2.1 j (by omega)⟩).symm
theorem branches_le (s:DSchema) (f:DFork):branches s f≤4:=by
 unfold branches
 split
 ·rename_i h1
  split
  ·exact(attrOk_bins (h1.1.2.2.2.1 _ (by have:=h1.2.1;omega))).2
  ·omega
 ·omega
theorem bt_facts {s:DSchema} {t:DStats} {f:DFork} (hs:statsOk s t) (hc:t.cells.length≠0) (hf:forkOk s f):
 f.attr.toNat<s.attrs.length∧f.attr.toNat<t.cells.length∧(0≤f.attr∧f.attr<(s.attrs.length:Int)∧f.attr<(t.cells.length:Int))∧(2≤s.classes.length∧s.classes.length≤3)∧(2≤bins (s.attrs.getD f.attr.toNat default)∧bins (s.attrs.getD f.attr.toNat default)≤4)∧
  (t.cells.getD f.attr.toNat []).length=bins (s.attrs.getD f.attr.toNat default)*s.classes.length∧(t.cells.getD f.attr.toNat []).length≤12∧∀i,i<(t.cells.getD f.attr.toNat []).length→0≤(t.cells.getD f.attr.toNat []).getD i 0∧(t.cells.getD f.attr.toNat []).getD i 0≤999:=by
 have hr:=hf.2.1
 rcases hs.2.2.2 with h|⟨h1,h2⟩
 ·omega
 ·have h3:f.attr.toNat<s.attrs.length:=by omega
  have h4:=h2 f.attr.toNat (by omega)
  have h5:=attrOk_bins (hs.1.2.2.2.1 _ h3)
  have h6:=h4.1.1
  rw[←Int.natCast_mul] at h6
  have h7:bins (s.attrs.getD f.attr.toNat default)*s.classes.length≤4*3:=Nat.mul_le_mul h5.2 (by have:=hs.1.2.1;omega)
  exact⟨h3,by omega,⟨by omega,by omega,by omega⟩,hs.1.2.1,h5,by omega,by omega,h4.1.2⟩
theorem inK64 (n:Nat) (h:n≤2^47):inK .i64 (n:Int):=inK_bd (by omega)
theorem branchTotals1 (s:DSchema) (t:DStats) (f:DFork) (b:Int) (u v u' v':Bool) (h:okSchema (2^47) s) (_:okStats (2^47) t) (hf:okFork (2^47) f) (hs:statsOk s t) (hc:t.cells.length≠0) (hfo:forkOk s f):ACalls Tryz.prog 153 [.agg (cSchema u v s),.agg (cStats u' v' t),.agg (cFork f),.one (.int .i64 b)] (fun r=>r=.val (.one (.sl true (some false) 1 s.classes.length (fI (btL s t f b))))):=by
 obtain⟨g1,g2,⟨g3,g4,g5⟩,g6,g7,g8,g9,g10⟩:=bt_facts hs hc hfo
 have nt:Tryz.f153.ntmps=49:=rfl
 have rs:Tryz.f153.results=#[.tmp 8]:=rfl
 refine ACalls.of_run (m:=400) mixed Tryz.func153 rfl rfl (Nat.le_of_ble_eq_true rfl) ?_
 simp only[nt,rs]
 clear nt rs
 (try refine am ?_);(try exact amT)
 refine CallK.one (zerosI s.classes.length (by omega)) (fun _=>amC) ?_
 (try refine am ?_);(try exact amT)
 repeat' with_reducible first|apply zA|intro _
 all_goals try exact amA
 refine LoopK.auto (Nat) (fun k=>[(25,.one (.av (.int .i64 k))),(10,.one (.own 302 [] [0]))]) (fun k=>[(302,⟨.sl true (some false) 1 s.classes.length (fI (brL (t.cells.getD f.attr.toNat []) s.classes.length (btQ s f b) k)),[]⟩)]) [3,4,6,9,23,24] (k0:=?k02) (keepH:=?kh2) 400 (fun k=>k≤(t.cells.getD f.attr.toNat []).length) (fun k=>(t.cells.getD f.attr.toNat []).length - k) (0) ?kea2 ?keb2 ?_ ?_ ?_
 case kea2=>exact amN
 case keb2=>exact amN
 ·exact Nat.zero_le _
 ·refine LeA [] ?_ ?_ ?_
  all_goals try refine amL ?_
  all_goals try exact amT
  exact br0 (fun i hi=>by rw[fI_at];simp[List.getD,hi])
 ·intro k hk
  have hmod:k % s.classes.length<s.classes.length:=Nat.mod_lt _ (by omega)
  have hget:=brL_get (l:=t.cells.getD f.attr.toNat []) (m:=k) (q:=btQ s f b) hmod
  have hbd:=brS_bd (c:=s.classes.length) (k:=k % s.classes.length) (q:=btQ s f b) g10 hk
  have hx:¬k<(t.cells.getD f.attr.toNat []).length∨(0≤(t.cells.getD f.attr.toNat []).getD k 0∧(t.cells.getD f.attr.toNat []).getD k 0≤999):=by
   by_cases hkl:k<(t.cells.getD f.attr.toNat []).length
   ·exact .inr (g10 k hkl)
   ·exact .inl hkl
  (try refine am ?_);(try exact amT)
  generalize hq:k / s.classes.length=q
  have hqk:q≤k:=by rw[←hq];exact Nat.div_le_self _ _
  repeat' with_reducible first|apply zA|intro _
  all_goals try exact amA
  ·have hlt:k<(t.cells.getD f.attr.toNat []).length:=by assumption
   refine CallE.one (implBranchOf s f (q:Int) _ _ h hf (inK64 _ (by omega))) (fun _=>amC) rfl ?_
   (try refine am ?_);(try exact amT)
   (try refine am ?_);(try simp only[hget]);(try refine am ?_);(try exact amT)
   repeat' with_reducible first|apply zA|intro _
   all_goals try exact amA
   ·rename_i h1 h2
    refine⟨k+1,?_,by omega,by omega⟩
    refine LeA [] ?_ ?_ ?_
    all_goals try refine amL ?_
    all_goals try exact amT
    exact brLe (by omega) (by unfold btQ;rw[hq];exact decide_eq_true h2)
   ·rename_i h1 h2
    refine⟨k+1,?_,by omega,by omega⟩
    refine LeA [] ?_ ?_ ?_
    all_goals try refine amL ?_
    all_goals try exact amT
    exact brLe2 (by unfold btQ;rw[hq];exact decide_eq_false h2)
  ·have ek:k=(t.cells.getD f.attr.toNat []).length:=by omega
   subst ek
   refine FinK.val1 ?_ ?_
   all_goals try refine amF ?_
   all_goals try exact amT
   exact .refl _
theorem brL_bd {l:List Int} {c m:Nat} {q:Nat→Bool} (hl:l.length≤12) (hm:m≤l.length) (h:∀i,i<l.length→0≤l.getD i 0∧l.getD i 0≤999):∀i,i<(brL l c q m).length→0≤(brL l c q m).getD i 0∧(brL l c q m).getD i 0≤11988:=by
 intro i hi
 rw[brL_len] at hi
 rw[brL_get hi]
 have:=brS_bd (c:=c) (k:=i) (q:=q) h hm
 omega
theorem implBranchTotals (s:DSchema) (t:DStats) (f:DFork) (b:Int) (u v u' v':Bool) (h:okSchema (2^47) s) (h':okStats (2^47) t) (hf:okFork (2^47) f) (hs:statsOk s t∧t.cells.length≠0) (hb:0≤b∧b<(branches s f:Int)):ACalls Tryz.prog 123 [.agg (cSchema u v s),.agg (cStats u' v' t),.agg (cFork f),.one (.int .i64 b)] (fun r=>r=.val (.one (.sl true (some false) 1 s.classes.length (fI (btL s t f b))))):=by
 have hfo:forkOk s f:=by
  by_cases e:forkOk s f
  ·exact e
  ·have:branches s f=0:=if_neg e
   omega
 have hl:=h'.2.1
 have hbr:=branches_le s f
 have nt:Tryz.f123.ntmps=33:=rfl
 have rs:Tryz.f123.results=#[.tmp 8]:=rfl
 refine ACalls.of_run (m:=400) mixed Tryz.func123 rfl rfl (Nat.le_of_ble_eq_true rfl) ?_
 simp only[nt,rs]
 clear nt rs
 (try refine am ?_);(try exact amT)
 refine CallK.one (implStatsOk s t _ _ _ _ h h') (fun _=>amC) ?_
 (try refine am ?_);(try exact amT)
 repeat' with_reducible first|apply zA|intro _
 all_goals try exact amA
 refine CallG.one rfl (fun hg=>implBranches s f _ _ h hf) ?_
 (try refine am ?_);(try exact amT)
 repeat' with_reducible first|apply zA|intro _
 all_goals try exact amA
 refine CallG.one rfl (fun hg=>within b 0 _) ?_
 (try refine am ?_);(try exact amT)
 repeat' with_reducible first|apply zA|intro _
 all_goals try exact amA
 ·rename_i h1
  exfalso
  rcases h1 with (h1|h1)|h1
  ·exact h1 hs.1
  ·omega
  ·omega
 ·refine CallK.one (branchTotals1 s t f b _ _ _ _ h h' hf hs.1 hs.2 hfo) (fun _=>amC) ?_
  (try refine am ?_);(try exact amT)
  refine FinK.val1 ?_ ?_
  all_goals try refine amF ?_
  all_goals try exact amT
theorem implBranchTotals0 (s:DSchema) (t:DStats) (f:DFork) (b:Int) (u v u' v':Bool) (h:okSchema (2^47) s) (h':okStats (2^47) t) (hf:okFork (2^47) f) (hs:¬(statsOk s t∧t.cells.length≠0)):ACalls Tryz.prog 123 [.agg (cSchema u v s),.agg (cStats u' v' t),.agg (cFork f),.one (.int .i64 b)] (fun r=>r=.val (.one nilAV)):=by
 have hl:=h'.2.1
 have hbr:=branches_le s f
 have nt:Tryz.f123.ntmps=33:=rfl
 have rs:Tryz.f123.results=#[.tmp 8]:=rfl
 refine ACalls.of_run (m:=400) mixed Tryz.func123 rfl rfl (Nat.le_of_ble_eq_true rfl) ?_
 simp only[nt,rs]
 clear nt rs
 (try refine am ?_);(try exact amT)
 refine CallK.one (implStatsOk s t _ _ _ _ h h') (fun _=>amC) ?_
 (try refine am ?_);(try exact amT)
 repeat' with_reducible first|apply zA|intro _
 all_goals try exact amA
 refine CallG.one rfl (fun hg=>implBranches s f _ _ h hf) ?_
 (try refine am ?_);(try exact amT)
 repeat' with_reducible first|apply zA|intro _
 all_goals try exact amA
 refine CallG.one rfl (fun hg=>within b 0 _) ?_
 (try refine am ?_);(try exact amT)
 repeat' with_reducible first|apply zA|intro _
 all_goals try exact amA
 ·refine FinK.val1 ?_ ?_
  all_goals try refine amF ?_
  all_goals try exact amT
 ·rename_i h1
  exact absurd ⟨h1.1.1,by have:=h1.1.2;omega⟩ hs
theorem implHeaviest (s:DSchema) (t:DStats) (f:DFork) (u v u' v':Bool) (h:okSchema (2^47) s) (h':okStats (2^47) t) (hf:okFork (2^47) f):ACalls Tryz.prog 75 [.agg (cSchema u v s),.agg (cStats u' v' t),.agg (cFork f)] (fun r=>r=.val (.one (.int .i64 (heaviest s t f)))):=by
 by_cases hs:statsOk s t∧t.cells.length≠0
 ·have e:heaviest s t f=topOf ((List.range (branches s f)).map fun (i:Nat)=>tot1 (btL s t f (i:Int))):=if_pos hs
  rw[e]
  have hbr:=branches_le s f
  have nt:Tryz.f75.ntmps=32:=rfl
  have rs:Tryz.f75.results=#[.tmp 6]:=rfl
  refine ACalls.of_run (m:=400) mixed Tryz.func75 rfl rfl (Nat.le_of_ble_eq_true rfl) ?_
  simp only[nt,rs]
  clear nt rs
  (try refine am ?_);(try exact amT)
  repeat' with_reducible first|apply zA|intro _
  all_goals try exact amA
  refine CallK.one (implBranches s f _ _ h hf) (fun _=>amC) ?_
  (try refine am ?_);(try exact amT)
  refine LoopK.auto (Nat) (fun i=>[(14,.one (.av (.int .i64 i))),(7,.one (.own 302 [] [0]))]) (fun i=>[(302,⟨.sl true none 1 ((List.range i).map fun (i:Nat)=>tot1 (btL s t f (i:Int))).length (fI ((List.range i).map fun (i:Nat)=>tot1 (btL s t f (i:Int)))),[]⟩)]) [3,4,5,13] (k0:=?k03) (keepH:=?kh3) 400 (fun i=>i≤branches s f) (fun i=>branches s f - i) (0) ?kea3 ?keb3 ?_ ?_ ?_
  case kea3=>exact amN
  case keb3=>exact amN
  ·exact Nat.zero_le _
  ·refine LeA [] ?_ ?_ ?_
   all_goals try refine amL ?_
   all_goals try exact amT
   exact ALe.of (.inl rfl) rfl (fun i hi=>by omega)
  ·intro i hi
   have hL:((List.range i).map fun (i:Nat)=>tot1 (btL s t f (i:Int))).length≤4:=by simp;omega
   (try refine am ?_);(try exact amT)
   repeat' with_reducible first|apply zA|intro _
   all_goals try exact amA
   ·have hlt:i<branches s f:=by omega
    have hfo:forkOk s f:=by
     by_cases e:forkOk s f
     ·exact e
     ·have:branches s f=0:=if_neg e
      omega
    obtain⟨g1,g2,g3,g6,g7,g8,g9,g10⟩:=bt_facts hs.1 hs.2 hfo
    refine CallK.one (implBranchTotals s t f (i:Int) _ _ _ _ h h' hf hs ⟨by omega,by omega⟩) (fun _=>amC) ?_
    (try refine am ?_);(try exact amT)
    have hbl:(btL s t f (i:Int)).length=s.classes.length:=brL_len
    have hbb:∀j,j<(btL s t f (i:Int)).length→0≤(btL s t f (i:Int)).getD j 0∧(btL s t f (i:Int)).getD j 0≤11988:=brL_bd g9 (Nat.le_refl _) g10
    (try refine am ?_);(try simp only[←hbl]);(try refine am ?_);(try exact amT)
    repeat' with_reducible first|apply zA|intro _
    all_goals try exact amA
    refine CallK.one (totalI (btL s t f (i:Int)) _ _ 11988 (by omega) (by omega) hbb (by omega)) (fun _=>amC) ?_
    (try refine am ?_);(try exact amT)
    repeat' with_reducible first|apply zA|intro _
    all_goals try exact amA
    refine⟨i+1,?_,by omega,by omega⟩
    refine LeA [] ?_ ?_ ?_
    all_goals try refine amL ?_
    all_goals try exact amT
    refine appLe1 (x:=tot1 (btL s t f (i:Int))) ?_ rfl (.inl rfl)
    rw[List.range_succ,List.map_append]
    rfl
   ·have ei:i=branches s f:=by omega
    subst ei
    refine CallK.one (implTopOf _ _ _ (by omega)) (fun _=>amC) ?_
    (try refine am ?_);(try exact amT)
    refine FinK.val1 ?_ ?_
    all_goals try refine amF ?_
    all_goals try exact amT
 ·have e:heaviest s t f= -1:=if_neg hs
  rw[e]
  have nt:Tryz.f75.ntmps=32:=rfl
  have rs:Tryz.f75.results=#[.tmp 6]:=rfl
  refine ACalls.of_run (m:=400) mixed Tryz.func75 rfl rfl (Nat.le_of_ble_eq_true rfl) ?_
  simp only[nt,rs]
  clear nt rs
  (try refine am ?_);(try exact amT)
  repeat' with_reducible first|apply zA|intro _
  all_goals try exact amA
  refine CallK.one (implBranches s f _ _ h hf) (fun _=>amC) ?_
  (try refine am ?_);(try exact amT)
  refine LoopK.auto (Nat) (fun i=>[(14,.one (.av (.int .i64 i))),(7,.one (.own 302 [] [0]))]) (fun i=>[(302,⟨.sl true none 1 0 (fI []),[]⟩)]) [3,4,5,13] (k0:=?k04) (keepH:=?kh4) 400 (fun i=>i=0) (fun i=>i) (0) ?kea4 ?keb4 ?_ ?_ ?_
  case kea4=>exact amN
  case keb4=>exact amN
  ·rfl
  ·refine LeA [] ?_ ?_ ?_
   all_goals try refine amL ?_
   all_goals try exact amT
   exact ALe.of (.inl rfl) rfl (fun i hi=>by omega)
  ·intro i hi
   subst hi
   (try refine am ?_);(try exact amT)
   repeat' with_reducible first|apply zA|intro _
   all_goals try exact amA
   ·refine CallK.one (implBranchTotals0 s t f _ _ _ _ _ h h' hf hs) (fun _=>amC) ?_
    (try refine am ?_);(try exact amT)
    repeat' with_reducible first|apply zA|intro _
    all_goals try exact amA
    refine FinK.val1 ?_ ?_
    all_goals try refine amF ?_
    all_goals try exact amT
   ·refine CallK.one (implTopOf [] _ _ (by simp)) (fun _=>amC) ?_
    (try refine am ?_);(try exact amT)
    refine FinK.val1 ?_ ?_
    all_goals try refine amF ?_
    all_goals try exact amT
    rfl
end Go.AM
namespace Go.AM
set_option maxHeartbeats 64000000
open Go Go.Proofs
set_option maxRecDepth 100000
def brM (l:List Int) (c:Nat) (q:Nat→Bool) (b k:Nat):List Int:=(List.range c).map fun j=>brS l c q j (if j<k then (b+1)*c else b*c)
theorem brM_get {l:List Int} {c b k j:Nat} {q:Nat→Bool} (h:j<c):(brM l c q b k).getD j 0=brS l c q j (if j<k then (b+1)*c else b*c):=by simp[brM,List.getD,h]
theorem brM0 {l:List Int} {c b:Nat} {q:Nat→Bool}:brM l c q b 0=brL l c q (b*c):=by simp[brM,brL]
theorem brMc {l:List Int} {c b:Nat} {q:Nat→Bool}:brM l c q b c=brL l c q ((b+1)*c):=by
 unfold brM brL
 refine List.map_congr_left (fun j hj=>?_)
 rw[if_pos (List.mem_range.1 hj)]
theorem brMLe {l:List Int} {c b k:Nat} {q:Nat→Bool} {nl:Option Bool} (hk:k<c) (hq:q b=true):ALe (.sl true nl 1 c (fun i j=>if i=k∧0≤j∧j<0+1 then gl .junk [.int .i64 (brS l c q k (b*c)+l.getD (b*c+k) 0)] (j - 0) else fI (brM l c q b k) i j)) (.sl true nl 1 c (fI (brM l c q b (k+1)))):=by
 refine ALe.of (.inr rfl) rfl (fun i hi j hj=>?_)
 obtain rfl:j=0:=by omega
 by_cases e:i=k
 ·subst e
  rw[if_pos ⟨rfl,by omega,by omega⟩,fI_at,brM_get hi,if_pos (by omega),brS_row hk,if_pos hq]
  exact .refl _
 ·rw[if_neg (fun h=>e h.1),fI_at,fI_at,brM_get hi,brM_get hi]
  by_cases h2:i<k
  ·rw[if_pos h2,if_pos (by omega)];exact .refl _
  ·rw[if_neg h2,if_neg (by omega)];exact .refl _
theorem brStay {l:List Int} {c b:Nat} {q:Nat→Bool} (hq:q b=false):brL l c q ((b+1)*c)=brL l c q (b*c):=by
 unfold brL
 refine List.map_congr_left (fun j hj=>?_)
 rw[brS_row (List.mem_range.1 hj),if_neg (by rw[hq];simp),Int.add_zero]
theorem specBranchTotals0 (s:DSchema) (t:DStats) (f:DFork) (b:Int) (u v u' v':Bool) (h:okSchema (2^47) s) (h':okStats (2^47) t) (hf:okFork (2^47) f) (hs:¬(statsOk s t∧t.cells.length≠0)):ACalls Tryz.prog 124 [.agg (cSchema u v s),.agg (cStats u' v' t),.agg (cFork f),.one (.int .i64 b)] (fun r=>r=.val (.one (.sl true (some false) 1 0 (fI [])))):=by
 have hl:=h'.2.1
 have hbr:=branches_le s f
 have nt:Tryz.f124.ntmps=89:=rfl
 have rs:Tryz.f124.results=#[.tmp 8]:=rfl
 refine ACalls.of_run (m:=400) mixed Tryz.func124 rfl rfl (Nat.le_of_ble_eq_true rfl) ?_
 simp only[nt,rs]
 clear nt rs
 (try refine am ?_);(try exact amT)
 refine CallK.one (specStatsOk s t _ _ _ _ h h') (fun _=>amC) ?_
 (try refine am ?_);(try exact amT)
 repeat' with_reducible first|apply zA|intro _
 all_goals try exact amA
 refine CallG.one rfl (fun hg=>specForkOk s f _ _ h hf) ?_
 (try refine am ?_);(try exact amT)
 repeat' with_reducible first|apply zA|intro _
 all_goals try exact amA
 refine CallG.one rfl (fun hg=>specBranches s f _ _ h hf) ?_
 (try refine am ?_);(try exact amT)
 repeat' with_reducible first|apply zA|intro _
 all_goals try exact amA
 refine CallG.one rfl (fun hg=>l1In b 0 _) ?_
 (try refine am ?_);(try exact amT)
 repeat' with_reducible first|apply zA|intro _
 all_goals try exact amA
 ·refine FinK.val1 ?_ ?_
  all_goals try refine amF ?_
  all_goals try exact amT
  exact ALe.of (.inr rfl) rfl (fun i hi=>by omega)
 all_goals
  rename_i h1
  first|exact absurd ⟨h1.1.1.1,by have:=h1.1.1.2;omega⟩ hs|skip
theorem specBranchTotals (s:DSchema) (t:DStats) (f:DFork) (b:Int) (u v u' v':Bool) (h:okSchema (2^47) s) (h':okStats (2^47) t) (hf:okFork (2^47) f) (hs:statsOk s t∧t.cells.length≠0) (hb:0≤b∧b<(branches s f:Int)):ACalls Tryz.prog 124 [.agg (cSchema u v s),.agg (cStats u' v' t),.agg (cFork f),.one (.int .i64 b)] (fun r=>r=.val (.one (.sl true (some false) 1 s.classes.length (fI (btL s t f b))))):=by
 have hfo:forkOk s f:=by
  by_cases e:forkOk s f
  ·exact e
  ·have:branches s f=0:=if_neg e
   omega
 obtain⟨g1,g2,⟨g3,g4,g5⟩,g6,g7,g8,g9,g10⟩:=bt_facts hs.1 hs.2 hfo
 have hl:=h'.2.1
 have hbr:=branches_le s f
 have hat:=hfo.1.2.2.2.1 _ g1
 have hk:=h.1.2 _ (getD_mem (d:=default) g1)
 have hbe:(if attrOk (s.attrs.getD f.attr.toNat default) then bins (s.attrs.getD f.attr.toNat default) else 0)=bins (s.attrs.getD f.attr.toNat default):=if_pos hat
 have nt:Tryz.f124.ntmps=89:=rfl
 have rs:Tryz.f124.results=#[.tmp 8]:=rfl
 refine ACalls.of_run (m:=400) mixed Tryz.func124 rfl rfl (Nat.le_of_ble_eq_true rfl) ?_
 simp only[nt,rs]
 clear nt rs
 (try refine am ?_);(try exact amT)
 refine CallK.one (specStatsOk s t _ _ _ _ h h') (fun _=>amC) ?_
 (try refine am ?_);(try exact amT)
 repeat' with_reducible first|apply zA|intro _
 all_goals try exact amA
 refine CallG.one rfl (fun hg=>specForkOk s f _ _ h hf) ?_
 (try refine am ?_);(try exact amT)
 repeat' with_reducible first|apply zA|intro _
 all_goals try exact amA
 refine CallG.one rfl (fun hg=>specBranches s f _ _ h hf) ?_
 (try refine am ?_);(try exact amT)
 repeat' with_reducible first|apply zA|intro _
 all_goals try exact amA
 refine CallG.one rfl (fun hg=>l1In b 0 _) ?_
 (try refine am ?_);(try exact amT)
 repeat' with_reducible first|apply zA|intro _
 all_goals try exact amA
 ·rename_i h1
  exfalso
  rcases h1 with ((h1|h1)|h1)|h1
  ·exact h1 hs.1
  ·omega
  ·exact h1 hfo
  ·omega
 refine LoopK.auto (Nat) (fun q=>[(10,.one (.av (.int .i64 q))),(9,.one (.own 302 [] [0]))]) (fun q=>[(302,⟨.sl true (some false) 1 s.classes.length (fI (brL (t.cells.getD f.attr.toNat []) s.classes.length (btQ s f b) (q*s.classes.length))),[]⟩)]) [3,4,5,6] (k0:=?k01) (keepH:=?kh1) 400 (fun q=>q≤bins (s.attrs.getD f.attr.toNat default)) (fun q=>bins (s.attrs.getD f.attr.toNat default) - q) (0) ?kea1 ?keb1 ?_ ?_ ?_
 case kea1=>exact amN
 case keb1=>exact amN
 ·exact Nat.zero_le _
 ·refine LeA [] ?_ ?_ ?_
  all_goals try refine amL ?_
  all_goals try exact amT
  rw[Nat.zero_mul]
  exact br0 (fun i hi=>rfl)
 ·intro q hq
  (try refine am ?_);(try exact amT)
  repeat' with_reducible first|apply zA|intro _
  all_goals try exact amA
  refine CallK.one (specBins (s.attrs.getD f.attr.toNat default) _ false hk) (fun _=>amC) ?_
  (try refine am ?_);(try exact amT)
  (try refine am ?_);(try simp only[hbe]);(try refine am ?_);(try exact amT)
  repeat' with_reducible first|apply zA|intro _
  all_goals try exact amA
  ·have hlt:q<bins (s.attrs.getD f.attr.toNat default):=by assumption
   refine CallK.one (specBranchOf s f (q:Int) _ _ h hf (inK64 _ (by omega))) (fun _=>amC) ?_
   (try refine am ?_);(try exact amT)
   repeat' with_reducible first|apply zA|intro _
   all_goals try exact amA
   ·rename_i h2 h3
    have hQ:btQ s f b q=true:=decide_eq_true h3
    refine LoopK.auto (Nat) (fun k=>[(11,.one (.av (.int .i64 k))),(9,.one (.own 302 [] [0]))]) (fun k=>[(302,⟨.sl true (some false) 1 s.classes.length (fI (brM (t.cells.getD f.attr.toNat []) s.classes.length (btQ s f b) q k)),[]⟩)]) [3,4,5,6,10] (k0:=?k02) (keepH:=?kh2) 800 (fun k=>k≤s.classes.length) (fun k=>s.classes.length - k) (0) ?kea2 ?keb2 ?_ ?_ ?_
    case kea2=>exact amN
    case keb2=>exact amN
    ·exact Nat.zero_le _
    ·refine LeA [] ?_ ?_ ?_
     all_goals try refine amL ?_
     all_goals try exact amT
     rw[brM0]
     exact .refl _
    ·intro k hk2
     have e1:(q:Int)*s.classes.length=((q*s.classes.length:Nat):Int):=(Int.natCast_mul _ _).symm
     have hE:(((q*s.classes.length:Nat):Int)+(k:Int)).toNat=q*s.classes.length+k:=by omega
     have hub:¬k<s.classes.length∨q*s.classes.length+k<bins (s.attrs.getD f.attr.toNat default)*s.classes.length:=by
      have:=Nat.mul_le_mul_right s.classes.length (show q+1≤bins (s.attrs.getD f.attr.toNat default) by omega)
      rw[Nat.add_mul,Nat.one_mul] at this
      omega
     have hub2:q*s.classes.length≤12:=by
      have:=Nat.mul_le_mul_right s.classes.length (show q≤bins (s.attrs.getD f.attr.toNat default) by omega)
      omega
     have hx:¬k<s.classes.length∨((brM (t.cells.getD f.attr.toNat []) s.classes.length (btQ s f b) q k).getD k 0=brS (t.cells.getD f.attr.toNat []) s.classes.length (btQ s f b) k (q*s.classes.length)∧(0≤brS (t.cells.getD f.attr.toNat []) s.classes.length (btQ s f b) k (q*s.classes.length)∧brS (t.cells.getD f.attr.toNat []) s.classes.length (btQ s f b) k (q*s.classes.length)≤999*((q*s.classes.length:Nat):Int))∧0≤(t.cells.getD f.attr.toNat []).getD (q*s.classes.length+k) 0∧(t.cells.getD f.attr.toNat []).getD (q*s.classes.length+k) 0≤999):=by
      by_cases hkc:k<s.classes.length
      ·exact .inr ⟨by rw[brM_get hkc,if_neg (by omega)],brS_bd g10 (by omega),g10 _ (by omega)⟩
      ·exact .inl hkc
     (try refine am ?_);(try exact amT)
     (try refine am ?_);(try simp only[e1]);(try refine am ?_);(try exact amT)
     (try refine am ?_);(try simp only[hE]);(try refine am ?_);(try exact amT)
     repeat' with_reducible first|apply zA|intro _
     all_goals try exact amA
     ·have hkc:k<s.classes.length:=by assumption
      refine⟨k+1,?_,by omega,by omega⟩
      refine LeA [] ?_ ?_ ?_
      all_goals try refine amL ?_
      all_goals try exact amT
      rw[(hx.resolve_left (fun h=>h hkc)).1]
      exact brMLe hkc hQ
     ·have ek:k=s.classes.length:=by omega
      subst ek
      refine⟨q+1,?_,by omega,by omega⟩
      refine LeA [] ?_ ?_ ?_
      all_goals try refine amL ?_
      all_goals try exact amT
      rw[brMc]
      exact .refl _
   ·rename_i h2 h3
    have hQ:btQ s f b q=false:=decide_eq_false h3
    refine⟨q+1,?_,by omega,by omega⟩
    refine LeA [] ?_ ?_ ?_
    all_goals try refine amL ?_
    all_goals try exact amT
    rw[brStay hQ]
    exact .refl _
  ·have eq:q=bins (s.attrs.getD f.attr.toNat default):=by omega
   refine FinK.val1 ?_ ?_
   all_goals try refine amF ?_
   all_goals try exact amT
   unfold btL
   rw[g8,←eq]
   exact .refl _
theorem specHeaviest (s:DSchema) (t:DStats) (f:DFork) (u v u' v':Bool) (h:okSchema (2^47) s) (h':okStats (2^47) t) (hf:okFork (2^47) f):ACalls Tryz.prog 80 [.agg (cSchema u v s),.agg (cStats u' v' t),.agg (cFork f)] (fun r=>r=.val (.one (.int .i64 (heaviest s t f)))):=by
 have hbr:=branches_le s f
 by_cases hs:statsOk s t∧t.cells.length≠0
 ·have e:heaviest s t f=topOf ((List.range (branches s f)).map fun (i:Nat)=>tot1 (btL s t f (i:Int))):=if_pos hs
  rw[e]
  have nt:Tryz.f80.ntmps=33:=rfl
  have rs:Tryz.f80.results=#[.tmp 6]:=rfl
  refine ACalls.of_run (m:=400) mixed Tryz.func80 rfl rfl (Nat.le_of_ble_eq_true rfl) ?_
  simp only[nt,rs]
  clear nt rs
  (try refine am ?_);(try exact amT)
  repeat' with_reducible first|apply zA|intro _
  all_goals try exact amA
  refine LoopK.auto (Nat) (fun i=>[(8,.one (.av (.int .i64 i))),(7,.one (.own 302 [] [0]))]) (fun i=>[(302,⟨.sl true none 1 ((List.range i).map fun (i:Nat)=>tot1 (btL s t f (i:Int))).length (fI ((List.range i).map fun (i:Nat)=>tot1 (btL s t f (i:Int)))),[]⟩)]) [3,4,5] (k0:=?k03) (keepH:=?kh3) 400 (fun i=>i≤branches s f) (fun i=>branches s f - i) (0) ?kea3 ?keb3 ?_ ?_ ?_
  case kea3=>exact amN
  case keb3=>exact amN
  ·exact Nat.zero_le _
  ·refine LeA [] ?_ ?_ ?_
   all_goals try refine amL ?_
   all_goals try exact amT
   exact ALe.of (.inl rfl) rfl (fun i hi=>by omega)
  ·intro i hi
   have hL:((List.range i).map fun (i:Nat)=>tot1 (btL s t f (i:Int))).length≤4:=by simp;omega
   (try refine am ?_);(try exact amT)
   refine CallK.one (specBranches s f _ _ h hf) (fun _=>amC) ?_
   (try refine am ?_);(try exact amT)
   repeat' with_reducible first|apply zA|intro _
   all_goals try exact amA
   ·have hlt:i<branches s f:=by omega
    have hfo:forkOk s f:=by
     by_cases e:forkOk s f
     ·exact e
     ·have:branches s f=0:=if_neg e
      omega
    obtain⟨g1,g2,g3,g6,g7,g8,g9,g10⟩:=bt_facts hs.1 hs.2 hfo
    refine CallK.one (specBranchTotals s t f (i:Int) _ _ _ _ h h' hf hs ⟨by omega,by omega⟩) (fun _=>amC) ?_
    (try refine am ?_);(try exact amT)
    have hbl:(btL s t f (i:Int)).length=s.classes.length:=brL_len
    have hbb:∀j,j<(btL s t f (i:Int)).length→0≤(btL s t f (i:Int)).getD j 0∧(btL s t f (i:Int)).getD j 0≤11988:=brL_bd g9 (Nat.le_refl _) g10
    (try refine am ?_);(try simp only[←hbl]);(try refine am ?_);(try exact amT)
    repeat' with_reducible first|apply zA|intro _
    all_goals try exact amA
    refine CallK.one (l10Sum (btL s t f (i:Int)) _ _ 11988 (by omega) (by omega) hbb (by omega)) (fun _=>amC) ?_
    (try refine am ?_);(try exact amT)
    repeat' with_reducible first|apply zA|intro _
    all_goals try exact amA
    refine⟨i+1,?_,by omega,by omega⟩
    refine LeA [] ?_ ?_ ?_
    all_goals try refine amL ?_
    all_goals try exact amT
    refine appLe1 (x:=tot1 (btL s t f (i:Int))) ?_ rfl (.inl rfl)
    rw[List.range_succ,List.map_append]
    rfl
   ·have ei:i=branches s f:=by omega
    subst ei
    refine CallK.one (specTopOf _ _ _ (by omega)) (fun _=>amC) ?_
    (try refine am ?_);(try exact amT)
    refine FinK.val1 ?_ ?_
    all_goals try refine amF ?_
    all_goals try exact amT
 ·have e:heaviest s t f= -1:=if_neg hs
  rw[e]
  have nt:Tryz.f80.ntmps=33:=rfl
  have rs:Tryz.f80.results=#[.tmp 6]:=rfl
  refine ACalls.of_run (m:=400) mixed Tryz.func80 rfl rfl (Nat.le_of_ble_eq_true rfl) ?_
  simp only[nt,rs]
  clear nt rs
  (try refine am ?_);(try exact amT)
  repeat' with_reducible first|apply zA|intro _
  all_goals try exact amA
  refine LoopK.auto (Nat) (fun i=>[(8,.one (.av (.int .i64 i))),(7,.one (.own 302 [] [0]))]) (fun i=>[(302,⟨.sl true none 1 0 (fI []),[]⟩)]) [3,4,5] (k0:=?k04) (keepH:=?kh4) 400 (fun i=>i=0) (fun i=>i) (0) ?kea4 ?keb4 ?_ ?_ ?_
  case kea4=>exact amN
  case keb4=>exact amN
  ·rfl
  ·refine LeA [] ?_ ?_ ?_
   all_goals try refine amL ?_
   all_goals try exact amT
   exact ALe.of (.inl rfl) rfl (fun i hi=>by omega)
  ·intro i hi
   subst hi
   (try refine am ?_);(try exact amT)
   refine CallK.one (specBranches s f _ _ h hf) (fun _=>amC) ?_
   (try refine am ?_);(try exact amT)
   repeat' with_reducible first|apply zA|intro _
   all_goals try exact amA
   ·refine CallK.one (specBranchTotals0 s t f _ _ _ _ _ h h' hf hs) (fun _=>amC) ?_
    (try refine am ?_);(try exact amT)
    repeat' with_reducible first|apply zA|intro _
    all_goals try exact amA
    refine FinK.val1 ?_ ?_
    all_goals try refine amF ?_
    all_goals try exact amT
   ·refine CallK.one (specTopOf [] _ _ (by simp)) (fun _=>amC) ?_
    (try refine am ?_);(try exact amT)
    refine FinK.val1 ?_ ?_
    all_goals try refine amF ?_
    all_goals try exact amT
    rfl
end Go.AM
