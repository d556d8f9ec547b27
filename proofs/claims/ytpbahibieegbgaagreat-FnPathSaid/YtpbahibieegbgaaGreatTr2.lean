/- Lemmas for the proof of this claim. -/
import Derived.Test.YtpbahibieegbgaaGreatFrk
import Derived.Test.YtpbahibieegbgaaGreatUni
namespace Go.AM
set_option maxHeartbeats 64000000
open Go Go.Proofs
set_option maxRecDepth 100000
theorem branches_pos {s:DSchema} {f:DFork}:forkOk s f↔branches s f≠0:=by
 unfold branches
 by_cases h:forkOk s f
 ·rw[if_pos h]
  refine⟨fun _=>?_,fun _=>h⟩
  split
  ·have:=attrOk_bins (h.1.2.2.2.1 f.attr.toNat (by have:=h.2.1;omega))
   omega
  ·omega
 ·rw[if_neg h]
  exact⟨fun e=>absurd e h,fun e=>absurd rfl e⟩
theorem nodeOk1 (x:Int) (i:Nat) (t:DTree) (u v:Bool) (m1 m2:Nat) (g1 g2:Nat→AV) (h:okTree (2^47) t) (hi:i<t.nodes.length) (hm1:1≤m1) (hm2:1≤m2) (e1:g1 0=.int .i64 i) (e2:g2 0=aNode u v t.nodes):ACalls Tryz.prog 114 [.one (.int .i64 x),.one (.ptr m1 g1),.one (.ptr m2 g2)] (fun r=>r=.val (.one (.bool (!decide (kidOk t i x))))):=by
 have hl:=h.1.1
 have nt:Tryz.f114.ntmps=24:=rfl
 have rs:Tryz.f114.results=#[.tmp 4]:=rfl
 refine ACalls.of_run (m:=400) mixed Tryz.func114 rfl rfl (Nat.le_of_ble_eq_true rfl) ?_
 simp only[nt,rs]
 clear nt rs
 (try refine am ?_);(try exact amT)
 (try refine am ?_);(try simp only[e1,e2]);(try refine am ?_);(try exact amT)
 repeat' with_reducible first|apply zA|intro _
 all_goals try exact amA
 refine CallE.one (within x _ _) (fun _=>amC) rfl ?_
 (try refine am ?_);(try exact amT)
 (try refine am ?_);(try simp only[e1,e2]);(try refine am ?_);(try exact amT)
 repeat' with_reducible first|apply zA|intro _
 all_goals try exact amA
 refine FinK.val1 ?_ ?_
 all_goals try refine amF ?_
 all_goals try exact amT
 unfold kidOk
 by_cases hx:(i:Int)+1≤x∧x≤(t.nodes.length:Int) - 1
 ·simp[hx]
 ·simp[hx]
theorem implNodeOk (s:DSchema) (t:DTree) (i:Nat) (u v u' v':Bool) (h:okSchema (2^47) s) (h':okTree (2^47) t) (hi:i<t.nodes.length):ACalls Tryz.prog 55 [.agg (cSchema u v s),.agg (cTree u' v' t),.one (.int .i64 i)] (fun r=>r=.val (.one (.bool (decide (nodeOk s t i (t.nodes.getD i default)))))):=by
 have hl:=h'.1.1
 have hn:=h'.1.2 _ (getD_mem (d:=default) hi)
 have hk:=hn.2.2.1.1
 have hc:=hn.2.2.2.2.1.2.1
 have ht:=hn.2.2.2.2.1.1.1
 have nt:Tryz.f55.ntmps=117:=rfl
 have rs:Tryz.f55.results=#[.tmp 6]:=rfl
 refine ACalls.of_run (m:=400) mixed Tryz.func55 rfl rfl (Nat.le_of_ble_eq_true rfl) ?_
 simp only[nt,rs]
 clear nt rs
 (try refine am ?_);(try exact amT)
 repeat' with_reducible first|apply zA|intro _
 all_goals try exact amA
 refine CallK.one (within (t.nodes.getD i default).depth 0 6) (fun _=>amC) ?_
 (try refine am ?_);(try exact amT)
 repeat' with_reducible first|apply zA|intro _
 all_goals try exact amA
 refine CallG.one rfl (fun hg=>within (t.nodes.getD i default).born 0 t.seen) ?_
 (try refine am ?_);(try exact amT)
 repeat' with_reducible first|apply zA|intro _
 all_goals try exact amA
 refine CallG.one rfl (fun hg=>implStatsOk s (t.nodes.getD i default).stats _ _ _ _ h hn.2.2.2.2.1) ?_
 (try refine am ?_);(try exact amT)
 repeat' with_reducible first|apply zA|intro _
 all_goals try exact amA
 refine CallG.one rfl (fun hg=>implAttrsOk s (t.nodes.getD i default).attrs _ _ _ _ h hn.2.2.2.2.2.2.1.1) ?_
 (try refine am ?_);(try exact amT)
 repeat' with_reducible first|apply zA|intro _
 all_goals try exact amA
 ·refine FinK.val1 ?_ ?_
  all_goals try refine amF ?_
  all_goals try exact amT
  rename_i h1
  refine(decide_eq_false (fun e=>?_)).symm
  obtain⟨⟨e1,e2,e3,e4⟩,_⟩:=e
  rcases h1 with ((h1|h1)|h1)|h1
  ·exact h1 e1
  ·exact h1 e2
  ·exact h1 e3
  ·exact h1 e4
 ·rename_i h1 hleaf
  obtain⟨⟨⟨f1,f2⟩,f3⟩,f4⟩:=h1
  have hm:=statsOk_mx f3
  have key:nodeOk s t i (t.nodes.getD i default)↔leafOk (t.nodes.getD i default):=by
   unfold nodeOk
   rw[if_pos hleaf]
   exact⟨fun e=>e.2,fun e=>⟨⟨f1,f2,f3,f4⟩,e⟩⟩
  refine CallK.one (totalI (t.nodes.getD i default).stats.totals _ _ 999 (by omega) ht f3.2.1.2 (by omega)) (fun _=>amC) ?_
  (try refine am ?_);(try exact amT)
  repeat' with_reducible first|apply zA|intro _
  all_goals try exact amA
  ·rename_i hcz
   refine CallG.one rfl (fun hg=>within (t.nodes.getD i default).since 0 _) ?_
   (try refine am ?_);(try exact amT)
   repeat' with_reducible first|apply zA|intro _
   all_goals try exact amA
   refine FinK.val1 ?_ ?_
   all_goals try refine amF ?_
   all_goals try exact amT
   have hkd:decide (nodeOk s t i (t.nodes.getD i default))=decide (leafOk (t.nodes.getD i default)):=decide_eq_decide.2 key
   rw[hkd]
   refine decide_eq_decide.2 ?_
   unfold leafOk
   rw[if_pos (by omega)]
   refine⟨fun e=>?_,fun e=>?_⟩
   ·obtain⟨⟨⟨e1,e2⟩,e3⟩,e4⟩:=e
    exact⟨e1,by omega,e3,e4.1,e4.2⟩
   ·obtain⟨e1,e2,e3,e4,e5⟩:=e
    exact⟨⟨⟨e1,by omega⟩,e3⟩,e4,e5⟩
  ·rename_i hcz
   refine CallG.one rfl (fun hg=>within (t.nodes.getD i default).since 0 _) ?_
   (try refine am ?_);(try exact amT)
   repeat' with_reducible first|apply zA|intro _
   all_goals try exact amA
   refine FinK.val1 ?_ ?_
   all_goals try refine amF ?_
   all_goals try exact amT
   have hkd:decide (nodeOk s t i (t.nodes.getD i default))=decide (leafOk (t.nodes.getD i default)):=decide_eq_decide.2 key
   rw[hkd]
   refine decide_eq_decide.2 ?_
   unfold leafOk
   rw[if_neg (by omega)]
   refine⟨fun e=>?_,fun e=>?_⟩
   ·obtain⟨⟨⟨e1,e2⟩,e3⟩,e4⟩:=e
    exact⟨e1,by omega,e3,e4.1,e4.2⟩
   ·obtain⟨e1,e2,e3,e4,e5⟩:=e
    exact⟨⟨⟨e1,by omega⟩,e3⟩,e4,e5⟩
 ·rename_i h1 hleaf
  obtain⟨⟨⟨f1,f2⟩,f3⟩,f4⟩:=h1
  have hbr:=branches_le s (t.nodes.getD i default).fork
  have key:nodeOk s t i (t.nodes.getD i default)↔splitOk s t i (t.nodes.getD i default):=by
   unfold nodeOk
   rw[if_neg (by rw[hleaf];simp)]
   exact⟨fun e=>e.2,fun e=>⟨⟨f1,f2,f3,f4⟩,e⟩⟩
  have hkd:decide (nodeOk s t i (t.nodes.getD i default))=decide (splitOk s t i (t.nodes.getD i default)):=decide_eq_decide.2 key
  rw[hkd]
  refine CallK.one (implBranches s (t.nodes.getD i default).fork _ _ h hn.2.1) (fun _=>amC) ?_
  (try refine am ?_);(try exact amT)
  repeat' with_reducible first|apply zA|intro _
  all_goals try exact amA
  refine CallG.one rfl (fun hg=>implAscending (t.nodes.getD i default).kids _ _ hk) ?_
  (try refine am ?_);(try exact amT)
  repeat' with_reducible first|apply zA|intro _
  all_goals try exact amA
  refine CallG.one rfl (fun hg=>within (t.nodes.getD i default).miss 0 _) ?_
  (try refine am ?_);(try exact amT)
  repeat' with_reducible first|apply zA|intro _
  all_goals try exact amA
  ·refine FinK.val1 ?_ ?_
   all_goals try refine amF ?_
   all_goals try exact amT
   rename_i h1
   refine(decide_eq_false (fun e=>?_)).symm
   obtain⟨e1,e2,e3,e4,e5,e6,e7⟩:=e
   have e8:=branches_pos.1 e1
   rcases h1 with ((((h1|h1)|h1)|h1)|h1)|h1
   ·omega
   ·omega
   ·exact h1 e3
   ·omega
   ·omega
   ·omega
  ·rename_i h1
   obtain⟨⟨⟨⟨⟨e1,e2⟩,e3⟩,e4⟩,e5⟩,e6⟩:=h1
   refine CallK.one (containsFuncI2 (t.nodes.getD i default).kids _ _ _ _ (fun x=> !decide (kidOk t i x)) hk (fun x hx=>nodeOk1 x i t _ _ _ _ _ _ h' hi (by omega) (by omega) rfl rfl)) (fun _=>amC) ?_
   (try refine am ?_);(try exact amT)
   repeat' with_reducible first|apply zA|intro _
   all_goals try exact amA
   refine FinK.val1 ?_ ?_
   all_goals try refine amF ?_
   all_goals try exact amT
   cases hb:((t.nodes.getD i default).kids.any fun x=> !decide (kidOk t i x)) with
   |false=>
    have:=(any_not (l:=(t.nodes.getD i default).kids) (p:=kidOk t i)).1 hb
    exact(decide_eq_true ⟨branches_pos.2 (by omega),by omega,e3,by omega,by omega,by omega,this⟩).symm
   |true=>
    refine(decide_eq_false (fun h=>?_)).symm
    have:=(any_not (l:=(t.nodes.getD i default).kids) (p:=kidOk t i)).2 h.2.2.2.2.2.2
    rw[hb] at this
    cases this
theorem implTreeOk (s:DSchema) (t:DTree) (u v u' v':Bool) (h:okSchema (2^47) s) (h':okTree (2^47) t):ACalls Tryz.prog 14 [.agg (cSchema u v s),.agg (cTree u' v' t)] (fun r=>r=.val (.one (.bool (decide (treeOk s t))))):=by
 have hl:=h'.1.1
 have nt:Tryz.f14.ntmps=89:=rfl
 have rs:Tryz.f14.results=#[.tmp 4]:=rfl
 refine ACalls.of_run (m:=400) mixed Tryz.func14 rfl rfl (Nat.le_of_ble_eq_true rfl) ?_
 simp only[nt,rs]
 clear nt rs
 (try refine am ?_);(try exact amT)
 refine CallK.one (implSchemaOk s _ _ h) (fun _=>amC) ?_
 (try refine am ?_);(try exact amT)
 repeat' with_reducible first|apply zA|intro _
 all_goals try exact amA
 refine CallG.one rfl (fun hg=>within t.nodes.length 1 31) ?_
 (try refine am ?_);(try exact amT)
 repeat' with_reducible first|apply zA|intro _
 all_goals try exact amA
 refine CallG.one rfl (fun hg=>within t.seen 0 99999) ?_
 (try refine am ?_);(try exact amT)
 repeat' with_reducible first|apply zA|intro _
 all_goals try exact amA
 ·refine FinK.val1 ?_ ?_
  all_goals try refine amF ?_
  all_goals try exact amT
  rename_i h1
  refine(decide_eq_false (fun e=>?_)).symm
  obtain⟨e1,e2,e3,e4⟩:=e
  rcases h1 with (h1|h1)|h1
  ·exact h1 e1
  ·omega
  ·exact h1 e3
 rename_i h1
 obtain⟨⟨f1,f2⟩,f3⟩:=h1
 refine LoopK.auto (Nat) (fun i=>[(27,.one (.av (.int .i64 i)))]) (fun i=>[]) [2,3,25,26] (k0:=?k01) (keepH:=?kh1) 400 (fun i=>i≤t.nodes.length∧∀j,j<i→nodeOk s t j (t.nodes.getD j default)∧linkOk t j (t.nodes.getD j default)) (fun i=>t.nodes.length - i) (0) ?kea1 ?keb1 ?_ ?_ ?_
 case kea1=>exact amN
 case keb1=>exact amN
 ·exact⟨Nat.zero_le _,fun j hj=>by omega⟩
 ·refine LeA [] ?_ ?_ ?_
  all_goals try refine amL ?_
  all_goals try exact amT
 ·intro i hi
  (try refine am ?_);(try exact amT)
  repeat' with_reducible first|apply zA|intro _
  all_goals try exact amA
  ·have hlt:i<t.nodes.length:=by assumption
   refine CallK.one (implNodeOk s t i _ _ _ _ h h' hlt) (fun _=>amC) ?_
   (try refine am ?_);(try exact amT)
   repeat' with_reducible first|apply zA|intro _
   all_goals try exact amA
   ·refine FinK.val1 ?_ ?_
    all_goals try refine amF ?_
    all_goals try exact amT
    rename_i h2
    exact(decide_eq_false (fun e=>h2 (e.2.2.2 i hlt).1)).symm
   ·refine FinK.val1 ?_ ?_
    all_goals try refine amF ?_
    all_goals try exact amT
    rename_i h2 h3 h4
    refine(decide_eq_false (fun e=>?_)).symm
    have e2:=(e.2.2.2 i hlt).2
    unfold linkOk at e2
    rw[if_pos (by omega)] at e2
    omega
   ·rename_i h2 h3 h4
    refine⟨i+1,?_,⟨by omega,fun j hj=>?_⟩,by omega⟩
    ·refine LeA [] ?_ ?_ ?_
     all_goals try refine amL ?_
     all_goals try exact amT
    ·by_cases e:j=i
     ·rw[e]
      refine⟨h2,?_⟩
      unfold linkOk
      rw[if_pos (by omega)]
      omega
     ·exact hi.2 j (by omega)
   ·rename_i h2 h3
    have hdep:=h2.1.1
    refine CallK.one (within (t.nodes.getD i default).up 0 _) (fun _=>amC) ?_
    (try refine am ?_);(try exact amT)
    repeat' with_reducible first|apply zA|intro _
    all_goals try exact amA
    ·refine FinK.val1 ?_ ?_
     all_goals try refine amF ?_
     all_goals try exact amT
     rename_i h4
     refine(decide_eq_false (fun e=>?_)).symm
     have e2:=(e.2.2.2 i hlt).2
     unfold linkOk at e2
     rw[if_neg (by omega)] at e2
     exact h4 e2.1
    ·rename_i h4
     have hup:=h'.1.2 _ (getD_mem (d:=default) (show (t.nodes.getD i default).up.toNat<t.nodes.length by omega))
     refine CallG.one rfl (fun hg=>containsI (t.nodes.getD (t.nodes.getD i default).up.toNat default).kids _ (i:Int) _ _ (Nat.le_refl _) hup.2.2.1.1) ?_
     (try refine am ?_);(try exact amT)
     repeat' with_reducible first|apply zA|intro _
     all_goals try exact amA
     ·refine FinK.val1 ?_ ?_
      all_goals try refine amF ?_
      all_goals try exact amT
      rename_i h5
      refine(decide_eq_false (fun e=>?_)).symm
      have e2:=(e.2.2.2 i hlt).2
      unfold linkOk at e2
      rw[if_neg (by omega)] at e2
      obtain⟨e3,e4,e5,e6,e7⟩:=e2
      rcases h5 with ((h5|h5)|h5)|h5
      ·rw[e4] at h5;cases h5
      ·exact h5 e5
      ·omega
      ·omega
     ·rename_i h5
      obtain⟨⟨⟨e4,e5⟩,e6⟩,e7⟩:=h5
      refine⟨i+1,?_,⟨by omega,fun j hj=>?_⟩,by omega⟩
      ·refine LeA [] ?_ ?_ ?_
       all_goals try refine amL ?_
       all_goals try exact amT
      ·by_cases e:j=i
       ·rw[e]
        refine⟨h2,?_⟩
        unfold linkOk
        rw[if_neg (by omega)]
        exact⟨h4,e4,e5,by omega,by omega⟩
       ·exact hi.2 j (by omega)
  ·refine FinK.val1 ?_ ?_
   all_goals try refine amF ?_
   all_goals try exact amT
   exact(decide_eq_true ⟨f1,by omega,f3,fun j hj=>hi.2 j (by omega)⟩).symm
theorem specLeaf (s:DSchema) (n:DNode) (u v u' v':Bool) (h:okSchema (2^47) s) (h':okNode (2^47) n):ACalls Tryz.prog 46 [.agg (cSchema u v s),.agg (cNode u' v' n)] (fun r=>r=.val (.one (.bool (decide (leafOk n∧statsOk s n.stats∧attrsOk s n.attrs))))):=by
 have hk:=h'.2.2.1.1
 have hc:=h'.2.2.2.2.1.2.1
 have nt:Tryz.f46.ntmps=49:=rfl
 have rs:Tryz.f46.results=#[.tmp 4]:=rfl
 refine ACalls.of_run (m:=400) mixed Tryz.func46 rfl rfl (Nat.le_of_ble_eq_true rfl) ?_
 simp only[nt,rs]
 clear nt rs
 (try refine am ?_);(try exact amT)
 repeat' with_reducible first|apply zA|intro _
 all_goals try exact amA
 refine CallG.one rfl (fun hg=>specStatsOk s n.stats _ _ _ _ h h'.2.2.2.2.1) ?_
 (try refine am ?_);(try exact amT)
 repeat' with_reducible first|apply zA|intro _
 all_goals try exact amA
 refine CallG.one rfl (fun hg=>specAttrsOk s n.attrs _ _ _ _ h h'.2.2.2.2.2.2.1.1) ?_
 (try refine am ?_);(try exact amT)
 repeat' with_reducible first|apply zA|intro _
 all_goals try exact amA
 ·refine FinK.val1 ?_ ?_
  all_goals try refine amF ?_
  all_goals try exact amT
  rename_i h1
  refine(decide_eq_false (fun e=>?_)).symm
  obtain⟨⟨e1,e2,e3,e4,e5⟩,e6,e7⟩:=e
  rcases h1 with (((h1|h1)|h1)|h1)|h1
  ·exact h1 e1
  ·omega
  ·exact h1 e3
  ·exact h1 e6
  ·exact h1 e7
 ·rename_i h1 h2
  obtain⟨⟨⟨⟨e1,e2⟩,e3⟩,e4⟩,e5⟩:=h1
  refine FinK.val1 ?_ ?_
  all_goals try refine amF ?_
  all_goals try exact amT
  refine decide_eq_decide.2 ?_
  unfold leafOk
  rw[if_pos (by omega)]
  exact⟨fun e=>⟨⟨e1,by omega,e3,by omega,by omega⟩,e4,e5⟩,fun e=>by omega⟩
 ·rename_i h1 h2
  obtain⟨⟨⟨⟨e1,e2⟩,e3⟩,e4⟩,e5⟩:=h1
  refine CallE.one (specStatsTotal s n.stats _ _ _ _ h h'.2.2.2.2.1) (fun _=>amC) rfl ?_
  (try refine am ?_);(try exact amT)
  (try refine am ?_);(try simp only[if_pos e4]);(try refine am ?_);(try exact amT)
  repeat' with_reducible first|apply zA|intro _
  all_goals try exact amA
  refine CallE.one (l1In n.since 0 _) (fun _=>amC) rfl ?_
  (try refine am ?_);(try exact amT)
  repeat' with_reducible first|apply zA|intro _
  all_goals try exact amA
  refine FinK.val1 ?_ ?_
  all_goals try refine amF ?_
  all_goals try exact amT
  refine decide_eq_decide.2 ?_
  unfold leafOk
  rw[if_neg (by omega)]
  exact⟨fun e=>⟨⟨e1,by omega,e3,e.1,e.2⟩,e4,e5⟩,fun e=>⟨e.1.2.2.2.1,e.1.2.2.2.2⟩⟩
theorem l19Among (l:List Int) (x:Int) (u:Bool) (nl:Option Bool) (hl:l.length≤2^47):ACalls Tryz.prog 48 [.one (.sl u nl 1 l.length (fI l)),.one (.int .i64 x)] (fun r=>r=.val (.one (.bool (decide (∃j,j<l.length∧l.getD j 0=x))))):=by
 have nt:Tryz.f48.ntmps=18:=rfl
 have rs:Tryz.f48.results=#[.tmp 4]:=rfl
 refine ACalls.of_run (m:=400) mixed Tryz.func48 rfl rfl (Nat.le_of_ble_eq_true rfl) ?_
 simp only[nt,rs]
 clear nt rs
 (try refine am ?_);(try exact amT)
 refine LoopK.auto (Nat) (fun i=>[(5,.one (.av (.int .i64 i)))]) (fun i=>[]) [0,1] (k0:=?k02) (keepH:=?kh2) 400 (fun i=>i≤l.length∧∀j,j<i→l.getD j 0≠x) (fun i=>l.length - i) (0) ?kea2 ?keb2 ?_ ?_ ?_
 case kea2=>exact amN
 case keb2=>exact amN
 ·exact⟨Nat.zero_le _,fun j hj=>by omega⟩
 ·refine LeA [] ?_ ?_ ?_
  all_goals try refine amL ?_
  all_goals try exact amT
 ·intro i hi
  (try refine am ?_);(try exact amT)
  repeat' with_reducible first|apply zA|intro _
  all_goals try exact amA
  ·refine FinK.val1 ?_ ?_
   all_goals try refine amF ?_
   all_goals try exact amT
   rename_i h1 h2
   exact(decide_eq_true ⟨i,h1,h2⟩).symm
  ·rename_i h1 h2
   refine⟨i+1,?_,⟨by omega,fun j hj=>?_⟩,by omega⟩
   ·refine LeA [] ?_ ?_ ?_
    all_goals try refine amL ?_
    all_goals try exact amT
   ·by_cases e:j=i
    ·rw[e];exact h2
    ·exact hi.2 j (by omega)
  ·refine FinK.val1 ?_ ?_
   all_goals try refine amF ?_
   all_goals try exact amT
   exact(decide_eq_false (fun ⟨j,h1,h2⟩=>hi.2 j (by omega) h2)).symm
theorem specSplit (s:DSchema) (t:DTree) (i:Nat) (u v u' v':Bool) (h:okSchema (2^47) s) (h':okTree (2^47) t) (hi:i<t.nodes.length):ACalls Tryz.prog 47 [.agg (cSchema u v s),.agg (cTree u' v' t),.one (.int .i64 i)] (fun r=>r=.val (.one (.bool (decide (splitOk s t i (t.nodes.getD i default)∧statsOk s (t.nodes.getD i default).stats∧attrsOk s (t.nodes.getD i default).attrs))))):=by
 have hl:=h'.1.1
 have hn:=h'.1.2 _ (getD_mem (d:=default) hi)
 have hk:=hn.2.2.1.1
 have hc:=hn.2.2.2.2.1.2.1
 have hbr:=branches_le s (t.nodes.getD i default).fork
 have nt:Tryz.f47.ntmps=117:=rfl
 have rs:Tryz.f47.results=#[.tmp 6]:=rfl
 refine ACalls.of_run (m:=400) mixed Tryz.func47 rfl rfl (Nat.le_of_ble_eq_true rfl) ?_
 simp only[nt,rs]
 clear nt rs
 (try refine am ?_);(try exact amT)
 repeat' with_reducible first|apply zA|intro _
 all_goals try exact amA
 refine CallE.one (specForkOk s (t.nodes.getD i default).fork _ _ h hn.2.1) (fun _=>amC) rfl ?_
 (try refine am ?_);(try exact amT)
 repeat' with_reducible first|apply zA|intro _
 all_goals try exact amA
 refine CallEG.one rfl rfl (fun hg=>specBranches s (t.nodes.getD i default).fork _ _ h hn.2.1) ?_
 (try refine am ?_);(try exact amT)
 repeat' with_reducible first|apply zA|intro _
 all_goals try exact amA
 refine CallEG.one rfl rfl (fun hg=>l1In (t.nodes.getD i default).miss 0 _) ?_
 (try refine am ?_);(try exact amT)
 repeat' with_reducible first|apply zA|intro _
 all_goals try exact amA
 refine CallEG.one rfl rfl (fun hg=>specStatsOk s (t.nodes.getD i default).stats _ _ _ _ h hn.2.2.2.2.1) ?_
 (try refine am ?_);(try exact amT)
 repeat' with_reducible first|apply zA|intro _
 all_goals try exact amA
 refine CallEG.one rfl rfl (fun hg=>specAttrsOk s (t.nodes.getD i default).attrs _ _ _ _ h hn.2.2.2.2.2.2.1.1) ?_
 (try refine am ?_);(try exact amT)
 repeat' with_reducible first|apply zA|intro _
 all_goals try exact amA
 ·refine FinK.val1 ?_ ?_
  all_goals try refine amF ?_
  all_goals try exact amT
  rename_i h1
  refine(decide_eq_false (fun e=>?_)).symm
  obtain⟨⟨e1,e2,e3,e4,e5,e6,e7⟩,e8,e9⟩:=e
  rcases h1 with (((((h1|h1)|h1)|h1)|h1)|h1)|h1
  ·exact h1 e1
  ·omega
  ·exact h1 e4
  ·exact h1 e8
  ·omega
  ·exact h1 e6
  ·exact h1 e9
 rename_i h1
 obtain⟨⟨⟨⟨⟨⟨e1,e2⟩,e3⟩,e4⟩,e5⟩,e6⟩,e7⟩:=h1
 refine LoopK.auto (Nat) (fun k=>[(8,.one (.av (.int .i64 k)))]) (fun k=>[]) [2,4,7] (k0:=?k03) (keepH:=?kh3) 800 (fun k=>k≤(t.nodes.getD i default).kids.length∧(∀j,j<k→kidOk t i ((t.nodes.getD i default).kids.getD j 0))∧∀j,j+1<k→(t.nodes.getD i default).kids.getD j 0<(t.nodes.getD i default).kids.getD (j+1) 0) (fun k=>(t.nodes.getD i default).kids.length - k) (0) ?kea3 ?keb3 ?_ ?_ ?_
 case kea3=>exact amN
 case keb3=>exact amN
 ·exact⟨Nat.zero_le _,fun j hj=>by omega,fun j hj=>by omega⟩
 ·refine LeA [] ?_ ?_ ?_
  all_goals try refine amL ?_
  all_goals try exact amT
 ·intro k hk2
  (try refine am ?_);(try exact amT)
  repeat' with_reducible first|apply zA|intro _
  all_goals try exact amA
  ·have hlt:k<(t.nodes.getD i default).kids.length:=by assumption
   have he1:((k:Int) - 1).toNat=k - 1:=by omega
   refine CallE.one (l1In ((t.nodes.getD i default).kids.getD k 0) _ _) (fun _=>amC) rfl ?_
   (try refine am ?_);(try exact amT)
   repeat' with_reducible first|apply zA|intro _
   all_goals try exact amA
   ·refine FinK.val1 ?_ ?_
    all_goals try refine amF ?_
    all_goals try exact amT
    rename_i h6
    refine(decide_eq_false (fun e=>?_)).symm
    obtain⟨⟨_,_,d3,_,_,_,d7⟩,_⟩:=e
    have d8:=d7 k hlt
    rcases h6 with (h6|h6)|⟨h6,h7⟩
    ·exact h6 d8.1
    ·exact h6 d8.2
    ·have d9:=d3 (k - 1) (by omega)
     rw[he1] at h7
     have e5:k - 1+1=k:=by omega
     rw[e5] at d9
     omega
   ·rename_i h6
    obtain⟨⟨h7,h8⟩,h9⟩:=h6
    refine⟨k+1,?_,⟨by omega,fun j hj=>?_,fun j hj=>?_⟩,by omega⟩
    ·refine LeA [] ?_ ?_ ?_
     all_goals try refine amL ?_
     all_goals try exact amT
    ·by_cases e:j=k
     ·rw[e];exact⟨h7,h8⟩
     ·exact hk2.2.1 j (by omega)
    ·by_cases e:j+1=k
     ·have e5:j=k - 1:=by omega
      rw[he1] at h9
      rw[e,e5]
      omega
     ·exact hk2.2.2 j (by omega)
  ·refine FinK.val1 ?_ ?_
   all_goals try refine amF ?_
   all_goals try exact amT
   exact(decide_eq_true ⟨⟨e1,by omega,fun j hj=>hk2.2.2 j (by omega),e3,by omega,e6,fun j hj=>hk2.2.1 j (by omega)⟩,e4,e7⟩).symm
theorem nodeOk_iff {s:DSchema} {t:DTree} {i:Nat} {n:DNode}:nodeOk s t i n↔(0≤n.depth∧n.depth≤6)∧(0≤n.born∧n.born≤t.seen)∧(n.leaf=true→leafOk n∧statsOk s n.stats∧attrsOk s n.attrs)∧(n.leaf=false→splitOk s t i n∧statsOk s n.stats∧attrsOk s n.attrs):=by
 unfold nodeOk
 cases h:n.leaf with
 |true=>
  simp only[if_true,forall_const,Bool.true_eq_false,false_implies,and_true]
  exact⟨fun ⟨⟨a,b,c,d⟩,e⟩=>⟨a,b,e,c,d⟩,fun ⟨a,b,e,c,d⟩=>⟨⟨a,b,c,d⟩,e⟩⟩
 |false=>
  simp only[Bool.false_eq_true,if_false,false_implies,true_and,forall_const]
  exact⟨fun ⟨⟨a,b,c,d⟩,e⟩=>⟨a,b,e,c,d⟩,fun ⟨a,b,e,c,d⟩=>⟨⟨a,b,c,d⟩,e⟩⟩
theorem specTreeOk (s:DSchema) (t:DTree) (u v u' v':Bool) (h:okSchema (2^47) s) (h':okTree (2^47) t):ACalls Tryz.prog 10 [.agg (cSchema u v s),.agg (cTree u' v' t)] (fun r=>r=.val (.one (.bool (decide (treeOk s t))))):=by
 have hl:=h'.1.1
 have nt:Tryz.f10.ntmps=119:=rfl
 have rs:Tryz.f10.results=#[.tmp 4]:=rfl
 refine ACalls.of_run (m:=400) mixed Tryz.func10 rfl rfl (Nat.le_of_ble_eq_true rfl) ?_
 simp only[nt,rs]
 clear nt rs
 (try refine am ?_);(try exact amT)
 refine CallK.one (specSchemaOk s _ _ h) (fun _=>amC) ?_
 (try refine am ?_);(try exact amT)
 repeat' with_reducible first|apply zA|intro _
 all_goals try exact amA
 refine CallG.one rfl (fun hg=>l1In t.nodes.length 1 31) ?_
 (try refine am ?_);(try exact amT)
 repeat' with_reducible first|apply zA|intro _
 all_goals try exact amA
 refine CallG.one rfl (fun hg=>l1In t.seen 0 99999) ?_
 (try refine am ?_);(try exact amT)
 repeat' with_reducible first|apply zA|intro _
 all_goals try exact amA
 ·refine FinK.val1 ?_ ?_
  all_goals try refine amF ?_
  all_goals try exact amT
  rename_i h1
  refine(decide_eq_false (fun e=>?_)).symm
  obtain⟨e1,e2,e3,e4⟩:=e
  rcases h1 with (h1|h1)|h1
  ·exact h1 e1
  ·omega
  ·exact h1 e3
 rename_i h1
 obtain⟨⟨f1,f2⟩,f3⟩:=h1
 refine LoopK.auto (Nat) (fun i=>[(5,.one (.av (.int .i64 i)))]) (fun i=>[]) [2,3] (k0:=?k04) (keepH:=?kh4) 400 (fun i=>i≤t.nodes.length∧∀j,j<i→nodeOk s t j (t.nodes.getD j default)∧linkOk t j (t.nodes.getD j default)) (fun i=>t.nodes.length - i) (0) ?kea4 ?keb4 ?_ ?_ ?_
 case kea4=>exact amN
 case keb4=>exact amN
 ·exact⟨Nat.zero_le _,fun j hj=>by omega⟩
 ·refine LeA [] ?_ ?_ ?_
  all_goals try refine amL ?_
  all_goals try exact amT
 ·intro i hi
  (try refine am ?_);(try exact amT)
  repeat' with_reducible first|apply zA|intro _
  all_goals try exact amA
  ·have hlt:i<t.nodes.length:=by assumption
   have hn:=h'.1.2 _ (getD_mem (d:=default) hlt)
   refine CallK.one (l1In (t.nodes.getD i default).depth 0 6) (fun _=>amC) ?_
   (try refine am ?_);(try exact amT)
   repeat' with_reducible first|apply zA|intro _
   all_goals try exact amA
   refine CallG.one rfl (fun hg=>l1In (t.nodes.getD i default).born 0 t.seen) ?_
   (try refine am ?_);(try exact amT)
   repeat' with_reducible first|apply zA|intro _
   all_goals try exact amA
   ·refine FinK.val1 ?_ ?_
    all_goals try refine amF ?_
    all_goals try exact amT
    rename_i h2
    refine(decide_eq_false (fun e=>?_)).symm
    have e2:=nodeOk_iff.1 (e.2.2.2 i hlt).1
    rcases h2 with h2|h2
    ·exact h2 e2.1
    ·exact h2 e2.2.1
   rename_i h2
   refine CallG.one rfl (fun hg=>specLeaf s (t.nodes.getD i default) _ _ _ _ h hn) ?_
   (try refine am ?_);(try exact amT)
   repeat' with_reducible first|apply zA|intro _
   all_goals try exact amA
   refine CallG.one rfl (fun hg=>specSplit s t i _ _ _ _ h h' hlt) ?_
   (try refine am ?_);(try exact amT)
   repeat' with_reducible first|apply zA|intro _
   all_goals try exact amA
   ·refine FinK.val1 ?_ ?_
    all_goals try refine amF ?_
    all_goals try exact amT
    rename_i h3
    refine(decide_eq_false (fun e=>?_)).symm
    have e2:=nodeOk_iff.1 (e.2.2.2 i hlt).1
    rcases h3 with h3|h3
    ·exact h3.2 (e2.2.2.1 h3.1)
    ·exact h3.2 (e2.2.2.2 h3.1)
   ·refine FinK.val1 ?_ ?_
    all_goals try refine amF ?_
    all_goals try exact amT
    rename_i h3 h4 h5
    refine(decide_eq_false (fun e=>?_)).symm
    have e2:=(e.2.2.2 i hlt).2
    unfold linkOk at e2
    rw[if_pos (by omega)] at e2
    omega
   ·rename_i h3 h4 h5
    have hno:nodeOk s t i (t.nodes.getD i default):=nodeOk_iff.2 ⟨h2.1,h2.2,fun e=>h3.1.resolve_left (by rw[e];simp),fun e=>h3.2.resolve_left (by rw[e];simp)⟩
    refine⟨i+1,?_,⟨by omega,fun j hj=>?_⟩,by omega⟩
    ·refine LeA [] ?_ ?_ ?_
     all_goals try refine amL ?_
     all_goals try exact amT
    ·by_cases e:j=i
     ·rw[e]
      refine⟨hno,?_⟩
      unfold linkOk
      rw[if_pos (by omega)]
      omega
     ·exact hi.2 j (by omega)
   ·rename_i h3 h4
    have hno:nodeOk s t i (t.nodes.getD i default):=nodeOk_iff.2 ⟨h2.1,h2.2,fun e=>h3.1.resolve_left (by rw[e];simp),fun e=>h3.2.resolve_left (by rw[e];simp)⟩
    have hdep:=h2.1
    refine CallK.one (l1In (t.nodes.getD i default).up 0 _) (fun _=>amC) ?_
    (try refine am ?_);(try exact amT)
    repeat' with_reducible first|apply zA|intro _
    all_goals try exact amA
    ·refine FinK.val1 ?_ ?_
     all_goals try refine amF ?_
     all_goals try exact amT
     rename_i h5
     refine(decide_eq_false (fun e=>?_)).symm
     have e2:=(e.2.2.2 i hlt).2
     unfold linkOk at e2
     rw[if_neg (by omega)] at e2
     exact h5 e2.1
    ·rename_i h5
     have hup:=h'.1.2 _ (getD_mem (d:=default) (show (t.nodes.getD i default).up.toNat<t.nodes.length by omega))
     have hud:=(hi.2 (t.nodes.getD i default).up.toNat (by omega)).1.1.1
     refine CallG.one rfl (fun hg=>l19Among (t.nodes.getD (t.nodes.getD i default).up.toNat default).kids (i:Int) _ _ hup.2.2.1.1) ?_
     (try refine am ?_);(try exact amT)
     repeat' with_reducible first|apply zA|intro _
     all_goals try exact amA
     ·refine FinK.val1 ?_ ?_
      all_goals try refine amF ?_
      all_goals try exact amT
      rename_i h6
      refine(decide_eq_false (fun e=>?_)).symm
      have e2:=(e.2.2.2 i hlt).2
      unfold linkOk at e2
      rw[if_neg (by omega)] at e2
      obtain⟨e3,e4,e5,e6,e7⟩:=e2
      rcases h6 with ((h6|h6)|h6)|h6
      ·rw[e4] at h6;cases h6
      ·exact h6 e5
      ·omega
      ·omega
     ·rename_i h6
      obtain⟨⟨⟨e4,e5⟩,e6⟩,e7⟩:=h6
      refine⟨i+1,?_,⟨by omega,fun j hj=>?_⟩,by omega⟩
      ·refine LeA [] ?_ ?_ ?_
       all_goals try refine amL ?_
       all_goals try exact amT
      ·by_cases e:j=i
       ·rw[e]
        refine⟨hno,?_⟩
        unfold linkOk
        rw[if_neg (by omega)]
        exact⟨h5,e4,e5,by omega,by omega⟩
       ·exact hi.2 j (by omega)
  ·refine FinK.val1 ?_ ?_
   all_goals try refine amF ?_
   all_goals try exact amT
   exact(decide_eq_true ⟨f1,by omega,f3,fun j hj=>hi.2 j (by omega)⟩).symm
end Go.AM
namespace Go.AM
set_option maxHeartbeats 64000000
open Go Go.Proofs
set_option maxRecDepth 100000
def ixs {α:Type} [Inhabited α] (p:α→Bool) (l:List α) (n:Nat):List Int:=((List.range n).filter fun i=>p (l.getD i default)).map fun (i:Nat)=>(i:Int)
theorem ixs_succ {α:Type} [Inhabited α] (p:α→Bool) (l:List α) (n:Nat):ixs p l (n+1)=if p (l.getD n default)=true then ixs p l n++[(n:Int)] else ixs p l n:=by
 unfold ixs
 rw[List.range_succ,List.filter_append,List.map_append]
 by_cases h:p (l.getD n default)=true
 ·rw[List.filter_cons,if_pos h,if_pos h];rfl
 ·rw[List.filter_cons,if_neg h,if_neg h,List.filter_nil,List.map_nil,List.append_nil]
theorem ixs_len {α:Type} [Inhabited α] (p:α→Bool) (l:List α) (n:Nat):(ixs p l n).length≤n:=by
 unfold ixs
 rw[List.length_map]
 have:=List.length_filter_le (fun i=>p (l.getD i default)) (List.range n)
 rwa [List.length_range] at this
theorem ixs_mem {α:Type} [Inhabited α] {p:α→Bool} {l:List α} {n:Nat} {x:Int} (h:x∈ixs p l n):∃i:Nat,x=i∧i<n∧p (l.getD i default)=true:=by
 unfold ixs at h
 obtain⟨i,h1,rfl⟩:=List.mem_map.1 h
 obtain⟨h2,h3⟩:=List.mem_filter.1 h1
 exact⟨i,rfl,List.mem_range.1 h2,h3⟩
def actB (n:DNode):Bool:=n.leaf&&decide (0<n.stats.cells.length)
def activeL (t:DTree):List Int:=ixs actB t.nodes t.nodes.length
theorem active1 (n:DNode) (u v:Bool) (h:okNode (2^47) n):ACalls Tryz.prog 59 [.agg (cNode u v n)] (fun r=>r=.val (.one (.bool (actB n)))):=by
 have hc:=h.2.2.2.2.1.2.1
 have nt:Tryz.f59.ntmps=12:=rfl
 have rs:Tryz.f59.results=#[.tmp 2]:=rfl
 refine ACalls.of_run (m:=400) mixed Tryz.func59 rfl rfl (Nat.le_of_ble_eq_true rfl) ?_
 simp only[nt,rs]
 clear nt rs
 (try refine am ?_);(try exact amT)
 repeat' with_reducible first|apply zA|intro _
 all_goals try exact amA
 refine FinK.val1 ?_ ?_
 all_goals try refine amF ?_
 all_goals try exact amT
 unfold actB
 simp
theorem nodesWith1 (t:DTree) (p:DNode→Bool) (f:FuncId) (g:Nat→AV) (u v:Bool) (hl:t.nodes.length≤2^43) (hf:∀n∈t.nodes,ACalls Tryz.prog f [.agg (cNode false v n)] (fun r=>r=.val (.one (.bool (p n))))):ACalls Tryz.prog 58 [.agg (cTree u v t),.one (.fn (.func f) 0 g)] (fun r=>r=.val (.one (aI true (ixs p t.nodes t.nodes.length)))):=by
 have nt:Tryz.f58.ntmps=26:=rfl
 have rs:Tryz.f58.results=#[.tmp 4]:=rfl
 refine ACalls.of_run (m:=400) mixed Tryz.func58 rfl rfl (Nat.le_of_ble_eq_true rfl) ?_
 simp only[nt,rs]
 clear nt rs
 (try refine am ?_);(try exact amT)
 repeat' with_reducible first|apply zA|intro _
 all_goals try exact amA
 refine LoopK.auto (Nat) (fun i=>[(12,.one (.av (.int .i64 i))),(5,.one (.own 302 [] [0]))]) (fun i=>[(302,⟨.sl true none 1 (ixs p t.nodes i).length (fI (ixs p t.nodes i)),[]⟩)]) [1,10,11] (k0:=?k01) (keepH:=?kh1) 400 (fun i=>i≤t.nodes.length) (fun i=>t.nodes.length - i) (0) ?kea1 ?keb1 ?_ ?_ ?_
 case kea1=>exact amN
 case keb1=>exact amN
 ·exact Nat.zero_le _
 ·refine LeA [] ?_ ?_ ?_
  all_goals try refine amL ?_
  all_goals try exact amT
  exact ALe.of (.inl rfl) rfl (fun i hi=>by omega)
 ·intro i hi
  have hL:=ixs_len p t.nodes i
  (try refine am ?_);(try exact amT)
  repeat' with_reducible first|apply zA|intro _
  all_goals try exact amA
  ·have hlt:i<t.nodes.length:=by assumption
   refine CallK.one (hf (t.nodes.getD i default) (getD_mem hlt)) (fun _=>amC) ?_
   (try refine am ?_);(try exact amT)
   repeat' with_reducible first|apply zA|intro _
   all_goals try exact amA
   ·rename_i h1 h2
    refine⟨i+1,?_,by omega,by omega⟩
    refine LeA [] ?_ ?_ ?_
    all_goals try refine amL ?_
    all_goals try exact amT
    refine appLe1 (x:=(i:Int)) ?_ rfl (.inl rfl)
    rw[ixs_succ,if_pos h2]
   ·rename_i h1 h2
    refine⟨i+1,?_,by omega,by omega⟩
    refine LeA [] ?_ ?_ ?_
    all_goals try refine amL ?_
    all_goals try exact amT
    rw[ixs_succ,if_neg (by rw[h2];simp)]
    exact .refl _
  ·have ei:i=t.nodes.length:=by omega
   subst ei
   refine FinK.val1 ?_ ?_
   all_goals try refine amF ?_
   all_goals try exact amT
theorem implActiveLeaves (t:DTree) (u v:Bool) (hl:t.nodes.length≤2^43) (h2:okTree (2^47) t):ACalls Tryz.prog 16 [.agg (cTree u v t)] (fun r=>r=.val (.one (aI true (activeL t)))):=by
 have nt:Tryz.f16.ntmps=5:=rfl
 have rs:Tryz.f16.results=#[.tmp 2]:=rfl
 refine ACalls.of_run (m:=400) mixed Tryz.func16 rfl rfl (Nat.le_of_ble_eq_true rfl) ?_
 simp only[nt,rs]
 clear nt rs
 (try refine am ?_);(try exact amT)
 refine CallK.one (nodesWith1 t actB _ _ _ _ hl (fun n hn=>active1 n _ _ (h2.1.2 n hn))) (fun _=>amC) ?_
 (try refine am ?_);(try exact amT)
 refine FinK.val1 ?_ ?_
 all_goals try refine amF ?_
 all_goals try exact amT
 exact .refl _
theorem specActiveLeaves (t:DTree) (u v:Bool) (hl:t.nodes.length≤2^43) (h2:okTree (2^47) t):ACalls Tryz.prog 17 [.agg (cTree u v t)] (fun r=>r=.val (.one (aI true (activeL t)))):=by
 have nt:Tryz.f17.ntmps=35:=rfl
 have rs:Tryz.f17.results=#[.tmp 2]:=rfl
 refine ACalls.of_run (m:=400) mixed Tryz.func17 rfl rfl (Nat.le_of_ble_eq_true rfl) ?_
 simp only[nt,rs]
 clear nt rs
 (try refine am ?_);(try exact amT)
 repeat' with_reducible first|apply zA|intro _
 all_goals try exact amA
 refine LoopK.auto (Nat) (fun i=>[(4,.one (.av (.int .i64 i))),(3,.one (.own 302 [] [0]))]) (fun i=>[(302,⟨.sl true none 1 (ixs actB t.nodes i).length (fI (ixs actB t.nodes i)),[]⟩)]) [1] (k0:=?k02) (keepH:=?kh2) 400 (fun i=>i≤t.nodes.length) (fun i=>t.nodes.length - i) (0) ?kea2 ?keb2 ?_ ?_ ?_
 case kea2=>exact amN
 case keb2=>exact amN
 ·exact Nat.zero_le _
 ·refine LeA [] ?_ ?_ ?_
  all_goals try refine amL ?_
  all_goals try exact amT
  exact ALe.of (.inl rfl) rfl (fun i hi=>by omega)
 ·intro i hi
  have hL:=ixs_len actB t.nodes i
  have hcl:¬i<t.nodes.length∨(t.nodes.getD i default).stats.cells.length≤2^47:=by
   by_cases hlt:i<t.nodes.length
   ·exact .inr (h2.1.2 _ (getD_mem (d:=default) hlt)).2.2.2.2.1.2.1
   ·exact .inl hlt
  (try refine am ?_);(try exact amT)
  repeat' with_reducible first|apply zA|intro _
  all_goals try exact amA
  ·rename_i h1 h2
   refine⟨i+1,?_,by omega,by omega⟩
   refine LeA [] ?_ ?_ ?_
   all_goals try refine amL ?_
   all_goals try exact amT
   refine appLe1 (x:=(i:Int)) ?_ rfl (.inl rfl)
   rw[ixs_succ,if_pos (by unfold actB;rw[h2.1,Bool.true_and];exact decide_eq_true (by have:=h2.2;omega))]
  ·rename_i h1 h2
   refine⟨i+1,?_,by omega,by omega⟩
   refine LeA [] ?_ ?_ ?_
   all_goals try refine amL ?_
   all_goals try exact amT
   rw[ixs_succ,if_neg (by
      unfold actB
      rcases h2 with h2|h2
      ·rw[h2];simp
      ·rw[decide_eq_false (p:=0<(t.nodes.getD i default).stats.cells.length) (by omega)];simp)]
   exact .refl _
  ·have ei:i=t.nodes.length:=by omega
   subst ei
   refine FinK.val1 ?_ ?_
   all_goals try refine amF ?_
   all_goals try exact amT
   exact .refl _
def prm (s:DSchema) (t:DTree) (x:Int):Int:=promise s (t.nodes.getD x.toNat default).stats
def poorS (s:DSchema) (t:DTree) (l:List Int):Nat→Int
 |0=> -1
 |i+1=>if poorS s t l i<0∨prm s t (l.getD i 0)<prm s t (poorS s t l i) then l.getD i 0 else poorS s t l i
theorem poorS_succ (s:DSchema) (t:DTree) (l:List Int) (i:Nat):poorS s t l (i+1)=if poorS s t l i<0∨prm s t (l.getD i 0)<prm s t (poorS s t l i) then l.getD i 0 else poorS s t l i:=rfl
def poorest (s:DSchema) (t:DTree):Int:=if treeOk s t then poorS s t (activeL t) (activeL t).length else -1
theorem poorS_rng {s:DSchema} {t:DTree} {l:List Int} {c:Int} (h:∀i,i<l.length→0≤l.getD i 0∧l.getD i 0<c):∀{i:Nat},i≤l.length→ -1≤poorS s t l i∧(0<c→poorS s t l i<c)
 |0,_=>⟨Int.le_refl _,fun h=>by show (-1:Int)<c;omega⟩
 |i+1,hi=>by
  have h1:=poorS_rng (s:=s) (t:=t) h (i:=i) (by omega)
  have h2:=h i (by omega)
  rw[poorS_succ]
  split
  ·exact⟨by omega,fun _=>h2.2⟩
  ·exact h1
theorem activeL_rng (t:DTree):∀i,i<(activeL t).length→0≤(activeL t).getD i 0∧(activeL t).getD i 0<(t.nodes.length:Int):=by
 intro i hi
 obtain⟨j,e,h1,_⟩:=ixs_mem (getD_mem (d:=0) hi)
 rw[show (activeL t).getD i 0=(j:Int) from e]
 omega
theorem implPoorest (s:DSchema) (t:DTree) (u v u' v':Bool) (h:okSchema (2^47) s) (h':okTree (2^47) t):ACalls Tryz.prog 42 [.agg (cSchema u v s),.agg (cTree u' v' t)] (fun r=>r=.val (.one (.int .i64 (poorest s t)))):=by
 have hrng:=activeL_rng t
 have nt:Tryz.f42.ntmps=40:=rfl
 have rs:Tryz.f42.results=#[.tmp 4]:=rfl
 refine ACalls.of_run (m:=400) mixed Tryz.func42 rfl rfl (Nat.le_of_ble_eq_true rfl) ?_
 simp only[nt,rs]
 clear nt rs
 (try refine am ?_);(try exact amT)
 refine CallK.one (implTreeOk s t _ _ _ _ h h') (fun _=>amC) ?_
 (try refine am ?_);(try exact amT)
 repeat' with_reducible first|apply zA|intro _
 all_goals try exact amA
 ·refine FinK.val1 ?_ ?_
  all_goals try refine amF ?_
  all_goals try exact amT
  rename_i h1
  exact(if_neg h1).symm
 rename_i h1
 have e:poorest s t=poorS s t (activeL t) (activeL t).length:=if_pos h1
 rw[e]
 refine CallK.one (implActiveLeaves t _ _ (by have:=h1.2.1;omega) h') (fun _=>amC) ?_
 (try refine am ?_);(try exact amT)
 repeat' with_reducible first|apply zA|intro _
 all_goals try exact amA
 refine LoopK.auto (Nat) (fun i=>[(5,.one (.av (.int .i64 (poorS s t (activeL t) i)))),(6,.one (.av (.int .i64 (if poorS s t (activeL t) i<0 then 0 else prm s t (poorS s t (activeL t) i))))),(17,.one (.av (.int .i64 i)))]) (fun i=>[]) [2,3,15,16] (k0:=?k03) (keepH:=?kh3) 800 (fun i=>i≤(activeL t).length) (fun i=>(activeL t).length - i) (0) ?kea3 ?keb3 ?_ ?_ ?_
 case kea3=>exact amN
 case keb3=>exact amN
 ·exact Nat.zero_le _
 ·refine LeA [] ?_ ?_ ?_
  all_goals try refine amL ?_
  all_goals try exact amT
  first|done|exact⟨rfl,rfl⟩
 ·intro i hi
  have hx:¬i<(activeL t).length∨(0≤(activeL t).getD i 0∧(activeL t).getD i 0<(t.nodes.length:Int)):=by
   by_cases hlt:i<(activeL t).length
   ·exact .inr (hrng i hlt)
   ·exact .inl hlt
  have hlen:(activeL t).length≤31:=by
   have:=ixs_len actB t.nodes t.nodes.length
   have:=h1.2.1
   unfold activeL
   omega
  (try refine am ?_);(try exact amT)
  repeat' with_reducible first|apply zA|intro _
  all_goals try exact amA
  ·have hlt:i<(activeL t).length:=by assumption
   have hxr:=hrng i hlt
   have hn:=h'.1.2 _ (getD_mem (d:=default) (show ((activeL t).getD i 0).toNat<t.nodes.length by omega))
   refine CallE.one (implPromise s (t.nodes.getD ((activeL t).getD i 0).toNat default).stats _ _ _ _ h hn.2.2.2.2.1) (fun _=>amC) rfl ?_
   (try refine am ?_);(try exact amT)
   have ep:promise s (t.nodes.getD ((activeL t).getD i 0).toNat default).stats=prm s t ((activeL t).getD i 0):=rfl
   (try refine am ?_);(try simp only[ep]);(try refine am ?_);(try exact amT)
   have es:=poorS_succ s t (activeL t) i
   repeat' with_reducible first|apply zA|intro _
   all_goals try exact amA
   ·rename_i h2 h3
    refine⟨i+1,?_,by omega,by omega⟩
    have hc:poorS s t (activeL t) i<0∨prm s t ((activeL t).getD i 0)<prm s t (poorS s t (activeL t) i):=by
     rcases h3 with h3|h3
     ·exact .inl h3
     ·by_cases hq:poorS s t (activeL t) i<0
      ·exact .inl hq
      ·rw[if_neg hq] at h3;exact .inr h3
    rw[if_pos hc] at es
    refine LeA [] ?_ ?_ ?_
    all_goals try refine amL ?_
    all_goals try exact amT
    rw[es,if_neg (by omega)]
    exact⟨rfl,rfl⟩
   ·rename_i h2 h3
    refine⟨i+1,?_,by omega,by omega⟩
    have hq:¬poorS s t (activeL t) i<0:=fun e=>h3 (.inl e)
    have hc:¬(poorS s t (activeL t) i<0∨prm s t ((activeL t).getD i 0)<prm s t (poorS s t (activeL t) i)):=by
     rintro(e|e)
     ·exact hq e
     ·exact h3 (.inr (by rw[if_neg hq];exact e))
    rw[if_neg hc] at es
    refine LeA [] ?_ ?_ ?_
    all_goals try refine amL ?_
    all_goals try exact amT
    rw[es]
    exact⟨rfl,rfl⟩
  ·refine FinK.val1 ?_ ?_
   all_goals try refine amF ?_
   all_goals try exact amT
   have:i=(activeL t).length:=by omega
   rw[this]
theorem specPoorest (s:DSchema) (t:DTree) (u v u' v':Bool) (h:okSchema (2^47) s) (h':okTree (2^47) t):ACalls Tryz.prog 51 [.agg (cSchema u v s),.agg (cTree u' v' t)] (fun r=>r=.val (.one (.int .i64 (poorest s t)))):=by
 have hrng:=activeL_rng t
 have nt:Tryz.f51.ntmps=49:=rfl
 have rs:Tryz.f51.results=#[.tmp 4]:=rfl
 refine ACalls.of_run (m:=400) mixed Tryz.func51 rfl rfl (Nat.le_of_ble_eq_true rfl) ?_
 simp only[nt,rs]
 clear nt rs
 (try refine am ?_);(try exact amT)
 refine CallK.one (specTreeOk s t _ _ _ _ h h') (fun _=>amC) ?_
 (try refine am ?_);(try exact amT)
 repeat' with_reducible first|apply zA|intro _
 all_goals try exact amA
 ·refine FinK.val1 ?_ ?_
  all_goals try refine amF ?_
  all_goals try exact amT
  rename_i h1
  exact(if_neg h1).symm
 rename_i h1
 have e:poorest s t=poorS s t (activeL t) (activeL t).length:=if_pos h1
 rw[e]
 refine CallK.one (specActiveLeaves t _ _ (by have:=h1.2.1;omega) h') (fun _=>amC) ?_
 (try refine am ?_);(try exact amT)
 repeat' with_reducible first|apply zA|intro _
 all_goals try exact amA
 refine LoopK.auto (Nat) (fun i=>[(5,.one (.av (.int .i64 (poorS s t (activeL t) i)))),(7,.one (.av (.int .i64 i)))]) (fun i=>[]) [2,3,6] (k0:=?k04) (keepH:=?kh4) 800 (fun i=>i≤(activeL t).length) (fun i=>(activeL t).length - i) (0) ?kea4 ?keb4 ?_ ?_ ?_
 case kea4=>exact amN
 case keb4=>exact amN
 ·exact Nat.zero_le _
 ·refine LeA [] ?_ ?_ ?_
  all_goals try refine amL ?_
  all_goals try exact amT
  first|done|rfl
 ·intro i hi
  have hx:¬i<(activeL t).length∨(0≤(activeL t).getD i 0∧(activeL t).getD i 0<(t.nodes.length:Int)):=by
   by_cases hlt:i<(activeL t).length
   ·exact .inr (hrng i hlt)
   ·exact .inl hlt
  have hlen:(activeL t).length≤31:=by
   have:=ixs_len actB t.nodes t.nodes.length
   have:=h1.2.1
   unfold activeL
   omega
  have hpr:=poorS_rng (s:=s) (t:=t) hrng hi
  have hnl:=h1.2.1
  (try refine am ?_);(try exact amT)
  repeat' with_reducible first|apply zA|intro _
  all_goals try exact amA
  ·have hlt:i<(activeL t).length:=by assumption
   have hxr:=hrng i hlt
   have hn:=h'.1.2 _ (getD_mem (d:=default) (show ((activeL t).getD i 0).toNat<t.nodes.length by omega))
   have hn2:¬poorS s t (activeL t) i<0→okNode (2^47) (t.nodes.getD (poorS s t (activeL t) i).toNat default):=fun hq=>h'.1.2 _ (getD_mem (d:=default) (by have:=hpr.2 (by omega);omega))
   refine CallEG.one rfl rfl (fun hg=>specPromise s (t.nodes.getD ((activeL t).getD i 0).toNat default).stats _ _ _ _ h hn.2.2.2.2.1) ?_
   (try refine am ?_);(try exact amT)
   repeat' with_reducible first|apply zA|intro _
   all_goals try exact amA
   refine CallEG.one rfl rfl (fun hg=>specPromise s (t.nodes.getD (poorS s t (activeL t) i).toNat default).stats _ _ _ _ h (hn2 (by simp at hg;omega)).2.2.2.2.1) ?_
   (try refine am ?_);(try exact amT)
   have es:=poorS_succ s t (activeL t) i
   repeat' with_reducible first|apply zA|intro _
   all_goals try exact amA
   ·rename_i h2 h3
    refine⟨i+1,?_,by omega,by omega⟩
    refine LeA [] ?_ ?_ ?_
    all_goals try refine amL ?_
    all_goals try exact amT
    have hc:poorS s t (activeL t) i<0∨prm s t ((activeL t).getD i 0)<prm s t (poorS s t (activeL t) i):=h3
    rw[es,if_pos hc]
   ·rename_i h2 h3
    refine⟨i+1,?_,by omega,by omega⟩
    refine LeA [] ?_ ?_ ?_
    all_goals try refine amL ?_
    all_goals try exact amT
    have hc:¬(poorS s t (activeL t) i<0∨prm s t ((activeL t).getD i 0)<prm s t (poorS s t (activeL t) i)):=h3
    rw[es,if_neg hc]
  ·refine FinK.val1 ?_ ?_
   all_goals try refine amF ?_
   all_goals try exact amT
   have:i=(activeL t).length:=by omega
   rw[this]
def fits (s:DSchema) (r:DRule) (t:DTree):Prop:=treeOk s t∧ruleOk r∧(t.nodes.length:Int)≤r.nodes∧depthOf t≤r.depth∧(sm units t.nodes:Int)≤r.units
instance (s:DSchema) (r:DRule) (t:DTree):Decidable (fits s r t):=by unfold fits;infer_instance
theorem specRuleOk (r:DRule) (_:okRule (2^47) r):ACalls Tryz.prog 139 [.agg (cRule r)] (fun q=>q=.val (.one (.bool (decide (ruleOk r))))):=by
 have nt:Tryz.f139.ntmps=31:=rfl
 have rs:Tryz.f139.results=#[.tmp 2]:=rfl
 refine ACalls.of_run (m:=400) mixed Tryz.func139 rfl rfl (Nat.le_of_ble_eq_true rfl) ?_
 simp only[nt,rs]
 clear nt rs
 (try refine am ?_);(try exact amT)
 refine CallK.one (l1In r.sure 1 9) (fun _=>amC) ?_
 (try refine am ?_);(try exact amT)
 repeat' with_reducible first|apply zA|intro _
 all_goals try exact amA
 refine CallG.one rfl (fun hg=>l1In r.tie 0 999) ?_
 (try refine am ?_);(try exact amT)
 repeat' with_reducible first|apply zA|intro _
 all_goals try exact amA
 refine CallG.one rfl (fun hg=>l1In r.grace 1 200) ?_
 (try refine am ?_);(try exact amT)
 repeat' with_reducible first|apply zA|intro _
 all_goals try exact amA
 refine CallG.one rfl (fun hg=>l1In r.depth 0 6) ?_
 (try refine am ?_);(try exact amT)
 repeat' with_reducible first|apply zA|intro _
 all_goals try exact amA
 refine CallG.one rfl (fun hg=>l1In r.nodes 1 31) ?_
 (try refine am ?_);(try exact amT)
 repeat' with_reducible first|apply zA|intro _
 all_goals try exact amA
 refine CallG.one rfl (fun hg=>l1In r.units 62 2000) ?_
 (try refine am ?_);(try exact amT)
 repeat' with_reducible first|apply zA|intro _
 all_goals try exact amA
 refine FinK.val1 ?_ ?_
 all_goals try refine amF ?_
 all_goals try exact amT
 refine decide_eq_decide.2 ?_
 unfold ruleOk
 exact⟨fun ⟨⟨⟨⟨⟨a,b⟩,c⟩,d⟩,e⟩,f⟩=>⟨a,b,c,d,e,f⟩,fun ⟨a,b,c,d,e,f⟩=>⟨⟨⟨⟨⟨a,b⟩,c⟩,d⟩,e⟩,f⟩⟩
theorem specFits (s:DSchema) (r:DRule) (t:DTree) (u v u' v':Bool) (h:okSchema (2^47) s) (hr:okRule (2^47) r) (h':okTree (2^47) t) (hz:zTree t≤2^40):ACalls Tryz.prog 141 [.agg (cSchema u v s),.agg (cRule r),.agg (cTree u' v' t)] (fun q=>q=.val (.one (.bool (decide (fits s r t))))):=by
 have hl:=h'.1.1
 have nt:Tryz.f141.ntmps=36:=rfl
 have rs:Tryz.f141.results=#[.tmp 6]:=rfl
 refine ACalls.of_run (m:=400) mixed Tryz.func141 rfl rfl (Nat.le_of_ble_eq_true rfl) ?_
 simp only[nt,rs]
 clear nt rs
 (try refine am ?_);(try exact amT)
 repeat' with_reducible first|apply zA|intro _
 all_goals try exact amA
 refine CallE.one (specTreeOk s t _ _ _ _ h h') (fun _=>amC) rfl ?_
 (try refine am ?_);(try exact amT)
 repeat' with_reducible first|apply zA|intro _
 all_goals try exact amA
 refine CallEG.one rfl rfl (fun hg=>specRuleOk r hr) ?_
 (try refine am ?_);(try exact amT)
 repeat' with_reducible first|apply zA|intro _
 all_goals try exact amA
 refine CallEG.one rfl rfl (fun hg=>specDepthOf t _ _ h') ?_
 (try refine am ?_);(try exact amT)
 repeat' with_reducible first|apply zA|intro _
 all_goals try exact amA
 refine CallEG.one rfl rfl (fun hg=>specTreeUnits t _ _ h' hz) ?_
 (try refine am ?_);(try exact amT)
 repeat' with_reducible first|apply zA|intro _
 all_goals try exact amA
 refine FinK.val1 ?_ ?_
 all_goals try refine amF ?_
 all_goals try exact amT
 refine decide_eq_decide.2 ?_
 unfold fits
 exact⟨fun ⟨⟨⟨⟨a,b⟩,c⟩,d⟩,e⟩=>⟨a,b,c,d,e⟩,fun ⟨a,b,c,d,e⟩=>⟨⟨⟨⟨a,b⟩,c⟩,d⟩,e⟩⟩
end Go.AM
