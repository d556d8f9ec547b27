/- Lemmas for the proof of this claim. -/
import Derived.Test.YtpbahibieegbgaaGreatDrs
import Derived.Test.YtpbahibieegbgaaGreatSpl
import Derived.Test.YtpbahibieegbgaaGreatPth
namespace Go.AM
set_option maxHeartbeats 64000000
open Go Go.Proofs
set_option maxRecDepth 100000
theorem implStatsTotal (s:DSchema) (t:DStats) (u v u' v':Bool) (h:okSchema (2^47) s) (h':okStats (2^47) t):ACalls Tryz.prog 24 [.agg (cSchema u v s),.agg (cStats u' v' t)] (fun r=>r=.val (.one (.int .i64 (if statsOk s t then tot1 t.totals else 0)))):=by
 have hl:=h'.1.1
 have nt:Tryz.f24.ntmps=12:=rfl
 have rs:Tryz.f24.results=#[.tmp 4]:=rfl
 refine ACalls.of_run (m:=400) mixed Tryz.func24 rfl rfl (Nat.le_of_ble_eq_true rfl) ?_
 simp only[nt,rs]
 clear nt rs
 (try refine am ?_);(try exact amT)
 refine CallK.one (implStatsOk s t _ _ _ _ h h') (fun _=>amC) ?_
 (try refine am ?_);(try exact amT)
 repeat' with_reducible first|apply zA|intro _
 all_goals try exact amA
 ·refine FinK.val1 ?_ ?_
  all_goals try refine amF ?_
  all_goals try exact amT
  rename_i h
  exact(if_neg h).symm
 rename_i hs
 have hm:=statsOk_mx hs
 rw[if_pos hs]
 refine CallK.one (totalI t.totals _ _ 999 (by omega) hl hs.2.1.2 (by omega)) (fun _=>amC) ?_
 (try refine am ?_);(try exact amT)
 repeat' with_reducible first|apply zA|intro _
 all_goals try exact amA
 refine FinK.val1 ?_ ?_
 all_goals try refine amF ?_
 all_goals try exact amT
theorem implSplitAtR (s:DSchema) (t:DTree) (i:Int) (f:DFork) (l:List (List Int)) (u v u' v' u2 v2:Bool) (h:okSchema (2^47) s) (h':okTree (2^40) t) (hn:t.nodes.length≤2^38) (hi:inK .i64 i) (hf:okFork (2^47) f) (hl:okL (2^40) l):ACalls Tryz.prog 22 [.agg (cSchema u v s),.agg (cTree u' v' t),.one (.int .i64 i),.agg (cFork f),.one (aL u2 v2 l)] (fun r=>r=.tup [.agg (cTree false true (splitA s t i f l)),.one (.bool (decide (splitP s t i f l)))]):=
 ACalls.ro1 (implSplitAt s t i f l u v u' v' u2 v2 h h' hn hi hf hl)
theorem specSplitAtR (s:DSchema) (t:DTree) (i:Int) (f:DFork) (l:List (List Int)) (u v u' v' u2 v2:Bool) (h:okSchema (2^47) s) (h':okTree (2^40) t) (hn:t.nodes.length≤2^38) (hi:inK .i64 i) (hf:okFork (2^47) f) (hl:okL (2^40) l):ACalls Tryz.prog 23 [.agg (cSchema u v s),.agg (cTree u' v' t),.one (.int .i64 i),.agg (cFork f),.one (aL u2 v2 l)] (fun r=>r=.tup [.agg (cTree false true (splitA s t i f l)),.one (.bool (decide (splitP s t i f l)))]):=
 ACalls.ro1 (specSplitAt s t i f l u v u' v' u2 v2 h h' hn hi hf hl)
theorem implLeafVoteR (s:DSchema) (t:DTree) (e:DEx) (u v u' v' w:Bool) (h:okSchema (2^47) s) (h':okTree (2^47) t) (he:okEx (2^47) e) (hTE:treeOk s t∧exOk s e):ACalls Tryz.prog 25 [.agg (cSchema u v s),.agg (cTree u' v' t),.agg (cEx w false e)] (fun r=>r=.val (.one (aI false (leafVote s t e)))):=
 ACalls.ro1 (implLeafVote s t e u v u' v' w h h' he hTE)
end Go.AM
