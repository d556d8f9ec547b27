/- Lemmas for the proof of this claim. -/
import Derived.Test.YtpbahibieegbgaaGreatDrs
import Derived.Test.YtpbahibieegbgaaGreatEnf
namespace Go.AM
open Go Go.Proofs
set_option maxRecDepth 100000
theorem implEnforceR (s:DSchema) (t:DTree) (b:Int) (u v u' v':Bool) (h:okSchema (2^47) s) (h':okTree (2^40) t) (hn:t.nodes.length≤2^38) (hz:zTree t≤2^40) (hb:inK .i64 b):ACalls Tryz.prog 9 [.agg (cSchema u v s),.agg (cTree u' v' t),.one (.int .i64 b)] (fun r=>r=.tup [.agg (cTree false true (enforce s t b).1),.one (aI false (enforce s t b).2)]):=
 ACalls.ro1 (implEnforce s t b u v u' v' h h' hn hz hb)
theorem specEnforceR (s:DSchema) (t:DTree) (b:Int) (u v u' v':Bool) (h:okSchema (2^47) s) (h':okTree (2^40) t) (hn:t.nodes.length≤2^38) (hz:zTree t≤2^40) (hb:inK .i64 b):ACalls Tryz.prog 12 [.agg (cSchema u v s),.agg (cTree u' v' t),.one (.int .i64 b)] (fun r=>r=.tup [.agg (cTree false true (enforce s t b).1),.one (aI false (enforce s t b).2)]):=
 ACalls.ro1 (specEnforce s t b u v u' v' h h' hn hz hb)
theorem implActiveLeavesR (t:DTree) (u v:Bool) (hl:t.nodes.length≤2^43) (h2:okTree (2^47) t):ACalls Tryz.prog 16 [.agg (cTree u v t)] (fun r=>r=.val (.one (aI false (activeL t)))):=ACalls.ro1 (implActiveLeaves t u v hl h2)
theorem specActiveLeavesR (t:DTree) (u v:Bool) (hl:t.nodes.length≤2^43) (h2:okTree (2^47) t):ACalls Tryz.prog 17 [.agg (cTree u v t)] (fun r=>r=.val (.one (aI false (activeL t)))):=ACalls.ro1 (specActiveLeaves t u v hl h2)
end Go.AM
