/- Lemmas for the proof of this claim. -/
import Derived.Test.YtpbahibieegbgaaGreatTr2
namespace Go.AM
set_option maxHeartbeats 64000000
open Go Go.Proofs
set_option maxRecDepth 100000
def leafB (n:DNode):Bool:=n.leaf
def leavesL (t:DTree):List Int:=ixs leafB t.nodes t.nodes.length
theorem leaf1 (n:DNode) (u v:Bool) (_:okNode (2^47) n):ACalls Tryz.prog 86 [.agg (cNode u v n)] (fun r=>r=.val (.one (.bool (leafB n)))):=by
 have nt:Tryz.f86.ntmps=5:=rfl
 have rs:Tryz.f86.results=#[.tmp 2]:=rfl
 refine ACalls.of_run (m:=400) mixed Tryz.func86 rfl rfl (Nat.le_of_ble_eq_true rfl) ?_
 simp only[nt,rs]
 clear nt rs
 (try refine am ?_);(try exact amT)
 repeat' with_reducible first|apply zA|intro _
 all_goals try exact amA
 refine FinK.val1 ?_ ?_
 all_goals try refine amF ?_
 all_goals try exact amT
 unfold leafB
 simp
theorem implLeaves (t:DTree) (u v:Bool) (hl:t.nodes.length≤2^43) (h2:okTree (2^47) t):ACalls Tryz.prog 30 [.agg (cTree u v t)] (fun r=>r=.val (.one (aI true (leavesL t)))):=by
 have nt:Tryz.f30.ntmps=5:=rfl
 have rs:Tryz.f30.results=#[.tmp 2]:=rfl
 refine ACalls.of_run (m:=400) mixed Tryz.func30 rfl rfl (Nat.le_of_ble_eq_true rfl) ?_
 simp only[nt,rs]
 clear nt rs
 (try refine am ?_);(try exact amT)
 refine CallK.one (nodesWith1 t leafB _ _ _ _ hl (fun n hn=>leaf1 n _ _ (h2.1.2 n hn))) (fun _=>amC) ?_
 (try refine am ?_);(try exact amT)
 refine FinK.val1 ?_ ?_
 all_goals try refine amF ?_
 all_goals try exact amT
 exact .refl _
end Go.AM
