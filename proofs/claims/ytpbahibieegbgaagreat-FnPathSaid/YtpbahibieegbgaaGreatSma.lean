/- Lemmas for the proof of this claim. -/
import Derived.Test.YtpbahibieegbgaaGreatSpl
import Derived.Test.YtpbahibieegbgaaGreatDr1
import Derived.Test.YtpbahibieegbgaaGreatMer
import Derived.Test.YtpbahibieegbgaaGreatRul
import Derived.Test.YtpbahibieegbgaaGreatSdr
namespace Go.AM
open Go Go.Proofs
set_option maxRecDepth 100000
def smT (t:DTree):Prop:=okTree (2^10) t∧t.nodes.length≤31∧0≤t.seen∧t.seen≤100000
theorem sm_bd {α:Type} {f:α→Nat} {B:Nat}:∀{l:List α},(∀x∈l,f x≤B)→sm f l≤B*l.length
 |[],_=>by simp[sm]
 |x::l,h=>by
  have:=sm_bd (f:=f) (B:=B) (l:=l) (fun y hy=>h y (by simp[hy]))
  have h0:=h x (by simp)
  simp only[sm,List.length_cons,Nat.mul_add,Nat.mul_one]
  omega
theorem stats_z {x:DStats} (h:okStats (2^10) x):zStats x≤2^21:=by
 unfold zStats szW tot
 have h1:=h.1.1
 have h2:=h.2.1
 have h3:=sm_bd (f:=List.length) (B:=2^10) (l:=x.cells) (fun r hr=>(h.2.2 r hr).1)
 have h4:2^10*x.cells.length≤2^10*2^10:=Nat.mul_le_mul_left _ h2
 omega
theorem node_z {x:DNode} (h:okNode (2^10) x):zNode x≤2^22:=by
 unfold zNode
 have h1:=h.2.2.1.1
 have h2:=stats_z h.2.2.2.2.1
 have h3:=h.2.2.2.2.2.2.1.1
 omega
theorem smT_z {t:DTree} (h:smT t):zTree t≤2^40:=by
 unfold zTree zNodeS
 have h1:=h.2.1
 have h2:=sm_bd (f:=zNode) (B:=2^22) (l:=t.nodes) (fun x hx=>node_z (h.1.1.2 x hx))
 have h3:2^22*t.nodes.length≤2^22*31:=Nat.mul_le_mul_left _ h1
 omega
theorem okStats_up {A B:Nat} {x:DStats} (h:okStats A x) (hB:A≤B:=by decide):okStats B x:=⟨okI_up h.1 hB,okL_up h.2 hB⟩
theorem okNode_up {A B:Nat} {x:DNode} (h:okNode A x) (hB:A≤B:=by decide):okNode B x:=
 ⟨trivial,h.2.1,okI_up h.2.2.1 hB,h.2.2.2.1,okStats_up h.2.2.2.2.1 hB,h.2.2.2.2.2.1,okI_up h.2.2.2.2.2.2.1 hB,h.2.2.2.2.2.2.2⟩
theorem okTree_up {A B:Nat} {x:DTree} (h:okTree A x) (hB:A≤B:=by decide):okTree B x:=⟨⟨Nat.le_trans h.1.1 hB,fun y hy=>okNode_up (h.1.2 y hy) hB⟩,h.2⟩
theorem smT_40 {t:DTree} (h:smT t):okTree (2^40) t:=okTree_up h.1
theorem smT_47 {t:DTree} (h:smT t):okTree (2^47) t:=okTree_up h.1
theorem smT_n {t:DTree} (h:smT t):t.nodes.length≤2^38:=Nat.le_trans h.2.1 (by decide)
theorem smT_set {t:DTree} {i:Nat} {x:DNode} {z:Int} (h:smT t) (hx:okNode (2^10) x) (hz:0≤z∧z≤100000):smT ⟨t.nodes.set i x,z⟩:=by
 refine⟨⟨⟨by simpa using h.1.1.1,fun y hy=>?_⟩,⟨by show (-9223372036854775808:Int)≤z;omega,by show z≤(9223372036854775807:Int);omega⟩⟩,by simpa using h.2.1,hz⟩
 rcases List.mem_or_eq_of_mem_set hy with hy|hy
 ·exact h.1.1.2 y hy
 ·subst hy;exact hx
theorem statsNew_ok10 (s:DSchema):okStats (2^10) (statsNew s):=by
 obtain⟨h1,h2,h3⟩:=statsNew_ok s
 have hc:(statsNew s).cells.length≤5:=by
  unfold statsNew
  split
  ·rename_i h
   simp only[List.length_map]
   exact h.1.2
  ·exact Nat.zero_le _
 refine⟨⟨by omega,h1.1.2⟩,by omega,fun r hr=>⟨?_,(h1.2.2 r hr).2⟩⟩
 have:=sm_mem (f:=List.length) hr
 unfold tot at h3
 omega
theorem attrsOk_len {s:DSchema} {l:List Int} (h:attrsOk s l):l.length≤5:=by
 obtain⟨hs,h0,ha,hb⟩:=h
 have key:∀i,i<l.length→(i:Int)≤l.getD i 0:=by
  intro i
  induction i with
  |zero=>intro hi;exact(hb 0 hi).1
  |succ i ih=>
   intro hi
   have h1:=ih (by omega)
   have h2:=ha i (by omega)
   omega
 have h1:=key (l.length - 1) (by omega)
 have h2:=hb (l.length - 1) (by omega)
 have h3:=hs.1
 omega
theorem smT_new {s:DSchema} {l:List Int} {B:Nat} (hl:okI B l):smT (treeNew s l):=by
 unfold treeNew
 split
 ·rename_i h
  have h5:=attrsOk_len h
  have k0:inK .i64 0:=⟨by decide,by decide⟩
  have k1:inK .i64 (-1):=⟨by decide,by decide⟩
  refine⟨⟨⟨by simp,fun y hy=>?_⟩,k0⟩,by simp,by dsimp only;omega,by dsimp only;omega⟩
  have:y=⟨true,⟨0,0⟩,[],0,statsNew s,0,l,0,-1,0⟩:=by simpa using hy
  subst this
  exact⟨trivial,⟨k0,k0⟩,⟨Nat.zero_le _,fun x hx=>by simp at hx⟩,k0,statsNew_ok10 s,k0,⟨by dsimp only;omega,hl.2⟩,k0,k1,k0⟩
 ·exact⟨⟨⟨by simp,fun y hy=>by simp at hy⟩,⟨by show IntKind.i64.min≤(0:Int);decide,by show (0:Int)≤IntKind.i64.max;decide⟩⟩,by simp,by dsimp only;omega,by dsimp only;omega⟩
theorem smT_enfGo {s:DSchema} {b:Int}:∀(n:Nat) {t:DTree} {l:List Int},smT t→smT (enfGo s b n t l).1
 |0,t,l,h=>h
 |n+1,t,l,h=>by
  unfold enfGo
  cases hc:enfC s b t with
  |true=>
   have hp:0≤poorest s t:=by
    unfold enfC at hc
    simp at hc
    exact hc.2
   obtain⟨j,e,hj,_⟩:=poorest_act hp
   refine smT_enfGo n ?_
   rw[e]
   exact⟨enf_ok hj h.1,by show (t.nodes.set _ _).length≤31;simpa using h.2.1,h.2.2⟩
  |false=>exact h
theorem smT_enf {s:DSchema} {b:Int} {t:DTree} (h:smT t):smT (enforce s t b).1:=by
 unfold enforce
 split
 ·exact smT_enfGo _ h
 ·exact h
theorem smT_split {s:DSchema} {t:DTree} {i:Int} {f:DFork} {l:List (List Int)} (h:smT t) (hf:okFork (2^40) f) (hl:okL (2^10) l):smT (splitA s t i f l):=by
 unfold splitA
 split
 ·rename_i hp
  obtain⟨p1,p2,p3,p4,p5,p6,p7,p8⟩:=hp
  have hi:i.toNat<t.nodes.length:=by omega
  have hn:=h.1.1.2 _ (getD_mem (d:=default) hi)
  have hd:=splitP_leaf p1 hi p3
  have hh:=heaviest_rng s (t.nodes.getD i.toNat default).stats f
  have hbr:=branches_le s f
  have k0:inK .i64 0:=⟨by decide,by decide⟩
  refine⟨⟨⟨by show (spNodes _ _ _ _ _).length≤_;rw[spNodes_len];omega,fun x hx=>?_⟩,h.1.2⟩,by show (spNodes _ _ _ _ _).length≤_;rw[spNodes_len];omega,h.2.2⟩
  rcases List.mem_append.1 hx with hx|hx
  ·rcases List.mem_or_eq_of_mem_set hx with hx|rfl
   ·exact h.1.1.2 x hx
   ·exact⟨trivial,hf,⟨by show (kidsN _ _).length≤_;rw[kidsN_len];omega,(kidsN_ok (n:=t.nodes.length) (b:=l.length) (by omega)).2⟩,inK_bd (by show _≤heaviest s _ f∧heaviest s _ f≤_;omega),⟨hn.2.2.2.2.1.1,Nat.zero_le _,fun x hx=>nomatch hx⟩,k0,hn.2.2.2.2.2.2⟩
  ·obtain⟨r,hr,rfl⟩:=List.mem_map.1 hx
   exact⟨trivial,⟨k0,k0⟩,⟨Nat.zero_le _,fun x hx=>nomatch hx⟩,k0,statsNew_ok10 s,k0,hl.2 r hr,inK_bd (by show _≤(t.nodes.getD i.toNat default).depth+1∧(t.nodes.getD i.toNat default).depth+1≤_;omega),inK_bd (by show _≤((i.toNat:Nat):Int)∧((i.toNat:Nat):Int)≤_;omega),h.1.2⟩
 ·exact h
end Go.AM
namespace Go.AM
set_option maxHeartbeats 64000000
open Go Go.Proofs
set_option maxRecDepth 100000
theorem specWants (s:DSchema) (r:DRule) (n:DNode) (u v u' v':Bool) (h:okSchema (2^47) s) (hr:okRule (2^47) r) (hn:okNode (2^40) n):ACalls Tryz.prog 193 [.agg (cSchema u v s),.agg (cRule r),.agg (cNode u' v' n)] (fun q=>∃x:DFork×Int,(okFork (2^40) x.1∧0≤x.2∧x.2≤9)∧q=.tup [.agg (cFork x.1),.one (.int .i64 x.2)]):=by
 have hst:=hn.2.2.2.2.1
 have hst47:okStats (2^47) n.stats:=okStats_up hst
 have nt:Tryz.f193.ntmps=52:=rfl
 have rs:Tryz.f193.results=#[.cell 6 43,.tmp 7]:=rfl
 refine ACalls.of_runC (m:=400) mixed Tryz.func193 rfl rfl (Nat.le_of_ble_eq_true rfl) ?_
 simp only[nt,rs]
 clear nt rs
 (try refine am ?_);(try exact amT)
 repeat' with_reducible first|apply zA|intro _
 all_goals try exact amA
 refine CallK.ex (specFirstTwo s n.stats n.attrs r.two _ _ _ _ _ _ h hst47 hn.2.2.2.2.2.2.1) (fun _ _ _=>amC) ?_
 rintro⟨a,b,c⟩ ⟨ha,hb⟩
 (try refine am ?_);(try exact amT)
 dsimp only at ha hb ⊢
 repeat' with_reducible first|apply zA|intro _
 all_goals try exact amA
 ·refine FinK.ex ((⟨0,0⟩,4)) ?hq1 ?_
  case hq1=>exact⟨okFork0,by dsimp only;omega,by dsimp only;omega⟩
  refine FinK.tup ?_ ?_
  all_goals try refine amF ?_
  all_goals try exact amT
 have htt:inK .i64 (if statsOk s n.stats then tot1 n.stats.totals else 0):=by
  split
  ·rename_i hh
   have:=(tot1_bd (c:=999) hh.2.1.2).1
   have:=hh.2.2.1
   exact⟨by show (-9223372036854775808:Int)≤_;omega,by show _≤(9223372036854775807:Int);omega⟩
  ·exact⟨by decide,by decide⟩
 refine CallCE.one (specStatsTotal s n.stats _ _ _ _ h hst47) (fun _=>amC) rfl ?_
 (try refine am ?_);(try exact amT)
 refine CallCE.ex (specVerdict r a.merit b _ hr ha.2 hb htt) rfl (0) ?hcq (fun _ _ _=>amC) (fun _=>rfl) (fun _=>rfl) ?_
 case hcq=>exact by omega
 rintro z hz
 (try refine am ?_);(try exact amT)
 repeat' with_reducible first|apply zA|intro _
 all_goals try exact amA
 ·refine FinK.ex ((a.fork,z)) ?hq2 ?_
  case hq2=>exact⟨ha.1,by dsimp only;omega,by dsimp only;omega⟩
  refine FinK.tup ?_ ?_
  all_goals try refine amF ?_
  all_goals try exact amT
 ·refine FinK.ex ((⟨0,0⟩,z)) ?hq3 ?_
  case hq3=>exact⟨okFork0,by dsimp only;omega,by dsimp only;omega⟩
  refine FinK.tup ?_ ?_
  all_goals try refine amF ?_
  all_goals try exact amT
end Go.AM
namespace Go.AM
set_option maxHeartbeats 64000000
open Go Go.Proofs
set_option maxRecDepth 100000
theorem spec_l8Right (nb:Nat) (hn:nb≤2^40) (s:DSchema) (u v:Bool) (hs:okSchema (2^20) s):ACur Tryz.prog 144 nb [.agg (cSchema u v s)] (fun r=>∃t:DStats,okStats (2^10) t∧r=.val (.agg (cStats true true t))):=by
 have hs47:okSchema (2^47) s:=okSchema_up hs
 have nt:Tryz.f144.ntmps=37:=rfl
 have rs:Tryz.f144.results=#[.cell 4 46]:=rfl
 refine ACur.of_run (m:=400) mixed Tryz.func144 rfl rfl (Nat.le_of_ble_eq_true rfl) (fun xc=>?_)
 simp only[nt,rs]
 clear nt rs
 (try refine am ?_);(try exact amT)
 repeat' with_reducible first|apply zA|intro _
 all_goals try exact amA
 refine CallK.one (specStatsNew s _ _ hs47) (fun _=>amC) ?_
 (try refine am ?_);(try exact amT)
 repeat' with_reducible first|apply zA|intro _
 all_goals try exact amA
 refine CallK.cur (spec_l1PickInt nb hn true (some false) [0,1,3,12,30,60] (by simp) (by simp)) rfl rfl rfl (fun _ _ _=>amC) ?_
 rintro n hnm
 (try refine am ?_);(try exact amT)
 have hn2:0≤n∧n≤60:=by simp at hnm;omega
 repeat' with_reducible first|apply zA|intro _
 all_goals try exact amA
 refine LoopK.auto ((DStats×Nat)) (fun y=>[(7,.one (.av (.int .i64 y.2))),(5,.one (.ref 302 [] [0] 0 0))]) (fun y=>[(302,⟨.sl true none 2 1 (fun _ j=>gl .junk (cStats true true y.1) j),[]⟩)]) [0,3,4,6] (k0:=?k01) (keepH:=?kh1) 700 (fun y=>okStats (2^10) y.1∧(y.2:Int)≤n) (fun y=>n.toNat - y.2) ((statsNew s,0)) ?kea1 ?keb1 ?_ ?_ ?_
 case kea1=>exact amN
 case keb1=>exact amN
 ·exact⟨statsNew_ok10 s,by dsimp only;omega⟩
 ·refine LeA [] ?_ ?_ ?_
  all_goals try refine amL ?_
  all_goals try exact amT
  exact boxSt
 ·rintro⟨t,i⟩ ⟨ht,hi⟩
  dsimp only at ht hi ⊢
  (try refine am ?_);(try exact amT)
  repeat' with_reducible first|apply zA|intro _
  all_goals try exact amA
  ·refine CallK.cur (spec_l7Right nb hn s _ _ hs) rfl rfl rfl (fun _ _ _=>amC) ?_
   rintro e ⟨he,_⟩
   (try refine am ?_);(try exact amT)
   have hel:=he.1.1
   repeat' with_reducible first|apply zA|intro _
   all_goals try exact amA
   refine CallCE.cur (spec_l1PickInt nb hn true (some false) [1,2,7] (by simp) (by simp)) rfl (1) ?hcq rfl rfl rfl (fun _ _ _=>amC) (fun _=>rfl) (fun _=>rfl) ?_
   case hcq=>exact by simp
   rintro w hw
   (try refine am ?_);(try exact amT)
   have hw2:0≤w∧w≤100:=by simp at hw;omega
   refine CallCE.ex (spec_StatsAdd (2^10) (by decide) s t e w _ _ _ _ _ hs ht he hw2) rfl ((t,false)) ?hcq (fun _ _ _=>amC) (fun _=>rfl) (fun _=>rfl) ?_
   case hcq=>exact ht
   rintro⟨t2,b⟩ ht2
   (try refine am ?_);(try exact amT)
   dsimp only at ht2 ⊢
   repeat' with_reducible first|apply zA|intro _
   all_goals try exact amA
   refine⟨(t2,i+1),?_,⟨ht2,by dsimp only;omega⟩,by dsimp only;omega⟩
   refine LeA [] ?_ ?_ ?_
   all_goals try refine amL ?_
   all_goals try exact amT
   exact boxSt
  ·refine CallK.cur (spec_l1Once nb hn 8) rfl rfl rfl (fun _ _ _=>amC) ?_
   rintro b hb
   (try refine am ?_);(try exact amT)
   repeat' with_reducible first|apply zA|intro _
   all_goals try exact amA
   ·refine CallK.one (specThin t _ _ (okStats_up ht)) (fun _=>amC) ?_
    (try refine am ?_);(try exact amT)
    repeat' with_reducible first|apply zA|intro _
    all_goals try exact amA
    refine FinK.cur (.refl _) ⟨trivial,rfl⟩ rfl ?_
    refine FinK.ex (thin t) ?hq1 ?_
    case hq1=>exact⟨ht.1,Nat.zero_le _,fun x hx=>nomatch hx⟩
    refine FinK.cell1 ?_ ?_ ?_
    all_goals try refine amF ?_
    all_goals try exact amT
   ·refine FinK.cur (.refl _) ⟨trivial,rfl⟩ rfl ?_
    refine FinK.ex (t) ?hq2 ?_
    case hq2=>exact ht
    refine FinK.cell1 ?_ ?_ ?_
    all_goals try refine amF ?_
    all_goals try exact amT
end Go.AM
