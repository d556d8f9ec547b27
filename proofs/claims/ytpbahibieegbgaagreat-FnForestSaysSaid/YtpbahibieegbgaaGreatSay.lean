/- Lemmas for the proof of this claim. -/
import Derived.Test.YtpbahibieegbgaaGreatMem
import Derived.Test.YtpbahibieegbgaaGreatTly
import Derived.Test.YtpbahibieegbgaaGreatPth
namespace Go.AM
set_option maxHeartbeats 64000000
open Go Go.Proofs
set_option maxRecDepth 100000
theorem topS_rngB (l:List Int):∀i,-1≤topS l i∧topS l i≤(i:Int) - 1
 |0=>⟨Int.le_refl _,Int.le_refl _⟩
 |i+1=>by
  have h:=topS_rngB l i
  rw[topS_succ]
  split<;>omega
theorem topOf_rng (l:List Int): -1≤topOf l∧topOf l≤(l.length:Int) - 1:=topS_rngB l l.length
def saysL (c:DConf) (f:DForest) (e:DEx):List Int:=f.members.map fun m=>topOf (leafVote c.schema m.tree e)
open Classical in
noncomputable def votesA (c:DConf) (f:DForest) (e:DEx):List Int:=if forestOk c f∧exOk c.schema e then tly (c.schema.classes.length:Int) (saysL c f e) (voicesL f) else []
theorem saysL_len (c:DConf) (f:DForest) (e:DEx):(saysL c f e).length=f.members.length:=by simp[saysL]
theorem saysL_get (c:DConf) (f:DForest) (e:DEx) {i:Nat} (h:i<f.members.length):(saysL c f e).getD i 0=topOf (leafVote c.schema (f.members.getD i default).tree e):=by
 rw[List.getD_eq_getElem?_getD]
 simp[saysL,h,List.getD]
theorem saysL_take (c:DConf) (f:DForest) (e:DEx) {i:Nat} (h:i<f.members.length):(saysL c f e).take (i+1)=(saysL c f e).take i++[topOf (leafVote c.schema (f.members.getD i default).tree e)]:=by
 rw[take_succ (d:=(0:Int)) (by rw[saysL_len];exact h),saysL_get c f e h]
theorem saysL_ok (c:DConf) (f:DForest) (e:DEx) (hc:okConf (2^47) c) (hf:okForest (2^47) f):okI (2^47) (saysL c f e):=by
 refine⟨by rw[saysL_len];exact hf.1,fun x hx=>?_⟩
 unfold saysL at hx
 obtain⟨m,hm,rfl⟩:=List.mem_map.1 hx
 have h1:=topOf_rng (leafVote c.schema m.tree e)
 have h2:=(leafVote_ok (s:=c.schema) (e:=e) hc.1.2.1 (hf.2 m hm).1).1
 rw[inKi]
 omega
theorem implForestSays (c:DConf) (f:DForest) (e:DEx) (u v u' v' w:Bool) (h:okConf (2^47) c) (hf:okForest (2^47) f) (hz:zForest f≤2^40) (he:okEx (2^47) e):ACalls Tryz.prog 33 [.agg (cConf u v c),.agg (cForest u' v' f),.agg (cEx w false e)] (fun r=>r=.tup [.one (.int .i64 (topOf (votesA c f e))),.one (aI true (votesA c f e))]):=by
 have hlen:f.members.length≤2^40:=by unfold zForest zMemberS at hz;omega
 have nt:Tryz.f33.ntmps=53:=rfl
 have rs:Tryz.f33.results=#[.tmp 6,.tmp 7]:=rfl
 refine ACalls.of_run (m:=400) mixed Tryz.func33 rfl rfl (Nat.le_of_ble_eq_true rfl) ?_
 simp only[nt,rs]
 clear nt rs
 (try refine am ?_);(try exact amT)
 repeat' with_reducible first|apply zA|intro _
 all_goals try exact amA
 refine CallK.one (implForestOk c f _ _ _ _ h hf hz) (fun _=>amC) ?_
 (try refine am ?_);(try exact amT)
 repeat' with_reducible first|apply zA|intro _
 all_goals try exact amA
 refine CallG.one rfl (fun hg=>implExOk c.schema e _ _ _ h.1 he) ?_
 (try refine am ?_);(try exact amT)
 refine⟨fun hs=>?_,fun hs=>?_⟩
 ·have e1:votesA c f e=[]:=if_neg (fun hh=>by rcases hs with hs|hs;exact hs hh.1;exact hs hh.2)
  rw[e1]
  repeat' with_reducible first|apply zA|intro _
  all_goals try exact amA
  refine FinK.tup ?_ ?_
  all_goals try refine amF ?_
  all_goals try exact amT
  exact⟨rfl,.nil _ _ _ _ _⟩
 have e1:votesA c f e=tly (c.schema.classes.length:Int) (saysL c f e) (voicesL f):=if_pos hs
 have e2:voicesA c f=voicesL f:=if_pos hs.1
 rw[e1]
 have hso:=saysL_ok c f e h hf
 have hvo:=voicesA_ok c f hlen
 rw[e2] at hvo
 have hcl:=hs.1.1.1.2.1
 repeat' with_reducible first|apply zA|intro _
 all_goals try exact amA
 refine LoopK.auto (Nat) (fun i=>[(27,.one (.av (.int .i64 i))),(8,.one (.own 302 [] [0]))]) (fun i=>[(302,⟨.sl true none 1 ((saysL c f e).take i).length (fI ((saysL c f e).take i)),[]⟩)]) [3,4,5,25,26] (k0:=?k01) (keepH:=?kh1) 400 (fun i=>i≤f.members.length) (fun i=>f.members.length - i) (0) ?kea1 ?keb1 ?_ ?_ ?_
 case kea1=>exact amN
 case keb1=>exact amN
 ·exact Nat.zero_le _
 ·refine LeA [] ?_ ?_ ?_
  all_goals try refine amL ?_
  all_goals try exact amT
  exact ALe.of (.inl rfl) rfl (fun i hi=>by simp at hi)
 ·intro i hi
  have hL:((saysL c f e).take i).length=i:=by rw[List.length_take,saysL_len];omega
  (try refine am ?_);(try exact amT)
  refine⟨fun hlt=>?_,fun hlt=>?_⟩
  ·have hm:=hf.2 _ (getD_mem (d:=default) hlt)
   repeat' with_reducible first|apply zA|intro _
   all_goals try exact amA
   refine CallK.one (implTreeSays c.schema (f.members.getD i default).tree e _ _ _ _ _ h.1 hm.1 he) (fun _=>amC) ?_
   (try refine am ?_);(try exact amT)
   repeat' with_reducible first|apply zA|intro _
   all_goals try exact amA
   refine⟨i+1,?_,by omega,by omega⟩
   refine LeA [] ?_ ?_ ?_
   all_goals try refine amL ?_
   all_goals try exact amT
   exact appLe1 (x:=topOf (leafVote c.schema (f.members.getD i default).tree e)) (saysL_take c f e hlt) rfl (.inl rfl)
  ·have ei:(saysL c f e).take i=saysL c f e:=List.take_of_length_le (by rw[saysL_len];omega)
   (try refine am ?_);(try simp only[ei]);(try refine am ?_);(try exact amT)
   repeat' with_reducible first|apply zA|intro _
   all_goals try exact amA
   have hv:=implVoices c f
   rw[e2] at hv
   refine CallE.one (hv _ _ _ _ h hf hz) (fun _=>amC) rfl ?_
   (try refine am ?_);(try exact amT)
   repeat' with_reducible first|apply zA|intro _
   all_goals try exact amA
   refine CallE.one (iTallyN (c.schema.classes.length:Int) (saysL c f e) (voicesL f) _ _ _ _ hso hvo) (fun _=>amC) rfl ?_
   (try refine am ?_);(try exact amT)
   repeat' with_reducible first|apply zA|intro _
   all_goals try exact amA
   refine CallK.one (implTopOf (tly (c.schema.classes.length:Int) (saysL c f e) (voicesL f)) _ _ (by have:=tly_len (c.schema.classes.length:Int) (saysL c f e) (voicesL f);omega)) (fun _=>amC) ?_
   (try refine am ?_);(try exact amT)
   repeat' with_reducible first|apply zA|intro _
   all_goals try exact amA
   refine FinK.tup ?_ ?_
   all_goals try refine amF ?_
   all_goals try exact amT
end Go.AM
namespace Go.AM
open Go Go.Proofs
set_option maxRecDepth 100000
theorem pos_blind (s:DSchema) (t:DTree) (e:DEx) (z:Int):∀k,pos s t ⟨e.bins,z⟩ k=pos s t e k
 |0=>rfl
 |k+1=>by rw[pos_succ,pos_succ,pos_blind s t e z k];rfl
theorem vt_blind (s:DSchema) (t:DTree) (e:DEx) (z:Int):∀k,vt s t ⟨e.bins,z⟩ k=vt s t e k
 |0=>rfl
 |k+1=>by
  have h:totAt s t ⟨e.bins,z⟩ k=totAt s t e k:=by unfold totAt;rw[pos_blind]
  rw[vt_succ,vt_succ,vt_blind s t e z k,h]
theorem lastK_blind (s:DSchema) (t:DTree) (e:DEx) (z:Int):lastK s t ⟨e.bins,z⟩=lastK s t e:=by
 have h:leafAt s t ⟨e.bins,z⟩=leafAt s t e:=funext fun k=>by unfold leafAt;rw[pos_blind]
 unfold lastK
 rw[h]
theorem exOk_blind {s:DSchema} {e:DEx} (h:exOk s e):exOk s ⟨e.bins,-1⟩:=by
 refine⟨h.1,h.2.1,?_,h.2.2.2⟩
 have:=h.2.2.1
 dsimp only
 omega
theorem leafVote_blind {s:DSchema} {e:DEx} (t:DTree) (h:exOk s e):leafVote s t ⟨e.bins,-1⟩=leafVote s t e:=by
 have h2:=exOk_blind h
 unfold leafVote
 rw[vt_blind,lastK_blind]
 by_cases ht:treeOk s t
 ·rw[if_pos ⟨ht,h2⟩,if_pos ⟨ht,h⟩]
 ·rw[if_neg (fun x=>ht x.1),if_neg (fun x=>ht x.1)]
theorem saysL_blind {c:DConf} {e:DEx} (f:DForest) (h:exOk c.schema e):saysL c f ⟨e.bins,-1⟩=saysL c f e:=by
 unfold saysL
 exact List.map_congr_left (fun m _=>by rw[leafVote_blind m.tree h])
theorem votesA_blind {c:DConf} {f:DForest} {e:DEx} (h1:forestOk c f) (h:exOk c.schema e):votesA c f ⟨e.bins,-1⟩=votesA c f e:=by
 unfold votesA
 rw[if_pos ⟨h1,exOk_blind h⟩,if_pos ⟨h1,h⟩,saysL_blind f h]
theorem vt_len {s:DSchema} {t:DTree} {e:DEx} (ht:treeOk s t) (he:exOk s e):∀k,k≤lastK s t e+1→(vt s t e k).length=s.classes.length
 |0,_=>by simp[vt]
 |k+1,hk=>by
  rw[vt_succ]
  split
  ·have hp:=(lastK_ex ht he).2.2 k (by omega)
   have hw:=(ht.2.2.2 _ hp).1.1.2.2.1.2.1.1
   unfold totAt
   omega
  ·exact vt_len ht he k (by omega)
theorem topOf_ex {l:List Int} (h:0<l.length):∃j:Nat,j<l.length∧topOf l=j∧∀i,i<l.length→l.getD i 0≤l.getD j 0:=by
 obtain⟨j,h1,h2,h3,_,h5⟩:=topS_inv l l.length h
 exact⟨j,h1,h2,fun i hi=>by rw[h3];exact h5 i hi⟩
theorem says_rng {c:DConf} {f:DForest} {e:DEx} (h1:forestOk c f) (h:exOk c.schema e) {i:Nat} (hi:i<f.members.length):0≤(saysL c f e).getD i 0∧(saysL c f e).getD i 0≤(c.schema.classes.length:Int) - 1:=by
 have ht:=(h1.2.2 i hi).2.1.1
 have hl:(leafVote c.schema (f.members.getD i default).tree e).length=c.schema.classes.length:=by
  unfold leafVote
  rw[if_pos ⟨ht,h⟩]
  exact vt_len ht h _ (Nat.le_refl _)
 have hc:=h1.1.1.2.1
 rw[saysL_get c f e hi]
 obtain⟨j,g1,g2,_⟩:=topOf_ex (l:=leafVote c.schema (f.members.getD i default).tree e) (by omega)
 omega
theorem bkUp_size {l:List (List Int)} (h:wok l):∀{k:Nat},k≤l.length→bSize (bkUp l k)+3*2^(l.length - k)≤3*2^l.length
 |0,_=>by simp[bkUp,bSize,smI]
 |k+1,hk=>by
  have ih:=bkUp_size h (k:=k) (by omega)
  have hr:=(h.2 (l.length - 1 - k) (by omega)).1
  have e1:bSize (bkUp l (k+1))=bSize (bkUp l k)+bSize (bkR (l.length - 1 - k) (l.getD (l.length - 1 - k) [])):=smI_app
  have e2:∀(r:Nat) (m:List Int),bSize (bkR r m)=2^r*(m.length:Int):=fun r m=>by
   induction m with
   |nil=>simp[bkR,bSize,smI]
   |cons x m ihm=>
    have:bSize (bkR r (x::m))=2^r+bSize (bkR r m):=rfl
    rw[this,ihm,List.length_cons,Int.natCast_add,Int.mul_add]
    simp only[Int.natCast_one,Int.mul_one]
    omega
  have e3:(2:Int)^(l.length - k)=2*2^(l.length - 1 - k):=by
   rw[show l.length - k=(l.length - 1 - k)+1 by omega,Int.pow_succ,Int.mul_comm]
  have e4:l.length - (k+1)=l.length - 1 - k:=by omega
  have e5:(2:Int)^(l.length - 1 - k)*((l.getD (l.length - 1 - k) []).length:Int)≤2^(l.length - 1 - k)*3:=Int.mul_le_mul_of_nonneg_left (by omega) (by have:=Int.pow_pos (n:=2) (m:=l.length - 1 - k) (by decide);omega)
  rw[e1,e2,e4]
  rw[e3] at ih
  omega
theorem bkts_size (l:List (List Int)):bSize (bkts l)≤765:=by
 unfold bkts
 split
 ·rename_i h
  have h1:=bkUp_size h (Nat.le_refl _)
  rw[Nat.sub_self] at h1
  have h2:(2:Int)^l.length≤256:=by
   have:=(by decide:∀i,i<9→(2:Int)^i≤256) l.length (by have:=h.1;omega)
   exact this
  omega
 ·simp[bSize,smI]
theorem voice_rng (w:List (List Int)):1≤voice w∧voice w≤999:=by
 obtain⟨h1,h2,_⟩:=bk_facts w
 have h3:=bkts_size w
 unfold voice
 rw[Int.tdiv_eq_ediv_of_nonneg (by omega)]
 generalize bOnes (bkts w)=o at *
 generalize bSize (bkts w)=n at *
 constructor
 ·exact Int.le_ediv_of_mul_le (by omega) (by omega)
 ·have:(1000*(1+n - o)) / (2+n)<1000:=Int.ediv_lt_of_lt_mul (by omega) (by omega)
  omega
theorem voices_rng (f:DForest) {i:Nat} (h:i<f.members.length):1≤(voicesL f).getD i 0∧(voicesL f).getD i 0≤999:=by
 rw[voicesL_get f h]
 exact voice_rng _
theorem tot1_map (g:Nat→Int):∀n,n≤3→1≤n→tot1 ((List.range n).map g)=g 0+(if 2≤n then g 1 else 0)+(if 3≤n then g 2 else 0):=fun n h1 h2=>by
 have:n=1∨n=2∨n=3:=by omega
 rcases this with rfl|rfl|rfl<;>simp[tot1,smI,List.range_succ]<;>omega
theorem tlyS_tot {n:Nat} (hn:1≤n∧n≤3) {s w:List Int}:∀i,i≤w.length→(∀j,j<i→0≤s.getD j 0∧s.getD j 0≤(n:Int) - 1)→tlyS s w i (0:Nat)+(if 2≤n then tlyS s w i (1:Nat) else 0)+(if 3≤n then tlyS s w i (2:Nat) else 0)=tot1 (w.take i)
 |0,_,_=>by simp[tlyS,tot1,smI]
 |i+1,hi,h=>by
  have ih:=tlyS_tot hn (s:=s) (w:=w) i (by omega) (fun j hj=>h j (by omega))
  have hs:=h i (by omega)
  rw[tot1_take (l:=w) (by omega),←ih]
  simp only[tlyS]
  have hs3:s.getD i 0=0∨s.getD i 0=1∨s.getD i 0=2:=by omega
  rcases hs3 with e|e|e<;>rw[e] at hs ⊢ <;>simp only[show ((0:Nat):Int)=0 from rfl,show ((1:Nat):Int)=1 from rfl,show ((2:Nat):Int)=2 from rfl,if_true]<;>(repeat' split)<;>omega
theorem votes_facts {c:DConf} {f:DForest} {e:DEx} (h1:forestOk c f) (h:exOk c.schema e):(votesA c f e).length=c.schema.classes.length∧tot1 (votesA c f e)=tot1 (voicesL f)∧(∀i,i<(votesA c f e).length→0≤(votesA c f e).getD i 0∧(votesA c f e).getD i 0≤4000)∧(c.members=1→topOf (votesA c f e)=topOf (leafVote c.schema (f.members.getD 0 default).tree e))∧0≤topOf (votesA c f e):=by
 have hcl:=h1.1.1.2.1
 have hml:=h1.2.1
 have hmb:=h1.1.2.2.1
 have hsl:=saysL_len c f e
 have hvl:=voicesL_len f
 have hv:∀j,j<(saysL c f e).length→vOk (c.schema.classes.length:Int) (saysL c f e) (voicesL f) j:=fun j hj=>by
  have a:=says_rng h1 h (i:=j) (by omega)
  have b:=voices_rng f (i:=j) (by omega)
  unfold vOk
  omega
 have e1:votesA c f e=(List.range c.schema.classes.length).map (fun (k:Nat)=>tlyS (saysL c f e) (voicesL f) (saysL c f e).length k):=by
  unfold votesA tly
  rw[if_pos ⟨h1,h⟩,if_pos ⟨by omega,by omega,by omega,hv⟩]
  rfl
 have hl:(votesA c f e).length=c.schema.classes.length:=by rw[e1];simp
 have hg:∀k,k<c.schema.classes.length→(votesA c f e).getD k 0=tlyS (saysL c f e) (voicesL f) (saysL c f e).length (k:Int):=fun k hk=>by
  rw[e1,List.getD_eq_getElem?_getD]
  simp[hk]
 obtain⟨j,g1,g2,g3⟩:=topOf_ex (l:=votesA c f e) (by omega)
 refine⟨hl,?_,fun i hi=>?_,fun hm=>?_,by omega⟩
 ·rw[e1,tot1_map _ _ (by omega) (by omega)]
  have:=tlyS_tot (n:=c.schema.classes.length) (by omega) (s:=saysL c f e) (w:=voicesL f) (saysL c f e).length (by omega) (fun j hj=>says_rng h1 h (by omega))
  rw[this,List.take_of_length_le (by omega)]
 ·have:=tlyS_bd (c:=(i:Int)) hv
  rw[hg i (by omega)]
  omega
 ·have hn1:(saysL c f e).length=1:=by omega
  have a:=says_rng h1 h (i:=0) (by omega)
  have b:=voices_rng f (i:=0) (by omega)
  have hs0:=saysL_get c f e (i:=0) (by omega)
  rw[hs0] at a
  obtain⟨q,hq⟩:=Int.eq_ofNat_of_zero_le a.1
  have hk:=g3 q (by omega)
  rw[hg q (by omega),hg j (by omega),hn1] at hk
  have t1:∀k:Nat,tlyS (saysL c f e) (voicesL f) 1 (k:Int)=if (q:Int)=(k:Int) then (voicesL f).getD 0 0 else 0:=fun k=>by
   simp only[tlyS]
   rw[hs0,hq]
   omega
  rw[t1,t1,if_pos rfl] at hk
  rw[g2,hq]
  by_cases eq:(q:Int)=(j:Int)
  ·exact eq.symm
  ·rw[if_neg eq] at hk
   omega
end Go.AM
