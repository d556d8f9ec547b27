/- Lemmas for the proof of this claim. -/
import Derived.Test.YtpbahibieegbgaaGreatTr2
import Derived.Test.YtpbahibieegbgaaGreatWlib
import Derived.Test.YtpbahibieegbgaaGreatData
namespace Go.AM
set_option maxHeartbeats 64000000
open Go Go.Proofs
set_option maxRecDepth 100000
theorem appRow {l:List (List Int)} {i n:Nat} {nl nl':Option Bool} {g:Nat→Nat→AV} (hnl:nl'=none∨nl'=nl) (hn:n=i+1) (hg:ALe (g 0 0) (.sl true none 1 (l.getD i []).length (fI (l.getD i [])))):ALe (.sl true nl 1 n (apF i (fL true l) g)) (.sl true nl' 1 (i+1) (fL true l)):=by
 refine ALe.of hnl hn (fun a ha j hj=>?_)
 obtain rfl:j=0:=by omega
 unfold apF
 by_cases e:a<i
 ·rw[if_pos e];exact .refl _
 ·rw[if_neg e]
  obtain rfl:a=i:=by omega
  rw[Nat.sub_self]
  exact hg
theorem roI {l:List Int} {nl:Option Bool} {g:Nat→Nat→AV}:ALe (.sl true nl 1 l.length (apF 0 g fun i j=>(fI l i j).ro)) (.sl true none 1 l.length (fI l)):=by
 refine ALe.of (.inl rfl) rfl (fun a ha j hj=>?_)
 obtain rfl:j=0:=by omega
 exact .refl _
theorem rowsLe2 {nl:Option Bool} {n:Nat} {F:Nat→Nat→AV} {m:List (List Int)} (hn:n=m.length) (h:∀i,i<n→ALe (F i 0) (.sl true none 1 (m.getD i []).length (fI (m.getD i [])))):ALe (.sl true nl 1 n F) (.sl true none 1 m.length (fL true m)):=by
 refine ALe.of (.inl rfl) hn (fun a ha j hj=>?_)
 obtain rfl:j=0:=by omega
 exact h a ha
theorem okL_at {B:Nat} {l:List (List Int)} (h:okL B l) (i:Nat):(l.getD i []).length≤B:=by
 by_cases e:i<l.length
 ·exact(h.2 _ (getD_mem e)).1
 ·have:l.getD i []=[]:=by rw[List.getD_eq_getElem?_getD,List.getElem?_eq_none (by omega)];rfl
  rw[this];exact Nat.zero_le _
theorem cloneListsI (l:List (List Int)) (u v:Bool) (h:okL (2^40) l):ACalls Tryz.prog 175 [.one (aL u v l)] (fun r=>r=.val (.one (aL true true l))):=by
 have hl:=h.1
 have nt:Tryz.f175.ntmps=19:=rfl
 have rs:Tryz.f175.results=#[.tmp 2]:=rfl
 refine ACalls.of_run (m:=400) mixed Tryz.func175 rfl rfl (Nat.le_of_ble_eq_true rfl) ?_
 simp only[nt,rs]
 clear nt rs
 (try refine am ?_);(try exact amT)
 refine LoopK.auto (Nat) (fun i=>[(8,.one (.av (.int .i64 i))),(3,.one (.own 302 [] [0]))]) (fun i=>[(302,⟨.sl true none 1 i (fL true l),[]⟩)]) [6,7] (k0:=?k01) (keepH:=?kh1) 400 (fun i=>i≤l.length) (fun i=>l.length - i) (0) ?kea1 ?keb1 ?_ ?_ ?_
 case kea1=>exact amN
 case keb1=>exact amN
 ·exact Nat.zero_le _
 ·refine LeA [302] ?_ ?_ ?_
  all_goals try refine amL ?_
  all_goals try exact amT
  all_goals exact⟨_,_,rfl⟩
 ·intro i hi
  (try refine am ?_);(try exact amT)
  repeat' with_reducible first|apply zA|intro _
  all_goals try exact amA
  ·have hlt:i<l.length:=by assumption
   refine CallK.one (cloneI (l.getD i []) _ (by have:=okL_at h i;omega)) (fun _=>amC) ?_
   (try refine am ?_);(try exact amT)
   repeat' with_reducible first|apply zA|intro _
   all_goals try exact amA
   refine⟨i+1,?_,by omega,by omega⟩
   refine LeA [] ?_ ?_ ?_
   all_goals try refine amL ?_
   all_goals try exact amT
   exact appRow (.inl rfl) rfl (.refl _)
  ·have ei:i=l.length:=by omega
   subst ei
   refine FinK.val1 ?_ ?_
   all_goals try refine amF ?_
   all_goals try exact amT
   all_goals (first|exact .refl _)
def thin (x:DStats):DStats:=⟨x.totals,[]⟩
theorem implThin (x:DStats) (u v:Bool) (h:okStats (2^40) x):ACalls Tryz.prog 43 [.agg (cStats u v x)] (fun r=>r=.val (.agg (cStats true true (thin x)))):=by
 have hl:=h.1.1
 have nt:Tryz.f43.ntmps=7:=rfl
 have rs:Tryz.f43.results=#[.cell 2 46]:=rfl
 refine ACalls.of_run (m:=400) mixed Tryz.func43 rfl rfl (Nat.le_of_ble_eq_true rfl) ?_
 simp only[nt,rs]
 clear nt rs
 (try refine am ?_);(try exact amT)
 refine CallK.one (cloneI x.totals _ (by omega)) (fun _=>amC) ?_
 (try refine am ?_);(try exact amT)
 repeat' with_reducible first|apply zA|intro _
 all_goals try exact amA
 refine FinK.cell1 ?_ ?_ ?_
 all_goals try refine amF ?_
 all_goals try exact amT
 exact⟨.refl _,.nil _ _ _ _ _⟩
theorem specThin (x:DStats) (u v:Bool) (h:okStats (2^40) x):ACalls Tryz.prog 52 [.agg (cStats u v x)] (fun r=>r=.val (.agg (cStats true true (thin x)))):=by
 have hl:=h.1.1
 have nt:Tryz.f52.ntmps=8:=rfl
 have rs:Tryz.f52.results=#[.cell 2 46]:=rfl
 refine ACalls.of_run (m:=400) mixed Tryz.func52 rfl rfl (Nat.le_of_ble_eq_true rfl) ?_
 simp only[nt,rs]
 clear nt rs
 (try refine am ?_);(try exact amT)
 repeat' with_reducible first|apply zA|intro _
 all_goals try exact amA
 refine FinK.cell1 ?_ ?_ ?_
 all_goals try refine amF ?_
 all_goals try exact amT
 exact⟨roI,.nil _ _ _ _ _⟩
theorem cloneStatsI (x:DStats) (u v:Bool) (h:okStats (2^40) x):ACalls Tryz.prog 145 [.agg (cStats u v x)] (fun r=>r=.val (.agg (cStats true true x))):=by
 have hl:=h.1.1
 have nt:Tryz.f145.ntmps=10:=rfl
 have rs:Tryz.f145.results=#[.cell 2 46]:=rfl
 refine ACalls.of_run (m:=400) mixed Tryz.func145 rfl rfl (Nat.le_of_ble_eq_true rfl) ?_
 simp only[nt,rs]
 clear nt rs
 (try refine am ?_);(try exact amT)
 repeat' with_reducible first|apply zA|intro _
 all_goals try exact amA
 refine CallE.one (cloneI x.totals _ (by omega)) (fun _=>amC) rfl ?_
 (try refine am ?_);(try exact amT)
 repeat' with_reducible first|apply zA|intro _
 all_goals try exact amA
 refine CallE.one (cloneListsI x.cells _ _ h.2) (fun _=>amC) rfl ?_
 (try refine am ?_);(try exact amT)
 repeat' with_reducible first|apply zA|intro _
 all_goals try exact amA
 refine FinK.cell1 ?_ ?_ ?_
 all_goals try refine amF ?_
 all_goals try exact amT
theorem l8CopyI (x:DStats) (u v:Bool) (h:okStats (2^40) x):ACalls Tryz.prog 147 [.agg (cStats u v x)] (fun r=>r=.val (.agg (cStats true true x))):=by
 have hl:=h.1.1
 have hl2:=h.2.1
 have nt:Tryz.f147.ntmps=30:=rfl
 have rs:Tryz.f147.results=#[.cell 2 46]:=rfl
 refine ACalls.of_run (m:=400) mixed Tryz.func147 rfl rfl (Nat.le_of_ble_eq_true rfl) ?_
 simp only[nt,rs]
 clear nt rs
 (try refine am ?_);(try exact amT)
 repeat' with_reducible first|apply zA|intro _
 all_goals try exact amA
 refine LoopK.auto (Nat) (fun i=>[(4,.one (.av (.int .i64 i))),(3,.one (.ref 302 [] [0] 0 0))]) (fun i=>[(302,⟨.sl true none 2 1 (fun _ j=>gl .junk [aI true x.totals,.sl true none 1 i (fL true x.cells)] j),[]⟩)]) [1,2] (k0:=?k02) (keepH:=?kh2) 400 (fun i=>i≤x.cells.length) (fun i=>x.cells.length - i) (0) ?kea2 ?keb2 ?_ ?_ ?_
 case kea2=>exact amN
 case keb2=>exact amN
 ·exact Nat.zero_le _
 ·refine LeA [] ?_ ?_ ?_
  all_goals try refine amL ?_
  all_goals try exact amT
  refine ALe.of (.inl rfl) rfl (fun i' hi' j hj=>?_)
  have hj':j=0∨j=1:=by omega
  obtain rfl:i'=0:=by omega
  rcases hj' with rfl|rfl
  ·(try simp only[gl,true_and,and_true,and_self,false_and,and_false,if_true,if_false,reduceIte,Nat.le_refl,Nat.lt_irrefl,Nat.zero_le,Nat.reduceLT,Nat.reduceLeDiff,Nat.reduceSub,Nat.reduceEqDiff,Nat.sub_self,Nat.sub_zero,Nat.add_zero,Nat.zero_add,Nat.reduceAdd,OfNat.ofNat_ne_zero,OfNat.zero_ne_ofNat,zero_ne_one,one_ne_zero,Nat.zero_ne_one,Nat.one_ne_zero,Nat.not_lt_zero,Nat.succ_ne_zero]);exact roI
  ·(try simp only[gl,true_and,and_true,and_self,false_and,and_false,if_true,if_false,reduceIte,Nat.le_refl,Nat.lt_irrefl,Nat.zero_le,Nat.reduceLT,Nat.reduceLeDiff,Nat.reduceSub,Nat.reduceEqDiff,Nat.sub_self,Nat.sub_zero,Nat.add_zero,Nat.zero_add,Nat.reduceAdd,OfNat.ofNat_ne_zero,OfNat.zero_ne_ofNat,zero_ne_one,one_ne_zero,Nat.zero_ne_one,Nat.one_ne_zero,Nat.not_lt_zero,Nat.succ_ne_zero]);exact .nil _ _ _ _ _
 ·intro i hi
  have hm:=okL_at h.2 i
  (try refine am ?_);(try exact amT)
  repeat' with_reducible first|apply zA|intro _
  all_goals try exact amA
  ·have hlt:i<x.cells.length:=by assumption
   refine⟨i+1,?_,by omega,by omega⟩
   refine LeA [] ?_ ?_ ?_
   all_goals try refine amL ?_
   all_goals try exact amT
   refine ALe.of (.inl rfl) rfl (fun i' hi' j hj=>?_)
   have hj':j=0∨j=1:=by omega
   obtain rfl:i'=0:=by omega
   rcases hj' with rfl|rfl
   ·(try simp only[gl,true_and,and_true,and_self,false_and,and_false,if_true,if_false,reduceIte,Nat.le_refl,Nat.lt_irrefl,Nat.zero_le,Nat.reduceLT,Nat.reduceLeDiff,Nat.reduceSub,Nat.reduceEqDiff,Nat.sub_self,Nat.sub_zero,Nat.add_zero,Nat.zero_add,Nat.reduceAdd,OfNat.ofNat_ne_zero,OfNat.zero_ne_ofNat,zero_ne_one,one_ne_zero,Nat.zero_ne_one,Nat.one_ne_zero,Nat.not_lt_zero,Nat.succ_ne_zero]);exact .refl _
   ·(try simp only[gl,true_and,and_true,and_self,false_and,and_false,if_true,if_false,reduceIte,Nat.le_refl,Nat.lt_irrefl,Nat.zero_le,Nat.reduceLT,Nat.reduceLeDiff,Nat.reduceSub,Nat.reduceEqDiff,Nat.sub_self,Nat.sub_zero,Nat.add_zero,Nat.zero_add,Nat.reduceAdd,OfNat.ofNat_ne_zero,OfNat.zero_ne_ofNat,zero_ne_one,one_ne_zero,Nat.zero_ne_one,Nat.one_ne_zero,Nat.not_lt_zero,Nat.succ_ne_zero]);exact appRow (.inl rfl) rfl roI
  ·have ei:i=x.cells.length:=by omega
   subst ei
   refine FinK.cell1 ?_ ?_ ?_
   all_goals try refine amF ?_
   all_goals try exact amT
   all_goals (first|exact .refl _)
theorem okNode_at {B:Nat} {l:List DNode} (h:okNodeS B l) {i:Nat} (hi:i<l.length):okNode B (l.getD i default):=h.2 _ (getD_mem hi)
theorem cloneNodeI (x:DNode) (u v:Bool) (h:okNode (2^40) x):ACalls Tryz.prog 101 [.agg (cNode u v x)] (fun r=>r=.val (.agg (cNode true true x))):=by
 have hk:=h.2.2.1.1
 have ha:=h.2.2.2.2.2.2.1.1
 have nt:Tryz.f101.ntmps=16:=rfl
 have rs:Tryz.f101.results=#[.cell 2 48]:=rfl
 refine ACalls.of_run (m:=400) mixed Tryz.func101 rfl rfl (Nat.le_of_ble_eq_true rfl) ?_
 simp only[nt,rs]
 clear nt rs
 (try refine am ?_);(try exact amT)
 refine CallK.one (cloneI x.kids _ (by omega)) (fun _=>amC) ?_
 (try refine am ?_);(try exact amT)
 repeat' with_reducible first|apply zA|intro _
 all_goals try exact amA
 refine CallK.one (cloneStatsI x.stats _ _ h.2.2.2.2.1) (fun _=>amC) ?_
 (try refine am ?_);(try exact amT)
 repeat' with_reducible first|apply zA|intro _
 all_goals try exact amA
 refine CallK.one (cloneI x.attrs _ (by omega)) (fun _=>amC) ?_
 (try refine am ?_);(try exact amT)
 repeat' with_reducible first|apply zA|intro _
 all_goals try exact amA
 refine FinK.cell1 ?_ ?_ ?_
 all_goals try refine amF ?_
 all_goals try exact amT
 all_goals (first|exact .refl _)
theorem l19CopyNodeI (x:DNode) (u v:Bool) (h:okNode (2^40) x):ACalls Tryz.prog 108 [.agg (cNode u v x)] (fun r=>r=.val (.agg (cNode true true x))):=by
 have hk:=h.2.2.1.1
 have ha:=h.2.2.2.2.2.2.1.1
 have nt:Tryz.f108.ntmps=20:=rfl
 have rs:Tryz.f108.results=#[.cell 2 48]:=rfl
 refine ACalls.of_run (m:=400) mixed Tryz.func108 rfl rfl (Nat.le_of_ble_eq_true rfl) ?_
 simp only[nt,rs]
 clear nt rs
 (try refine am ?_);(try exact amT)
 repeat' with_reducible first|apply zA|intro _
 all_goals try exact amA
 refine CallK.one (l8CopyI x.stats _ _ h.2.2.2.2.1) (fun _=>amC) ?_
 (try refine am ?_);(try exact amT)
 repeat' with_reducible first|apply zA|intro _
 all_goals try exact amA
 refine FinK.cell1 ?_ ?_ ?_
 all_goals try refine amF ?_
 all_goals try exact amT
 exact⟨roI,roI⟩
theorem nodeRow {l:List DNode} {i n:Nat} {nl nl':Option Bool} {g:Nat→Nat→AV} (hnl:nl'=none∨nl'=nl) (hn:n=i+1) (hg:∀j,j<12→ALe (g 0 j) (fNode true l i j)):ALe (.sl true nl 12 n (apF i (fNode true l) g)) (.sl true nl' 12 (i+1) (fNode true l)):=by
 refine ALe.of hnl hn (fun a ha j hj=>?_)
 unfold apF
 by_cases e:a<i
 ·rw[if_pos e];exact .refl _
 ·rw[if_neg e]
  obtain rfl:a=i:=by omega
  rw[Nat.sub_self]
  exact hg j hj
theorem cloneTreeI (t:DTree) (u v:Bool) (h:okTree (2^40) t) (hn:t.nodes.length≤2^38):ACalls Tryz.prog 41 [.agg (cTree u v t)] (fun r=>r=.val (.agg (cTree true true t))):=by
 have hl:=h.1.1
 have nt:Tryz.f41.ntmps=25:=rfl
 have rs:Tryz.f41.results=#[.cell 2 30]:=rfl
 refine ACalls.of_run (m:=400) mixed Tryz.func41 rfl rfl (Nat.le_of_ble_eq_true rfl) ?_
 simp only[nt,rs]
 clear nt rs
 (try refine am ?_);(try exact amT)
 refine LoopK.auto (Nat) (fun i=>[(12,.one (.av (.int .i64 i))),(3,.one (.ref 302 [] [0] 0 0))]) (fun i=>[(302,⟨.sl true none 2 1 (fun _ j=>gl .junk [.sl true none 12 i (fNode true t.nodes),.int .i64 t.seen] j),[]⟩)]) [2,10,11] (k0:=?k03) (keepH:=?kh3) 400 (fun i=>i≤t.nodes.length) (fun i=>t.nodes.length - i) (0) ?kea3 ?keb3 ?_ ?_ ?_
 case kea3=>exact amN
 case keb3=>exact amN
 ·exact Nat.zero_le _
 ·refine LeA [] ?_ ?_ ?_
  all_goals try refine amL ?_
  all_goals try exact amT
  refine ALe.of (.inl rfl) rfl (fun i' hi' j hj=>?_)
  have hj':j=0∨j=1:=by omega
  obtain rfl:i'=0:=by omega
  rcases hj' with rfl|rfl
  ·(try simp only[gl,true_and,and_true,and_self,false_and,and_false,if_true,if_false,reduceIte,Nat.le_refl,Nat.lt_irrefl,Nat.zero_le,Nat.reduceLT,Nat.reduceLeDiff,Nat.reduceSub,Nat.reduceEqDiff,Nat.sub_self,Nat.sub_zero,Nat.add_zero,Nat.zero_add,Nat.reduceAdd,OfNat.ofNat_ne_zero,OfNat.zero_ne_ofNat,zero_ne_one,one_ne_zero,Nat.zero_ne_one,Nat.one_ne_zero,Nat.not_lt_zero,Nat.succ_ne_zero]);exact .nil _ _ _ _ _
  ·(try simp only[gl,true_and,and_true,and_self,false_and,and_false,if_true,if_false,reduceIte,Nat.le_refl,Nat.lt_irrefl,Nat.zero_le,Nat.reduceLT,Nat.reduceLeDiff,Nat.reduceSub,Nat.reduceEqDiff,Nat.sub_self,Nat.sub_zero,Nat.add_zero,Nat.zero_add,Nat.reduceAdd,OfNat.ofNat_ne_zero,OfNat.zero_ne_ofNat,zero_ne_one,one_ne_zero,Nat.zero_ne_one,Nat.one_ne_zero,Nat.not_lt_zero,Nat.succ_ne_zero]);exact .refl _
 ·intro i hi
  (try refine am ?_);(try exact amT)
  repeat' with_reducible first|apply zA|intro _
  all_goals try exact amA
  ·have hlt:i<t.nodes.length:=by assumption
   refine CallE.one (cloneNodeI (t.nodes.getD i default) _ _ (okNode_at h.1 hlt)) (fun _=>amC) rfl ?_
   (try refine am ?_);(try exact amT)
   repeat' with_reducible first|apply zA|intro _
   all_goals try exact amA
   refine⟨i+1,?_,by omega,by omega⟩
   refine LeA [] ?_ ?_ ?_
   all_goals try refine amL ?_
   all_goals try exact amT
   refine ALe.of (.inl rfl) rfl (fun i' hi' j hj=>?_)
   have hj':j=0∨j=1:=by omega
   obtain rfl:i'=0:=by omega
   rcases hj' with rfl|rfl
   ·(try simp only[gl,true_and,and_true,and_self,false_and,and_false,if_true,if_false,reduceIte,Nat.le_refl,Nat.lt_irrefl,Nat.zero_le,Nat.reduceLT,Nat.reduceLeDiff,Nat.reduceSub,Nat.reduceEqDiff,Nat.sub_self,Nat.sub_zero,Nat.add_zero,Nat.zero_add,Nat.reduceAdd,OfNat.ofNat_ne_zero,OfNat.zero_ne_ofNat,zero_ne_one,one_ne_zero,Nat.zero_ne_one,Nat.one_ne_zero,Nat.not_lt_zero,Nat.succ_ne_zero]);exact nodeRow (.inl rfl) rfl (fun j _=>.refl _)
   ·(try simp only[gl,true_and,and_true,and_self,false_and,and_false,if_true,if_false,reduceIte,Nat.le_refl,Nat.lt_irrefl,Nat.zero_le,Nat.reduceLT,Nat.reduceLeDiff,Nat.reduceSub,Nat.reduceEqDiff,Nat.sub_self,Nat.sub_zero,Nat.add_zero,Nat.zero_add,Nat.reduceAdd,OfNat.ofNat_ne_zero,OfNat.zero_ne_ofNat,zero_ne_one,one_ne_zero,Nat.zero_ne_one,Nat.one_ne_zero,Nat.not_lt_zero,Nat.succ_ne_zero]);exact .refl _
  ·have ei:i=t.nodes.length:=by omega
   subst ei
   refine FinK.cell1 ?_ ?_ ?_
   all_goals try refine amF ?_
   all_goals try exact amT
   all_goals (first|exact .refl _)
theorem l19CopyI (t:DTree) (u v:Bool) (h:okTree (2^40) t) (hn:t.nodes.length≤2^38):ACalls Tryz.prog 50 [.agg (cTree u v t)] (fun r=>r=.val (.agg (cTree true true t))):=by
 have hl:=h.1.1
 have nt:Tryz.f50.ntmps=27:=rfl
 have rs:Tryz.f50.results=#[.cell 2 30]:=rfl
 refine ACalls.of_run (m:=400) mixed Tryz.func50 rfl rfl (Nat.le_of_ble_eq_true rfl) ?_
 simp only[nt,rs]
 clear nt rs
 (try refine am ?_);(try exact amT)
 refine LoopK.auto (Nat) (fun i=>[(4,.one (.av (.int .i64 i))),(3,.one (.ref 302 [] [0] 0 0))]) (fun i=>[(302,⟨.sl true none 2 1 (fun _ j=>gl .junk [.sl true none 12 i (fNode true t.nodes),.int .i64 t.seen] j),[]⟩)]) [1,2] (k0:=?k04) (keepH:=?kh4) 400 (fun i=>i≤t.nodes.length) (fun i=>t.nodes.length - i) (0) ?kea4 ?keb4 ?_ ?_ ?_
 case kea4=>exact amN
 case keb4=>exact amN
 ·exact Nat.zero_le _
 ·refine LeA [] ?_ ?_ ?_
  all_goals try refine amL ?_
  all_goals try exact amT
  refine ALe.of (.inl rfl) rfl (fun i' hi' j hj=>?_)
  have hj':j=0∨j=1:=by omega
  obtain rfl:i'=0:=by omega
  rcases hj' with rfl|rfl
  ·(try simp only[gl,true_and,and_true,and_self,false_and,and_false,if_true,if_false,reduceIte,Nat.le_refl,Nat.lt_irrefl,Nat.zero_le,Nat.reduceLT,Nat.reduceLeDiff,Nat.reduceSub,Nat.reduceEqDiff,Nat.sub_self,Nat.sub_zero,Nat.add_zero,Nat.zero_add,Nat.reduceAdd,OfNat.ofNat_ne_zero,OfNat.zero_ne_ofNat,zero_ne_one,one_ne_zero,Nat.zero_ne_one,Nat.one_ne_zero,Nat.not_lt_zero,Nat.succ_ne_zero]);exact .nil _ _ _ _ _
  ·(try simp only[gl,true_and,and_true,and_self,false_and,and_false,if_true,if_false,reduceIte,Nat.le_refl,Nat.lt_irrefl,Nat.zero_le,Nat.reduceLT,Nat.reduceLeDiff,Nat.reduceSub,Nat.reduceEqDiff,Nat.sub_self,Nat.sub_zero,Nat.add_zero,Nat.zero_add,Nat.reduceAdd,OfNat.ofNat_ne_zero,OfNat.zero_ne_ofNat,zero_ne_one,one_ne_zero,Nat.zero_ne_one,Nat.one_ne_zero,Nat.not_lt_zero,Nat.succ_ne_zero]);exact .refl _
 ·intro i hi
  (try refine am ?_);(try exact amT)
  repeat' with_reducible first|apply zA|intro _
  all_goals try exact amA
  ·have hlt:i<t.nodes.length:=by assumption
   refine CallE.one (l19CopyNodeI (t.nodes.getD i default) _ _ (okNode_at h.1 hlt)) (fun _=>amC) rfl ?_
   (try refine am ?_);(try exact amT)
   repeat' with_reducible first|apply zA|intro _
   all_goals try exact amA
   refine⟨i+1,?_,by omega,by omega⟩
   refine LeA [] ?_ ?_ ?_
   all_goals try refine amL ?_
   all_goals try exact amT
   refine ALe.of (.inl rfl) rfl (fun i' hi' j hj=>?_)
   have hj':j=0∨j=1:=by omega
   obtain rfl:i'=0:=by omega
   rcases hj' with rfl|rfl
   ·(try simp only[gl,true_and,and_true,and_self,false_and,and_false,if_true,if_false,reduceIte,Nat.le_refl,Nat.lt_irrefl,Nat.zero_le,Nat.reduceLT,Nat.reduceLeDiff,Nat.reduceSub,Nat.reduceEqDiff,Nat.sub_self,Nat.sub_zero,Nat.add_zero,Nat.zero_add,Nat.reduceAdd,OfNat.ofNat_ne_zero,OfNat.zero_ne_ofNat,zero_ne_one,one_ne_zero,Nat.zero_ne_one,Nat.one_ne_zero,Nat.not_lt_zero,Nat.succ_ne_zero]);exact nodeRow (.inl rfl) rfl (fun j _=>.refl _)
   ·(try simp only[gl,true_and,and_true,and_self,false_and,and_false,if_true,if_false,reduceIte,Nat.le_refl,Nat.lt_irrefl,Nat.zero_le,Nat.reduceLT,Nat.reduceLeDiff,Nat.reduceSub,Nat.reduceEqDiff,Nat.sub_self,Nat.sub_zero,Nat.add_zero,Nat.zero_add,Nat.reduceAdd,OfNat.ofNat_ne_zero,OfNat.zero_ne_ofNat,zero_ne_one,one_ne_zero,Nat.zero_ne_one,Nat.one_ne_zero,Nat.not_lt_zero,Nat.succ_ne_zero]);exact .refl _
  ·have ei:i=t.nodes.length:=by omega
   subst ei
   refine FinK.cell1 ?_ ?_ ?_
   all_goals try refine amF ?_
   all_goals try exact amT
   all_goals (first|exact .refl _)
theorem okI40 {l:List Int} (h:okI (2^40) l):okI (2^47) l:=⟨Nat.le_trans h.1 (by decide),h.2⟩
theorem okL40' {l:List (List Int)} (h:okL (2^40) l):okL (2^47) l:=⟨Nat.le_trans h.1 (by decide),fun x hx=>okI40 (h.2 x hx)⟩
theorem okStats47 {x:DStats} (h:okStats (2^40) x):okStats (2^47) x:=⟨okI40 h.1,okL40' h.2⟩
theorem okNode47 {x:DNode} (h:okNode (2^40) x):okNode (2^47) x:=
 ⟨h.1,h.2.1,okI40 h.2.2.1,h.2.2.2.1,okStats47 h.2.2.2.2.1,h.2.2.2.2.2.1,okI40 h.2.2.2.2.2.2.1,h.2.2.2.2.2.2.2⟩
theorem okTree47 {x:DTree} (h:okTree (2^40) x):okTree (2^47) x:=⟨⟨Nat.le_trans h.1.1 (by decide),fun y hy=>okNode47 (h.1.2 y hy)⟩,h.2⟩
theorem nodeSet {l:List DNode} {k n:Nat} {x:DNode} {nl nl':Option Bool} {F:Nat→Nat→AV} (hnl:nl'=none∨nl'=nl) (hn:n=l.length) (hk:k<l.length) (h1:∀i j,i≠k→j<12→ALe (F i j) (fNode true l i j)) (h2:∀j,j<12→ALe (F k j) (gl .junk (cNode true true x) j)):ALe (.sl true nl 12 n F) (.sl true nl' 12 (l.set k x).length (fNode true (l.set k x))):=by
 refine ALe.of hnl (by rw[List.length_set];exact hn) (fun i hi j hj=>?_)
 rw[fNode_at]
 by_cases e:i=k
 ·subst e
  rw[getD_set_eq hk]
  exact h2 j hj
 ·rw[getD_set_ne (fun h=>e h.symm),←fNode_at]
  exact h1 i j e hj
theorem appOne {l:List Int} {x:Int} {n:Nat} {nl nl':Option Bool} {g:Nat→Nat→AV} (hnl:nl'=none∨nl'=nl) (hn:n=l.length+1) (hg:g 0 0=.int .i64 x):ALe (.sl true nl 1 n (apF l.length (fI l) g)) (.sl true nl' 1 (l++[x]).length (fI (l++[x]))):=by
 refine ALe.of hnl (by rw[List.length_append];exact hn) (fun a ha j hj=>?_)
 obtain rfl:j=0:=by omega
 unfold apF
 by_cases e:a<l.length
 ·rw[if_pos e,fI_at,fI_at,getD_app_l e];exact .refl _
 ·rw[if_neg e]
  obtain rfl:a=l.length:=by omega
  rw[Nat.sub_self,hg,fI_at,getD_app_r];exact .refl _
end Go.AM
