/- Lemmas for the proof of this claim. -/
import Derived.Test.YtpbahibieegbgaaGreatSma
import Derived.Test.YtpbahibieegbgaaGreatTak
import Derived.Test.YtpbahibieegbgaaGreatSdr
namespace Go.AM
set_option maxHeartbeats 64000000
open Go Go.Proofs
set_option maxRecDepth 100000
theorem route_bd {s:DSchema} {t:DTree} {e:DEx} (ht:treeOk s t) (he:exOk s e):∃j:Nat,routeTo s t e=(j:Int)∧j<t.nodes.length:=
 ⟨pos s t e (lastK s t e),if_pos ⟨ht,he⟩,(lastK_ex ht he).2.2 _ (Nat.le_refl _)⟩
theorem node_bd {s:DSchema} {t:DTree} {j:Nat} (ht:treeOk s t) (hj:j<t.nodes.length):0≤(t.nodes.getD j default).since∧(t.nodes.getD j default).since≤999:=by
 obtain⟨⟨_,_,hst,_⟩,hl⟩:=(ht.2.2.2 j hj).1
 split at hl
 ·obtain⟨_,_,_,h0,h1⟩:=hl
  have:=hst.2.2.1
  split at h1<;>omega
 ·have:=hl.2.2.2.2.2.1
  omega
theorem stot_bd {s:DSchema} {t:DStats}:0≤(if statsOk s t then tot1 t.totals else 0)∧(if statsOk s t then tot1 t.totals else 0)≤999:=by
 split
 ·rename_i hh
  have:=(tot1_bd (c:=999) hh.2.1.2).1
  have:=hh.2.2.1
  omega
 ·exact⟨Int.le_refl _,by decide⟩
theorem rowApp {l:List (List Int)} {q:List Int} {nl:Option Bool} {n:Nat} (hn:n=l.length+1):ALe (.sl true nl 1 n (apF l.length (fL true l) (rowsF [[.sl true none 1 q.length (fI q)]]))) (.sl true none 1 (l++[q]).length (fL true (l++[q]))):=by
 subst hn
 exact appLe1 rfl rfl (.inl rfl)
def ndW (n:DNode) (st:DStats) (z:Int):DNode:=⟨n.leaf,n.fork,n.kids,n.miss,st,z,n.attrs,n.depth,n.up,n.born⟩
theorem nodeSt {l:List DNode} {k:Nat} {x:DNode} (hk:k<l.length):ALe (.sl true none 12 l.length fun i' j'=>if i'=k∧0≤j'∧j'<12 then gl .junk (cNode true true x) j' else fNode true l i' j') (.sl true none 12 (l.set k x).length (fNode true (l.set k x))):=
 nodeSet (.inl rfl) rfl hk (fun i j h1 h2=>by rw[if_neg (fun h=>h1 h.1)];exact .refl _) (fun j hj=>by rw[if_pos ⟨rfl,Nat.zero_le _,hj⟩];exact .refl _)
theorem spec_TreeLearn (s:DSchema) (r:DRule) (t:DTree) (e:DEx) (w:Int) (tp:DTape) (k:Int) (u v u' v' u2 u3:Bool) (hs:okSchema (2^20) s) (hr:okRule (2^47) r) (ht:smT t) (he:okEx (2^20) e) (hw:0≤w∧w≤100) (htp:okTape 1000 tp) (hk:0≤k∧k≤100):ACalls Tryz.prog 173 [.agg (cSchema u v s),.agg (cRule r),.agg (cTree u' v' t),.agg (cEx u2 false e),.one (.int .i64 w),.agg (cTape u3 false tp),.one (.int .i64 k)] (fun q=>∃x:DTree×DTape×Int,(smT x.1∧okTape 1000 x.2.1∧0≤x.2.2∧x.2.2≤9)∧q=.tup [.agg (cTree true true x.1),.agg (cTape true false x.2.1),.one (.int .i64 x.2.2)]):=by
 have hs47:okSchema (2^47) s:=okSchema_up hs
 have hal:=hs.1.1
 have he47:okEx (2^47) e:=⟨okI_up he.1 (by decide),he.2⟩
 have htp40:okTape (2^40) tp:=⟨Nat.le_trans htp.1 (by decide),htp.2⟩
 have htz:=smT_z ht
 have htn:=ht.2.1
 have nt:Tryz.f173.ntmps=224:=rfl
 have rs:Tryz.f173.results=#[.cell 14 30,.cell 15 162,.tmp 16]:=rfl
 refine ACalls.of_runC (m:=400) mixed Tryz.func173 rfl rfl (Nat.le_of_ble_eq_true rfl) ?_
 simp only[nt,rs]
 clear nt rs
 (try refine am ?_);(try exact amT)
 repeat' with_reducible first|apply zA|intro _
 all_goals try exact amA
 refine CallK.one (specFits s r t _ _ _ _ hs47 hr (smT_47 ht) htz) (fun _=>amC) ?_
 (try refine am ?_);(try exact amT)
 repeat' with_reducible first|apply zA|intro _
 all_goals try exact amA
 refine CallG.one rfl (fun hg=>specExOk s e _ _ _ hs47 he47) ?_
 (try refine am ?_);(try exact amT)
 repeat' with_reducible first|apply zA|intro _
 all_goals try exact amA
 refine CallG.one rfl (fun hg=>l1In w 1 7) ?_
 (try refine am ?_);(try exact amT)
 repeat' with_reducible first|apply zA|intro _
 all_goals try exact amA
 refine CallG.one rfl (fun hg=>specTapeOk tp _ htp40) ?_
 (try refine am ?_);(try exact amT)
 repeat' with_reducible first|apply zA|intro _
 all_goals try exact amA
 refine CallG.one rfl (fun hg=>l1In k 1 _) ?_
 (try refine am ?_);(try exact amT)
 repeat' with_reducible first|apply zA|intro _
 all_goals try exact amA
 ·refine CallCE.one (l19CopyI t _ _ (smT_40 ht) (smT_n ht)) (fun _=>amC) rfl ?_
  (try refine am ?_);(try exact amT)
  refine CallCE.one (spec_l15Copy tp _ htp40) (fun _=>amC) rfl ?_
  (try refine am ?_);(try exact amT)
  repeat' with_reducible first|apply zA|intro _
  all_goals try exact amA
  refine FinK.ex ((t,tp,2)) ?hq1 ?_
  case hq1=>exact⟨ht,htp,by dsimp only;omega,by dsimp only;omega⟩
  refine FinK.tup ?_ ?_
  all_goals try refine amF ?_
  all_goals try exact amT
  all_goals trace_state
 have hfit:fits s r t:=by simp_all
 have hexo:exOk s e:=by simp_all
 have hww:1≤w∧w≤7:=by omega
 have hkk:1≤k∧k≤(s.attrs.length:Int):=by omega
 have htk:=hfit.1
 obtain⟨j,hj,hjn⟩:=route_bd htk hexo
 refine CallK.one (specRouteTo s t e _ _ _ _ _ hs47 (smT_47 ht) he47) (fun _=>amC) ?_
 (try refine am ?_);(try exact amT)
 rw[hj]
 have hnd:=ht.1.1.2 _ (getD_mem (d:=default) hjn)
 have hst:=hnd.2.2.2.2.1
 have hst47:okStats (2^47) (t.nodes.getD j default).stats:=okStats_up hst
 have htb:=stot_bd (s:=s) (t:=(t.nodes.getD j default).stats)
 repeat' with_reducible first|apply zA|intro _
 all_goals try exact amA
 refine CallCEG.one rfl rfl (fun hg=>specStatsTotal s (t.nodes.getD j default).stats _ _ _ _ hs47 hst47) ?_
 (try refine am ?_);(try exact amT)
 repeat' with_reducible first|apply zA|intro _
 all_goals try exact amA
 ·refine CallCE.one (l19CopyI t _ _ (smT_40 ht) (smT_n ht)) (fun _=>amC) rfl ?_
  (try refine am ?_);(try exact amT)
  refine CallCE.one (spec_l15Copy tp _ htp40) (fun _=>amC) rfl ?_
  (try refine am ?_);(try exact amT)
  repeat' with_reducible first|apply zA|intro _
  all_goals try exact amA
  refine FinK.ex ((t,tp,3)) ?hq2 ?_
  case hq2=>exact⟨ht,htp,by dsimp only;omega,by dsimp only;omega⟩
  refine FinK.tup ?_ ?_
  all_goals try refine amF ?_
  all_goals try exact amT
 refine CallK.one (l19CopyI t _ _ (smT_40 ht) (smT_n ht)) (fun _=>amC) ?_
 (try refine am ?_);(try exact amT)
 repeat' with_reducible first|apply zA|intro _
 all_goals try exact amA
 refine CallK.one (l19CopyNodeI (t.nodes.getD j default) _ _ (okNode_up hnd)) (fun _=>amC) ?_
 (try refine am ?_);(try exact amT)
 repeat' with_reducible first|apply zA|intro _
 all_goals try exact amA
 refine CallK.two (spec_StatsAdd (2^10) (by decide) s (t.nodes.getD j default).stats e w _ _ _ _ _ hs hst he hw) (fun _ _ _=>amC) (fun t=>Nat.beq t 48) 900 ?_
 rintro⟨st,sb⟩ hst2
 (try refine am ?_);(try exact amT)
 dsimp only at hst2 ⊢
 have hst2l:=hst2.2.1
 have hseen:=htk.2.2.1
 have hsince:=node_bd htk hjn
 have hgr:=hfit.2.1
 have hkk0:∀z:Int,-1000000000000≤z→z≤1000000000000→inK .i64 z:=fun z h1 h2=>⟨by show (-9223372036854775808:Int)≤_;omega,by show _≤(9223372036854775807:Int);omega⟩
 have hT:∀z:Int,-1000000000000≤z→z≤1000000000000→okNode (2^10) (ndW (t.nodes.getD j default) st z):=fun z h1 h2=>⟨trivial,hnd.2.1,hnd.2.2.1,hnd.2.2.2.1,hst2,hkk0 z h1 h2,hnd.2.2.2.2.2.2⟩
 have hse:0≤t.seen+1∧t.seen+1≤100000:=by omega
 repeat' with_reducible first|apply zA|intro _
 all_goals try exact amA
 ·have hT0:=hT 0 (by omega) (by omega)
  refine PeekK.ex (specWants s r (ndW (t.nodes.getD j default) st 0) _ _ _ _ hs47 hr (okNode_up hT0)) (fun _ _=>amC) ?_
  rintro⟨f,how⟩ ⟨hf,hh⟩
  (try refine am ?_);(try exact amT)
  dsimp only at hf hh ⊢
  have hbr:=branches_le s f
  repeat' with_reducible first|apply zA|intro _
  all_goals try exact amA
  refine CallCEG.one rfl rfl (fun hg=>specBranches s f _ _ hs47 hf) ?_
  (try refine am ?_);(try exact amT)
  repeat' with_reducible first|apply zA|intro _
  all_goals try exact amA
  ·refine CallCE.one (spec_l15Copy tp _ htp40) (fun _=>amC) rfl ?_
   (try refine am ?_);(try exact amT)
   repeat' with_reducible first|apply zA|intro _
   all_goals try exact amA
   refine FinK.ex ((⟨t.nodes.set j (ndW (t.nodes.getD j default) st 0),t.seen+1⟩,tp,0)) ?hq3 ?_
   case hq3=>exact⟨smT_set ht hT0 hse,htp,by dsimp only;omega,by dsimp only;omega⟩
   refine FinK.tup ?_ ?_
   all_goals try refine amF ?_
   all_goals try exact amT
   exact nodeSt (x:=ndW (t.nodes.getD j default) st 0) hjn
  ·have hTs:=smT_set (i:=j) ht hT0 hse
   have hsl:=htk.1.1
   have htp2:=htp.2
   refine CallK.one (spec_l15Copy tp _ htp40) (fun _=>amC) ?_
   (try refine am ?_);(try exact amT)
   repeat' with_reducible first|apply zA|intro _
   all_goals try exact amA
   refine LoopK.auto ((Nat×DTape×List (List Int))) (fun x=>[(25,.one (.av (.int .i64 x.1))),(24,.one (.ref 302 [] [0] 0 0)),(23,.one (.own 303 [] [0])),(18,.one (.ref 304 [] [0] 0 0))]) (fun x=>[(302,⟨.sl true none 2 1 (fun _ j=>gl .junk (cTape true false x.2.1) j),[]⟩),(303,⟨.sl true none 1 x.2.2.length (fL true x.2.2),[]⟩),(304,⟨.sl true none 2 1 (fun _ q=>gl .junk (cTree true true ⟨t.nodes.set j (ndW (t.nodes.getD j default) st 0),t.seen+1⟩) q),[]⟩)]) [6,7,8,9,12,14,15,17,21] (k0:=?k01) (keepH:=?kh1) 3000 (fun x=>(x.1≤branches s f∧okTape 1000 x.2.1)∧x.2.2.length=x.1∧∀l∈x.2.2,okI 5 l) (fun x=>branches s f - x.1) ((0,tp,[])) ?kea1 ?keb1 ?_ ?_ ?_
   case kea1=>exact amN
   case keb1=>exact amN
   ·exact⟨⟨Nat.zero_le _,htp⟩,rfl,fun l hl=>by simp at hl⟩
   ·refine LeA [] ?_ ?_ ?_
    all_goals try refine amL ?_
    all_goals try exact amT
    refine⟨boxL2 ?_ (.refl _),ALe.of (.inl rfl) rfl (fun i hi=>by omega),boxSt⟩
    exact nodeSt (x:=ndW (t.nodes.getD j default) st 0) hjn
   ·rintro⟨i,tq,l⟩ ⟨⟨hi,htq⟩,hl,hb⟩
    dsimp only at hi htq hl hb ⊢
    have htq40:okTape (2^40) tq:=⟨Nat.le_trans htq.1 (by decide),htq.2⟩
    (try refine am ?_);(try exact amT)
    refine CallK.one (specBranches s f _ _ hs47 hf) (fun _=>amC) ?_
    (try refine am ?_);(try exact amT)
    repeat' with_reducible first|apply zA|intro _
    all_goals try exact amA
    ·refine CallK.ex (specTakeSubset tq (s.attrs.length:Int) k _ htq40 (by omega) (by omega)) (fun _ _ _=>amC) ?_
     rintro⟨nt,q,b⟩ ⟨⟨h1,h2⟩,h3,h4⟩
     (try refine am ?_);(try exact amT)
     dsimp only at h1 h2 h3 h4 ⊢
     repeat' with_reducible first|apply zA|intro _
     all_goals try exact amA
     ·refine CallCE.one (l19CopyI t _ _ (smT_40 ht) (smT_n ht)) (fun _=>amC) rfl ?_
      (try refine am ?_);(try exact amT)
      refine CallCE.one (spec_l15Copy tp _ htp40) (fun _=>amC) rfl ?_
      (try refine am ?_);(try exact amT)
      repeat' with_reducible first|apply zA|intro _
      all_goals try exact amA
      refine FinK.ex ((t,tp,4)) ?hq4 ?_
      case hq4=>exact⟨ht,htp,by dsimp only;omega,by dsimp only;omega⟩
      refine FinK.tup ?_ ?_
      all_goals try refine amF ?_
      all_goals try exact amT
     ·refine⟨(i+1,nt,l++[q]),?_,⟨⟨by dsimp only;omega,by dsimp only;exact⟨by rw[h1];exact htq.1,h2⟩⟩,by simp[hl],fun y hy=>?_⟩,by dsimp only;omega⟩
      ·refine LeA [] ?_ ?_ ?_
       all_goals try refine amL ?_
       all_goals try exact amT
       exact⟨rowApp rfl,boxSt⟩
      ·rcases List.mem_append.1 hy with h|h
       ·exact hb y h
       ·have:y=q:=by simpa using h
        subst this
        exact⟨h3,h4.2⟩
    ·have hjk:=hkk0 (j:Int) (by omega) (by omega)
     have hL:okL (2^10) l:=⟨by omega,fun y hy=>okI_up (hb y hy) (by decide)⟩
     refine CallK.one (specSplitAt s ⟨t.nodes.set j (ndW (t.nodes.getD j default) st 0),t.seen+1⟩ (j:Int) f l _ _ _ _ _ _ hs47 (smT_40 hTs) (smT_n hTs) hjk hf (okL_up hL)) (fun _=>amC) ?_
     (try refine am ?_);(try exact amT)
     have hTp:=smT_split (s:=s) (i:=(j:Int)) hTs hf hL
     repeat' with_reducible first|apply zA|intro _
     all_goals try exact amA
     refine CallK.one (specEnforce s (splitA s ⟨t.nodes.set j (ndW (t.nodes.getD j default) st 0),t.seen+1⟩ (j:Int) f l) r.units _ _ _ _ hs47 (smT_40 hTp) (smT_n hTp) (smT_z hTp) hr.2.2.2.2.2.1) (fun _=>amC) ?_
     (try refine am ?_);(try exact amT)
     repeat' with_reducible first|apply zA|intro _
     all_goals try exact amA
     refine FinK.ex (((enforce s (splitA s ⟨t.nodes.set j (ndW (t.nodes.getD j default) st 0),t.seen+1⟩ (j:Int) f l) r.units).1,tq,1)) ?hq5 ?_
     case hq5=>exact⟨smT_enf hTp,htq,by dsimp only;omega,by dsimp only;omega⟩
     refine FinK.tup ?_ ?_
     all_goals try refine amF ?_
     all_goals try exact amT
 ·have hT0:=hT ((t.nodes.getD j default).since+w) (by omega) (by omega)
  refine CallCE.one (spec_l15Copy tp _ htp40) (fun _=>amC) rfl ?_
  (try refine am ?_);(try exact amT)
  repeat' with_reducible first|apply zA|intro _
  all_goals try exact amA
  refine FinK.ex ((⟨t.nodes.set j (ndW (t.nodes.getD j default) st ((t.nodes.getD j default).since+w)),t.seen+1⟩,tp,0)) ?hq6 ?_
  case hq6=>exact⟨smT_set ht hT0 hse,htp,by dsimp only;omega,by dsimp only;omega⟩
  refine FinK.tup ?_ ?_
  all_goals try refine amF ?_
  all_goals try exact amT
  exact nodeSt (x:=ndW (t.nodes.getD j default) st ((t.nodes.getD j default).since+w)) hjn
 ·have hT0:=hT (t.nodes.getD j default).since (by omega) (by omega)
  refine CallCE.one (spec_l15Copy tp _ htp40) (fun _=>amC) rfl ?_
  (try refine am ?_);(try exact amT)
  repeat' with_reducible first|apply zA|intro _
  all_goals try exact amA
  refine FinK.ex ((⟨t.nodes.set j (ndW (t.nodes.getD j default) st (t.nodes.getD j default).since),t.seen+1⟩,tp,0)) ?hq7 ?_
  case hq7=>exact⟨smT_set ht hT0 hse,htp,by dsimp only;omega,by dsimp only;omega⟩
  refine FinK.tup ?_ ?_
  all_goals try refine amF ?_
  all_goals try exact amT
  exact nodeSt (x:=ndW (t.nodes.getD j default) st (t.nodes.getD j default).since) hjn
end Go.AM
namespace Go.AM
set_option maxHeartbeats 64000000
open Go Go.Proofs
set_option maxRecDepth 100000
theorem exApp {l:List DEx} {x:DEx} {nl:Option Bool} {n:Nat} (hn:n=l.length+1):ALe (.sl true nl 2 n (apF l.length (fEx true l) (rowsF [cEx true true x]))) (.sl true none 2 (l++[x]).length (fEx true (l++[x]))):=by
 subst hn
 exact appLe1 rfl rfl (.inl rfl)
theorem spec_l21Grown (nb:Nat) (hn:nb≤2^40) (s:DSchema) (r:DRule) (n:Int) (u v:Bool) (hs:okSchema (2^20) s) (hsl:s.attrs.length≤5) (hr:okRule (2^47) r) (hnn:0≤n∧n≤60):ACur Tryz.prog 143 nb [.agg (cSchema u v s),.agg (cRule r),.one (.int .i64 n)] (fun q=>∃x:DTree×List DEx,(smT x.1∧okExS (2^20) x.2)∧q=.tup [.agg (cTree true true x.1),.one (aEx true true x.2)]):=by
 have hs47:okSchema (2^47) s:=okSchema_up hs
 have nt:Tryz.f143.ntmps=65:=rfl
 have rs:Tryz.f143.results=#[.cell 8 30,.tmp 9]:=rfl
 refine ACur.of_run (m:=400) mixed Tryz.func143 rfl rfl (Nat.le_of_ble_eq_true rfl) (fun xc=>?_)
 simp only[nt,rs]
 clear nt rs
 (try refine am ?_);(try exact amT)
 repeat' with_reducible first|apply zA|intro _
 all_goals try exact amA
 refine CallK.cur (spec_l9RightAttrs nb hn s _ _ hs) rfl rfl rfl (fun _ _ _=>amC) ?_
 rintro l hl
 (try refine am ?_);(try exact amT)
 have hll:=hl.1
 repeat' with_reducible first|apply zA|intro _
 all_goals try exact amA
 refine CallK.one (specTreeNew s l _ _ _ _ hs47 (by omega)) (fun _=>amC) ?_
 (try refine am ?_);(try exact amT)
 have htn:smT (treeNew s l):=smT_new hl
 repeat' with_reducible first|apply zA|intro _
 all_goals try exact amA
 refine CallK.cur (spec_l1Below nb hn _) rfl rfl rfl (fun _ _ _=>amC) ?_
 rintro z ⟨hz0,hz1⟩
 (try refine am ?_);(try exact amT)
 repeat' with_reducible first|apply zA|intro _
 all_goals try exact amA
 refine LoopK.auto ((DTree×List DEx×Nat)) (fun y=>[(14,.one (.av (.int .i64 y.2.2))),(11,.one (.ref 302 [] [0] 0 0)),(12,.one (.own 303 [] [0]))]) (fun y=>[(302,⟨.sl true none 2 1 (fun _ j=>gl .junk (cTree true true y.1) j),[]⟩),(303,⟨.sl true none 2 y.2.1.length (fEx true y.2.1),[]⟩)]) [0,3,5,6,8,13] (k0:=?k01) (keepH:=?kh1) 700 (fun y=>(smT y.1∧(y.2.2:Int)≤n)∧y.2.1.length=y.2.2∧∀e∈y.2.1,okEx (2^20) e) (fun y=>n.toNat - y.2.2) ((treeNew s l,[],0)) ?kea1 ?keb1 ?_ ?_ ?_
 case kea1=>exact amN
 case keb1=>exact amN
 ·exact⟨⟨htn,by dsimp only;omega⟩,rfl,fun e he=>by simp at he⟩
 ·refine LeA [] ?_ ?_ ?_
  all_goals try refine amL ?_
  all_goals try exact amT
  exact⟨ALe.of (.inl rfl) rfl (fun i hi=>by omega),boxSt⟩
 ·rintro⟨t,q,i⟩ ⟨⟨ht,hi⟩,hq,hb⟩
  dsimp only at ht hi hq hb ⊢
  (try refine am ?_);(try exact amT)
  repeat' with_reducible first|apply zA|intro _
  all_goals try exact amA
  ·refine CallK.cur (spec_l7Right nb hn s _ _ hs) rfl rfl rfl (fun _ _ _=>amC) ?_
   rintro e ⟨he,_⟩
   (try refine am ?_);(try exact amT)
   have hel:=he.1.1
   repeat' with_reducible first|apply zA|intro _
   all_goals try exact amA
   refine CallK.cur (spec_l15Bytes nb hn 8 (by decide)) rfl rfl rfl (fun _ _ _=>amC) ?_
   rintro bs hbs
   (try refine am ?_);(try exact amT)
   repeat' with_reducible first|apply zA|intro _
   all_goals try exact amA
   have k0:inK .i64 0:=⟨by decide,by decide⟩
   have htb:okTape 1000 ⟨bs,0⟩:=⟨hbs,k0⟩
   refine CallCE.cur (spec_l1PickInt nb hn true (some false) [1,3,7,7] (by simp) (by simp)) rfl (1) ?hcq rfl rfl rfl (fun _ _ _=>amC) (fun _=>rfl) (fun _=>rfl) ?_
   case hcq=>exact by simp
   rintro w hw
   (try refine am ?_);(try exact amT)
   have hw2:0≤w∧w≤100:=by simp at hw;omega
   refine CallCE.ex (spec_TreeLearn s r t e w ⟨bs,0⟩ (1+z) _ _ _ _ _ _ hs hr ht he hw2 htb (by omega)) rfl ((t,⟨bs,0⟩,0)) ?hcq (fun _ _ _=>amC) (fun _=>rfl) (fun _=>rfl) ?_
   case hcq=>exact⟨ht,htb,by dsimp only;omega,by dsimp only;omega⟩
   rintro⟨t2,tp,c⟩ ⟨ht2,htp,hc⟩
   (try refine am ?_);(try exact amT)
   dsimp only at ht2 htp hc ⊢
   repeat' with_reducible first|apply zA|intro _
   all_goals try exact amA
   refine⟨(t2,q++[e],i+1),?_,⟨⟨ht2,by dsimp only;omega⟩,by simp[hq],fun y hy=>?_⟩,by dsimp only;omega⟩
   ·refine LeA [] ?_ ?_ ?_
    all_goals try refine amL ?_
    all_goals try exact amT
    exact⟨exApp rfl,boxSt⟩
   ·rcases List.mem_append.1 hy with h|h
    ·exact hb y h
    ·have:y=e:=by simpa using h
     subst this;exact he
  ·refine FinK.cur (.refl _) ⟨trivial,rfl⟩ rfl ?_
   refine FinK.ex ((t,q)) ?hq1 ?_
   case hq1=>exact⟨ht,by dsimp only;omega,hb⟩
   refine FinK.tup ?_ ?_
   all_goals try refine amF ?_
   all_goals try exact amT
end Go.AM
