/- Lemmas for the proof of this claim. -/
import Derived.Test.YtpbahibieegbgaaGreatLrn
import Derived.Test.YtpbahibieegbgaaGreatSdr
namespace Go.AM
set_option maxHeartbeats 64000000
open Go Go.Proofs
set_option maxRecDepth 100000
theorem smT_nil:smT ⟨[],0⟩:=⟨⟨⟨Nat.zero_le _,fun y hy=>by simp at hy⟩,⟨by show IntKind.i64.min≤(0:Int);decide,by show (0:Int)≤IntKind.i64.max;decide⟩⟩,Nat.zero_le _,by dsimp only;omega,by dsimp only;omega⟩
theorem spec_l19Right (nb:Nat) (hn:nb≤2^40) (s:DSchema) (u v:Bool) (hs:okSchema (2^20) s) (hsl:s.attrs.length≤5):ACur Tryz.prog 98 nb [.agg (cSchema u v s)] (fun q=>∃x:DTree,smT x∧q=.val (.agg (cTree true true x))):=by
 have nt:Tryz.f98.ntmps=28:=rfl
 have rs:Tryz.f98.results=#[.cell 4 30]:=rfl
 refine ACur.of_run (m:=400) mixed Tryz.func98 rfl rfl (Nat.le_of_ble_eq_true rfl) (fun xc=>?_)
 simp only[nt,rs]
 clear nt rs
 (try refine am ?_);(try exact amT)
 repeat' with_reducible first|apply zA|intro _
 all_goals try exact amA
 refine CallK.cur (spec_l12Right nb hn) rfl rfl rfl (fun _ _ _=>amC) ?_
 rintro r hr
 (try refine am ?_);(try exact amT)
 obtain⟨r1,r2,r3,r4,r5,r6,r7,r8,r9,r10,r11,r12⟩:=hr
 repeat' with_reducible first|apply zA|intro _
 all_goals try exact amA
 refine CallK.cur (spec_l1Once nb hn 3) rfl rfl rfl (fun _ _ _=>amC) ?_
 rintro b hb
 (try refine am ?_);(try exact amT)
 have hk:∀z:Int,-1000000000000≤z→z≤1000000000000→inK .i64 z:=fun z h1 h2=>⟨by show (-9223372036854775808:Int)≤_;omega,by show _≤(9223372036854775807:Int);omega⟩
 repeat' with_reducible first|apply zA|intro _
 all_goals try exact amA
 ·refine CallK.cur (spec_l1PickInt nb hn true (some false) [62,80,120] (by simp) (by simp)) rfl rfl rfl (fun _ _ _=>amC) ?_
  rintro w hw
  (try refine am ?_);(try exact amT)
  have hw2:62≤w∧w≤120:=by simp at hw;omega
  repeat' with_reducible first|apply zA|intro _
  all_goals try exact amA
  refine CallCE.cur (spec_l1PickInt nb hn true (some false) [0,2,12,40,60] (by simp) (by simp)) rfl (0) ?hcq rfl rfl rfl (fun _ _ _=>amC) (fun _=>rfl) (fun _=>rfl) ?_
  case hcq=>exact by simp
  rintro n hnm
  (try refine am ?_);(try exact amT)
  have hn2:0≤n∧n≤60:=by simp at hnm;omega
  refine CallCE.cur (spec_l21Grown nb hn s ⟨r.sure,r.tie,r.grace,r.depth,r.nodes,w,r.two⟩ n _ _ hs hsl ⟨hk _ (by dsimp only;omega) (by dsimp only;omega),hk _ (by dsimp only;omega) (by dsimp only;omega),hk _ (by dsimp only;omega) (by dsimp only;omega),hk _ (by dsimp only;omega) (by dsimp only;omega),hk _ (by dsimp only;omega) (by dsimp only;omega),hk _ (by dsimp only;omega) (by dsimp only;omega),trivial⟩ hn2) rfl ((⟨[],0⟩,[])) ?hcq rfl rfl rfl (fun _ _ _=>amC) (fun _=>rfl) (fun _=>rfl) ?_
  case hcq=>exact⟨smT_nil,Nat.zero_le _,fun y hy=>by simp at hy⟩
  rintro⟨t,q⟩ ⟨ht,hq⟩
  (try refine am ?_);(try exact amT)
  dsimp only at ht hq ⊢
  repeat' with_reducible first|apply zA|intro _
  all_goals try exact amA
  refine FinK.cur (.refl _) ⟨trivial,rfl⟩ rfl ?_
  refine FinK.ex (t) ?hq1 ?_
  case hq1=>exact ht
  refine FinK.cell1 ?_ ?_ ?_
  all_goals try refine amF ?_
  all_goals try exact amT
 ·refine CallCE.cur (spec_l1PickInt nb hn true (some false) [0,2,12,40,60] (by simp) (by simp)) rfl (0) ?hcq rfl rfl rfl (fun _ _ _=>amC) (fun _=>rfl) (fun _=>rfl) ?_
  case hcq=>exact by simp
  rintro n hnm
  (try refine am ?_);(try exact amT)
  have hn2:0≤n∧n≤60:=by simp at hnm;omega
  refine CallCE.cur (spec_l21Grown nb hn s ⟨r.sure,r.tie,r.grace,r.depth,r.nodes,2000,r.two⟩ n _ _ hs hsl ⟨hk _ (by dsimp only;omega) (by dsimp only;omega),hk _ (by dsimp only;omega) (by dsimp only;omega),hk _ (by dsimp only;omega) (by dsimp only;omega),hk _ (by dsimp only;omega) (by dsimp only;omega),hk _ (by dsimp only;omega) (by dsimp only;omega),hk _ (by dsimp only;omega) (by dsimp only;omega),trivial⟩ hn2) rfl ((⟨[],0⟩,[])) ?hcq rfl rfl rfl (fun _ _ _=>amC) (fun _=>rfl) (fun _=>rfl) ?_
  case hcq=>exact⟨smT_nil,Nat.zero_le _,fun y hy=>by simp at hy⟩
  rintro⟨t,q⟩ ⟨ht,hq⟩
  (try refine am ?_);(try exact amT)
  dsimp only at ht hq ⊢
  repeat' with_reducible first|apply zA|intro _
  all_goals try exact amA
  refine FinK.cur (.refl _) ⟨trivial,rfl⟩ rfl ?_
  refine FinK.ex (t) ?hq2 ?_
  case hq2=>exact ht
  refine FinK.cell1 ?_ ?_ ?_
  all_goals try refine amF ?_
  all_goals try exact amT
end Go.AM
namespace Go.AM
set_option maxHeartbeats 64000000
open Go Go.Proofs
set_option maxRecDepth 100000
theorem okI_setK {A:Nat} {l:List Int} {i:Nat} {z:Int} (h:okI A l) (hz:inK .i64 z):okI A (l.set i z):=by
 refine⟨by have:=h.1;simpa using this,fun x hx=>?_⟩
 rcases List.mem_or_eq_of_mem_set hx with hx|hx
 ·exact h.2 x hx
 ·subst hx;exact hz
theorem okI_appK {A B:Nat} {l:List Int} {z:Int} (h:okI A l) (hz:inK .i64 z) (hB:A+1≤B):okI B (l++[z]):=by
 refine⟨by have:=h.1;simp;omega,fun x hx=>?_⟩
 rcases mem_app1 hx with hx|hx
 ·exact h.2 x hx
 ·subst hx;exact hz
theorem okL_setK {B:Nat} {l:List (List Int)} {i:Nat} {r:List Int} (h:okL B l) (hr:okI B r):okL B (l.set i r):=by
 refine⟨by have:=h.1;simpa using this,fun x hx=>?_⟩
 rcases List.mem_or_eq_of_mem_set hx with hx|hx
 ·exact h.2 x hx
 ·subst hx;exact hr
theorem okI_atL {B:Nat} {l:List (List Int)} (h:okL B l) (i:Nat):okI B (l.getD i []):=by
 by_cases hi:i<l.length
 ·exact h.2 _ (getD_mem hi)
 ·rw[List.getD_eq_getElem?_getD,List.getElem?_eq_none (by omega)]
  exact⟨Nat.zero_le _,fun x hx=>by simp at hx⟩
theorem rowSt2 {l:List (List Int)} {r:List Int} (hk:0<l.length) {F:AV} (hF:ALe F (.sl true none 1 r.length (fI r))):ALe (.sl true none 1 l.length fun i' j'=>if i'=0∧0≤j'∧j'<1 then gl .junk [F] j' else if i'=0∧j'=0 then .junk else fL true l i' j') (.sl true none 1 (l.set 0 r).length (fL true (l.set 0 r))):=by
 refine rowsLe2 (by simp) (fun i hi=>?_)
 by_cases e:i=0
 ·subst e
  have e1:(l.set 0 r).getD 0 []=r:=by rw[List.getD_eq_getElem?_getD,List.getElem?_set];simp[hk]
  rw[if_pos ⟨rfl,Nat.le_refl _,Nat.zero_lt_one⟩,e1]
  exact hF
 ·have e1:(l.set 0 r).getD i []=l.getD i []:=by rw[List.getD_eq_getElem?_getD,List.getElem?_set,if_neg (Ne.symm e),←List.getD_eq_getElem?_getD]
  rw[if_neg (fun h=>e h.1),if_neg (fun h=>e h.1),e1]
  exact .refl _
theorem spec_l8Draw (nb:Nat) (hn:nb≤2^40) (s:DSchema) (u v:Bool) (hs:okSchema (2^20) s):ACur Tryz.prog 99 nb [.agg (cSchema u v s)] (fun r=>∃t:DStats,okStats (2^11) t∧r=.val (.agg (cStats true true t))):=by
 have nt:Tryz.f99.ntmps=68:=rfl
 have rs:Tryz.f99.results=#[.cell 4 46]:=rfl
 refine ACur.of_run (m:=400) mixed Tryz.func99 rfl rfl (Nat.le_of_ble_eq_true rfl) (fun xc=>?_)
 simp only[nt,rs]
 clear nt rs
 (try refine am ?_);(try exact amT)
 repeat' with_reducible first|apply zA|intro _
 all_goals try exact amA
 refine CallK.cur (spec_l8Right nb hn s _ _ hs) rfl rfl rfl (fun _ _ _=>amC) ?_
 rintro t ht
 (try refine am ?_);(try exact amT)
 have ht2:okStats (2^11) t:=okStats_up ht
 have htl:=ht.1.1
 have hcl:=ht.2.1
 have hc0:(t.cells.getD 0 []).length≤2^10:=okL_at ht.2 0
 repeat' with_reducible first|apply zA|intro _
 all_goals try exact amA
 refine CallK.cur (spec_l1Below nb hn 14) rfl rfl rfl (fun _ _ _=>amC) ?_
 rintro z ⟨hz0,hz1⟩
 (try refine am ?_);(try exact amT)
 repeat' with_reducible first|apply zA|intro _
 all_goals try exact amA
 ·refine CallCE.cur (spec_l1PickInt nb hn true (some false) [-1,999,998,1000,9223372036854775807] (by simp) (by simp)) rfl (-1) ?hcq rfl rfl rfl (fun _ _ _=>amC) (fun _=>rfl) (fun _=>rfl) ?_
  case hcq=>exact by simp
  rintro a ha
  (try refine am ?_);(try exact amT)
  have ha2: -1≤a∧a≤9223372036854775807:=by simp at ha;omega
  have hak:inK .i64 a:=⟨by show (-9223372036854775808:Int)≤a;omega,by show a≤(9223372036854775807:Int);omega⟩
  repeat' with_reducible first|apply zA|intro _
  all_goals try exact amA
  refine FinK.cur (.refl _) ⟨trivial,rfl⟩ rfl ?_
  refine FinK.ex (⟨t.totals.set 0 a,t.cells⟩) ?hq1 ?_
  case hq1=>exact⟨okI_setK ht2.1 hak,ht2.2⟩
  refine FinK.cell1 ?_ ?_ ?_
  all_goals try refine amF ?_
  all_goals try exact amT
  exact setLeI
 ·refine FinK.cur (.refl _) ⟨trivial,rfl⟩ rfl ?_
  refine FinK.ex (t) ?hq2 ?_
  case hq2=>exact ht2
  refine FinK.cell1 ?_ ?_ ?_
  all_goals try refine amF ?_
  all_goals try exact amT
 ·refine FinK.cur (.refl _) ⟨trivial,rfl⟩ rfl ?_
  refine FinK.ex (⟨t.totals++[0],t.cells⟩) ?hq3 ?_
  case hq3=>exact⟨okI_app1 ht.1 (by omega) (by decide),ht2.2⟩
  refine FinK.cell1 ?_ ?_ ?_
  all_goals try refine amF ?_
  all_goals try exact amT
  exact appIntD rfl
 ·refine CallCE.cur (spec_l1PickInt nb hn true (some false) [-1,500,1000] (by simp) (by simp)) rfl (-1) ?hcq rfl rfl rfl (fun _ _ _=>amC) (fun _=>rfl) (fun _=>rfl) ?_
  case hcq=>exact by simp
  rintro a ha
  (try refine am ?_);(try exact amT)
  have ha2: -1≤a∧a≤1000:=by simp at ha;omega
  have hak:inK .i64 a:=⟨by show (-9223372036854775808:Int)≤a;omega,by show a≤(9223372036854775807:Int);omega⟩
  repeat' with_reducible first|apply zA|intro _
  all_goals try exact amA
  refine FinK.cur (.refl _) ⟨trivial,rfl⟩ rfl ?_
  refine FinK.ex (⟨t.totals,t.cells.set 0 ((t.cells.getD 0 []).set 0 a)⟩) ?hq4 ?_
  case hq4=>exact⟨ht2.1,okL_setK ht2.2 (okI_setK (okI_atL ht2.2 0) hak)⟩
  refine FinK.cell1 ?_ ?_ ?_
  all_goals try refine amF ?_
  all_goals try exact amT
  exact tabLe (by omega)
 ·refine FinK.cur (.refl _) ⟨trivial,rfl⟩ rfl ?_
  refine FinK.ex (t) ?hq5 ?_
  case hq5=>exact ht2
  refine FinK.cell1 ?_ ?_ ?_
  all_goals try refine amF ?_
  all_goals try exact amT
 ·refine FinK.cur (.refl _) ⟨trivial,rfl⟩ rfl ?_
  refine FinK.ex (⟨t.totals,t.cells.set 0 (t.cells.getD 0 []++[0])⟩) ?hq6 ?_
  case hq6=>exact⟨ht2.1,okL_setK ht2.2 (okI_app1 (okI_atL ht.2 0) (by omega) (by decide))⟩
  refine FinK.cell1 ?_ ?_ ?_
  all_goals try refine amF ?_
  all_goals try exact amT
  exact rowSt2 (by omega) (appIntD rfl)
 ·refine FinK.cur (.refl _) ⟨trivial,rfl⟩ rfl ?_
  refine FinK.ex (t) ?hq7 ?_
  case hq7=>exact ht2
  refine FinK.cell1 ?_ ?_ ?_
  all_goals try refine amF ?_
  all_goals try exact amT
 ·refine FinK.cur (.refl _) ⟨trivial,rfl⟩ rfl ?_
  refine FinK.ex (t) ?hq8 ?_
  case hq8=>exact ht2
  refine FinK.cell1 ?_ ?_ ?_
  all_goals try refine amF ?_
  all_goals try exact amT
end Go.AM
namespace Go.AM
set_option maxHeartbeats 64000000
open Go Go.Proofs
set_option maxRecDepth 100000
theorem takeN {l:List DNode} {n:Nat} (hn:n≤l.length):ALe (.sl true none 12 n (fNode true l)) (.sl true none 12 (l.take n).length (fNode true (l.take n))):=by
 refine ALe.of (.inl rfl) (by simp;omega) (fun i hi j hj=>?_)
 rw[fNode_at,fNode_at]
 have:(l.take n).getD i default=l.getD i default:=by
  rw[List.getD_eq_getElem?_getD,List.getElem?_take,if_pos hi,←List.getD_eq_getElem?_getD]
 rw[this];exact .refl _
theorem spec_l19Draw (nb:Nat) (hn:nb≤2^40) (s:DSchema) (u v:Bool) (hs:okSchema (2^20) s) (hsl:s.attrs.length≤5):ACur Tryz.prog 38 nb [.agg (cSchema u v s)] (fun q=>∃x:DTree,(okTree (2^12) x∧x.nodes.length≤31)∧q=.val (.agg (cTree true true x))):=by
 have nt:Tryz.f38.ntmps=159:=rfl
 have rs:Tryz.f38.results=#[.cell 4 30]:=rfl
 refine ACur.of_run (m:=400) mixed Tryz.func38 rfl rfl (Nat.le_of_ble_eq_true rfl) (fun xc=>?_)
 simp only[nt,rs]
 clear nt rs
 (try refine am ?_);(try exact amT)
 repeat' with_reducible first|apply zA|intro _
 all_goals try exact amA
 refine CallK.cur (spec_l19Right nb hn s _ _ hs hsl) rfl rfl rfl (fun _ _ _=>amC) ?_
 rintro t ht
 (try refine am ?_);(try exact amT)
 have htl:=ht.2.1
 have htse:=ht.2.2
 have ht12:okTree (2^12) t:=okTree_up ht.1
 have hte:=ht.1.2
 repeat' with_reducible first|apply zA|intro _
 all_goals try exact amA
 ·refine FinK.cur (.refl _) ⟨trivial,rfl⟩ rfl ?_
  refine FinK.ex (t) ?hq1 ?_
  case hq1=>exact⟨ht12,htl⟩
  refine FinK.cell1 ?_ ?_ ?_
  all_goals try refine amF ?_
  all_goals try exact amT
 refine CallK.cur (spec_l1Below nb hn _) rfl rfl rfl (fun _ _ _=>amC) ?_
 rintro i ⟨hi0,hi1⟩
 (try refine am ?_);(try exact amT)
 obtain⟨j,rfl⟩:=Int.eq_ofNat_of_zero_le hi0
 have hj:j<t.nodes.length:=by omega
 have hnd:=ht.1.1.2 _ (getD_mem (d:=default) hj)
 have hnd2:=ht12.1.2 _ (getD_mem (d:=default) hj)
 have hkl:=hnd.2.2.1.1
 have hset:∀{x:DNode},okNode (2^12) x→okTree (2^12) ⟨t.nodes.set j x,t.seen⟩:=fun {x} hx=>by
  refine⟨⟨by have:=ht12.1.1;simpa using this,fun y hy=>?_⟩,ht12.2⟩
  rcases List.mem_or_eq_of_mem_set hy with hy|hy
  ·exact ht12.1.2 y hy
  ·subst hy;exact hx
 repeat' with_reducible first|apply zA|intro _
 all_goals try exact amA
 refine CallK.cur (spec_l1Below nb hn 22) rfl rfl rfl (fun _ _ _=>amC) ?_
 rintro z ⟨hz0,hz1⟩
 (try refine am ?_);(try exact amT)
 repeat' with_reducible first|apply zA|intro _
 all_goals try exact amA
 ·refine CallK.cur (spec_l1PickInt nb hn true (some false) [-1,0,99999,100000] (by simp) (by simp)) rfl rfl rfl (fun _ _ _=>amC) ?_
  rintro a ha
  (try refine am ?_);(try exact amT)
  have ha2: -1≤a∧a≤100000:=by simp at ha;omega
  have hak:inK .i64 a:=⟨by show (-9223372036854775808:Int)≤a;omega,by show a≤(9223372036854775807:Int);omega⟩
  repeat' with_reducible first|apply zA|intro _
  all_goals try exact amA
  refine FinK.cur (.refl _) ⟨trivial,rfl⟩ rfl ?_
  refine FinK.ex (⟨t.nodes,a⟩) ?hq2 ?_
  case hq2=>exact⟨⟨ht12.1,hak⟩,htl⟩
  refine FinK.cell1 ?_ ?_ ?_
  all_goals try refine amF ?_
  all_goals try exact amT
 ·refine CallCE.cur (spec_l1Below nb hn 8) rfl (0) ?hcq rfl rfl rfl (fun _ _ _=>amC) (fun _=>rfl) (fun _=>rfl) ?_
  case hcq=>exact by omega
  rintro a ⟨ha0,ha1⟩
  (try refine am ?_);(try exact amT)
  have hak:inK .i64 a:=⟨by show (-9223372036854775808:Int)≤a;omega,by show a≤(9223372036854775807:Int);omega⟩
  repeat' with_reducible first|apply zA|intro _
  all_goals try exact amA
  refine FinK.cur (.refl _) ⟨trivial,rfl⟩ rfl ?_
  refine FinK.ex (⟨t.nodes.set j ⟨(t.nodes.getD j default).leaf,(t.nodes.getD j default).fork,(t.nodes.getD j default).kids,(t.nodes.getD j default).miss,(t.nodes.getD j default).stats,(t.nodes.getD j default).since,(t.nodes.getD j default).attrs,a,(t.nodes.getD j default).up,(t.nodes.getD j default).born⟩,t.seen⟩) ?hq3 ?_
  case hq3=>exact⟨hset ⟨trivial,hnd2.2.1,hnd2.2.2.1,hnd2.2.2.2.1,hnd2.2.2.2.2.1,hnd2.2.2.2.2.2.1,hnd2.2.2.2.2.2.2.1,hak,hnd2.2.2.2.2.2.2.2.2.1,hnd2.2.2.2.2.2.2.2.2.2⟩,by simpa using htl⟩
  refine FinK.cell1 ?_ ?_ ?_
  all_goals try refine amF ?_
  all_goals try exact amT
  refine nodeSet (.inl rfl) rfl hj (fun a b h1 h2=>?_) (fun q hq=>?_)
  ·repeat rw[if_neg (fun h=>h1 h.1)]
   exact .refl _
  ·rcases cases12 hq with rfl|rfl|rfl|rfl|rfl|rfl|rfl|rfl|rfl|rfl|rfl|rfl
   all_goals (repeat (first|rw[if_neg (fun h=>absurd h.2 (by decide))]|rw[if_pos ⟨rfl,by decide,by decide⟩]))
   all_goals (first|exact .refl _|exact appIntD rfl)
 ·refine CallCE.cur (spec_l1PickInt nb hn true (some false) [-1,0,1,(j:Int),9223372036854775807] (by simp) (by simp)) rfl (-1) ?hcq rfl rfl rfl (fun _ _ _=>amC) (fun _=>rfl) (fun _=>rfl) ?_
  case hcq=>exact by simp
  rintro a ha
  (try refine am ?_);(try exact amT)
  have ha2: -1≤a∧a≤9223372036854775807:=by simp at ha;omega
  have hak:inK .i64 a:=⟨by show (-9223372036854775808:Int)≤a;omega,by show a≤(9223372036854775807:Int);omega⟩
  repeat' with_reducible first|apply zA|intro _
  all_goals try exact amA
  refine FinK.cur (.refl _) ⟨trivial,rfl⟩ rfl ?_
  refine FinK.ex (⟨t.nodes.set j ⟨(t.nodes.getD j default).leaf,(t.nodes.getD j default).fork,(t.nodes.getD j default).kids,(t.nodes.getD j default).miss,(t.nodes.getD j default).stats,(t.nodes.getD j default).since,(t.nodes.getD j default).attrs,(t.nodes.getD j default).depth,a,(t.nodes.getD j default).born⟩,t.seen⟩) ?hq4 ?_
  case hq4=>exact⟨hset ⟨trivial,hnd2.2.1,hnd2.2.2.1,hnd2.2.2.2.1,hnd2.2.2.2.2.1,hnd2.2.2.2.2.2.1,hnd2.2.2.2.2.2.2.1,hnd2.2.2.2.2.2.2.2.1,hak,hnd2.2.2.2.2.2.2.2.2.2⟩,by simpa using htl⟩
  refine FinK.cell1 ?_ ?_ ?_
  all_goals try refine amF ?_
  all_goals try exact amT
  refine nodeSet (.inl rfl) rfl hj (fun a b h1 h2=>?_) (fun q hq=>?_)
  ·repeat rw[if_neg (fun h=>h1 h.1)]
   exact .refl _
  ·rcases cases12 hq with rfl|rfl|rfl|rfl|rfl|rfl|rfl|rfl|rfl|rfl|rfl|rfl
   all_goals (repeat (first|rw[if_neg (fun h=>absurd h.2 (by decide))]|rw[if_pos ⟨rfl,by decide,by decide⟩]))
   all_goals (first|exact .refl _|exact appIntD rfl)
 ·refine CallCE.cur (spec_l1PickInt nb hn true (some false) [-1,(j:Int),(j:Int)+1,40] (by simp) (by simp)) rfl (-1) ?hcq rfl rfl rfl (fun _ _ _=>amC) (fun _=>rfl) (fun _=>rfl) ?_
  case hcq=>exact by simp
  rintro a ha
  (try refine am ?_);(try exact amT)
  have ha2: -1≤a∧a≤100:=by simp at ha;omega
  have hak:inK .i64 a:=⟨by show (-9223372036854775808:Int)≤a;omega,by show a≤(9223372036854775807:Int);omega⟩
  repeat' with_reducible first|apply zA|intro _
  all_goals try exact amA
  refine FinK.cur (.refl _) ⟨trivial,rfl⟩ rfl ?_
  refine FinK.ex (⟨t.nodes.set j ⟨(t.nodes.getD j default).leaf,(t.nodes.getD j default).fork,(t.nodes.getD j default).kids++[a],(t.nodes.getD j default).miss,(t.nodes.getD j default).stats,(t.nodes.getD j default).since,(t.nodes.getD j default).attrs,(t.nodes.getD j default).depth,(t.nodes.getD j default).up,(t.nodes.getD j default).born⟩,t.seen⟩) ?hq5 ?_
  case hq5=>exact⟨hset ⟨trivial,hnd2.2.1,okI_appK hnd.2.2.1 hak (by decide),hnd2.2.2.2.1,hnd2.2.2.2.2.1,hnd2.2.2.2.2.2.1,hnd2.2.2.2.2.2.2.1,hnd2.2.2.2.2.2.2.2.1,hnd2.2.2.2.2.2.2.2.2.1,hnd2.2.2.2.2.2.2.2.2.2⟩,by simpa using htl⟩
  refine FinK.cell1 ?_ ?_ ?_
  all_goals try refine amF ?_
  all_goals try exact amT
  refine nodeSet (.inl rfl) rfl hj (fun a b h1 h2=>?_) (fun q hq=>?_)
  ·repeat rw[if_neg (fun h=>h1 h.1)]
   exact .refl _
  ·rcases cases12 hq with rfl|rfl|rfl|rfl|rfl|rfl|rfl|rfl|rfl|rfl|rfl|rfl
   all_goals (repeat (first|rw[if_neg (fun h=>absurd h.2 (by decide))]|rw[if_pos ⟨rfl,by decide,by decide⟩]))
   all_goals (first|exact .refl _|exact appIntD rfl)
 ·refine CallCE.cur (spec_l1PickInt nb hn true (some false) [-1,1,2,4] (by simp) (by simp)) rfl (-1) ?hcq rfl rfl rfl (fun _ _ _=>amC) (fun _=>rfl) (fun _=>rfl) ?_
  case hcq=>exact by simp
  rintro a ha
  (try refine am ?_);(try exact amT)
  have ha2: -1≤a∧a≤100:=by simp at ha;omega
  have hak:inK .i64 a:=⟨by show (-9223372036854775808:Int)≤a;omega,by show a≤(9223372036854775807:Int);omega⟩
  repeat' with_reducible first|apply zA|intro _
  all_goals try exact amA
  refine FinK.cur (.refl _) ⟨trivial,rfl⟩ rfl ?_
  refine FinK.ex (⟨t.nodes.set j ⟨(t.nodes.getD j default).leaf,(t.nodes.getD j default).fork,(t.nodes.getD j default).kids,a,(t.nodes.getD j default).stats,(t.nodes.getD j default).since,(t.nodes.getD j default).attrs,(t.nodes.getD j default).depth,(t.nodes.getD j default).up,(t.nodes.getD j default).born⟩,t.seen⟩) ?hq6 ?_
  case hq6=>exact⟨hset ⟨trivial,hnd2.2.1,hnd2.2.2.1,hak,hnd2.2.2.2.2.1,hnd2.2.2.2.2.2.1,hnd2.2.2.2.2.2.2.1,hnd2.2.2.2.2.2.2.2.1,hnd2.2.2.2.2.2.2.2.2.1,hnd2.2.2.2.2.2.2.2.2.2⟩,by simpa using htl⟩
  refine FinK.cell1 ?_ ?_ ?_
  all_goals try refine amF ?_
  all_goals try exact amT
  refine nodeSet (.inl rfl) rfl hj (fun a b h1 h2=>?_) (fun q hq=>?_)
  ·repeat rw[if_neg (fun h=>h1 h.1)]
   exact .refl _
  ·rcases cases12 hq with rfl|rfl|rfl|rfl|rfl|rfl|rfl|rfl|rfl|rfl|rfl|rfl
   all_goals (repeat (first|rw[if_neg (fun h=>absurd h.2 (by decide))]|rw[if_pos ⟨rfl,by decide,by decide⟩]))
   all_goals (first|exact .refl _|exact appIntD rfl)
 ·refine CallCE.cur (spec_l1PickInt nb hn true (some false) [-1,1,900,9223372036854775807] (by simp) (by simp)) rfl (-1) ?hcq rfl rfl rfl (fun _ _ _=>amC) (fun _=>rfl) (fun _=>rfl) ?_
  case hcq=>exact by simp
  rintro a ha
  (try refine am ?_);(try exact amT)
  have ha2: -1≤a∧a≤9223372036854775807:=by simp at ha;omega
  have hak:inK .i64 a:=⟨by show (-9223372036854775808:Int)≤a;omega,by show a≤(9223372036854775807:Int);omega⟩
  repeat' with_reducible first|apply zA|intro _
  all_goals try exact amA
  refine FinK.cur (.refl _) ⟨trivial,rfl⟩ rfl ?_
  refine FinK.ex (⟨t.nodes.set j ⟨(t.nodes.getD j default).leaf,(t.nodes.getD j default).fork,(t.nodes.getD j default).kids,(t.nodes.getD j default).miss,(t.nodes.getD j default).stats,a,(t.nodes.getD j default).attrs,(t.nodes.getD j default).depth,(t.nodes.getD j default).up,(t.nodes.getD j default).born⟩,t.seen⟩) ?hq7 ?_
  case hq7=>exact⟨hset ⟨trivial,hnd2.2.1,hnd2.2.2.1,hnd2.2.2.2.1,hnd2.2.2.2.2.1,hak,hnd2.2.2.2.2.2.2.1,hnd2.2.2.2.2.2.2.2.1,hnd2.2.2.2.2.2.2.2.2.1,hnd2.2.2.2.2.2.2.2.2.2⟩,by simpa using htl⟩
  refine FinK.cell1 ?_ ?_ ?_
  all_goals try refine amF ?_
  all_goals try exact amT
  refine nodeSet (.inl rfl) rfl hj (fun a b h1 h2=>?_) (fun q hq=>?_)
  ·repeat rw[if_neg (fun h=>h1 h.1)]
   exact .refl _
  ·rcases cases12 hq with rfl|rfl|rfl|rfl|rfl|rfl|rfl|rfl|rfl|rfl|rfl|rfl
   all_goals (repeat (first|rw[if_neg (fun h=>absurd h.2 (by decide))]|rw[if_pos ⟨rfl,by decide,by decide⟩]))
   all_goals (first|exact .refl _|exact appIntD rfl)
 ·refine CallCE.cur (spec_l1PickInt nb hn true (some false) [-1,0,1,t.seen,t.seen+1] (by simp) (by simp)) rfl (-1) ?hcq rfl rfl rfl (fun _ _ _=>amC) (fun _=>rfl) (fun _=>rfl) ?_
  case hcq=>exact by simp
  rintro a ha
  (try refine am ?_);(try exact amT)
  have ha2: -1≤a∧a≤200000:=by simp at ha;omega
  have hak:inK .i64 a:=⟨by show (-9223372036854775808:Int)≤a;omega,by show a≤(9223372036854775807:Int);omega⟩
  repeat' with_reducible first|apply zA|intro _
  all_goals try exact amA
  refine FinK.cur (.refl _) ⟨trivial,rfl⟩ rfl ?_
  refine FinK.ex (⟨t.nodes.set j ⟨(t.nodes.getD j default).leaf,(t.nodes.getD j default).fork,(t.nodes.getD j default).kids,(t.nodes.getD j default).miss,(t.nodes.getD j default).stats,(t.nodes.getD j default).since,(t.nodes.getD j default).attrs,(t.nodes.getD j default).depth,(t.nodes.getD j default).up,a⟩,t.seen⟩) ?hq8 ?_
  case hq8=>exact⟨hset ⟨trivial,hnd2.2.1,hnd2.2.2.1,hnd2.2.2.2.1,hnd2.2.2.2.2.1,hnd2.2.2.2.2.2.1,hnd2.2.2.2.2.2.2.1,hnd2.2.2.2.2.2.2.2.1,hnd2.2.2.2.2.2.2.2.2.1,hak⟩,by simpa using htl⟩
  refine FinK.cell1 ?_ ?_ ?_
  all_goals try refine amF ?_
  all_goals try exact amT
  refine nodeSet (.inl rfl) rfl hj (fun a b h1 h2=>?_) (fun q hq=>?_)
  ·repeat rw[if_neg (fun h=>h1 h.1)]
   exact .refl _
  ·rcases cases12 hq with rfl|rfl|rfl|rfl|rfl|rfl|rfl|rfl|rfl|rfl|rfl|rfl
   all_goals (repeat (first|rw[if_neg (fun h=>absurd h.2 (by decide))]|rw[if_pos ⟨rfl,by decide,by decide⟩]))
   all_goals (first|exact .refl _|exact appIntD rfl)
 ·refine FinK.cur (.refl _) ⟨trivial,rfl⟩ rfl ?_
  refine FinK.ex (⟨t.nodes.set j ⟨!(t.nodes.getD j default).leaf,(t.nodes.getD j default).fork,(t.nodes.getD j default).kids,(t.nodes.getD j default).miss,(t.nodes.getD j default).stats,(t.nodes.getD j default).since,(t.nodes.getD j default).attrs,(t.nodes.getD j default).depth,(t.nodes.getD j default).up,(t.nodes.getD j default).born⟩,t.seen⟩) ?hq9 ?_
  case hq9=>exact⟨hset ⟨trivial,hnd2.2.1,hnd2.2.2.1,hnd2.2.2.2.1,hnd2.2.2.2.2.1,hnd2.2.2.2.2.2.1,hnd2.2.2.2.2.2.2.1,hnd2.2.2.2.2.2.2.2.1,hnd2.2.2.2.2.2.2.2.2.1,hnd2.2.2.2.2.2.2.2.2.2⟩,by simpa using htl⟩
  refine FinK.cell1 ?_ ?_ ?_
  all_goals try refine amF ?_
  all_goals try exact amT
  refine nodeSet (.inl rfl) rfl hj (fun a b h1 h2=>?_) (fun q hq=>?_)
  ·repeat rw[if_neg (fun h=>h1 h.1)]
   exact .refl _
  ·rcases cases12 hq with rfl|rfl|rfl|rfl|rfl|rfl|rfl|rfl|rfl|rfl|rfl|rfl
   all_goals (repeat (first|rw[if_neg (fun h=>absurd h.2 (by decide))]|rw[if_pos ⟨rfl,by decide,by decide⟩]))
   all_goals (first|exact .refl _|exact appIntD rfl)
 ·refine CallCE.cur (spec_l9Draw nb hn s _ _ hs) rfl (⟨0,0⟩) ?hcq rfl rfl rfl (fun _ _ _=>amC) (fun _=>rfl) (fun _=>rfl) ?_
  case hcq=>exact okFork0
  rintro f hf
  (try refine am ?_);(try exact amT)
  repeat' with_reducible first|apply zA|intro _
  all_goals try exact amA
  refine FinK.cur (.refl _) ⟨trivial,rfl⟩ rfl ?_
  refine FinK.ex (⟨t.nodes.set j ⟨(t.nodes.getD j default).leaf,f,(t.nodes.getD j default).kids,(t.nodes.getD j default).miss,(t.nodes.getD j default).stats,(t.nodes.getD j default).since,(t.nodes.getD j default).attrs,(t.nodes.getD j default).depth,(t.nodes.getD j default).up,(t.nodes.getD j default).born⟩,t.seen⟩) ?hq10 ?_
  case hq10=>exact⟨hset ⟨trivial,hf,hnd2.2.2.1,hnd2.2.2.2.1,hnd2.2.2.2.2.1,hnd2.2.2.2.2.2.1,hnd2.2.2.2.2.2.2.1,hnd2.2.2.2.2.2.2.2.1,hnd2.2.2.2.2.2.2.2.2.1,hnd2.2.2.2.2.2.2.2.2.2⟩,by simpa using htl⟩
  refine FinK.cell1 ?_ ?_ ?_
  all_goals try refine amF ?_
  all_goals try exact amT
  refine nodeSet (.inl rfl) rfl hj (fun a b h1 h2=>?_) (fun q hq=>?_)
  ·repeat rw[if_neg (fun h=>h1 h.1)]
   exact .refl _
  ·rcases cases12 hq with rfl|rfl|rfl|rfl|rfl|rfl|rfl|rfl|rfl|rfl|rfl|rfl
   all_goals (repeat (first|rw[if_neg (fun h=>absurd h.2 (by decide))]|rw[if_pos ⟨rfl,by decide,by decide⟩]))
   all_goals (first|exact .refl _|exact appIntD rfl)
 ·refine CallCE.cur (spec_l9Attrs nb hn s _ _ hs) rfl ([]) ?hcq rfl rfl rfl (fun _ _ _=>amC) (fun _=>rfl) (fun _=>rfl) ?_
  case hcq=>exact⟨Nat.zero_le _,fun x hx=>by simp at hx⟩
  rintro l hl
  (try refine am ?_);(try exact amT)
  repeat' with_reducible first|apply zA|intro _
  all_goals try exact amA
  refine FinK.cur (.refl _) ⟨trivial,rfl⟩ rfl ?_
  refine FinK.ex (⟨t.nodes.set j ⟨(t.nodes.getD j default).leaf,(t.nodes.getD j default).fork,(t.nodes.getD j default).kids,(t.nodes.getD j default).miss,(t.nodes.getD j default).stats,(t.nodes.getD j default).since,l,(t.nodes.getD j default).depth,(t.nodes.getD j default).up,(t.nodes.getD j default).born⟩,t.seen⟩) ?hq11 ?_
  case hq11=>exact⟨hset ⟨trivial,hnd2.2.1,hnd2.2.2.1,hnd2.2.2.2.1,hnd2.2.2.2.2.1,hnd2.2.2.2.2.2.1,okI_up hl (by omega),hnd2.2.2.2.2.2.2.2.1,hnd2.2.2.2.2.2.2.2.2.1,hnd2.2.2.2.2.2.2.2.2.2⟩,by simpa using htl⟩
  refine FinK.cell1 ?_ ?_ ?_
  all_goals try refine amF ?_
  all_goals try exact amT
  refine nodeSet (.inl rfl) rfl hj (fun a b h1 h2=>?_) (fun q hq=>?_)
  ·repeat rw[if_neg (fun h=>h1 h.1)]
   exact .refl _
  ·rcases cases12 hq with rfl|rfl|rfl|rfl|rfl|rfl|rfl|rfl|rfl|rfl|rfl|rfl
   all_goals (repeat (first|rw[if_neg (fun h=>absurd h.2 (by decide))]|rw[if_pos ⟨rfl,by decide,by decide⟩]))
   all_goals (first|exact .refl _|exact appIntD rfl)
 ·refine CallCE.cur (spec_l8Draw nb hn s _ _ hs) rfl (⟨[],[]⟩) ?hcq rfl rfl rfl (fun _ _ _=>amC) (fun _=>rfl) (fun _=>rfl) ?_
  case hcq=>exact⟨⟨Nat.zero_le _,fun x hx=>by simp at hx⟩,Nat.zero_le _,fun x hx=>by simp at hx⟩
  rintro st hst
  (try refine am ?_);(try exact amT)
  repeat' with_reducible first|apply zA|intro _
  all_goals try exact amA
  refine FinK.cur (.refl _) ⟨trivial,rfl⟩ rfl ?_
  refine FinK.ex (⟨t.nodes.set j ⟨(t.nodes.getD j default).leaf,(t.nodes.getD j default).fork,(t.nodes.getD j default).kids,(t.nodes.getD j default).miss,st,(t.nodes.getD j default).since,(t.nodes.getD j default).attrs,(t.nodes.getD j default).depth,(t.nodes.getD j default).up,(t.nodes.getD j default).born⟩,t.seen⟩) ?hq12 ?_
  case hq12=>exact⟨hset ⟨trivial,hnd2.2.1,hnd2.2.2.1,hnd2.2.2.2.1,okStats_up hst,hnd2.2.2.2.2.2.1,hnd2.2.2.2.2.2.2.1,hnd2.2.2.2.2.2.2.2.1,hnd2.2.2.2.2.2.2.2.2.1,hnd2.2.2.2.2.2.2.2.2.2⟩,by simpa using htl⟩
  refine FinK.cell1 ?_ ?_ ?_
  all_goals try refine amF ?_
  all_goals try exact amT
  refine nodeSet (.inl rfl) rfl hj (fun a b h1 h2=>?_) (fun q hq=>?_)
  ·repeat rw[if_neg (fun h=>h1 h.1)]
   exact .refl _
  ·rcases cases12 hq with rfl|rfl|rfl|rfl|rfl|rfl|rfl|rfl|rfl|rfl|rfl|rfl
   all_goals (repeat (first|rw[if_neg (fun h=>absurd h.2 (by decide))]|rw[if_pos ⟨rfl,by decide,by decide⟩]))
   all_goals (first|exact .refl _|exact appIntD rfl)
 ·refine FinK.cur (.refl _) ⟨trivial,rfl⟩ rfl ?_
  refine FinK.ex (⟨t.nodes.take (t.nodes.length - 1),t.seen⟩) ?hq13 ?_
  case hq13=>exact⟨⟨⟨by simp;omega,fun x hx=>ht12.1.2 x (List.mem_of_mem_take hx)⟩,ht12.2⟩,by simp;omega⟩
  refine FinK.cell1 ?_ ?_ ?_
  all_goals try refine amF ?_
  all_goals try exact amT
  have e:((t.nodes.length:Int) - 1).toNat=t.nodes.length - 1:=by omega
  rw[e]
  exact takeN (by omega)
 ·refine FinK.cur (.refl _) ⟨trivial,rfl⟩ rfl ?_
  refine FinK.ex (t) ?hq14 ?_
  case hq14=>exact⟨ht12,htl⟩
  refine FinK.cell1 ?_ ?_ ?_
  all_goals try refine amF ?_
  all_goals try exact amT
end Go.AM
