/- Lemmas for the proof of this claim. -/
import Derived.Test.YtpbahibieegbgaaGreatDr1
import Derived.Test.YtpbahibieegbgaaGreatData
import Derived.Test.YtpbahibieegbgaaGreatWnb
import Derived.Test.YtpbahibieegbgaaGreatWlib
import Derived.Test.YtpbahibieegbgaaGreatSdr
import Derived.Test.YtpbahibieegbgaaGreatSma
import Derived.Test.YtpbahibieegbgaaGreatTak
import Derived.Test.YtpbahibieegbgaaGreatCnf
namespace Go.AM
set_option maxHeartbeats 64000000
open Go Go.Proofs
set_option maxRecDepth 100000
def bits01 (l:List Int):Prop:=∀x∈l,0≤x∧x≤1
theorem bits01_okI {A:Nat} {l:List Int} (h:bits01 l) (hl:l.length≤A):okI A l:=⟨hl,fun x hx=>by have:=h x hx;exact⟨by show (-9223372036854775808:Int)≤x;omega,by show x≤(9223372036854775807:Int);omega⟩⟩
theorem spec_l16Bits (nb:Nat) (hn:nb≤2^40) (most:Int) (hm:0≤most∧most≤2^16):ACur Tryz.prog 186 nb [.one (.int .i64 most)] (fun r=>∃l:List Int,(l.length≤2^17∧bits01 l)∧r=.val (.one (aI true l))):=by
 have nt:Tryz.f186.ntmps=45:=rfl
 have rs:Tryz.f186.results=#[.tmp 4]:=rfl
 refine ACur.of_run (m:=400) mixed Tryz.func186 rfl rfl (Nat.le_of_ble_eq_true rfl) (fun xc=>?_)
 simp only[nt,rs]
 clear nt rs
 (try refine am ?_);(try exact amT)
 repeat' with_reducible first|apply zA|intro _
 all_goals try exact amA
 refine CallK.cur (spec_l1Below nb hn _) rfl rfl rfl (fun _ _ _=>amC) ?_
 rintro n ⟨hn0,hn1⟩
 (try refine am ?_);(try exact amT)
 repeat' with_reducible first|apply zA|intro _
 all_goals try exact amA
 refine CallK.cur (spec_l1Below nb hn _) rfl rfl rfl (fun _ _ _=>amC) ?_
 rintro turn ht
 (try refine am ?_);(try exact amT)
 repeat' with_reducible first|apply zA|intro _
 all_goals try exact amA
 refine CallK.cur (spec_l1PickInt nb hn true (some false) [2,8,200] (by simp) (by simp)) rfl rfl rfl (fun _ _ _=>amC) ?_
 rintro few hf
 (try refine am ?_);(try exact amT)
 repeat' with_reducible first|apply zA|intro _
 all_goals try exact amA
 refine LoopK.auto ((List Int×Nat)) (fun x=>[(9,.one (.av (.int .i64 x.2))),(5,.one (.own 302 [] [0]))]) (fun x=>[(302,⟨.sl true none 1 x.1.length (fI x.1),[]⟩)]) [0,6,7,8] (k0:=?k01) (keepH:=?kh1) 500 (fun x=>(x.1.length=x.2∧(x.2:Int)≤n)∧bits01 x.1) (fun x=>n.toNat - x.2) (([],0)) ?kea1 ?keb1 ?_ ?_ ?_
 case kea1=>exact amN
 case keb1=>exact amN
 ·exact⟨⟨rfl,by simp;omega⟩,fun y hy=>by simp at hy⟩
 ·refine LeA [] ?_ ?_ ?_
  all_goals try refine amL ?_
  all_goals try exact amT
  exact ALe.of (.inl rfl) rfl (fun i hi=>by omega)
 ·rintro⟨l,i⟩ ⟨⟨hl,hi⟩,hb⟩
  dsimp only at hl hi hb ⊢
  (try refine am ?_);(try exact amT)
  repeat' with_reducible first|apply zA|intro _
  all_goals try exact amA
  ·refine CallK.cur (spec_l1Once nb hn few) rfl rfl rfl (fun _ _ _=>amC) ?_
   rintro b hbb
   (try refine am ?_);(try exact amT)
   repeat' with_reducible first|apply zA|intro _
   all_goals try exact amA
   refine CallK.one (spec_l1Bit b) (fun _=>amC) ?_
   (try refine am ?_);(try exact amT)
   repeat' with_reducible first|apply zA|intro _
   all_goals try exact amA
   refine⟨(l++[if b=true then 1 else 0],i+1),?_,⟨⟨by simp[hl],by simp only[Int.natCast_add,Int.natCast_one];omega⟩,fun y hy=>?_⟩,by simp only;omega⟩
   ·refine LeA [] ?_ ?_ ?_
    all_goals try refine amL ?_
    all_goals try exact amT
    exact appIntD rfl
   ·rcases mem_app1 hy with h|h
    ·exact hb y h
    ·subst h;split<;>omega
  ·refine CallK.cur (spec_l1Once nb hn 5) rfl rfl rfl (fun _ _ _=>amC) ?_
   rintro b hbb
   (try refine am ?_);(try exact amT)
   repeat' with_reducible first|apply zA|intro _
   all_goals try exact amA
   refine CallK.one (spec_l1Bit (!b)) (fun _=>amC) ?_
   (try refine am ?_);(try exact amT)
   repeat' with_reducible first|apply zA|intro _
   all_goals try exact amA
   refine⟨(l++[if (!b)=true then 1 else 0],i+1),?_,⟨⟨by simp[hl],by simp only[Int.natCast_add,Int.natCast_one];omega⟩,fun y hy=>?_⟩,by simp only;omega⟩
   ·refine LeA [] ?_ ?_ ?_
    all_goals try refine amL ?_
    all_goals try exact amT
    exact appIntD rfl
   ·rcases mem_app1 hy with h|h
    ·exact hb y h
    ·subst h;split<;>omega
  ·refine FinK.cur (.refl _) ⟨trivial,rfl⟩ rfl ?_
   refine FinK.ex (l) ?hq1 ?_
   case hq1=>exact⟨by omega,hb⟩
   refine FinK.val1 ?_ ?_
   all_goals try refine amF ?_
   all_goals try exact amT
end Go.AM
namespace Go.AM
set_option maxHeartbeats 64000000
open Go Go.Proofs
set_option maxRecDepth 100000
theorem okL_app1 {A B:Nat} {l:List (List Int)} {r:List Int} (h:okL A l) (hr:okI A r) (hB:A+1≤B):okL B (l++[r]):=by
 refine⟨by have:=h.1;simp;omega,fun x hx=>?_⟩
 rcases List.mem_append.1 hx with hx|hx
 ·exact okI_up (h.2 x hx) (by omega)
 ·have:x=r:=by simpa using hx
  subst this
  exact okI_up hr (by omega)
theorem wAddA_okA {A:Nat} {l:List (List Int)} {bit:Int} (hA:8≤A) (h:okL A l):okL A (wAddA l bit):=by
 unfold wAddA
 cases e:wAddOk l bit with
 |false=>exact h
 |true=>
  rw[cond_true]
  unfold wAddOk at e
  simp only[Bool.and_eq_true,decide_eq_true_eq] at e
  exact okL_up (wok_okL (wAdd_ok (by simpa [wokB] using e.1) e.2)) hA
theorem okL_set {A B:Nat} {l:List (List Int)} {i:Nat} {r:List Int} (h:okL A l) (hr:okI B r) (hB:A≤B):okL B (l.set i r):=by
 refine⟨by have:=h.1;simp;omega,fun x hx=>?_⟩
 rcases List.mem_or_eq_of_mem_set hx with hx|hx
 ·exact okI_up (h.2 x hx) hB
 ·subst hx;exact hr
theorem okI_one {z:Int} (h: -1≤z∧z≤257):okI (2^4) [z]:=⟨by simp,fun y hy=>by
 have:y=z:=by simpa using hy
 subst this
 exact⟨by show (-9223372036854775808:Int)≤_;omega,by show _≤(9223372036854775807:Int);omega⟩⟩
theorem appRows {l:List (List Int)} {r:List Int} {nl:Option Bool} {n:Nat} {g:Nat→Nat→AV} (hn:n=l.length+1) (hg:ALe (g 0 0) (.sl true none 1 r.length (fI r))):ALe (.sl true nl 1 n (apF l.length (fL true l) g)) (.sl true none 1 (l++[r]).length (fL true (l++[r]))):=by
 refine rowsLe2 (by simpa using hn) (fun a ha=>?_)
 unfold apF
 rw[List.getD_eq_getElem?_getD]
 by_cases e:a<l.length
 ·rw[if_pos e,List.getElem?_append_left e,←List.getD_eq_getElem?_getD];exact .refl _
 ·obtain rfl:a=l.length:=by omega
  rw[if_neg e,Nat.sub_self]
  simpa using hg
theorem spec_l16Right (nb:Nat) (hn:nb≤2^40):ACur Tryz.prog 201 nb [] (fun r=>∃l:List (List Int),okL (2^4) l∧r=.val (.agg [aL true true l])):=by
 have nt:Tryz.f201.ntmps=72:=rfl
 have rs:Tryz.f201.results=#[.cell 2 75]:=rfl
 refine ACur.of_run (m:=400) mixed Tryz.func201 rfl rfl (Nat.le_of_ble_eq_true rfl) (fun xc=>?_)
 simp only[nt,rs]
 clear nt rs
 (try refine am ?_);(try exact amT)
 repeat' with_reducible first|apply zA|intro _
 all_goals try exact amA
 refine CallK.cur (spec_l1Once nb hn 5) rfl rfl rfl (fun _ _ _=>amC) ?_
 rintro b hb
 (try refine am ?_);(try exact amT)
 repeat' with_reducible first|apply zA|intro _
 all_goals try exact amA
 ·refine CallK.cur (spec_l1PickInt nb hn true (some false) [1,4,7,8] (by simp) (by simp)) rfl rfl rfl (fun _ _ _=>amC) ?_
  rintro rows hr
  (try refine am ?_);(try exact amT)
  have hr2:1≤rows∧rows≤8:=by simp at hr;omega
  repeat' with_reducible first|apply zA|intro _
  all_goals try exact amA
  refine LoopK.auto ((List (List Int)×Nat)) (fun x=>[(5,.one (.av (.int .i64 x.2))),(3,.one (.ref 302 [] [0] 0 0))]) (fun x=>[(302,⟨.sl true none 1 1 (fun _ _=>.sl true none 1 x.1.length (fL true x.1)),[]⟩)]) [0,2,4] (k0:=?k01) (keepH:=?kh1) 500 (fun x=>(x.1.length=x.2∧(x.2:Int)≤rows)∧okL (8+x.2) x.1) (fun x=>rows.toNat - x.2) (([],0)) ?kea1 ?keb1 ?_ ?_ ?_
  case kea1=>exact amN
  case keb1=>exact amN
  ·exact⟨⟨rfl,by simp;omega⟩,by simp,fun y hy=>by simp at hy⟩
  ·refine LeA [] ?_ ?_ ?_
   all_goals try refine amL ?_
   all_goals try exact amT
   refine boxLe ?_
   rw[if_pos (by decide)]
   exact ALe.nil ..
  ·rintro⟨m,i⟩ ⟨⟨hm,hi⟩,hok⟩
   dsimp only at hm hi hok ⊢
   (try refine am ?_);(try exact amT)
   repeat' with_reducible first|apply zA|intro _
   all_goals try exact amA
   ·have hbd:(2:Int)^i≤128:=(by decide:∀i,i<8→(2:Int)^i≤128) i (by omega)
    have hb0:(0:Int)<(2:Int)^i:=Int.pow_pos (by decide)
    refine CallK.cur (spec_l1Below nb hn _) rfl rfl rfl (fun _ _ _=>amC) ?_
    rintro n ⟨hn0,hn1⟩
    (try refine am ?_);(try exact amT)
    repeat' with_reducible first|apply zA|intro _
    all_goals try exact amA
    refine LoopK.intro ((List Int×Nat)) (fun x=>[(8,.one (.av (.int .i64 x.2))),(6,.one (.own 303 [] [0]))]) (fun x=>[(303,⟨.sl true none 1 x.1.length (fI x.1),[]⟩)]) [0,2,3,4,5,7] [302,5,1] 800 (fun x=>(x.1.length=x.2∧(x.2:Int)≤n+1)∧∀y∈x.1,0≤y∧y≤128) (fun x=>(n+1).toNat - x.2) (([],0)) ?_ ?_ ?_
    ·exact⟨⟨rfl,by simp;omega⟩,fun y hy=>by simp at hy⟩
    ·refine LeA [] ?_ ?_ ?_
     all_goals try refine amL ?_
     all_goals try exact amT
     exact ALe.of (.inl rfl) rfl (fun i hi=>by omega)
    ·rintro⟨row,j⟩ ⟨⟨hrl,hj⟩,hrb⟩
     dsimp only at hrl hj hrb ⊢
     have hrow:okI 8 row:=⟨by omega,fun x hx=>by have:=hrb x hx;exact⟨by show (-9223372036854775808:Int)≤x;omega,by show x≤(9223372036854775807:Int);omega⟩⟩
     (try refine am ?_);(try exact amT)
     repeat' with_reducible first|apply zA|intro _
     all_goals try exact amA
     ·refine CallK.one (l16Power i (by omega)) (fun _=>amC) ?_
      (try refine am ?_);(try exact amT)
      repeat' with_reducible first|apply zA|intro _
      all_goals try exact amA
      refine CallK.one (l16Power i (by omega)) (fun _=>amC) ?_
      (try refine am ?_);(try exact amT)
      repeat' with_reducible first|apply zA|intro _
      all_goals try exact amA
      refine CallK.cur (spec_l1Below nb hn _) rfl rfl rfl (fun _ _ _=>amC) ?_
      rintro z1 ⟨hz0,hz1⟩
      (try refine am ?_);(try exact amT)
      repeat' with_reducible first|apply zA|intro _
      all_goals try exact amA
      refine CallK.cur (spec_l1PickInt nb hn true (some false) [0,2^i,z1] (by simp) (by simp)) rfl rfl rfl (fun _ _ _=>amC) ?_
      rintro z hz
      (try refine am ?_);(try exact amT)
      have hz2:0≤z∧z≤128:=by simp at hz;omega
      repeat' with_reducible first|apply zA|intro _
      all_goals try exact amA
      refine⟨(row++[z],j+1),?_,⟨⟨by simp[hrl],by simp only[Int.natCast_add,Int.natCast_one];omega⟩,fun y hy=>?_⟩,by simp only;omega⟩
      ·refine LeA [] ?_ ?_ ?_
       all_goals try refine amL ?_
       all_goals try exact amT
       exact appIntD rfl
      ·rcases mem_app1 hy with h|h
       ·exact hrb y h
       ·subst h;exact hz2
     ·refine⟨(m++[row],i+1),?_,⟨⟨by simp[hm],by simp only[Int.natCast_add,Int.natCast_one];omega⟩,okL_app1 hok (okI_up hrow (by omega)) (by omega)⟩,by simp only;omega⟩
      refine LeA [] ?_ ?_ ?_
      all_goals try refine amL ?_
      all_goals try exact amT
      refine boxLe ?_
      rw[if_pos (by decide)]
      exact appRows rfl (.refl _)
   ·refine FinK.cur (.refl _) ⟨trivial,rfl⟩ rfl ?_
    refine FinK.ex (m) ?hq1 ?_
    case hq1=>exact okL_up hok (by omega)
    refine FinK.cell1 ?_ ?_ ?_
    all_goals try refine amF ?_
    all_goals try exact amT
 ·refine CallK.cur (spec_l1PickInt nb hn true (some false) [0,6,30,90] (by simp) (by simp)) rfl rfl rfl (fun _ _ _=>amC) ?_
  rintro sz hsz
  (try refine am ?_);(try exact amT)
  have hsz2:0≤sz∧sz≤90:=by simp at hsz;omega
  repeat' with_reducible first|apply zA|intro _
  all_goals try exact amA
  refine CallK.cur (spec_l16Bits nb hn sz (by omega)) rfl rfl rfl (fun _ _ _=>amC) ?_
  rintro l ⟨hl,hb⟩
  (try refine am ?_);(try exact amT)
  repeat' with_reducible first|apply zA|intro _
  all_goals try exact amA
  refine LoopK.intro ((List (List Int)×Nat)) (fun x=>[(10,.one (.av (.int .i64 x.2))),(3,.one (.ref 302 [] [0] 0 0)),(0,.one (.ref 1 [] [0] 0 0))]) (fun x=>[(302,⟨.sl true none 1 1 (fun _ _=>.sl true none 1 x.1.length (fL true x.1)),[]⟩)]) [2,9] [18,5,1] 500 (fun x=>x.2≤l.length∧okL (2^4) x.1) (fun x=>l.length - x.2) (([],0)) ?_ ?_ ?_
  ·exact⟨Nat.zero_le _,by simp,fun y hy=>by simp at hy⟩
  ·refine LeA [] ?_ ?_ ?_
   all_goals try refine amL ?_
   all_goals try exact amT
   refine boxLe ?_
   rw[if_pos (by decide)]
   exact ALe.nil ..
  ·rintro⟨m,i⟩ ⟨hi,hok⟩
   dsimp only at hi hok ⊢
   (try refine am ?_);(try exact amT)
   repeat' with_reducible first|apply zA|intro _
   all_goals try exact amA
   ·have hbi:inK .i64 (l.getD i 0):=by
     have:=hb _ (getD_mem' (l:=l) (i:=i) (by omega))
     exact⟨by show (-9223372036854775808:Int)≤_;omega,by show _≤(9223372036854775807:Int);omega⟩
    refine CallCE.one (specWindowAdd m (l.getD i 0) _ _ (okL_up hok) hbi) (fun _=>amC) rfl ?_
    (try refine am ?_);(try exact amT)
    repeat' with_reducible first|apply zA|intro _
    all_goals try exact amA
    refine⟨(wAddA m (l.getD i 0),i+1),?_,⟨by simp only;omega,wAddA_okA (by decide) hok⟩,by simp only;omega⟩
    refine LeA [] ?_ ?_ ?_
    all_goals try refine amL ?_
    all_goals try exact amT
    refine boxLe ?_
    first|(rw[if_pos (by decide)];exact .refl _)|exact .refl _
   ·refine FinK.cur (.refl _) ⟨trivial,rfl⟩ rfl ?_
    refine FinK.ex (m) ?hq2 ?_
    case hq2=>exact hok
    refine FinK.cell1 ?_ ?_ ?_
    all_goals try refine amF ?_
    all_goals try exact amT
theorem spec_l16Draw (nb:Nat) (hn:nb≤2^40):ACur Tryz.prog 187 nb [] (fun r=>∃l:List (List Int),okL (2^5) l∧r=.val (.agg [aL true true l])):=by
 have nt:Tryz.f187.ntmps=58:=rfl
 have rs:Tryz.f187.results=#[.cell 2 75]:=rfl
 refine ACur.of_run (m:=400) mixed Tryz.func187 rfl rfl (Nat.le_of_ble_eq_true rfl) (fun xc=>?_)
 simp only[nt,rs]
 clear nt rs
 (try refine am ?_);(try exact amT)
 refine CallK.cur (spec_l16Right nb hn) rfl rfl rfl (fun _ _ _=>amC) ?_
 rintro l hl
 (try refine am ?_);(try exact amT)
 have hll:=hl.1
 repeat' with_reducible first|apply zA|intro _
 all_goals try exact amA
 refine CallK.cur (spec_l1Below nb hn _) rfl rfl rfl (fun _ _ _=>amC) ?_
 rintro b ⟨hb0,hb1⟩
 (try refine am ?_);(try exact amT)
 repeat' with_reducible first|apply zA|intro _
 all_goals try exact amA
 ·refine FinK.cur (.refl _) ⟨trivial,rfl⟩ rfl ?_
  refine FinK.ex (l++[[]]) ?hq3 ?_
  case hq3=>exact okL_app1 hl ⟨Nat.zero_le _,fun y hy=>by simp at hy⟩ (by decide)
  refine FinK.cell1 ?_ ?_ ?_
  all_goals try refine amF ?_
  all_goals try exact amT
  exact appRows rfl (ALe.of (.inl rfl) rfl (fun i hi=>by omega))
 ·have hr0:(l.getD 0 []).length≤2^4:=(hl.2 _ (getD_mem (by omega))).1
  refine CallCE.cur (spec_l1PickInt nb hn true (some false) [2,-1,1,1] (by simp) (by simp)) rfl (2) ?hcq rfl rfl rfl (fun _ _ _=>amC) (fun _=>rfl) (fun _=>rfl) ?_
  case hcq=>exact by simp
  rintro z hz
  (try refine am ?_);(try exact amT)
  have hz2: -1≤z∧z≤2:=by simp at hz;omega
  repeat' with_reducible first|apply zA|intro _
  all_goals try exact amA
  refine FinK.cur (.refl _) ⟨trivial,rfl⟩ rfl ?_
  refine FinK.ex (l.set 0 (l.getD 0 []++[z])) ?hq4 ?_
  case hq4=>exact okL_set hl (okI_app1 (B:=2^5) (hl.2 _ (getD_mem (by omega))) (by omega) (by decide)) (by decide)
  refine FinK.cell1 ?_ ?_ ?_
  all_goals try refine amF ?_
  all_goals try exact amT
  refine rowsLe2 (by simp) (fun i hi=>?_)
  by_cases e:i=0
  ·subst e
   have e1:(l.set 0 (l.getD 0 []++[z])).getD 0 []=l.getD 0 []++[z]:=getD_set_eq (by omega)
   rw[e1,if_pos (by decide)]
   exact appIntD rfl
  ·have e1:(l.set 0 (l.getD 0 []++[z])).getD i []=l.getD i []:=getD_set_ne (by omega)
   rw[e1,if_neg (by omega),if_neg (by omega)]
   exact .refl _
 ·refine FinK.cur (.refl _) ⟨trivial,rfl⟩ rfl ?_
  refine FinK.ex (l) ?hq5 ?_
  case hq5=>exact okL_up hl
  refine FinK.cell1 ?_ ?_ ?_
  all_goals try refine amF ?_
  all_goals try exact amT
 ·refine LoopK.intro ((List (List Int))) (fun x=>[(3,.one (.ref 302 [] [0] 0 0)),(0,.one (.ref 1 [] [0] 0 0))]) (fun x=>[(302,⟨.sl true none 1 1 (fun _ _=>.sl true none 1 x.length (fL true x)),[]⟩)]) [2] [5,1] 500 (fun x=>okL (2^5 - 1) x) (fun x=>9 - x.length) (l) ?_ ?_ ?_
  ·exact okL_up hl
  ·refine LeA [] ?_ ?_ ?_
   all_goals try refine amL ?_
   all_goals try exact amT
   refine boxLe ?_
   first|(rw[if_pos (by decide)];exact .refl _)|exact .refl _
  ·intro m hok
   have hml:=hok.1
   (try refine am ?_);(try exact amT)
   repeat' with_reducible first|apply zA|intro _
   all_goals try exact amA
   ·refine⟨m++[[1]],?_,?_,by simp;omega⟩
    ·refine LeA [] ?_ ?_ ?_
     all_goals try refine amL ?_
     all_goals try exact amT
     refine boxLe ?_
     rw[if_pos (by decide)]
     exact appRows rfl oneInt
    ·refine⟨by simp;omega,fun x hx=>?_⟩
     rcases List.mem_append.1 hx with hx|hx
     ·exact hok.2 x hx
     ·have:x=[1]:=by simpa using hx
      subst this
      exact⟨by decide,fun y hy=>by simp at hy;subst hy;exact⟨by decide,by decide⟩⟩
   ·refine FinK.cur (.refl _) ⟨trivial,rfl⟩ rfl ?_
    refine FinK.ex (m) ?hq6 ?_
    case hq6=>exact okL_up hok
    refine FinK.cell1 ?_ ?_ ?_
    all_goals try refine amF ?_
    all_goals try exact amT
 ·refine CallCE.cur (spec_l1PickInt nb hn true (some false) [256,257,1,-1] (by simp) (by simp)) rfl (256) ?hcq rfl rfl rfl (fun _ _ _=>amC) (fun _=>rfl) (fun _=>rfl) ?_
  case hcq=>exact by simp
  rintro z hz
  (try refine am ?_);(try exact amT)
  have hz2: -1≤z∧z≤257:=by simp at hz;omega
  repeat' with_reducible first|apply zA|intro _
  all_goals try exact amA
  refine FinK.cur (.refl _) ⟨trivial,rfl⟩ rfl ?_
  refine FinK.ex (l++[[z]]) ?hq7 ?_
  case hq7=>exact okL_app1 hl (okI_one hz2) (by decide)
  refine FinK.cell1 ?_ ?_ ?_
  all_goals try refine amF ?_
  all_goals try exact amT
  exact appRows rfl oneInt
 ·refine FinK.cur (.refl _) ⟨trivial,rfl⟩ rfl ?_
  refine FinK.ex (l) ?hq8 ?_
  case hq8=>exact okL_up hl
  refine FinK.cell1 ?_ ?_ ?_
  all_goals try refine amF ?_
  all_goals try exact amT
end Go.AM
namespace Go.AM
set_option maxHeartbeats 64000000
open Go Go.Proofs
set_option maxRecDepth 100000
theorem smT_0:smT ⟨[],0⟩:=⟨⟨⟨Nat.zero_le _,fun y hy=>by simp at hy⟩,⟨by show IntKind.i64.min≤(0:Int);decide,by show (0:Int)≤IntKind.i64.max;decide⟩⟩,Nat.zero_le _,by dsimp only;omega,by dsimp only;omega⟩
theorem okDet_up {A B:Nat} {d:DDet} (h:okDet A d) (hB:A≤B:=by decide):okDet B d:=⟨okL_up h.1 hB,okL_up h.2 hB⟩
def smM (m:DMember):Prop:=smT m.tree∧smT m.young∧okDet (2^5) m.det
theorem smM_40 {m:DMember} (h:smM m):okMember (2^40) m:=⟨smT_40 h.1,trivial,smT_40 h.2.1,okDet_up h.2.2⟩
theorem smM_47 {m:DMember} (h:smM m):okMember (2^47) m:=⟨smT_47 h.1,trivial,smT_47 h.2.1,okDet_up h.2.2⟩
theorem szW_le {l:List (List Int)} (h:okL (2^5) l):szW l≤1056:=by
 unfold szW tot
 have h1:=h.1
 have h2:=sm_bd (f:=List.length) (B:=32) (l:=l) (fun r hr=>(h.2 r hr).1)
 have h3:32*l.length≤32*32:=Nat.mul_le_mul_left _ h1
 omega
theorem wokDet {d:DDet} (h:wok d.warn∧wok d.drift):okDet (2^5) d:=⟨okL_up (wok_okL h.1),okL_up (wok_okL h.2)⟩
theorem bdT_z2 {t:DTree} (h:okTree (2^12) t) (hl:t.nodes.length≤31):zTree t≤2^36:=by
 have hst:∀x:DStats,okStats (2^12) x→zStats x≤2^25:=fun x h=>by
  unfold zStats szW tot
  have h1:=h.1.1
  have h2:=h.2.1
  have h3:=sm_bd (f:=List.length) (B:=2^12) (l:=x.cells) (fun r hr=>(h.2.2 r hr).1)
  have h4:2^12*x.cells.length≤2^12*2^12:=Nat.mul_le_mul_left _ h2
  omega
 have hnd:∀x:DNode,okNode (2^12) x→zNode x≤2^26:=fun x h=>by
  unfold zNode
  have h1:=h.2.2.1.1
  have h2:=hst _ h.2.2.2.2.1
  have h3:=h.2.2.2.2.2.2.1.1
  omega
 unfold zTree zNodeS
 have h2:=sm_bd (f:=zNode) (B:=2^26) (l:=t.nodes) (fun x hx=>hnd x (h.1.2 x hx))
 have h3:2^26*t.nodes.length≤2^26*31:=Nat.mul_le_mul_left _ hl
 omega
def bdM (m:DMember):Prop:=(okTree (2^12) m.tree∧m.tree.nodes.length≤31)∧(okTree (2^12) m.young∧m.young.nodes.length≤31)∧okDet (2^5) m.det
theorem smM_bd {m:DMember} (h:smM m):bdM m:=⟨⟨okTree_up h.1.1,h.1.2.1⟩,⟨okTree_up h.2.1.1,h.2.1.2.1⟩,h.2.2⟩
theorem bdM_z {m:DMember} (h:bdM m):zMember m≤2^37+2112:=by
 have h1:=bdT_z2 h.1.1 h.1.2
 have h2:=bdT_z2 h.2.1.1 h.2.1.2
 have h3:=szW_le h.2.2.1
 have h4:=szW_le h.2.2.2
 unfold zMember zDet
 omega
theorem bdM_47 {m:DMember} (h:bdM m):okMember (2^47) m:=⟨okTree_up h.1.1,trivial,okTree_up h.2.1.1,okDet_up h.2.2⟩
theorem memApp {l:List DMember} {x:DMember} {nl:Option Bool} {n:Nat} (hn:n=l.length+1):ALe (.sl true nl 7 n (apF l.length (fMember true l) (rowsF [cMember true true x]))) (.sl true none 7 (l++[x]).length (fMember true (l++[x]))):=by
 subst hn
 exact appLe1 rfl rfl (.inl rfl)
theorem l23CopyI (m:DMember) (u v:Bool) (h:okMember (2^40) m) (hn:m.tree.nodes.length≤2^38∧m.young.nodes.length≤2^38):ACalls Tryz.prog 196 [.agg (cMember u v m)] (fun r=>r=.val (.agg (cMember true true m))):=by
 have nt:Tryz.f196.ntmps=15:=rfl
 have rs:Tryz.f196.results=#[.cell 2 79]:=rfl
 refine ACalls.of_run (m:=400) mixed Tryz.func196 rfl rfl (Nat.le_of_ble_eq_true rfl) ?_
 simp only[nt,rs]
 clear nt rs
 (try refine am ?_);(try exact amT)
 repeat' with_reducible first|apply zA|intro _
 all_goals try exact amA
 refine CallE.one (l19CopyI m.tree _ _ h.1 hn.1) (fun _=>amC) rfl ?_
 (try refine am ?_);(try exact amT)
 repeat' with_reducible first|apply zA|intro _
 all_goals try exact amA
 refine CallE.one (l19CopyI m.young _ _ h.2.2.1 hn.2) (fun _=>amC) rfl ?_
 (try refine am ?_);(try exact amT)
 repeat' with_reducible first|apply zA|intro _
 all_goals try exact amA
 refine CallE.one (l18CopyI m.det _ _ h.2.2.2) (fun _=>amC) rfl ?_
 (try refine am ?_);(try exact amT)
 repeat' with_reducible first|apply zA|intro _
 all_goals try exact amA
 refine FinK.cell1 ?_ ?_ ?_
 all_goals try refine amF ?_
 all_goals try exact amT
def thr1:List Int:=[24109,48218,60273,64291,65296,65497,65530]
def thr6:List Int:=[162,1137,4061,9909,18681,29208,39734]
theorem cases7 {i:Nat} (h:i<7):i=0∨i=1∨i=2∨i=3∨i=4∨i=5∨i=6:=by omega
theorem specThrL (z:Int) (hz:z=1∨z=6):ACalls Tryz.prog 140 [.one (.int .i64 z)] (fun r=>r=.val (.one (.sl true none 1 7 (fI (if z=1 then thr1 else thr6))))):=by
 rcases hz with rfl|rfl
 all_goals
  have nt:Tryz.f140.ntmps=11:=rfl
  have rs:Tryz.f140.results=#[.tmp 2]:=rfl
  refine ACalls.of_run (m:=400) mixed Tryz.func140 rfl rfl (Nat.le_of_ble_eq_true rfl) ?_
  simp only[nt,rs]
  clear nt rs
  (try refine am ?_);(try exact amT)
  repeat' with_reducible first|apply zA|intro _
  all_goals try exact amA
  all_goals
   refine FinK.val1 ?_ ?_
   all_goals try refine amF ?_
   all_goals try exact amT
   refine ALe.of (.inl rfl) rfl (fun i hi j hj=>?_)
   obtain rfl:j=0:=by omega
   rcases cases7 hi with rfl|rfl|rfl|rfl|rfl|rfl|rfl<;>exact .refl _
theorem specWeightOf (z d:Int) (hz:z=1∨z=6) (hd:0≤d∧d≤65535):ACalls Tryz.prog 199 [.one (.int .i64 z),.one (.int .i64 d)] (fun r=>∃x:Int,(0≤x∧x≤7)∧r=.val (.one (.int .i64 x))):=by
 have nt:Tryz.f199.ntmps=33:=rfl
 have rs:Tryz.f199.results=#[.tmp 4]:=rfl
 refine ACalls.of_runC (m:=400) mixed Tryz.func199 rfl rfl (Nat.le_of_ble_eq_true rfl) ?_
 simp only[nt,rs]
 clear nt rs
 (try refine am ?_);(try exact amT)
 repeat' with_reducible first|apply zA|intro _
 all_goals try exact amA
 refine CallK.one (specThrL z hz) (fun _=>amC) ?_
 (try refine am ?_);(try exact amT)
 repeat' with_reducible first|apply zA|intro _
 all_goals try exact amA
 refine CallG.one rfl (fun hg=>l1In d 0 65535) ?_
 (try refine am ?_);(try exact amT)
 repeat' with_reducible first|apply zA|intro _
 all_goals try exact amA
 refine LoopK.auto ((Nat×Nat)) (fun x=>[(7,.one (.av (.int .i64 x.1))),(6,.one (.av (.int .i64 x.2)))]) (fun x=>[]) [1,5] (k0:=?k01) (keepH:=?kh1) 400 (fun x=>x.2≤x.1∧x.1≤7) (fun x=>7 - x.1) ((0,0)) ?kea1 ?keb1 ?_ ?_ ?_
 case kea1=>exact amN
 case keb1=>exact amN
 ·exact⟨Nat.le_refl _,Nat.zero_le _⟩
 ·refine LeA [] ?_ ?_ ?_
  all_goals try refine amL ?_
  all_goals try exact amT
 ·rintro⟨i,n⟩ ⟨h1,h2⟩
  dsimp only at h1 h2 ⊢
  (try refine am ?_);(try exact amT)
  repeat' with_reducible first|apply zA|intro _
  all_goals try exact amA
  ·refine⟨(i+1,n+1),?_,⟨by dsimp only;omega,by dsimp only;omega⟩,by dsimp only;omega⟩
   refine LeA [] ?_ ?_ ?_
   all_goals try refine amL ?_
   all_goals try exact amT
  ·refine⟨(i+1,n),?_,⟨by dsimp only;omega,by dsimp only;omega⟩,by dsimp only;omega⟩
   refine LeA [] ?_ ?_ ?_
   all_goals try refine amL ?_
   all_goals try exact amT
  ·refine FinK.ex ((n:Int)) ?hq1 ?_
   case hq1=>exact by omega
   refine FinK.val1 ?_ ?_
   all_goals try refine amF ?_
   all_goals try exact amT
theorem tp40 {tp:DTape} (h:okTape 1000 tp):okTape (2^40) tp:=⟨Nat.le_trans h.1 (by decide),h.2⟩
theorem tpB {tp nt:DTape} (h:okTape 1000 tp) (h1:nt.bytes=tp.bytes) (h2:inK .i64 nt.at_):okTape 1000 nt:=⟨by rw[h1];exact h.1,h2⟩
theorem spec_l23Root (c:DConf) (tp:DTape) (u v u3:Bool) (hc:okConf (2^20) c) (hk:confOk c) (htp:okTape 1000 tp):ACalls Tryz.prog 195 [.agg (cConf u v c),.agg (cTape u3 false tp)] (fun r=>∃x:DTree×DTape×Bool,(smT x.1∧okTape 1000 x.2.1)∧r=.tup [.agg (cTree true true x.1),.agg (cTape true false x.2.1),.one (.bool x.2.2)]):=by
 have hal:=hk.1.1
 have hpk:=hk.2.2.2.1
 have hs47:okSchema (2^47) c.schema:=okSchema_up hc.1
 have nt:Tryz.f195.ntmps=32:=rfl
 have rs:Tryz.f195.results=#[.cell 4 30,.cell 5 162,.tmp 6]:=rfl
 refine ACalls.of_runC (m:=400) mixed Tryz.func195 rfl rfl (Nat.le_of_ble_eq_true rfl) ?_
 simp only[nt,rs]
 clear nt rs
 (try refine am ?_);(try exact amT)
 repeat' with_reducible first|apply zA|intro _
 all_goals try exact amA
 refine CallK.ex (specTakeSubset tp (c.schema.attrs.length:Int) c.pick _ (tp40 htp) (by omega) (by omega)) (fun _ _ _=>amC) ?_
 rintro⟨nt,q,b⟩ ⟨⟨h1,h2⟩,h3,h4⟩
 (try refine am ?_);(try exact amT)
 dsimp only at h1 h2 h3 h4 ⊢
 repeat' with_reducible first|apply zA|intro _
 all_goals try exact amA
 ·refine CallK.one (spec_l15Copy tp _ (tp40 htp)) (fun _=>amC) ?_
  (try refine am ?_);(try exact amT)
  repeat' with_reducible first|apply zA|intro _
  all_goals try exact amA
  refine FinK.ex ((⟨[],0⟩,tp,false)) ?hq2 ?_
  case hq2=>exact⟨smT_0,htp⟩
  refine FinK.tup ?_ ?_
  all_goals try refine amF ?_
  all_goals try exact amT
  exact .nil ..
 ·refine CallCE.one (specTreeNew c.schema q _ _ _ _ hs47 (by omega)) (fun _=>amC) rfl ?_
  (try refine am ?_);(try exact amT)
  repeat' with_reducible first|apply zA|intro _
  all_goals try exact amA
  refine FinK.ex ((treeNew c.schema q,nt,true)) ?hq3 ?_
  case hq3=>exact⟨smT_new h4,tpB htp h1 h2⟩
  refine FinK.tup ?_ ?_
  all_goals try refine amF ?_
  all_goals try exact amT
theorem smM0 {t:DTree} (h:smT t):smM ⟨t,false,⟨[],0⟩,⟨[],[]⟩⟩:=⟨h,smT_0,⟨Nat.zero_le _,fun _ hy=>nomatch hy⟩,⟨Nat.zero_le _,fun _ hy=>nomatch hy⟩⟩
theorem conf47 {c:DConf} (h:okConf (2^20) c):okConf (2^47) c:=⟨okSchema_up h.1,h.2⟩
theorem spec_MemberNewW (c:DConf) (tp:DTape) (u v u3:Bool) (hc:okConf (2^20) c) (htp:okTape 1000 tp):ACalls Tryz.prog 181 [.agg (cConf u v c),.agg (cTape u3 false tp)] (fun r=>∃x:DMember×DTape×Bool,(smM x.1∧okTape 1000 x.2.1)∧r=.tup [.agg (cMember true true x.1),.agg (cTape true false x.2.1),.one (.bool x.2.2)]):=by
 have nt:Tryz.f181.ntmps=31:=rfl
 have rs:Tryz.f181.results=#[.cell 4 79,.cell 5 162,.tmp 6]:=rfl
 refine ACalls.of_runC (m:=400) mixed Tryz.func181 rfl rfl (Nat.le_of_ble_eq_true rfl) ?_
 simp only[nt,rs]
 clear nt rs
 (try refine am ?_);(try exact amT)
 refine CallK.one (specConfOk c _ _ (conf47 hc)) (fun _=>amC) ?_
 (try refine am ?_);(try exact amT)
 repeat' with_reducible first|apply zA|intro _
 all_goals try exact amA
 ·refine CallK.one (spec_l15Copy tp _ (tp40 htp)) (fun _=>amC) ?_
  (try refine am ?_);(try exact amT)
  repeat' with_reducible first|apply zA|intro _
  all_goals try exact amA
  refine FinK.ex ((⟨⟨[],0⟩,false,⟨[],0⟩,⟨[],[]⟩⟩,tp,false)) ?hq4 ?_
  case hq4=>exact⟨smM0 smT_0,htp⟩
  refine FinK.tup ?_ ?_
  all_goals try refine amF ?_
  all_goals try exact amT
  exact⟨.nil ..,.nil ..,.nil ..⟩
 ·refine CallK.ex (spec_l23Root c tp _ _ _ hc (by assumption) htp) (fun _ _ _=>amC) ?_
  rintro⟨t,nt,b⟩ ⟨ht,hnt⟩
  (try refine am ?_);(try exact amT)
  dsimp only at ht hnt ⊢
  repeat' with_reducible first|apply zA|intro _
  all_goals try exact amA
  ·refine CallK.one (spec_l15Copy tp _ (tp40 htp)) (fun _=>amC) ?_
   (try refine am ?_);(try exact amT)
   repeat' with_reducible first|apply zA|intro _
   all_goals try exact amA
   refine FinK.ex ((⟨⟨[],0⟩,false,⟨[],0⟩,⟨[],[]⟩⟩,tp,false)) ?hq5 ?_
   case hq5=>exact⟨smM0 smT_0,htp⟩
   refine FinK.tup ?_ ?_
   all_goals try refine amF ?_
   all_goals try exact amT
   exact⟨.nil ..,.nil ..,.nil ..⟩
  ·refine FinK.ex ((⟨t,false,⟨[],0⟩,⟨[],[]⟩⟩,nt,true)) ?hq6 ?_
   case hq6=>exact⟨smM0 ht,hnt⟩
   refine FinK.tup ?_ ?_
   all_goals try refine amF ?_
   all_goals try exact amT
   exact⟨.nil ..,.nil ..⟩
end Go.AM
namespace Go.AM
set_option maxHeartbeats 64000000
open Go Go.Proofs
set_option maxRecDepth 100000
def litS (l:List (List UInt8)):Nat→Nat→AV:=rowsF (l.map fun z=>[.str z])
theorem litS_at (l:List (List UInt8)) (i:Nat) (h:i<l.length):litS l i 0=.str (l.getD i []):=by
 unfold litS rowsF
 rw[gl_eq,gl_eq]
 simp[List.getD,h]
theorem getD_memS {l:List (List UInt8)} {i:Nat} (h:i<l.length):l.getD i []∈l:=by
 rw[List.getD_eq_getElem?_getD,List.getElem?_eq_getElem h]
 exact List.getElem_mem h
theorem spec_l1Pick (nb:Nat) (hn:nb≤2^40) (u:Bool) (nl:Option Bool) (l:List (List UInt8)) (hl:0<l.length) (hl2:l.length≤2^40):ACur Tryz.prog 162 nb [.one (.sl u nl 1 l.length (litS l))] (fun r=>∃z:List UInt8,z∈l∧r=.val (.one (.str z))):=by
 have nt:Tryz.f162.ntmps=12:=rfl
 have rs:Tryz.f162.results=#[.tmp 4]:=rfl
 refine ACur.of_run (m:=400) mixed Tryz.func162 rfl rfl (Nat.le_of_ble_eq_true rfl) (fun xc=>?_)
 simp only[nt,rs]
 clear nt rs
 (try refine am ?_);(try exact amT)
 repeat' with_reducible first|apply zA|intro _
 all_goals try exact amA
 refine CallK.cur (spec_l1Below nb hn l.length) rfl rfl rfl (fun _ _ _=>amC) ?_
 rintro z ⟨hz0,hz1⟩
 (try refine am ?_);(try exact amT)
 have e:=litS_at l z.toNat (by omega)
 repeat' with_reducible first|apply zA|intro _
 all_goals try exact amA
 rw[e]
 refine FinK.cur (.refl _) ⟨trivial,rfl⟩ rfl ?_
 refine FinK.ex (l.getD z.toNat []) ?hq1 ?_
 case hq1=>exact getD_memS (by omega)
 refine FinK.val1 ?_ ?_
 all_goals try refine amF ?_
 all_goals try exact amT
theorem inK6 {z:Int} (h: -9223372036854775808≤z∧z≤9223372036854775807):inK .i64 z:=⟨by show (-9223372036854775808:Int)≤z;omega,by show z≤(9223372036854775807:Int);omega⟩
theorem spec_l18Draw (nb:Nat) (hn:nb≤2^40):ACur Tryz.prog 160 nb [] (fun r=>∃d:DDet,okDet (2^5) d∧r=.val (.agg (cDet true true d))):=by
 have nt:Tryz.f160.ntmps=22:=rfl
 have rs:Tryz.f160.results=#[.cell 2 77]:=rfl
 refine ACur.of_run (m:=400) mixed Tryz.func160 rfl rfl (Nat.le_of_ble_eq_true rfl) (fun xc=>?_)
 simp only[nt,rs]
 clear nt rs
 (try refine am ?_);(try exact amT)
 refine CallK.cur (spec_l1Once nb hn 2) rfl rfl rfl (fun _ _ _=>amC) ?_
 rintro b hb
 (try refine am ?_);(try exact amT)
 repeat' with_reducible first|apply zA|intro _
 all_goals try exact amA
 ·refine CallK.cur (spec_l16Bits nb hn 60 (by omega)) rfl rfl rfl (fun _ _ _=>amC) ?_
  rintro l ⟨hl,hb2⟩
  (try refine am ?_);(try exact amT)
  repeat' with_reducible first|apply zA|intro _
  all_goals try exact amA
  refine CallK.cur (spec_l1PickInt nb hn true (some false) [1,2,3] (by simp) (by simp)) rfl rfl rfl (fun _ _ _=>amC) ?_
  rintro z hz
  (try refine am ?_);(try exact amT)
  have hz2:1≤z∧z≤3:=by simp at hz;omega
  repeat' with_reducible first|apply zA|intro _
  all_goals try exact amA
  refine CallK.one (specDetRun l 1 z _ (bits01_okI hb2 (by omega)) (inK6 (by omega)) (inK6 (by omega))) (fun _=>amC) ?_
  (try refine am ?_);(try exact amT)
  repeat' with_reducible first|apply zA|intro _
  all_goals try exact amA
  refine FinK.cur (.refl _) ⟨trivial,rfl⟩ rfl ?_
  refine FinK.ex ((detRunA l 1 z l.length).1) ?hq2 ?_
  case hq2=>exact wokDet detRunA_wok
  refine FinK.cell1 ?_ ?_ ?_
  all_goals try refine amF ?_
  all_goals try exact amT
 ·refine CallK.cur (spec_l16Draw nb hn) rfl rfl rfl (fun _ _ _=>amC) ?_
  rintro w hw
  (try refine am ?_);(try exact amT)
  repeat' with_reducible first|apply zA|intro _
  all_goals try exact amA
  refine CallK.cur (spec_l16Draw nb hn) rfl rfl rfl (fun _ _ _=>amC) ?_
  rintro d hd
  (try refine am ?_);(try exact amT)
  repeat' with_reducible first|apply zA|intro _
  all_goals try exact amA
  refine FinK.cur (.refl _) ⟨trivial,rfl⟩ rfl ?_
  refine FinK.ex (⟨w,d⟩) ?hq3 ?_
  case hq3=>exact⟨hw,hd⟩
  refine FinK.cell1 ?_ ?_ ?_
  all_goals try refine amF ?_
  all_goals try exact amT
theorem spec_l12Draw (nb:Nat) (hn:nb≤2^40):ACur Tryz.prog 131 nb [] (fun r=>∃x:DRule,okRule (2^47) x∧r=.val (.agg (cRule x))):=by
 have nt:Tryz.f131.ntmps=45:=rfl
 have rs:Tryz.f131.results=#[.cell 2 62]:=rfl
 refine ACur.of_run (m:=400) mixed Tryz.func131 rfl rfl (Nat.le_of_ble_eq_true rfl) (fun xc=>?_)
 simp only[nt,rs]
 clear nt rs
 (try refine am ?_);(try exact amT)
 refine CallK.cur (spec_l12Right nb hn) rfl rfl rfl (fun _ _ _=>amC) ?_
 rintro x hx
 (try refine am ?_);(try exact amT)
 repeat' with_reducible first|apply zA|intro _
 all_goals try exact amA
 have hx0:okRule (2^47) x:=⟨inK6 (by omega),inK6 (by omega),inK6 (by omega),inK6 (by omega),inK6 (by omega),inK6 (by omega),trivial⟩
 refine CallK.cur (spec_l1Below nb hn 18) rfl rfl rfl (fun _ _ _=>amC) ?_
 rintro z ⟨hz0,hz1⟩
 (try refine am ?_);(try exact amT)
 repeat' with_reducible first|apply zA|intro _
 all_goals try exact amA
 ·refine CallK.cur (spec_l1PickInt nb hn true (some false) [0,10] (by simp) (by simp)) rfl rfl rfl (fun _ _ _=>amC) ?_
  rintro a ha
  (try refine am ?_);(try exact amT)
  have hak:inK .i64 a:=inK6 (by simp at ha;omega)
  repeat' with_reducible first|apply zA|intro _
  all_goals try exact amA
  refine FinK.cur (.refl _) ⟨trivial,rfl⟩ rfl ?_
  refine FinK.ex (⟨a,x.tie,x.grace,x.depth,x.nodes,x.units,x.two⟩) ?hq4 ?_
  case hq4=>exact⟨hak,hx0.2.1,hx0.2.2.1,hx0.2.2.2.1,hx0.2.2.2.2.1,hx0.2.2.2.2.2.1,trivial⟩
  refine FinK.cell1 ?_ ?_ ?_
  all_goals try refine amF ?_
  all_goals try exact amT
 ·refine CallK.cur (spec_l1PickInt nb hn true (some false) [-1,1000,9223372036854775807] (by simp) (by simp)) rfl rfl rfl (fun _ _ _=>amC) ?_
  rintro a ha
  (try refine am ?_);(try exact amT)
  have hak:inK .i64 a:=inK6 (by simp at ha;omega)
  repeat' with_reducible first|apply zA|intro _
  all_goals try exact amA
  refine FinK.cur (.refl _) ⟨trivial,rfl⟩ rfl ?_
  refine FinK.ex (⟨x.sure,a,x.grace,x.depth,x.nodes,x.units,x.two⟩) ?hq5 ?_
  case hq5=>exact⟨hx0.1,hak,hx0.2.2.1,hx0.2.2.2.1,hx0.2.2.2.2.1,hx0.2.2.2.2.2.1,trivial⟩
  refine FinK.cell1 ?_ ?_ ?_
  all_goals try refine amF ?_
  all_goals try exact amT
 ·refine CallK.cur (spec_l1PickInt nb hn true (some false) [0,201] (by simp) (by simp)) rfl rfl rfl (fun _ _ _=>amC) ?_
  rintro a ha
  (try refine am ?_);(try exact amT)
  have hak:inK .i64 a:=inK6 (by simp at ha;omega)
  repeat' with_reducible first|apply zA|intro _
  all_goals try exact amA
  refine FinK.cur (.refl _) ⟨trivial,rfl⟩ rfl ?_
  refine FinK.ex (⟨x.sure,x.tie,a,x.depth,x.nodes,x.units,x.two⟩) ?hq6 ?_
  case hq6=>exact⟨hx0.1,hx0.2.1,hak,hx0.2.2.2.1,hx0.2.2.2.2.1,hx0.2.2.2.2.2.1,trivial⟩
  refine FinK.cell1 ?_ ?_ ?_
  all_goals try refine amF ?_
  all_goals try exact amT
 ·refine CallK.cur (spec_l1PickInt nb hn true (some false) [-1,7] (by simp) (by simp)) rfl rfl rfl (fun _ _ _=>amC) ?_
  rintro a ha
  (try refine am ?_);(try exact amT)
  have hak:inK .i64 a:=inK6 (by simp at ha;omega)
  repeat' with_reducible first|apply zA|intro _
  all_goals try exact amA
  refine FinK.cur (.refl _) ⟨trivial,rfl⟩ rfl ?_
  refine FinK.ex (⟨x.sure,x.tie,x.grace,a,x.nodes,x.units,x.two⟩) ?hq7 ?_
  case hq7=>exact⟨hx0.1,hx0.2.1,hx0.2.2.1,hak,hx0.2.2.2.2.1,hx0.2.2.2.2.2.1,trivial⟩
  refine FinK.cell1 ?_ ?_ ?_
  all_goals try refine amF ?_
  all_goals try exact amT
 ·refine CallK.cur (spec_l1PickInt nb hn true (some false) [0,32] (by simp) (by simp)) rfl rfl rfl (fun _ _ _=>amC) ?_
  rintro a ha
  (try refine am ?_);(try exact amT)
  have hak:inK .i64 a:=inK6 (by simp at ha;omega)
  repeat' with_reducible first|apply zA|intro _
  all_goals try exact amA
  refine FinK.cur (.refl _) ⟨trivial,rfl⟩ rfl ?_
  refine FinK.ex (⟨x.sure,x.tie,x.grace,x.depth,a,x.units,x.two⟩) ?hq8 ?_
  case hq8=>exact⟨hx0.1,hx0.2.1,hx0.2.2.1,hx0.2.2.2.1,hak,hx0.2.2.2.2.2.1,trivial⟩
  refine FinK.cell1 ?_ ?_ ?_
  all_goals try refine amF ?_
  all_goals try exact amT
 ·refine CallK.cur (spec_l1PickInt nb hn true (some false) [61,2001] (by simp) (by simp)) rfl rfl rfl (fun _ _ _=>amC) ?_
  rintro a ha
  (try refine am ?_);(try exact amT)
  have hak:inK .i64 a:=inK6 (by simp at ha;omega)
  repeat' with_reducible first|apply zA|intro _
  all_goals try exact amA
  refine FinK.cur (.refl _) ⟨trivial,rfl⟩ rfl ?_
  refine FinK.ex (⟨x.sure,x.tie,x.grace,x.depth,x.nodes,a,x.two⟩) ?hq9 ?_
  case hq9=>exact⟨hx0.1,hx0.2.1,hx0.2.2.1,hx0.2.2.2.1,hx0.2.2.2.2.1,hak,trivial⟩
  refine FinK.cell1 ?_ ?_ ?_
  all_goals try refine amF ?_
  all_goals try exact amT
 ·refine FinK.cur (.refl _) ⟨trivial,rfl⟩ rfl ?_
  refine FinK.ex (x) ?hq10 ?_
  case hq10=>exact⟨hx0.1,hx0.2.1,hx0.2.2.1,hx0.2.2.2.1,hx0.2.2.2.2.1,hx0.2.2.2.2.2.1,trivial⟩
  refine FinK.cell1 ?_ ?_ ?_
  all_goals try refine amF ?_
  all_goals try exact amT
theorem fAttrApp {l:List DAttr} {x:DAttr} {nl:Option Bool} {n:Nat} (hn:n=l.length+1):ALe (.sl true nl 3 n (apF l.length (fAttr true l) (rowsF [cAttr true true x]))) (.sl true none 3 (l++[x]).length (fAttr true (l++[x]))):=by
 subst hn
 exact appLe1 rfl rfl (.inl rfl)
theorem okS_app {A B:Nat} {l:List (List UInt8)} {x:List UInt8} (h:okS A l) (hx:x.length≤B) (hB:A+1≤B):okS B (l++[x]):=⟨by have:=h.1;simp;omega,fun y hy=>by
 rcases List.mem_append.1 hy with hy|hy
 ·exact Nat.le_trans (h.2 y hy) (by omega)
 ·obtain rfl:y=x:=(by simpa using hy)
  exact hx⟩
theorem spec_l5DrawAttr (nb:Nat) (hn:nb≤2^40):ACur Tryz.prog 161 nb [] (fun r=>∃x:DAttr,okAttr (2^11) x∧r=.val (.agg (cAttr true true x))):=by
 have nt:Tryz.f161.ntmps=47:=rfl
 have rs:Tryz.f161.results=#[.cell 2 116]:=rfl
 refine ACur.of_run (m:=400) mixed Tryz.func161 rfl rfl (Nat.le_of_ble_eq_true rfl) (fun xc=>?_)
 simp only[nt,rs]
 clear nt rs
 (try refine am ?_);(try exact amT)
 refine CallK.cur (spec_l1Below nb hn 5) rfl rfl rfl (fun _ _ _=>amC) ?_
 rintro i ⟨hi0,hi1⟩
 (try refine am ?_);(try exact amT)
 obtain⟨j,rfl⟩:=Int.eq_ofNat_of_zero_le hi0
 repeat' with_reducible first|apply zA|intro _
 all_goals try exact amA
 refine CallK.cur (spec_l5RightAttr nb hn j (by omega)) rfl rfl rfl (fun _ _ _=>amC) ?_
 rintro x hx
 (try refine am ?_);(try exact amT)
 have hx2:okAttr (2^11) x:=okAttr_up hx
 have hcl:=hx.2.1.1
 have hvl:=hx.2.2.1
 repeat' with_reducible first|apply zA|intro _
 all_goals try exact amA
 refine CallK.cur (spec_l1Below nb hn 14) rfl rfl rfl (fun _ _ _=>amC) ?_
 rintro z ⟨hz0,hz1⟩
 (try refine am ?_);(try exact amT)
 repeat' with_reducible first|apply zA|intro _
 all_goals try exact amA
 ·refine CallK.cur (spec_l1Pick nb hn true (some false) [[],[85,112,112,101,114],[119,97,121,116,111,111,108,111,110,103],[97,32,98]] (by simp) (by simp)) rfl rfl rfl (fun _ _ _=>amC) ?_
  rintro a ha
  (try refine am ?_);(try exact amT)
  have hal:a.length≤2^11:=by simp at ha;rcases ha with rfl|rfl|rfl|rfl<;>decide
  repeat' with_reducible first|apply zA|intro _
  all_goals try exact amA
  refine FinK.cur (.refl _) ⟨trivial,rfl⟩ rfl ?_
  refine FinK.ex (⟨a,x.cuts,x.values⟩) ?hq11 ?_
  case hq11=>exact⟨hal,hx2.2.1,hx2.2.2⟩
  refine FinK.cell1 ?_ ?_ ?_
  all_goals try refine amF ?_
  all_goals try exact amT
 ·refine CallCE.cur (spec_l1PickInt nb hn true (some false) [-10000,9999,9998,0] (by simp) (by simp)) rfl (0) ?hcq rfl rfl rfl (fun _ _ _=>amC) (fun _=>rfl) (fun _=>rfl) ?_
  case hcq=>exact by simp
  rintro a ha
  (try refine am ?_);(try exact amT)
  have ha2: -10000≤a∧a≤9999:=by simp at ha;omega
  repeat' with_reducible first|apply zA|intro _
  all_goals try exact amA
  refine FinK.cur (.refl _) ⟨trivial,rfl⟩ rfl ?_
  refine FinK.ex (⟨x.name,x.cuts++[a],x.values⟩) ?hq12 ?_
  case hq12=>exact⟨hx2.1,okI_app1 hx.2.1 (by omega) (by decide),hx2.2.2⟩
  refine FinK.cell1 ?_ ?_ ?_
  all_goals try refine amF ?_
  all_goals try exact amT
  exact appIntD rfl
 ·refine CallCE.cur (spec_l1Pick nb hn true (some false) [[114,101,100],[102,105,102,116,104],[]] (by simp) (by simp)) rfl ([]) ?hcq rfl rfl rfl (fun _ _ _=>amC) (fun _=>rfl) (fun _=>rfl) ?_
  case hcq=>exact by simp
  rintro a ha
  (try refine am ?_);(try exact amT)
  have hal:a.length≤2^11:=by simp at ha;rcases ha with rfl|rfl|rfl<;>decide
  repeat' with_reducible first|apply zA|intro _
  all_goals try exact amA
  refine FinK.cur (.refl _) ⟨trivial,rfl⟩ rfl ?_
  refine FinK.ex (⟨x.name,x.cuts,x.values++[a]⟩) ?hq13 ?_
  case hq13=>exact⟨hx2.1,hx2.2.1,okS_app hx.2.2 hal (by decide)⟩
  refine FinK.cell1 ?_ ?_ ?_
  all_goals try refine amF ?_
  all_goals try exact amT
  exact appS rfl
 ·refine FinK.cur (.refl _) ⟨trivial,rfl⟩ rfl ?_
  refine FinK.ex (⟨x.name,[],x.values⟩) ?hq14 ?_
  case hq14=>exact⟨hx2.1,⟨Nat.zero_le _,fun y hy=>nomatch hy⟩,hx2.2.2⟩
  refine FinK.cell1 ?_ ?_ ?_
  all_goals try refine amF ?_
  all_goals try exact amT
  exact ALe.of (.inl rfl) rfl (fun i hi=>by omega)
 ·refine FinK.cur (.refl _) ⟨trivial,rfl⟩ rfl ?_
  refine FinK.ex (⟨x.name,[9998],[]⟩) ?hq15 ?_
  case hq15=>exact⟨hx2.1,⟨by simp,fun y hy=>by simp at hy;subst hy;exact⟨by decide,by decide⟩⟩,⟨Nat.zero_le _,fun y hy=>nomatch hy⟩⟩
  refine FinK.cell1 ?_ ?_ ?_
  all_goals try refine amF ?_
  all_goals try exact amT
  exact⟨oneInt,ALe.of (.inl rfl) rfl (fun i hi=>by omega)⟩
 ·refine FinK.cur (.refl _) ⟨trivial,rfl⟩ rfl ?_
  refine FinK.ex (x) ?hq16 ?_
  case hq16=>exact hx2
  refine FinK.cell1 ?_ ?_ ?_
  all_goals try refine amF ?_
  all_goals try exact amT
theorem okAt_app {A B:Nat} {l:List DAttr} {x:DAttr} (h:okAttrS A l) (hx:okAttr B x) (hB:A+1≤B):okAttrS B (l++[x]):=⟨by have:=h.1;simp;omega,fun y hy=>by
 rcases List.mem_append.1 hy with hy|hy
 ·exact okAttr_up (h.2 y hy) (by omega)
 ·obtain rfl:y=x:=(by simpa using hy)
  exact hx⟩
theorem spec_l5Draw (nb:Nat) (hn:nb≤2^40):ACur Tryz.prog 132 nb [] (fun r=>∃x:DSchema,okSchema (2^11) x∧r=.val (.agg (cSchema true true x))):=by
 have nt:Tryz.f132.ntmps=38:=rfl
 have rs:Tryz.f132.results=#[.cell 2 27]:=rfl
 refine ACur.of_run (m:=400) mixed Tryz.func132 rfl rfl (Nat.le_of_ble_eq_true rfl) (fun xc=>?_)
 simp only[nt,rs]
 clear nt rs
 (try refine am ?_);(try exact amT)
 refine CallK.cur (spec_l5Right nb hn) rfl rfl rfl (fun _ _ _=>amC) ?_
 rintro s ⟨hs,hs1,hs2,hs3⟩
 (try refine am ?_);(try exact amT)
 have hsx:okSchema (2^11) s:=okSchema_up hs
 have hal:=hs.1.1
 have hcl:=hs.2.1
 repeat' with_reducible first|apply zA|intro _
 all_goals try exact amA
 refine CallK.cur (spec_l1Below nb hn 12) rfl rfl rfl (fun _ _ _=>amC) ?_
 rintro z ⟨hz0,hz1⟩
 (try refine am ?_);(try exact amT)
 repeat' with_reducible first|apply zA|intro _
 all_goals try exact amA
 ·refine CallCE.cur (spec_l5DrawAttr nb hn) rfl (⟨[],[],[]⟩) ?hcq rfl rfl rfl (fun _ _ _=>amC) (fun _=>rfl) (fun _=>rfl) ?_
  case hcq=>exact⟨Nat.zero_le _,⟨Nat.zero_le _,fun y hy=>nomatch hy⟩,Nat.zero_le _,fun y hy=>nomatch hy⟩
  rintro x hx
  (try refine am ?_);(try exact amT)
  repeat' with_reducible first|apply zA|intro _
  all_goals try exact amA
  refine FinK.cur (.refl _) ⟨trivial,rfl⟩ rfl ?_
  refine FinK.ex (⟨s.attrs++[x],s.classes⟩) ?hq17 ?_
  case hq17=>exact⟨okAt_app hs.1 hx (by decide),hsx.2⟩
  refine FinK.cell1 ?_ ?_ ?_
  all_goals try refine amF ?_
  all_goals try exact amT
  exact fAttrApp rfl
 ·refine CallCE.cur (spec_l1Pick nb hn true (some false) [[110,111],[111,116,104,101,114],[]] (by simp) (by simp)) rfl ([]) ?hcq rfl rfl rfl (fun _ _ _=>amC) (fun _=>rfl) (fun _=>rfl) ?_
  case hcq=>exact by simp
  rintro a ha
  (try refine am ?_);(try exact amT)
  have hal:a.length≤2^11:=by simp at ha;rcases ha with rfl|rfl|rfl<;>decide
  repeat' with_reducible first|apply zA|intro _
  all_goals try exact amA
  refine FinK.cur (.refl _) ⟨trivial,rfl⟩ rfl ?_
  refine FinK.ex (⟨s.attrs,s.classes++[a]⟩) ?hq18 ?_
  case hq18=>exact⟨hsx.1,okS_app hs.2 hal (by decide)⟩
  refine FinK.cell1 ?_ ?_ ?_
  all_goals try refine amF ?_
  all_goals try exact amT
  exact appS rfl
 ·refine FinK.cur (.refl _) ⟨trivial,rfl⟩ rfl ?_
  refine FinK.ex (⟨[],s.classes⟩) ?hq19 ?_
  case hq19=>exact⟨⟨Nat.zero_le _,fun y hy=>nomatch hy⟩,hsx.2⟩
  refine FinK.cell1 ?_ ?_ ?_
  all_goals try refine amF ?_
  all_goals try exact amT
  exact ALe.of (.inl rfl) rfl (fun i hi=>by omega)
 ·refine FinK.cur (.refl _) ⟨trivial,rfl⟩ rfl ?_
  refine FinK.ex (⟨s.attrs,s.classes.take 1⟩) ?hq20 ?_
  case hq20=>exact⟨hsx.1,⟨by simp;omega,fun y hy=>hsx.2.2 y (List.mem_of_mem_take hy)⟩⟩
  refine FinK.cell1 ?_ ?_ ?_
  all_goals try refine amF ?_
  all_goals try exact amT
  refine ALe.of (.inl rfl) (by simp;omega) (fun i hi j hj=>?_)
  obtain rfl:i=0:=by omega
  obtain rfl:j=0:=by omega
  have e:(s.classes.take 1).getD 0 []=s.classes.getD 0 []:=by cases s.classes<;>rfl
  show ALe (.str (s.classes.getD 0 [])) (.str ((s.classes.take 1).getD 0 []))
  rw[e]
  exact .refl _
 ·refine FinK.cur (.refl _) ⟨trivial,rfl⟩ rfl ?_
  refine FinK.ex (s) ?hq21 ?_
  case hq21=>exact hsx
  refine FinK.cell1 ?_ ?_ ?_
  all_goals try refine amF ?_
  all_goals try exact amT
end Go.AM
namespace Go.AM
set_option maxHeartbeats 64000000
open Go Go.Proofs
set_option maxRecDepth 100000
theorem spec_l23Conf (nb:Nat) (hn:nb≤2^40):ACur Tryz.prog 87 nb [] (fun r=>∃x:DConf,(okConf (2^10) x∧x.schema.attrs.length≤5∧1≤x.schema.classes.length)∧r=.val (.agg (cConf true true x))):=by
 have nt:Tryz.f87.ntmps=44:=rfl
 have rs:Tryz.f87.results=#[.cell 2 64]:=rfl
 refine ACur.of_run (m:=400) mixed Tryz.func87 rfl rfl (Nat.le_of_ble_eq_true rfl) (fun xc=>?_)
 simp only[nt,rs]
 clear nt rs
 (try refine am ?_);(try exact amT)
 refine CallK.cur (spec_l5Right nb hn) rfl rfl rfl (fun _ _ _=>amC) ?_
 rintro s ⟨hs,hs1,hs2,hs3⟩
 (try refine am ?_);(try exact amT)
 repeat' with_reducible first|apply zA|intro _
 all_goals try exact amA
 refine CallK.cur (spec_l12Right nb hn) rfl rfl rfl (fun _ _ _=>amC) ?_
 rintro x hx
 (try refine am ?_);(try exact amT)
 have hx6:okRule (2^47) x:=⟨inK6 (by omega),inK6 (by omega),inK6 (by omega),inK6 (by omega),inK6 (by omega),inK6 (by omega),trivial⟩
 have hxt:=hx6.2.1
 have hxu:=hx6.2.2.2.2.2.1
 clear hx
 repeat' with_reducible first|apply zA|intro _
 all_goals try exact amA
 refine CallK.cur (spec_l1Once nb hn 2) rfl rfl rfl (fun _ _ _=>amC) ?_
 rintro b hb
 (try refine am ?_);(try exact amT)
 repeat' with_reducible first|apply zA|intro _
 all_goals try exact amA
 ·refine CallK.cur (spec_l1PickInt nb hn true (some false) [4,10] (by simp) (by simp)) rfl rfl rfl (fun _ _ _=>amC) ?_
  rintro g hg
  (try refine am ?_);(try exact amT)
  have hg2: -9223372036854775808≤g∧g≤9223372036854775807:=by simp at hg;omega
  clear hg
  repeat' with_reducible first|apply zA|intro _
  all_goals try exact amA
  refine CallCE.cur (spec_l1Below nb hn 3) rfl (0) ?hcq rfl rfl rfl (fun _ _ _=>amC) (fun _=>rfl) (fun _=>rfl) ?_
  case hcq=>exact by omega
  rintro a ha
  (try refine am ?_);(try exact amT)
  have ha2:0≤a∧a≤2:=by omega
  clear ha
  repeat' with_reducible first|apply zA|intro _
  all_goals try exact amA
  refine CallCE.cur (spec_l1Below nb hn _) rfl (0) ?hcq rfl rfl rfl (fun _ _ _=>amC) (fun _=>rfl) (fun _=>rfl) ?_
  case hcq=>exact by omega
  rintro p hp
  (try refine am ?_);(try exact amT)
  have hp2:0≤p∧p≤4:=by omega
  clear hp
  repeat' with_reducible first|apply zA|intro _
  all_goals try exact amA
  refine CallCE.cur (spec_l1PickInt nb hn true (some false) [1,6,6] (by simp) (by simp)) rfl (1) ?hcq rfl rfl rfl (fun _ _ _=>amC) (fun _=>rfl) (fun _=>rfl) ?_
  case hcq=>exact by simp
  rintro l hl
  (try refine am ?_);(try exact amT)
  have hl2:1≤l∧l≤6:=by simp at hl;omega
  clear hl
  repeat' with_reducible first|apply zA|intro _
  all_goals try exact amA
  refine CallCE.cur (spec_l1Below nb hn 2) rfl (0) ?hcq rfl rfl rfl (fun _ _ _=>amC) (fun _=>rfl) (fun _=>rfl) ?_
  case hcq=>exact by omega
  rintro w hw
  (try refine am ?_);(try exact amT)
  have hw2:0≤w∧w≤1:=by omega
  clear hw
  repeat' with_reducible first|apply zA|intro _
  all_goals try exact amA
  refine CallCE.cur (spec_l1Below nb hn 3) rfl (0) ?hcq rfl rfl rfl (fun _ _ _=>amC) (fun _=>rfl) (fun _=>rfl) ?_
  case hcq=>exact by omega
  rintro d hd
  (try refine am ?_);(try exact amT)
  have hd2:0≤d∧d≤2:=by omega
  clear hd
  repeat' with_reducible first|apply zA|intro _
  all_goals try exact amA
  refine FinK.cur (.refl _) ⟨trivial,rfl⟩ (by kernel_rfl) ?_
  refine FinK.ex (⟨s,⟨1,x.tie,g,6,31,x.units,x.two⟩,1+a,1+p,l,1+w,1+w+d⟩) ?hq1 ?_
  case hq1=>exact⟨⟨hs,⟨inK6 (by dsimp only;omega),hxt,inK6 hg2,inK6 (by dsimp only;omega),inK6 (by dsimp only;omega),hxu,trivial⟩,inK6 (by dsimp only;omega),inK6 (by dsimp only;omega),inK6 (by dsimp only;omega),inK6 (by dsimp only;omega),inK6 (by dsimp only;omega)⟩,hs2,hs3⟩
  refine FinK.cell1 ?_ ?_ ?_
  all_goals try refine amF ?_
  all_goals try exact amT
 ·skip
  refine CallCE.cur (spec_l1Below nb hn 3) rfl (0) ?hcq rfl rfl rfl (fun _ _ _=>amC) (fun _=>rfl) (fun _=>rfl) ?_
  case hcq=>exact by omega
  rintro a ha
  (try refine am ?_);(try exact amT)
  have ha2:0≤a∧a≤2:=by omega
  clear ha
  repeat' with_reducible first|apply zA|intro _
  all_goals try exact amA
  refine CallCE.cur (spec_l1Below nb hn _) rfl (0) ?hcq rfl rfl rfl (fun _ _ _=>amC) (fun _=>rfl) (fun _=>rfl) ?_
  case hcq=>exact by omega
  rintro p hp
  (try refine am ?_);(try exact amT)
  have hp2:0≤p∧p≤4:=by omega
  clear hp
  repeat' with_reducible first|apply zA|intro _
  all_goals try exact amA
  refine CallCE.cur (spec_l1PickInt nb hn true (some false) [1,6,6] (by simp) (by simp)) rfl (1) ?hcq rfl rfl rfl (fun _ _ _=>amC) (fun _=>rfl) (fun _=>rfl) ?_
  case hcq=>exact by simp
  rintro l hl
  (try refine am ?_);(try exact amT)
  have hl2:1≤l∧l≤6:=by simp at hl;omega
  clear hl
  repeat' with_reducible first|apply zA|intro _
  all_goals try exact amA
  refine CallCE.cur (spec_l1Below nb hn 2) rfl (0) ?hcq rfl rfl rfl (fun _ _ _=>amC) (fun _=>rfl) (fun _=>rfl) ?_
  case hcq=>exact by omega
  rintro w hw
  (try refine am ?_);(try exact amT)
  have hw2:0≤w∧w≤1:=by omega
  clear hw
  repeat' with_reducible first|apply zA|intro _
  all_goals try exact amA
  refine CallCE.cur (spec_l1Below nb hn 3) rfl (0) ?hcq rfl rfl rfl (fun _ _ _=>amC) (fun _=>rfl) (fun _=>rfl) ?_
  case hcq=>exact by omega
  rintro d hd
  (try refine am ?_);(try exact amT)
  have hd2:0≤d∧d≤2:=by omega
  clear hd
  repeat' with_reducible first|apply zA|intro _
  all_goals try exact amA
  refine FinK.cur (.refl _) ⟨trivial,rfl⟩ (by kernel_rfl) ?_
  refine FinK.ex (⟨s,x,1+a,1+p,l,1+w,1+w+d⟩) ?hq2 ?_
  case hq2=>exact⟨⟨hs,hx6,inK6 (by dsimp only;omega),inK6 (by dsimp only;omega),inK6 (by dsimp only;omega),inK6 (by dsimp only;omega),inK6 (by dsimp only;omega)⟩,hs2,hs3⟩
  refine FinK.cell1 ?_ ?_ ?_
  all_goals try refine amF ?_
  all_goals try exact amT
theorem okConf_up {A B:Nat} {x:DConf} (h:okConf A x) (hB:A≤B:=by decide):okConf B x:=⟨okSchema_up h.1 hB,h.2⟩
theorem spec_l23Bent (nb:Nat) (hn:nb≤2^40):ACur Tryz.prog 89 nb [] (fun r=>∃x:DConf,okConf (2^11) x∧r=.val (.agg (cConf true true x))):=by
 have nt:Tryz.f89.ntmps=49:=rfl
 have rs:Tryz.f89.results=#[.cell 2 64]:=rfl
 refine ACur.of_run (m:=400) mixed Tryz.func89 rfl rfl (Nat.le_of_ble_eq_true rfl) (fun xc=>?_)
 simp only[nt,rs]
 clear nt rs
 (try refine am ?_);(try exact amT)
 refine CallK.cur (spec_l23Conf nb hn) rfl rfl rfl (fun _ _ _=>amC) ?_
 rintro x ⟨hx0,hx1,hx2⟩
 (try refine am ?_);(try exact amT)
 have hx:okConf (2^11) x:=okConf_up hx0
 repeat' with_reducible first|apply zA|intro _
 all_goals try exact amA
 refine CallK.cur (spec_l1Below nb hn 16) rfl rfl rfl (fun _ _ _=>amC) ?_
 rintro z ⟨hz0,hz1⟩
 (try refine am ?_);(try exact amT)
 repeat' with_reducible first|apply zA|intro _
 all_goals try exact amA
 ·refine CallK.cur (spec_l1PickInt nb hn true (some false) [0,4,5] (by simp) (by simp)) rfl rfl rfl (fun _ _ _=>amC) ?_
  rintro a ha
  (try refine am ?_);(try exact amT)
  have hak:inK .i64 a:=inK6 (by simp at ha;omega)
  repeat' with_reducible first|apply zA|intro _
  all_goals try exact amA
  refine FinK.cur (.refl _) ⟨trivial,rfl⟩ (by kernel_rfl) ?_
  refine FinK.ex (⟨x.schema,x.rule,a,x.pick,x.lambda,x.warn,x.drift⟩) ?hq3 ?_
  case hq3=>exact⟨hx.1,hx.2.1,hak,hx.2.2.2.1,hx.2.2.2.2.1,hx.2.2.2.2.2.1,hx.2.2.2.2.2.2⟩
  refine FinK.cell1 ?_ ?_ ?_
  all_goals try refine amF ?_
  all_goals try exact amT
 ·refine CallK.cur (spec_l1PickInt nb hn true (some false) [0,6,5] (by simp) (by simp)) rfl rfl rfl (fun _ _ _=>amC) ?_
  rintro a ha
  (try refine am ?_);(try exact amT)
  have hak:inK .i64 a:=inK6 (by simp at ha;omega)
  repeat' with_reducible first|apply zA|intro _
  all_goals try exact amA
  refine FinK.cur (.refl _) ⟨trivial,rfl⟩ (by kernel_rfl) ?_
  refine FinK.ex (⟨x.schema,x.rule,x.members,a,x.lambda,x.warn,x.drift⟩) ?hq4 ?_
  case hq4=>exact⟨hx.1,hx.2.1,hx.2.2.1,hak,hx.2.2.2.2.1,hx.2.2.2.2.2.1,hx.2.2.2.2.2.2⟩
  refine FinK.cell1 ?_ ?_ ?_
  all_goals try refine amF ?_
  all_goals try exact amT
 ·refine CallK.cur (spec_l1PickInt nb hn true (some false) [0,2] (by simp) (by simp)) rfl rfl rfl (fun _ _ _=>amC) ?_
  rintro a ha
  (try refine am ?_);(try exact amT)
  have hak:inK .i64 a:=inK6 (by simp at ha;omega)
  repeat' with_reducible first|apply zA|intro _
  all_goals try exact amA
  refine FinK.cur (.refl _) ⟨trivial,rfl⟩ (by kernel_rfl) ?_
  refine FinK.ex (⟨x.schema,x.rule,x.members,x.pick,a,x.warn,x.drift⟩) ?hq5 ?_
  case hq5=>exact⟨hx.1,hx.2.1,hx.2.2.1,hx.2.2.2.1,hak,hx.2.2.2.2.2.1,hx.2.2.2.2.2.2⟩
  refine FinK.cell1 ?_ ?_ ?_
  all_goals try refine amF ?_
  all_goals try exact amT
 ·refine CallK.cur (spec_l1PickInt nb hn true (some false) [0,9,10] (by simp) (by simp)) rfl rfl rfl (fun _ _ _=>amC) ?_
  rintro a ha
  (try refine am ?_);(try exact amT)
  have hak:inK .i64 a:=inK6 (by simp at ha;omega)
  repeat' with_reducible first|apply zA|intro _
  all_goals try exact amA
  refine FinK.cur (.refl _) ⟨trivial,rfl⟩ (by kernel_rfl) ?_
  refine FinK.ex (⟨x.schema,x.rule,x.members,x.pick,x.lambda,a,x.drift⟩) ?hq6 ?_
  case hq6=>exact⟨hx.1,hx.2.1,hx.2.2.1,hx.2.2.2.1,hx.2.2.2.2.1,hak,hx.2.2.2.2.2.2⟩
  refine FinK.cell1 ?_ ?_ ?_
  all_goals try refine amF ?_
  all_goals try exact amT
 ·refine CallK.cur (spec_l1PickInt nb hn true (some false) [0,9,10] (by simp) (by simp)) rfl rfl rfl (fun _ _ _=>amC) ?_
  rintro a ha
  (try refine am ?_);(try exact amT)
  have hak:inK .i64 a:=inK6 (by simp at ha;omega)
  repeat' with_reducible first|apply zA|intro _
  all_goals try exact amA
  refine FinK.cur (.refl _) ⟨trivial,rfl⟩ (by kernel_rfl) ?_
  refine FinK.ex (⟨x.schema,x.rule,x.members,x.pick,x.lambda,x.warn,a⟩) ?hq7 ?_
  case hq7=>exact⟨hx.1,hx.2.1,hx.2.2.1,hx.2.2.2.1,hx.2.2.2.2.1,hx.2.2.2.2.2.1,hak⟩
  refine FinK.cell1 ?_ ?_ ?_
  all_goals try refine amF ?_
  all_goals try exact amT
 ·refine CallK.cur (spec_l12Draw nb hn) rfl rfl rfl (fun _ _ _=>amC) ?_
  rintro a ha
  (try refine am ?_);(try exact amT)
  repeat' with_reducible first|apply zA|intro _
  all_goals try exact amA
  refine FinK.cur (.refl _) ⟨trivial,rfl⟩ (by kernel_rfl) ?_
  refine FinK.ex (⟨x.schema,a,x.members,x.pick,x.lambda,x.warn,x.drift⟩) ?hq8 ?_
  case hq8=>exact⟨hx.1,ha,hx.2.2.1,hx.2.2.2.1,hx.2.2.2.2.1,hx.2.2.2.2.2.1,hx.2.2.2.2.2.2⟩
  refine FinK.cell1 ?_ ?_ ?_
  all_goals try refine amF ?_
  all_goals try exact amT
 ·refine CallK.cur (spec_l5Draw nb hn) rfl rfl rfl (fun _ _ _=>amC) ?_
  rintro a ha
  (try refine am ?_);(try exact amT)
  repeat' with_reducible first|apply zA|intro _
  all_goals try exact amA
  refine FinK.cur (.refl _) ⟨trivial,rfl⟩ (by kernel_rfl) ?_
  refine FinK.ex (⟨a,x.rule,x.members,x.pick,x.lambda,x.warn,x.drift⟩) ?hq9 ?_
  case hq9=>exact⟨ha,hx.2.1,hx.2.2.1,hx.2.2.2.1,hx.2.2.2.2.1,hx.2.2.2.2.2.1,hx.2.2.2.2.2.2⟩
  refine FinK.cell1 ?_ ?_ ?_
  all_goals try refine amF ?_
  all_goals try exact amT
 ·refine FinK.cur (.refl _) ⟨trivial,rfl⟩ (by kernel_rfl) ?_
  refine FinK.ex (x) ?hq10 ?_
  case hq10=>exact hx
  refine FinK.cell1 ?_ ?_ ?_
  all_goals try refine amF ?_
  all_goals try exact amT
theorem spec_l23Stream (nb:Nat) (hn:nb≤2^40) (c:DConf) (i t:Int) (u v:Bool) (hs:okSchema (2^20) c.schema) (hc:1≤c.schema.classes.length):ACur Tryz.prog 157 nb [.agg (cConf u v c),.one (.int .i64 i),.one (.int .i64 t)] (fun r=>∃x:DEx,okEx (2^20) x∧r=.val (.agg (cEx true true x))):=by
 have hcl:=hs.2.1
 have nt:Tryz.f157.ntmps=27:=rfl
 have rs:Tryz.f157.results=#[.cell 8 50]:=rfl
 refine ACur.of_run (m:=400) mixed Tryz.func157 rfl rfl (Nat.le_of_ble_eq_true rfl) (fun xc=>?_)
 simp only[nt,rs]
 clear nt rs
 (try refine am ?_);(try exact amT)
 refine CallK.cur (spec_l7Right nb hn c.schema _ _ hs) rfl rfl rfl (fun _ _ _=>amC) ?_
 rintro e ⟨he,he1,he2,he3⟩
 (try refine am ?_);(try exact amT)
 have h1:=Int.emod_nonneg (e.cls+1) (show (c.schema.classes.length:Int)≠0 by omega)
 have h2:=Int.emod_lt_of_pos (e.cls+1) (show 0<(c.schema.classes.length:Int) by omega)
 have h3:=Int.tmod_eq_emod_of_nonneg (show 0≤e.cls+1 by omega) (b:=(c.schema.classes.length:Int))
 repeat' with_reducible first|apply zA|intro _
 all_goals try exact amA
 ·refine FinK.cur (.refl _) ⟨trivial,rfl⟩ (by kernel_rfl) ?_
  refine FinK.ex (⟨e.bins,(e.cls+1).tmod (c.schema.classes.length:Int)⟩) ?hq11 ?_
  case hq11=>exact⟨he.1,inK6 (by dsimp only;omega)⟩
  refine FinK.cell1 ?_ ?_ ?_
  all_goals try refine amF ?_
  all_goals try exact amT
 ·refine FinK.cur (.refl _) ⟨trivial,rfl⟩ (by kernel_rfl) ?_
  refine FinK.ex (e) ?hq12 ?_
  case hq12=>exact he
  refine FinK.cell1 ?_ ?_ ?_
  all_goals try refine amF ?_
  all_goals try exact amT
end Go.AM
