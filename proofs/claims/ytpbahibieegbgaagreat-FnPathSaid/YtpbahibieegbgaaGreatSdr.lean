/- Lemmas for the proof of this claim. -/
import Derived.Test.YtpbahibieegbgaaGreatDr1
import Derived.Test.YtpbahibieegbgaaGreatSch
import Derived.Test.YtpbahibieegbgaaGreatFrk
import Derived.Test.YtpbahibieegbgaaGreatCln
import Derived.Test.YtpbahibieegbgaaGreatPth
namespace Go.AM
set_option maxHeartbeats 64000000
open Go Go.Proofs
set_option maxRecDepth 100000
theorem boxLe3 {F G:Nat→Nat→AV} (h0:ALe (F 0 0) (G 0 0)) (h1:ALe (F 0 1) (G 0 1)) (h2:ALe (F 0 2) (G 0 2)):ALe (.sl true none 3 1 F) (.sl true none 3 1 G):=by
 refine ALe.of (.inl rfl) rfl (fun i hi j hj=>?_)
 obtain rfl:i=0:=by omega
 rcases (show j=0∨j=1∨j=2 by omega) with rfl|rfl|rfl
 ·exact h0
 ·exact h1
 ·exact h2
theorem appS {row:List (List UInt8)} {x:List UInt8} {nl:Option Bool} {n:Nat} (hn:n=row.length+1):ALe (.sl true nl 1 n (apF row.length (fS row) (rowsF [[.str x]]))) (.sl true none 1 (row++[x]).length (fS (row++[x]))):=by
 subst hn
 exact appLe1 rfl rfl (.inl rfl)
theorem okI_of {B:Nat} {l:List Int} {lo hi:Int} (hl:l.length≤B) (h:∀y∈l,lo≤y∧y≤hi) (h1: -9223372036854775808≤lo) (h2:hi≤9223372036854775807):okI B l:=⟨hl,fun y hy=>by
 have:=h y hy
 exact⟨by show (-9223372036854775808:Int)≤y;omega,by show y≤(9223372036854775807:Int);omega⟩⟩
def vlA (i:Nat):List UInt8:=[[114,101,100],[98,108,117,101],[120],[103,114,101,101,110]].getD i []
theorem vlA_row (i:Nat) (hi:i<4):rowsF [[.str [114,101,100]],[.str [98,108,117,101]],[.str [120]],[.str [103,114,101,101,110]]] i 0=.str (vlA i)∧(vlA i).length≤8:=by
 rcases (show i=0∨i=1∨i=2∨i=3 by omega) with rfl|rfl|rfl|rfl<;>exact⟨rfl,by decide⟩
def nmA (i:Nat):List UInt8:=[[97,103,101],[115,105,122,101],[99,111,108,111,117,114],[107],[108,111,110,103,110,97,109,101]].getD (i % 5) []
theorem nmA_row (i:Nat):rowsF [[.str [97,103,101]],[.str [115,105,122,101]],[.str [99,111,108,111,117,114]],[.str [107]],[.str [108,111,110,103,110,97,109,101]]] (((i:Int).tmod 5).toNat) 0=.str (nmA i)∧(0≤(i:Int).tmod 5∧(i:Int).tmod 5<5)∧(nmA i).length≤8:=by
 have e:(i:Int).tmod 5=((i % 5:Nat):Int):=rfl
 rw[e,Int.toNat_natCast]
 unfold nmA
 have:i % 5<5:=Nat.mod_lt _ (by decide)
 generalize i % 5=k at *
 rcases (show k=0∨k=1∨k=2∨k=3∨k=4 by omega) with rfl|rfl|rfl|rfl|rfl<;>exact⟨rfl,⟨by decide,by decide⟩,by decide⟩
theorem spec_l5RightAttr (nb:Nat) (hn:nb≤2^40) (i:Nat) (_:i≤100):ACur Tryz.prog 97 nb [.one (.int .i64 i)] (fun r=>∃x:DAttr,okAttr (2^10) x∧r=.val (.agg (cAttr true true x))):=by
 obtain⟨hrow,hix,hnl⟩:=nmA_row i
 have nt:Tryz.f97.ntmps=60:=rfl
 have rs:Tryz.f97.results=#[.cell 4 116]:=rfl
 refine ACur.of_run (m:=400) mixed Tryz.func97 rfl rfl (Nat.le_of_ble_eq_true rfl) (fun xc=>?_)
 simp only[nt,rs]
 clear nt rs
 (try refine am ?_);(try exact amT)
 (try refine am ?_);(try simp only[hrow]);(try refine am ?_);(try exact amT)
 repeat' with_reducible first|apply zA|intro _
 all_goals try exact amA
 refine CallK.cur (spec_l1Once nb hn 2) rfl rfl rfl (fun _ _ _=>amC) ?_
 rintro b hb
 (try refine am ?_);(try exact amT)
 repeat' with_reducible first|apply zA|intro _
 all_goals try exact amA
 ·refine CallK.cur (spec_l1Below nb hn 3) rfl rfl rfl (fun _ _ _=>amC) ?_
  rintro n ⟨hn0,hn1⟩
  (try refine am ?_);(try exact amT)
  repeat' with_reducible first|apply zA|intro _
  all_goals try exact amA
  refine CallK.cur (spec_l1PickInt nb hn true (some false) [-9999,-7,0,3,20] (by simp) (by simp)) rfl rfl rfl (fun _ _ _=>amC) ?_
  rintro at0 hat
  (try refine am ?_);(try exact amT)
  have hat2: -9999≤at0∧at0≤20:=by simp at hat;omega
  repeat' with_reducible first|apply zA|intro _
  all_goals try exact amA
  refine LoopK.auto ((List Int×Nat×Int)) (fun x=>[(8,.one (.av (.int .i64 x.2.1))),(7,.one (.av (.int .i64 x.2.2))),(5,.one (.ref 302 [] [0] 0 0))]) (fun x=>[(302,⟨.sl true none 3 1 (fun _ j=>gl .junk (cAttr true true ⟨nmA i,x.1,[]⟩) j),[]⟩)]) [0,4,6] (k0:=?k01) (keepH:=?kh1) 500 (fun x=>(x.1.length=x.2.1∧(x.2.1:Int)≤1+n)∧(-9999≤x.2.2∧x.2.2≤20+10*x.2.1)∧∀y∈x.1,-9999≤y∧y≤1000) (fun x=>(1+n).toNat - x.2.1) (([],0,at0)) ?kea1 ?keb1 ?_ ?_ ?_
  case kea1=>exact amN
  case keb1=>exact amN
  ·exact⟨⟨rfl,by simp only[Int.natCast_zero];omega⟩,by simp only[Int.natCast_zero];omega,fun y hy=>by simp at hy⟩
  ·refine LeA [] ?_ ?_ ?_
   all_goals try refine amL ?_
   all_goals try exact amT
   refine boxLe3 ?_ ?_ ?_<;>rw[if_pos (by decide)]
   ·exact .refl _
   ·exact ALe.nil ..
   ·exact ALe.nil ..
  ·rintro⟨l,j,at1⟩ ⟨⟨hl,hj⟩,ha,hb2⟩
   dsimp only at hl hj ha hb2 ⊢
   (try refine am ?_);(try exact amT)
   repeat' with_reducible first|apply zA|intro _
   all_goals try exact amA
   ·refine CallK.cur (spec_l1Below nb hn 6) rfl rfl rfl (fun _ _ _=>amC) ?_
    rintro z ⟨hz0,hz1⟩
    (try refine am ?_);(try exact amT)
    repeat' with_reducible first|apply zA|intro _
    all_goals try exact amA
    refine⟨(l++[at1],j+1,at1+1+z),?_,⟨⟨by simp[hl],by simp only[Int.natCast_add,Int.natCast_one];omega⟩,by simp only[Int.natCast_add,Int.natCast_one];omega,fun y hy=>?_⟩,by simp only;omega⟩
    ·refine LeA [] ?_ ?_ ?_
     all_goals try refine amL ?_
     all_goals try exact amT
     refine boxLe3 ?_ ?_ ?_
     ·exact .refl _
     ·exact appIntD rfl
     ·exact .refl _
    ·rcases mem_app1 hy with h|h
     ·exact hb2 y h
     ·subst h;omega
   ·refine FinK.cur (.refl _) ⟨trivial,rfl⟩ rfl ?_
    refine FinK.ex (⟨nmA i,l,[]⟩) ?hq1 ?_
    case hq1=>exact⟨by simp only;omega,okI_of (lo:= -9999) (hi:=1000) (by simp only;omega) hb2 (by decide) (by decide),by simp,fun y hy=>by simp at hy⟩
    refine FinK.cell1 ?_ ?_ ?_
    all_goals try refine amF ?_
    all_goals try exact amT
 ·refine CallK.cur (spec_l1Below nb hn 3) rfl rfl rfl (fun _ _ _=>amC) ?_
  rintro n ⟨hn0,hn1⟩
  (try refine am ?_);(try exact amT)
  repeat' with_reducible first|apply zA|intro _
  all_goals try exact amA
  refine LoopK.intro ((List (List UInt8)×Nat)) (fun x=>[(10,.one (.av (.int .i64 x.2))),(5,.one (.ref 302 [] [0] 0 0)),(0,.one (.ref 1 [] [0] 0 0))]) (fun x=>[(302,⟨.sl true none 3 1 (fun _ j=>gl .junk (cAttr true true ⟨nmA i,[],x.1⟩) j),[]⟩)]) [4,9] [5,1] 500 (fun x=>(x.1.length=x.2∧(x.2:Int)≤2+n)∧∀y∈x.1,y.length≤8) (fun x=>(2+n).toNat - x.2) (([],0)) ?_ ?_ ?_
  ·exact⟨⟨rfl,by simp only[Int.natCast_zero];omega⟩,fun y hy=>by simp at hy⟩
  ·refine LeA [] ?_ ?_ ?_
   all_goals try refine amL ?_
   all_goals try exact amT
   refine boxLe3 ?_ ?_ ?_<;>rw[if_pos (by decide)]
   ·exact .refl _
   ·exact ALe.nil ..
   ·exact ALe.nil ..
  ·rintro⟨l,j⟩ ⟨⟨hl,hj⟩,hb2⟩
   dsimp only at hl hj hb2 ⊢
   by_cases hlt:(j:Int)<2+n
   ·obtain⟨hv,hvl⟩:=vlA_row j (by omega)
    (try refine am ?_);(try simp only[hv]);(try refine am ?_);(try exact amT)
    repeat' with_reducible first|apply zA|intro _
    all_goals try exact amA
    refine⟨(l++[vlA j],j+1),?_,⟨⟨by simp[hl],by simp only[Int.natCast_add,Int.natCast_one];omega⟩,fun y hy=>?_⟩,by simp only;omega⟩
    ·refine LeA [] ?_ ?_ ?_
     all_goals try refine amL ?_
     all_goals try exact amT
     refine boxLe3 ?_ ?_ ?_
     ·exact .refl _
     ·exact .refl _
     ·exact appS rfl
    ·rcases List.mem_append.1 hy with h|h
     ·exact hb2 y h
     ·have:y=vlA j:=by simpa using h
      subst this;exact hvl
   ·(try refine am ?_);(try exact amT)
    repeat' with_reducible first|apply zA|intro _
    all_goals try exact amA
    refine FinK.cur (.refl _) ⟨trivial,rfl⟩ rfl ?_
    refine FinK.ex (⟨nmA i,[],l⟩) ?hq2 ?_
    case hq2=>exact⟨by simp only;omega,⟨Nat.zero_le _,fun y hy=>by simp at hy⟩,by simp only;omega,fun y hy=>by have:=hb2 y hy;omega⟩
    refine FinK.cell1 ?_ ?_ ?_
    all_goals try refine amF ?_
    all_goals try exact amT
theorem boxL2 {F G:Nat→Nat→AV} (h0:ALe (F 0 0) (G 0 0)) (h1:ALe (F 0 1) (G 0 1)):ALe (.sl true none 2 1 F) (.sl true none 2 1 G):=by
 refine ALe.of (.inl rfl) rfl (fun i hi j hj=>?_)
 obtain rfl:i=0:=by omega
 rcases (show j=0∨j=1 by omega) with rfl|rfl
 ·exact h0
 ·exact h1
theorem cls3:okS (2^10) [[110,111],[121,101,115],[112,101,114,104,97,112,115]]:=by unfold okS;decide
theorem cls2:okS (2^10) [[110,111],[121,101,115]]:=by unfold okS;decide
theorem spec_l5Right (nb:Nat) (hn:nb≤2^40):ACur Tryz.prog 37 nb [] (fun r=>∃x:DSchema,(okSchema (2^10) x∧1≤x.attrs.length∧x.attrs.length≤5∧1≤x.classes.length)∧r=.val (.agg (cSchema true true x))):=by
 have nt:Tryz.f37.ntmps=32:=rfl
 have rs:Tryz.f37.results=#[.cell 2 27]:=rfl
 refine ACur.of_run (m:=400) mixed Tryz.func37 rfl rfl (Nat.le_of_ble_eq_true rfl) (fun xc=>?_)
 simp only[nt,rs]
 clear nt rs
 (try refine am ?_);(try exact amT)
 repeat' with_reducible first|apply zA|intro _
 all_goals try exact amA
 refine CallK.cur (spec_l1Once nb hn 3) rfl rfl rfl (fun _ _ _=>amC) ?_
 rintro b hb
 (try refine am ?_);(try exact amT)
 repeat' with_reducible first|apply zA|intro _
 all_goals try exact amA
 ·refine CallK.cur (spec_l1Below nb hn 5) rfl rfl rfl (fun _ _ _=>amC) ?_
  rintro n ⟨hn0,hn1⟩
  (try refine am ?_);(try exact amT)
  repeat' with_reducible first|apply zA|intro _
  all_goals try exact amA
  refine LoopK.auto ((List DAttr×Nat)) (fun x=>[(5,.one (.av (.int .i64 x.2))),(3,.one (.ref 302 [] [0] 0 0))]) (fun x=>[(302,⟨.sl true none 2 1 (fun _ j=>gl .junk (cSchema true true ⟨x.1,[[110,111],[121,101,115],[112,101,114,104,97,112,115]]⟩) j),[]⟩)]) [0,2,4] (k0:=?k02) (keepH:=?kh2) 500 (fun x=>(x.1.length=x.2∧(x.2:Int)≤1+n)∧∀y∈x.1,okAttr (2^10) y) (fun x=>(1+n).toNat - x.2) (([],0)) ?kea2 ?keb2 ?_ ?_ ?_
  case kea2=>exact amN
  case keb2=>exact amN
  ·exact⟨⟨rfl,by simp only[Int.natCast_zero];omega⟩,fun y hy=>by simp at hy⟩
  ·refine LeA [] ?_ ?_ ?_
   all_goals try refine amL ?_
   all_goals try exact amT
   refine boxL2 ?_ ?_
   ·exact ALe.nil ..
   ·refine ALe.of (.inl rfl) rfl (fun i hi j hj=>?_)
    obtain rfl:j=0:=by omega
    rcases (show i=0∨i=1∨i=2 by omega) with rfl|rfl|rfl<;>first|exact .refl _|exact absurd hi (by decide)
  ·rintro⟨l,i⟩ ⟨⟨hl,hi⟩,hb2⟩
   dsimp only at hl hi hb2 ⊢
   (try refine am ?_);(try exact amT)
   repeat' with_reducible first|apply zA|intro _
   all_goals try exact amA
   ·refine CallCE.cur (spec_l5RightAttr nb hn i (by omega)) rfl (⟨[],[],[]⟩) ?hcq rfl rfl rfl (fun _ _ _=>amC) (fun _=>rfl) (fun _=>rfl) ?_
    case hcq=>exact⟨Nat.zero_le _,⟨Nat.zero_le _,fun y hy=>by simp at hy⟩,Nat.zero_le _,fun y hy=>by simp at hy⟩
    rintro x hx
    (try refine am ?_);(try exact amT)
    repeat' with_reducible first|apply zA|intro _
    all_goals try exact amA
    refine⟨(l++[x],i+1),?_,⟨⟨by simp[hl],by simp only[Int.natCast_add,Int.natCast_one];omega⟩,fun y hy=>?_⟩,by simp only;omega⟩
    ·refine LeA [] ?_ ?_ ?_
     all_goals try refine amL ?_
     all_goals try exact amT
     refine boxL2 ?_ ?_
     ·exact appLe1 rfl rfl (.inl rfl)
     ·exact .refl _
    ·rcases List.mem_append.1 hy with h|h
     ·exact hb2 y h
     ·have:y=x:=by simpa using h
      subst this;exact hx
   ·refine FinK.cur (.refl _) ⟨trivial,rfl⟩ rfl ?_
    refine FinK.ex (⟨l,[[110,111],[121,101,115],[112,101,114,104,97,112,115]]⟩) ?hq3 ?_
    case hq3=>exact⟨⟨⟨by simp only;omega,hb2⟩,cls3⟩,by simp only;omega,by simp only;omega,by simp⟩
    refine FinK.cell1 ?_ ?_ ?_
    all_goals try refine amF ?_
    all_goals try exact amT
 ·refine CallK.cur (spec_l1Below nb hn 5) rfl rfl rfl (fun _ _ _=>amC) ?_
  rintro n ⟨hn0,hn1⟩
  (try refine am ?_);(try exact amT)
  repeat' with_reducible first|apply zA|intro _
  all_goals try exact amA
  refine LoopK.auto ((List DAttr×Nat)) (fun x=>[(5,.one (.av (.int .i64 x.2))),(3,.one (.ref 302 [] [0] 0 0))]) (fun x=>[(302,⟨.sl true none 2 1 (fun _ j=>gl .junk (cSchema true true ⟨x.1,[[110,111],[121,101,115]]⟩) j),[]⟩)]) [0,2,4] (k0:=?k03) (keepH:=?kh3) 500 (fun x=>(x.1.length=x.2∧(x.2:Int)≤1+n)∧∀y∈x.1,okAttr (2^10) y) (fun x=>(1+n).toNat - x.2) (([],0)) ?kea3 ?keb3 ?_ ?_ ?_
  case kea3=>exact amN
  case keb3=>exact amN
  ·exact⟨⟨rfl,by simp only[Int.natCast_zero];omega⟩,fun y hy=>by simp at hy⟩
  ·refine LeA [] ?_ ?_ ?_
   all_goals try refine amL ?_
   all_goals try exact amT
   refine boxL2 ?_ ?_
   ·exact ALe.nil ..
   ·refine ALe.of (.inl rfl) rfl (fun i hi j hj=>?_)
    obtain rfl:j=0:=by omega
    rcases (show i=0∨i=1∨i=2 by omega) with rfl|rfl|rfl<;>first|exact .refl _|exact absurd hi (by decide)
  ·rintro⟨l,i⟩ ⟨⟨hl,hi⟩,hb2⟩
   dsimp only at hl hi hb2 ⊢
   (try refine am ?_);(try exact amT)
   repeat' with_reducible first|apply zA|intro _
   all_goals try exact amA
   ·refine CallCE.cur (spec_l5RightAttr nb hn i (by omega)) rfl (⟨[],[],[]⟩) ?hcq rfl rfl rfl (fun _ _ _=>amC) (fun _=>rfl) (fun _=>rfl) ?_
    case hcq=>exact⟨Nat.zero_le _,⟨Nat.zero_le _,fun y hy=>by simp at hy⟩,Nat.zero_le _,fun y hy=>by simp at hy⟩
    rintro x hx
    (try refine am ?_);(try exact amT)
    repeat' with_reducible first|apply zA|intro _
    all_goals try exact amA
    refine⟨(l++[x],i+1),?_,⟨⟨by simp[hl],by simp only[Int.natCast_add,Int.natCast_one];omega⟩,fun y hy=>?_⟩,by simp only;omega⟩
    ·refine LeA [] ?_ ?_ ?_
     all_goals try refine amL ?_
     all_goals try exact amT
     refine boxL2 ?_ ?_
     ·exact appLe1 rfl rfl (.inl rfl)
     ·exact .refl _
    ·rcases List.mem_append.1 hy with h|h
     ·exact hb2 y h
     ·have:y=x:=by simpa using h
      subst this;exact hx
   ·refine FinK.cur (.refl _) ⟨trivial,rfl⟩ rfl ?_
    refine FinK.ex (⟨l,[[110,111],[121,101,115]]⟩) ?hq4 ?_
    case hq4=>exact⟨⟨⟨by simp only;omega,hb2⟩,cls2⟩,by simp only;omega,by simp only;omega,by simp⟩
    refine FinK.cell1 ?_ ?_ ?_
    all_goals try refine amF ?_
    all_goals try exact amT
theorem oneI0 {nl:Option Bool}:ALe (.sl true nl 1 1 (rowsF [[.int .i64 0]])) (.sl true none 1 ([0]:List Int).length (fI [0])):=by
 refine ALe.of (.inl rfl) rfl (fun i hi j hj=>?_)
 obtain rfl:j=0:=by omega
 obtain rfl:i=0:=by omega
 exact .refl _
theorem spec_l9RightAttrs (nb:Nat) (hn:nb≤2^40) (x:DSchema) (u v:Bool) (hx:okSchema (2^20) x):ACur Tryz.prog 67 nb [.agg (cSchema u v x)] (fun r=>∃l:List Int,okI (x.attrs.length+1) l∧r=.val (.one (aI true l))):=by
 have hal:=hx.1.1
 have nt:Tryz.f67.ntmps=27:=rfl
 have rs:Tryz.f67.results=#[.tmp 4]:=rfl
 refine ACur.of_run (m:=400) mixed Tryz.func67 rfl rfl (Nat.le_of_ble_eq_true rfl) (fun xc=>?_)
 simp only[nt,rs]
 clear nt rs
 (try refine am ?_);(try exact amT)
 repeat' with_reducible first|apply zA|intro _
 all_goals try exact amA
 refine LoopK.auto ((List Int×Nat)) (fun y=>[(6,.one (.av (.int .i64 y.2))),(5,.one (.own 302 [] [0]))]) (fun y=>[(302,⟨.sl true none 1 y.1.length (fI y.1),[]⟩)]) [0,3] (k0:=?k04) (keepH:=?kh4) 500 (fun y=>(y.1.length≤y.2∧y.2≤x.attrs.length)∧∀z∈y.1,0≤z∧z≤2^20) (fun y=>x.attrs.length - y.2) (([],0)) ?kea4 ?keb4 ?_ ?_ ?_
 case kea4=>exact amN
 case keb4=>exact amN
 ·exact⟨⟨Nat.le_refl _,Nat.zero_le _⟩,fun y hy=>by simp at hy⟩
 ·refine LeA [] ?_ ?_ ?_
  all_goals try refine amL ?_
  all_goals try exact amT
  exact ALe.of (.inl rfl) rfl (fun i hi=>by omega)
 ·rintro⟨l,i⟩ ⟨⟨hl,hi⟩,hb2⟩
  dsimp only at hl hi hb2 ⊢
  (try refine am ?_);(try exact amT)
  repeat' with_reducible first|apply zA|intro _
  all_goals try exact amA
  ·refine CallK.cur (spec_l1Once nb hn 4) rfl rfl rfl (fun _ _ _=>amC) ?_
   rintro b hb
   (try refine am ?_);(try exact amT)
   repeat' with_reducible first|apply zA|intro _
   all_goals try exact amA
   ·refine⟨(l++[(i:Int)],i+1),?_,⟨⟨by simp;omega,by simp only;omega⟩,fun y hy=>?_⟩,by simp only;omega⟩
    ·refine LeA [] ?_ ?_ ?_
     all_goals try refine amL ?_
     all_goals try exact amT
     exact appIntD rfl
    ·rcases mem_app1 hy with h|h
     ·exact hb2 y h
     ·subst h;omega
   ·refine⟨(l,i+1),?_,⟨⟨by simp only;omega,by simp only;omega⟩,hb2⟩,by simp only;omega⟩
    refine LeA [] ?_ ?_ ?_
    all_goals try refine amL ?_
    all_goals try exact amT
  ·refine FinK.cur (.refl _) ⟨trivial,rfl⟩ rfl ?_
   refine FinK.ex ([0]) ?hq5 ?_
   case hq5=>exact⟨by simp,fun y hy=>by simp at hy;subst hy;exact⟨by decide,by decide⟩⟩
   refine FinK.val1 ?_ ?_
   all_goals try refine amF ?_
   all_goals try exact amT
   exact oneI0
  ·refine FinK.cur (.refl _) ⟨trivial,rfl⟩ rfl ?_
   refine FinK.ex (l) ?hq6 ?_
   case hq6=>exact okI_of (lo:=0) (hi:=2^20) (by omega) hb2 (by decide) (by decide)
   refine FinK.val1 ?_ ?_
   all_goals try refine amF ?_
   all_goals try exact amT
theorem spec_l15Bytes (nb:Nat) (hn:nb≤2^40) (n:Nat) (hnn:n≤1000):ACur Tryz.prog 156 nb [.one (.int .i64 n)] (fun r=>∃l:List UInt8,l.length≤1000∧r=.val (.one (aB true l))):=by
 have nt:Tryz.f156.ntmps=20:=rfl
 have rs:Tryz.f156.results=#[.tmp 4]:=rfl
 refine ACur.of_run (m:=400) mixed Tryz.func156 rfl rfl (Nat.le_of_ble_eq_true rfl) (fun xc=>?_)
 simp only[nt,rs]
 clear nt rs
 (try refine am ?_);(try exact amT)
 repeat' with_reducible first|apply zA|intro _
 all_goals try exact amA
 refine LoopK.auto ((List UInt8×Nat)) (fun y=>[(6,.one (.av (.int .i64 y.2))),(5,.one (.own 302 [] [0]))]) (fun y=>[(302,⟨.sl true none 1 y.1.length (fB y.1),[]⟩)]) [0,1] (k0:=?k05) (keepH:=?kh5) 500 (fun y=>y.1.length=y.2∧y.2≤n) (fun y=>n - y.2) (([],0)) ?kea5 ?keb5 ?_ ?_ ?_
 case kea5=>exact amN
 case keb5=>exact amN
 ·exact⟨rfl,Nat.zero_le _⟩
 ·refine LeA [] ?_ ?_ ?_
  all_goals try refine amL ?_
  all_goals try exact amT
  exact ALe.of (.inl rfl) rfl (fun i hi=>by omega)
 ·rintro⟨l,i⟩ ⟨hl,hi⟩
  dsimp only at hl hi ⊢
  (try refine am ?_);(try exact amT)
  repeat' with_reducible first|apply zA|intro _
  all_goals try exact amA
  ·refine CallK.cur (spec_l1Byte nb hn) rfl rfl rfl (fun _ _ _=>amC) ?_
   rintro z hz
   (try refine am ?_);(try exact amT)
   repeat' with_reducible first|apply zA|intro _
   all_goals try exact amA
   have hw:IntKind.u8.wrap z=((UInt8.ofNat z.toNat).toNat:Int):=by
    rw[wrap_inK ⟨by show (0:Int)≤z;omega,by show z≤(255:Int);omega⟩]
    have:(UInt8.ofNat z.toNat).toNat=z.toNat:=by
     rw[UInt8.toNat_ofNat']
     exact Nat.mod_eq_of_lt (by omega)
    omega
   refine⟨(l++[UInt8.ofNat z.toNat],i+1),?_,⟨by simp[hl],by simp only;omega⟩,by simp only;omega⟩
   refine LeA [] ?_ ?_ ?_
   all_goals try refine amL ?_
   all_goals try exact amT
   exact appLe1 rfl (by rw[hw];rfl) (.inl rfl)
  ·refine FinK.cur (.refl _) ⟨trivial,rfl⟩ rfl ?_
   refine FinK.ex (l) ?hq7 ?_
   case hq7=>exact by omega
   refine FinK.val1 ?_ ?_
   all_goals try refine amF ?_
   all_goals try exact amT
theorem spec_l12Right (nb:Nat) (hn:nb≤2^40):ACur Tryz.prog 128 nb [] (fun r=>∃x:DRule,(1≤x.sure∧x.sure≤9∧0≤x.tie∧x.tie≤999∧1≤x.grace∧x.grace≤200∧0≤x.depth∧x.depth≤6∧1≤x.nodes∧x.nodes≤31∧62≤x.units∧x.units≤2000)∧r=.val (.agg (cRule x))):=by
 have nt:Tryz.f128.ntmps=24:=rfl
 have rs:Tryz.f128.results=#[.cell 2 62]:=rfl
 refine ACur.of_run (m:=400) mixed Tryz.func128 rfl rfl (Nat.le_of_ble_eq_true rfl) (fun xc=>?_)
 simp only[nt,rs]
 clear nt rs
 (try refine am ?_);(try exact amT)
 repeat' with_reducible first|apply zA|intro _
 all_goals try exact amA
 refine CallK.cur (spec_l1PickInt nb hn true (some false) [1,1,2,3,9] (by simp) (by simp)) rfl rfl rfl (fun _ _ _=>amC) ?_
 rintro a ha
 (try refine am ?_);(try exact amT)
 repeat' with_reducible first|apply zA|intro _
 all_goals try exact amA
 refine CallK.cur (spec_l1PickInt nb hn true (some false) [0,50,200,500,999] (by simp) (by simp)) rfl rfl rfl (fun _ _ _=>amC) ?_
 rintro b hb
 (try refine am ?_);(try exact amT)
 repeat' with_reducible first|apply zA|intro _
 all_goals try exact amA
 refine CallK.cur (spec_l1PickInt nb hn true (some false) [1,4,10,25,200] (by simp) (by simp)) rfl rfl rfl (fun _ _ _=>amC) ?_
 rintro c hc
 (try refine am ?_);(try exact amT)
 repeat' with_reducible first|apply zA|intro _
 all_goals try exact amA
 refine CallK.cur (spec_l1PickInt nb hn true (some false) [0,1,2,4,6,6] (by simp) (by simp)) rfl rfl rfl (fun _ _ _=>amC) ?_
 rintro d hd
 (try refine am ?_);(try exact amT)
 repeat' with_reducible first|apply zA|intro _
 all_goals try exact amA
 refine CallK.cur (spec_l1PickInt nb hn true (some false) [1,3,7,15,31,31] (by simp) (by simp)) rfl rfl rfl (fun _ _ _=>amC) ?_
 rintro e he
 (try refine am ?_);(try exact amT)
 repeat' with_reducible first|apply zA|intro _
 all_goals try exact amA
 refine CallK.cur (spec_l1PickInt nb hn true (some false) [62,63,80,100,150,2000] (by simp) (by simp)) rfl rfl rfl (fun _ _ _=>amC) ?_
 rintro f hf
 (try refine am ?_);(try exact amT)
 repeat' with_reducible first|apply zA|intro _
 all_goals try exact amA
 refine CallK.cur (spec_l1Once nb hn 2) rfl rfl rfl (fun _ _ _=>amC) ?_
 rintro g hg
 (try refine am ?_);(try exact amT)
 repeat' with_reducible first|apply zA|intro _
 all_goals try exact amA
 simp at ha hb hc hd he hf
 refine FinK.cur (.refl _) ⟨trivial,rfl⟩ rfl ?_
 refine FinK.ex (⟨a,b,c,d,e,f,g⟩) ?hq8 ?_
 case hq8=>exact by simp only;omega
 refine FinK.cell1 ?_ ?_ ?_
 all_goals try refine amF ?_
 all_goals try exact amT
end Go.AM
namespace Go.AM
set_option maxHeartbeats 64000000
open Go Go.Proofs
set_option maxRecDepth 100000
theorem okS_up {A B:Nat} {l:List (List UInt8)} (h:okS A l) (hB:A≤B:=by decide):okS B l:=⟨Nat.le_trans h.1 hB,fun x hx=>Nat.le_trans (h.2 x hx) hB⟩
theorem okAttr_up {A B:Nat} {x:DAttr} (h:okAttr A x) (hB:A≤B:=by decide):okAttr B x:=⟨Nat.le_trans h.1 hB,okI_up h.2.1 hB,okS_up h.2.2 hB⟩
theorem okSchema_up {A B:Nat} {x:DSchema} (h:okSchema A x) (hB:A≤B:=by decide):okSchema B x:=⟨⟨Nat.le_trans h.1.1 hB,fun y hy=>okAttr_up (h.1.2 y hy) hB⟩,okS_up h.2 hB⟩
theorem spec_l7Right (nb:Nat) (hn:nb≤2^40) (s:DSchema) (u v:Bool) (hs:okSchema (2^20) s):ACur Tryz.prog 118 nb [.agg (cSchema u v s)] (fun r=>∃x:DEx,(okEx (2^20) x∧x.bins.length≤s.attrs.length∧0≤x.cls∧x.cls≤2^41)∧r=.val (.agg (cEx true true x))):=by
 have hal:=hs.1.1
 have hcl:=hs.2.1
 have nt:Tryz.f118.ntmps=64:=rfl
 have rs:Tryz.f118.results=#[.cell 4 50]:=rfl
 refine ACur.of_run (m:=400) mixed Tryz.func118 rfl rfl (Nat.le_of_ble_eq_true rfl) (fun xc=>?_)
 simp only[nt,rs]
 clear nt rs
 (try refine am ?_);(try exact amT)
 repeat' with_reducible first|apply zA|intro _
 all_goals try exact amA
 refine LoopK.auto ((List Int×Nat)) (fun y=>[(6,.one (.av (.int .i64 y.2))),(5,.one (.ref 302 [] [0] 0 0))]) (fun y=>[(302,⟨.sl true none 2 1 (fun _ j=>gl .junk (cEx true true ⟨y.1,0⟩) j),[]⟩)]) [0,3,4] (k0:=?k01) (keepH:=?kh1) 500 (fun y=>(y.1.length=y.2∧y.2≤s.attrs.length)∧∀z∈y.1,-1≤z∧z≤2^40) (fun y=>s.attrs.length - y.2) (([],0)) ?kea1 ?keb1 ?_ ?_ ?_
 case kea1=>exact amN
 case keb1=>exact amN
 ·exact⟨⟨rfl,Nat.zero_le _⟩,fun y hy=>by simp at hy⟩
 ·refine LeA [] ?_ ?_ ?_
  all_goals try refine amL ?_
  all_goals try exact amT
  refine boxL2 ?_ ?_
  ·exact ALe.nil ..
  ·exact .refl _
 ·rintro⟨l,i⟩ ⟨⟨hl,hi⟩,hb2⟩
  dsimp only at hl hi hb2 ⊢
  (try refine am ?_);(try exact amT)
  repeat' with_reducible first|apply zA|intro _
  all_goals try exact amA
  ·have hai:okAttr (2^47) (s.attrs.getD i default):=okAttr_up (hs.1.2 _ (getD_mem (by assumption)))
   have hbn:(if attrOk (s.attrs.getD i default) then bins (s.attrs.getD i default) else 0)≤2^20+1:=by
    have h1:=hs.1.2 _ (getD_mem (d:=default) (by assumption:i<s.attrs.length))
    have h2:=h1.2.1.1
    have h3:=h1.2.2.1
    unfold bins
    split
    ·split<;>omega
    ·omega
   refine CallK.one (specBins (s.attrs.getD i default) v v hai) (fun _=>amC) ?_
   (try refine am ?_);(try exact amT)
   repeat' with_reducible first|apply zA|intro _
   all_goals try exact amA
   refine CallK.cur (spec_l1Below nb hn _) rfl rfl rfl (fun _ _ _=>amC) ?_
   rintro z ⟨hz0,hz1⟩
   (try refine am ?_);(try exact amT)
   repeat' with_reducible first|apply zA|intro _
   all_goals try exact amA
   refine CallK.cur (spec_l1Once nb hn 9) rfl rfl rfl (fun _ _ _=>amC) ?_
   rintro b hb
   (try refine am ?_);(try exact amT)
   repeat' with_reducible first|apply zA|intro _
   all_goals try exact amA
   ·refine⟨(l++[-1],i+1),?_,⟨⟨by simp[hl],by simp only;omega⟩,fun y hy=>?_⟩,by simp only;omega⟩
    ·refine LeA [] ?_ ?_ ?_
     all_goals try refine amL ?_
     all_goals try exact amT
     refine boxL2 ?_ ?_
     ·exact appIntD rfl
     ·exact .refl _
    ·rcases mem_app1 hy with h|h
     ·exact hb2 y h
     ·subst h;omega
   ·refine⟨(l++[z],i+1),?_,⟨⟨by simp[hl],by simp only;omega⟩,fun y hy=>?_⟩,by simp only;omega⟩
    ·refine LeA [] ?_ ?_ ?_
     all_goals try refine amL ?_
     all_goals try exact amT
     refine boxL2 ?_ ?_
     ·exact appIntD rfl
     ·exact .refl _
    ·rcases mem_app1 hy with h|h
     ·exact hb2 y h
     ·subst h;omega
  ·refine CallK.cur (spec_l1Below nb hn _) rfl rfl rfl (fun _ _ _=>amC) ?_
   rintro z ⟨hz0,hz1⟩
   (try refine am ?_);(try exact amT)
   repeat' with_reducible first|apply zA|intro _
   all_goals try exact amA
   have hbi:okI (2^20) l:=okI_of (lo:= -1) (hi:=2^40) (by omega) hb2 (by decide) (by decide)
   have hzk:inK .i64 z:=⟨by show (-9223372036854775808:Int)≤z;omega,by show z≤(9223372036854775807:Int);omega⟩
   by_cases hl0:(0:Int)<(l.length:Int)
   ·simp only[decide_eq_true hl0]
    refine CallG.cur (spec_l1Once nb hn 5) rfl rfl rfl (fun _ _ _=>amC) ?_
    rintro b hb
    (try refine am ?_);(try exact amT)
    have h00:=hb2 _ (getD_mem' (l:=l) (i:=0) (by omega))
    have htz:0≤(l.getD 0 0+1).tmod (s.classes.length:Int)∧(l.getD 0 0+1).tmod (s.classes.length:Int)≤2^41:=by
     have e:=Int.tmod_eq_emod_of_nonneg (show 0≤l.getD 0 0+1 by omega) (b:=(s.classes.length:Int))
     rw[e]
     rcases Nat.eq_zero_or_pos s.classes.length with h0|h0
     ·rw[h0,Int.natCast_zero,Int.emod_zero];omega
     ·have h1:=Int.emod_nonneg (l.getD 0 0+1) (show (s.classes.length:Int)≠0 by omega)
      have h2:=Int.emod_lt_of_pos (l.getD 0 0+1) (show 0<(s.classes.length:Int) by omega)
      omega
    have htm:inK .i64 ((l.getD 0 0+1).tmod (s.classes.length:Int)):=⟨by show (-9223372036854775808:Int)≤_;omega,by show _≤(9223372036854775807:Int);omega⟩
    repeat' with_reducible first|apply zA|intro _
    all_goals try exact amA
    ·refine FinK.cur (.refl _) ⟨trivial,rfl⟩ rfl ?_
     refine FinK.ex (⟨l,(l.getD 0 0+1).tmod (s.classes.length:Int)⟩) ?hq1 ?_
     case hq1=>exact⟨⟨hbi,htm⟩,by simp only;omega,by simp only;omega,by simp only;omega⟩
     refine FinK.cell1 ?_ ?_ ?_
     all_goals try refine amF ?_
     all_goals try exact amT
    ·refine FinK.cur (.refl _) ⟨trivial,rfl⟩ rfl ?_
     refine FinK.ex (⟨l,z⟩) ?hq2 ?_
     case hq2=>exact⟨⟨hbi,hzk⟩,by simp only;omega,by simp only;omega,by simp only;omega⟩
     refine FinK.cell1 ?_ ?_ ?_
     all_goals try refine amF ?_
     all_goals try exact amT
   ·simp only[decide_eq_false hl0]
    refine CallG.skip ((.one (.bool true))) ?_
    (try refine am ?_);(try exact amT)
    repeat' with_reducible first|apply zA|intro _
    all_goals try exact amA
    refine FinK.cur (.refl _) ⟨trivial,rfl⟩ rfl ?_
    refine FinK.ex (⟨l,z⟩) ?hq3 ?_
    case hq3=>exact⟨⟨hbi,hzk⟩,by simp only;omega,by simp only;omega,by simp only;omega⟩
    refine FinK.cell1 ?_ ?_ ?_
    all_goals try refine amF ?_
    all_goals try exact amT
end Go.AM
namespace Go.AM
set_option maxHeartbeats 64000000
open Go Go.Proofs
set_option maxRecDepth 100000
theorem okI_set {A:Nat} {l:List Int} {i:Nat} {z:Int} (h:okI A l) (hz: -1000000000000≤z∧z≤1000000000000):okI A (l.set i z):=by
 refine⟨by have:=h.1;simpa using this,fun x hx=>?_⟩
 rcases List.mem_or_eq_of_mem_set hx with hx|hx
 ·exact h.2 x hx
 ·subst hx;exact⟨by show (-9223372036854775808:Int)≤_;omega,by show _≤(9223372036854775807:Int);omega⟩
theorem setLeI {l:List Int} {s:Nat} {z:Int}:ALe (.sl true none 1 l.length fun i' j'=>if i'=s∧0≤j'∧j'<1 then gl .junk [.int .i64 z] j' else fI l i' j') (.sl true none 1 (l.set s z).length (fI (l.set s z))):=by
 refine ALe.of (.inl rfl) (by simp) (fun a ha j hj=>?_)
 obtain rfl:j=0:=by omega
 by_cases e2:a=s
 ·subst e2
  rw[if_pos ⟨rfl,Nat.le_refl _,Nat.zero_lt_one⟩,fI_at]
  have:(l.set a z).getD a 0=z:=by rw[List.getD_eq_getElem?_getD,List.getElem?_set,if_pos rfl,if_pos ha];rfl
  rw[this]
  exact .refl _
 ·rw[if_neg (fun h=>e2 h.1),fI_at,fI_at]
  have:(l.set s z).getD a 0=l.getD a 0:=by rw[List.getD_eq_getElem?_getD,List.getElem?_set,if_neg (Ne.symm e2),←List.getD_eq_getElem?_getD]
  rw[this]
  exact .refl _
theorem spec_l9Attrs (nb:Nat) (hn:nb≤2^40) (x:DSchema) (u v:Bool) (hx:okSchema (2^20) x):ACur Tryz.prog 69 nb [.agg (cSchema u v x)] (fun r=>∃l:List Int,okI (x.attrs.length+2) l∧r=.val (.one (aI true l))):=by
 have nt:Tryz.f69.ntmps=23:=rfl
 have rs:Tryz.f69.results=#[.tmp 4]:=rfl
 refine ACur.of_run (m:=400) mixed Tryz.func69 rfl rfl (Nat.le_of_ble_eq_true rfl) (fun xc=>?_)
 simp only[nt,rs]
 clear nt rs
 (try refine am ?_);(try exact amT)
 refine CallK.cur (spec_l9RightAttrs nb hn x _ _ hx) rfl rfl rfl (fun _ _ _=>amC) ?_
 rintro l hl
 (try refine am ?_);(try exact amT)
 have hll:=hl.1
 have hal:=hx.1.1
 repeat' with_reducible first|apply zA|intro _
 all_goals try exact amA
 refine CallK.cur (spec_l1Below nb hn 10) rfl rfl rfl (fun _ _ _=>amC) ?_
 rintro z ⟨hz0,hz1⟩
 (try refine am ?_);(try exact amT)
 repeat' with_reducible first|apply zA|intro _
 all_goals try exact amA
 ·refine CallK.cur (spec_l1PickInt nb hn true (some false) [0,5,4,-1] (by simp) (by simp)) rfl rfl rfl (fun _ _ _=>amC) ?_
  rintro a ha
  (try refine am ?_);(try exact amT)
  have ha2: -1≤a∧a≤5:=by simp at ha;omega
  repeat' with_reducible first|apply zA|intro _
  all_goals try exact amA
  refine FinK.cur (.refl _) ⟨trivial,rfl⟩ rfl ?_
  refine FinK.ex (l++[a]) ?hq1 ?_
  case hq1=>exact okI_app1 hl (by omega) (by omega)
  refine FinK.val1 ?_ ?_
  all_goals try refine amF ?_
  all_goals try exact amT
  exact appIntD rfl
 ·refine FinK.cur (.refl _) ⟨trivial,rfl⟩ rfl ?_
  refine FinK.ex ([]) ?hq2 ?_
  case hq2=>exact⟨by simp,fun y hy=>by simp at hy⟩
  refine FinK.val1 ?_ ?_
  all_goals try refine amF ?_
  all_goals try exact amT
  exact ALe.of (.inl rfl) rfl (fun i hi=>by omega)
 ·refine FinK.cur (.refl _) ⟨trivial,rfl⟩ rfl ?_
  refine FinK.ex (l) ?hq3 ?_
  case hq3=>exact okI_up hl (by omega)
  refine FinK.val1 ?_ ?_
  all_goals try refine amF ?_
  all_goals try exact amT
theorem spec_l7Draw (nb:Nat) (hn:nb≤2^40) (s:DSchema) (u v:Bool) (hs:okSchema (2^20) s):ACur Tryz.prog 63 nb [.agg (cSchema u v s)] (fun r=>∃x:DEx,okEx (2^20+1) x∧r=.val (.agg (cEx true true x))):=by
 have nt:Tryz.f63.ntmps=37:=rfl
 have rs:Tryz.f63.results=#[.cell 4 50]:=rfl
 refine ACur.of_run (m:=400) mixed Tryz.func63 rfl rfl (Nat.le_of_ble_eq_true rfl) (fun xc=>?_)
 simp only[nt,rs]
 clear nt rs
 (try refine am ?_);(try exact amT)
 refine CallK.cur (spec_l7Right nb hn s _ _ hs) rfl rfl rfl (fun _ _ _=>amC) ?_
 rintro x ⟨hx,hx2,_⟩
 (try refine am ?_);(try exact amT)
 have hxl:=hx.1.1
 have hb:okI (2^20+1) x.bins:=okI_up hx.1 (by decide)
 repeat' with_reducible first|apply zA|intro _
 all_goals try exact amA
 refine CallK.cur (spec_l1Below nb hn 12) rfl rfl rfl (fun _ _ _=>amC) ?_
 rintro z ⟨hz0,hz1⟩
 (try refine am ?_);(try exact amT)
 repeat' with_reducible first|apply zA|intro _
 all_goals try exact amA
 ·refine CallK.cur (spec_l1PickInt nb hn true (some false) [-1,-2,3,2,9223372036854775807] (by simp) (by simp)) rfl rfl rfl (fun _ _ _=>amC) ?_
  rintro a ha
  (try refine am ?_);(try exact amT)
  have ha2: -2≤a∧a≤9223372036854775807:=by simp at ha;omega
  repeat' with_reducible first|apply zA|intro _
  all_goals try exact amA
  refine FinK.cur (.refl _) ⟨trivial,rfl⟩ rfl ?_
  refine FinK.ex (⟨x.bins,a⟩) ?hq4 ?_
  case hq4=>exact⟨hb,⟨by show (-9223372036854775808:Int)≤a;omega,by show a≤(9223372036854775807:Int);omega⟩⟩
  refine FinK.cell1 ?_ ?_ ?_
  all_goals try refine amF ?_
  all_goals try exact amT
 ·refine FinK.cur (.refl _) ⟨trivial,rfl⟩ rfl ?_
  refine FinK.ex (⟨x.bins++[0],x.cls⟩) ?hq5 ?_
  case hq5=>exact⟨okI_app1 hx.1 (by omega) (by decide),hx.2⟩
  refine FinK.cell1 ?_ ?_ ?_
  all_goals try refine amF ?_
  all_goals try exact amT
  exact appIntD rfl
 ·refine CallCE.cur (spec_l1PickInt nb hn true (some false) [-2,4,3,-1] (by simp) (by simp)) rfl (-2) ?hcq rfl rfl rfl (fun _ _ _=>amC) (fun _=>rfl) (fun _=>rfl) ?_
  case hcq=>exact by simp
  rintro a ha
  (try refine am ?_);(try exact amT)
  have ha2: -2≤a∧a≤4:=by simp at ha;omega
  repeat' with_reducible first|apply zA|intro _
  all_goals try exact amA
  refine FinK.cur (.refl _) ⟨trivial,rfl⟩ rfl ?_
  refine FinK.ex (⟨x.bins.set 0 a,x.cls⟩) ?hq6 ?_
  case hq6=>exact⟨okI_set hb (by omega),hx.2⟩
  refine FinK.cell1 ?_ ?_ ?_
  all_goals try refine amF ?_
  all_goals try exact amT
  exact setLeI
 ·refine FinK.cur (.refl _) ⟨trivial,rfl⟩ rfl ?_
  refine FinK.ex (⟨x.bins,x.cls⟩) ?hq7 ?_
  case hq7=>exact⟨hb,hx.2⟩
  refine FinK.cell1 ?_ ?_ ?_
  all_goals try refine amF ?_
  all_goals try exact amT
 ·refine FinK.cur (.refl _) ⟨trivial,rfl⟩ rfl ?_
  refine FinK.ex (⟨x.bins,x.cls⟩) ?hq8 ?_
  case hq8=>exact⟨hb,hx.2⟩
  refine FinK.cell1 ?_ ?_ ?_
  all_goals try refine amF ?_
  all_goals try exact amT
theorem spec_l9Right (nb:Nat) (hn:nb≤2^40) (x:DSchema) (u v:Bool) (hx:okSchema (2^20) x):ACur Tryz.prog 119 nb [.agg (cSchema u v x)] (fun r=>∃f:DFork,(-1≤f.attr∧f.attr≤2^20∧ -1≤f.at_∧f.at_≤4)∧r=.val (.agg (cFork f))):=by
 have hal:=hx.1.1
 have nt:Tryz.f119.ntmps=42:=rfl
 have rs:Tryz.f119.results=#[.cell 4 43]:=rfl
 refine ACur.of_run (m:=400) mixed Tryz.func119 rfl rfl (Nat.le_of_ble_eq_true rfl) (fun xc=>?_)
 simp only[nt,rs]
 clear nt rs
 (try refine am ?_);(try exact amT)
 repeat' with_reducible first|apply zA|intro _
 all_goals try exact amA
 refine LoopK.intro ((List DFork×Nat)) (fun y=>[(6,.one (.av (.int .i64 y.2))),(5,.one (.own 302 [] [0])),(0,.one (.ref 1 [] [0] 0 0))]) (fun y=>[(302,⟨.sl true none 2 y.1.length (fFork y.1),[]⟩)]) [3,4] [5,6,1] 500 (fun y=>(y.1.length≤5*y.2∧y.2≤x.attrs.length)∧∀f∈y.1,-1≤f.attr∧f.attr≤2^20∧ -1≤f.at_∧f.at_≤4) (fun y=>x.attrs.length - y.2) (([],0)) ?_ ?_ ?_
 ·exact⟨⟨Nat.zero_le _,Nat.zero_le _⟩,fun y hy=>by simp at hy⟩
 ·refine LeA [] ?_ ?_ ?_
  all_goals try refine amL ?_
  all_goals try exact amT
  exact ALe.of (.inl rfl) rfl (fun i hi=>by omega)
 ·rintro⟨l,i⟩ ⟨⟨hl,hi⟩,hb2⟩
  dsimp only at hl hi hb2 ⊢
  (try refine am ?_);(try exact amT)
  repeat' with_reducible first|apply zA|intro _
  all_goals try exact amA
  ·refine LoopK.intro ((List DFork×Nat)) (fun y=>[(7,.one (.av (.int .i64 ((y.2:Int) - 1)))),(5,.one (.own 303 [] [0])),(0,.one (.ref 1 [] [0] 0 0))]) (fun y=>[(303,⟨.sl true none 2 y.1.length (fFork y.1),[]⟩)]) [3,4,6] [5,6,1] 900 (fun y=>(y.1.length≤5*i+y.2∧y.2≤5)∧∀f∈y.1,-1≤f.attr∧f.attr≤2^20∧ -1≤f.at_∧f.at_≤4) (fun y=>5 - y.2) ((l,0)) ?_ ?_ ?_
   ·exact⟨⟨by simp only;omega,Nat.zero_le _⟩,hb2⟩
   ·refine LeA [] ?_ ?_ ?_
    all_goals try refine amL ?_
    all_goals try exact amT
   ·rintro⟨m,j⟩ ⟨⟨hm,hj⟩,hb3⟩
    dsimp only at hm hj hb3 ⊢
    have hsx:okSchema (2^47) x:=okSchema_up hx
    (try refine am ?_);(try exact amT)
    repeat' with_reducible first|apply zA|intro _
    all_goals try exact amA
    ·refine CallK.one (specForkOk x ⟨(i:Int),(j:Int) - 1⟩ _ _ hsx ⟨⟨by show (-9223372036854775808:Int)≤(i:Int);omega,by show (i:Int)≤(9223372036854775807:Int);omega⟩,⟨by show (-9223372036854775808:Int)≤(j:Int) - 1;omega,by show (j:Int) - 1≤(9223372036854775807:Int);omega⟩⟩) (fun _=>amC) ?_
     (try refine am ?_);(try exact amT)
     repeat' with_reducible first|apply zA|intro _
     all_goals try exact amA
     ·refine⟨(m++[⟨(i:Int),(j:Int) - 1⟩],j+1),?_,⟨⟨by simp;omega,by simp only;omega⟩,fun y hy=>?_⟩,by simp only;omega⟩
      ·refine LeA [] ?_ ?_ ?_
       all_goals try refine amL ?_
       all_goals try exact amT
       ·exact appLe1 rfl rfl (.inl rfl)
       ·omega
      ·rcases List.mem_append.1 hy with h|h
       ·exact hb3 y h
       ·have:y=⟨(i:Int),(j:Int) - 1⟩:=by simpa using h
        subst this;simp only;omega
     ·refine⟨(m,j+1),?_,⟨⟨by simp only;omega,by simp only;omega⟩,hb3⟩,by simp only;omega⟩
      refine LeA [] ?_ ?_ ?_
      all_goals try refine amL ?_
      all_goals try exact amT
      omega
    ·refine⟨(m,i+1),?_,⟨⟨by simp only;omega,by simp only;omega⟩,hb3⟩,by simp only;omega⟩
     refine LeA [] ?_ ?_ ?_
     all_goals try refine amL ?_
     all_goals try exact amT
  ·refine FinK.cur (.refl _) ⟨trivial,rfl⟩ rfl ?_
   refine FinK.ex (⟨0,0⟩) ?hq9 ?_
   case hq9=>exact by simp only;omega
   refine FinK.cell1 ?_ ?_ ?_
   all_goals try refine amF ?_
   all_goals try exact amT
  ·refine CallK.cur (spec_l1Below nb hn _) rfl rfl rfl (fun _ _ _=>amC) ?_
   rintro z ⟨hz0,hz1⟩
   (try refine am ?_);(try exact amT)
   have hzm:=hb2 _ (getD_mem (d:=default) (show z.toNat<l.length by omega))
   repeat' with_reducible first|apply zA|intro _
   all_goals try exact amA
   refine FinK.cur (.refl _) ⟨trivial,rfl⟩ rfl ?_
   refine FinK.ex (l.getD z.toNat default) ?hq10 ?_
   case hq10=>exact hzm
   refine FinK.cell1 ?_ ?_ ?_
   all_goals try refine amF ?_
   all_goals try exact amT
theorem spec_l9Draw (nb:Nat) (hn:nb≤2^40) (x:DSchema) (u v:Bool) (hx:okSchema (2^20) x):ACur Tryz.prog 65 nb [.agg (cSchema u v x)] (fun r=>∃f:DFork,okFork (2^20) f∧r=.val (.agg (cFork f))):=by
 have nt:Tryz.f65.ntmps=24:=rfl
 have rs:Tryz.f65.results=#[.cell 4 43]:=rfl
 refine ACur.of_run (m:=400) mixed Tryz.func65 rfl rfl (Nat.le_of_ble_eq_true rfl) (fun xc=>?_)
 simp only[nt,rs]
 clear nt rs
 (try refine am ?_);(try exact amT)
 refine CallK.cur (spec_l9Right nb hn x _ _ hx) rfl rfl rfl (fun _ _ _=>amC) ?_
 rintro f ⟨h1,h2,h3,h4⟩
 (try refine am ?_);(try exact amT)
 have ka:inK .i64 f.attr:=⟨by show (-9223372036854775808:Int)≤f.attr;omega,by show f.attr≤(9223372036854775807:Int);omega⟩
 have kb:inK .i64 f.at_:=⟨by show (-9223372036854775808:Int)≤f.at_;omega,by show f.at_≤(9223372036854775807:Int);omega⟩
 repeat' with_reducible first|apply zA|intro _
 all_goals try exact amA
 refine CallK.cur (spec_l1Below nb hn 10) rfl rfl rfl (fun _ _ _=>amC) ?_
 rintro z ⟨hz0,hz1⟩
 (try refine am ?_);(try exact amT)
 repeat' with_reducible first|apply zA|intro _
 all_goals try exact amA
 ·refine CallK.cur (spec_l1PickInt nb hn true (some false) [-2,1,2,3,4,9223372036854775807] (by simp) (by simp)) rfl rfl rfl (fun _ _ _=>amC) ?_
  rintro a ha
  (try refine am ?_);(try exact amT)
  have ha2: -2≤a∧a≤9223372036854775807:=by simp at ha;omega
  repeat' with_reducible first|apply zA|intro _
  all_goals try exact amA
  refine FinK.cur (.refl _) ⟨trivial,rfl⟩ rfl ?_
  refine FinK.ex (⟨f.attr,a⟩) ?hq11 ?_
  case hq11=>exact⟨ka,by show (-9223372036854775808:Int)≤a;omega,by show a≤(9223372036854775807:Int);omega⟩
  refine FinK.cell1 ?_ ?_ ?_
  all_goals try refine amF ?_
  all_goals try exact amT
 ·refine CallK.cur (spec_l1PickInt nb hn true (some false) [-1,5,4,9223372036854775807] (by simp) (by simp)) rfl rfl rfl (fun _ _ _=>amC) ?_
  rintro a ha
  (try refine am ?_);(try exact amT)
  have ha2: -1≤a∧a≤9223372036854775807:=by simp at ha;omega
  repeat' with_reducible first|apply zA|intro _
  all_goals try exact amA
  refine FinK.cur (.refl _) ⟨trivial,rfl⟩ rfl ?_
  refine FinK.ex (⟨a,f.at_⟩) ?hq12 ?_
  case hq12=>exact⟨⟨by show (-9223372036854775808:Int)≤a;omega,by show a≤(9223372036854775807:Int);omega⟩,kb⟩
  refine FinK.cell1 ?_ ?_ ?_
  all_goals try refine amF ?_
  all_goals try exact amT
 ·refine FinK.cur (.refl _) ⟨trivial,rfl⟩ rfl ?_
  refine FinK.ex (⟨f.attr,f.at_⟩) ?hq13 ?_
  case hq13=>exact⟨ka,kb⟩
  refine FinK.cell1 ?_ ?_ ?_
  all_goals try refine amF ?_
  all_goals try exact amT
end Go.AM
namespace Go.AM
set_option maxHeartbeats 64000000
open Go Go.Proofs
set_option maxRecDepth 100000
theorem getDs {α:Type} {l:List α} {i k:Nat} {v d:α} (h:i<l.length):(l.set i v).getD k d=if k=i then v else l.getD k d:=by
 rw[List.getD_eq_getElem?_getD,List.getElem?_set]
 by_cases e:k=i
 ·subst e;rw[if_pos rfl,if_pos h,if_pos rfl];rfl
 ·rw[if_neg (Ne.symm e),if_neg e,←List.getD_eq_getElem?_getD]
theorem tabLe {T:List (List Int)} {t s:Nat} {z:Int} (ht:t<T.length):ALe (.sl true none 1 T.length fun i' j'=>if i'=t∧j'=0 then .sl true none 1 (T.getD t []).length fun i' j'=>if i'=s∧0≤j'∧j'<1 then gl .junk [.int .i64 z] j' else fI (T.getD t []) i' j' else fL true T i' j') (.sl true none 1 (T.set t ((T.getD t []).set s z)).length (fL true (T.set t ((T.getD t []).set s z)))):=by
 refine rowsLe2 (by simp) (fun i hi=>?_)
 by_cases e:i=t
 ·subst e
  have e1:(T.set i ((T.getD i []).set s z)).getD i []=(T.getD i []).set s z:=by
   rw[List.getD_eq_getElem?_getD,List.getElem?_set];simp[hi]
  rw[if_pos ⟨rfl,rfl⟩,e1]
  refine ALe.of (.inl rfl) (by simp) (fun a ha j hj=>?_)
  obtain rfl:j=0:=by omega
  by_cases e2:a=s
  ·subst e2
   rw[if_pos ⟨rfl,Nat.le_refl _,Nat.zero_lt_one⟩,fI_at]
   have:((T.getD i []).set a z).getD a 0=z:=by rw[List.getD_eq_getElem?_getD,List.getElem?_set,if_pos rfl,if_pos ha];rfl
   rw[this]
   exact .refl _
  ·rw[if_neg (fun h=>e2 h.1),fI_at,fI_at]
   have:((T.getD i []).set s z).getD a 0=(T.getD i []).getD a 0:=by rw[List.getD_eq_getElem?_getD,List.getElem?_set,if_neg (Ne.symm e2),←List.getD_eq_getElem?_getD]
   rw[this]
   exact .refl _
 ·have e1:(T.set t ((T.getD t []).set s z)).getD i []=T.getD i []:=by rw[List.getD_eq_getElem?_getD,List.getElem?_set,if_neg (Ne.symm e),←List.getD_eq_getElem?_getD]
  rw[if_neg (fun h=>e h.1),e1]
  exact .refl _
theorem spec_StatsAdd (B:Nat) (hB:B≤2^20) (s:DSchema) (t:DStats) (e:DEx) (w:Int) (u v u' v' u'':Bool) (hs:okSchema (2^20) s) (ht:okStats B t) (he:okEx (2^20) e) (hw:0≤w∧w≤100):ACalls Tryz.prog 174 [.agg (cSchema u v s),.agg (cStats u' v' t),.agg (cEx u'' false e),.one (.int .i64 w)] (fun r=>∃x:DStats×Bool,okStats B x.1∧r=.tup [.agg (cStats true true x.1),.one (.bool x.2)]):=by
 have hs47:okSchema (2^47) s:=okSchema_up hs
 have he47:okEx (2^47) e:=⟨okI_up he.1 (by decide),he.2⟩
 have ht40:okStats (2^40) t:=⟨okI_up ht.1 (by omega),okL_up ht.2 (by omega)⟩
 have ht47:okStats (2^47) t:=⟨okI_up ht.1 (by omega),okL_up ht.2 (by omega)⟩
 have nt:Tryz.f174.ntmps=100:=rfl
 have rs:Tryz.f174.results=#[.cell 8 46,.tmp 9]:=rfl
 refine ACalls.of_runC (m:=400) mixed Tryz.func174 rfl rfl (Nat.le_of_ble_eq_true rfl) ?_
 simp only[nt,rs]
 clear nt rs
 (try refine am ?_);(try exact amT)
 refine CallK.one (l8CopyI t _ _ ht40) (fun _=>amC) ?_
 (try refine am ?_);(try exact amT)
 repeat' with_reducible first|apply zA|intro _
 all_goals try exact amA
 refine CallK.one (specStatsOk s t _ _ _ _ hs47 ht47) (fun _=>amC) ?_
 (try refine am ?_);(try exact amT)
 repeat' with_reducible first|apply zA|intro _
 all_goals try exact amA
 refine CallG.one rfl (fun hg=>specExOk s e _ _ _ hs47 he47) ?_
 (try refine am ?_);(try exact amT)
 repeat' with_reducible first|apply zA|intro _
 all_goals try exact amA
 refine CallG.one rfl (fun hg=>l1In w 1 7) ?_
 (try refine am ?_);(try exact amT)
 repeat' with_reducible first|apply zA|intro _
 all_goals try exact amA
 have hst:0≤(if statsOk s t then tot1 t.totals else 0)∧(if statsOk s t then tot1 t.totals else 0)≤999:=by
  split
  ·rename_i h
   exact⟨(tot1_bd (c:=999) h.2.1.2).1,h.2.2.1⟩
  ·exact⟨Int.le_refl _,by decide⟩
 by_cases hc:(statsOk s t∧exOk s e)∧0≤e.cls
 case neg=>
  refine CallG.one rfl (fun hg=>specStatsTotal s t _ _ _ _ hs47 ht47) ?_
  (try refine am ?_);(try exact amT)
  repeat' with_reducible first|apply zA|intro _
  all_goals try exact amA
  ·refine FinK.ex ((t,false)) ?hq1 ?_
   case hq1=>exact ht
   refine FinK.tup ?_ ?_
   all_goals try refine amF ?_
   all_goals try exact amT
  all_goals (exfalso;rename_i h;exact hc ⟨h.1.1.1,by omega⟩)
 obtain⟨⟨hso,heo⟩,hc0⟩:=hc
 have hso':=hso
 obtain⟨_,⟨htl,htb⟩,_,hcells⟩:=hso'
 have heo':=heo
 obtain⟨_,hebl,⟨_,hcls⟩,hebs⟩:=heo'
 have htc:=htb e.cls.toNat (by omega)
 have hcel:t.cells.length≤2^20:=Nat.le_trans ht.2.1 hB
 refine CallG.one rfl (fun hg=>specStatsTotal s t _ _ _ _ hs47 ht47) ?_
 (try refine am ?_);(try exact amT)
 repeat' with_reducible first|apply zA|intro _
 all_goals try exact amA
 ·refine FinK.ex ((t,false)) ?hq2 ?_
  case hq2=>exact ht
  refine FinK.tup ?_ ?_
  all_goals try refine amF ?_
  all_goals try exact amT
 refine LoopK.auto ((List (List Int)×Nat)) (fun y=>[(11,.one (.av (.int .i64 y.2))),(10,.one (.ref 302 [] [0] 0 0))]) (fun y=>[(302,⟨.sl true none 2 1 (fun _ j=>gl .junk (cStats true true ⟨t.totals.set e.cls.toNat (t.totals.getD e.cls.toNat 0+w),y.1⟩) j),[]⟩)]) [3,4,6,8] (k0:=?k01) (keepH:=?kh1) 900 (fun y=>(y.1.length=t.cells.length∧y.2≤t.cells.length)∧∀k,k<t.cells.length→(y.1.getD k []).length=(t.cells.getD k []).length∧∀j,j<(t.cells.getD k []).length→0≤(y.1.getD k []).getD j 0∧(y.1.getD k []).getD j 0≤(if k<y.2 then 1006 else 999)) (fun y=>t.cells.length - y.2) ((t.cells,0)) ?kea1 ?keb1 ?_ ?_ ?_
 case kea1=>exact amN
 case keb1=>exact amN
 ·refine⟨⟨rfl,Nat.zero_le _⟩,fun k hk=>⟨rfl,fun j hj=>?_⟩⟩
  rcases hcells with h|h
  ·omega
  ·have:=(h.2 k hk).1.2 j hj
   simp only[Nat.not_lt_zero,if_false]
   exact this
 ·refine LeA [] ?_ ?_ ?_
  all_goals try refine amL ?_
  all_goals try exact amT
  refine boxL2 ?_ ?_
  ·exact setLeI
  ·exact .refl _
 ·rintro⟨C,i⟩ ⟨⟨hC,hi⟩,hb⟩
  dsimp only at hC hi hb ⊢
  by_cases hlt:i<t.cells.length
  ·have hci:t.cells.length=s.attrs.length∧cellsOk s t i:=by
    rcases hcells with h|h
    ·omega
    ·exact⟨h.1,h.2 i hlt⟩
   have hbin:=hebs i (by omega)
   have hrow:=hci.2.1.1
   obtain⟨hbl,hbb⟩:=hb i hlt
   by_cases hbn:0≤e.bins.getD i 0
   ·have hp0:0≤e.bins.getD i 0*(s.classes.length:Int):=Int.mul_nonneg hbn (by omega)
    have hp2:(e.bins.getD i 0+1)*(s.classes.length:Int)≤(bins (s.attrs.getD i default):Int)*(s.classes.length:Int):=Int.mul_le_mul_of_nonneg_right (by omega) (by omega)
    rw[Int.add_mul,Int.one_mul] at hp2
    have hp1:e.bins.getD i 0*(s.classes.length:Int)+e.cls<((C.getD i []).length:Int):=by rw[hbl,hrow];omega
    have hcl2:((C.getD i []).length:Int)≤2^20:=by
     have:=(ht.2.2 _ (getD_mem (d:=[]) hlt)).1
     omega
    have hat:=hbb (e.bins.getD i 0*(s.classes.length:Int)+e.cls).toNat (by omega)
    rw[if_neg (Nat.lt_irrefl i)] at hat
    (try refine am ?_);(try exact amT)
    repeat' with_reducible first|apply zA|intro _
    all_goals try exact amA
    refine⟨(C.set i ((C.getD i []).set (e.bins.getD i 0*(s.classes.length:Int)+e.cls).toNat ((C.getD i []).getD (e.bins.getD i 0*(s.classes.length:Int)+e.cls).toNat 0+w)),i+1),?_,⟨⟨by simpa using hC,by simp only;omega⟩,fun k hk=>?_⟩,by simp only;omega⟩
    ·refine LeA [] ?_ ?_ ?_
     all_goals try refine amL ?_
     all_goals try exact amT
     refine boxL2 ?_ ?_
     ·exact .refl _
     ·exact tabLe (by omega)
    ·dsimp only
     rw[getDs (by omega)]
     obtain⟨k1,k2⟩:=hb k hk
     by_cases ek:k=i
     ·subst ek
      rw[if_pos rfl]
      refine⟨by simpa using k1,fun j hj=>?_⟩
      rw[getDs (by omega),if_pos (by omega:k<k+1)]
      have:=k2 j hj
      rw[if_neg (Nat.lt_irrefl k)] at this
      split<;>omega
     ·rw[if_neg ek]
      refine⟨k1,fun j hj=>?_⟩
      have:=k2 j hj
      split at this<;>split<;>omega
   ·(try refine am ?_);(try exact amT)
    repeat' with_reducible first|apply zA|intro _
    all_goals try exact amA
    refine⟨(C,i+1),?_,⟨⟨hC,by simp only;omega⟩,fun k hk=>⟨(hb k hk).1,fun j hj=>?_⟩⟩,by simp only;omega⟩
    ·refine LeA [] ?_ ?_ ?_
     all_goals try refine amL ?_
     all_goals try exact amT
    ·have:=(hb k hk).2 j hj
     dsimp only
     split at this<;>split<;>omega
  ·have htc1:=ht.2.1
   have hok2:okL B C:=by
    refine⟨by omega,fun r hr=>?_⟩
    obtain⟨k,hk,rfl⟩:=List.getElem_of_mem hr
    obtain⟨k1,k2⟩:=hb k (by omega)
    have ee:C.getD k []=C[k]:=by simp[List.getD,hk]
    rw[ee] at k1 k2
    have hl2:=(ht.2.2 _ (getD_mem (d:=[]) (show k<t.cells.length by omega))).1
    refine okI_of (lo:=0) (hi:=2000) (by omega) (fun y hy=>?_) (by decide) (by decide)
    obtain⟨j,hj,rfl⟩:=List.getElem_of_mem hy
    have:=k2 j (by omega)
    rw[show C[k].getD j 0=C[k][j] by simp[List.getD,hj]] at this
    split at this<;>omega
   (try refine am ?_);(try exact amT)
   repeat' with_reducible first|apply zA|intro _
   all_goals try exact amA
   refine FinK.ex ((⟨t.totals.set e.cls.toNat (t.totals.getD e.cls.toNat 0+w),C⟩,true)) ?hq3 ?_
   case hq3=>exact⟨okI_set ht.1 (by omega),hok2⟩
   refine FinK.tup ?_ ?_
   all_goals try refine amF ?_
   all_goals try exact amT
end Go.AM
