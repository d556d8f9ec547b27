/- Lemmas for the proof of this claim. -/
import Derived.Test.YtpbahibieegbgaaGreatDll
import Derived.Test.YtpbahibieegbgaaGreatAm4
namespace Go.AM
set_option maxHeartbeats 64000000
open Go Go.Proofs
set_option maxRecDepth 100000
theorem spec_DrawPathTo (code:List UInt8) (h:code.length≤2^40):ACalls Tryz.prog 19 [.one (aB false code)] (fun r=>∃x:DSchema×DTree×DEx,(okSchema (2^10) x.1∧(okTree (2^12) x.2.1∧x.2.1.nodes.length≤31)∧okEx (2^20+1) x.2.2)∧r=.tup [.agg (cSchema true true x.1),.agg (cTree true true x.2.1),.agg (cEx true false x.2.2)]):=by
 have nt:Tryz.f19.ntmps=20:=rfl
 have rs:Tryz.f19.results=#[.cell 2 27,.cell 3 30,.cell 4 50]:=rfl
 refine ACalls.of_runC (m:=400) mixed Tryz.func19 rfl rfl (Nat.le_of_ble_eq_true rfl) ?_
 simp only[nt,rs]
 clear nt rs
 (try refine am ?_);(try exact amT)
 repeat' with_reducible first|apply zA|intro _
 all_goals try exact amA
 refine CallK.new (spec_l1New code h) ?_
 rintro xc
 (try refine am ?_);(try exact amT)
 repeat' with_reducible first|apply zA|intro _
 all_goals try exact amA
 refine CallK.cur (spec_l5Right code.length h) rfl rfl rfl (fun _ _ _=>amC) ?_
 rintro s ⟨hs,hs1,hs2,_⟩
 (try refine am ?_);(try exact amT)
 have hs20:okSchema (2^20) s:=okSchema_up hs
 repeat' with_reducible first|apply zA|intro _
 all_goals try exact amA
 refine CallK.cur (spec_l19Draw code.length h s _ _ hs20 hs2) rfl rfl rfl (fun _ _ _=>amC) ?_
 rintro t ht
 (try refine am ?_);(try exact amT)
 repeat' with_reducible first|apply zA|intro _
 all_goals try exact amA
 refine CallCE.cur (spec_l7Draw code.length h s _ _ hs20) rfl (⟨[],0⟩) ?hcq rfl rfl rfl (fun _ _ _=>amC) (fun _=>rfl) (fun _=>rfl) ?_
 case hcq=>exact⟨⟨Nat.zero_le _,fun x hx=>by simp at hx⟩,⟨by show IntKind.i64.min≤(0:Int);decide,by show (0:Int)≤IntKind.i64.max;decide⟩⟩
 rintro e he
 (try refine am ?_);(try exact amT)
 repeat' with_reducible first|apply zA|intro _
 all_goals try exact amA
 refine FinK.ex ((s,t,e)) ?hq1 ?_
 case hq1=>exact⟨hs,ht,he⟩
 refine FinK.tup ?_ ?_
 all_goals try refine amF ?_
 all_goals try exact amT
theorem bdT_z {t:DTree} (h:okTree (2^12) t) (hl:t.nodes.length≤31):zTree t≤2^40:=by
 have hst:∀x:DStats,okStats (2^12) x→zStats x≤2^25:=fun x h=>by
  unfold zStats szW tot
  have h1:=h.1.1
  have h2:=h.2.1
  have h3:=sm_bd (f:=List.length) (B:=2^12) (l:=x.cells) (fun r hr=>(h.2.2 r hr).1)
  have h4:2^12*x.cells.length≤2^12*2^12:=Nat.mul_le_mul_left _ h2
  omega
 have hnd:∀x:DNode,okNode (2^12) x→zNode x≤2^26:=fun x h=>by
  unfold zNode
  have h1:=h.2.2.1.1
  have h2:=hst _ h.2.2.2.2.1
  have h3:=h.2.2.2.2.2.2.1.1
  omega
 unfold zTree zNodeS
 have h2:=sm_bd (f:=zNode) (B:=2^26) (l:=t.nodes) (fun x hx=>hnd x (h.1.2 x hx))
 have h3:2^26*t.nodes.length≤2^26*31:=Nat.mul_le_mul_left _ hl
 omega
theorem spec_DrawEnforce (code:List UInt8) (h:code.length≤2^40):ACalls Tryz.prog 8 [.one (aB false code)] (fun r=>∃x:DSchema×DTree×Int,(okSchema (2^10) x.1∧(okTree (2^12) x.2.1∧x.2.1.nodes.length≤31)∧inK .i64 x.2.2)∧r=.tup [.agg (cSchema true true x.1),.agg (cTree true true x.2.1),.one (.int .i64 x.2.2)]):=by
 have nt:Tryz.f8.ntmps=25:=rfl
 have rs:Tryz.f8.results=#[.cell 2 27,.cell 3 30,.tmp 4]:=rfl
 refine ACalls.of_runC (m:=400) mixed Tryz.func8 rfl rfl (Nat.le_of_ble_eq_true rfl) ?_
 simp only[nt,rs]
 clear nt rs
 (try refine am ?_);(try exact amT)
 repeat' with_reducible first|apply zA|intro _
 all_goals try exact amA
 refine CallK.new (spec_l1New code h) ?_
 rintro xc
 (try refine am ?_);(try exact amT)
 repeat' with_reducible first|apply zA|intro _
 all_goals try exact amA
 refine CallK.cur (spec_l5Right code.length h) rfl rfl rfl (fun _ _ _=>amC) ?_
 rintro s ⟨hs,hs1,hs2,_⟩
 (try refine am ?_);(try exact amT)
 have hs20:okSchema (2^20) s:=okSchema_up hs
 repeat' with_reducible first|apply zA|intro _
 all_goals try exact amA
 refine CallK.cur (spec_l19Draw code.length h s _ _ hs20 hs2) rfl rfl rfl (fun _ _ _=>amC) ?_
 rintro t ⟨ht,htl⟩
 (try refine am ?_);(try exact amT)
 have hz:=bdT_z ht htl
 have ht47:okTree (2^47) t:=okTree_up ht
 have hu:sm units t.nodes≤2^42:=by
  have h1:=smUnits_le (l:=t.nodes) (i:=t.nodes.length)
  rw[List.take_length] at h1
  unfold zTree zNodeS at hz
  omega
 repeat' with_reducible first|apply zA|intro _
 all_goals try exact amA
 refine CallCE.one (specTreeUnits t _ _ ht47 hz) (fun _=>amC) rfl ?_
 (try refine am ?_);(try exact amT)
 refine CallCE.one (specTreeUnits t _ _ ht47 hz) (fun _=>amC) rfl ?_
 (try refine am ?_);(try exact amT)
 generalize sm units t.nodes=U at *
 repeat' with_reducible first|apply zA|intro _
 all_goals try exact amA
 refine CallCE.cur (spec_l1PickInt code.length h true (some false) [0,62,20,40,80,120,2000,-1,(U:Int),(U:Int) - 1] (by simp) (by simp)) rfl (0) ?hcq rfl rfl rfl (fun _ _ _=>amC) (fun _=>rfl) (fun _=>rfl) ?_
 case hcq=>exact by simp
 rintro b hb
 (try refine am ?_);(try exact amT)
 have hb2: -1≤b∧b≤2^42:=by simp at hb;omega
 repeat' with_reducible first|apply zA|intro _
 all_goals try exact amA
 refine FinK.ex ((s,t,b)) ?hq2 ?_
 case hq2=>exact⟨hs,⟨ht,htl⟩,by show (-9223372036854775808:Int)≤b;omega,by show b≤(9223372036854775807:Int);omega⟩
 refine FinK.tup ?_ ?_
 all_goals try refine amF ?_
 all_goals try exact amT
theorem rowApp2 {l:List (List Int)} {q:List Int} {nl:Option Bool} {F:AV} (hF:ALe F (.sl true none 1 q.length (fI q))):ALe (.sl true nl 1 (l.length+1) (apF l.length (fL true l) (rowsF [[F]]))) (.sl true none 1 (l++[q]).length (fL true (l++[q]))):=by
 refine rowsLe2 (by simp) (fun i hi=>?_)
 unfold apF
 by_cases e:i<l.length
 ·have e1:(l++[q]).getD i []=l.getD i []:=by rw[List.getD_eq_getElem?_getD,List.getElem?_append_left e,←List.getD_eq_getElem?_getD]
  rw[if_pos e,e1]
  exact .refl _
 ·obtain rfl:i=l.length:=by omega
  have e1:(l++[q]).getD l.length []=q:=by rw[List.getD_eq_getElem?_getD,List.getElem?_append_right (Nat.le_refl _),Nat.sub_self];rfl
  rw[if_neg e,Nat.sub_self,e1]
  exact hF
theorem rowSt3 {l:List (List Int)} {r:List Int} (hk:0<l.length) {F:AV} (hF:ALe F (.sl true none 1 r.length (fI r))):ALe (.sl true none 1 l.length fun i' j'=>if i'=0∧0≤j'∧j'<1 then gl .junk [F] j' else fL true l i' j') (.sl true none 1 (l.set 0 r).length (fL true (l.set 0 r))):=by
 refine rowsLe2 (by simp) (fun i hi=>?_)
 by_cases e:i=0
 ·subst e
  have e1:(l.set 0 r).getD 0 []=r:=by rw[List.getD_eq_getElem?_getD,List.getElem?_set];simp[hk]
  rw[if_pos ⟨rfl,Nat.le_refl _,Nat.zero_lt_one⟩,e1]
  exact hF
 ·have e1:(l.set 0 r).getD i []=l.getD i []:=by rw[List.getD_eq_getElem?_getD,List.getElem?_set,if_neg (Ne.symm e),←List.getD_eq_getElem?_getD]
  rw[if_neg (fun h=>e h.1),e1]
  exact .refl _
theorem spec_DrawSplitAt (code:List UInt8) (h:code.length≤2^40):ACalls Tryz.prog 21 [.one (aB false code)] (fun r=>∃x:DSchema×DTree×Int×DFork×List (List Int),(okSchema (2^10) x.1∧(okTree (2^12) x.2.1∧x.2.1.nodes.length≤31)∧inK .i64 x.2.2.1∧okFork (2^20) x.2.2.2.1∧okL (2^10) x.2.2.2.2)∧r=.tup [.agg (cSchema true true x.1),.agg (cTree true true x.2.1),.one (.int .i64 x.2.2.1),.agg (cFork x.2.2.2.1),.one (aL true true x.2.2.2.2)]):=by
 have nt:Tryz.f21.ntmps=92:=rfl
 have rs:Tryz.f21.results=#[.cell 2 27,.cell 3 30,.tmp 4,.cell 5 43,.tmp 6]:=rfl
 refine ACalls.of_runC (m:=400) mixed Tryz.func21 rfl rfl (Nat.le_of_ble_eq_true rfl) ?_
 simp only[nt,rs]
 clear nt rs
 (try refine am ?_);(try exact amT)
 repeat' with_reducible first|apply zA|intro _
 all_goals try exact amA
 refine CallK.new (spec_l1New code h) ?_
 rintro xc
 (try refine am ?_);(try exact amT)
 repeat' with_reducible first|apply zA|intro _
 all_goals try exact amA
 refine CallK.cur (spec_l5Right code.length h) rfl rfl rfl (fun _ _ _=>amC) ?_
 rintro s ⟨hs,hs1,hs2,_⟩
 (try refine am ?_);(try exact amT)
 have hs20:okSchema (2^20) s:=okSchema_up hs
 have hs47:okSchema (2^47) s:=okSchema_up hs
 repeat' with_reducible first|apply zA|intro _
 all_goals try exact amA
 refine CallK.cur (spec_l19Draw code.length h s _ _ hs20 hs2) rfl rfl rfl (fun _ _ _=>amC) ?_
 rintro t ⟨ht,htl⟩
 (try refine am ?_);(try exact amT)
 have ht47:okTree (2^47) t:=okTree_up ht
 repeat' with_reducible first|apply zA|intro _
 all_goals try exact amA
 refine CallK.cur (spec_l9Draw code.length h s _ _ hs20) rfl rfl rfl (fun _ _ _=>amC) ?_
 rintro f hf
 (try refine am ?_);(try exact amT)
 have hbr:=branches_le s f
 repeat' with_reducible first|apply zA|intro _
 all_goals try exact amA
 refine LoopK.auto ((List (List Int))) (fun x=>[(12,.one (.av (.int .i64 x.length))),(11,.one (.own 302 [] [0]))]) (fun x=>[(302,⟨.sl true none 1 x.length (fL true x),[]⟩)]) [2,3,5,7,8,9,10] (k0:=?k01) (keepH:=?kh1) 900 (fun x=>x.length≤branches s f∧∀l∈x,okI 10 l) (fun x=>branches s f - x.length) ([]) ?kea1 ?keb1 ?_ ?_ ?_
 case kea1=>exact amN
 case keb1=>exact amN
 ·exact⟨Nat.zero_le _,fun l hl=>by simp at hl⟩
 ·refine LeA [] ?_ ?_ ?_
  all_goals try refine amL ?_
  all_goals try exact amT
  exact ALe.of (.inl rfl) rfl (fun i hi=>by omega)
 ·intro l hl0
  obtain⟨hl,hb⟩:=hl0
  (try refine am ?_);(try exact amT)
  refine CallK.one (specBranches s f _ _ hs47 hf) (fun _=>amC) ?_
  (try refine am ?_);(try exact amT)
  repeat' with_reducible first|apply zA|intro _
  all_goals try exact amA
  ·refine CallK.cur (spec_l9RightAttrs code.length h s _ _ hs20) rfl rfl rfl (fun _ _ _=>amC) ?_
   rintro q hq
   (try refine am ?_);(try exact amT)
   repeat' with_reducible first|apply zA|intro _
   all_goals try exact amA
   refine⟨l++[q],?_,⟨by simp;omega,fun y hy=>?_⟩,by simp;omega⟩
   ·refine LeA [] ?_ ?_ ?_
    all_goals try refine amL ?_
    all_goals try exact amT
    ·exact rowApp rfl
    ·simp
   ·rcases List.mem_append.1 hy with h|h
    ·exact hb y h
    ·have:y=q:=by simpa using h
     subst this;exact okI_up hq (by omega)
  ·have hL:∀(m:List (List Int)),m.length≤10→(∀y∈m,okI 10 y)→okL (2^10) m:=fun m h1 h2=>⟨by omega,fun y hy=>okI_up (h2 y hy) (by decide)⟩
   have hkk:∀z:Int,(-1000000≤z∧z≤1000000)→inK .i64 z:=fun z h=>⟨by show (-9223372036854775808:Int)≤z;omega,by show z≤(9223372036854775807:Int);omega⟩
   refine CallK.cur (spec_l1Below code.length h 10) rfl rfl rfl (fun _ _ _=>amC) ?_
   rintro z ⟨hz0,hz1⟩
   (try refine am ?_);(try exact amT)
   repeat' with_reducible first|apply zA|intro _
   all_goals try exact amA
   ·have hsets:okL (2^10) (l++[[0]]):=hL _ (by simp;omega) (fun y hy=>by rcases List.mem_append.1 hy with h|h;exact hb y h;obtain rfl:y=[0]:=(by simpa using h);exact⟨by decide,fun x hx=>by simp at hx;subst hx;exact⟨by decide,by decide⟩⟩)
    refine CallK.cur (spec_l1Below code.length h _) rfl rfl rfl (fun _ _ _=>amC) ?_
    rintro a ⟨ha0,ha1⟩
    (try refine am ?_);(try exact amT)
    repeat' with_reducible first|apply zA|intro _
    all_goals try exact amA
    refine CallK.one (specActiveLeaves t _ _ (by omega) ht47) (fun _=>amC) ?_
    (try refine am ?_);(try exact amT)
    repeat' with_reducible first|apply zA|intro _
    all_goals try exact amA
    by_cases h0:(0:Int)<((activeL t).length:Int)
    ·simp only[decide_eq_true h0]
     refine CallG.cur (spec_l1Once code.length h 4) rfl rfl rfl (fun _ _ _=>amC) ?_
     rintro b hb
     (try refine am ?_);(try exact amT)
     repeat' with_reducible first|apply zA|intro _
     all_goals try exact amA
     ·refine CallK.cur (spec_l1Below code.length h _) rfl rfl rfl (fun _ _ _=>amC) ?_
      rintro d ⟨hd0,hd1⟩
      (try refine am ?_);(try exact amT)
      have har:=activeL_rng t d.toNat (by omega)
      repeat' with_reducible first|apply zA|intro _
      all_goals try exact amA
      refine FinK.ex ((s,t,(activeL t).getD d.toNat 0,f,l++[[0]])) ?hq3 ?_
      case hq3=>exact⟨hs,⟨ht,htl⟩,hkk _ (by dsimp only;omega),hf,hsets⟩
      refine FinK.tup ?_ ?_
      all_goals try refine amF ?_
      all_goals try exact amT
      exact rowApp2 oneI0
     ·refine FinK.ex ((s,t,a - 1,f,l++[[0]])) ?hq4 ?_
      case hq4=>exact⟨hs,⟨ht,htl⟩,hkk _ (by dsimp only;omega),hf,hsets⟩
      refine FinK.tup ?_ ?_
      all_goals try refine amF ?_
      all_goals try exact amT
      exact rowApp2 oneI0
    ·simp only[decide_eq_false h0]
     refine CallG.skip ((.one (.bool true))) ?_
     (try refine am ?_);(try exact amT)
     repeat' with_reducible first|apply zA|intro _
     all_goals try exact amA
     refine FinK.ex ((s,t,a - 1,f,l++[[0]])) ?hq5 ?_
     case hq5=>exact⟨hs,⟨ht,htl⟩,hkk _ (by dsimp only;omega),hf,hsets⟩
     refine FinK.tup ?_ ?_
     all_goals try refine amF ?_
     all_goals try exact amT
     exact rowApp2 oneI0
   ·refine CallK.cur (spec_l9Attrs code.length h s _ _ hs20) rfl rfl rfl (fun _ _ _=>amC) ?_
    rintro q hq
    (try refine am ?_);(try exact amT)
    repeat' with_reducible first|apply zA|intro _
    all_goals try exact amA
    have hsets:okL (2^10) (l++[q]):=hL _ (by simp;omega) (fun y hy=>by rcases List.mem_append.1 hy with h|h;exact hb y h;obtain rfl:y=q:=(by simpa using h);exact okI_up hq (by omega))
    refine CallK.cur (spec_l1Below code.length h _) rfl rfl rfl (fun _ _ _=>amC) ?_
    rintro a ⟨ha0,ha1⟩
    (try refine am ?_);(try exact amT)
    repeat' with_reducible first|apply zA|intro _
    all_goals try exact amA
    refine CallK.one (specActiveLeaves t _ _ (by omega) ht47) (fun _=>amC) ?_
    (try refine am ?_);(try exact amT)
    repeat' with_reducible first|apply zA|intro _
    all_goals try exact amA
    by_cases h0:(0:Int)<((activeL t).length:Int)
    ·simp only[decide_eq_true h0]
     refine CallG.cur (spec_l1Once code.length h 4) rfl rfl rfl (fun _ _ _=>amC) ?_
     rintro b hb
     (try refine am ?_);(try exact amT)
     repeat' with_reducible first|apply zA|intro _
     all_goals try exact amA
     ·refine CallK.cur (spec_l1Below code.length h _) rfl rfl rfl (fun _ _ _=>amC) ?_
      rintro d ⟨hd0,hd1⟩
      (try refine am ?_);(try exact amT)
      have har:=activeL_rng t d.toNat (by omega)
      repeat' with_reducible first|apply zA|intro _
      all_goals try exact amA
      refine FinK.ex ((s,t,(activeL t).getD d.toNat 0,f,l++[q])) ?hq6 ?_
      case hq6=>exact⟨hs,⟨ht,htl⟩,hkk _ (by dsimp only;omega),hf,hsets⟩
      refine FinK.tup ?_ ?_
      all_goals try refine amF ?_
      all_goals try exact amT
      exact rowApp rfl
     ·refine FinK.ex ((s,t,a - 1,f,l++[q])) ?hq7 ?_
      case hq7=>exact⟨hs,⟨ht,htl⟩,hkk _ (by dsimp only;omega),hf,hsets⟩
      refine FinK.tup ?_ ?_
      all_goals try refine amF ?_
      all_goals try exact amT
      exact rowApp rfl
    ·simp only[decide_eq_false h0]
     refine CallG.skip ((.one (.bool true))) ?_
     (try refine am ?_);(try exact amT)
     repeat' with_reducible first|apply zA|intro _
     all_goals try exact amA
     refine FinK.ex ((s,t,a - 1,f,l++[q])) ?hq8 ?_
     case hq8=>exact⟨hs,⟨ht,htl⟩,hkk _ (by dsimp only;omega),hf,hsets⟩
     refine FinK.tup ?_ ?_
     all_goals try refine amF ?_
     all_goals try exact amT
     exact rowApp rfl
   ·have hsets:okL (2^10) (l.set 0 []):=okL_setK (hL l (by omega) hb) ⟨Nat.zero_le _,fun x hx=>by simp at hx⟩
    refine CallK.cur (spec_l1Below code.length h _) rfl rfl rfl (fun _ _ _=>amC) ?_
    rintro a ⟨ha0,ha1⟩
    (try refine am ?_);(try exact amT)
    repeat' with_reducible first|apply zA|intro _
    all_goals try exact amA
    refine CallK.one (specActiveLeaves t _ _ (by omega) ht47) (fun _=>amC) ?_
    (try refine am ?_);(try exact amT)
    repeat' with_reducible first|apply zA|intro _
    all_goals try exact amA
    by_cases h0:(0:Int)<((activeL t).length:Int)
    ·simp only[decide_eq_true h0]
     refine CallG.cur (spec_l1Once code.length h 4) rfl rfl rfl (fun _ _ _=>amC) ?_
     rintro b hb
     (try refine am ?_);(try exact amT)
     repeat' with_reducible first|apply zA|intro _
     all_goals try exact amA
     ·refine CallK.cur (spec_l1Below code.length h _) rfl rfl rfl (fun _ _ _=>amC) ?_
      rintro d ⟨hd0,hd1⟩
      (try refine am ?_);(try exact amT)
      have har:=activeL_rng t d.toNat (by omega)
      repeat' with_reducible first|apply zA|intro _
      all_goals try exact amA
      refine FinK.ex ((s,t,(activeL t).getD d.toNat 0,f,l.set 0 [])) ?hq9 ?_
      case hq9=>exact⟨hs,⟨ht,htl⟩,hkk _ (by dsimp only;omega),hf,hsets⟩
      refine FinK.tup ?_ ?_
      all_goals try refine amF ?_
      all_goals try exact amT
      exact rowSt3 (by omega) (ALe.of (.inl rfl) rfl (fun i hi=>by omega))
     ·refine FinK.ex ((s,t,a - 1,f,l.set 0 [])) ?hq10 ?_
      case hq10=>exact⟨hs,⟨ht,htl⟩,hkk _ (by dsimp only;omega),hf,hsets⟩
      refine FinK.tup ?_ ?_
      all_goals try refine amF ?_
      all_goals try exact amT
      exact rowSt3 (by omega) (ALe.of (.inl rfl) rfl (fun i hi=>by omega))
    ·simp only[decide_eq_false h0]
     refine CallG.skip ((.one (.bool true))) ?_
     (try refine am ?_);(try exact amT)
     repeat' with_reducible first|apply zA|intro _
     all_goals try exact amA
     refine FinK.ex ((s,t,a - 1,f,l.set 0 [])) ?hq11 ?_
     case hq11=>exact⟨hs,⟨ht,htl⟩,hkk _ (by dsimp only;omega),hf,hsets⟩
     refine FinK.tup ?_ ?_
     all_goals try refine amF ?_
     all_goals try exact amT
     exact rowSt3 (by omega) (ALe.of (.inl rfl) rfl (fun i hi=>by omega))
   ·have hsets:okL (2^10) (l):=hL l (by omega) hb
    refine CallK.cur (spec_l1Below code.length h _) rfl rfl rfl (fun _ _ _=>amC) ?_
    rintro a ⟨ha0,ha1⟩
    (try refine am ?_);(try exact amT)
    repeat' with_reducible first|apply zA|intro _
    all_goals try exact amA
    refine CallK.one (specActiveLeaves t _ _ (by omega) ht47) (fun _=>amC) ?_
    (try refine am ?_);(try exact amT)
    repeat' with_reducible first|apply zA|intro _
    all_goals try exact amA
    by_cases h0:(0:Int)<((activeL t).length:Int)
    ·simp only[decide_eq_true h0]
     refine CallG.cur (spec_l1Once code.length h 4) rfl rfl rfl (fun _ _ _=>amC) ?_
     rintro b hb
     (try refine am ?_);(try exact amT)
     repeat' with_reducible first|apply zA|intro _
     all_goals try exact amA
     ·refine CallK.cur (spec_l1Below code.length h _) rfl rfl rfl (fun _ _ _=>amC) ?_
      rintro d ⟨hd0,hd1⟩
      (try refine am ?_);(try exact amT)
      have har:=activeL_rng t d.toNat (by omega)
      repeat' with_reducible first|apply zA|intro _
      all_goals try exact amA
      refine FinK.ex ((s,t,(activeL t).getD d.toNat 0,f,l)) ?hq12 ?_
      case hq12=>exact⟨hs,⟨ht,htl⟩,hkk _ (by dsimp only;omega),hf,hsets⟩
      refine FinK.tup ?_ ?_
      all_goals try refine amF ?_
      all_goals try exact amT
     ·refine FinK.ex ((s,t,a - 1,f,l)) ?hq13 ?_
      case hq13=>exact⟨hs,⟨ht,htl⟩,hkk _ (by dsimp only;omega),hf,hsets⟩
      refine FinK.tup ?_ ?_
      all_goals try refine amF ?_
      all_goals try exact amT
    ·simp only[decide_eq_false h0]
     refine CallG.skip ((.one (.bool true))) ?_
     (try refine am ?_);(try exact amT)
     repeat' with_reducible first|apply zA|intro _
     all_goals try exact amA
     refine FinK.ex ((s,t,a - 1,f,l)) ?hq14 ?_
     case hq14=>exact⟨hs,⟨ht,htl⟩,hkk _ (by dsimp only;omega),hf,hsets⟩
     refine FinK.tup ?_ ?_
     all_goals try refine amF ?_
     all_goals try exact amT
   ·have hsets:okL (2^10) (l):=hL l (by omega) hb
    refine CallK.cur (spec_l1Below code.length h _) rfl rfl rfl (fun _ _ _=>amC) ?_
    rintro a ⟨ha0,ha1⟩
    (try refine am ?_);(try exact amT)
    repeat' with_reducible first|apply zA|intro _
    all_goals try exact amA
    refine CallK.one (specActiveLeaves t _ _ (by omega) ht47) (fun _=>amC) ?_
    (try refine am ?_);(try exact amT)
    repeat' with_reducible first|apply zA|intro _
    all_goals try exact amA
    by_cases h0:(0:Int)<((activeL t).length:Int)
    ·simp only[decide_eq_true h0]
     refine CallG.cur (spec_l1Once code.length h 4) rfl rfl rfl (fun _ _ _=>amC) ?_
     rintro b hb
     (try refine am ?_);(try exact amT)
     repeat' with_reducible first|apply zA|intro _
     all_goals try exact amA
     ·refine CallK.cur (spec_l1Below code.length h _) rfl rfl rfl (fun _ _ _=>amC) ?_
      rintro d ⟨hd0,hd1⟩
      (try refine am ?_);(try exact amT)
      have har:=activeL_rng t d.toNat (by omega)
      repeat' with_reducible first|apply zA|intro _
      all_goals try exact amA
      refine FinK.ex ((s,t,(activeL t).getD d.toNat 0,f,l)) ?hq15 ?_
      case hq15=>exact⟨hs,⟨ht,htl⟩,hkk _ (by dsimp only;omega),hf,hsets⟩
      refine FinK.tup ?_ ?_
      all_goals try refine amF ?_
      all_goals try exact amT
     ·refine FinK.ex ((s,t,a - 1,f,l)) ?hq16 ?_
      case hq16=>exact⟨hs,⟨ht,htl⟩,hkk _ (by dsimp only;omega),hf,hsets⟩
      refine FinK.tup ?_ ?_
      all_goals try refine amF ?_
      all_goals try exact amT
    ·simp only[decide_eq_false h0]
     refine CallG.skip ((.one (.bool true))) ?_
     (try refine am ?_);(try exact amT)
     repeat' with_reducible first|apply zA|intro _
     all_goals try exact amA
     refine FinK.ex ((s,t,a - 1,f,l)) ?hq17 ?_
     case hq17=>exact⟨hs,⟨ht,htl⟩,hkk _ (by dsimp only;omega),hf,hsets⟩
     refine FinK.tup ?_ ?_
     all_goals try refine amF ?_
     all_goals try exact amT
end Go.AM
namespace Go.AM
open Go Go.Proofs
set_option maxRecDepth 100000
theorem spec_DrawPathToR (code:List UInt8) (h:code.length≤2^40):ACalls Tryz.prog 19 [.one (aB false code)] (fun r=>∃x:DSchema×DTree×DEx,(okSchema (2^10) x.1∧(okTree (2^12) x.2.1∧x.2.1.nodes.length≤31)∧okEx (2^20+1) x.2.2)∧r=.tup [.agg (cSchema false true x.1),.agg (cTree false true x.2.1),.agg (cEx false false x.2.2)]):=
 ACalls.roX (spec_DrawPathTo code h)
theorem spec_DrawEnforceR (code:List UInt8) (h:code.length≤2^40):ACalls Tryz.prog 8 [.one (aB false code)] (fun r=>∃x:DSchema×DTree×Int,(okSchema (2^10) x.1∧(okTree (2^12) x.2.1∧x.2.1.nodes.length≤31)∧inK .i64 x.2.2)∧r=.tup [.agg (cSchema false true x.1),.agg (cTree false true x.2.1),.one (.int .i64 x.2.2)]):=
 ACalls.roX (spec_DrawEnforce code h)
theorem spec_DrawSplitAtR (code:List UInt8) (h:code.length≤2^40):ACalls Tryz.prog 21 [.one (aB false code)] (fun r=>∃x:DSchema×DTree×Int×DFork×List (List Int),(okSchema (2^10) x.1∧(okTree (2^12) x.2.1∧x.2.1.nodes.length≤31)∧inK .i64 x.2.2.1∧okFork (2^20) x.2.2.2.1∧okL (2^10) x.2.2.2.2)∧r=.tup [.agg (cSchema false true x.1),.agg (cTree false true x.2.1),.one (.int .i64 x.2.2.1),.agg (cFork x.2.2.2.1),.one (aL false true x.2.2.2.2)]):=
 ACalls.roX (spec_DrawSplitAt code h)
end Go.AM
