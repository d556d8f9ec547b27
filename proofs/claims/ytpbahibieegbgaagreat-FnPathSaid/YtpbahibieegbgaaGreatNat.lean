/- Lemmas for the proof of this claim. -/
import Derived.Test.YtpbahibieegbgaaGreatDr1
import Derived.Test.YtpbahibieegbgaaGreatAm4
namespace Go.AM
set_option maxHeartbeats 64000000
open Go Go.Proofs
set_option maxRecDepth 100000
def lims (n:Nat) (l:List Int):Prop:=l.length≤n∧∀i,i<l.length→0≤l.getD i 0∧l.getD i 0≤16777215
theorem lims_nil {n:Nat}:lims n []:=⟨Nat.zero_le _,fun i hi=>by simp at hi⟩
theorem lims_app {n m:Nat} {l:List Int} {x:Int} (h:lims n l) (hx:0≤x∧x≤16777215) (hm:n+1≤m):lims m (l++[x]):=by
 refine⟨by have:=h.1;simp;omega,fun i hi=>?_⟩
 rw[getD_app]
 by_cases e:i<l.length
 ·rw[if_pos e];exact h.2 i e
 ·rw[if_neg e]
  have:i - l.length=0:=by simp at hi;omega
  rw[this];exact hx
theorem lims_take {n k:Nat} {l:List Int} (h:lims n l):lims n (l.take k):=by
 refine⟨by have:=h.1;simp;omega,fun i hi=>?_⟩
 have hi':i<k∧i<l.length:=by simp at hi;omega
 have:(l.take k).getD i 0=l.getD i 0:=by
  rw[List.getD_eq_getElem?_getD,List.getElem?_take,if_pos hi'.1,←List.getD_eq_getElem?_getD]
 rw[this];exact h.2 i hi'.2
theorem lims_set {n k:Nat} {l:List Int} {z:Int} (h:lims n l) (hz:0≤z∧z≤16777215):lims n (l.set k z):=by
 refine⟨by simpa using h.1,fun i hi=>?_⟩
 have hi':i<l.length:=by simpa using hi
 by_cases e:k=i
 ·subst e
  rw[List.getD_eq_getElem?_getD,List.getElem?_set,if_pos rfl,if_pos hi']
  exact hz
 ·rw[List.getD_eq_getElem?_getD,List.getElem?_set,if_neg e,←List.getD_eq_getElem?_getD]
  exact h.2 i hi'
theorem lims_at {n:Nat} {l:List Int} (h:lims n l) (i:Nat):0≤l.getD i 0∧l.getD i 0≤16777215:=by
 by_cases e:i<l.length
 ·exact h.2 i e
 ·have:l.getD i 0=0:=by simp[List.getD,Nat.le_of_not_lt e]
  rw[this];decide
theorem takeLe {l:List Int} {i:Nat} {nl:Option Bool} {f:Nat→Nat→AV} (hi:i≤l.length):ALe (.sl true nl 1 i (apF 0 f fun i j=>match fI l i j with|AV.sl _ nl es n f=>AV.sl false nl es n f|AV.mp _=>AV.junk|a=>a)) (.sl true none 1 (l.take i).length (fI (l.take i))):=by
 refine ALe.of (.inl rfl) (by simp;omega) (fun a ha j hj=>?_)
 obtain rfl:j=0:=by omega
 unfold apF
 rw[if_neg (Nat.not_lt_zero _),Nat.sub_zero,fI_at]
 dsimp only
 rw[fI_at]
 have:(l.take i).getD a 0=l.getD a 0:=by
  rw[List.getD_eq_getElem?_getD,List.getElem?_take,if_pos ha,←List.getD_eq_getElem?_getD]
 rw[this];exact .refl _
theorem specNatOk (l:List Int) (u:Bool) (nl:Option Bool) (hl:l.length≤2^40):ACalls Tryz.prog 241 [.one (.sl u nl 1 l.length (fI l))] (fun r=>∃b:Bool,(b=true→lims 16 l)∧r=.val (.one (.bool b))):=by
 have nt:Tryz.f241.ntmps=31:=rfl
 have rs:Tryz.f241.results=#[.tmp 2]:=rfl
 refine ACalls.of_runC (m:=400) mixed Tryz.func241 rfl rfl (Nat.le_of_ble_eq_true rfl) ?_
 simp only[nt,rs]
 clear nt rs
 (try refine am ?_);(try exact amT)
 repeat' with_reducible first|apply zA|intro _
 all_goals try exact amA
 ·refine FinK.ex (false) ?hq1 ?_
  case hq1=>exact fun e=>by cases e
  refine FinK.val1 ?_ ?_
  all_goals try refine amF ?_
  all_goals try exact amT
 refine LoopK.auto (Nat) (fun i=>[(3,.one (.av (.int .i64 i)))]) (fun i=>[]) [0] (k0:=?k01) (keepH:=?kh1) 400 (fun i=>i≤l.length∧∀j,j<i→0≤l.getD j 0∧l.getD j 0≤16777215) (fun i=>l.length - i) (0) ?kea1 ?keb1 ?_ ?_ ?_
 case kea1=>exact amN
 case keb1=>exact amN
 ·exact⟨Nat.zero_le _,fun j hj=>by omega⟩
 ·refine LeA [] ?_ ?_ ?_
  all_goals try refine amL ?_
  all_goals try exact amT
 ·intro i hi
  obtain⟨hi,hb⟩:=hi
  (try refine am ?_);(try exact amT)
  repeat' with_reducible first|apply zA|intro _
  all_goals try exact amA
  ·refine CallK.one (l1In (l.getD i 0) 0 16777215) (fun _=>amC) ?_
   (try refine am ?_);(try exact amT)
   repeat' with_reducible first|apply zA|intro _
   all_goals try exact amA
   ·refine FinK.ex (false) ?hq2 ?_
    case hq2=>exact fun e=>by cases e
    refine FinK.val1 ?_ ?_
    all_goals try refine amF ?_
    all_goals try exact amT
   ·refine⟨i+1,?_,⟨by omega,fun j hj=>?_⟩,by omega⟩
    ·refine LeA [] ?_ ?_ ?_
     all_goals try refine amL ?_
     all_goals try exact amT
    ·by_cases e:j=i
     ·subst e;assumption
     ·exact hb j (by omega)
  ·have hll:lims 16 l:=⟨by omega,fun j hj=>hb j (by omega)⟩
   refine FinK.ex (decide ((l.length:Int)=0∨¬l.getD ((l.length:Int) - 1).toNat 0=0)) ?hq3 ?_
   case hq3=>exact fun _=>hll
   refine FinK.val1 ?_ ?_
   all_goals try refine amF ?_
   all_goals try exact amT
   simp only[Bool.decide_or,decide_not]
theorem spec_l2Limb (l:List Int) (u:Bool) (nl:Option Bool) (i:Nat) (_:l.length≤2^40):ACalls Tryz.prog 243 [.one (.sl u nl 1 l.length (fI l)),.one (.int .i64 i)] (fun r=>r=.val (.one (.int .i64 (l.getD i 0)))):=by
 have nt:Tryz.f243.ntmps=13:=rfl
 have rs:Tryz.f243.results=#[.tmp 4]:=rfl
 refine ACalls.of_run (m:=400) mixed Tryz.func243 rfl rfl (Nat.le_of_ble_eq_true rfl) ?_
 simp only[nt,rs]
 clear nt rs
 (try refine am ?_);(try exact amT)
 repeat' with_reducible first|apply zA|intro _
 all_goals try exact amA
 ·refine FinK.val1 ?_ ?_
  all_goals try refine amF ?_
  all_goals try exact amT
 ·refine FinK.val1 ?_ ?_
  all_goals try refine amF ?_
  all_goals try exact amT
  have:l.getD i 0=0:=by rw[List.getD_eq_getElem?_getD,List.getElem?_eq_none (by omega)];rfl
  exact this.symm
theorem spec_l2Trim (n:Nat) (l:List Int) (u:Bool) (nl:Option Bool) (hl:lims n l) (hn:n≤100):ACalls Tryz.prog 246 [.one (.sl u nl 1 l.length (fI l))] (fun r=>∃m:List Int,lims n m∧r=.val (.one (aI true m))):=by
 have hll:=hl.1
 have nt:Tryz.f246.ntmps=23:=rfl
 have rs:Tryz.f246.results=#[.tmp 2]:=rfl
 refine ACalls.of_runC (m:=400) mixed Tryz.func246 rfl rfl (Nat.le_of_ble_eq_true rfl) ?_
 simp only[nt,rs]
 clear nt rs
 (try refine am ?_);(try exact amT)
 refine LoopK.auto (Nat) (fun i=>[(3,.one (.av (.int .i64 i)))]) (fun i=>[]) [0] (k0:=?k02) (keepH:=?kh2) 400 (fun i=>i≤l.length) (fun i=>i) (l.length) ?kea2 ?keb2 ?_ ?_ ?_
 case kea2=>exact amN
 case keb2=>exact amN
 ·exact Nat.le_refl _
 ·refine LeA [] ?_ ?_ ?_
  all_goals try refine amL ?_
  all_goals try exact amT
 ·intro i hi
  (try refine am ?_);(try exact amT)
  repeat' with_reducible first|apply zA|intro _
  all_goals try exact amA
  ·refine⟨i - 1,?_,by omega,by omega⟩
   refine LeA [] ?_ ?_ ?_
   all_goals try refine amL ?_
   all_goals try exact amT
   omega
  ·refine FinK.ex (l.take i) ?hq4 ?_
   case hq4=>exact lims_take hl
   refine FinK.val1 ?_ ?_
   all_goals try refine amF ?_
   all_goals try exact amT
   exact takeLe hi
theorem specNatOf (n:Int) (hn:inK .i64 n):ACalls Tryz.prog 244 [.one (.int .i64 n)] (fun r=>∃x:List Int×Bool,lims 3 x.1∧r=.tup [.one (aI true x.1),.one (.bool x.2)]):=by
 have hn2:n≤(9223372036854775807:Int):=hn.2
 have nt:Tryz.f244.ntmps=19:=rfl
 have rs:Tryz.f244.results=#[.tmp 2,.tmp 3]:=rfl
 refine ACalls.of_runC (m:=400) mixed Tryz.func244 rfl rfl (Nat.le_of_ble_eq_true rfl) ?_
 simp only[nt,rs]
 clear nt rs
 (try refine am ?_);(try exact amT)
 repeat' with_reducible first|apply zA|intro _
 all_goals try exact amA
 ·refine FinK.ex (([],false)) ?hq5 ?_
  case hq5=>exact lims_nil
  refine FinK.tup ?_ ?_
  all_goals try refine amF ?_
  all_goals try exact amT
  exact ALe.of (.inl rfl) rfl (fun i hi=>by omega)
 refine LoopK.auto ((List Int×Int)) (fun x=>[(0,.one (.av (.int .i64 x.2))),(4,.one (.own 302 [] [0]))]) (fun x=>[(302,⟨.sl true none 1 x.1.length (fI x.1),[]⟩)]) [] (k0:=?k03) (keepH:=?kh3) 400 (fun x=>lims 3 x.1∧0≤x.2∧(x.1.length=0∧x.2≤9223372036854775807∨x.1.length=1∧x.2≤549755813888∨x.1.length=2∧x.2≤32768∨x.2=0)) (fun x=>x.2.toNat) (([],n)) ?kea3 ?keb3 ?_ ?_ ?_
 case kea3=>exact amN
 case keb3=>exact amN
 ·exact⟨lims_nil,by omega,.inl ⟨rfl,hn2⟩⟩
 ·refine LeA [] ?_ ?_ ?_
  all_goals try refine amL ?_
  all_goals try exact amT
  exact ALe.of (.inl rfl) rfl (fun i hi=>by omega)
 ·rintro⟨l,x⟩ ⟨hl,hx,hd⟩
  dsimp only at hl hx hd ⊢
  have hll:=hl.1
  have hm:x.tmod 16777216=x % 16777216:=Int.tmod_eq_emod_of_nonneg hx
  have hq:x.tdiv 16777216=x / 16777216:=Int.tdiv_eq_ediv_of_nonneg hx
  have hap:(l++[x % 16777216]).length=l.length+1:=by simp
  (try refine am ?_);(try simp only[hm,hq]);(try refine am ?_);(try exact amT)
  repeat' with_reducible first|apply zA|intro _
  all_goals try exact amA
  ·refine⟨(l++[x % 16777216],x / 16777216),?_,⟨lims_app (n:=l.length) ⟨Nat.le_refl _,hl.2⟩ (by omega) (by omega),by dsimp only;omega,by dsimp only;rw[hap];omega⟩,by dsimp only;omega⟩
   refine LeA [] ?_ ?_ ?_
   all_goals try refine amL ?_
   all_goals try exact amT
   exact appIntD rfl
  ·refine FinK.ex ((l,true)) ?hq6 ?_
   case hq6=>exact hl
   refine FinK.tup ?_ ?_
   all_goals try refine amF ?_
   all_goals try exact amT
theorem specNatCmp (a b:List Int) (u v:Bool) (nl nl':Option Bool) (ha:a.length≤2^40) (hb:b.length≤2^40):ACalls Tryz.prog 231 [.one (.sl u nl 1 a.length (fI a)),.one (.sl v nl' 1 b.length (fI b))] (fun r=>∃z:Int,(-2≤z∧z≤1)∧r=.val (.one (.int .i64 z))):=by
 have nt:Tryz.f231.ntmps=38:=rfl
 have rs:Tryz.f231.results=#[.tmp 4]:=rfl
 refine ACalls.of_runC (m:=400) mixed Tryz.func231 rfl rfl (Nat.le_of_ble_eq_true rfl) ?_
 simp only[nt,rs]
 clear nt rs
 (try refine am ?_);(try exact amT)
 repeat' with_reducible first|apply zA|intro _
 all_goals try exact amA
 refine CallK.ex (specNatOk a _ _ ha) (fun _ _ _=>amC) ?_
 rintro x hx
 (try refine am ?_);(try exact amT)
 repeat' with_reducible first|apply zA|intro _
 all_goals try exact amA
 refine CallG.exB (fun hg=>specNatOk b _ _ hb) ?_
 rintro y hy
 (try refine am ?_);(try exact amT)
 repeat' with_reducible first|apply zA|intro _
 all_goals try exact amA
 ·refine FinK.ex (-2) ?hq7 ?_
  case hq7=>exact by omega
  refine FinK.val1 ?_ ?_
  all_goals try refine amF ?_
  all_goals try exact amT
 refine CallK.one (spec_l1Max (a.length:Int) (b.length:Int)) (fun _=>amC) ?_
 (try refine am ?_);(try exact amT)
 repeat' with_reducible first|apply zA|intro _
 all_goals try exact amA
 refine LoopK.auto (Nat) (fun i=>[(5,.one (.av (.int .i64 ((i:Int) - 1))))]) (fun i=>[]) [0,1] (k0:=?k04) (keepH:=?kh4) 400 (fun i=>i≤2^40) (fun i=>i) ((max a.length b.length)) ?kea4 ?keb4 ?_ ?_ ?_
 case kea4=>exact amN
 case keb4=>exact amN
 ·omega
 ·refine LeA [] ?_ ?_ ?_
  all_goals try refine amL ?_
  all_goals try exact amT
  split<;>omega
 ·intro i hi
  (try refine am ?_);(try exact amT)
  repeat' with_reducible first|apply zA|intro _
  all_goals try exact amA
  ·obtain⟨k,rfl⟩:∃k,i=k+1:=⟨i - 1,by omega⟩
   have ek:((k+1:Nat):Int) - 1=(k:Int):=by omega
   rw[ek]
   refine CallK.one (spec_l2Limb a _ _ k ha) (fun _=>amC) ?_
   (try refine am ?_);(try exact amT)
   repeat' with_reducible first|apply zA|intro _
   all_goals try exact amA
   refine CallK.one (spec_l2Limb b _ _ k hb) (fun _=>amC) ?_
   (try refine am ?_);(try exact amT)
   repeat' with_reducible first|apply zA|intro _
   all_goals try exact amA
   ·refine FinK.ex (-1) ?hq8 ?_
    case hq8=>exact by omega
    refine FinK.val1 ?_ ?_
    all_goals try refine amF ?_
    all_goals try exact amT
   ·refine FinK.ex (1) ?hq9 ?_
    case hq9=>exact by omega
    refine FinK.val1 ?_ ?_
    all_goals try refine amF ?_
    all_goals try exact amT
   ·refine⟨k,?_,by omega,by omega⟩
    refine LeA [] ?_ ?_ ?_
    all_goals try refine amL ?_
    all_goals try exact amT
  ·refine FinK.ex (0) ?hq10 ?_
   case hq10=>exact by omega
   refine FinK.val1 ?_ ?_
   all_goals try refine amF ?_
   all_goals try exact amT
theorem specNatSub (a b:List Int) (u v:Bool) (nl nl':Option Bool) (ha:a.length≤2^40) (hb:b.length≤2^40):ACalls Tryz.prog 245 [.one (.sl u nl 1 a.length (fI a)),.one (.sl v nl' 1 b.length (fI b))] (fun r=>∃x:List Int×Bool,lims 16 x.1∧r=.tup [.one (aI true x.1),.one (.bool x.2)]):=by
 have nt:Tryz.f245.ntmps=52:=rfl
 have rs:Tryz.f245.results=#[.tmp 4,.tmp 5]:=rfl
 refine ACalls.of_runC (m:=400) mixed Tryz.func245 rfl rfl (Nat.le_of_ble_eq_true rfl) ?_
 simp only[nt,rs]
 clear nt rs
 (try refine am ?_);(try exact amT)
 repeat' with_reducible first|apply zA|intro _
 all_goals try exact amA
 refine CallK.ex (specNatOk a _ _ ha) (fun _ _ _=>amC) ?_
 rintro x hx
 (try refine am ?_);(try exact amT)
 repeat' with_reducible first|apply zA|intro _
 all_goals try exact amA
 refine CallG.exB (fun hg=>specNatOk b _ _ hb) ?_
 rintro y hy
 (try refine am ?_);(try exact amT)
 repeat' with_reducible first|apply zA|intro _
 all_goals try exact amA
 refine CallG.exI (fun hg=>specNatCmp a b _ _ _ _ ha hb) ?_
 rintro z hz
 (try refine am ?_);(try exact amT)
 repeat' with_reducible first|apply zA|intro _
 all_goals try exact amA
 ·refine FinK.ex (([],false)) ?hq11 ?_
  case hq11=>exact lims_nil
  refine FinK.tup ?_ ?_
  all_goals try refine amF ?_
  all_goals try exact amT
  exact ALe.of (.inl rfl) rfl (fun i hi=>by omega)
 have hla:lims 16 a:=by simp_all
 have hlb:lims 16 b:=by simp_all
 have hla1:=hla.1
 refine LoopK.auto ((List Int×Int)) (fun x=>[(8,.one (.av (.int .i64 x.1.length))),(7,.one (.av (.int .i64 x.2))),(6,.one (.own 302 [] [0]))]) (fun x=>[(302,⟨.sl true none 1 x.1.length (fI x.1),[]⟩)]) [0,1] (k0:=?k05) (keepH:=?kh5) 400 (fun x=>(x.1.length≤a.length∧lims 16 x.1)∧0≤x.2∧x.2≤1) (fun x=>a.length - x.1.length) (([],0)) ?kea5 ?keb5 ?_ ?_ ?_
 case kea5=>exact amN
 case keb5=>exact amN
 ·exact⟨⟨Nat.zero_le _,lims_nil⟩,by dsimp only;omega,by dsimp only;omega⟩
 ·refine LeA [] ?_ ?_ ?_
  all_goals try refine amL ?_
  all_goals try exact amT
  exact ALe.of (.inl rfl) rfl (fun i hi=>by omega)
 ·rintro⟨l,c⟩ ⟨⟨hl,hll⟩,hc0,hc1⟩
  dsimp only at hl hll hc0 hc1 ⊢
  have h1:=lims_at hla l.length
  have h2:=lims_at hlb l.length
  (try refine am ?_);(try exact amT)
  repeat' with_reducible first|apply zA|intro _
  all_goals try exact amA
  ·refine CallCE.one (spec_l2Limb b _ _ l.length hb) (fun _=>amC) rfl ?_
   (try refine am ?_);(try exact amT)
   repeat' with_reducible first|apply zA|intro _
   all_goals try exact amA
   ·refine⟨(l++[a.getD l.length 0 - b.getD l.length 0 - c+16777216],1),?_,⟨⟨by simp;omega,lims_app (n:=l.length) ⟨Nat.le_refl _,hll.2⟩ (by omega) (by omega)⟩,by dsimp only;omega,by dsimp only;omega⟩,by simp;omega⟩
    refine LeA [] ?_ ?_ ?_
    all_goals try refine amL ?_
    all_goals try exact amT
    ·exact appIntD rfl
    ·simp
   ·refine⟨(l++[a.getD l.length 0 - b.getD l.length 0 - c],0),?_,⟨⟨by simp;omega,lims_app (n:=l.length) ⟨Nat.le_refl _,hll.2⟩ (by omega) (by omega)⟩,by dsimp only;omega,by dsimp only;omega⟩,by simp;omega⟩
    refine LeA [] ?_ ?_ ?_
    all_goals try refine amL ?_
    all_goals try exact amT
    ·exact appIntD rfl
    ·simp
  ·refine CallK.ex (spec_l2Trim 16 l _ _ hll (by decide)) (fun _ _ _=>amC) ?_
   rintro m hm
   (try refine am ?_);(try exact amT)
   repeat' with_reducible first|apply zA|intro _
   all_goals try exact amA
   refine FinK.ex ((m,true)) ?hq12 ?_
   case hq12=>exact hm
   refine FinK.tup ?_ ?_
   all_goals try refine amF ?_
   all_goals try exact amT
theorem setLeN {l:List Int} {s n:Nat} {z:Int} {nl:Option Bool} (hn:n=l.length):ALe (.sl true nl 1 n fun i' j'=>if i'=s∧0≤j'∧j'<1 then gl .junk [.int .i64 z] j' else fI l i' j') (.sl true none 1 (l.set s z).length (fI (l.set s z))):=by
 subst hn
 refine ALe.of (.inl rfl) (by simp) (fun a ha j hj=>?_)
 obtain rfl:j=0:=by omega
 by_cases e2:a=s
 ·subst e2
  rw[if_pos ⟨rfl,Nat.le_refl _,Nat.zero_lt_one⟩,fI_at]
  have:(l.set a z).getD a 0=z:=by rw[List.getD_eq_getElem?_getD,List.getElem?_set,if_pos rfl,if_pos ha];rfl
  rw[this]
  exact .refl _
 ·rw[if_neg (fun h=>e2 h.1),fI_at,fI_at]
  have:(l.set s z).getD a 0=l.getD a 0:=by rw[List.getD_eq_getElem?_getD,List.getElem?_set,if_neg (Ne.symm e2),←List.getD_eq_getElem?_getD]
  rw[this]
  exact .refl _
theorem rep0_get {n i:Nat}:(List.replicate n (0:Int)).getD i 0=0:=by
 rw[List.getD_eq_getElem?_getD,List.getElem?_replicate]
 split<;>rfl
theorem repLe {n k:Nat} {nl:Option Bool} (h:n=k):ALe (AV.sl true nl 1 n fun _ j=>gl AV.junk [AV.int IntKind.i64 0] j) (AV.sl true none 1 (List.replicate k (0:Int)).length (fI (List.replicate k 0))):=by
 refine ALe.of (.inl rfl) (by simp[h]) (fun a ha j hj=>?_)
 obtain rfl:j=0:=by omega
 rw[fI_at,rep0_get]
 exact .refl _
theorem getDsi {l:List Int} {i k:Nat} {v:Int} (h:k≠i):(l.set i v).getD k 0=l.getD k 0:=by
 rw[List.getD_eq_getElem?_getD,List.getElem?_set,if_neg (Ne.symm h),←List.getD_eq_getElem?_getD]
theorem specNatMul (a b:List Int) (u v:Bool) (nl nl':Option Bool) (ha:a.length≤2^40) (hb:b.length≤2^40):ACalls Tryz.prog 234 [.one (.sl u nl 1 a.length (fI a)),.one (.sl v nl' 1 b.length (fI b))] (fun r=>∃x:List Int×Bool,lims 16 x.1∧r=.tup [.one (aI true x.1),.one (.bool x.2)]):=by
 have nt:Tryz.f234.ntmps=88:=rfl
 have rs:Tryz.f234.results=#[.tmp 4,.tmp 5]:=rfl
 refine ACalls.of_runC (m:=400) mixed Tryz.func234 rfl rfl (Nat.le_of_ble_eq_true rfl) ?_
 simp only[nt,rs]
 clear nt rs
 (try refine am ?_);(try exact amT)
 repeat' with_reducible first|apply zA|intro _
 all_goals try exact amA
 refine CallK.ex (specNatOk a _ _ ha) (fun _ _ _=>amC) ?_
 rintro x hx
 (try refine am ?_);(try exact amT)
 repeat' with_reducible first|apply zA|intro _
 all_goals try exact amA
 refine CallG.exB (fun hg=>specNatOk b _ _ hb) ?_
 rintro y hy
 (try refine am ?_);(try exact amT)
 repeat' with_reducible first|apply zA|intro _
 all_goals try exact amA
 ·refine FinK.ex (([],false)) ?hq13 ?_
  case hq13=>exact lims_nil
  refine FinK.tup ?_ ?_
  all_goals try refine amF ?_
  all_goals try exact amT
  exact ALe.of (.inl rfl) rfl (fun i hi=>by omega)
 have hla:lims 16 a:=by simp_all
 have hlb:lims 16 b:=by simp_all
 have hla1:=hla.1
 have hlb1:=hlb.1
 have hmul:∀i j,0≤a.getD i 0*b.getD j 0∧a.getD i 0*b.getD j 0≤16777215*16777215:=fun i j=>by
  have h1:=lims_at hla i
  have h2:=lims_at hlb j
  exact⟨Int.mul_nonneg h1.1 h2.1,Int.mul_le_mul h1.2 h2.2 h2.1 (by decide)⟩
 refine LoopK.auto ((List Int×Nat)) (fun x=>[(7,.one (.av (.int .i64 x.2))),(6,.one (.own 302 [] [0]))]) (fun x=>[(302,⟨.sl true none 1 x.1.length (fI x.1),[]⟩)]) [0,1] (k0:=?k06) (keepH:=?kh6) 400 (fun x=>(x.1.length=a.length+b.length+1∧x.2≤a.length)∧lims 33 x.1∧∀k,x.2+b.length≤k→x.1.getD k 0=0) (fun x=>a.length - x.2) ((List.replicate (a.length+b.length+1) 0,0)) ?kea6 ?keb6 ?_ ?_ ?_
 case kea6=>exact amN
 case keb6=>exact amN
 ·exact⟨⟨by simp,Nat.zero_le _⟩,⟨by simp;omega,fun i hi=>by rw[rep0_get];decide⟩,fun k hk=>rep0_get⟩
 ·refine LeA [] ?_ ?_ ?_
  all_goals try refine amL ?_
  all_goals try exact amT
  exact repLe (by omega)
 ·rintro⟨l,i⟩ ⟨⟨hl,hi⟩,hll,hz⟩
  dsimp only at hl hi hll hz ⊢
  (try refine am ?_);(try exact amT)
  repeat' with_reducible first|apply zA|intro _
  all_goals try exact amA
  ·refine LoopK.auto ((List Int×Nat×Int)) (fun x=>[(9,.one (.av (.int .i64 x.2.1))),(8,.one (.av (.int .i64 x.2.2))),(6,.one (.own 303 [] [0]))]) (fun x=>[(303,⟨.sl true none 1 x.1.length (fI x.1),[]⟩)]) [0,1,7] (k0:=?k07) (keepH:=?kh7) 700 (fun x=>(x.1.length=a.length+b.length+1∧x.2.1≤b.length)∧(lims 33 x.1∧∀k,i+b.length≤k→x.1.getD k 0=0)∧0≤x.2.2∧x.2.2≤16777215) (fun x=>b.length - x.2.1) ((l,0,0)) ?kea7 ?keb7 ?_ ?_ ?_
   case kea7=>exact amN
   case keb7=>exact amN
   ·exact⟨⟨hl,Nat.zero_le _⟩,⟨hll,hz⟩,by dsimp only;omega,by dsimp only;omega⟩
   ·refine LeA [] ?_ ?_ ?_
    all_goals try refine amL ?_
    all_goals try exact amT
   ·rintro⟨m,j,c⟩ ⟨⟨hm,hj⟩,⟨hml,hmz⟩,hc0,hc1⟩
    dsimp only at hm hj hml hmz hc0 hc1 ⊢
    have h1:=lims_at hml (i+j)
    have h3:=hmul i j
    have hE:((i:Int)+(j:Int)).toNat=i+j:=by omega
    have hE2:((i:Int)+(b.length:Int)).toNat=i+b.length:=by omega
    have hzz:=hmz (i+b.length) (Nat.le_refl _)
    have hX:0≤m.getD (i+j) 0+a.getD i 0*b.getD j 0+c:=by omega
    have hmo:(m.getD (i+j) 0+a.getD i 0*b.getD j 0+c).tmod 16777216=(m.getD (i+j) 0+a.getD i 0*b.getD j 0+c) % 16777216:=Int.tmod_eq_emod_of_nonneg hX
    have hq:(m.getD (i+j) 0+a.getD i 0*b.getD j 0+c).tdiv 16777216=(m.getD (i+j) 0+a.getD i 0*b.getD j 0+c) / 16777216:=Int.tdiv_eq_ediv_of_nonneg hX
    (try refine am ?_);(try simp only[hE,hE2,hmo,hq,hzz]);(try refine am ?_);(try exact amT)
    repeat' with_reducible first|apply zA|intro _
    all_goals try exact amA
    ·refine⟨(m.set (i+j) ((m.getD (i+j) 0+a.getD i 0*b.getD j 0+c) % 16777216),j+1,(m.getD (i+j) 0+a.getD i 0*b.getD j 0+c) / 16777216),?_,⟨⟨by simpa using hm,by simp only;omega⟩,⟨lims_set hml (by omega),fun k hk=>?_⟩,by simp only;omega⟩,by simp only;omega⟩
     ·refine LeA [] ?_ ?_ ?_
      all_goals try refine amL ?_
      all_goals try exact amT
      exact setLeN rfl
     ·rw[getDsi (by omega)];exact hmz k hk
    ·refine⟨(m.set (i+b.length) (0+c),i+1),?_,⟨⟨by simpa using hm,by simp only;omega⟩,lims_set hml (by omega),fun k hk=>?_⟩,by simp only;omega⟩
     ·refine LeA [] ?_ ?_ ?_
      all_goals try refine amL ?_
      all_goals try exact amT
      exact setLeN rfl
     ·dsimp only at hk;rw[getDsi (by omega)];exact hmz k (by omega)
  ·refine CallK.ex (spec_l2Trim 33 l _ _ hll (by decide)) (fun _ _ _=>amC) ?_
   rintro m hm
   (try refine am ?_);(try exact amT)
   repeat' with_reducible first|apply zA|intro _
   all_goals try exact amA
   ·refine FinK.ex (([],false)) ?hq14 ?_
    case hq14=>exact lims_nil
    refine FinK.tup ?_ ?_
    all_goals try refine amF ?_
    all_goals try exact amT
    exact ALe.of (.inl rfl) rfl (fun i hi=>by omega)
   ·refine FinK.ex ((m,true)) ?hq15 ?_
    case hq15=>exact⟨by dsimp only;omega,hm.2⟩
    refine FinK.tup ?_ ?_
    all_goals try refine amF ?_
    all_goals try exact amT
theorem spec_l3Times (x y:Int) (hx:inK .i64 x) (hy:inK .i64 y):ACalls Tryz.prog 232 [.one (.int .i64 x),.one (.int .i64 y)] (fun r=>∃l:List Int,lims 16 l∧r=.val (.one (aI true l))):=by
 have nt:Tryz.f232.ntmps=28:=rfl
 have rs:Tryz.f232.results=#[.tmp 4]:=rfl
 refine ACalls.of_runC (m:=400) mixed Tryz.func232 rfl rfl (Nat.le_of_ble_eq_true rfl) ?_
 simp only[nt,rs]
 clear nt rs
 (try refine am ?_);(try exact amT)
 refine CallK.ex (specNatOf x hx) (fun _ _ _=>amC) ?_
 rintro⟨a,p⟩ ha
 (try refine am ?_);(try exact amT)
 dsimp only at ha ⊢
 have ha1:=ha.1
 repeat' with_reducible first|apply zA|intro _
 all_goals try exact amA
 refine CallK.ex (specNatOf y hy) (fun _ _ _=>amC) ?_
 rintro⟨b,q⟩ hb
 (try refine am ?_);(try exact amT)
 dsimp only at hb ⊢
 have hb1:=hb.1
 repeat' with_reducible first|apply zA|intro _
 all_goals try exact amA
 refine CallK.ex (specNatMul a b _ _ _ _ (by omega) (by omega)) (fun _ _ _=>amC) ?_
 rintro⟨m,z⟩ hm
 (try refine am ?_);(try exact amT)
 dsimp only at hm ⊢
 repeat' with_reducible first|apply zA|intro _
 all_goals try exact amA
 refine FinK.ex (m) ?hq16 ?_
 case hq16=>exact hm
 refine FinK.val1 ?_ ?_
 all_goals try refine amF ?_
 all_goals try exact amT
theorem specFracOk (x:DFrac):ACalls Tryz.prog 230 [.agg (cFrac x)] (fun r=>r=.val (.one (.bool (decide ((0≤x.num∧x.num≤4000000000000000)∧1≤x.den∧x.den≤4000000000000000))))):=by
 have nt:Tryz.f230.ntmps=11:=rfl
 have rs:Tryz.f230.results=#[.tmp 2]:=rfl
 refine ACalls.of_run (m:=400) mixed Tryz.func230 rfl rfl (Nat.le_of_ble_eq_true rfl) ?_
 simp only[nt,rs]
 clear nt rs
 (try refine am ?_);(try exact amT)
 refine CallK.one (l1In x.num 0 4000000000000000) (fun _=>amC) ?_
 (try refine am ?_);(try exact amT)
 repeat' with_reducible first|apply zA|intro _
 all_goals try exact amA
 refine CallG.one rfl (fun hg=>l1In x.den 1 4000000000000000) ?_
 (try refine am ?_);(try exact amT)
 repeat' with_reducible first|apply zA|intro _
 all_goals try exact amA
 refine FinK.val1 ?_ ?_
 all_goals try refine amF ?_
 all_goals try exact amT
theorem specFracCmp (x y:DFrac) (hx:okFrac (2^40) x) (hy:okFrac (2^40) y):ACalls Tryz.prog 219 [.agg (cFrac x),.agg (cFrac y)] (fun r=>∃z:Int,(-2≤z∧z≤1)∧r=.val (.one (.int .i64 z))):=by
 have nt:Tryz.f219.ntmps=24:=rfl
 have rs:Tryz.f219.results=#[.tmp 4]:=rfl
 refine ACalls.of_runC (m:=400) mixed Tryz.func219 rfl rfl (Nat.le_of_ble_eq_true rfl) ?_
 simp only[nt,rs]
 clear nt rs
 (try refine am ?_);(try exact amT)
 refine CallK.one (specFracOk x) (fun _=>amC) ?_
 (try refine am ?_);(try exact amT)
 repeat' with_reducible first|apply zA|intro _
 all_goals try exact amA
 refine CallG.one rfl (fun hg=>specFracOk y) ?_
 (try refine am ?_);(try exact amT)
 repeat' with_reducible first|apply zA|intro _
 all_goals try exact amA
 ·refine FinK.ex (-2) ?hq17 ?_
  case hq17=>exact by omega
  refine FinK.val1 ?_ ?_
  all_goals try refine amF ?_
  all_goals try exact amT
 refine CallCE.ex (spec_l3Times x.num y.den hx.1 hy.2) rfl ([]) ?hcq (fun _ _ _=>amC) (fun _=>rfl) (fun _=>rfl) ?_
 case hcq=>exact lims_nil
 rintro l hl
 (try refine am ?_);(try exact amT)
 have hl1:=hl.1
 refine CallCE.ex (spec_l3Times y.num x.den hy.1 hx.2) rfl ([]) ?hcq (fun _ _ _=>amC) (fun _=>rfl) (fun _=>rfl) ?_
 case hcq=>exact lims_nil
 rintro m hm
 (try refine am ?_);(try exact amT)
 have hm1:=hm.1
 refine CallCE.ex (specNatCmp l m _ _ _ _ (by omega) (by omega)) rfl (0) ?hcq (fun _ _ _=>amC) (fun _=>rfl) (fun _=>rfl) ?_
 case hcq=>exact by omega
 rintro z hz
 (try refine am ?_);(try exact amT)
 repeat' with_reducible first|apply zA|intro _
 all_goals try exact amA
 refine FinK.ex (z) ?hq18 ?_
 case hq18=>exact hz
 refine FinK.val1 ?_ ?_
 all_goals try refine amF ?_
 all_goals try exact amT
theorem specGcd (a b:Int) (ha:0≤a∧a≤4000000000000000) (hb:1≤b∧b≤4000000000000000):ACalls Tryz.prog 250 [.one (.int .i64 a),.one (.int .i64 b)] (fun r=>∃d:Int,(1≤d∧d≤4000000000000000)∧r=.val (.one (.int .i64 d))):=by
 have nt:Tryz.f250.ntmps=20:=rfl
 have rs:Tryz.f250.results=#[.tmp 4]:=rfl
 refine ACalls.of_runC (m:=400) mixed Tryz.func250 rfl rfl (Nat.le_of_ble_eq_true rfl) ?_
 simp only[nt,rs]
 clear nt rs
 (try refine am ?_);(try exact amT)
 repeat' with_reducible first|apply zA|intro _
 all_goals try exact amA
 refine LoopK.auto ((Int×Int)) (fun x=>[(0,.one (.av (.int .i64 x.1))),(1,.one (.av (.int .i64 x.2)))]) (fun x=>[]) [] (k0:=?k08) (keepH:=?kh8) 400 (fun x=>(0≤x.1∧x.1≤4000000000000000)∧(0≤x.2∧x.2≤4000000000000000)∧(1≤x.2∨1≤x.1)) (fun x=>x.2.toNat) ((a,b)) ?kea8 ?keb8 ?_ ?_ ?_
 case kea8=>exact amN
 case keb8=>exact amN
 ·exact⟨ha,by simp only;omega,.inl hb.1⟩
 ·refine LeA [] ?_ ?_ ?_
  all_goals try refine amL ?_
  all_goals try exact amT
 ·rintro⟨x,y⟩ ⟨h1,h2,h3⟩
  dsimp only at h1 h2 h3 ⊢
  have hm:x.tmod y=x % y:=Int.tmod_eq_emod_of_nonneg h1.1
  have hmb:¬0<y∨(0≤x % y∧x % y<y):=by
   by_cases e:0<y
   ·exact .inr ⟨Int.emod_nonneg _ (by omega),Int.emod_lt_of_pos _ e⟩
   ·exact .inl e
  (try refine am ?_);(try simp only[hm]);(try refine am ?_);(try exact amT)
  repeat' with_reducible first|apply zA|intro _
  all_goals try exact amA
  ·refine⟨(y,x % y),?_,⟨by simp only;omega,by simp only;omega,by simp only;omega⟩,by simp only;omega⟩
   refine LeA [] ?_ ?_ ?_
   all_goals try refine amL ?_
   all_goals try exact amT
  ·refine FinK.ex (x) ?hq19 ?_
   case hq19=>exact by omega
   refine FinK.val1 ?_ ?_
   all_goals try refine amF ?_
   all_goals try exact amT
theorem specFracLow (x:DFrac) (_:okFrac (2^40) x):ACalls Tryz.prog 249 [.agg (cFrac x)] (fun r=>∃y:DFrac,okFrac (2^40) y∧r=.val (.agg (cFrac y))):=by
 have nt:Tryz.f249.ntmps=22:=rfl
 have rs:Tryz.f249.results=#[.cell 2 123]:=rfl
 refine ACalls.of_runC (m:=400) mixed Tryz.func249 rfl rfl (Nat.le_of_ble_eq_true rfl) ?_
 simp only[nt,rs]
 clear nt rs
 (try refine am ?_);(try exact amT)
 refine CallK.one (specFracOk x) (fun _=>amC) ?_
 (try refine am ?_);(try exact amT)
 repeat' with_reducible first|apply zA|intro _
 all_goals try exact amA
 ·refine FinK.ex (⟨0,0⟩) ?hq20 ?_
  case hq20=>exact⟨⟨by decide,by decide⟩,by decide,by decide⟩
  refine FinK.cell1 ?_ ?_ ?_
  all_goals try refine amF ?_
  all_goals try exact amT
 refine CallK.ex (specGcd x.num x.den (by omega) (by omega)) (fun _ _ _=>amC) ?_
 rintro d hd
 (try refine am ?_);(try exact amT)
 have h1:∀n:Int,0≤n→n≤4000000000000000→0≤n.tdiv d∧n.tdiv d≤4000000000000000:=fun n h0 h1=>by
  rw[Int.tdiv_eq_ediv_of_nonneg h0]
  exact⟨Int.ediv_nonneg h0 (by omega),Int.le_trans (Int.ediv_le_self _ h0) h1⟩
 have h2:=h1 x.num (by omega) (by omega)
 have h3:=h1 x.den (by omega) (by omega)
 repeat' with_reducible first|apply zA|intro _
 all_goals try exact amA
 refine FinK.ex (⟨x.num.tdiv d,x.den.tdiv d⟩) ?hq21 ?_
 case hq21=>exact⟨⟨by show (-9223372036854775808:Int)≤_;dsimp only;omega,by show _≤(9223372036854775807:Int);dsimp only;omega⟩,⟨by show (-9223372036854775808:Int)≤_;dsimp only;omega,by show _≤(9223372036854775807:Int);dsimp only;omega⟩⟩
 refine FinK.cell1 ?_ ?_ ?_
 all_goals try refine amF ?_
 all_goals try exact amT
end Go.AM
