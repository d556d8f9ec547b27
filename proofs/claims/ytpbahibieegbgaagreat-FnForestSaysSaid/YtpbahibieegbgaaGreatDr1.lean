/- Lemmas for the proof of this claim. -/
import Derived.Test.YtpbahibieegbgaaGreatBas
namespace Go.AM
set_option maxHeartbeats 64000000
open Go Go.Proofs
set_option maxRecDepth 100000
theorem ACalls.argLe {P:Program} {f:FuncId} {args args':List AT} {R:RV→Prop} (h:ACalls P f args' R) (hle:ALeTL args args'):ACalls P f args R:=by
 have hl:∀(l m:List AT),ALeTL l m→l.length=m.length∧∀(i:Nat) (u:AT),m[i]?=some u→∃t,l[i]?=some t∧ALeT t u:=by
  intro l
  induction l with
  |nil=>intro m hm;cases m with
   |nil=>exact⟨rfl,fun i u hi=>by simp at hi⟩
   |cons=>exact hm.elim
  |cons t l ih=>
   intro m hm
   cases m with
   |nil=>exact hm.elim
   |cons u m=>
    obtain⟨q1,q2⟩:=ih m hm.2
    refine⟨by simp[q1],fun i v hi=>?_⟩
    cases i with
    |zero=>simp at hi;subst hi;exact⟨t,rfl,hm.1⟩
    |succ i=>obtain⟨t',f1,f2⟩:=q2 i v (by simpa using hi);exact⟨t',by simpa using f1,f2⟩
 obtain⟨q1,q2⟩:=hl _ _ hle
 refine⟨h.enter,fun own0 w vs h1 h2 h3=>h.calls own0 w vs h1 (by rw[h2,q1]) (fun i u hi=>?_)⟩
 obtain⟨t,f1,f2⟩:=q2 i u hi
 obtain⟨v,g1,g2⟩:=h3 i t f1
 refine⟨v,g1,?_⟩
 cases t with
 |one a=>cases u with
  |one b=>exact f2.rd g2
  |agg m=>exact f2.elim
 |agg l=>cases u with
  |one b=>exact f2.elim
  |agg m=>
   obtain⟨cs,rfl,e1,e2⟩:=g2
   obtain⟨k1,k2⟩:=ALeL.get f2
   refine⟨cs,rfl,by rw[e1,k1],fun j b hj=>?_⟩
   obtain⟨x,hx,hxb⟩:=k2 j b hj
   obtain⟨y,hy,hyr⟩:=e2 j x hx
   exact⟨y,hy,hxb.rd hyr⟩
theorem appIntD {row:List Int} {x:Int} {nl:Option Bool} {n:Nat} (hn:n=row.length+1):ALe (.sl true nl 1 n (apF row.length (fI row) (rowsF [[.int .i64 x]]))) (.sl true none 1 (row++[x]).length (fI (row++[x]))):=by
 refine ALe.of (.inl rfl) (by simp[hn]) (fun i hi j hj=>?_)
 obtain rfl:j=0:=by omega
 unfold apF
 by_cases h:i<row.length
 ·rw[if_pos h,fI_at,fI_at,getD_app,if_pos h];exact .refl _
 ·obtain rfl:i=row.length:=by omega
  rw[if_neg h,fI_at,getD_app,if_neg h]
  simp[rowsF,gl]
  exact .refl _
theorem okI_app1 {A B:Nat} {l:List Int} {x:Int} (h:okI A l) (hx: -1000000000000≤x∧x≤1000000000000) (hB:A+1≤B):okI B (l++[x]):=by
 refine⟨by have:=h.1;simp;omega,fun y hy=>?_⟩
 simp only[List.mem_append,List.mem_singleton] at hy
 rcases hy with e|e
 ·exact h.2 y e
 ·subst e;exact⟨by show (-9223372036854775808:Int)≤y;omega,by show y≤(9223372036854775807:Int);omega⟩
theorem okI_up {A B:Nat} {l:List Int} (h:okI A l) (hB:A≤B):okI B l:=⟨by have:=h.1;omega,h.2⟩
theorem okL_up {A B:Nat} {l:List (List Int)} (h:okL A l) (hB:A≤B:=by decide):okL B l:=⟨by have:=h.1;omega,fun r hr=>okI_up (h.2 r hr) hB⟩
theorem mem_app1 {l:List Int} {x y:Int} (h:y∈l++[x]):y∈l∨y=x:=by simpa using h
theorem ale_cur {xc:Value} {nb:Nat} {f:Nat→Nat→AV} (h0:ALe (f 0 0) (.pin xc (curS nb))) (h1:ALe (f 0 1) (.rng .i64 0 9223372036854775807)) (h2:ALe (f 0 2) (AV.full .i64)):ALe (.sl true none 3 1 f) (curA xc nb):=by
 refine .sl _ _ _ _ _ _ (fun i hi j hj=>?_)
 obtain rfl:i=0:=by omega
 match j,hj with
 |0,_=>exact h0
 |1,_=>exact h1
 |2,_=>exact h2
def anyV {α:Type} (_:α):Prop:=True
theorem anyV.mk {α:Type} (x:α):anyV x:=trivial
theorem spec_l1Byte (nb:Nat) (hn:nb≤2^40):ACur Tryz.prog 120 nb [] (fun r=>∃z:Int,(0≤z∧z≤255)∧r=.val (.one (.int .i64 z))):=by
 refine ACur.unrng ?_
 have nt:Tryz.f120.ntmps=58:=rfl
 have rs:Tryz.f120.results=#[.tmp 2]:=rfl
 refine ACur.of_run0 (m:=400) (fun x (i:{ i:Int // 0≤i∧i≤9223372036854775807})=>curI x nb i.1) cur_open (fun _ _=>rfl) mixed Tryz.func120 rfl rfl (Nat.le_of_ble_eq_true rfl) (fun xc ix=>?_)
 obtain⟨ic,hic0,hic1⟩:=ix
 simp only[nt,rs,curI,curS]
 clear nt rs
 (try refine am ?_);(try exact amT)
 repeat' with_reducible first|apply zA|intro _
 all_goals try exact amA
 ·refine FinK.cur (x:=xc) (n:=nb) (ale_cur ?_ ?_ ?_) ⟨trivial,rfl⟩ rfl ?_
  ·exact .refl _
  ·exact ale_rng _ _ _ _ (by omega)
  ·exact .refl _
  ·refine FinK.val1 ?_ ?_
   all_goals try refine amF ?_
   all_goals try exact amT
 ·refine FinK.cur (x:=xc) (n:=nb) (ale_cur ?_ ?_ ?_) ⟨trivial,rfl⟩ rfl ?_
  ·exact .refl _
  ·exact ale_rng _ _ _ _ (by omega)
  ·exact .refl _
  ·refine FinK.val1 ?_ ?_
   all_goals try refine amF ?_
   all_goals try exact amT
theorem spec_l1Below (nb:Nat) (hn:nb≤2^40) (n:Int):ACur Tryz.prog 68 nb [.one (.int .i64 n)] (fun r=>∃z:Int,(0≤z∧(z<n∨z=0))∧r=.val (.one (.int .i64 z))):=by
 have nt:Tryz.f68.ntmps=37:=rfl
 have rs:Tryz.f68.results=#[.tmp 4]:=rfl
 refine ACur.of_run (m:=400) mixed Tryz.func68 rfl rfl (Nat.le_of_ble_eq_true rfl) (fun xc=>?_)
 simp only[nt,rs]
 clear nt rs
 (try refine am ?_);(try exact amT)
 repeat' with_reducible first|apply zA|intro _
 all_goals try exact amA
 ·refine FinK.cur (.refl _) ⟨trivial,rfl⟩ rfl ?_
  refine FinK.ex (0) ?hq1 ?_
  case hq1=>exact by omega
  refine FinK.val1 ?_ ?_
  all_goals try refine amF ?_
  all_goals try exact amT
 ·refine CallK.cur (spec_l1Byte nb hn) rfl rfl rfl (fun _ _ _=>amC) ?_
  rintro z ⟨hz0,hz1⟩
  (try refine am ?_);(try exact amT)
  repeat' with_reducible first|apply zA|intro _
  all_goals try exact amA
  refine FinK.cur (.refl _) ⟨trivial,rfl⟩ rfl ?_
  refine FinK.ex (z.tmod n) ?hq2 ?_
  case hq2=>exact⟨Int.tmod_nonneg _ hz0,.inl (Int.tmod_lt_of_pos _ (by omega))⟩
  refine FinK.val1 ?_ ?_
  all_goals try refine amF ?_
  all_goals try exact amT
 ·refine CallK.cur (spec_l1Byte nb hn) rfl rfl rfl (fun _ _ _=>amC) ?_
  rintro z ⟨hz0,hz1⟩
  (try refine am ?_);(try exact amT)
  repeat' with_reducible first|apply zA|intro _
  all_goals try exact amA
  refine CallK.cur (spec_l1Byte nb hn) rfl rfl rfl (fun _ _ _=>amC) ?_
  rintro y ⟨hy0,hy1⟩
  (try refine am ?_);(try exact amT)
  repeat' with_reducible first|apply zA|intro _
  all_goals try exact amA
  refine CallK.cur (spec_l1Byte nb hn) rfl rfl rfl (fun _ _ _=>amC) ?_
  rintro x ⟨hx0,hx1⟩
  (try refine am ?_);(try exact amT)
  repeat' with_reducible first|apply zA|intro _
  all_goals try exact amA
  refine CallK.cur (spec_l1Byte nb hn) rfl rfl rfl (fun _ _ _=>amC) ?_
  rintro w ⟨hw0,hw1⟩
  (try refine am ?_);(try exact amT)
  repeat' with_reducible first|apply zA|intro _
  all_goals try exact amA
  refine FinK.cur (.refl _) ⟨trivial,rfl⟩ rfl ?_
  refine FinK.ex ((z*16777216+y*65536+x*256+w).tmod n) ?hq3 ?_
  case hq3=>exact⟨Int.tmod_nonneg _ (by omega),.inl (Int.tmod_lt_of_pos _ (by omega))⟩
  refine FinK.val1 ?_ ?_
  all_goals try refine amF ?_
  all_goals try exact amT
theorem spec_l1Once (nb:Nat) (hn:nb≤2^40) (n:Int):ACur Tryz.prog 70 nb [.one (.int .i64 n)] (fun r=>∃b:Bool,anyV b∧r=.val (.one (.bool b))):=by
 have nt:Tryz.f70.ntmps=9:=rfl
 have rs:Tryz.f70.results=#[.tmp 4]:=rfl
 refine ACur.of_run (m:=400) mixed Tryz.func70 rfl rfl (Nat.le_of_ble_eq_true rfl) (fun xc=>?_)
 simp only[nt,rs]
 clear nt rs
 (try refine am ?_);(try exact amT)
 repeat' with_reducible first|apply zA|intro _
 all_goals try exact amA
 refine CallK.cur (spec_l1Below nb hn n) rfl rfl rfl (fun _ _ _=>amC) ?_
 rintro z ⟨hz0,hz1⟩
 (try refine am ?_);(try exact amT)
 repeat' with_reducible first|apply zA|intro _
 all_goals try exact amA
 refine FinK.cur (.refl _) ⟨trivial,rfl⟩ rfl ?_
 refine FinK.ex (decide (z=0)) ?hq4 ?_
 case hq4=>exact anyV.mk _
 refine FinK.val1 ?_ ?_
 all_goals try refine amF ?_
 all_goals try exact amT
theorem getD_mem' {l:List Int} {i:Nat} (h:i<l.length):l.getD i 0∈l:=by
 rw[List.getD_eq_getElem?_getD,List.getElem?_eq_getElem h]
 exact List.getElem_mem h
def litF (l:List Int):Nat→Nat→AV:=rowsF (l.map fun z=>[.int .i64 z])
theorem litF_at (l:List Int) (i:Nat) (h:i<l.length):litF l i 0=.int .i64 (l.getD i 0):=by
 unfold litF rowsF
 rw[gl_eq,gl_eq]
 simp[List.getD,h]
theorem spec_l1PickInt (nb:Nat) (hn:nb≤2^40) (u:Bool) (nl:Option Bool) (l:List Int) (hl:0<l.length) (hl2:l.length≤2^40):ACur Tryz.prog 39 nb [.one (.sl u nl 1 l.length (litF l))] (fun r=>∃z:Int,z∈l∧r=.val (.one (.int .i64 z))):=by
 have nt:Tryz.f39.ntmps=12:=rfl
 have rs:Tryz.f39.results=#[.tmp 4]:=rfl
 refine ACur.of_run (m:=400) mixed Tryz.func39 rfl rfl (Nat.le_of_ble_eq_true rfl) (fun xc=>?_)
 simp only[nt,rs]
 clear nt rs
 (try refine am ?_);(try exact amT)
 repeat' with_reducible first|apply zA|intro _
 all_goals try exact amA
 refine CallK.cur (spec_l1Below nb hn l.length) rfl rfl rfl (fun _ _ _=>amC) ?_
 rintro z ⟨hz0,hz1⟩
 (try refine am ?_);(try exact amT)
 have e:=litF_at l z.toNat (by omega)
 repeat' with_reducible first|apply zA|intro _
 all_goals try exact amA
 rw[e]
 refine FinK.cur (.refl _) ⟨trivial,rfl⟩ rfl ?_
 refine FinK.ex (l.getD z.toNat 0) ?hq5 ?_
 case hq5=>exact getD_mem' (by omega)
 refine FinK.val1 ?_ ?_
 all_goals try refine amF ?_
 all_goals try exact amT
theorem spec_l1Max (a b:Int):ACalls Tryz.prog 242 [.one (.int .i64 a),.one (.int .i64 b)] (fun r=>r=.val (.one (.int .i64 (if b<a then a else b)))):=by
 have nt:Tryz.f242.ntmps=10:=rfl
 have rs:Tryz.f242.results=#[.tmp 4]:=rfl
 refine ACalls.of_run (m:=400) mixed Tryz.func242 rfl rfl (Nat.le_of_ble_eq_true rfl) ?_
 simp only[nt,rs]
 clear nt rs
 (try refine am ?_);(try exact amT)
 repeat' with_reducible first|apply zA|intro _
 all_goals try exact amA
 ·refine FinK.val1 ?_ ?_
  all_goals try refine amF ?_
  all_goals try exact amT
  have h:b<a:=by omega
  rw[if_pos h]
 ·refine FinK.val1 ?_ ?_
  all_goals try refine amF ?_
  all_goals try exact amT
  have h:¬b<a:=by omega
  rw[if_neg h]
theorem spec_l1Bit (b:Bool):ACalls Tryz.prog 179 [.one (.bool b)] (fun r=>r=.val (.one (.int .i64 (if b=true then 1 else 0)))):=by
 have nt:Tryz.f179.ntmps=4:=rfl
 have rs:Tryz.f179.results=#[.tmp 2]:=rfl
 refine ACalls.of_run (m:=400) mixed Tryz.func179 rfl rfl (Nat.le_of_ble_eq_true rfl) ?_
 simp only[nt,rs]
 clear nt rs
 (try refine am ?_);(try exact amT)
 repeat' with_reducible first|apply zA|intro _
 all_goals try exact amA
 ·refine FinK.val1 ?_ ?_
  all_goals try refine amF ?_
  all_goals try exact amT
  simp_all
 ·refine FinK.val1 ?_ ?_
  all_goals try refine amF ?_
  all_goals try exact amT
  simp_all
theorem spec_l1New (code:List UInt8) (hc:code.length≤2^40):ANew Tryz.prog 36 [.one (.sl false none 1 code.length (fB code))] code.length:=by
 have nt:Tryz.f36.ntmps=32:=rfl
 refine ANew.of_run (m:=400) (t:=2) mixed Tryz.func36 rfl rfl (Nat.le_of_ble_eq_true rfl) rfl ?_
 simp only[nt]
 clear nt
 (try refine am ?_);(try exact amT)
 repeat' with_reducible first|apply zA|intro _
 all_goals try exact amA
 refine LoopK.auto (Nat) (fun i=>[(3,.one (.av (AV.full .i64))),(4,.one (.av (.int .i64 i)))]) (fun i=>[]) [0] (k0:=?k01) (keepH:=?kh1) 400 (fun i=>i≤code.length) (fun i=>code.length - i) (0) ?kea1 ?keb1 ?_ ?_ ?_
 case kea1=>exact amN
 case keb1=>exact amN
 ·exact Nat.zero_le _
 ·refine LeA [] ?_ ?_ ?_
  all_goals try refine amL ?_
  all_goals try exact amT
  exact .rng _ _ _ _ (by show (-9223372036854775808:Int)≤_;omega) (by show _≤(9223372036854775807:Int);omega)
 ·rintro i hi
  (try refine am ?_);(try exact amT)
  repeat' with_reducible first|apply zA|intro _
  all_goals try exact amA
  ·refine⟨i+1,?_,by omega,by omega⟩
   refine LeA [] ?_ ?_ ?_
   all_goals try refine amL ?_
   all_goals try exact amT
   all_goals rfl
  ·refine⟨⟨_,rfl,⟨trivial,rfl⟩,?_⟩,trivial,.tup [],trivial,trivial⟩
   refine .sl _ _ _ _ _ _ (fun i hi j hj=>?_)
   match j,hj with
   |0,_=>exact .sl _ _ _ _ _ _ (fun i hi j hj=>by
    obtain rfl:j=0:=by omega
    exact ale_rng _ _ _ _ (by have:=(code.getD i 0).toNat_lt;omega))
   |1,_=>exact ale_rng _ _ _ _ (by omega)
   |2,_=>exact .refl _
end Go.AM
namespace Go.AM
set_option maxHeartbeats 64000000
open Go Go.Proofs
set_option maxRecDepth 100000
theorem lawsBig (code:List UInt8) (hc:code.length≤2^47) (u:Bool):ACalls Tryz.prog 7 [.one (aB u code)] (fun r=>r=.val (.one (.bool (decide (1048576<code.length))))):=by
 have nt:Tryz.f7.ntmps=6:=rfl
 have rs:Tryz.f7.results=#[.tmp 2]:=rfl
 refine ACalls.of_run (m:=400) mixed Tryz.func7 rfl rfl (Nat.le_of_ble_eq_true rfl) ?_
 simp only[nt,rs]
 clear nt rs
 (try refine am ?_);(try exact amT)
 repeat' with_reducible first|apply zA|intro _
 all_goals try exact amA
 refine FinK.val1 ?_ ?_
 all_goals try refine amF ?_
 all_goals try exact amT
 refine decide_eq_decide.2 ?_
 omega
theorem lawsSameInts (l m:List Int) (u u':Bool) (nl nl':Option Bool) (hl:l.length≤2^47) (hm:m.length≤2^47):ACalls Tryz.prog 13 [.one (.sl u nl 1 l.length (fI l)),.one (.sl u' nl' 1 m.length (fI m))] (fun r=>r=.val (.one (.bool (decide (l=m))))):=by
 have nt:Tryz.f13.ntmps=26:=rfl
 have rs:Tryz.f13.results=#[.tmp 4]:=rfl
 refine ACalls.of_run (m:=400) mixed Tryz.func13 rfl rfl (Nat.le_of_ble_eq_true rfl) ?_
 simp only[nt,rs]
 clear nt rs
 (try refine am ?_);(try exact amT)
 repeat' with_reducible first|apply zA|intro _
 all_goals try exact amA
 ·refine FinK.val1 ?_ ?_
  all_goals try refine amF ?_
  all_goals try exact amT
  have h:¬l=m:=fun e=>by subst e;omega
  simp[h]
 refine LoopK.auto (Nat) (fun i=>[(5,.one (.av (.int .i64 i)))]) (fun i=>[]) [0,1] (k0:=?k01) (keepH:=?kh1) 400 (fun i=>i≤l.length∧∀j,j<i→l.getD j 0=m.getD j 0) (fun i=>l.length - i) (0) ?kea1 ?keb1 ?_ ?_ ?_
 case kea1=>exact amN
 case keb1=>exact amN
 ·exact⟨Nat.zero_le _,fun j hj=>by omega⟩
 ·refine LeA [] ?_ ?_ ?_
  all_goals try refine amL ?_
  all_goals try exact amT
 ·rintro i ⟨hi,hs⟩
  (try refine am ?_);(try exact amT)
  repeat' with_reducible first|apply zA|intro _
  all_goals try exact amA
  ·refine FinK.val1 ?_ ?_
   all_goals try refine amF ?_
   all_goals try exact amT
   rename_i hne
   have h:¬l=m:=fun e=>by subst e;exact hne rfl
   simp[h]
  ·rename_i he
   refine⟨i+1,?_,⟨by omega,fun j hj=>?_⟩,by omega⟩
   ·refine LeA [] ?_ ?_ ?_
    all_goals try refine amL ?_
    all_goals try exact amT
    all_goals rfl
   ·by_cases e:j=i
    ·subst e;simpa using he
    ·exact hs j (by omega)
  ·refine FinK.val1 ?_ ?_
   all_goals try refine amF ?_
   all_goals try exact amT
   have h:l=m:=by
    apply List.ext_getElem (by omega)
    intro j h1 h2
    have:=hs j (by omega)
    simpa [List.getD,h1,h2] using this
   simp[h]
end Go.AM
