/- Lemmas for the proof of this claim. -/
import Derived.Test.YtpbahibieegbgaaGreatBas
namespace Go.AM
set_option maxHeartbeats 64000000
open Go Go.Proofs
set_option maxRecDepth 100000
theorem implWordOk (s:List UInt8) (hl:s.length≤2^47):ACalls Tryz.prog 148 [.one (.str s)] (fun r=>r=.val (.one (.bool (decide (wordOk s))))):=by
 have nt:Tryz.f148.ntmps=24:=rfl
 have rs:Tryz.f148.results=#[.tmp 2]:=rfl
 refine ACalls.of_run (m:=400) mixed Tryz.func148 rfl rfl (Nat.le_of_ble_eq_true rfl) ?_
 simp only[nt,rs]
 clear nt rs
 (try refine am ?_);(try exact amT)
 repeat' with_reducible first|apply zA|intro _
 all_goals try exact amA
 refine CallK.one (within s.length 1 8) (fun _=>amC) ?_
 (try refine am ?_);(try exact amT)
 repeat' with_reducible first|apply zA|intro _
 all_goals try exact amA
 ·refine FinK.val1 ?_ ?_
  all_goals try refine amF ?_
  all_goals try exact amT
  rename_i h
  exact(decide_eq_false (fun e=>by have:=e.1;omega)).symm
 rename_i h1
 refine LoopK.auto (Nat) (fun i=>[(10,.one (.av (.int .i64 i)))]) (fun i=>[]) [0,9] (k0:=?k01) (keepH:=?kh1) 400 (fun i=>i≤s.length∧∀j,j<i→97≤(s.getD j 0).toNat∧(s.getD j 0).toNat≤122) (fun i=>s.length - i) (0) ?kea1 ?keb1 ?_ ?_ ?_
 case kea1=>exact amN
 case keb1=>exact amN
 ·exact⟨Nat.zero_le _,fun j hj=>by omega⟩
 ·refine LeA [] ?_ ?_ ?_
  all_goals try refine amL ?_
  all_goals try exact amT
 ·intro i hi
  (try refine am ?_);(try exact amT)
  repeat' with_reducible first|apply zA|intro _
  all_goals try exact amA
  ·refine FinK.val1 ?_ ?_
   all_goals try refine amF ?_
   all_goals try exact amT
   rename_i h2 h3
   exact(decide_eq_false (fun e=>by have:=e.2 i h2;omega)).symm
  ·rename_i h2 h3
   refine⟨i+1,?_,⟨by omega,fun j hj=>?_⟩,by omega⟩
   ·refine LeA [] ?_ ?_ ?_
    all_goals try refine amL ?_
    all_goals try exact amT
   ·by_cases e:j=i
    ·rw[e];omega
    ·exact hi.2 j (by omega)
  ·refine FinK.val1 ?_ ?_
   all_goals try refine amF ?_
   all_goals try exact amT
   exact(decide_eq_true ⟨by omega,fun j hj=>hi.2 j (by omega)⟩).symm
theorem specWordOk (s:List UInt8) (hl:s.length≤2^47):ACalls Tryz.prog 146 [.one (.str s)] (fun r=>r=.val (.one (.bool (decide (wordOk s))))):=by
 have nt:Tryz.f146.ntmps=24:=rfl
 have rs:Tryz.f146.results=#[.tmp 2]:=rfl
 refine ACalls.of_run (m:=400) mixed Tryz.func146 rfl rfl (Nat.le_of_ble_eq_true rfl) ?_
 simp only[nt,rs]
 clear nt rs
 (try refine am ?_);(try exact amT)
 repeat' with_reducible first|apply zA|intro _
 all_goals try exact amA
 refine CallK.one (l1In s.length 1 8) (fun _=>amC) ?_
 (try refine am ?_);(try exact amT)
 repeat' with_reducible first|apply zA|intro _
 all_goals try exact amA
 ·refine FinK.val1 ?_ ?_
  all_goals try refine amF ?_
  all_goals try exact amT
  rename_i h
  exact(decide_eq_false (fun e=>by have:=e.1;omega)).symm
 rename_i h1
 refine LoopK.auto (Nat) (fun i=>[(3,.one (.av (.int .i64 i)))]) (fun i=>[]) [0] (k0:=?k02) (keepH:=?kh2) 400 (fun i=>i≤s.length∧∀j,j<i→97≤(s.getD j 0).toNat∧(s.getD j 0).toNat≤122) (fun i=>s.length - i) (0) ?kea2 ?keb2 ?_ ?_ ?_
 case kea2=>exact amN
 case keb2=>exact amN
 ·exact⟨Nat.zero_le _,fun j hj=>by omega⟩
 ·refine LeA [] ?_ ?_ ?_
  all_goals try refine amL ?_
  all_goals try exact amT
 ·intro i hi
  (try refine am ?_);(try exact amT)
  repeat' with_reducible first|apply zA|intro _
  all_goals try exact amA
  ·refine FinK.val1 ?_ ?_
   all_goals try refine amF ?_
   all_goals try exact amT
   rename_i h2 h3
   exact(decide_eq_false (fun e=>by have:=e.2 i h2;omega)).symm
  ·rename_i h2 h3
   refine⟨i+1,?_,⟨by omega,fun j hj=>?_⟩,by omega⟩
   ·refine LeA [] ?_ ?_ ?_
    all_goals try refine amL ?_
    all_goals try exact amT
   ·by_cases e:j=i
    ·rw[e];omega
    ·exact hi.2 j (by omega)
  ·refine FinK.val1 ?_ ?_
   all_goals try refine amF ?_
   all_goals try exact amT
   exact(decide_eq_true ⟨by omega,fun j hj=>hi.2 j (by omega)⟩).symm
theorem implWords (l:List (List UInt8)) (u:Bool) (nl:Option Bool) (h:okS (2^47) l):ACalls Tryz.prog 110 [.one (.sl u nl 1 l.length (fS l))] (fun r=>r=.val (.one (.bool (decide (words l))))):=by
 have hl:=h.1
 have nt:Tryz.f110.ntmps=23:=rfl
 have rs:Tryz.f110.results=#[.tmp 2]:=rfl
 refine ACalls.of_run (m:=400) mixed Tryz.func110 rfl rfl (Nat.le_of_ble_eq_true rfl) ?_
 simp only[nt,rs]
 clear nt rs
 (try refine am ?_);(try exact amT)
 refine LoopK.auto (Nat) (fun i=>[(7,.one (.av (.int .i64 i)))]) (fun i=>[]) [0,5,6] (k0:=?k03) (keepH:=?kh3) 400 (fun i=>i≤l.length∧∀r,r<i→wordOk (l.getD r [])∧∀j,j<r→l.getD j []≠l.getD r []) (fun i=>l.length - i) (0) ?kea3 ?keb3 ?_ ?_ ?_
 case kea3=>exact amN
 case keb3=>exact amN
 ·exact⟨Nat.zero_le _,fun j hj=>by omega⟩
 ·refine LeA [] ?_ ?_ ?_
  all_goals try refine amL ?_
  all_goals try exact amT
 ·intro i hi
  (try refine am ?_);(try exact amT)
  repeat' with_reducible first|apply zA|intro _
  all_goals try exact amA
  ·have hlt:i<l.length:=by assumption
   refine CallK.one (implWordOk (l.getD i []) (h.2 _ (getD_mem hlt))) (fun _=>amC) ?_
   (try refine am ?_);(try exact amT)
   repeat' with_reducible first|apply zA|intro _
   all_goals try exact amA
   refine CallG.one rfl (fun hg=>containsS l i (l.getD i []) _ _ (by omega) hl) ?_
   (try refine am ?_);(try exact amT)
   repeat' with_reducible first|apply zA|intro _
   all_goals try exact amA
   ·refine FinK.val1 ?_ ?_
    all_goals try refine amF ?_
    all_goals try exact amT
    rename_i h2
    refine(decide_eq_false (fun e=>?_)).symm
    have h3:=e i hlt
    rcases h2 with h2|⟨j,h4,h5⟩
    ·exact h2 h3.1
    ·exact h3.2 j h4 h5
   ·rename_i h2
    refine⟨i+1,?_,⟨by omega,fun r hr=>?_⟩,by omega⟩
    ·refine LeA [] ?_ ?_ ?_
     all_goals try refine amL ?_
     all_goals try exact amT
    ·by_cases e:r=i
     ·subst e;exact⟨h2.1,fun j hj e=>h2.2 ⟨j,hj,e⟩⟩
     ·exact hi.2 r (by omega)
  ·refine FinK.val1 ?_ ?_
   all_goals try refine amF ?_
   all_goals try exact amT
   exact(decide_eq_true (fun r hr=>hi.2 r (by omega))).symm
theorem specWords (l:List (List UInt8)) (u:Bool) (nl:Option Bool) (h:okS (2^47) l):ACalls Tryz.prog 102 [.one (.sl u nl 1 l.length (fS l))] (fun r=>r=.val (.one (.bool (decide (words l))))):=by
 have hl:=h.1
 have nt:Tryz.f102.ntmps=31:=rfl
 have rs:Tryz.f102.results=#[.tmp 2]:=rfl
 refine ACalls.of_run (m:=400) mixed Tryz.func102 rfl rfl (Nat.le_of_ble_eq_true rfl) ?_
 simp only[nt,rs]
 clear nt rs
 (try refine am ?_);(try exact amT)
 refine LoopK.auto (Nat) (fun i=>[(3,.one (.av (.int .i64 i)))]) (fun i=>[]) [0] (k0:=?k04) (keepH:=?kh4) 400 (fun i=>i≤l.length∧∀r,r<i→wordOk (l.getD r [])∧∀j,j<r→l.getD j []≠l.getD r []) (fun i=>l.length - i) (0) ?kea4 ?keb4 ?_ ?_ ?_
 case kea4=>exact amN
 case keb4=>exact amN
 ·exact⟨Nat.zero_le _,fun j hj=>by omega⟩
 ·refine LeA [] ?_ ?_ ?_
  all_goals try refine amL ?_
  all_goals try exact amT
 ·intro i hi
  (try refine am ?_);(try exact amT)
  repeat' with_reducible first|apply zA|intro _
  all_goals try exact amA
  ·have hlt:i<l.length:=by assumption
   refine CallK.one (specWordOk (l.getD i []) (h.2 _ (getD_mem hlt))) (fun _=>amC) ?_
   (try refine am ?_);(try exact amT)
   repeat' with_reducible first|apply zA|intro _
   all_goals try exact amA
   ·refine FinK.val1 ?_ ?_
    all_goals try refine amF ?_
    all_goals try exact amT
    rename_i h2
    exact(decide_eq_false (fun e=>h2 (e i hlt).1)).symm
   ·rename_i h2
    refine LoopK.auto (Nat) (fun j=>[(4,.one (.av (.int .i64 j)))]) (fun j=>[]) [0,3] (k0:=?k05) (keepH:=?kh5) 400 (fun j=>j≤i∧∀k,k<j→l.getD k []≠l.getD i []) (fun j=>i - j) (0) ?kea5 ?keb5 ?_ ?_ ?_
    case kea5=>exact amN
    case keb5=>exact amN
    ·exact⟨Nat.zero_le _,fun j hj=>by omega⟩
    ·refine LeA [] ?_ ?_ ?_
     all_goals try refine amL ?_
     all_goals try exact amT
    ·intro j hj
     (try refine am ?_);(try exact amT)
     repeat' with_reducible first|apply zA|intro _
     all_goals try exact amA
     ·refine FinK.val1 ?_ ?_
      all_goals try refine amF ?_
      all_goals try exact amT
      rename_i h3 h4
      exact(decide_eq_false (fun e=>(e i hlt).2 j (by omega) h4.symm)).symm
     ·rename_i h3 h4
      refine⟨j+1,?_,⟨by omega,fun k hk=>?_⟩,by omega⟩
      ·refine LeA [] ?_ ?_ ?_
       all_goals try refine amL ?_
       all_goals try exact amT
      ·by_cases e:k=j
       ·rw[e];exact fun e2=>h4 e2.symm
       ·exact hj.2 k (by omega)
     ·refine⟨i+1,?_,⟨by omega,fun r hr=>?_⟩,by omega⟩
      ·refine LeA [] ?_ ?_ ?_
       all_goals try refine amL ?_
       all_goals try exact amT
      ·by_cases e:r=i
       ·subst e;exact⟨h2,fun k hk=>hj.2 k (by omega)⟩
       ·exact hi.2 r (by omega)
  ·refine FinK.val1 ?_ ?_
   all_goals try refine amF ?_
   all_goals try exact amT
   exact(decide_eq_true (fun r hr=>hi.2 r (by omega))).symm
theorem implAscending (l:List Int) (u:Bool) (nl:Option Bool) (hl:l.length≤2^47):ACalls Tryz.prog 112 [.one (.sl u nl 1 l.length (fI l))] (fun r=>r=.val (.one (.bool (decide (asc l))))):=by
 have nt:Tryz.f112.ntmps=20:=rfl
 have rs:Tryz.f112.results=#[.tmp 2]:=rfl
 refine ACalls.of_run (m:=400) mixed Tryz.func112 rfl rfl (Nat.le_of_ble_eq_true rfl) ?_
 simp only[nt,rs]
 clear nt rs
 (try refine am ?_);(try exact amT)
 refine LoopK.auto (Nat) (fun i=>[(3,.one (.av (.int .i64 ((i:Int)+1))))]) (fun i=>[]) [0] (k0:=?k06) (keepH:=?kh6) 400 (fun i=>i≤l.length∧∀j,j<i→j+1<l.length→l.getD j 0<l.getD (j+1) 0) (fun i=>l.length - i) (0) ?kea6 ?keb6 ?_ ?_ ?_
 case kea6=>exact amN
 case keb6=>exact amN
 ·exact⟨Nat.zero_le _,fun j hj=>by omega⟩
 ·refine LeA [] ?_ ?_ ?_
  all_goals try refine amL ?_
  all_goals try exact amT
  first|done|rfl
 ·intro i hi
  have e1:((i:Int)+1).toNat=i+1:=by omega
  (try refine am ?_);(try exact amT)
  (try refine am ?_);(try simp only[e1]);(try refine am ?_);(try exact amT)
  repeat' with_reducible first|apply zA|intro _
  all_goals try exact amA
  ·refine FinK.val1 ?_ ?_
   all_goals try refine amF ?_
   all_goals try exact amT
   rename_i h2 h3
   exact(decide_eq_false (fun e=>by have:=e i (by omega);omega)).symm
  ·rename_i h2 h3
   refine⟨i+1,?_,⟨by omega,fun j hj hj2=>?_⟩,by omega⟩
   ·refine LeA [] ?_ ?_ ?_
    all_goals try refine amL ?_
    all_goals try exact amT
    first|done|omega
   ·by_cases e:j=i
    ·rw[e];omega
    ·exact hi.2 j (by omega) hj2
  ·refine FinK.val1 ?_ ?_
   all_goals try refine amF ?_
   all_goals try exact amT
   exact(decide_eq_true (p:=asc l) (fun j hj=>hi.2 j (by omega) hj)).symm
theorem isCut1 (x:Int):ACalls Tryz.prog 178 [.one (.int .i64 x)] (fun r=>r=.val (.one (.bool (decide (-9999≤x∧x≤9998))))):=by
 have nt:Tryz.f178.ntmps=5:=rfl
 have rs:Tryz.f178.results=#[.tmp 2]:=rfl
 refine ACalls.of_run (m:=400) mixed Tryz.func178 rfl rfl (Nat.le_of_ble_eq_true rfl) ?_
 simp only[nt,rs]
 clear nt rs
 (try refine am ?_);(try exact amT)
 refine CallK.one (within x (-9999) 9998) (fun _=>amC) ?_
 (try refine am ?_);(try exact amT)
 refine FinK.val1 ?_ ?_
 all_goals try refine amF ?_
 all_goals try exact amT
theorem cutsOk1 (x:Int):ACalls Tryz.prog 177 [.one (.int .i64 x)] (fun r=>r=.val (.one (.bool (!decide (-9999≤x∧x≤9998))))):=by
 have nt:Tryz.f177.ntmps=6:=rfl
 have rs:Tryz.f177.results=#[.tmp 2]:=rfl
 refine ACalls.of_run (m:=400) mixed Tryz.func177 rfl rfl (Nat.le_of_ble_eq_true rfl) ?_
 simp only[nt,rs]
 clear nt rs
 (try refine am ?_);(try exact amT)
 refine CallK.one (isCut1 x) (fun _=>amC) ?_
 (try refine am ?_);(try exact amT)
 refine FinK.val1 ?_ ?_
 all_goals try refine amF ?_
 all_goals try exact amT
theorem any_not {l:List Int} {p:Int→Prop} [DecidablePred p]:((l.any fun x=> !decide (p x))=false)↔∀i,i<l.length→p (l.getD i 0):=by
 rw[List.any_eq_false]
 constructor
 ·intro h i hi
  have:=h _ (getD_mem (d:=0) hi)
  simpa using this
 ·intro h x hx
  obtain⟨i,hi,rfl⟩:=List.getElem_of_mem hx
  have:=h i hi
  have e:l.getD i 0=l[i]:=by simp[List.getD,hi]
  rw[e] at this
  simpa using this
theorem implCutsOk (l:List Int) (u:Bool) (nl:Option Bool) (hl:l.length≤2^47):ACalls Tryz.prog 150 [.one (.sl u nl 1 l.length (fI l))] (fun r=>r=.val (.one (.bool (decide (cutsOk l))))):=by
 have nt:Tryz.f150.ntmps=15:=rfl
 have rs:Tryz.f150.results=#[.tmp 2]:=rfl
 refine ACalls.of_run (m:=400) mixed Tryz.func150 rfl rfl (Nat.le_of_ble_eq_true rfl) ?_
 simp only[nt,rs]
 clear nt rs
 (try refine am ?_);(try exact amT)
 refine CallK.one (within l.length 1 3) (fun _=>amC) ?_
 (try refine am ?_);(try exact amT)
 repeat' with_reducible first|apply zA|intro _
 all_goals try exact amA
 refine CallG.one rfl (fun hg=>implAscending l _ _ hl) ?_
 (try refine am ?_);(try exact amT)
 repeat' with_reducible first|apply zA|intro _
 all_goals try exact amA
 refine CallG.one rfl (fun hg=>containsFuncI0 l _ _ _ _ (fun x=> !decide (-9999≤x∧x≤9998)) hl (fun x hx=>cutsOk1 x)) ?_
 (try refine am ?_);(try exact amT)
 repeat' with_reducible first|apply zA|intro _
 all_goals try exact amA
 refine FinK.val1 ?_ ?_
 all_goals try refine amF ?_
 all_goals try exact amT
 cases hb:(l.any fun x=> !decide (-9999≤x∧x≤9998)) with
 |false=>
  have:=(any_not (l:=l) (p:=fun x=> -9999≤x∧x≤9998)).1 hb
  simp only[Bool.not_false,Bool.and_true]
  exact decide_eq_decide.2 ⟨fun h=>⟨by omega,h.2,this⟩,fun h=>⟨by have:=h.1;omega,h.2.1⟩⟩
 |true=>
  simp only[Bool.not_true,Bool.and_false]
  refine(decide_eq_false (fun h=>?_)).symm
  have:=(any_not (l:=l) (p:=fun x=> -9999≤x∧x≤9998)).2 h.2.2
  rw[hb] at this
  cases this
theorem implBins (a:DAttr) (u v:Bool) (h:okAttr (2^47) a):ACalls Tryz.prog 117 [.agg (cAttr u v a)] (fun r=>r=.val (.one (.int .i64 (bins a)))):=by
 have h1:=h.2.1.1
 have h2:=h.2.2.1
 have nt:Tryz.f117.ntmps=14:=rfl
 have rs:Tryz.f117.results=#[.tmp 2]:=rfl
 refine ACalls.of_run (m:=400) mixed Tryz.func117 rfl rfl (Nat.le_of_ble_eq_true rfl) ?_
 simp only[nt,rs]
 clear nt rs
 (try refine am ?_);(try exact amT)
 repeat' with_reducible first|apply zA|intro _
 all_goals try exact amA
 ·refine FinK.val1 ?_ ?_
  all_goals try refine amF ?_
  all_goals try exact amT
  rename_i h
  unfold bins
  rw[if_pos (by omega)]
  rfl
 ·refine FinK.val1 ?_ ?_
  all_goals try refine amF ?_
  all_goals try exact amT
  rename_i h
  unfold bins
  rw[if_neg (by omega)]
theorem implAttrOk (a:DAttr) (u v:Bool) (h:okAttr (2^47) a):ACalls Tryz.prog 111 [.agg (cAttr u v a)] (fun r=>r=.val (.one (.bool (decide (attrOk a))))):=by
 have h1:=h.2.1.1
 have h2:=h.2.2.1
 have nt:Tryz.f111.ntmps=29:=rfl
 have rs:Tryz.f111.results=#[.tmp 2]:=rfl
 refine ACalls.of_run (m:=400) mixed Tryz.func111 rfl rfl (Nat.le_of_ble_eq_true rfl) ?_
 simp only[nt,rs]
 clear nt rs
 (try refine am ?_);(try exact amT)
 refine CallK.one (implWordOk a.name h.1) (fun _=>amC) ?_
 (try refine am ?_);(try exact amT)
 repeat' with_reducible first|apply zA|intro _
 all_goals try exact amA
 ·refine FinK.val1 ?_ ?_
  all_goals try refine amF ?_
  all_goals try exact amT
  rename_i h
  exact(decide_eq_false (fun e=>h e.1)).symm
 ·rename_i h3 h4
  refine CallK.one (within a.values.length 2 4) (fun _=>amC) ?_
  (try refine am ?_);(try exact amT)
  repeat' with_reducible first|apply zA|intro _
  all_goals try exact amA
  refine CallG.one rfl (fun hg=>implWords a.values _ _ h.2.2) ?_
  (try refine am ?_);(try exact amT)
  repeat' with_reducible first|apply zA|intro _
  all_goals try exact amA
  refine FinK.val1 ?_ ?_
  all_goals try refine amF ?_
  all_goals try exact amT
  exact decide_eq_decide.2 ⟨fun e=>⟨h3,by rw[if_pos (by omega)];exact⟨by omega,e.2⟩⟩,fun e=>by have:=e.2;rw[if_pos (by omega)] at this;exact⟨by omega,this.2⟩⟩
 ·rename_i h3 h4
  refine CallG.one rfl (fun hg=>implCutsOk a.cuts _ _ h1) ?_
  (try refine am ?_);(try exact amT)
  repeat' with_reducible first|apply zA|intro _
  all_goals try exact amA
  refine FinK.val1 ?_ ?_
  all_goals try refine amF ?_
  all_goals try exact amT
  exact decide_eq_decide.2 ⟨fun e=>⟨h3,by rw[if_neg (by omega)];exact⟨by omega,e.2⟩⟩,fun e=>by have:=e.2;rw[if_neg (by omega)] at this;exact⟨by omega,this.2⟩⟩
theorem specAttrOk (a:DAttr) (u v:Bool) (h:okAttr (2^47) a):ACalls Tryz.prog 103 [.agg (cAttr u v a)] (fun r=>r=.val (.one (.bool (decide (attrOk a))))):=by
 have h1:=h.2.1.1
 have h2:=h.2.2.1
 have nt:Tryz.f103.ntmps=63:=rfl
 have rs:Tryz.f103.results=#[.tmp 2]:=rfl
 refine ACalls.of_run (m:=400) mixed Tryz.func103 rfl rfl (Nat.le_of_ble_eq_true rfl) ?_
 simp only[nt,rs]
 clear nt rs
 (try refine am ?_);(try exact amT)
 refine CallK.one (specWordOk a.name h.1) (fun _=>amC) ?_
 (try refine am ?_);(try exact amT)
 repeat' with_reducible first|apply zA|intro _
 all_goals try exact amA
 ·refine FinK.val1 ?_ ?_
  all_goals try refine amF ?_
  all_goals try exact amT
  rename_i h
  exact(decide_eq_false (fun e=>h e.1)).symm
 ·rename_i h3 h4
  refine CallK.one (l1In a.values.length 2 4) (fun _=>amC) ?_
  (try refine am ?_);(try exact amT)
  repeat' with_reducible first|apply zA|intro _
  all_goals try exact amA
  refine CallG.one rfl (fun hg=>specWords a.values _ _ h.2.2) ?_
  (try refine am ?_);(try exact amT)
  repeat' with_reducible first|apply zA|intro _
  all_goals try exact amA
  refine FinK.val1 ?_ ?_
  all_goals try refine amF ?_
  all_goals try exact amT
  exact decide_eq_decide.2 ⟨fun e=>⟨h3,by rw[if_pos (by omega)];exact⟨by omega,e.2⟩⟩,fun e=>by have:=e.2;rw[if_pos (by omega)] at this;exact⟨by omega,this.2⟩⟩
 ·refine FinK.val1 ?_ ?_
  all_goals try refine amF ?_
  all_goals try exact amT
  rename_i h3 h4 h5
  refine(decide_eq_false (fun e=>?_)).symm
  have:=e.2
  rw[if_neg (by omega)] at this
  have:=this.2.1
  omega
 ·rename_i h3 h4 h5
  refine LoopK.auto (Nat) (fun i=>[(3,.one (.av (.int .i64 i)))]) (fun i=>[]) [1] (k0:=?k07) (keepH:=?kh7) 400 (fun i=>i≤a.cuts.length∧(∀j,j<i→ -9999≤a.cuts.getD j 0∧a.cuts.getD j 0≤9998)∧∀j,j+1<i→a.cuts.getD j 0<a.cuts.getD (j+1) 0) (fun i=>a.cuts.length - i) (0) ?kea7 ?keb7 ?_ ?_ ?_
  case kea7=>exact amN
  case keb7=>exact amN
  ·exact⟨Nat.zero_le _,fun j hj=>by omega,fun j hj=>by omega⟩
  ·refine LeA [] ?_ ?_ ?_
   all_goals try refine amL ?_
   all_goals try exact amT
  ·intro i hi
   (try refine am ?_);(try exact amT)
   repeat' with_reducible first|apply zA|intro _
   all_goals try exact amA
   ·have hlt:i<a.cuts.length:=by assumption
    have e1:((i:Int) - 1).toNat=i - 1:=by omega
    refine CallE.one (l1In (a.cuts.getD i 0) (-9999) 9998) (fun _=>amC) rfl ?_
    (try refine am ?_);(try exact amT)
    repeat' with_reducible first|apply zA|intro _
    all_goals try exact amA
    ·refine FinK.val1 ?_ ?_
     all_goals try refine amF ?_
     all_goals try exact amT
     rename_i h6
     refine(decide_eq_false (fun e=>?_)).symm
     have e2:=e.2
     rw[if_neg (by omega)] at e2
     have e3:=e2.2.2.2 i hlt
     rcases h6 with h6|⟨h6,h7⟩
     ·omega
     ·have e4:=e2.2.2.1 (i - 1) (by omega)
      rw[e1] at h7
      have e5:i - 1+1=i:=by omega
      rw[e5] at e4
      omega
    ·rename_i h6
     refine⟨i+1,?_,⟨by omega,fun j hj=>?_,fun j hj=>?_⟩,by omega⟩
     ·refine LeA [] ?_ ?_ ?_
      all_goals try refine amL ?_
      all_goals try exact amT
     ·by_cases e:j=i
      ·rw[e];exact h6.1
      ·exact hi.2.1 j (by omega)
     ·by_cases e:j+1=i
      ·have e5:j=i - 1:=by omega
       have h7:=h6.2
       rw[e1] at h7
       rw[e,e5]
       omega
      ·exact hi.2.2 j (by omega)
   ·refine FinK.val1 ?_ ?_
    all_goals try refine amF ?_
    all_goals try exact amT
    refine(decide_eq_true ⟨h3,?_⟩).symm
    rw[if_neg (by omega)]
    exact⟨by omega,⟨by omega,by omega⟩,fun j hj=>hi.2.2 j (by omega),fun j hj=>hi.2.1 j (by omega)⟩
theorem specBins (a:DAttr) (u v:Bool) (h:okAttr (2^47) a):ACalls Tryz.prog 85 [.agg (cAttr u v a)] (fun r=>r=.val (.one (.int .i64 (if attrOk a then bins a else 0:Nat)))):=by
 have h1:=h.2.1.1
 have h2:=h.2.2.1
 have nt:Tryz.f85.ntmps=17:=rfl
 have rs:Tryz.f85.results=#[.tmp 2]:=rfl
 refine ACalls.of_run (m:=400) mixed Tryz.func85 rfl rfl (Nat.le_of_ble_eq_true rfl) ?_
 simp only[nt,rs]
 clear nt rs
 (try refine am ?_);(try exact amT)
 refine CallK.one (specAttrOk a _ false h) (fun _=>amC) ?_
 (try refine am ?_);(try exact amT)
 repeat' with_reducible first|apply zA|intro _
 all_goals try exact amA
 ·refine FinK.val1 ?_ ?_
  all_goals try refine amF ?_
  all_goals try exact amT
  rename_i h
  rw[if_neg h];rfl
 ·refine FinK.val1 ?_ ?_
  all_goals try refine amF ?_
  all_goals try exact amT
  rename_i h h3
  rw[if_pos h]
  unfold bins
  rw[if_pos (by omega)]
  rfl
 ·refine FinK.val1 ?_ ?_
  all_goals try refine amF ?_
  all_goals try exact amT
  rename_i h h3
  rw[if_pos h]
  unfold bins
  rw[if_neg (by omega)]
theorem implSchemaOk (s:DSchema) (u v:Bool) (h:okSchema (2^47) s):ACalls Tryz.prog 53 [.agg (cSchema u v s)] (fun r=>r=.val (.one (.bool (decide (schemaOk s))))):=by
 have hl:=h.1.1
 have hl2:=h.2.1
 have nt:Tryz.f53.ntmps=43:=rfl
 have rs:Tryz.f53.results=#[.tmp 2]:=rfl
 refine ACalls.of_run (m:=400) mixed Tryz.func53 rfl rfl (Nat.le_of_ble_eq_true rfl) ?_
 simp only[nt,rs]
 clear nt rs
 (try refine am ?_);(try exact amT)
 refine CallK.one (within s.attrs.length 1 5) (fun _=>amC) ?_
 (try refine am ?_);(try exact amT)
 repeat' with_reducible first|apply zA|intro _
 all_goals try exact amA
 refine CallG.one rfl (fun hg=>within s.classes.length 2 3) ?_
 (try refine am ?_);(try exact amT)
 repeat' with_reducible first|apply zA|intro _
 all_goals try exact amA
 refine CallG.one rfl (fun hg=>implWords s.classes _ _ h.2) ?_
 (try refine am ?_);(try exact amT)
 repeat' with_reducible first|apply zA|intro _
 all_goals try exact amA
 ·refine FinK.val1 ?_ ?_
  all_goals try refine amF ?_
  all_goals try exact amT
  rename_i h1
  refine(decide_eq_false (fun e=>?_)).symm
  have e1:=e.1
  have e2:=e.2.1
  rcases h1 with (h1|h1)|h1
  ·omega
  ·omega
  ·exact h1 e.2.2.1
 rename_i h1
 obtain⟨⟨h2,h3⟩,h4⟩:=h1
 refine LoopK.auto (Nat) (fun i=>[(28,.one (.av (.int .i64 i))),(3,.one (.own 302 [] [0]))]) (fun i=>[(302,⟨.sl true none 1 ((s.attrs.take i).map DAttr.name).length (fS ((s.attrs.take i).map DAttr.name)),[]⟩)]) [26,27] (k0:=?k08) (keepH:=?kh8) 400 (fun i=>i≤s.attrs.length∧∀j,j<i→attrOk (s.attrs.getD j default)) (fun i=>s.attrs.length - i) (0) ?kea8 ?keb8 ?_ ?_ ?_
 case kea8=>exact amN
 case keb8=>exact amN
 ·exact⟨Nat.zero_le _,fun j hj=>by omega⟩
 ·refine LeA [] ?_ ?_ ?_
  all_goals try refine amL ?_
  all_goals try exact amT
  exact ALe.of (.inl rfl) rfl (fun i hi=>by omega)
 ·intro i hi
  have hL:((s.attrs.take i).map DAttr.name).length≤5:=by
   rw[List.length_map,List.length_take];omega
  (try refine am ?_);(try exact amT)
  repeat' with_reducible first|apply zA|intro _
  all_goals try exact amA
  ·have hlt:i<s.attrs.length:=by assumption
   refine CallK.one (implAttrOk (s.attrs.getD i default) _ false (h.1.2 _ (getD_mem hlt))) (fun _=>amC) ?_
   (try refine am ?_);(try exact amT)
   repeat' with_reducible first|apply zA|intro _
   all_goals try exact amA
   ·refine FinK.val1 ?_ ?_
    all_goals try refine amF ?_
    all_goals try exact amT
    rename_i h5
    exact(decide_eq_false (fun e=>h5 (e.2.2.2.1 i hlt))).symm
   ·rename_i h5
    refine⟨i+1,?_,⟨by omega,fun j hj=>?_⟩,by omega⟩
    ·refine LeA [] ?_ ?_ ?_
     all_goals try refine amL ?_
     all_goals try exact amT
     refine appLe1 (x:=(s.attrs.getD i default).name) ?_ rfl (.inl rfl)
     rw[take_succ (d:=default) hlt,List.map_append]
     rfl
    ·by_cases e:j=i
     ·rw[e];exact h5
     ·exact hi.2 j (by omega)
  ·have e:i=s.attrs.length:=by omega
   subst e
   rw[List.take_length] at *
   refine CallK.one (implWords (s.attrs.map DAttr.name) _ _ ⟨by omega,fun x hx=>by obtain⟨a,ha,rfl⟩:=List.mem_map.1 hx;exact(h.1.2 a ha).1⟩) (fun _=>amC) ?_
   (try refine am ?_);(try exact amT)
   refine FinK.val1 ?_ ?_
   all_goals try refine amF ?_
   all_goals try exact amT
   exact decide_eq_decide.2 ((words_names hi.2).trans ⟨fun e=>⟨by omega,by omega,h4,hi.2,e⟩,fun e=>e.2.2.2.2⟩)
theorem specSchemaOk (s:DSchema) (u v:Bool) (h:okSchema (2^47) s):ACalls Tryz.prog 44 [.agg (cSchema u v s)] (fun r=>r=.val (.one (.bool (decide (schemaOk s))))):=by
 have hl:=h.1.1
 have hl2:=h.2.1
 have nt:Tryz.f44.ntmps=55:=rfl
 have rs:Tryz.f44.results=#[.tmp 2]:=rfl
 refine ACalls.of_run (m:=400) mixed Tryz.func44 rfl rfl (Nat.le_of_ble_eq_true rfl) ?_
 simp only[nt,rs]
 clear nt rs
 (try refine am ?_);(try exact amT)
 refine CallK.one (l1In s.attrs.length 1 5) (fun _=>amC) ?_
 (try refine am ?_);(try exact amT)
 repeat' with_reducible first|apply zA|intro _
 all_goals try exact amA
 refine CallG.one rfl (fun hg=>l1In s.classes.length 2 3) ?_
 (try refine am ?_);(try exact amT)
 repeat' with_reducible first|apply zA|intro _
 all_goals try exact amA
 refine CallG.one rfl (fun hg=>specWords s.classes _ _ h.2) ?_
 (try refine am ?_);(try exact amT)
 repeat' with_reducible first|apply zA|intro _
 all_goals try exact amA
 ·refine FinK.val1 ?_ ?_
  all_goals try refine amF ?_
  all_goals try exact amT
  rename_i h1
  refine(decide_eq_false (fun e=>?_)).symm
  have e1:=e.1
  have e2:=e.2.1
  rcases h1 with (h1|h1)|h1
  ·omega
  ·omega
  ·exact h1 e.2.2.1
 rename_i h1
 obtain⟨⟨h2,h3⟩,h4⟩:=h1
 refine LoopK.auto (Nat) (fun i=>[(3,.one (.av (.int .i64 i)))]) (fun i=>[]) [1] (k0:=?k09) (keepH:=?kh9) 400 (fun i=>i≤s.attrs.length∧(∀j,j<i→attrOk (s.attrs.getD j default))∧∀k,k<i→∀j,j<k→(s.attrs.getD j default).name≠(s.attrs.getD k default).name) (fun i=>s.attrs.length - i) (0) ?kea9 ?keb9 ?_ ?_ ?_
 case kea9=>exact amN
 case keb9=>exact amN
 ·exact⟨Nat.zero_le _,fun j hj=>by omega,fun j hj=>by omega⟩
 ·refine LeA [] ?_ ?_ ?_
  all_goals try refine amL ?_
  all_goals try exact amT
 ·intro i hi
  (try refine am ?_);(try exact amT)
  repeat' with_reducible first|apply zA|intro _
  all_goals try exact amA
  ·have hlt:i<s.attrs.length:=by assumption
   refine CallK.one (specAttrOk (s.attrs.getD i default) _ false (h.1.2 _ (getD_mem hlt))) (fun _=>amC) ?_
   (try refine am ?_);(try exact amT)
   repeat' with_reducible first|apply zA|intro _
   all_goals try exact amA
   ·refine FinK.val1 ?_ ?_
    all_goals try refine amF ?_
    all_goals try exact amT
    rename_i h5
    exact(decide_eq_false (fun e=>h5 (e.2.2.2.1 i hlt))).symm
   ·rename_i h5
    refine LoopK.auto (Nat) (fun j=>[(4,.one (.av (.int .i64 j)))]) (fun j=>[]) [1,3] (k0:=?k010) (keepH:=?kh10) 400 (fun j=>j≤i∧∀k,k<j→(s.attrs.getD k default).name≠(s.attrs.getD i default).name) (fun j=>i - j) (0) ?kea10 ?keb10 ?_ ?_ ?_
    case kea10=>exact amN
    case keb10=>exact amN
    ·exact⟨Nat.zero_le _,fun j hj=>by omega⟩
    ·refine LeA [] ?_ ?_ ?_
     all_goals try refine amL ?_
     all_goals try exact amT
    ·intro j hj
     (try refine am ?_);(try exact amT)
     repeat' with_reducible first|apply zA|intro _
     all_goals try exact amA
     ·refine FinK.val1 ?_ ?_
      all_goals try refine amF ?_
      all_goals try exact amT
      rename_i h6 h7
      exact(decide_eq_false (fun e=>e.2.2.2.2 i hlt j (by omega) h7.symm)).symm
     ·rename_i h6 h7
      refine⟨j+1,?_,⟨by omega,fun k hk=>?_⟩,by omega⟩
      ·refine LeA [] ?_ ?_ ?_
       all_goals try refine amL ?_
       all_goals try exact amT
      ·by_cases e:k=j
       ·rw[e];exact fun e2=>h7 e2.symm
       ·exact hj.2 k (by omega)
     ·refine⟨i+1,?_,⟨by omega,fun k hk=>?_,fun k hk=>?_⟩,by omega⟩
      ·refine LeA [] ?_ ?_ ?_
       all_goals try refine amL ?_
       all_goals try exact amT
      ·by_cases e:k=i
       ·rw[e];exact h5
       ·exact hi.2.1 k (by omega)
      ·by_cases e:k=i
       ·subst e;exact fun q hq=>hj.2 q (by omega)
       ·exact hi.2.2 k (by omega)
  ·refine FinK.val1 ?_ ?_
   all_goals try refine amF ?_
   all_goals try exact amT
   exact(decide_eq_true ⟨by omega,by omega,h4,fun j hj=>hi.2.1 j (by omega),fun k hk=>hi.2.2 k (by omega)⟩).symm
end Go.AM
namespace Go.AM
set_option maxHeartbeats 64000000
open Go Go.Proofs
set_option maxRecDepth 100000
def sumsL (l:List Int) (c m:Nat):List Int:=(List.range c).map fun k=>colS l c k m
theorem sumsL_get {l:List Int} {c m k:Nat} (h:k<c):(sumsL l c m).getD k 0=colS l c k m:=by simp[sumsL,List.getD,h]
theorem sumsLe {l:List Int} {c m:Nat} (_:0<c):ALe (.sl true none 1 c (fun i j=>if i=m % c∧0≤j∧j<0+1 then gl .junk [.int .i64 (colS l c (m % c) m+l.getD m 0)] (j - 0) else fI (sumsL l c m) i j)) (.sl true none 1 c (fI (sumsL l c (m+1)))):=by
 refine ALe.of (.inl rfl) rfl (fun i hi j hj=>?_)
 obtain rfl:j=0:=by omega
 by_cases e:i=m % c
 ·subst e
  rw[if_pos ⟨rfl,by omega,by omega⟩,fI_at,sumsL_get hi,colS_succ,if_pos rfl]
  exact .refl _
 ·rw[if_neg (fun h=>e h.1),fI_at,fI_at,sumsL_get hi,sumsL_get hi,colS_succ,if_neg (fun h=>e h.symm)]
  rw[Int.add_zero]
  exact .refl _
theorem sums0 {l:List Int} {c:Nat} {nl:Option Bool}:ALe (.sl true nl 1 c (fI (List.replicate c 0))) (.sl true none 1 c (fI (sumsL l c 0))):=by
 refine ALe.of (.inl rfl) rfl (fun i hi j hj=>?_)
 obtain rfl:j=0:=by omega
 rw[fI_at,fI_at,sumsL_get hi]
 simp[List.getD,hi,colS]
 exact .refl _
theorem weights1 (x:Int):ACalls Tryz.prog 152 [.one (.int .i64 x)] (fun r=>r=.val (.one (.bool (!decide (0≤x∧x≤999))))):=by
 have nt:Tryz.f152.ntmps=6:=rfl
 have rs:Tryz.f152.results=#[.tmp 2]:=rfl
 refine ACalls.of_run (m:=400) mixed Tryz.func152 rfl rfl (Nat.le_of_ble_eq_true rfl) ?_
 simp only[nt,rs]
 clear nt rs
 (try refine am ?_);(try exact amT)
 refine CallK.one (within x 0 999) (fun _=>amC) ?_
 (try refine am ?_);(try exact amT)
 refine FinK.val1 ?_ ?_
 all_goals try refine amF ?_
 all_goals try exact amT
theorem implWeights (l:List Int) (n:Int) (u:Bool) (nl:Option Bool) (hl:l.length≤2^47):ACalls Tryz.prog 116 [.one (.sl u nl 1 l.length (fI l)),.one (.int .i64 n)] (fun r=>r=.val (.one (.bool (decide (wts l n))))):=by
 have nt:Tryz.f116.ntmps=14:=rfl
 have rs:Tryz.f116.results=#[.tmp 4]:=rfl
 refine ACalls.of_run (m:=400) mixed Tryz.func116 rfl rfl (Nat.le_of_ble_eq_true rfl) ?_
 simp only[nt,rs]
 clear nt rs
 (try refine am ?_);(try exact amT)
 repeat' with_reducible first|apply zA|intro _
 all_goals try exact amA
 refine CallG.one rfl (fun hg=>containsFuncI0 l _ _ _ _ (fun x=> !decide (0≤x∧x≤999)) hl (fun x hx=>weights1 x)) ?_
 (try refine am ?_);(try exact amT)
 repeat' with_reducible first|apply zA|intro _
 all_goals try exact amA
 refine FinK.val1 ?_ ?_
 all_goals try refine amF ?_
 all_goals try exact amT
 cases hb:(l.any fun x=> !decide (0≤x∧x≤999)) with
 |false=>
  have:=(any_not (l:=l) (p:=fun x=>0≤x∧x≤999)).1 hb
  simp only[Bool.not_false,Bool.and_true]
  exact decide_eq_decide.2 ⟨fun h=>⟨h,this⟩,fun h=>h.1⟩
 |true=>
  simp only[Bool.not_true,Bool.and_false]
  refine(decide_eq_false (fun h=>?_)).symm
  have:=(any_not (l:=l) (p:=fun x=>0≤x∧x≤999)).2 h.2
  rw[hb] at this
  cases this
theorem implStatsOk (s:DSchema) (t:DStats) (u v u' v':Bool) (h:okSchema (2^47) s) (h':okStats (2^47) t):ACalls Tryz.prog 60 [.agg (cSchema u v s),.agg (cStats u' v' t)] (fun r=>r=.val (.one (.bool (decide (statsOk s t))))):=by
 have hl:=h.1.1
 have hl2:=h.2.1
 have hl3:=h'.1.1
 have hl4:=h'.2.1
 have nt:Tryz.f60.ntmps=94:=rfl
 have rs:Tryz.f60.results=#[.tmp 4]:=rfl
 refine ACalls.of_run (m:=400) mixed Tryz.func60 rfl rfl (Nat.le_of_ble_eq_true rfl) ?_
 simp only[nt,rs]
 clear nt rs
 (try refine am ?_);(try exact amT)
 refine CallK.one (implSchemaOk s _ _ h) (fun _=>amC) ?_
 (try refine am ?_);(try exact amT)
 repeat' with_reducible first|apply zA|intro _
 all_goals try exact amA
 refine CallG.one rfl (fun hg=>implWeights t.totals s.classes.length _ _ h'.1.1) ?_
 (try refine am ?_);(try exact amT)
 repeat' with_reducible first|apply zA|intro _
 all_goals try exact amA
 refine CallG.one rfl (fun hg=>totalI t.totals _ _ 999 (by omega) h'.1.1 (by simp at hg;exact hg.2.2) (by simp at hg;have:=hg.1.2.1;have:=hg.2.1;omega)) ?_
 (try refine am ?_);(try exact amT)
 repeat' with_reducible first|apply zA|intro _
 all_goals try exact amA
 ·refine FinK.val1 ?_ ?_
  all_goals try refine amF ?_
  all_goals try exact amT
  rename_i h1
  refine(decide_eq_false (fun e=>?_)).symm
  rcases h1 with (h1|h1)|h1
  ·exact h1 e.1
  ·exact h1 e.2.1
  ·have:=e.2.2.1;omega
 ·refine FinK.val1 ?_ ?_
  all_goals try refine amF ?_
  all_goals try exact amT
  rename_i h1 h2
  exact(decide_eq_true ⟨h1.1.1,h1.1.2,by omega,.inl (by omega)⟩).symm
 ·refine FinK.val1 ?_ ?_
  all_goals try refine amF ?_
  all_goals try exact amT
  rename_i h1 h2 h3
  exact(decide_eq_false (fun e=>by rcases e.2.2.2 with e|e<;>omega)).symm
 rename_i h1 h2 h3
 have hS:=h1.1.1
 have hW:=h1.1.2
 have hc3:=hS.2.1
 refine LoopK.auto (Nat) (fun i=>[(44,.one (.av (.int .i64 i)))]) (fun i=>[]) [2,3,5,42,43] (k0:=?k01) (keepH:=?kh1) 400 (fun i=>i≤t.cells.length∧∀j,j<i→cellsOk s t j) (fun i=>t.cells.length - i) (0) ?kea1 ?keb1 ?_ ?_ ?_
 case kea1=>exact amN
 case keb1=>exact amN
 ·exact⟨Nat.zero_le _,fun j hj=>by omega⟩
 ·refine LeA [] ?_ ?_ ?_
  all_goals try refine amL ?_
  all_goals try exact amT
 ·intro i hi
  (try refine am ?_);(try exact amT)
  repeat' with_reducible first|apply zA|intro _
  all_goals try exact amA
  ·have hlt:i<t.cells.length:=by assumption
   have hrow:=h'.2.2 _ (getD_mem (d:=[]) hlt)
   have hat:=hS.2.2.2.1 i (by omega)
   have hbin:=attrOk_bins hat
   have hbc:(bins (s.attrs.getD i default):Int)*s.classes.length=((bins (s.attrs.getD i default)*s.classes.length:Nat):Int):=(Int.natCast_mul _ _).symm
   have hbc2:bins (s.attrs.getD i default)*s.classes.length≤4*3:=Nat.mul_le_mul hbin.2 (by omega)
   refine CallK.one (implBins (s.attrs.getD i default) _ false (h.1.2 _ (getD_mem (by omega)))) (fun _=>amC) ?_
   (try refine am ?_);(try exact amT)
   (try refine am ?_);(try simp only[hbc]);(try refine am ?_);(try exact amT)
   repeat' with_reducible first|apply zA|intro _
   all_goals try exact amA
   refine CallK.one (implWeights (t.cells.getD i []) _ _ _ hrow.1) (fun _=>amC) ?_
   (try refine am ?_);(try exact amT)
   repeat' with_reducible first|apply zA|intro _
   all_goals try exact amA
   ·refine FinK.val1 ?_ ?_
    all_goals try refine amF ?_
    all_goals try exact amT
    rename_i h4
    refine(decide_eq_false (fun e=>?_)).symm
    rcases e.2.2.2 with e|e
    ·omega
    ·exact h4 (by rw[←hbc];exact(e.2 i hlt).1)
   ·rename_i h4
    refine CallK.one (zerosI s.classes.length (by omega)) (fun _=>amC) ?_
    (try refine am ?_);(try exact amT)
    refine LoopK.auto (Nat) (fun k=>[(64,.one (.av (.int .i64 k))),(8,.one (.own 302 [] [0]))]) (fun k=>[(302,⟨.sl true none 1 s.classes.length (fI (sumsL (t.cells.getD i []) s.classes.length k)),[]⟩)]) [2,3,5,42,43,44,62,63] (k0:=?k02) (keepH:=?kh2) 800 (fun k=>k≤(t.cells.getD i []).length∧∀m,m≤k→∀j,j<s.classes.length→colS (t.cells.getD i []) s.classes.length j m≤t.totals.getD j 0) (fun k=>(t.cells.getD i []).length - k) (0) ?kea2 ?keb2 ?_ ?_ ?_
    case kea2=>exact amN
    case keb2=>exact amN
    ·refine⟨Nat.zero_le _,fun m hm j hj=>?_⟩
     obtain rfl:m=0:=by omega
     have:=hW.1
     exact(hW.2 j (by omega)).1
    ·refine LeA [] ?_ ?_ ?_
     all_goals try refine amL ?_
     all_goals try exact amT
     exact sums0
    ·intro k hk
     have hmod:k % s.classes.length<s.classes.length:=Nat.mod_lt _ (by omega)
     have hget:=sumsL_get (l:=t.cells.getD i []) (m:=k) hmod
     have hcb:=colS_bd (c:=s.classes.length) (k:=k % s.classes.length) h4.2 hk.1
     have hrl:=h4.1
     have hx:¬k<(t.cells.getD i []).length∨(0≤(t.cells.getD i []).getD k 0∧(t.cells.getD i []).getD k 0≤999):=by
      by_cases hkl:k<(t.cells.getD i []).length
      ·exact .inr (h4.2 k hkl)
      ·exact .inl hkl
     have htl:=hW.1
     have hstep:=colS_succ (t.cells.getD i []) s.classes.length (k % s.classes.length) k
     rw[if_pos rfl] at hstep
     (try refine am ?_);(try exact amT)
     (try refine am ?_);(try simp only[hget]);(try refine am ?_);(try exact amT)
     repeat' with_reducible first|apply zA|intro _
     all_goals try exact amA
     ·refine FinK.val1 ?_ ?_
      all_goals try refine amF ?_
      all_goals try exact amT
      rename_i h5 h6
      refine(decide_eq_false (fun e=>?_)).symm
      rcases e.2.2.2 with e|e
      ·omega
      ·have e2:=(e.2 i hlt).2 _ hmod
       have e3:=colS_mono (c:=s.classes.length) (k:=k % s.classes.length) h4.2 (m:=k+1) (by omega) (Nat.le_refl _)
       omega
     ·rename_i h5 h6
      refine⟨k+1,?_,⟨by omega,fun m hm j hj=>?_⟩,by omega⟩
      ·refine LeA [] ?_ ?_ ?_
       all_goals try refine amL ?_
       all_goals try exact amT
       exact sumsLe (by omega)
      ·by_cases e:m=k+1
       ·rw[e]
        by_cases e2:j=k % s.classes.length
        ·rw[e2];omega
        ·rw[colS_succ,if_neg (fun h=>e2 h.symm),Int.add_zero]
         exact hk.2 k (Nat.le_refl _) j hj
       ·exact hk.2 m (by omega) j hj
     ·have ek:k=(t.cells.getD i []).length:=by omega
      refine⟨i+1,?_,⟨by omega,fun j hj=>?_⟩,by omega⟩
      ·refine LeA [] ?_ ?_ ?_
       all_goals try refine amL ?_
       all_goals try exact amT
      ·by_cases e:j=i
       ·rw[e]
        exact⟨by rw[hbc];exact h4,fun q hq=>hk.2 _ (by omega) q hq⟩
       ·exact hi.2 j (by omega)
  ·refine FinK.val1 ?_ ?_
   all_goals try refine amF ?_
   all_goals try exact amT
   exact(decide_eq_true ⟨hS,hW,by omega,.inr ⟨by omega,fun j hj=>hi.2 j (by omega)⟩⟩).symm
theorem implTopOf (l:List Int) (u:Bool) (nl:Option Bool) (hl:l.length≤2^47):ACalls Tryz.prog 64 [.one (.sl u nl 1 l.length (fI l))] (fun r=>r=.val (.one (.int .i64 (topOf l)))):=by
 have nt:Tryz.f64.ntmps=10:=rfl
 have rs:Tryz.f64.results=#[.tmp 2]:=rfl
 refine ACalls.of_run (m:=400) mixed Tryz.func64 rfl rfl (Nat.le_of_ble_eq_true rfl) ?_
 simp only[nt,rs]
 clear nt rs
 (try refine am ?_);(try exact amT)
 repeat' with_reducible first|apply zA|intro _
 all_goals try exact amA
 ·refine FinK.val1 ?_ ?_
  all_goals try refine amF ?_
  all_goals try exact amT
  rename_i h
  have:l=[]:=List.length_eq_zero_iff.1 (by omega)
  rw[this];rfl
 ·rename_i h
  refine CallK.one (maxI l _ _ (by omega) hl) (fun _=>amC) ?_
  (try refine am ?_);(try exact amT)
  refine CallK.one (indexI l l.length (mx l) _ _ (Nat.le_refl _) hl) (fun _=>amC) ?_
  (try refine am ?_);(try exact amT)
  refine FinK.val1 ?_ ?_
  all_goals try refine amF ?_
  all_goals try exact amT
  exact top_fidx (by omega)
theorem topS_lt (l:List Int) (i:Nat): -1≤topS l i∧topS l i<(i:Int)∧(0<i→0≤topS l i):=by
 by_cases h:0<i
 ·obtain⟨j,h1,h2,_⟩:=topS_inv l i h
  rw[h2];omega
 ·have:i=0:=by omega
  subst this
  simp[topS]
theorem specTopOf (l:List Int) (u:Bool) (nl:Option Bool) (hl:l.length≤2^47):ACalls Tryz.prog 126 [.one (.sl u nl 1 l.length (fI l))] (fun r=>r=.val (.one (.int .i64 (topOf l)))):=by
 have nt:Tryz.f126.ntmps=26:=rfl
 have rs:Tryz.f126.results=#[.tmp 2]:=rfl
 refine ACalls.of_run (m:=400) mixed Tryz.func126 rfl rfl (Nat.le_of_ble_eq_true rfl) ?_
 simp only[nt,rs]
 clear nt rs
 (try refine am ?_);(try exact amT)
 refine LoopK.auto (Nat) (fun i=>[(3,.one (.av (.int .i64 (topS l i)))),(4,.one (.av (.int .i64 i)))]) (fun i=>[]) [0] (k0:=?k03) (keepH:=?kh3) 400 (fun i=>i≤l.length) (fun i=>l.length - i) (0) ?kea3 ?keb3 ?_ ?_ ?_
 case kea3=>exact amN
 case keb3=>exact amN
 ·exact Nat.zero_le _
 ·refine LeA [] ?_ ?_ ?_
  all_goals try refine amL ?_
  all_goals try exact amT
  first|done|rfl
 ·intro i hi
  have ht:=topS_lt l i
  (try refine am ?_);(try exact amT)
  repeat' with_reducible first|apply zA|intro _
  all_goals try exact amA
  ·refine⟨i+1,?_,by omega,by omega⟩
   refine LeA [] ?_ ?_ ?_
   all_goals try refine amL ?_
   all_goals try exact amT
   rename_i h1 h2
   rw[topS_succ,if_pos h2]
  ·refine⟨i+1,?_,by omega,by omega⟩
   refine LeA [] ?_ ?_ ?_
   all_goals try refine amL ?_
   all_goals try exact amT
   rename_i h1 h2
   rw[topS_succ,if_neg h2]
  ·refine FinK.val1 ?_ ?_
   all_goals try refine amF ?_
   all_goals try exact amT
   have:i=l.length:=by omega
   rw[this];rfl
theorem specStatsOk (s:DSchema) (t:DStats) (u v u' v':Bool) (h:okSchema (2^47) s) (h':okStats (2^47) t):ACalls Tryz.prog 104 [.agg (cSchema u v s),.agg (cStats u' v' t)] (fun r=>r=.val (.one (.bool (decide (statsOk s t))))):=by
 have hl:=h.1.1
 have hl2:=h.2.1
 have hl3:=h'.1.1
 have hl4:=h'.2.1
 have nt:Tryz.f104.ntmps=123:=rfl
 have rs:Tryz.f104.results=#[.tmp 4]:=rfl
 refine ACalls.of_run (m:=400) mixed Tryz.func104 rfl rfl (Nat.le_of_ble_eq_true rfl) ?_
 simp only[nt,rs]
 clear nt rs
 (try refine am ?_);(try exact amT)
 refine CallK.one (specSchemaOk s _ _ h) (fun _=>amC) ?_
 (try refine am ?_);(try exact amT)
 repeat' with_reducible first|apply zA|intro _
 all_goals try exact amA
 ·refine FinK.val1 ?_ ?_
  all_goals try refine amF ?_
  all_goals try exact amT
  rename_i h1
  refine(decide_eq_false (fun e=>?_)).symm
  rcases h1 with h1|h1
  ·exact h1 e.1
  ·have:=e.2.1.1;omega
 rename_i h1
 obtain⟨hS,hlen⟩:=h1
 have hc3:=hS.2.1
 refine LoopK.auto (Nat) (fun k=>[(5,.one (.av (.int .i64 (tot1 (t.totals.take k))))),(6,.one (.av (.int .i64 k)))]) (fun k=>[]) [2,3] (k0:=?k04) (keepH:=?kh4) 400 (fun k=>k≤t.totals.length∧∀j,j<k→0≤t.totals.getD j 0∧t.totals.getD j 0≤999) (fun k=>t.totals.length - k) (0) ?kea4 ?keb4 ?_ ?_ ?_
 case kea4=>exact amN
 case keb4=>exact amN
 ·exact⟨Nat.zero_le _,fun j hj=>by omega⟩
 ·refine LeA [] ?_ ?_ ?_
  all_goals try refine amL ?_
  all_goals try exact amT
  rfl
 ·intro k hk
  have hb:=tot1_pre hk.1 hk.2
  (try refine am ?_);(try exact amT)
  repeat' with_reducible first|apply zA|intro _
  all_goals try exact amA
  ·have hlt:k<t.totals.length:=by assumption
   have ht:=tot1_take hlt
   refine CallK.one (l1In (t.totals.getD k 0) 0 999) (fun _=>amC) ?_
   (try refine am ?_);(try exact amT)
   repeat' with_reducible first|apply zA|intro _
   all_goals try exact amA
   ·refine FinK.val1 ?_ ?_
    all_goals try refine amF ?_
    all_goals try exact amT
    rename_i h2
    exact(decide_eq_false (fun e=>h2 (e.2.1.2 k hlt))).symm
   ·rename_i h2
    refine⟨k+1,?_,⟨by omega,fun j hj=>?_⟩,by omega⟩
    ·refine LeA [] ?_ ?_ ?_
     all_goals try refine amL ?_
     all_goals try exact amT
     exact ht.symm
    ·by_cases e:j=k
     ·rw[e];exact h2
     ·exact hk.2 j (by omega)
  all_goals have ek:k=t.totals.length:=by omega
  all_goals subst ek
  all_goals rw[List.take_length] at *
  ·refine FinK.val1 ?_ ?_
   all_goals try refine amF ?_
   all_goals try exact amT
   rename_i h2 h3
   exact(decide_eq_false (fun e=>by have:=e.2.2.1;omega)).symm
  ·refine FinK.val1 ?_ ?_
   all_goals try refine amF ?_
   all_goals try exact amT
   rename_i h2 h3 h4
   exact(decide_eq_true ⟨hS,⟨by omega,hk.2⟩,by omega,.inl (by omega)⟩).symm
  ·refine FinK.val1 ?_ ?_
   all_goals try refine amF ?_
   all_goals try exact amT
   rename_i h2 h3 h4 h5
   exact(decide_eq_false (fun e=>by rcases e.2.2.2 with e|e<;>omega)).symm
  rename_i h2 h3 h4 h5
  refine LoopK.auto (Nat) (fun i=>[(7,.one (.av (.int .i64 i)))]) (fun i=>[]) [2,3] (k0:=?k05) (keepH:=?kh5) 800 (fun i=>i≤t.cells.length∧∀j,j<i→cellsOk s t j) (fun i=>t.cells.length - i) (0) ?kea5 ?keb5 ?_ ?_ ?_
  case kea5=>exact amN
  case keb5=>exact amN
  ·exact⟨Nat.zero_le _,fun j hj=>by omega⟩
  ·refine LeA [] ?_ ?_ ?_
   all_goals try refine amL ?_
   all_goals try exact amT
  ·intro i hi
   (try refine am ?_);(try exact amT)
   repeat' with_reducible first|apply zA|intro _
   all_goals try exact amA
   ·have hlt:i<t.cells.length:=by assumption
    have hrow:=h'.2.2 _ (getD_mem (d:=[]) hlt)
    have hat:=hS.2.2.2.1 i (by omega)
    have hbin:=attrOk_bins hat
    have hbc:(bins (s.attrs.getD i default):Int)*s.classes.length=((bins (s.attrs.getD i default)*s.classes.length:Nat):Int):=(Int.natCast_mul _ _).symm
    have hbc2:bins (s.attrs.getD i default)*s.classes.length≤4*3:=Nat.mul_le_mul hbin.2 (by omega)
    have hbn:(if attrOk (s.attrs.getD i default) then bins (s.attrs.getD i default) else 0)=bins (s.attrs.getD i default):=if_pos hat
    refine CallK.one (specBins (s.attrs.getD i default) _ false (h.1.2 _ (getD_mem (by omega)))) (fun _=>amC) ?_
    (try refine am ?_);(try exact amT)
    (try refine am ?_);(try simp only[hbn]);(try refine am ?_);(try exact amT)
    (try refine am ?_);(try simp only[hbc]);(try refine am ?_);(try exact amT)
    repeat' with_reducible first|apply zA|intro _
    all_goals try exact amA
    ·refine FinK.val1 ?_ ?_
     all_goals try refine amF ?_
     all_goals try exact amT
     rename_i h6
     refine(decide_eq_false (fun e=>?_)).symm
     rcases e.2.2.2 with e|e
     ·omega
     ·have:=(e.2 i hlt).1.1;omega
    rename_i h6
    have hrl:(t.cells.getD i []).length=bins (s.attrs.getD i default)*s.classes.length:=by omega
    refine LoopK.auto (Nat) (fun k=>[(9,.one (.av (.int .i64 k)))]) (fun k=>[]) [2,3,7,8] (k0:=?k06) (keepH:=?kh6) 1200 (fun k=>k≤s.classes.length∧∀k',k'<k→(∀b,b<bins (s.attrs.getD i default)→0≤(t.cells.getD i []).getD (b*s.classes.length+k') 0∧(t.cells.getD i []).getD (b*s.classes.length+k') 0≤999)∧colS (t.cells.getD i []) s.classes.length k' (bins (s.attrs.getD i default)*s.classes.length)≤t.totals.getD k' 0) (fun k=>s.classes.length - k) (0) ?kea6 ?keb6 ?_ ?_ ?_
    case kea6=>exact amN
    case keb6=>exact amN
    ·exact⟨Nat.zero_le _,fun j hj=>by omega⟩
    ·refine LeA [] ?_ ?_ ?_
     all_goals try refine amL ?_
     all_goals try exact amT
    ·intro k hk2
     (try refine am ?_);(try exact amT)
     repeat' with_reducible first|apply zA|intro _
     all_goals try exact amA
     ·have hkc:k<s.classes.length:=by assumption
      refine LoopK.auto (Nat) (fun b=>[(10,.one (.av (.int .i64 (colS (t.cells.getD i []) s.classes.length k (b*s.classes.length))))),(11,.one (.av (.int .i64 b)))]) (fun b=>[]) [2,3,7,8,9] (k0:=?k07) (keepH:=?kh7) 1600 (fun b=>b≤bins (s.attrs.getD i default)∧(0≤colS (t.cells.getD i []) s.classes.length k (b*s.classes.length)∧colS (t.cells.getD i []) s.classes.length k (b*s.classes.length)≤999*b)∧∀b',b'<b→0≤(t.cells.getD i []).getD (b'*s.classes.length+k) 0∧(t.cells.getD i []).getD (b'*s.classes.length+k) 0≤999) (fun b=>bins (s.attrs.getD i default) - b) (0) ?kea7 ?keb7 ?_ ?_ ?_
      case kea7=>exact amN
      case keb7=>exact amN
      ·exact⟨Nat.zero_le _,by simp[colS],fun j hj=>by omega⟩
      ·refine LeA [] ?_ ?_ ?_
       all_goals try refine amL ?_
       all_goals try exact amT
       simp[colS]
      ·intro b hb2
       have e1:(b:Int)*s.classes.length=((b*s.classes.length:Nat):Int):=(Int.natCast_mul _ _).symm
       have e2:((b*s.classes.length:Nat):Int)+(k:Int)=((b*s.classes.length+k:Nat):Int):=(Int.natCast_add _ _).symm
       have e3:b*s.classes.length≤4*3:=Nat.mul_le_mul (by omega) (by omega)
       have hrow2:=colS_row (l:=t.cells.getD i []) hkc b
       have hE:(((b*s.classes.length:Nat):Int)+(k:Int)).toNat=b*s.classes.length+k:=by omega
       have hub:¬b<bins (s.attrs.getD i default)∨b*s.classes.length+k<bins (s.attrs.getD i default)*s.classes.length:=by
        by_cases hb3:b<bins (s.attrs.getD i default)
        ·have:=Nat.mul_le_mul_right s.classes.length (show b+1≤bins (s.attrs.getD i default) by omega)
         rw[Nat.add_mul,Nat.one_mul] at this
         exact .inr (by omega)
        ·exact .inl hb3
       (try refine am ?_);(try exact amT)
       (try refine am ?_);(try simp only[e1]);(try refine am ?_);(try exact amT)
       (try refine am ?_);(try simp only[hE]);(try refine am ?_);(try exact amT)
       repeat' with_reducible first|apply zA|intro _
       all_goals try exact amA
       ·have hb3:b<bins (s.attrs.getD i default):=by assumption
        refine CallK.one (l1In ((t.cells.getD i []).getD (b*s.classes.length+k) 0) 0 999) (fun _=>amC) ?_
        (try refine am ?_);(try exact amT)
        repeat' with_reducible first|apply zA|intro _
        all_goals try exact amA
        ·refine FinK.val1 ?_ ?_
         all_goals try refine amF ?_
         all_goals try exact amT
         rename_i h7
         refine(decide_eq_false (fun e=>?_)).symm
         rcases e.2.2.2 with e|e
         ·omega
         ·exact h7 ((e.2 i hlt).1.2 _ (by omega))
        ·rename_i h7
         refine⟨b+1,?_,⟨by omega,by omega,fun b' hb'=>?_⟩,by omega⟩
         ·refine LeA [] ?_ ?_ ?_
          all_goals try refine amL ?_
          all_goals try exact amT
          exact hrow2.symm
         ·by_cases e:b'=b
          ·rw[e];exact h7
          ·exact hb2.2.2 b' (by omega)
       ·refine FinK.val1 ?_ ?_
        all_goals try refine amF ?_
        all_goals try exact amT
        rename_i h7 h8
        have eb:b=bins (s.attrs.getD i default):=by omega
        refine(decide_eq_false (fun e=>?_)).symm
        rcases e.2.2.2 with e|e
        ·omega
        ·have e9:=(e.2 i hlt).2 k hkc
         rw[hrl,←eb] at e9
         omega
       ·rename_i h7 h8
        have eb:b=bins (s.attrs.getD i default):=by omega
        refine⟨k+1,?_,⟨by omega,fun k' hk'=>?_⟩,by omega⟩
        ·refine LeA [] ?_ ?_ ?_
         all_goals try refine amL ?_
         all_goals try exact amT
        ·by_cases e:k'=k
         ·rw[e]
          exact⟨fun b' hb'=>hb2.2.2 b' (by omega),by rw[←eb];omega⟩
         ·exact hk2.2 k' (by omega)
     ·have ek:k=s.classes.length:=by omega
      refine⟨i+1,?_,⟨by omega,fun j hj=>?_⟩,by omega⟩
      ·refine LeA [] ?_ ?_ ?_
       all_goals try refine amL ?_
       all_goals try exact amT
      ·by_cases e:j=i
       ·rw[e]
        refine⟨⟨by rw[hbc,hrl],fun q hq=>?_⟩,fun q hq=>?_⟩
        ·have hq1:q % s.classes.length<s.classes.length:=Nat.mod_lt _ (by omega)
         have hq2:q / s.classes.length<bins (s.attrs.getD i default):=Nat.div_lt_of_lt_mul (by rw[Nat.mul_comm];omega)
         have:=(hk2.2 (q % s.classes.length) (by omega)).1 (q / s.classes.length) hq2
         have e9:q / s.classes.length*s.classes.length+q % s.classes.length=q:=by rw[Nat.mul_comm];exact Nat.div_add_mod q _
         rw[e9] at this
         exact this
        ·rw[hrl]
         exact(hk2.2 q (by omega)).2
       ·exact hi.2 j (by omega)
   ·refine FinK.val1 ?_ ?_
    all_goals try refine amF ?_
    all_goals try exact amT
    exact(decide_eq_true ⟨hS,⟨by omega,hk.2⟩,by omega,.inr ⟨by omega,fun j hj=>hi.2 j (by omega)⟩⟩).symm
theorem specStatsTotal (s:DSchema) (t:DStats) (u v u' v':Bool) (h:okSchema (2^47) s) (h':okStats (2^47) t):ACalls Tryz.prog 105 [.agg (cSchema u v s),.agg (cStats u' v' t)] (fun r=>r=.val (.one (.int .i64 (if statsOk s t then tot1 t.totals else 0)))):=by
 have hl:=h'.1.1
 have nt:Tryz.f105.ntmps=26:=rfl
 have rs:Tryz.f105.results=#[.tmp 4]:=rfl
 refine ACalls.of_run (m:=400) mixed Tryz.func105 rfl rfl (Nat.le_of_ble_eq_true rfl) ?_
 simp only[nt,rs]
 clear nt rs
 (try refine am ?_);(try exact amT)
 refine CallK.one (specStatsOk s t _ _ _ _ h h') (fun _=>amC) ?_
 (try refine am ?_);(try exact amT)
 repeat' with_reducible first|apply zA|intro _
 all_goals try exact amA
 ·refine FinK.val1 ?_ ?_
  all_goals try refine amF ?_
  all_goals try exact amT
  rename_i h
  exact(if_neg h).symm
 rename_i hs
 rw[if_pos hs]
 refine LoopK.auto (Nat) (fun i=>[(5,.one (.av (.int .i64 (tot1 (t.totals.take i))))),(6,.one (.av (.int .i64 i)))]) (fun i=>[]) [3] (k0:=?k08) (keepH:=?kh8) 400 (fun i=>i≤t.totals.length) (fun i=>t.totals.length - i) (0) ?kea8 ?keb8 ?_ ?_ ?_
 case kea8=>exact amN
 case keb8=>exact amN
 ·exact Nat.zero_le _
 ·refine LeA [] ?_ ?_ ?_
  all_goals try refine amL ?_
  all_goals try exact amT
  rfl
 ·intro i hi
  have hb:=hs.2.1.2
  have hlen:=hs.2.1.1
  have hc:=hs.1.2.1
  have ht:=tot1_take_bd (c:=999) (by omega) hb i
  have ht2:=tot1_take_bd (c:=999) (by omega) hb (i+1)
  (try refine am ?_);(try exact amT)
  repeat' with_reducible first|apply zA|intro _
  all_goals try exact amA
  ·have:=tot1_take (by assumption:i<t.totals.length)
   omega
  ·have:=tot1_take (by assumption:i<t.totals.length)
   omega
  ·have:=tot1_take (by assumption:i<t.totals.length)
   refine⟨i+1,?_,by omega,by omega⟩
   refine LeA [] ?_ ?_ ?_
   all_goals try refine amL ?_
   all_goals try exact amT
   exact this.symm
  ·refine FinK.val1 ?_ ?_
   all_goals try refine amF ?_
   all_goals try exact amT
   have:i=t.totals.length:=by omega
   rw[this,List.take_length]
theorem statsOk_mx {s:DSchema} {t:DStats} (hs:statsOk s t):t.totals.length≠0∧t.totals.length≤3∧(0≤mx t.totals∧mx t.totals≤999)∧0≤tot1 t.totals∧tot1 t.totals≤999:=by
 have hlen:=hs.2.1.1
 have hc:=hs.1.2.1
 obtain⟨j,h1,h2,h3⟩:=top_mx (l:=t.totals) (by omega)
 have:=hs.2.1.2 j h1
 have ht:=tot1_bd (c:=999) hs.2.1.2
 have:=hs.2.2.1
 omega
theorem implPromise (s:DSchema) (t:DStats) (u v u' v':Bool) (h:okSchema (2^47) s) (h':okStats (2^47) t):ACalls Tryz.prog 18 [.agg (cSchema u v s),.agg (cStats u' v' t)] (fun r=>r=.val (.one (.int .i64 (promise s t)))):=by
 have hl:=h'.1.1
 have nt:Tryz.f18.ntmps=16:=rfl
 have rs:Tryz.f18.results=#[.tmp 4]:=rfl
 refine ACalls.of_run (m:=400) mixed Tryz.func18 rfl rfl (Nat.le_of_ble_eq_true rfl) ?_
 simp only[nt,rs]
 clear nt rs
 (try refine am ?_);(try exact amT)
 refine CallK.one (implStatsOk s t _ _ _ _ h h') (fun _=>amC) ?_
 (try refine am ?_);(try exact amT)
 repeat' with_reducible first|apply zA|intro _
 all_goals try exact amA
 ·refine FinK.val1 ?_ ?_
  all_goals try refine amF ?_
  all_goals try exact amT
  rename_i h
  exact(if_neg h).symm
 rename_i hs
 have hm:=statsOk_mx hs
 have e:promise s t=tot1 t.totals - mx t.totals:=if_pos hs
 rw[e]
 refine CallE.one (totalI t.totals _ _ 999 (by omega) hl hs.2.1.2 (by omega)) (fun _=>amC) rfl ?_
 (try refine am ?_);(try exact amT)
 repeat' with_reducible first|apply zA|intro _
 all_goals try exact amA
 refine CallE.one (maxI t.totals _ _ hm.1 hl) (fun _=>amC) rfl ?_
 (try refine am ?_);(try exact amT)
 repeat' with_reducible first|apply zA|intro _
 all_goals try exact amA
 refine FinK.val1 ?_ ?_
 all_goals try refine amF ?_
 all_goals try exact amT
theorem specPromise (s:DSchema) (t:DStats) (u v u' v':Bool) (h:okSchema (2^47) s) (h':okStats (2^47) t):ACalls Tryz.prog 109 [.agg (cSchema u v s),.agg (cStats u' v' t)] (fun r=>r=.val (.one (.int .i64 (promise s t)))):=by
 have hl:=h'.1.1
 have nt:Tryz.f109.ntmps=20:=rfl
 have rs:Tryz.f109.results=#[.tmp 4]:=rfl
 refine ACalls.of_run (m:=400) mixed Tryz.func109 rfl rfl (Nat.le_of_ble_eq_true rfl) ?_
 simp only[nt,rs]
 clear nt rs
 (try refine am ?_);(try exact amT)
 refine CallK.one (specStatsOk s t _ _ _ _ h h') (fun _=>amC) ?_
 (try refine am ?_);(try exact amT)
 repeat' with_reducible first|apply zA|intro _
 all_goals try exact amA
 ·refine FinK.val1 ?_ ?_
  all_goals try refine amF ?_
  all_goals try exact amT
  rename_i h
  exact(if_neg h).symm
 rename_i hs
 have hm:=statsOk_mx hs
 obtain⟨j,hj1,hj2,hj3⟩:=top_mx (l:=t.totals) (by omega)
 have e:promise s t=tot1 t.totals - mx t.totals:=if_pos hs
 rw[e]
 refine CallE.one (specStatsTotal s t _ _ _ _ h h') (fun _=>amC) rfl ?_
 (try refine am ?_);(try exact amT)
 repeat' with_reducible first|apply zA|intro _
 all_goals try exact amA
 refine CallE.one (specTopOf t.totals _ _ hl) (fun _=>amC) rfl ?_
 (try refine am ?_);(try exact amT)
 (try refine am ?_);(try simp only[hj2,if_pos hs]);(try refine am ?_);(try exact amT)
 repeat' with_reducible first|apply zA|intro _
 all_goals try exact amA
 refine FinK.val1 ?_ ?_
 all_goals try refine amF ?_
 all_goals try exact amT
 rw[hj3]
end Go.AM
