/- Lemmas for the proof of this claim. -/
import Derived.Test.YtpbahibieegbgaaGreatFrk
import Derived.Test.YtpbahibieegbgaaGreatNat
import Derived.Test.YtpbahibieegbgaaGreatDr1
namespace Go.AM
set_option maxHeartbeats 64000000
open Go Go.Proofs
set_option maxRecDepth 100000
def btU (s:DSchema) (f:DFork) (j:Nat) (b:Nat):Bool:=decide (0≤branchOf s f b∧branchOf s f b<(j:Int))
theorem brS_add {l:List Int} {c k:Nat} {p q r:Nat→Bool} (h:∀b,(r b=true↔p b=true∨q b=true)∧¬(p b=true∧q b=true)):∀m,brS l c p k m+brS l c q k m=brS l c r k m
 |0=>rfl
 |m+1=>by
  have ih:=brS_add (l:=l) (c:=c) (k:=k) h m
  have hb:=h (m / c)
  rw[brS_succ,brS_succ,brS_succ,←ih]
  by_cases e:m % c=k
  ·cases hp:p (m / c)<;>cases hq:q (m / c)<;>cases hr:r (m / c)<;>simp_all<;>omega
  ·rw[if_neg (fun h=>e h.1),if_neg (fun h=>e h.1),if_neg (fun h=>e h.1)];omega
theorem btU_succ (s:DSchema) (f:DFork) (j b:Nat):(btU s f (j+1) b=true↔btU s f j b=true∨btQ s f (j:Int) b=true)∧¬(btU s f j b=true∧btQ s f (j:Int) b=true):=by
 simp only[btU,btQ,decide_eq_true_eq]
 omega
theorem brS_mono {l:List Int} {c k:Nat} {p q:Nat→Bool} (h0:∀i,i<l.length→0≤l.getD i 0) (h:∀b,p b=true→q b=true):∀{m},m≤l.length→0≤brS l c p k m∧brS l c p k m≤brS l c q k m
 |0,_=>⟨Int.le_refl _,Int.le_refl _⟩
 |m+1,hm=>by
  have ih:=brS_mono (c:=c) (k:=k) h0 h (m:=m) (by omega)
  have hb:=h (m / c)
  have hx:=h0 m (by omega)
  rw[brS_succ,brS_succ]
  by_cases e:m % c=k∧p (m / c)=true
  ·rw[if_pos e,if_pos ⟨e.1,hb e.2⟩];omega
  ·rw[if_neg e]
   split<;>omega
theorem brS_col (l:List Int) (c k:Nat):∀m,brS l c (fun _=>true) k m=colS l c k m
 |0=>rfl
 |m+1=>by
  rw[brS_succ,brS_col l c k m,colS_succ]
  simp only[and_true]
theorem tot1_mono:∀{l m:List Int},l.length=m.length→(∀i,i<l.length→0≤l.getD i 0∧l.getD i 0≤m.getD i 0)→0≤tot1 l∧tot1 l≤tot1 m
 |[],[],_,_=>⟨Int.le_refl _,Int.le_refl _⟩
 |x::l,y::m,hl,h=>by
  have ih:=tot1_mono (l:=l) (m:=m) (by simpa using hl) (fun i hi=>by have:=h (i+1) (by simpa using hi);simpa using this)
  have h0:=h 0 (by simp)
  simp only[List.getD_cons_zero] at h0
  show 0≤x+tot1 l∧x+tot1 l≤y+tot1 m
  omega
theorem brL_tot {s:DSchema} {t:DStats} {f:DFork} (hs:statsOk s t) (hc:t.cells.length≠0) (hf:forkOk s f) (q:Nat→Bool):(0≤tot1 (brL (t.cells.getD f.attr.toNat []) s.classes.length q (t.cells.getD f.attr.toNat []).length)∧tot1 (brL (t.cells.getD f.attr.toNat []) s.classes.length q (t.cells.getD f.attr.toNat []).length)≤999)∧∀k,0≤(brL (t.cells.getD f.attr.toNat []) s.classes.length q (t.cells.getD f.attr.toNat []).length).getD k 0∧(brL (t.cells.getD f.attr.toNat []) s.classes.length q (t.cells.getD f.attr.toNat []).length).getD k 0≤999:=by
 obtain⟨h1,⟨h2,h3⟩,h4,h5⟩:=hs
 have h5:=h5.resolve_left hc
 have hat:f.attr.toNat<t.cells.length:=by have:=hf.2.1;omega
 obtain⟨⟨_,g1⟩,g2⟩:=h5.2 _ hat
 have key:∀k,k<s.classes.length→0≤brS (t.cells.getD f.attr.toNat []) s.classes.length q k (t.cells.getD f.attr.toNat []).length∧brS (t.cells.getD f.attr.toNat []) s.classes.length q k (t.cells.getD f.attr.toNat []).length≤t.totals.getD k 0:=fun k hk=>by
  have:=brS_mono (l:=t.cells.getD f.attr.toNat []) (c:=s.classes.length) (k:=k) (p:=q) (q:=fun _=>true) (fun i hi=>(g1 i hi).1) (fun _ _=>rfl) (Nat.le_refl _)
  rw[brS_col] at this
  have:=g2 k hk
  omega
 have hlen:(brL (t.cells.getD f.attr.toNat []) s.classes.length q (t.cells.getD f.attr.toNat []).length).length=t.totals.length:=by rw[brL_len];omega
 have:=tot1_mono hlen (fun i hi=>by rw[brL_get (by omega)];exact key i (by omega))
 refine⟨by omega,fun k=>?_⟩
 by_cases e:k<s.classes.length
 ·rw[brL_get e]
  have:=key k e
  have:=h3 k (by omega)
  omega
 ·have:(brL (t.cells.getD f.attr.toNat []) s.classes.length q (t.cells.getD f.attr.toNat []).length).getD k 0=0:=by
   have hl:=brL_len (l:=t.cells.getD f.attr.toNat []) (c:=s.classes.length) (q:=q) (m:=(t.cells.getD f.attr.toNat []).length)
   rw[List.getD_eq_getElem?_getD,List.getElem?_eq_none (by omega)];rfl
  rw[this];decide
theorem specSquares (l:List Int) (u:Bool) (nl:Option Bool) (hl:l.length≤3) (hb:∀k,0≤l.getD k 0∧l.getD k 0≤999) (_:tot1 l≤999):ACalls Tryz.prog 248 [.one (.sl u nl 1 l.length (fI l))] (fun r=>∃z:Int,(0≤z∧z≤999*tot1 l)∧r=.val (.one (.int .i64 z))):=by
 have nt:Tryz.f248.ntmps=32:=rfl
 have rs:Tryz.f248.results=#[.tmp 2]:=rfl
 refine ACalls.of_runC (m:=400) mixed Tryz.func248 rfl rfl (Nat.le_of_ble_eq_true rfl) ?_
 simp only[nt,rs]
 clear nt rs
 (try refine am ?_);(try exact amT)
 repeat' with_reducible first|apply zA|intro _
 all_goals try exact amA
 refine LoopK.auto ((Nat×Int)) (fun x=>[(4,.one (.av (.int .i64 x.1))),(3,.one (.av (.int .i64 x.2)))]) (fun x=>[]) [0] (k0:=?k01) (keepH:=?kh1) 400 (fun x=>x.1≤l.length∧0≤x.2∧x.2≤999*tot1 (l.take x.1)) (fun x=>l.length - x.1) ((0,0)) ?kea1 ?keb1 ?_ ?_ ?_
 case kea1=>exact amN
 case keb1=>exact amN
 ·exact⟨Nat.zero_le _,Int.le_refl _,by simp[tot1,smI]⟩
 ·refine LeA [] ?_ ?_ ?_
  all_goals try refine amL ?_
  all_goals try exact amT
 ·rintro⟨i,n⟩ ⟨hi,h0,h1⟩
  dsimp only at hi h0 h1 ⊢
  have hx:=hb i
  have ht1:=tot1_take_bd (c:=999) (by decide) (l:=l) (fun i _=>hb i) i
  have hxx:0≤l.getD i 0*l.getD i 0∧l.getD i 0*l.getD i 0≤999*l.getD i 0:=⟨Int.mul_nonneg hx.1 hx.1,Int.mul_le_mul_of_nonneg_right hx.2 hx.1⟩
  (try refine am ?_);(try exact amT)
  repeat' with_reducible first|apply zA|intro _
  all_goals try exact amA
  ·refine CallK.one (l1In (l.getD i 0) 0 999) (fun _=>amC) ?_
   (try refine am ?_);(try exact amT)
   repeat' with_reducible first|apply zA|intro _
   all_goals try exact amA
   ·have:=tot1_take (by assumption:i<l.length)
    refine⟨(i+1,n+l.getD i 0*l.getD i 0),?_,⟨by simp only;omega,by simp only;omega,by simp only;omega⟩,by simp only;omega⟩
    refine LeA [] ?_ ?_ ?_
    all_goals try refine amL ?_
    all_goals try exact amT
  ·have e:i=l.length:=by omega
   rw[e,List.take_length] at h1
   refine FinK.ex (n) ?hq1 ?_
   case hq1=>exact⟨h0,h1⟩
   refine FinK.val1 ?_ ?_
   all_goals try refine amF ?_
   all_goals try exact amT
def pw:Nat→Int
 |0=>1
 |n+1=>999*pw n
theorem pw_le:∀{i:Nat},i<5→1≤pw i∧pw i≤996005996001:=fun {i} h=>by
 have:∀i,i<5→1≤pw i∧pw i≤996005996001:=by decide
 exact this i h
def alM (s:DSchema) (t:DStats) (f:DFork) (i k:Nat):List Int:=(List.range s.classes.length).map fun j=>brS (t.cells.getD f.attr.toNat []) s.classes.length (btU s f (if j<k then i+1 else i)) j (t.cells.getD f.attr.toNat []).length
theorem alM_len {s:DSchema} {t:DStats} {f:DFork} {i k:Nat}:(alM s t f i k).length=s.classes.length:=by simp[alM]
theorem alM_get {s:DSchema} {t:DStats} {f:DFork} {i k j:Nat} (h:j<s.classes.length):(alM s t f i k).getD j 0=brS (t.cells.getD f.attr.toNat []) s.classes.length (btU s f (if j<k then i+1 else i)) j (t.cells.getD f.attr.toNat []).length:=by simp[alM,List.getD,h]
theorem alM_0 {s:DSchema} {t:DStats} {f:DFork} {i:Nat}:alM s t f i 0=brL (t.cells.getD f.attr.toNat []) s.classes.length (btU s f i) (t.cells.getD f.attr.toNat []).length:=by simp[alM,brL]
theorem alM_c {s:DSchema} {t:DStats} {f:DFork} {i:Nat}:alM s t f i s.classes.length=alM s t f (i+1) 0:=by
 unfold alM
 refine List.map_congr_left (fun j hj=>?_)
 rw[if_pos (List.mem_range.1 hj),if_neg (Nat.not_lt_zero _)]
theorem alM_step {s:DSchema} {t:DStats} {f:DFork} {i k:Nat} (h:k<s.classes.length):(alM s t f i k).set k ((alM s t f i k).getD k 0+(btL s t f (i:Int)).getD k 0)=alM s t f i (k+1):=by
 refine getD_ext (d:=0) (by simp[alM]) (fun j hj=>?_)
 have hj':j<s.classes.length:=by simpa [alM] using hj
 by_cases e:j=k
 ·subst e
  rw[List.getD_eq_getElem?_getD,List.getElem?_set,if_pos rfl,if_pos (by rw[alM_len];exact hj'),Option.getD_some,alM_get hj',alM_get hj',if_neg (Nat.lt_irrefl _),if_pos (Nat.lt_succ_self _)]
  unfold btL
  rw[brL_get hj',brS_add (btU_succ s f i)]
 ·rw[getDsi e,alM_get hj',alM_get hj']
  by_cases h2:j<k
  ·rw[if_pos h2,if_pos (by omega)]
  ·rw[if_neg h2,if_neg (by omega)]
theorem alM_bd {s:DSchema} {t:DStats} {f:DFork} (hs:statsOk s t) (hc:t.cells.length≠0) (hf:forkOk s f) (i k j:Nat):0≤(alM s t f i k).getD j 0∧(alM s t f i k).getD j 0≤999:=by
 by_cases h:j<s.classes.length
 ·have:=(brL_tot hs hc hf (btU s f (if j<k then i+1 else i))).2 j
  rw[brL_get h] at this
  rw[alM_get h]
  exact this
 ·have:(alM s t f i k).getD j 0=0:=by
   have:=alM_len (s:=s) (t:=t) (f:=f) (i:=i) (k:=k)
   rw[List.getD_eq_getElem?_getD,List.getElem?_eq_none (by omega)];rfl
  rw[this];decide
end Go.AM
namespace Go.AM
set_option maxHeartbeats 64000000
open Go Go.Proofs
set_option maxRecDepth 100000
theorem brS_no {l:List Int} {c k:Nat} {q:Nat→Bool} (h:∀b,q b=false):∀m,brS l c q k m=0
 |0=>rfl
 |m+1=>by rw[brS_succ,brS_no h m,if_neg (fun e=>by rw[h] at e;exact absurd e.2 (by decide))];rfl
theorem alM_00 {s:DSchema} {t:DStats} {f:DFork}:alM s t f 0 0=List.replicate s.classes.length 0:=by
 refine getD_ext (d:=0) (by simp[alM]) (fun j hj=>?_)
 have hj':j<s.classes.length:=by simpa [alM] using hj
 rw[alM_get hj',rep0_get,if_neg (Nat.not_lt_zero _)]
 exact brS_no (fun b=>decide_eq_false (by omega)) _
theorem specMerit (s:DSchema) (t:DStats) (f:DFork) (u v u' v':Bool) (h:okSchema (2^47) s) (h':okStats (2^47) t) (hf:okFork (2^47) f):ACalls Tryz.prog 240 [.agg (cSchema u v s),.agg (cStats u' v' t),.agg (cFork f)] (fun r=>∃y:DFrac,okFrac (2^40) y∧r=.val (.agg (cFrac y))):=by
 have hl:=h'.2.1
 have hbr:=branches_le s f
 have nt:Tryz.f240.ntmps=136:=rfl
 have rs:Tryz.f240.results=#[.cell 6 123]:=rfl
 refine ACalls.of_runC (m:=400) mixed Tryz.func240 rfl rfl (Nat.le_of_ble_eq_true rfl) ?_
 simp only[nt,rs]
 clear nt rs
 (try refine am ?_);(try exact amT)
 refine CallK.one (specStatsOk s t _ _ _ _ h h') (fun _=>amC) ?_
 (try refine am ?_);(try exact amT)
 repeat' with_reducible first|apply zA|intro _
 all_goals try exact amA
 refine CallG.one rfl (fun hg=>specForkOk s f _ _ h hf) ?_
 (try refine am ?_);(try exact amT)
 repeat' with_reducible first|apply zA|intro _
 all_goals try exact amA
 ·refine FinK.ex (⟨0,0⟩) ?hq1 ?_
  case hq1=>exact⟨⟨by decide,by decide⟩,by decide,by decide⟩
  refine FinK.cell1 ?_ ?_ ?_
  all_goals try refine amF ?_
  all_goals try exact amT
 ·have hs:statsOk s t:=by simp_all
  have:=hs.1.2.1.2
  omega
 have hs:statsOk s t:=by simp_all
 have hc:t.cells.length≠0:=by omega
 have hfo:forkOk s f:=by simp_all
 have hcl:=hs.1.2.1
 refine LoopK.auto ((Nat×List Int×List Int)) (fun x=>[(10,.one (.av (.int .i64 x.1))),(7,.one (.own 302 [] [0])),(8,.one (.own 303 [] [0])),(9,.one (.own 304 [] [0]))]) (fun x=>[(302,⟨.sl true none 1 (alM s t f x.1 0).length (fI (alM s t f x.1 0)),[]⟩),(303,⟨.sl true none 1 x.2.1.length (fI x.2.1),[]⟩),(304,⟨.sl true none 1 x.2.2.length (fI x.2.2),[]⟩)]) [3,4,5,6] (k0:=?k01) (keepH:=?kh1) 500 (fun x=>(x.1≤branches s f∧x.2.1.length≤x.1∧x.2.2.length=x.2.1.length)∧∀j,j<x.2.1.length→(1≤x.2.1.getD j 0∧x.2.1.getD j 0≤999)∧0≤x.2.2.getD j 0∧x.2.2.getD j 0≤999*x.2.1.getD j 0) (fun x=>branches s f - x.1) ((0,[],[])) ?kea1 ?keb1 ?_ ?_ ?_
 case kea1=>exact amN
 case keb1=>exact amN
 ·exact⟨⟨Nat.zero_le _,Nat.le_refl _,rfl⟩,fun j hj=>by simp at hj⟩
 ·refine LeA [] ?_ ?_ ?_
  all_goals try refine amL ?_
  all_goals try exact amT
  refine⟨ALe.of (.inl rfl) rfl (fun i hi=>by omega),ALe.of (.inl rfl) rfl (fun i hi=>by omega),?_⟩
  rw[alM_00]
  exact repLe rfl
 ·rintro⟨i,z,q⟩ ⟨⟨hi,hz,hq⟩,hb⟩
  dsimp only at hi hz hq hb ⊢
  (try refine am ?_);(try exact amT)
  refine CallK.one (specBranches s f _ _ h hf) (fun _=>amC) ?_
  (try refine am ?_);(try exact amT)
  repeat' with_reducible first|apply zA|intro _
  all_goals try exact amA
  ·have hlt:i<branches s f:=by omega
   have hbt:(0≤tot1 (btL s t f (i:Int))∧tot1 (btL s t f (i:Int))≤999)∧∀k,0≤(btL s t f (i:Int)).getD k 0∧(btL s t f (i:Int)).getD k 0≤999:=brL_tot hs hc hfo (btQ s f (i:Int))
   refine CallK.one (specBranchTotals s t f (i:Int) _ _ _ _ h h' hf ⟨hs,hc⟩ ⟨by omega,by omega⟩) (fun _=>amC) ?_
   (try refine am ?_);(try exact amT)
   have hbl:(btL s t f (i:Int)).length=s.classes.length:=brL_len
   repeat' with_reducible first|apply zA|intro _
   all_goals try exact amA
   refine LoopK.auto (Nat) (fun k=>[(12,.one (.av (.int .i64 k))),(7,.one (.own 305 [] [0]))]) (fun k=>[(305,⟨.sl true none 1 (alM s t f i k).length (fI (alM s t f i k)),[]⟩)]) [3,4,5,6,8,9,10,11] (k0:=?k02) (keepH:=?kh2) 700 (fun k=>k≤s.classes.length) (fun k=>s.classes.length - k) (0) ?kea2 ?keb2 ?_ ?_ ?_
   case kea2=>exact amN
   case keb2=>exact amN
   ·exact Nat.zero_le _
   ·refine LeA [] ?_ ?_ ?_
    all_goals try refine amL ?_
    all_goals try exact amT
   ·intro k hk
    have h1:=alM_bd hs hc hfo i k k
    have h2:=hbt.2 k
    have hal:=alM_len (s:=s) (t:=t) (f:=f) (i:=i) (k:=k)
    have hsq:=hbt.1
    (try refine am ?_);(try exact amT)
    repeat' with_reducible first|apply zA|intro _
    all_goals try exact amA
    ·refine⟨k+1,?_,by omega,by omega⟩
     refine LeA [] ?_ ?_ ?_
     all_goals try refine amL ?_
     all_goals try exact amT
     rw[←alM_step (by assumption)]
     exact setLeN rfl
    ·obtain rfl:k=s.classes.length:=by omega
     have hL:=l10Sum (btL s t f (i:Int)) true (some false) 999 (by decide) (by omega) (fun j hj=>hbt.2 j) (by omega)
     rw[hbl] at hL
     have hS:=specSquares (btL s t f (i:Int)) true (some false) (by omega) hbt.2 hbt.1.2
     rw[hbl] at hS
     refine CallK.one (hL) (fun _=>amC) ?_
     (try refine am ?_);(try exact amT)
     repeat' with_reducible first|apply zA|intro _
     all_goals try exact amA
     ·refine CallK.one (hL) (fun _=>amC) ?_
      (try refine am ?_);(try exact amT)
      repeat' with_reducible first|apply zA|intro _
      all_goals try exact amA
      refine CallK.ex (hS) (fun _ _ _=>amC) ?_
      rintro w hw
      (try refine am ?_);(try exact amT)
      repeat' with_reducible first|apply zA|intro _
      all_goals try exact amA
      refine⟨(i+1,z++[tot1 (btL s t f (i:Int))],q++[w]),?_,⟨⟨by dsimp only;omega,by simp;omega,by simp[hq]⟩,fun j hj=>?_⟩,by dsimp only;omega⟩
      ·refine LeA [] ?_ ?_ ?_
       all_goals try refine amL ?_
       all_goals try exact amT
       exact⟨appIntD rfl,appIntD rfl,by rw[alM_c];exact .refl _⟩
      ·have hj':j<z.length+1:=by simpa using hj
       dsimp only
       rw[getD_app,getD_app]
       by_cases e:j<z.length
       ·rw[if_pos e,if_pos (by omega)];exact hb j e
       ·obtain rfl:j=z.length:=by omega
        rw[if_neg e,if_neg (by omega),hq,Nat.sub_self]
        exact⟨⟨by show 1≤tot1 _;omega,hbt.1.2⟩,hw.1,hw.2⟩
     ·refine⟨(i+1,z,q),?_,⟨⟨by dsimp only;omega,by dsimp only;omega,by dsimp only;omega⟩,hb⟩,by dsimp only;omega⟩
      refine LeA [] ?_ ?_ ?_
      all_goals try refine amL ?_
      all_goals try exact amT
      rw[alM_c]
      exact .refl _
  ·have hN:0≤tot1 (alM s t f i 0)∧tot1 (alM s t f i 0)≤999:=by rw[alM_0];exact(brL_tot hs hc hfo _).1
   have hal:=alM_len (s:=s) (t:=t) (f:=f) (i:=i) (k:=0)
   have hA:=l10Sum (alM s t f i 0) true none 999 (by decide) (by omega) (fun j _=>alM_bd hs hc hfo i 0 j) (by omega)
   have hS:=specSquares (alM s t f i 0) true none (by omega) (alM_bd hs hc hfo i 0) hN.2
   generalize tot1 (alM s t f i 0)=n at *
   refine CallK.one (hA) (fun _=>amC) ?_
   (try refine am ?_);(try exact amT)
   repeat' with_reducible first|apply zA|intro _
   all_goals try exact amA
   ·refine FinK.ex (⟨0,1⟩) ?hq2 ?_
    case hq2=>exact⟨⟨by decide,by decide⟩,by decide,by decide⟩
    refine FinK.cell1 ?_ ?_ ?_
    all_goals try refine amF ?_
    all_goals try exact amT
   refine LoopK.auto ((Nat×Int)) (fun x=>[(15,.one (.av (.int .i64 x.1))),(14,.one (.av (.int .i64 x.2)))]) (fun x=>[]) [6,7,8,9,13] (k0:=?k03) (keepH:=?kh3) 900 (fun x=>x.1≤z.length∧1≤x.2∧x.2≤pw x.1) (fun x=>z.length - x.1) ((0,1)) ?kea3 ?keb3 ?_ ?_ ?_
   case kea3=>exact amN
   case keb3=>exact amN
   ·exact⟨Nat.zero_le _,by decide,by decide⟩
   ·refine LeA [] ?_ ?_ ?_
    all_goals try refine amL ?_
    all_goals try exact amT
   ·rintro⟨j,p⟩ ⟨hj,hp1,hp2⟩
    dsimp only at hj hp1 hp2 ⊢
    have hpw:=pw_le (i:=j) (by omega)
    have hpz:¬j<z.length∨(1≤p*z.getD j 0∧p*z.getD j 0≤pw (j+1)∧pw (j+1)≤996005996001):=by
     by_cases e:j<z.length
     ·have h1:=(hb j e).1
      have h2:p*z.getD j 0≤pw j*999:=Int.mul_le_mul hp2 h1.2 (by omega) (by omega)
      have h3:1*1≤p*z.getD j 0:=Int.mul_le_mul hp1 h1.1 (by decide) (by omega)
      have h4:=pw_le (i:=j+1) (by omega)
      have h5:pw (j+1)=999*pw j:=rfl
      exact .inr ⟨by omega,by omega,h4.2⟩
     ·exact .inl e
    (try refine am ?_);(try exact amT)
    repeat' with_reducible first|apply zA|intro _
    all_goals try exact amA
    ·refine⟨(j+1,p*z.getD j 0),?_,⟨by dsimp only;omega,by dsimp only;omega,by dsimp only;omega⟩,by dsimp only;omega⟩
     refine LeA [] ?_ ?_ ?_
     all_goals try refine amL ?_
     all_goals try exact amT
    ·have hpm:p≤996005996001:=by omega
     refine LoopK.auto ((Nat×Int)) (fun x=>[(17,.one (.av (.int .i64 x.1))),(16,.one (.av (.int .i64 x.2)))]) (fun x=>[]) [6,7,8,9,13,14] (k0:=?k04) (keepH:=?kh4) 900 (fun x=>x.1≤z.length∧0≤x.2∧x.2≤994014980015000000*x.1) (fun x=>z.length - x.1) ((0,0)) ?kea4 ?keb4 ?_ ?_ ?_
     case kea4=>exact amN
     case keb4=>exact amN
     ·exact⟨Nat.zero_le _,by decide,by decide⟩
     ·refine LeA [] ?_ ?_ ?_
      all_goals try refine amL ?_
      all_goals try exact amT
     ·rintro⟨j,m⟩ ⟨hj,hm1,hm2⟩
      dsimp only at hj hm1 hm2 ⊢
      have hterm:¬j<z.length∨(1≤z.getD j 0∧0≤p.tdiv (z.getD j 0)∧p.tdiv (z.getD j 0)≤p)∧(0≤q.getD j 0*n∧q.getD j 0*n≤1000000000)∧0≤q.getD j 0*n*p.tdiv (z.getD j 0)∧q.getD j 0*n*p.tdiv (z.getD j 0)≤994014980015000000:=by
       by_cases e:j<z.length
       ·obtain⟨⟨h1,h2⟩,h3,h4⟩:=hb j e
        have ed:p.tdiv (z.getD j 0)=p / z.getD j 0:=Int.tdiv_eq_ediv_of_nonneg (by omega)
        have h5:0≤p / z.getD j 0:=Int.ediv_nonneg (by omega) (by omega)
        have h6:p / z.getD j 0≤p:=Int.ediv_le_self _ (by omega)
        have h7:p / z.getD j 0*z.getD j 0≤p:=Int.ediv_mul_le _ (by omega)
        have h8:0≤q.getD j 0*n:=Int.mul_nonneg h3 hN.1
        have h9:q.getD j 0*n≤999*z.getD j 0*999:=Int.mul_le_mul h4 hN.2 hN.1 (by omega)
        have h10:q.getD j 0*n*(p / z.getD j 0)≤999*z.getD j 0*999*(p / z.getD j 0):=Int.mul_le_mul_of_nonneg_right h9 h5
        have h11:999*z.getD j 0*999*(p / z.getD j 0)=998001*(p / z.getD j 0*z.getD j 0):=by
         rw[Int.mul_comm (p / z.getD j 0),show 999*z.getD j 0*999=998001*z.getD j 0 by omega,Int.mul_assoc]
        have h12:0≤q.getD j 0*n*(p / z.getD j 0):=Int.mul_nonneg h8 h5
        rw[ed]
        exact .inr ⟨⟨h1,h5,h6⟩,⟨h8,by omega⟩,h12,by omega⟩
       ·exact .inl e
      (try refine am ?_);(try exact amT)
      repeat' with_reducible first|apply zA|intro _
      all_goals try exact amA
      ·refine⟨(j+1,m+q.getD j 0*n*p.tdiv (z.getD j 0)),?_,⟨by dsimp only;omega,by dsimp only;omega,by dsimp only;omega⟩,by dsimp only;omega⟩
       refine LeA [] ?_ ?_ ?_
       all_goals try refine amL ?_
       all_goals try exact amT
      ·refine CallK.ex (hS) (fun _ _ _=>amC) ?_
       rintro w hw
       (try refine am ?_);(try exact amT)
       have hwp:0≤w*p∧w*p≤994014980015000000:=⟨Int.mul_nonneg hw.1 (by omega),by
        have:=Int.mul_le_mul (show w≤998001 by omega) hpm (by omega) (by omega)
        omega⟩
       have hnn:0≤n*n∧n*n≤998001:=⟨Int.mul_nonneg hN.1 hN.1,by
        have:=Int.mul_le_mul hN.2 hN.2 hN.1 (by omega)
        omega⟩
       have hnp:0≤n*n*p∧n*n*p≤994014980015000000:=⟨Int.mul_nonneg hnn.1 (by omega),by
        have:=Int.mul_le_mul hnn.2 hpm (by omega) (by omega)
        omega⟩
       repeat' with_reducible first|apply zA|intro _
       all_goals try exact amA
       refine CallK.ex (specFracLow ⟨m - w*p,n*n*p⟩ ⟨⟨by show (-9223372036854775808:Int)≤_;dsimp only;omega,by show _≤(9223372036854775807:Int);dsimp only;omega⟩,⟨by show (-9223372036854775808:Int)≤_;dsimp only;omega,by show _≤(9223372036854775807:Int);dsimp only;omega⟩⟩) (fun _ _ _=>amC) ?_
       rintro y hy
       (try refine am ?_);(try exact amT)
       repeat' with_reducible first|apply zA|intro _
       all_goals try exact amA
       refine FinK.ex (y) ?hq3 ?_
       case hq3=>exact hy
       refine FinK.cell1 ?_ ?_ ?_
       all_goals try refine amF ?_
       all_goals try exact amT
end Go.AM
namespace Go.AM
set_option maxHeartbeats 64000000
open Go Go.Proofs
set_option maxRecDepth 100000
theorem attrsOk1 {s:DSchema} {l:List Int} (hs:schemaOk s) (hl:l.length=1) (ha:0≤l.getD 0 0∧l.getD 0 0<(s.attrs.length:Int)):attrsOk s l:=
 ⟨hs,by omega,fun i hi=>by omega,fun i hi=>by
  obtain rfl:i=0:=by omega
  omega⟩
theorem forkOk0 {s:DSchema} {a:Int} (hs:schemaOk s) (ha:0≤a∧a<(s.attrs.length:Int)):forkOk s ⟨a,0⟩:=by
 have hat:=hs.2.2.2.1 a.toNat (by omega)
 refine⟨hs,by show 0≤a∧a≤_;omega,by show (-1:Int)≤0;omega,?_⟩
 show (0:Int)≤_
 have h2:=hat.2
 unfold bins
 dsimp only
 split
 ·rename_i h
  have:((s.attrs.getD a.toNat default).cuts.length+1:Nat)=(((s.attrs.getD a.toNat default).cuts.length:Nat):Int)+1:=by omega
  omega
 ·rename_i h
  rw[if_pos (by omega)] at h2
  have:=h2.1.1
  omega
theorem okFork0:okFork (2^40) ⟨0,0⟩:=⟨⟨by decide,by decide⟩,by decide,by decide⟩
theorem okFrac0:okFrac (2^40) ⟨0,0⟩:=⟨⟨by decide,by decide⟩,by decide,by decide⟩
theorem okFrac1:okFrac (2^40) ⟨0,1⟩:=⟨⟨by decide,by decide⟩,by decide,by decide⟩
theorem forkApp {l:List DFork} {x:DFork} {nl:Option Bool} {n:Nat} (hn:n=l.length+1):ALe (.sl true nl 2 n (apF l.length (fFork l) (rowsF [cFork x]))) (.sl true none 2 (l++[x]).length (fFork (l++[x]))):=by
 subst hn
 exact appLe1 rfl rfl (.inl rfl)
theorem specCandidates (s:DSchema) (l:List Int) (tw:Bool) (u v u':Bool) (nl:Option Bool) (h:okSchema (2^47) s) (hs:schemaOk s) (hl1:l.length=1) (ha:0≤l.getD 0 0∧l.getD 0 0<(s.attrs.length:Int)):ACalls Tryz.prog 239 [.agg (cSchema u v s),.one (.sl u' nl 1 l.length (fI l)),.one (.bool tw)] (fun r=>∃q:List DFork,(0<q.length∧q.length≤5∧∀f∈q,okFork (2^40) f)∧r=.val (.one (aFork true q))):=by
 have hat:=attrsOk1 hs hl1 ha
 have hf0:=forkOk0 hs ha
 have hal:=hs.1
 have hka:inK .i64 (l.getD 0 0):=⟨by show (-9223372036854775808:Int)≤_;omega,by show _≤(9223372036854775807:Int);omega⟩
 have nt:Tryz.f239.ntmps=64:=rfl
 have rs:Tryz.f239.results=#[.tmp 6]:=rfl
 refine ACalls.of_runC (m:=400) mixed Tryz.func239 rfl rfl (Nat.le_of_ble_eq_true rfl) ?_
 simp only[nt,rs]
 clear nt rs
 (try refine am ?_);(try exact amT)
 repeat' with_reducible first|apply zA|intro _
 all_goals try exact amA
 refine CallK.one (specAttrsOk s l _ _ _ _ h (by omega)) (fun _=>amC) ?_
 (try refine am ?_);(try exact amT)
 repeat' with_reducible first|apply zA|intro _
 all_goals try exact amA
 ·exfalso;rename_i h1;exact h1 hat
 refine LoopK.auto ((Nat×List DFork)) (fun x=>[(8,.one (.av (.int .i64 x.1))),(7,.one (.own 302 [] [0]))]) (fun x=>[(302,⟨.sl true none 2 x.2.length (fFork x.2),[]⟩)]) [1,2,3] (k0:=?k01) (keepH:=?kh1) 500 (fun x=>x.1≤1∧(x.1=0→x.2.length=0)∧(x.1=1→0<x.2.length∧x.2.length≤5)∧∀f∈x.2,okFork (2^40) f) (fun x=>1 - x.1) ((0,[])) ?kea1 ?keb1 ?_ ?_ ?_
 case kea1=>exact amN
 case keb1=>exact amN
 ·exact⟨Nat.zero_le _,fun _=>rfl,fun h=>by simp at h,fun f hf=>by simp at hf⟩
 ·refine LeA [] ?_ ?_ ?_
  all_goals try refine amL ?_
  all_goals try exact amT
  exact ALe.of (.inl rfl) rfl (fun i hi=>by omega)
 ·rintro⟨i,q⟩ ⟨hi,hq0,hq1,hb⟩
  dsimp only at hi hq0 hq1 hb ⊢
  by_cases e:i=0
  ·have hll:=hq0 e
   have e0:l.getD i 0=l.getD 0 0:=by rw[e]
   (try refine am ?_);(try simp only[e0]);(try refine am ?_);(try exact amT)
   repeat' with_reducible first|apply zA|intro _
   all_goals try exact amA
   ·refine⟨(i+1,q++[⟨l.getD 0 0,-1⟩]),?_,⟨by dsimp only;omega,fun h=>by dsimp only at h;omega,fun _=>by simp[hll],fun f hf=>?_⟩,by dsimp only;omega⟩
    ·refine LeA [] ?_ ?_ ?_
     all_goals try refine amL ?_
     all_goals try exact amT
     exact forkApp (x:=⟨l.getD 0 0,-1⟩) rfl
    ·rcases List.mem_append.1 hf with h|h
     ·exact hb f h
     ·have:f=⟨l.getD 0 0,-1⟩:=by simpa using h
      subst this
      exact⟨hka,by show (-9223372036854775808:Int)≤ -1;decide,by show -1≤(9223372036854775807:Int);decide⟩
   ·refine LoopK.auto ((Nat×List DFork)) (fun x=>[(9,.one (.av (.int .i64 x.1))),(7,.one (.own 303 [] [0]))]) (fun x=>[(303,⟨.sl true none 2 x.2.length (fFork x.2),[]⟩)]) [1,2,3,8] (k0:=?k02) (keepH:=?kh2) 700 (fun x=>(x.1≤4∧x.2.length≤x.1∧(1≤x.1→0<x.2.length))∧∀f∈x.2,okFork (2^40) f) (fun x=>4 - x.1) ((0,q)) ?kea2 ?keb2 ?_ ?_ ?_
    case kea2=>exact amN
    case keb2=>exact amN
    ·exact⟨⟨Nat.zero_le _,by dsimp only;omega,fun h=>by simp at h⟩,hb⟩
    ·refine LeA [] ?_ ?_ ?_
     all_goals try refine amL ?_
     all_goals try exact amT
    ·rintro⟨j,p⟩ ⟨⟨hj,hp,hpos⟩,hb2⟩
     dsimp only at hj hp hpos hb2 ⊢
     have hfk:okFork (2^47) ⟨l.getD 0 0,(j:Int)⟩:=⟨hka,by show (-9223372036854775808:Int)≤(j:Int);omega,by show (j:Int)≤(9223372036854775807:Int);omega⟩
     (try refine am ?_);(try simp only[e0]);(try refine am ?_);(try exact amT)
     repeat' with_reducible first|apply zA|intro _
     all_goals try exact amA
     ·refine CallK.one (specForkOk s ⟨l.getD 0 0,(j:Int)⟩ _ _ h hfk) (fun _=>amC) ?_
      (try refine am ?_);(try exact amT)
      repeat' with_reducible first|apply zA|intro _
      all_goals try exact amA
      ·refine⟨(j+1,p++[⟨l.getD 0 0,(j:Int)⟩]),?_,⟨⟨by dsimp only;omega,by simp;omega,fun _=>by simp⟩,fun f hf=>?_⟩,by dsimp only;omega⟩
       ·refine LeA [] ?_ ?_ ?_
        all_goals try refine amL ?_
        all_goals try exact amT
        exact forkApp (x:=⟨l.getD 0 0,(j:Int)⟩) rfl
       ·rcases List.mem_append.1 hf with h|h
        ·exact hb2 f h
        ·have:f=⟨l.getD 0 0,(j:Int)⟩:=by simpa using h
         subst this
         exact hfk
      ·refine⟨(j+1,p),?_,⟨⟨by dsimp only;omega,by dsimp only;omega,fun _=>?_⟩,hb2⟩,by dsimp only;omega⟩
       ·refine LeA [] ?_ ?_ ?_
        all_goals try refine amL ?_
        all_goals try exact amT
       ·dsimp only
        by_cases e2:1≤j
        ·exact hpos e2
        ·obtain rfl:j=0:=by omega
         rename_i h1 _
         exact absurd hf0 h1
     ·have hpl:=hpos (by omega)
      refine⟨(i+1,p),?_,⟨by dsimp only;omega,fun h=>by dsimp only at h;omega,fun _=>⟨hpl,by dsimp only;omega⟩,hb2⟩,by dsimp only;omega⟩
      refine LeA [] ?_ ?_ ?_
      all_goals try refine amL ?_
      all_goals try exact amT
  ·have hll:=hq1 (by omega)
   (try refine am ?_);(try exact amT)
   repeat' with_reducible first|apply zA|intro _
   all_goals try exact amA
   refine FinK.ex (q) ?hq1 ?_
   case hq1=>exact⟨hll.1,hll.2,hb⟩
   refine FinK.val1 ?_ ?_
   all_goals try refine amF ?_
   all_goals try exact amT
theorem ALeL.refl2:∀l:List AV,ALeL l l
 |[]=>trivial
 |a::l=>⟨.refl a,ALeL.refl2 l⟩
theorem ALeT.refl2:∀t:AT,ALeT t t
 | .one a=>.refl a
 | .agg l=>ALeL.refl2 l
theorem boxSt {m:Nat} {A B:Nat→AV}:ALe (.sl true none m 1 (fun i' j'=>if i'=0∧0≤j'∧j'<m then A j' else B j')) (.sl true none m 1 (fun _ j=>A j)):=by
 refine ALe.of (.inl rfl) rfl (fun i hi j hj=>?_)
 rw[if_pos ⟨by omega,Nat.zero_le _,hj⟩]
 exact .refl _
theorem lit1Le {a:Int} {u:Bool} {nl:Option Bool}:ALe (.sl u nl 1 1 (rowsF [[.int .i64 a]])) (.sl u nl 1 [a].length (fI [a])):=by
 refine .sl _ _ _ _ _ _ (fun i hi j hj=>?_)
 obtain rfl:i=0:=by omega
 obtain rfl:j=0:=by omega
 exact .refl _
theorem specBestOf (s:DSchema) (t:DStats) (a:Int) (tw:Bool) (u v u' v':Bool) (h:okSchema (2^47) s) (h':okStats (2^47) t) (_:inK .i64 a):ACalls Tryz.prog 228 [.agg (cSchema u v s),.agg (cStats u' v' t),.one (.int .i64 a),.one (.bool tw)] (fun r=>∃x:DFork×DFrac,(okFork (2^40) x.1∧okFrac (2^40) x.2)∧r=.tup [.agg (cFork x.1),.agg (cFrac x.2)]):=by
 have hal:=h.1.1
 have hcl:=h'.2.1
 have nt:Tryz.f228.ntmps=72:=rfl
 have rs:Tryz.f228.results=#[.cell 8 43,.cell 9 123]:=rfl
 refine ACalls.of_runC (m:=400) mixed Tryz.func228 rfl rfl (Nat.le_of_ble_eq_true rfl) ?_
 simp only[nt,rs]
 clear nt rs
 (try refine am ?_);(try exact amT)
 repeat' with_reducible first|apply zA|intro _
 all_goals try exact amA
 refine CallK.one (specStatsOk s t _ _ _ _ h h') (fun _=>amC) ?_
 (try refine am ?_);(try exact amT)
 repeat' with_reducible first|apply zA|intro _
 all_goals try exact amA
 refine CallG.one rfl (fun hg=>l1In a 0 _) ?_
 (try refine am ?_);(try exact amT)
 repeat' with_reducible first|apply zA|intro _
 all_goals try exact amA
 ·refine FinK.ex ((⟨0,0⟩,⟨0,0⟩)) ?hq2 ?_
  case hq2=>exact⟨okFork0,okFrac0⟩
  refine FinK.tup ?_ ?_
  all_goals try refine amF ?_
  all_goals try exact amT
 have hs:statsOk s t:=by simp_all
 have har:0≤a∧a<(s.attrs.length:Int):=by omega
 have hC:∀u v u' nl,ACalls Tryz.prog 239 [.agg (cSchema u v s),.one (.sl u' nl 1 1 (rowsF [[.int .i64 a]])),.one (.bool tw)] (fun r=>∃q:List DFork,(0<q.length∧q.length≤5∧∀f∈q,okFork (2^40) f)∧r=.val (.one (aFork true q))):=fun u v u' nl=>
  ACalls.argLe (specCandidates s [a] tw u v u' nl h hs.1 rfl har) ⟨ALeT.refl2 _,lit1Le,.refl _,trivial⟩
 refine CallK.ex (hC _ _ _ _) (fun _ _ _=>amC) ?_
 rintro q ⟨hq0,hq1,hq⟩
 (try refine am ?_);(try exact amT)
 have hqm:∀i,i<q.length→okFork (2^40) (q.getD i default):=fun i hi=>hq _ (getD_mem hi)
 repeat' with_reducible first|apply zA|intro _
 all_goals try exact amA
 refine CallK.ex (specMerit s t (q.getD 0 default) _ _ _ _ h h' (hqm 0 hq0)) (fun _ _ _=>amC) ?_
 rintro m hm
 (try refine am ?_);(try exact amT)
 repeat' with_reducible first|apply zA|intro _
 all_goals try exact amA
 refine LoopK.auto ((Nat×DFork×DFrac)) (fun x=>[(13,.one (.av (.int .i64 ((x.1:Int)+1)))),(11,.one (.ref 302 [] [0] 0 0)),(12,.one (.ref 303 [] [0] 0 0))]) (fun x=>[(302,⟨.sl true none 2 1 (fun _ j=>gl .junk (cFork x.2.1) j),[]⟩),(303,⟨.sl true none 2 1 (fun _ j=>gl .junk (cFrac x.2.2) j),[]⟩)]) [4,5,8,9,10] (k0:=?k03) (keepH:=?kh3) 600 (fun x=>x.1+1≤q.length∧okFork (2^40) x.2.1∧okFrac (2^40) x.2.2) (fun x=>q.length - x.1) ((0,q.getD 0 default,m)) ?kea3 ?keb3 ?_ ?_ ?_
 case kea3=>exact amN
 case keb3=>exact amN
 ·exact⟨hq0,hqm 0 hq0,hm⟩
 ·refine LeA [] ?_ ?_ ?_
  all_goals try refine amL ?_
  all_goals try exact amT
  exact⟨boxSt,boxSt⟩
 ·rintro⟨i,f,y⟩ ⟨hi,hf,hy⟩
  dsimp only at hi hf hy ⊢
  have hE:((i:Int)+1).toNat=i+1:=by omega
  (try refine am ?_);(try simp only[hE]);(try refine am ?_);(try exact amT)
  repeat' with_reducible first|apply zA|intro _
  all_goals try exact amA
  ·have hfi:=hqm (i+1) (by omega)
   refine CallCE.ex (specMerit s t (q.getD (i+1) default) _ _ _ _ h h' hfi) rfl (⟨0,0⟩) ?hcq (fun _ _ _=>amC) (fun _=>rfl) (fun _=>rfl) ?_
   case hcq=>exact okFrac0
   rintro z hz
   (try refine am ?_);(try exact amT)
   repeat' with_reducible first|apply zA|intro _
   all_goals try exact amA
   refine CallK.ex (specFracCmp z y hz hy) (fun _ _ _=>amC) ?_
   rintro c hc
   (try refine am ?_);(try exact amT)
   repeat' with_reducible first|apply zA|intro _
   all_goals try exact amA
   ·refine⟨(i+1,q.getD (i+1) default,z),?_,⟨by dsimp only;omega,hfi,hz⟩,by dsimp only;omega⟩
    refine LeA [] ?_ ?_ ?_
    all_goals try refine amL ?_
    all_goals try exact amT
    rw[hE]
    exact⟨boxSt,boxSt⟩
   ·refine⟨(i+1,f,y),?_,⟨by dsimp only;omega,hf,hy⟩,by dsimp only;omega⟩
    refine LeA [] ?_ ?_ ?_
    all_goals try refine amL ?_
    all_goals try exact amT
  ·refine FinK.ex ((f,y)) ?hq3 ?_
   case hq3=>exact⟨hf,hy⟩
   refine FinK.tup ?_ ?_
   all_goals try refine amF ?_
   all_goals try exact amT
theorem okRankedS_at {B:Nat} {l:List DRanked} (h:okRankedS B l) {i:Nat} (hi:i<l.length):okRanked B (l.getD i default):=h.2 _ (getD_mem hi)
theorem specAhead (a b:DRanked) (ha:okRanked (2^40) a) (hb:okRanked (2^40) b):ACalls Tryz.prog 229 [.agg (cRanked a),.agg (cRanked b)] (fun r=>∃x:Bool,anyV x∧r=.val (.one (.bool x))):=by
 have nt:Tryz.f229.ntmps=11:=rfl
 have rs:Tryz.f229.results=#[.tmp 4]:=rfl
 refine ACalls.of_runC (m:=400) mixed Tryz.func229 rfl rfl (Nat.le_of_ble_eq_true rfl) ?_
 simp only[nt,rs]
 clear nt rs
 (try refine am ?_);(try exact amT)
 repeat' with_reducible first|apply zA|intro _
 all_goals try exact amA
 refine CallK.ex (specFracCmp a.merit b.merit ha.2 hb.2) (fun _ _ _=>amC) ?_
 rintro c hc
 (try refine am ?_);(try exact amT)
 repeat' with_reducible first|apply zA|intro _
 all_goals try exact amA
 refine FinK.ex (decide (c=1)) ?hq4 ?_
 case hq4=>exact trivial
 refine FinK.val1 ?_ ?_
 all_goals try refine amF ?_
 all_goals try exact amT
theorem insApp {l:List DRanked} {x:DRanked} {k n:Nat} {nl:Option Bool} (hk:k≤l.length) (hn:n=l.length+1) {F:Nat→Nat→AV} (hF:∀i,i<n→∀j,j<4→F i j=if i<k then fRanked l i j else if i=k then gl .junk (cRanked x) j else fRanked l (i - 1) j):ALe (.sl true nl 4 n F) (.sl true none 4 (l.take k++x::l.drop k).length (fRanked (l.take k++x::l.drop k))):=by
 have hlen:(l.take k++x::l.drop k).length=l.length+1:=by simp;omega
 refine ALe.of (.inl rfl) (by rw[hlen,hn]) (fun i hi j hj=>?_)
 rw[hF i hi j hj]
 have e:fRanked (l.take k++x::l.drop k) i j=if i<k then fRanked l i j else if i=k then gl .junk (cRanked x) j else fRanked l (i - 1) j:=by
  rw[fRanked_at,getD_app]
  have hlk:(l.take k).length=k:=by simp;omega
  rw[hlk]
  by_cases h1:i<k
  ·rw[if_pos h1,if_pos h1,fRanked_at]
   congr 1
   rw[List.getD_eq_getElem?_getD,List.getElem?_take,if_pos h1,←List.getD_eq_getElem?_getD]
  ·rw[if_neg h1,if_neg h1]
   by_cases h2:i=k
   ·subst h2;rw[if_pos rfl,Nat.sub_self];rfl
   ·rw[if_neg h2,fRanked_at]
    congr 1
    rw[show i - k=(i - k - 1)+1 by omega,List.getD_cons_succ,List.getD_eq_getElem?_getD,List.getElem?_drop,←List.getD_eq_getElem?_getD,show k+(i - k - 1)=i - 1 by omega]
 rw[e]
 exact .refl _
theorem specRank (s:DSchema) (t:DStats) (l:List Int) (tw:Bool) (u v u' v' u2:Bool) (nl:Option Bool) (h:okSchema (2^47) s) (h':okStats (2^47) t) (hl:okI (2^40) l):ACalls Tryz.prog 217 [.agg (cSchema u v s),.agg (cStats u' v' t),.one (.sl u2 nl 1 l.length (fI l)),.one (.bool tw)] (fun r=>∃q:List DRanked,okRankedS (2^40) q∧r=.val (.one (aRanked true q))):=by
 have hll:=hl.1
 have hcl:=h'.2.1
 have nt:Tryz.f217.ntmps=84:=rfl
 have rs:Tryz.f217.results=#[.tmp 8]:=rfl
 refine ACalls.of_runC (m:=400) mixed Tryz.func217 rfl rfl (Nat.le_of_ble_eq_true rfl) ?_
 simp only[nt,rs]
 clear nt rs
 (try refine am ?_);(try exact amT)
 repeat' with_reducible first|apply zA|intro _
 all_goals try exact amA
 refine CallK.one (specStatsOk s t _ _ _ _ h h') (fun _=>amC) ?_
 (try refine am ?_);(try exact amT)
 repeat' with_reducible first|apply zA|intro _
 all_goals try exact amA
 refine CallG.one rfl (fun hg=>specAttrsOk s l _ _ _ _ h (by omega)) ?_
 (try refine am ?_);(try exact amT)
 repeat' with_reducible first|apply zA|intro _
 all_goals try exact amA
 ·refine FinK.ex ([]) ?hq5 ?_
  case hq5=>exact⟨Nat.zero_le _,fun x hx=>by simp at hx⟩
  refine FinK.val1 ?_ ?_
  all_goals try refine amF ?_
  all_goals try exact amT
  exact ALe.of (.inl rfl) rfl (fun i hi=>by omega)
 refine LoopK.auto ((Nat×List DRanked)) (fun x=>[(10,.one (.av (.int .i64 x.1))),(9,.one (.own 302 [] [0]))]) (fun x=>[(302,⟨.sl true none 4 x.2.length (fRanked x.2),[]⟩)]) [2,3,4,5] (k0:=?k04) (keepH:=?kh4) 600 (fun x=>x.1≤l.length∧x.2.length=x.1∧∀f∈x.2,okRanked (2^40) f) (fun x=>l.length - x.1) ((0,[])) ?kea4 ?keb4 ?_ ?_ ?_
 case kea4=>exact amN
 case keb4=>exact amN
 ·exact⟨Nat.zero_le _,rfl,fun f hf=>by simp at hf⟩
 ·refine LeA [] ?_ ?_ ?_
  all_goals try refine amL ?_
  all_goals try exact amT
  exact ALe.of (.inl rfl) rfl (fun i hi=>by omega)
 ·rintro⟨i,q⟩ ⟨hi,hq,hb⟩
  dsimp only at hi hq hb ⊢
  (try refine am ?_);(try exact amT)
  repeat' with_reducible first|apply zA|intro _
  all_goals try exact amA
  ·have hbd:∀i,okRanked (2^40) (q.getD i default):=fun i=>by
    by_cases e:i<q.length
    ·exact hb _ (getD_mem e)
    ·rw[List.getD_eq_getElem?_getD,List.getElem?_eq_none (by omega)]
     exact⟨okFork0,okFrac0⟩
   have hli:inK .i64 (l.getD i 0):=hl.2 _ (getD_mem (by omega))
   refine CallCE.ex (specBestOf s t (l.getD i 0) tw _ _ _ _ h h' hli) rfl ((⟨0,0⟩,⟨0,0⟩)) ?hcq (fun _ _ _=>amC) (fun _=>rfl) (fun _=>rfl) ?_
   case hcq=>exact⟨okFork0,okFrac0⟩
   rintro⟨f,y⟩ ⟨hf,hy⟩
   (try refine am ?_);(try exact amT)
   dsimp only at hf hy ⊢
   repeat' with_reducible first|apply zA|intro _
   all_goals try exact amA
   refine LoopK.auto (Nat) (fun k=>[(14,.one (.av (.int .i64 k)))]) (fun k=>[]) [2,3,4,5,9,10,13] (k0:=?k05) (keepH:=?kh5) 2000 (fun k=>k≤q.length) (fun k=>k) (q.length) ?kea5 ?keb5 ?_ ?_ ?_
   case kea5=>exact amN
   case keb5=>exact amN
   ·exact Nat.le_refl _
   ·refine LeA [] ?_ ?_ ?_
    all_goals try refine amL ?_
    all_goals try exact amT
   ·intro k hk
    (try refine am ?_);(try exact amT)
    repeat' with_reducible first|apply zA|intro _
    all_goals try exact amA
    refine CallCEG.ex (fun hg=>specAhead ⟨f,y⟩ (q.getD ((k:Int) - 1).toNat default) ⟨hf,hy⟩ (hbd _)) rfl (true) ?hcq (fun _=>rfl) (fun _=>rfl) ?_
    case hcq=>exact trivial
    rintro c hc
    (try refine am ?_);(try exact amT)
    repeat' with_reducible first|apply zA|intro _
    all_goals try exact amA
    ·refine⟨k - 1,?_,by omega,by omega⟩
     refine LeA [] ?_ ?_ ?_
     all_goals try refine amL ?_
     all_goals try exact amT
     omega
    ·rename_i j hj
     rcases (show j=0∨j=1∨j=2∨j=3 by omega) with rfl|rfl|rfl|rfl<;>trivial
    ·rename_i j hj
     rcases (show j=0∨j=1∨j=2∨j=3 by omega) with rfl|rfl|rfl|rfl<;>trivial
    ·refine⟨(i+1,q.take k++⟨f,y⟩::q.drop k),?_,⟨by dsimp only;omega,by simp;omega,fun g hg=>?_⟩,by dsimp only;omega⟩
     ·refine LeA [] ?_ ?_ ?_
      all_goals try refine amL ?_
      all_goals try exact amT
      refine insApp hk (by omega) (fun a ha j hj=>?_)
      simp only[apF]
      by_cases h1:a<k
      ·rw[if_pos (by omega),if_pos h1,if_neg (Nat.not_lt_zero _),if_pos h1];rfl
      ·by_cases h2:a=k
       ·subst h2;rw[if_pos (by omega),if_neg h1,if_neg h1,if_pos rfl,Nat.sub_self];rfl
       ·rw[if_neg (by omega),if_neg h1,if_neg h2,show k+(a - (k+1))=a - 1 by omega];rfl
     ·rcases List.mem_append.1 hg with h|h
      ·exact hb g (List.mem_of_mem_take h)
      ·rcases List.mem_cons.1 h with h|h
       ·subst h;exact⟨hf,hy⟩
       ·exact hb g (List.mem_of_mem_drop h)
  ·refine FinK.ex (q) ?hq6 ?_
   case hq6=>exact⟨by omega,hb⟩
   refine FinK.val1 ?_ ?_
   all_goals try refine amF ?_
   all_goals try exact amT
theorem specFirstTwo (s:DSchema) (t:DStats) (l:List Int) (tw:Bool) (u v u' v' u2:Bool) (nl:Option Bool) (h:okSchema (2^47) s) (h':okStats (2^47) t) (hl:okI (2^40) l):ACalls Tryz.prog 205 [.agg (cSchema u v s),.agg (cStats u' v' t),.one (.sl u2 nl 1 l.length (fI l)),.one (.bool tw)] (fun r=>∃q:DRanked×DFrac×Bool,(okRanked (2^40) q.1∧okFrac (2^40) q.2.1)∧r=.tup [.agg (cRanked q.1),.agg (cFrac q.2.1),.one (.bool q.2.2)]):=by
 have nt:Tryz.f205.ntmps=35:=rfl
 have rs:Tryz.f205.results=#[.cell 8 212,.cell 9 123,.tmp 10]:=rfl
 refine ACalls.of_runC (m:=400) mixed Tryz.func205 rfl rfl (Nat.le_of_ble_eq_true rfl) ?_
 simp only[nt,rs]
 clear nt rs
 (try refine am ?_);(try exact amT)
 repeat' with_reducible first|apply zA|intro _
 all_goals try exact amA
 refine CallK.ex (specRank s t l tw _ _ _ _ _ _ h h' hl) (fun _ _ _=>amC) ?_
 rintro q hq
 (try refine am ?_);(try exact amT)
 have hq1:=hq.1
 repeat' with_reducible first|apply zA|intro _
 all_goals try exact amA
 ·refine FinK.ex ((⟨⟨0,0⟩,⟨0,0⟩⟩,⟨0,0⟩,false)) ?hq7 ?_
  case hq7=>exact⟨⟨okFork0,okFrac0⟩,okFrac0⟩
  refine FinK.tup ?_ ?_
  all_goals try refine amF ?_
  all_goals try exact amT
 ·have h0:=okRankedS_at hq (i:=0) (by omega)
  have h1:=okRankedS_at hq (i:=1) (by omega)
  refine FinK.ex ((q.getD 0 default,(q.getD 1 default).merit,true)) ?hq8 ?_
  case hq8=>exact⟨h0,h1.2⟩
  refine FinK.tup ?_ ?_
  all_goals try refine amF ?_
  all_goals try exact amT
  all_goals trace_state
 ·have h0:=okRankedS_at hq (i:=0) (by omega)
  refine FinK.ex ((q.getD 0 default,⟨0,1⟩,true)) ?hq9 ?_
  case hq9=>exact⟨h0,okFrac1⟩
  refine FinK.tup ?_ ?_
  all_goals try refine amF ?_
  all_goals try exact amT
  all_goals trace_state
end Go.AM
