/- Lemmas for the proof of this claim. -/
import Derived.Test.YtpbahibieegbgaaGreatBas
import Derived.Test.YtpbahibieegbgaaGreatCln
import Derived.Test.YtpbahibieegbgaaGreatDr1
namespace Go.AM
set_option maxHeartbeats 64000000
open Go Go.Proofs
set_option maxRecDepth 100000
def binN:Nat→Nat→Int
 |_,0=>1
 |0,_+1=>0
 |n+1,k+1=>binN n k+binN n (k+1)
def binI (n k:Int):Int:=if 0≤k∧k≤n then binN n.toNat k.toNat else 0
theorem binI_rng:∀m,m<6→∀i,i<6→0≤binI ((m:Nat):Int) ((i:Nat):Int)∧binI ((m:Nat):Int) ((i:Nat):Int)≤10:=by decide
theorem binI_rng' {n k:Int} (hn:0≤n∧n≤5) (hk:0≤k∧k≤n):0≤binI n k∧binI n k≤10:=by
 obtain⟨m,rfl⟩:=Int.eq_ofNat_of_zero_le hn.1
 obtain⟨i,rfl⟩:=Int.eq_ofNat_of_zero_le hk.1
 exact binI_rng m (by omega) i (by omega)
theorem binI_pos {n k:Int} (h:0<binI n k):0≤k∧k≤n:=by
 unfold binI at h
 by_cases e:0≤k∧k≤n
 ·exact e
 ·rw[if_neg e] at h;omega
theorem binI_pasN:∀m,m<5→∀i,i<5→binI (((m:Nat):Int)+1) (((i:Nat):Int)+1)=binI ((m:Nat):Int) ((i:Nat):Int)+binI ((m:Nat):Int) (((i:Nat):Int)+1):=by decide
theorem binI_pas {n k:Int} (hn:1≤n∧n≤5) (hk:1≤k∧k≤5):binI n k=binI (n - 1) (k - 1)+binI (n - 1) k:=by
 obtain⟨m,hm⟩:=Int.eq_ofNat_of_zero_le (a:=n - 1) (by omega)
 obtain⟨i,hi⟩:=Int.eq_ofNat_of_zero_le (a:=k - 1) (by omega)
 obtain rfl:n=m+1:=by omega
 obtain rfl:k=i+1:=by omega
 rw[Int.add_sub_cancel,Int.add_sub_cancel]
 exact binI_pasN m (by omega) i (by omega)
def pasc (i:Nat):List Int:=(List.range (i+1)).map fun j=>binN i j
theorem pasc_len (i:Nat):(pasc i).length=i+1:=by simp[pasc]
theorem pasc_bd:∀i,i<6→∀j,j<i+1→0≤(pasc i).getD j 0∧(pasc i).getD j 0≤10:=by decide
theorem pasc_next:∀i,i<5→∀j,j<i→(pasc i).getD j 0+(pasc i).getD (j+1) 0=(pasc (i+1)).getD (j+1) 0:=by decide
theorem pasc_last:∀i,i<5→(pasc (i+1)).getD (i+1) 0=1:=by decide
theorem pasc_one:∀i,i<6→(pasc i).getD 0 0=1:=by decide
theorem pasc_bin:∀i,i<6→∀j,j<i+1→(pasc i).getD j 0=binI ((i:Nat):Int) ((j:Nat):Int):=by decide
theorem appTake {l:List Int} {i n:Nat} {nl nl':Option Bool} {g:Nat→Nat→AV} (hnl:nl'=none∨nl'=nl) (hn:n=i+1) (hg:g 0 0=.int .i64 (l.getD i 0)):ALe (.sl true nl 1 n (apF i (fI l) g)) (.sl true nl' 1 (i+1) (fI l)):=by
 refine ALe.of hnl hn (fun a ha j hj=>?_)
 obtain rfl:j=0:=by omega
 unfold apF
 by_cases e:a<i
 ·rw[if_pos e];exact .refl _
 ·rw[if_neg e]
  obtain rfl:a=i:=by omega
  rw[Nat.sub_self,hg,fI_at];exact .refl _
theorem oneI {l:List Int} {nl nl':Option Bool} {n:Nat} {g:Nat→Nat→AV} (hnl:nl'=none∨nl'=nl) (hn:n=1) (hg:g 0 0=.int .i64 (l.getD 0 0)):ALe (.sl true nl 1 n g) (.sl true nl' 1 1 (fI l)):=by
 refine ALe.of hnl hn (fun a ha j hj=>?_)
 obtain rfl:j=0:=by omega
 obtain rfl:a=0:=by omega
 rw[hg,fI_at];exact .refl _
theorem specBinomial (n k:Int) (hn:0≤n∧n≤5) (hk:0≤k∧k≤n):ACalls Tryz.prog 208 [.one (.int .i64 n),.one (.int .i64 k)] (fun r=>r=.val (.one (.int .i64 (binI n k)))):=by
 obtain⟨m,rfl⟩:=Int.eq_ofNat_of_zero_le hn.1
 obtain⟨p,rfl⟩:=Int.eq_ofNat_of_zero_le hk.1
 have hm:m<6:=by omega
 have hp:p<m+1:=by omega
 have nt:Tryz.f208.ntmps=51:=rfl
 have rs:Tryz.f208.results=#[.tmp 4]:=rfl
 refine ACalls.of_run (m:=400) mixed Tryz.func208 rfl rfl (Nat.le_of_ble_eq_true rfl) ?_
 simp only[nt,rs]
 clear nt rs
 (try refine am ?_);(try exact amT)
 refine CallK.one (l1In (m:Int) 0 20) (fun _=>amC) ?_
 (try refine am ?_);(try exact amT)
 repeat' with_reducible first|apply zA|intro _
 all_goals try exact amA
 refine CallG.one rfl (fun hg=>l1In (p:Int) 0 m) ?_
 (try refine am ?_);(try exact amT)
 repeat' with_reducible first|apply zA|intro _
 all_goals try exact amA
 all_goals (try (exfalso;omega))
 refine LoopK.auto (Nat) (fun i=>[(5,.one (.own 302 [] [0])),(6,.one (.av (.int .i64 i)))]) (fun i=>[(302,⟨.sl true none 1 (i+1) (fI (pasc i)),[]⟩)]) [0,1] (k0:=?k01) (keepH:=?kh1) 400 (fun i=>i≤m) (fun i=>m - i) (0) ?kea1 ?keb1 ?_ ?_ ?_
 case kea1=>exact amN
 case keb1=>exact amN
 ·exact Nat.zero_le _
 ·refine LeA [] ?_ ?_ ?_
  all_goals try refine amL ?_
  all_goals try exact amT
  exact oneI (.inl rfl) rfl rfl
 ·intro i hi
  have hpl:=pasc_len i
  (try refine am ?_);(try exact amT)
  repeat' with_reducible first|apply zA|intro _
  all_goals try exact amA
  ·have hlt:i<m:=by omega
   refine LoopK.auto (Nat) (fun j=>[(7,.one (.own 303 [] [0])),(8,.one (.av (.int .i64 (j+1:Nat))))]) (fun j=>[(303,⟨.sl true none 1 (j+1) (fI (pasc (i+1))),[]⟩)]) [0,1,5,6] (k0:=?k02) (keepH:=?kh2) 400 (fun j=>j≤i) (fun j=>i - j) (0) ?kea2 ?keb2 ?_ ?_ ?_
   case kea2=>exact amN
   case keb2=>exact amN
   ·exact Nat.zero_le _
   ·refine LeA [] ?_ ?_ ?_
    all_goals try refine amL ?_
    all_goals try exact amT
    exact oneI (.inl rfl) rfl (by rw[pasc_one (i+1) (by omega)];rfl)
   ·intro j hj
    have b1:=pasc_bd i (by omega) j (by omega)
    have b2:=pasc_bd i (by omega) (j+1)
    have ej:((j:Int)+1).toNat=j+1:=by omega
    (try refine am ?_);(try simp only[ej]);(try refine am ?_);(try exact amT)
    repeat' with_reducible first|apply zA|intro _
    all_goals try exact amA
    all_goals (try (have:=b2 (by omega);omega))
    ·refine⟨j+1,?_,by omega,by omega⟩
     refine LeA [] ?_ ?_ ?_
     all_goals try refine amL ?_
     all_goals try exact amT
     all_goals (first|exact appTake (.inl rfl) rfl (congrArg (AV.int IntKind.i64) (pasc_next i (by omega) j (by omega))))
    ·refine⟨i+1,?_,by omega,by omega⟩
     obtain rfl:j=i:=by omega
     refine LeA [] ?_ ?_ ?_
     all_goals try refine amL ?_
     all_goals try exact amT
     all_goals (first|exact appTake (.inl rfl) rfl (congrArg (AV.int IntKind.i64) (pasc_last j (by omega)).symm))
  ·refine FinK.val1 ?_ ?_
   all_goals try refine amF ?_
   all_goals try exact amT
   have:i=m:=by omega
   subst this
   exact pasc_bin i hm p hp
def ssGo (n k:Int):Nat→Int→List Int→Int→List Int
 |0,_,out,_=>out
 |f+1,x,out,r=>if (out.length:Int)<k then (if r<binI (n - x - 1) (k - out.length - 1) then ssGo n k f (x+1) (out++[x]) r else ssGo n k f (x+1) out (r - binI (n - x - 1) (k - out.length - 1))) else out
def subsetAt (n k r:Int):List Int:=if 0≤r∧r≤binI n k - 1 then ssGo n k (n.toNat+1) 0 [] r else []
structure SsInv (n k r0:Int) (p:Int×List Int×Int):Prop where
 hx:0≤p.1∧p.1≤n
 hl:(p.2.1.length:Int)≤k
 hr:0≤p.2.2∧p.2.2<binI (n - p.1) (k - p.2.1.length)
 he:ssGo n k ((n - p.1).toNat+1) p.1 p.2.1 p.2.2=ssGo n k (n.toNat+1) 0 [] r0
theorem SsInv.start {n k r:Int} (hn:0≤n) (hk:0≤k) (h:0≤r∧r≤binI n k - 1):SsInv n k r (0,[],r):=
 ⟨⟨Int.le_refl _,hn⟩,hk,⟨h.1,by show r<binI (n - 0) (k - 0);rw[Int.sub_zero,Int.sub_zero];omega⟩,by show ssGo n k ((n - 0).toNat+1) _ _ _=_;rw[Int.sub_zero]⟩
theorem SsInv.ready {n k r0:Int} {p:Int×List Int×Int} (h:SsInv n k r0 p) (hlt:(p.2.1.length:Int)<k):p.1<n∧k - p.2.1.length≤n - p.1:=by
 have h1:=h.hr
 have:=binI_pos (Int.lt_of_le_of_lt h1.1 h1.2)
 omega
theorem SsInv.take {n k r0:Int} {p:Int×List Int×Int} (h:SsInv n k r0 p) (hlt:(p.2.1.length:Int)<k) (hc:p.2.2<binI (n - p.1 - 1) (k - p.2.1.length - 1)):SsInv n k r0 (p.1+1,p.2.1++[p.1],p.2.2):=by
 have h0:=h.ready hlt
 have h1:=h.hx
 have el:((p.2.1++[p.1]).length:Int)=p.2.1.length+1:=by rw[List.length_append];rfl
 refine⟨by show 0≤p.1+1∧p.1+1≤n;omega,by show ((p.2.1++[p.1]).length:Int)≤k;omega,⟨h.hr.1,?_⟩,?_⟩
 ·show p.2.2<binI (n - (p.1+1)) (k - ((p.2.1++[p.1]).length:Int))
  rw[el,show n - (p.1+1)=n - p.1 - 1 by omega,show k - ((p.2.1.length:Int)+1)=k - p.2.1.length - 1 by omega]
  exact hc
 ·rw[←h.he]
  show ssGo n k ((n - (p.1+1)).toNat+1) (p.1+1) (p.2.1++[p.1]) p.2.2=_
  rw[show (n - (p.1+1)).toNat+1=(n - p.1).toNat by omega]
  conv=>rhs;unfold ssGo
  rw[if_pos hlt,if_pos hc]
theorem SsInv.skip {n k r0:Int} {p:Int×List Int×Int} (h:SsInv n k r0 p) (hn:n≤5) (_:k≤5) (hlt:(p.2.1.length:Int)<k) (hc:¬p.2.2<binI (n - p.1 - 1) (k - p.2.1.length - 1)):SsInv n k r0 (p.1+1,p.2.1,p.2.2 - binI (n - p.1 - 1) (k - p.2.1.length - 1)):=by
 have h0:=h.ready hlt
 have h1:=h.hx
 have h2:=h.hr
 have hp:=binI_pas (n:=n - p.1) (k:=k - p.2.1.length) (by omega) (by omega)
 refine⟨by show 0≤p.1+1∧p.1+1≤n;omega,h.hl,⟨by show 0≤p.2.2 - _;omega,?_⟩,?_⟩
 ·show p.2.2 - binI (n - p.1 - 1) (k - p.2.1.length - 1)<binI (n - (p.1+1)) (k - p.2.1.length)
  rw[show n - (p.1+1)=n - p.1 - 1 by omega]
  omega
 ·rw[←h.he]
  show ssGo n k ((n - (p.1+1)).toNat+1) (p.1+1) p.2.1 (p.2.2 - binI (n - p.1 - 1) (k - p.2.1.length - 1))=_
  rw[show (n - (p.1+1)).toNat+1=(n - p.1).toNat by omega]
  conv=>rhs;unfold ssGo
  rw[if_pos hlt,if_neg hc]
theorem SsInv.done {n k r0:Int} {p:Int×List Int×Int} (h:SsInv n k r0 p) (hlt:¬(p.2.1.length:Int)<k) (hr0:0≤r0∧r0≤binI n k - 1):subsetAt n k r0=p.2.1:=by
 have e:subsetAt n k r0=ssGo n k (n.toNat+1) 0 [] r0:=if_pos hr0
 rw[e,←h.he]
 unfold ssGo
 rw[if_neg hlt]
theorem ssGo_ok {n k:Int}:∀{f:Nat} {x:Int} {out:List Int} {r:Int},(out.length:Int)≤k→0≤x→x+f≤2^60→(∀y∈out,inK .i64 y)→((ssGo n k f x out r).length:Int)≤k∧∀y∈ssGo n k f x out r,inK .i64 y
 |0,x,out,r,h1,_,_,h4=>⟨h1,h4⟩
 |f+1,x,out,r,h1,h2,h3,h4=>by
  have h3':x+((f+1:Nat):Int)≤1152921504606846976:=h3
  have hf:x+1+(f:Int)≤2^60:=by show _≤(1152921504606846976:Int);omega
  unfold ssGo
  by_cases c1:(out.length:Int)<k
  ·rw[if_pos c1]
   by_cases c2:r<binI (n - x - 1) (k - out.length - 1)
   ·rw[if_pos c2]
    refine ssGo_ok ?_ (by omega) hf (fun y hy=>?_)
    ·rw[List.length_append];show ((out.length+1:Nat):Int)≤k;omega
    ·rcases List.mem_append.1 hy with hy|hy
     ·exact h4 y hy
     ·rw[List.mem_singleton.1 hy];exact inK_bd (by omega)
   ·rw[if_neg c2]
    exact ssGo_ok h1 (by omega) hf h4
  ·rw[if_neg c1]
   exact⟨h1,h4⟩
theorem subsetAt_ok {n k r:Int} (hn:n≤5) (hk:0≤k∧k≤5):(subsetAt n k r).length≤5∧okI (2^40) (subsetAt n k r):=by
 unfold subsetAt
 split
 ·have h:=ssGo_ok (n:=n) (k:=k) (f:=n.toNat+1) (x:=0) (out:=[]) (r:=r) hk.1 (Int.le_refl _) (by show (0:Int)+((n.toNat+1:Nat):Int)≤1152921504606846976;omega) (fun y hy=>nomatch hy)
  have h1:=h.1
  exact⟨by omega,by omega,h.2⟩
 ·exact⟨Nat.zero_le _,Nat.zero_le _,fun y hy=>nomatch hy⟩
theorem specSubsetAt (n k r:Int) (hn:0≤n∧n≤5) (hk:0≤k∧k≤n) (hr:inK .i64 r):ACalls Tryz.prog 209 [.one (.int .i64 n),.one (.int .i64 k),.one (.int .i64 r)] (fun q=>q=.val (.one (aI true (subsetAt n k r)))):=by
 have hb:=binI_rng' hn hk
 have hrr: -9223372036854775808≤r∧r≤9223372036854775807:=hr
 have nt:Tryz.f209.ntmps=46:=rfl
 have rs:Tryz.f209.results=#[.tmp 6]:=rfl
 refine ACalls.of_run (m:=400) mixed Tryz.func209 rfl rfl (Nat.le_of_ble_eq_true rfl) ?_
 simp only[nt,rs]
 clear nt rs
 (try refine am ?_);(try exact amT)
 repeat' with_reducible first|apply zA|intro _
 all_goals try exact amA
 refine CallK.one (specBinomial n k hn hk) (fun _=>amC) ?_
 (try refine am ?_);(try exact amT)
 repeat' with_reducible first|apply zA|intro _
 all_goals try exact amA
 refine CallK.one (l1In r 0 (binI n k - 1)) (fun _=>amC) ?_
 (try refine am ?_);(try exact amT)
 repeat' with_reducible first|apply zA|intro _
 all_goals try exact amA
 ·have e:subsetAt n k r=[]:=if_neg (by assumption)
  rw[e]
  refine FinK.val1 ?_ ?_
  all_goals try refine amF ?_
  all_goals try exact amT
  exact ALe.of (.inl rfl) rfl (fun i hi=>absurd hi (Nat.not_lt_zero _))
 rename_i hr0
 refine LoopK.auto ((Int×List Int×Int)) (fun p=>[(8,.one (.av (.int .i64 p.1))),(7,.one (.own 302 [] [0])),(2,.one (.av (.int .i64 p.2.2)))]) (fun p=>[(302,⟨.sl true none 1 p.2.1.length (fI p.2.1),[]⟩)]) [0,1] (k0:=?k03) (keepH:=?kh3) 400 (fun p=>SsInv n k r p) (fun p=>(n - p.1).toNat) ((0,[],r)) ?kea3 ?keb3 ?_ ?_ ?_
 case kea3=>exact amN
 case keb3=>exact amN
 ·exact SsInv.start hn.1 hk.1 hr0
 ·refine LeA [] ?_ ?_ ?_
  all_goals try refine amL ?_
  all_goals try exact amT
  all_goals (first|exact ALe.of (.inl rfl) rfl (fun i hi=>absurd hi (Nat.not_lt_zero _))|skip)
 ·rintro⟨x,out,q⟩ hi
  have hx:0≤x∧x≤n:=hi.hx
  have hl:(out.length:Int)≤k:=hi.hl
  have hq:0≤q∧q<binI (n - x) (k - out.length):=hi.hr
  have hrd:=hi.ready
  (try refine am ?_);(try exact amT)
  repeat' with_reducible first|apply zA|intro _
  all_goals try exact amA
  ·have hlt:(out.length:Int)<k:=by assumption
   have hrd':x<n∧k - out.length≤n - x:=hi.ready hlt
   have hb2:=binI_rng' (n:=n - x - 1) (k:=k - out.length - 1) (by omega) (by omega)
   have hb3:=binI_rng' (n:=n - x) (k:=k - out.length) (by omega) (by omega)
   refine CallK.one (specBinomial (n - x - 1) (k - out.length - 1) (by omega) (by omega)) (fun _=>amC) ?_
   (try refine am ?_);(try exact amT)
   repeat' with_reducible first|apply zA|intro _
   all_goals try exact amA
   ·refine⟨(x+1,out++[x],q),?_,hi.take hlt (by assumption),by show (n - (x+1)).toNat<(n - x).toNat;have:=hrd'.1;omega⟩
    refine LeA [] ?_ ?_ ?_
    all_goals try refine amL ?_
    all_goals try exact amT
    all_goals (first|exact appOne (.inl rfl) rfl rfl|skip)
   ·refine⟨(x+1,out,q - binI (n - x - 1) (k - out.length - 1)),?_,hi.skip hn.2 (by omega) hlt (by assumption),by show (n - (x+1)).toNat<(n - x).toNat;have:=hrd'.1;omega⟩
    refine LeA [] ?_ ?_ ?_
    all_goals try refine amL ?_
    all_goals try exact amT
    all_goals (first|exact .refl _|skip)
  ·have hlt:¬(out.length:Int)<k:=by assumption
   rw[hi.done hlt hr0]
   refine FinK.val1 ?_ ?_
   all_goals try refine amF ?_
   all_goals try exact amT
   all_goals (first|exact .refl _|skip)
end Go.AM
namespace Go.AM
set_option maxHeartbeats 64000000
open Go Go.Proofs
set_option maxRecDepth 100000
theorem byte_bd (l:List UInt8) (i:Nat):0≤((l.getD i 0).toNat:Int)∧((l.getD i 0).toNat:Int)≤255:=by
 have:=(l.getD i 0).toNat_lt
 omega
theorem roB {l:List UInt8} {nl:Option Bool} {f:Nat→Nat→AV}:ALe (.sl true nl 1 l.length (apF 0 f fun i j=>match fB l i j with|AV.sl _ nl es n f=>AV.sl false nl es n f|AV.mp _=>AV.junk|a=>a)) (.sl true none 1 l.length (fB l)):=by
 refine ALe.of (.inl rfl) rfl (fun a ha j hj=>?_)
 obtain rfl:j=0:=by omega
 unfold apF
 rw[if_neg (Nat.not_lt_zero _),Nat.sub_zero,fB_at]
 dsimp only
 rw[fB_at]
 exact .refl _
def tapeOk (t:DTape):Prop:=t.bytes.length≤600∧0≤t.at_∧t.at_≤(t.bytes.length:Int)
instance (t:DTape):Decidable (tapeOk t):=by unfold tapeOk;infer_instance
theorem specTapeOk (t:DTape) (u:Bool) (ht:okTape (2^40) t):ACalls Tryz.prog 182 [.agg (cTape u false t)] (fun r=>r=.val (.one (.bool (decide (tapeOk t))))):=by
 have hl:=ht.1
 have nt:Tryz.f182.ntmps=15:=rfl
 have rs:Tryz.f182.results=#[.tmp 2]:=rfl
 refine ACalls.of_run (m:=400) mixed Tryz.func182 rfl rfl (Nat.le_of_ble_eq_true rfl) ?_
 simp only[nt,rs]
 clear nt rs
 (try refine am ?_);(try exact amT)
 repeat' with_reducible first|apply zA|intro _
 all_goals try exact amA
 refine CallG.one rfl (fun hg=>l1In t.at_ 0 _) ?_
 (try refine am ?_);(try exact amT)
 repeat' with_reducible first|apply zA|intro _
 all_goals try exact amA
 refine FinK.val1 ?_ ?_
 all_goals try refine amF ?_
 all_goals try exact amT
 exact decide_eq_decide.2 (by show _↔(t.bytes.length≤600∧0≤t.at_∧t.at_≤(t.bytes.length:Int));omega)
theorem spec_l15Copy (t:DTape) (u:Bool) (ht:okTape (2^40) t):ACalls Tryz.prog 180 [.agg (cTape u false t)] (fun r=>r=.val (.agg (cTape true false t))):=by
 have hl:=ht.1
 have nt:Tryz.f180.ntmps=10:=rfl
 have rs:Tryz.f180.results=#[.cell 2 162]:=rfl
 refine ACalls.of_run (m:=400) mixed Tryz.func180 rfl rfl (Nat.le_of_ble_eq_true rfl) ?_
 simp only[nt,rs]
 clear nt rs
 (try refine am ?_);(try exact amT)
 repeat' with_reducible first|apply zA|intro _
 all_goals try exact amA
 refine FinK.cell1 ?_ ?_ ?_
 all_goals try refine amF ?_
 all_goals try exact amT
 exact roB
def tapeLeft (t:DTape):Int:=if tapeOk t then (t.bytes.length:Int) - t.at_ else 0
theorem specTapeLeft (t:DTape) (u:Bool) (ht:okTape (2^40) t):ACalls Tryz.prog 212 [.agg (cTape u false t)] (fun r=>r=.val (.one (.int .i64 (tapeLeft t)))):=by
 have hl:=ht.1
 have nt:Tryz.f212.ntmps=12:=rfl
 have rs:Tryz.f212.results=#[.tmp 2]:=rfl
 refine ACalls.of_run (m:=400) mixed Tryz.func212 rfl rfl (Nat.le_of_ble_eq_true rfl) ?_
 simp only[nt,rs]
 clear nt rs
 (try refine am ?_);(try exact amT)
 repeat' with_reducible first|apply zA|intro _
 all_goals try exact amA
 refine CallK.one (specTapeOk t _ ht) (fun _=>amC) ?_
 (try refine am ?_);(try exact amT)
 repeat' with_reducible first|apply zA|intro _
 all_goals try exact amA
 ·refine FinK.val1 ?_ ?_
  all_goals try refine amF ?_
  all_goals try exact amT
  exact(if_neg (by assumption)).symm
 ·rename_i h
  have:=h.2
  omega
 ·rename_i h
  have:=h.2
  omega
 ·refine FinK.val1 ?_ ?_
  all_goals try refine amF ?_
  all_goals try exact amT
  exact(if_pos (by assumption)).symm
theorem specTake (t:DTape) (u:Bool) (ht:okTape (2^40) t):ACalls Tryz.prog 198 [.agg (cTape u false t)] (fun r=>∃x:DTape×Int×Bool,((x.1.bytes=t.bytes∧inK .i64 x.1.at_)∧0≤x.2.1∧x.2.1≤65535)∧r=.tup [.agg (cTape true false x.1),.one (.int .i64 x.2.1),.one (.bool x.2.2)]):=by
 have hl:=ht.1
 have nt:Tryz.f198.ntmps=34:=rfl
 have rs:Tryz.f198.results=#[.cell 2 162,.tmp 3,.tmp 4]:=rfl
 refine ACalls.of_runC (m:=400) mixed Tryz.func198 rfl rfl (Nat.le_of_ble_eq_true rfl) ?_
 simp only[nt,rs]
 clear nt rs
 (try refine am ?_);(try exact amT)
 repeat' with_reducible first|apply zA|intro _
 all_goals try exact amA
 refine CallK.one (spec_l15Copy t _ ht) (fun _=>amC) ?_
 (try refine am ?_);(try exact amT)
 repeat' with_reducible first|apply zA|intro _
 all_goals try exact amA
 refine CallK.one (specTapeLeft t _ ht) (fun _=>amC) ?_
 (try refine am ?_);(try exact amT)
 by_cases hc:tapeLeft t<2
 ·repeat' with_reducible first|apply zA|intro _
  all_goals try exact amA
  refine FinK.ex ((t,0,false)) ?hq1 ?_
  case hq1=>exact⟨⟨rfl,ht.2⟩,by dsimp only;omega,by dsimp only;omega⟩
  refine FinK.tup ?_ ?_
  all_goals try refine amF ?_
  all_goals try exact amT
 ·have hb:0≤t.at_∧t.at_+2≤(t.bytes.length:Int):=by
   unfold tapeLeft at hc
   split at hc
   ·rename_i h
    have:=h.2
    omega
   ·omega
  have b1:=byte_bd t.bytes t.at_.toNat
  have b2:=byte_bd t.bytes (t.at_+1).toNat
  have w1:IntKind.i64.wrap ((t.bytes.getD t.at_.toNat 0).toNat:Int)=((t.bytes.getD t.at_.toNat 0).toNat:Int):=wrap_inK ⟨by show (-9223372036854775808:Int)≤_;omega,by show _≤(9223372036854775807:Int);omega⟩
  have w2:IntKind.i64.wrap ((t.bytes.getD (t.at_+1).toNat 0).toNat:Int)=((t.bytes.getD (t.at_+1).toNat 0).toNat:Int):=wrap_inK ⟨by show (-9223372036854775808:Int)≤_;omega,by show _≤(9223372036854775807:Int);omega⟩
  (try refine am ?_);(try simp only[w1,w2]);(try refine am ?_);(try exact amT)
  repeat' with_reducible first|apply zA|intro _
  all_goals try exact amA
  refine FinK.ex ((⟨t.bytes,t.at_+2⟩,((t.bytes.getD t.at_.toNat 0).toNat:Int)*256+((t.bytes.getD (t.at_+1).toNat 0).toNat:Int),true)) ?hq2 ?_
  case hq2=>exact⟨⟨rfl,by show (-9223372036854775808:Int)≤t.at_+2;omega,by show t.at_+2≤(9223372036854775807:Int);omega⟩,by dsimp only;omega,by dsimp only;omega⟩
  refine FinK.tup ?_ ?_
  all_goals try refine amF ?_
  all_goals try exact amT
theorem specTakeBelow (t:DTape) (n:Int) (u:Bool) (ht:okTape (2^40) t) (_:inK .i64 n):ACalls Tryz.prog 207 [.agg (cTape u false t),.one (.int .i64 n)] (fun r=>∃x:DTape×Int×Bool,((x.1.bytes=t.bytes∧inK .i64 x.1.at_)∧(0≤x.2.1∧x.2.1≤65535)∧(x.2.2=true→x.2.1<n))∧r=.tup [.agg (cTape true false x.1),.one (.int .i64 x.2.1),.one (.bool x.2.2)]):=by
 have hl:=ht.1
 have nt:Tryz.f207.ntmps=29:=rfl
 have rs:Tryz.f207.results=#[.cell 4 162,.tmp 5,.tmp 6]:=rfl
 refine ACalls.of_runC (m:=400) mixed Tryz.func207 rfl rfl (Nat.le_of_ble_eq_true rfl) ?_
 simp only[nt,rs]
 clear nt rs
 (try refine am ?_);(try exact amT)
 repeat' with_reducible first|apply zA|intro _
 all_goals try exact amA
 refine CallK.ex (specTake t _ ht) (fun _ _ _=>amC) ?_
 rintro⟨a,z,b⟩ ⟨⟨ha1,ha2⟩,hz⟩
 (try refine am ?_);(try exact amT)
 dsimp only at ha1 ha2 hz ⊢
 repeat' with_reducible first|apply zA|intro _
 all_goals try exact amA
 refine CallG.one rfl (fun hg=>l1In n 1 65536) ?_
 (try refine am ?_);(try exact amT)
 have hm:¬1≤n∨(z.tmod n=z % n∧0≤z % n∧z % n<n):=by
  by_cases e:1≤n
  ·exact .inr ⟨Int.tmod_eq_emod_of_nonneg hz.1,Int.emod_nonneg _ (by omega),Int.emod_lt_of_pos _ (by omega)⟩
  ·exact .inl e
 repeat' with_reducible first|apply zA|intro _
 all_goals try exact amA
 ·refine CallK.one (spec_l15Copy t _ ht) (fun _=>amC) ?_
  (try refine am ?_);(try exact amT)
  repeat' with_reducible first|apply zA|intro _
  all_goals try exact amA
  refine FinK.ex ((t,0,false)) ?hq3 ?_
  case hq3=>exact⟨⟨rfl,ht.2⟩,by dsimp only;omega,fun e=>by cases e⟩
  refine FinK.tup ?_ ?_
  all_goals try refine amF ?_
  all_goals try exact amT
 ·rename_i h2
  obtain⟨h3,h4,h5⟩:=hm.resolve_left (fun h=>h h2.2.1)
  refine FinK.ex ((a,z.tmod n,true)) ?hq4 ?_
  case hq4=>exact⟨⟨ha1,ha2⟩,by dsimp only;omega,fun _=>by dsimp only;omega⟩
  refine FinK.tup ?_ ?_
  all_goals try refine amF ?_
  all_goals try exact amT
theorem specTakeSubset (t:DTape) (n k:Int) (u:Bool) (ht:okTape (2^40) t) (hn:0≤n∧n≤5) (hk:0≤k∧k≤n):ACalls Tryz.prog 194 [.agg (cTape u false t),.one (.int .i64 n),.one (.int .i64 k)] (fun r=>∃x:DTape×List Int×Bool,((x.1.bytes=t.bytes∧inK .i64 x.1.at_)∧x.2.1.length≤5∧okI (2^40) x.2.1)∧r=.tup [.agg (cTape true false x.1),.one (aI true x.2.1),.one (.bool x.2.2)]):=by
 have hl:=ht.1
 have hbn:=binI_rng' hn hk
 have nt:Tryz.f194.ntmps=31:=rfl
 have rs:Tryz.f194.results=#[.cell 6 162,.tmp 7,.tmp 8]:=rfl
 refine ACalls.of_runC (m:=400) mixed Tryz.func194 rfl rfl (Nat.le_of_ble_eq_true rfl) ?_
 simp only[nt,rs]
 clear nt rs
 (try refine am ?_);(try exact amT)
 repeat' with_reducible first|apply zA|intro _
 all_goals try exact amA
 refine CallCE.one (specBinomial n k hn hk) (fun _=>amC) rfl ?_
 (try refine am ?_);(try exact amT)
 repeat' with_reducible first|apply zA|intro _
 all_goals try exact amA
 refine CallCE.ex (specTakeBelow t (binI n k) _ ht ⟨by show (-9223372036854775808:Int)≤_;omega,by show _≤(9223372036854775807:Int);omega⟩) rfl ((t,0,false)) ?hcq (fun _ _ _=>amC) (fun _=>rfl) (fun _=>rfl) ?_
 case hcq=>exact⟨⟨rfl,ht.2⟩,by dsimp only;omega,fun e=>by cases e⟩
 rintro⟨a,z,b⟩ ⟨⟨ha1,ha2⟩,hz,_⟩
 (try refine am ?_);(try exact amT)
 dsimp only at ha1 ha2 hz ⊢
 repeat' with_reducible first|apply zA|intro _
 all_goals try exact amA
 ·refine CallK.one (spec_l15Copy t _ ht) (fun _=>amC) ?_
  (try refine am ?_);(try exact amT)
  repeat' with_reducible first|apply zA|intro _
  all_goals try exact amA
  refine FinK.ex ((t,[],false)) ?hq5 ?_
  case hq5=>exact⟨⟨rfl,ht.2⟩,Nat.zero_le _,Nat.zero_le _,fun x hx=>by simp at hx⟩
  refine FinK.tup ?_ ?_
  all_goals try refine amF ?_
  all_goals try exact amT
  exact ALe.of (.inl rfl) rfl (fun i hi=>by omega)
 ·have hss:=subsetAt_ok (r:=z) hn.2 ⟨hk.1,by omega⟩
  refine CallCE.one (specSubsetAt n k z hn hk ⟨by show (-9223372036854775808:Int)≤_;omega,by show _≤(9223372036854775807:Int);omega⟩) (fun _=>amC) rfl ?_
  (try refine am ?_);(try exact amT)
  repeat' with_reducible first|apply zA|intro _
  all_goals try exact amA
  refine FinK.ex ((a,subsetAt n k z,true)) ?hq6 ?_
  case hq6=>exact⟨⟨ha1,ha2⟩,hss⟩
  refine FinK.tup ?_ ?_
  all_goals try refine amF ?_
  all_goals try exact amT
end Go.AM
