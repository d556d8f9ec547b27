/- Lemmas for the proof of this claim. -/
import Derived.Test.YtpbahibieegbgaaGreatDrs
import Derived.Test.YtpbahibieegbgaaGreatPlp
import Derived.Test.YtpbahibieegbgaaGreatDr1
import Derived.Test.YtpbahibieegbgaaGreatLvs
namespace Go.AM
set_option maxHeartbeats 64000000
open Go Go.Proofs
set_option maxRecDepth 100000
theorem fnPath (code:List UInt8) (h:code.length≤2^47∧∀x∈code,True):ACalls Tryz.prog 5 [.one (aB false code)] (fun r=>r=.val (.one (.bool true))):=by
 obtain⟨h,_⟩:=h
 have nt:Tryz.f5.ntmps=132:=rfl
 have rs:Tryz.f5.results=#[.tmp 2]:=rfl
 refine ACalls.of_runC (m:=400) mixed Tryz.func5 rfl rfl (Nat.le_of_ble_eq_true rfl) ?_
 simp only[nt,rs]
 clear nt rs
 (try refine am ?_);(try exact amT)
 repeat' with_reducible first|apply zA|intro _
 all_goals try exact amA
 refine CallK.one (lawsBig code h _) (fun _=>amC) ?_
 (try refine am ?_);(try exact amT)
 repeat' with_reducible first|apply zA|intro _
 all_goals try exact amA
 ·refine FinK.val1 ?_ ?_
  all_goals try refine amF ?_
  all_goals try exact amT
 have hc:code.length≤2^40:=by omega
 refine CallK.ex (spec_DrawPathToR code hc) (fun _ _ _=>amC) ?_
 rintro⟨s,t,e⟩ ⟨hs,⟨ht,htl⟩,he⟩
 (try refine am ?_);(try exact amT)
 dsimp only at hs ht htl he
 have hs47:okSchema (2^47) s:=okSchema_up hs
 have ht47:okTree (2^47) t:=okTree_up ht
 have he47:okEx (2^47) e:=⟨okI_up he.1 (by decide),he.2⟩
 repeat' with_reducible first|apply zA|intro _
 all_goals try exact amA
 by_cases hTE:treeOk s t∧exOk s e
 ·have hTE':=hTE
  obtain⟨htk,hek⟩:=hTE'
  have hpl:(pathL s t e).length=lastK s t e+1:=posL_len
  have hpj:∀j,j≤lastK s t e→(pathL s t e).getD j 0=(pos s t e j:Int):=fun j hj=>posL_get (by omega)
  obtain⟨k1,k2,k3⟩:=lastK_ex htk hek
  have hKp:=(pos_lt htk hek k1).1
  have hKl:=k3 _ (Nat.le_refl _)
  have hR:routeTo s t e=(pos s t e (lastK s t e):Int):=if_pos hTE
  have hdep:=fun k hk=>pos_depth htk hek (k:=k) hk
  have hstp:=fun k hk=>step_facts htk hek (k:=k) hk
  have hcnt:cntI (pos s t e (lastK s t e):Int) (leavesL t)=1:=by
   unfold leavesL
   rw[cnt_ixs,if_pos ⟨hKl,k2⟩]
  have hdo:=depthOf_ge hKl
  rw[hdep _ (Nat.le_refl _)] at hdo
  have hlv:(leavesL t).length≤t.nodes.length:=ixs_len _ _ _
  have hcP:=implPathTo s t e false true false true false hs47 ht47 he47 hTE
  have hp0:pos s t e 0=0:=rfl
  generalize pathL s t e=p at *
  generalize lastK s t e=K at *
  refine CallK.one (hcP) (fun _=>amC) ?_
  (try refine am ?_);(try exact amT)
  repeat' with_reducible first|apply zA|intro _
  all_goals try exact amA
  refine CallK.one (implRouteTo s t e _ _ _ _ _ hs47 ht47 he47) (fun _=>amC) ?_
  (try refine am ?_);(try exact amT)
  rw[hR]
  repeat' with_reducible first|apply zA|intro _
  all_goals try exact amA
  refine CallK.one (specTreeOk s t _ _ _ _ hs47 ht47) (fun _=>amC) ?_
  (try refine am ?_);(try exact amT)
  repeat' with_reducible first|apply zA|intro _
  all_goals try exact amA
  refine CallG.one rfl (fun hg=>specExOk s e _ _ _ hs47 he47) ?_
  (try refine am ?_);(try exact amT)
  repeat' with_reducible first|apply zA|intro _
  all_goals try exact amA
  ·exfalso;rename_i h1;rcases h1 with h1|h1<;>exact h1 (by assumption)
  ·exfalso
   rename_i h1
   have e0:=hpj 0 (Nat.zero_le _)
   have e1:=hpj K (Nat.le_refl _)
   have e2:((p.length:Int) - 1).toNat=K:=by omega
   rw[e2,e1,e0,hp0] at h1
   rcases h1 with (h1|h1)|h1
   ·omega
   ·exact h1 rfl
   ·exact h1 rfl
  refine LoopK.auto (Nat) (fun i=>[(8,.one (.av (.int .i64 i)))]) (fun i=>[]) [4,6,7] (k0:=?k01) (keepH:=?kh1) 600 (fun i=>i≤K+1) (fun i=>K+1 - i) (0) ?kea1 ?keb1 ?_ ?_ ?_
  case kea1=>exact amN
  case keb1=>exact amN
  ·exact Nat.zero_le _
  ·refine LeA [] ?_ ?_ ?_
   all_goals try refine amL ?_
   all_goals try exact amT
  ·intro i hi
   by_cases hik:i≤K
   ·have e0:=hpj i hik
    have e1:=hpj (i - 1) (by omega)
    have e2:((i:Int) - 1).toNat=i - 1:=by omega
    have e3:=hdep i hik
    have e4:=k3 i hik
    have e5:((pos s t e i:Nat):Int).toNat=pos s t e i:=by omega
    have e6:(t.nodes.getD (pos s t e i) default).leaf=decide ((i:Int)=(p.length:Int) - 1):=by
     by_cases e:i=K
     ·subst e
      rw[decide_eq_true (by omega)]
      exact k2
     ·rw[decide_eq_false (by omega)]
      exact k1 i (by omega)
    have e7:¬0<i∨(t.nodes.getD (pos s t e i) default).up=(pos s t e (i - 1):Int):=by
     by_cases h0:0<i
     ·obtain⟨k,rfl⟩:∃k,i=k+1:=⟨i - 1,by omega⟩
      exact .inr (hstp k (by omega)).2.2.2.1
     ·exact .inl h0
    (try refine am ?_);(try simp only[e0,e5]);(try refine am ?_);(try exact amT)
    repeat' with_reducible first|apply zA|intro _
    all_goals try exact amA
    ·exfalso
     rename_i h1
     rw[e2,e1] at h1
     rcases h1 with (h1|h1)|h1
     ·exact h1 e3
     ·exact h1 e6
     ·exact h1.2 (e7.resolve_left (fun h=>h (by omega)))
    ·refine⟨i+1,?_,by omega,by omega⟩
     refine LeA [] ?_ ?_ ?_
     all_goals try refine amL ?_
     all_goals try exact amT
   ·have hcT:=lawsTimes (leavesL t) (pos s t e K) true none (by omega)
    rw[hcnt] at hcT
    (try refine am ?_);(try exact amT)
    repeat' with_reducible first|apply zA|intro _
    all_goals try exact amA
    refine CallK.one (implLeaves t _ _ (by omega) ht47) (fun _=>amC) ?_
    (try refine am ?_);(try exact amT)
    repeat' with_reducible first|apply zA|intro _
    all_goals try exact amA
    refine CallK.one (hcT) (fun _=>amC) ?_
    (try refine am ?_);(try exact amT)
    repeat' with_reducible first|apply zA|intro _
    all_goals try exact amA
    refine CallG.one rfl (fun hg=>implDepthOf t _ _ ht47) ?_
    (try refine am ?_);(try exact amT)
    repeat' with_reducible first|apply zA|intro _
    all_goals try exact amA
    refine FinK.val1 ?_ ?_
    all_goals try refine amF ?_
    all_goals try exact amT
    omega
 ·have hcP:=implPathTo0 s t e false true false true false hs47 ht47 he47 hTE
  have hR:routeTo s t e= -1:=if_neg hTE
  refine CallK.one (hcP) (fun _=>amC) ?_
  (try refine am ?_);(try exact amT)
  repeat' with_reducible first|apply zA|intro _
  all_goals try exact amA
  refine CallK.one (implRouteTo s t e _ _ _ _ _ hs47 ht47 he47) (fun _=>amC) ?_
  (try refine am ?_);(try exact amT)
  rw[hR]
  repeat' with_reducible first|apply zA|intro _
  all_goals try exact amA
  refine CallK.one (specTreeOk s t _ _ _ _ hs47 ht47) (fun _=>amC) ?_
  (try refine am ?_);(try exact amT)
  repeat' with_reducible first|apply zA|intro _
  all_goals try exact amA
  refine CallG.one rfl (fun hg=>specExOk s e _ _ _ hs47 he47) ?_
  (try refine am ?_);(try exact amT)
  repeat' with_reducible first|apply zA|intro _
  all_goals try exact amA
  ·refine FinK.val1 ?_ ?_
   all_goals try refine amF ?_
   all_goals try exact amT
  all_goals (exfalso;exact hTE (by assumption))
end Go.AM
