/- Lemmas for the proof of this claim. -/
import Derived.Test.YtpbahibieegbgaaGreatFor
import Derived.Test.YtpbahibieegbgaaGreatSay
import Derived.Test.YtpbahibieegbgaaGreatDr1
namespace Go.AM
set_option maxHeartbeats 64000000
open Go Go.Proofs
set_option maxRecDepth 100000
theorem fnForestSays (code:List UInt8) (h:code.length≤2^47∧∀x∈code,True):ACalls Tryz.prog 6 [.one (aB false code)] (fun r=>r=.val (.one (.bool true))):=by
 obtain⟨h,_⟩:=h
 have nt:Tryz.f6.ntmps=135:=rfl
 have rs:Tryz.f6.results=#[.tmp 2]:=rfl
 refine ACalls.of_runC (m:=400) mixed Tryz.func6 rfl rfl (Nat.le_of_ble_eq_true rfl) ?_
 simp only[nt,rs]
 clear nt rs
 (try refine am ?_);(try exact amT)
 repeat' with_reducible first|apply zA|intro _
 all_goals try exact amA
 refine CallK.one (lawsBig code h _) (fun _=>amC) ?_
 (try refine am ?_);(try exact amT)
 repeat' with_reducible first|apply zA|intro _
 all_goals try exact amA
 ·refine FinK.val1 ?_ ?_
  all_goals try refine amF ?_
  all_goals try exact amT
 have hc:code.length≤2^40:=by omega
 refine CallK.ex (spec_DrawForestSaysR code hc) (fun _ _ _=>amC) ?_
 rintro⟨c,f,e⟩ ⟨hcf,hf,he⟩
 (try refine am ?_);(try exact amT)
 dsimp only at hcf hf he
 have hc47:okConf (2^47) c:=okConf_up hcf
 have hs47:=hc47.1
 have hf47:=bdF_47 hf
 have hz:=bdF_z hf
 have he47:okEx (2^47) e:=⟨okI_up he.1 (by decide),he.2⟩
 repeat' with_reducible first|apply zA|intro _
 all_goals try exact amA
 by_cases hTE:forestOk c f∧exOk c.schema e
 ·obtain⟨h1,h2⟩:=hTE
  obtain⟨v1,v2,v3,v4,v5⟩:=votes_facts h1 h2
  have hI:=fun u v u' v' w=>implForestSays c f e u v u' v' w hc47 hf47 hz he47
  have hB:=fun u v u' v' w=>implForestSays c f ⟨e.bins,-1⟩ u v u' v' w hc47 hf47 hz ⟨he47.1,inK6 (by dsimp only;omega)⟩
  rw[votesA_blind h1 h2] at hB
  have hW:=fun u v u' v'=>implVoices c f u v u' v' hc47 hf47 hz
  have e2:voicesA c f=voicesL f:=if_pos h1
  rw[e2] at hW
  have w1:=voicesL_len f
  have w2:=fun i (hi:i<(voicesL f).length)=>voices_rng f (i:=i) (by omega)
  have hcl:=h1.1.1.2.1
  have hml:=h1.2.1
  have hmb:=h1.1.2.2.1
  generalize votesA c f e=V at *
  generalize voicesL f=W at *
  refine CallK.one (hI _ _ _ _ _) (fun _=>amC) ?_
  (try refine am ?_);(try exact amT)
  repeat' with_reducible first|apply zA|intro _
  all_goals try exact amA
  refine CallK.one (hW _ _ _ _) (fun _=>amC) ?_
  (try refine am ?_);(try exact amT)
  repeat' with_reducible first|apply zA|intro _
  all_goals try exact amA
  refine CallK.one (specForestOk c f _ _ _ _ hc47 hf47 hz) (fun _=>amC) ?_
  (try refine am ?_);(try exact amT)
  repeat' with_reducible first|apply zA|intro _
  all_goals try exact amA
  refine CallG.one rfl (fun hg=>specExOk c.schema e _ _ _ hs47 he47) ?_
  (try refine am ?_);(try exact amT)
  repeat' with_reducible first|apply zA|intro _
  all_goals try exact amA
  ·exfalso;rename_i h3;rcases h3 with h3|h3<;>exact h3 (by assumption)
  refine LoopK.auto (Nat) (fun i=>[(9,.one (.av (.int .i64 (tot1 (V.take i))))),(11,.one (.av (.int .i64 i)))]) (fun i=>[]) [3,4,5,6,7,8,10] (k0:=?k01) (keepH:=?kh1) 600 (fun i=>i≤V.length) (fun i=>V.length - i) (0) ?kea1 ?keb1 ?_ ?_ ?_
  case kea1=>exact amN
  case keb1=>exact amN
  ·exact Nat.zero_le _
  ·refine LeA [] ?_ ?_ ?_
   all_goals try refine amL ?_
   all_goals try exact amT
   rfl
  ·intro i hi
   have ht:=tot1_take_bd (c:=4000) (by decide) v3 i
   have ht2:=tot1_take_bd (c:=4000) (by decide) v3 (i+1)
   (try refine am ?_);(try exact amT)
   repeat' with_reducible first|apply zA|intro _
   all_goals try exact amA
   ·have:=tot1_take (by assumption:i<V.length)
    omega
   ·have:=tot1_take (by assumption:i<V.length)
    omega
   ·have:=tot1_take (by assumption:i<V.length)
    refine⟨i+1,?_,by omega,by omega⟩
    refine LeA [] ?_ ?_ ?_
    all_goals try refine amL ?_
    all_goals try exact amT
    exact this.symm
   have ei:V.take i=V:=List.take_of_length_le (by omega)
   (try refine am ?_);(try simp only[ei,v2]);(try refine am ?_);(try exact amT)
   refine LoopK.auto (Nat) (fun i=>[(10,.one (.av (.int .i64 (tot1 (W.take i))))),(12,.one (.av (.int .i64 i)))]) (fun i=>[]) [3,4,5,6,8,9] (k0:=?k02) (keepH:=?kh2) 800 (fun i=>i≤W.length) (fun i=>W.length - i) (0) ?kea2 ?keb2 ?_ ?_ ?_
   case kea2=>exact amN
   case keb2=>exact amN
   ·exact Nat.zero_le _
   ·refine LeA [] ?_ ?_ ?_
    all_goals try refine amL ?_
    all_goals try exact amT
    rfl
   ·intro j hj
    have w3:∀i,i<W.length→0≤W.getD i 0∧W.getD i 0≤999:=fun i hi=>by have:=w2 i hi;omega
    have ht:=tot1_take_bd (c:=999) (by decide) w3 j
    have ht2:=tot1_take_bd (c:=999) (by decide) w3 (j+1)
    (try refine am ?_);(try exact amT)
    repeat' with_reducible first|apply zA|intro _
    all_goals try exact amA
    ·have:=tot1_take (l:=W) (i:=j) (by omega)
     omega
    ·have:=tot1_take (l:=W) (i:=j) (by omega)
     omega
    ·have:=w2 j (by omega)
     omega
    ·have:=tot1_take (l:=W) (i:=j) (by omega)
     refine⟨j+1,?_,by omega,by omega⟩
     refine LeA [] ?_ ?_ ?_
     all_goals try refine amL ?_
     all_goals try exact amT
     exact this.symm
    have ej:W.take j=W:=List.take_of_length_le (by omega)
    refine CallK.one (hB _ _ _ _ _) (fun _=>amC) ?_
    (try refine am ?_);(try exact amT)
    (try refine am ?_);(try simp only[ej]);(try refine am ?_);(try exact amT)
    repeat' with_reducible first|apply zA|intro _
    all_goals try exact amA
    refine CallCEG.one rfl rfl (fun hg=>implTreeSays c.schema (f.members.getD 0 default).tree e _ _ _ _ _ hs47 (hf47.2 _ (getD_mem (by omega))).1 he47) ?_
    (try refine am ?_);(try exact amT)
    repeat' with_reducible first|apply zA|intro _
    all_goals try exact amA
    refine FinK.val1 ?_ ?_
    all_goals try refine amF ?_
    all_goals try exact amT
    exact⟨⟨by omega,v5⟩,by by_cases h9:c.members=1;exact .inr (v4 h9);exact .inl h9⟩
 ·have e1:votesA c f e=[]:=if_neg hTE
  have hI:=fun u v u' v' w=>implForestSays c f e u v u' v' w hc47 hf47 hz he47
  rw[e1] at hI
  have hW:=fun u v u' v'=>implVoices c f u v u' v' hc47 hf47 hz
  have e3:topOf []= -1:=rfl
  rw[e3] at hI
  refine CallK.one (hI _ _ _ _ _) (fun _=>amC) ?_
  (try refine am ?_);(try exact amT)
  repeat' with_reducible first|apply zA|intro _
  all_goals try exact amA
  refine CallK.one (hW _ _ _ _) (fun _=>amC) ?_
  (try refine am ?_);(try exact amT)
  repeat' with_reducible first|apply zA|intro _
  all_goals try exact amA
  refine CallK.one (specForestOk c f _ _ _ _ hc47 hf47 hz) (fun _=>amC) ?_
  (try refine am ?_);(try exact amT)
  repeat' with_reducible first|apply zA|intro _
  all_goals try exact amA
  refine CallG.one rfl (fun hg=>specExOk c.schema e _ _ _ hs47 he47) ?_
  (try refine am ?_);(try exact amT)
  repeat' with_reducible first|apply zA|intro _
  all_goals try exact amA
  ·refine FinK.val1 ?_ ?_
   all_goals try refine amF ?_
   all_goals try exact amT
  ·exfalso;exact hTE (by assumption)
end Go.AM
