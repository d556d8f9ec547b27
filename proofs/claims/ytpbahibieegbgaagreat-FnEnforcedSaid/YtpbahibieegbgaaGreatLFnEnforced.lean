/- Lemmas for the proof of this claim. -/
import Derived.Test.YtpbahibieegbgaaGreatEds
import Derived.Test.YtpbahibieegbgaaGreatPle
import Derived.Test.YtpbahibieegbgaaGreatDr1
import Derived.Test.YtpbahibieegbgaaGreatTsm
namespace Go.AM
set_option maxHeartbeats 64000000
open Go Go.Proofs
set_option maxRecDepth 100000
theorem enforce_z {s:DSchema} {t:DTree} {b:Int} (h:okTree (2^40) t) (hz:zTree t≤2^40) (ht:treeOk s t):zTree (enforce s t b).1≤2^40:=by
 have e:enforce s t b=enfGo s b (activeL t).length t []:=if_pos ht
 rw[e]
 exact(EnfInv.go (s:=s) (b:=b) (activeL t).length (EnfInv.start h hz) rfl).z
theorem fnEnforced (code:List UInt8) (h:code.length≤2^47∧∀x∈code,True):ACalls Tryz.prog 3 [.one (aB false code)] (fun r=>r=.val (.one (.bool true))):=by
 obtain⟨h,_⟩:=h
 have nt:Tryz.f3.ntmps=175:=rfl
 have rs:Tryz.f3.results=#[.tmp 2]:=rfl
 refine ACalls.of_runC (m:=400) mixed Tryz.func3 rfl rfl (Nat.le_of_ble_eq_true rfl) ?_
 simp only[nt,rs]
 clear nt rs
 (try refine am ?_);(try exact amT)
 repeat' with_reducible first|apply zA|intro _
 all_goals try exact amA
 refine CallK.one (lawsBig code h _) (fun _=>amC) ?_
 (try refine am ?_);(try exact amT)
 repeat' with_reducible first|apply zA|intro _
 all_goals try exact amA
 ·refine FinK.val1 ?_ ?_
  all_goals try refine amF ?_
  all_goals try exact amT
 have hc:code.length≤2^40:=by omega
 refine CallK.ex (spec_DrawEnforceR code hc) (fun _ _ _=>amC) ?_
 rintro⟨s,t,b⟩ ⟨hs,⟨ht,htl⟩,hb⟩
 (try refine am ?_);(try exact amT)
 dsimp only at hs ht htl hb
 have hs47:okSchema (2^47) s:=okSchema_up hs
 have ht47:okTree (2^47) t:=okTree_up ht
 have ht40:okTree (2^40) t:=okTree_up ht
 have hz:=bdT_z ht htl
 have hn38:t.nodes.length≤2^38:=by omega
 repeat' with_reducible first|apply zA|intro _
 all_goals try exact amA
 have hcE:=implEnforceR s t b false true false true hs47 ht40 hn38 hz hb
 by_cases htk:treeOk s t
 ·have hcS:=specEnforceR s t b false true false true hs47 ht40 hn38 hz hb
  obtain⟨F,hC,hlen⟩:=enforce_fact b htk
  obtain⟨hu40,hun,hgl,hgk⟩:=enforce_ok (s:=s) (b:=b) ht40 hz
  have huz:=enforce_z (s:=s) (b:=b) ht40 hz htk
  generalize enforce s t b=p at *
  obtain⟨u,gone⟩:=p
  dsimp only at *
  have huk:=F.ok
  have hag:=enforce_again F.ok hC
  have huL:u.nodes.length=t.nodes.length:=F.al.len
  have hu47:okTree (2^47) u:=okTree47 hu40
  have hend:=enfC_end F.ok hC
  have hlu:=ixs_len actB u.nodes u.nodes.length
  have hlt:=ixs_len actB t.nodes t.nodes.length
  have eLu:(activeL u).length=(ixs actB u.nodes u.nodes.length).length:=rfl
  have eLt:(activeL t).length=(ixs actB t.nodes t.nodes.length).length:=rfl
  have hiu:=activeL_rng u
  have hcA:=implEnforceR s u b false true false true hs47 hu40 (by omega) huz hb
  rw[hag] at hcA
  refine CallK.one (hcE) (fun _=>amC) ?_
  (try refine am ?_);(try exact amT)
  repeat' with_reducible first|apply zA|intro _
  all_goals try exact amA
  refine CallK.one (specTreeOk s t _ _ _ _ hs47 ht47) (fun _=>amC) ?_
  (try refine am ?_);(try exact amT)
  repeat' with_reducible first|apply zA|intro _
  all_goals try exact amA
  ·exact absurd htk (by assumption)
  refine CallK.one (hcS) (fun _=>amC) ?_
  (try refine am ?_);(try exact amT)
  repeat' with_reducible first|apply zA|intro _
  all_goals try exact amA
  refine CallCE.one (lawsSameInts gone gone _ _ _ _ (by omega) (by omega)) (fun _=>amC) rfl ?_
  (try refine am ?_);(try exact amT)
  repeat' with_reducible first|apply zA|intro _
  all_goals try exact amA
  refine CallCEG.one rfl rfl (fun hg=>implTreeOk s u _ _ _ _ hs47 hu47) ?_
  (try refine am ?_);(try exact amT)
  repeat' with_reducible first|apply zA|intro _
  all_goals try exact amA
  refine CallCEG.one rfl rfl (fun hg=>implTreeUnits u _ _ hu47 huz) ?_
  (try refine am ?_);(try exact amT)
  repeat' with_reducible first|apply zA|intro _
  all_goals try exact amA
  refine CallCEG.one rfl rfl (fun hg=>implActiveLeavesR u _ _ (by omega) hu47) ?_
  (try refine am ?_);(try exact amT)
  repeat' with_reducible first|apply zA|intro _
  all_goals try exact amA
  refine CallCEG.one rfl rfl (fun hg=>implActiveLeavesR u _ _ (by omega) hu47) ?_
  (try refine am ?_);(try exact amT)
  repeat' with_reducible first|apply zA|intro _
  all_goals try exact amA
  refine CallCEG.one rfl rfl (fun hg=>specActiveLeavesR t _ _ (by omega) ht47) ?_
  (try refine am ?_);(try exact amT)
  repeat' with_reducible first|apply zA|intro _
  all_goals try exact amA
  ·exfalso
   rename_i h1
   rcases h1 with (h1|h1)|h1
   ·exact h1 huk
   ·omega
   ·omega
  refine CallK.one (implActiveLeavesR u _ _ (by omega) hu47) (fun _=>amC) ?_
  (try refine am ?_);(try exact amT)
  repeat' with_reducible first|apply zA|intro _
  all_goals try exact amA
  refine LoopK.auto (Nat) (fun i=>[(11,.one (.av (.int .i64 i)))]) (fun i=>[]) [0,3,4,5,6,7,10] (k0:=?k01) (keepH:=?kh1) 600 (fun i=>i≤(activeL u).length) (fun i=>(activeL u).length - i) (0) ?kea1 ?keb1 ?_ ?_ ?_
  case kea1=>exact amN
  case keb1=>exact amN
  ·exact Nat.zero_le _
  ·refine LeA [] ?_ ?_ ?_
   all_goals try refine amL ?_
   all_goals try exact amT
  ·intro i hi
   by_cases hil:i<(activeL u).length
   ·obtain⟨x,ex,hx,hxa⟩:=ixs_mem (getD_mem (d:=0) hil)
    have ex:(activeL u).getD i 0=(x:Int):=ex
    have hux:=(hu47.1.2 _ (getD_mem (d:=default) hx)).2.2.2.2.1
    (try refine am ?_);(try exact amT)
    repeat' with_reducible first|apply zA|intro _
    all_goals try exact amA
    refine LoopK.auto (Nat) (fun j=>[(12,.one (.av (.int .i64 j)))]) (fun j=>[]) [0,3,4,5,6,7,10,11] (k0:=?k02) (keepH:=?kh2) 700 (fun j=>j≤gone.length) (fun j=>gone.length - j) (0) ?kea2 ?keb2 ?_ ?_ ?_
    case kea2=>exact amN
    case keb2=>exact amN
    ·exact Nat.zero_le _
    ·refine LeA [] ?_ ?_ ?_
     all_goals try refine amL ?_
     all_goals try exact amT
    ·intro j hj
     by_cases hjl:j<gone.length
     ·obtain⟨n,en,hn,hcmp⟩:=F.gone (gone.getD j 0) (getD_mem hjl)
      obtain⟨q1,q2⟩:=hcmp x hx hxa
      have htn:=(ht47.1.2 _ (getD_mem (d:=default) hn)).2.2.2.2.1
      (try refine am ?_);(try simp only[ex]);(try refine am ?_);(try exact amT)
      repeat' with_reducible first|apply zA|intro _
      all_goals try exact amA
      refine CallCE.one (implPromise s (u.nodes.getD x default).stats _ _ _ _ hs47 hux) (fun _=>amC) rfl ?_
      (try refine am ?_);(try exact amT)
      repeat' with_reducible first|apply zA|intro _
      all_goals try exact amA
      have en2:n=(gone.getD j 0).toNat:=by omega
      rw[en2] at htn
      refine CallCE.one (implPromise s (t.nodes.getD (gone.getD j 0).toNat default).stats _ _ _ _ hs47 htn) (fun _=>amC) rfl ?_
      (try refine am ?_);(try exact amT)
      (try refine am ?_);(try simp only[ex,en]);(try refine am ?_);(try exact amT)
      repeat' with_reducible first|apply zA|intro _
      all_goals try exact amA
      refine⟨j+1,?_,by omega,by omega⟩
      refine LeA [] ?_ ?_ ?_
      all_goals try refine amL ?_
      all_goals try exact amT
     ·(try refine am ?_);(try exact amT)
      repeat' with_reducible first|apply zA|intro _
      all_goals try exact amA
      refine⟨i+1,?_,by omega,by omega⟩
      refine LeA [] ?_ ?_ ?_
      all_goals try refine amL ?_
      all_goals try exact amT
   ·(try refine am ?_);(try exact amT)
    repeat' with_reducible first|apply zA|intro _
    all_goals try exact amA
    refine CallK.ex (spec_DrawPathToR code hc) (fun _ _ _=>amC) ?_
    rintro⟨s',t',e⟩ ⟨hs',⟨ht',htl'⟩,he⟩
    (try refine am ?_);(try exact amT)
    dsimp only at hs' ht' htl' he
    have he47:okEx (2^47) e:=⟨okI_up he.1 (by decide),he.2⟩
    have hvote:=alike_vote F.al e htk huk
    repeat' with_reducible first|apply zA|intro _
    all_goals try exact amA
    refine CallK.one (hcA) (fun _=>amC) ?_
    (try refine am ?_);(try exact amT)
    repeat' with_reducible first|apply zA|intro _
    all_goals try exact amA
    refine CallCE.one (implTreeSays s u e _ _ _ _ _ hs47 hu47 he47) (fun _=>amC) rfl ?_
    (try refine am ?_);(try exact amT)
    repeat' with_reducible first|apply zA|intro _
    all_goals try exact amA
    refine CallCE.one (implTreeSays s t e _ _ _ _ _ hs47 ht47 he47) (fun _=>amC) rfl ?_
    (try refine am ?_);(try exact amT)
    repeat' with_reducible first|apply zA|intro _
    all_goals try exact amA
    refine CallCEG.one rfl rfl (fun hg=>specTreeSame u u _ _ _ _ hu47) ?_
    (try refine am ?_);(try exact amT)
    repeat' with_reducible first|apply zA|intro _
    all_goals try exact amA
    refine FinK.val1 ?_ ?_
    all_goals try refine amF ?_
    all_goals try exact amT
    rw[hvote]
 ·have e:enforce s t b=(t,[]):=if_neg htk
  rw[e] at hcE
  refine CallK.one (hcE) (fun _=>amC) ?_
  (try refine am ?_);(try exact amT)
  repeat' with_reducible first|apply zA|intro _
  all_goals try exact amA
  refine CallK.one (specTreeOk s t _ _ _ _ hs47 ht47) (fun _=>amC) ?_
  (try refine am ?_);(try exact amT)
  repeat' with_reducible first|apply zA|intro _
  all_goals try exact amA
  ·refine CallG.one rfl (fun hg=>specTreeSame t t _ _ _ _ ht47) ?_
   (try refine am ?_);(try exact amT)
   repeat' with_reducible first|apply zA|intro _
   all_goals try exact amA
   refine FinK.val1 ?_ ?_
   all_goals try refine amF ?_
   all_goals try exact amT
  ·exact absurd (by assumption) htk
end Go.AM
