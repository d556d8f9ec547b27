/- Lemmas for the proof of this claim. -/
import Derived.Test.YtpbahibieegbgaaGreatSds
import Derived.Test.YtpbahibieegbgaaGreatPls
import Derived.Test.YtpbahibieegbgaaGreatDr1
import Derived.Test.YtpbahibieegbgaaGreatTsm
namespace Go.AM
set_option maxHeartbeats 64000000
open Go Go.Proofs
set_option maxRecDepth 100000
theorem lawsSameNil:ACalls Tryz.prog 13 [.one nilAV,.one nilAV] (fun r=>r=.val (.one (.bool true))):=by
 have nt:Tryz.f13.ntmps=26:=rfl
 have rs:Tryz.f13.results=#[.tmp 4]:=rfl
 refine ACalls.of_run (m:=400) mixed Tryz.func13 rfl rfl (Nat.le_of_ble_eq_true rfl) ?_
 simp only[nt,rs]
 clear nt rs
 (try refine am ?_);(try exact amT)
 repeat' with_reducible first|apply zA|intro _
 all_goals try exact amA
 refine LoopK.auto (Nat) (fun i=>[(5,.one (.av (.int .i64 i)))]) (fun i=>[]) [0,1] (k0:=?k01) (keepH:=?kh1) 400 (fun i=>i=0) (fun i=>0) (0) ?kea1 ?keb1 ?_ ?_ ?_
 case kea1=>exact amN
 case keb1=>exact amN
 ·rfl
 ·refine LeA [] ?_ ?_ ?_
  all_goals try refine amL ?_
  all_goals try exact amT
 ·intro i hi
  subst hi
  (try refine am ?_);(try exact amT)
  repeat' with_reducible first|apply zA|intro _
  all_goals try exact amA
  refine FinK.val1 ?_ ?_
  all_goals try refine amF ?_
  all_goals try exact amT
theorem vt_len {s:DSchema} {t:DTree} {e:DEx} (ht:treeOk s t):∀{k:Nat},(vt s t e k).length≤3
 |0=>by have:=ht.1.2.1;show (List.replicate s.classes.length (0:Int)).length≤3;rw[List.length_replicate];exact this.2
 |k+1=>by
  rw[vt_succ]
  split
  ·rename_i h
   unfold totAt at h ⊢
   by_cases hp:pos s t e k<t.nodes.length
   ·have:=(ht.2.2.2 _ hp).1.1.2.2.1
    have h1:=this.2.1.1
    have h2:=ht.1.2.1
    omega
   ·have e0:t.nodes.getD (pos s t e k) default=default:=by
     rw[List.getD_eq_getElem?_getD,List.getElem?_eq_none (by omega)];rfl
    rw[e0]
    exact Nat.zero_le _
  ·exact vt_len ht
theorem leafVote_len {s:DSchema} {t:DTree} {e:DEx} (ht:treeOk s t):(leafVote s t e).length≤3:=by
 unfold leafVote
 split
 ·exact vt_len ht
 ·exact Nat.zero_le _
theorem fnSplitSays (code:List UInt8) (h:code.length≤2^47∧∀x∈code,True):ACalls Tryz.prog 4 [.one (aB false code)] (fun r=>r=.val (.one (.bool true))):=by
 obtain⟨h,_⟩:=h
 have nt:Tryz.f4.ntmps=138:=rfl
 have rs:Tryz.f4.results=#[.tmp 2]:=rfl
 refine ACalls.of_runC (m:=400) mixed Tryz.func4 rfl rfl (Nat.le_of_ble_eq_true rfl) ?_
 simp only[nt,rs]
 clear nt rs
 (try refine am ?_);(try exact amT)
 repeat' with_reducible first|apply zA|intro _
 all_goals try exact amA
 refine CallK.one (lawsBig code h _) (fun _=>amC) ?_
 (try refine am ?_);(try exact amT)
 repeat' with_reducible first|apply zA|intro _
 all_goals try exact amA
 ·refine FinK.val1 ?_ ?_
  all_goals try refine amF ?_
  all_goals try exact amT
 have hc:code.length≤2^40:=by omega
 refine CallK.ex (spec_DrawSplitAtR code hc) (fun _ _ _=>amC) ?_
 rintro⟨s,t,i,f,l⟩ ⟨hs,⟨ht,htl⟩,hi,hf,hl⟩
 (try refine am ?_);(try exact amT)
 dsimp only at hs ht htl hi hf hl
 have hs47:okSchema (2^47) s:=okSchema_up hs
 have ht47:okTree (2^47) t:=okTree_up ht
 have ht40:okTree (2^40) t:=okTree_up ht
 have hn38:t.nodes.length≤2^38:=by omega
 have hf47:okFork (2^47) f:=hf
 have hl40:okL (2^40) l:=okL_up hl
 have hI:=implSplitAtR s t i f l false true false true false true hs47 ht40 hn38 hi hf47 hl40
 have hS:=specSplitAtR s t i f l false true false true false true hs47 ht40 hn38 hi hf47 hl40
 repeat' with_reducible first|apply zA|intro _
 all_goals try exact amA
 by_cases hP:splitP s t i f l
 ·have eA:splitA s t i f l=⟨spNodes s t i.toNat f l,t.seen⟩:=if_pos hP
  obtain⟨i,rfl⟩:∃k:Nat,i=k:=⟨i.toNat,by have:=hP.2.1;omega⟩
  have hU:=split_treeOk hP
  have hu47:=(splitA_ok (i:=(i:Int)) ht40 hf47 hl40 (s:=s)).1
  have hvote:=split_vote hP
  have hge:=fun k hk=>spNodes_ge s t i f l (j:=k) hk
  have hlen:=spNodes_len s t i f l
  have hll:=hP.2.2.2.2.2.2.1
  have hlk:∀k,k<l.length→(l.getD k []).length≤2^40:=fun k hk=>(hl40.2 _ (getD_mem hk)).1
  have hst:=hP.1
  rw[decide_eq_true hP] at hI hS
  rw[eA,Int.toNat_natCast] at hI hS hu47
  generalize spNodes s t i f l=U at *
  refine CallK.one (hI) (fun _=>amC) ?_
  (try refine am ?_);(try exact amT)
  repeat' with_reducible first|apply zA|intro _
  all_goals try exact amA
  refine CallK.one (hS) (fun _=>amC) ?_
  (try refine am ?_);(try exact amT)
  repeat' with_reducible first|apply zA|intro _
  all_goals try exact amA
  refine CallK.ex (spec_DrawPathToR code hc) (fun _ _ _=>amC) ?_
  rintro⟨s',t',e⟩ ⟨hs',⟨ht',htl'⟩,he⟩
  (try refine am ?_);(try exact amT)
  dsimp only at hs' ht' htl' he
  have he47:okEx (2^47) e:=⟨okI_up he.1 (by decide),he.2⟩
  repeat' with_reducible first|apply zA|intro _
  all_goals try exact amA
  refine CallK.one (implTreeOk s ⟨U,t.seen⟩ _ _ _ _ hs47 hu47) (fun _=>amC) ?_
  (try refine am ?_);(try exact amT)
  repeat' with_reducible first|apply zA|intro _
  all_goals try exact amA
  ·exfalso
   rename_i h1
   rcases h1 with h1|h1
   ·exact h1 hU
   ·omega
  refine LoopK.auto (Nat) (fun k=>[(15,.one (.av (.int .i64 k)))]) (fun k=>[]) [3,4,5,7,8,14] (k0:=?k02) (keepH:=?kh2) 600 (fun k=>k≤l.length) (fun k=>l.length - k) (0) ?kea2 ?keb2 ?_ ?_ ?_
  case kea2=>exact amN
  case keb2=>exact amN
  ·exact Nat.zero_le _
  ·refine LeA [] ?_ ?_ ?_
   all_goals try refine amL ?_
   all_goals try exact amT
  ·intro k hk
   by_cases hkl:k<l.length
   ·have e1:((t.nodes.length:Int)+(k:Int)).toNat=t.nodes.length+k:=by omega
    have e2:=hge k hkl
    have e3:(leafN s t i (l.getD k [])).born=t.seen:=rfl
    have e4:(leafN s t i (l.getD k [])).up=(i:Int):=rfl
    have e5:(leafN s t i (l.getD k [])).attrs=l.getD k []:=rfl
    have e6:(leafN s t i (l.getD k [])).stats=statsNew s:=rfl
    have hk40:=hlk k hkl
    (try refine am ?_);(try simp only[e1,e2,e3,e4,e5,e6]);(try refine am ?_);(try exact amT)
    repeat' with_reducible first|apply zA|intro _
    all_goals try exact amA
    refine CallCEG.one rfl rfl (fun hg=>lawsSameInts (l.getD k []) (l.getD k []) _ _ _ _ (by omega) (by omega)) ?_
    (try refine am ?_);(try exact amT)
    repeat' with_reducible first|apply zA|intro _
    all_goals try exact amA
    refine CallCEG.one rfl rfl (fun hg=>implStatsTotal s (statsNew s) _ _ _ _ hs47 (statsNew_ok s).1) ?_
    (try refine am ?_);(try exact amT)
    repeat' with_reducible first|apply zA|intro _
    all_goals try exact amA
    ·have e0:(if statsOk s (statsNew s) then tot1 (statsNew s).totals else 0)=0:=by rw[new_tot];split<;>rfl
     exact absurd e0 (by assumption)
    refine⟨k+1,?_,by omega,by omega⟩
    refine LeA [] ?_ ?_ ?_
    all_goals try refine amL ?_
    all_goals try exact amT
   ·have hv:=hvote e
    by_cases hE:exOk s e
    ·have hvl:=leafVote_len (s:=s) (t:=t) (e:=e) hst
     (try refine am ?_);(try exact amT)
     repeat' with_reducible first|apply zA|intro _
     all_goals try exact amA
     refine CallCE.one (implLeafVoteR s ⟨U,t.seen⟩ e _ _ _ _ _ hs47 hu47 he47 ⟨hU,hE⟩) (fun _=>amC) rfl ?_
     (try refine am ?_);(try exact amT)
     repeat' with_reducible first|apply zA|intro _
     all_goals try exact amA
     refine CallCE.one (implLeafVoteR s t e _ _ _ _ _ hs47 ht47 he47 ⟨hst,hE⟩) (fun _=>amC) rfl ?_
     (try refine am ?_);(try exact amT)
     rw[hv]
     repeat' with_reducible first|apply zA|intro _
     all_goals try exact amA
     refine CallCE.one (lawsSameInts (leafVote s t e) (leafVote s t e) _ _ _ _ (by omega) (by omega)) (fun _=>amC) rfl ?_
     (try refine am ?_);(try exact amT)
     repeat' with_reducible first|apply zA|intro _
     all_goals try exact amA
     refine CallCEG.one rfl rfl (fun hg=>implTreeSays s ⟨U,t.seen⟩ e _ _ _ _ _ hs47 hu47 he47) ?_
     (try refine am ?_);(try exact amT)
     repeat' with_reducible first|apply zA|intro _
     all_goals try exact amA
     refine CallCEG.one rfl rfl (fun hg=>implTreeSays s t e _ _ _ _ _ hs47 ht47 he47) ?_
     (try refine am ?_);(try exact amT)
     rw[hv]
     repeat' with_reducible first|apply zA|intro _
     all_goals try exact amA
     refine FinK.val1 ?_ ?_
     all_goals try refine amF ?_
     all_goals try exact amT
    ·(try refine am ?_);(try exact amT)
     repeat' with_reducible first|apply zA|intro _
     all_goals try exact amA
     refine CallCE.one (implLeafVote0 s ⟨U,t.seen⟩ e _ _ _ _ _ hs47 hu47 he47 (fun q=>hE q.2)) (fun _=>amC) rfl ?_
     (try refine am ?_);(try exact amT)
     repeat' with_reducible first|apply zA|intro _
     all_goals try exact amA
     refine CallCE.one (implLeafVote0 s t e _ _ _ _ _ hs47 ht47 he47 (fun q=>hE q.2)) (fun _=>amC) rfl ?_
     (try refine am ?_);(try exact amT)
     repeat' with_reducible first|apply zA|intro _
     all_goals try exact amA
     refine CallCE.one (lawsSameNil) (fun _=>amC) rfl ?_
     (try refine am ?_);(try exact amT)
     repeat' with_reducible first|apply zA|intro _
     all_goals try exact amA
     refine CallCEG.one rfl rfl (fun hg=>implTreeSays s ⟨U,t.seen⟩ e _ _ _ _ _ hs47 hu47 he47) ?_
     (try refine am ?_);(try exact amT)
     repeat' with_reducible first|apply zA|intro _
     all_goals try exact amA
     refine CallCEG.one rfl rfl (fun hg=>implTreeSays s t e _ _ _ _ _ hs47 ht47 he47) ?_
     (try refine am ?_);(try exact amT)
     rw[hv]
     repeat' with_reducible first|apply zA|intro _
     all_goals try exact amA
     refine FinK.val1 ?_ ?_
     all_goals try refine amF ?_
     all_goals try exact amT
 ·have eA:splitA s t i f l=t:=if_neg hP
  rw[decide_eq_false hP,eA] at hI hS
  refine CallK.one (hI) (fun _=>amC) ?_
  (try refine am ?_);(try exact amT)
  repeat' with_reducible first|apply zA|intro _
  all_goals try exact amA
  refine CallK.one (hS) (fun _=>amC) ?_
  (try refine am ?_);(try exact amT)
  repeat' with_reducible first|apply zA|intro _
  all_goals try exact amA
  refine CallK.one (specTreeSame t t _ _ _ _ ht47) (fun _=>amC) ?_
  (try refine am ?_);(try exact amT)
  repeat' with_reducible first|apply zA|intro _
  all_goals try exact amA
  refine FinK.val1 ?_ ?_
  all_goals try refine amF ?_
  all_goals try exact amT
end Go.AM
