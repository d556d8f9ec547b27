/- For every input the law FnPath answers true and leaves its arguments as they were:the given statement FnPathSaid,without a condition. -/
import Derived.Test.YtpbahibieegbgaaGreatLFnPath
import Derived.Test.YtpbahibieegbgaaGreatTap
import Derived.Test.YtpbahibieegbgaaGreatAm4
import Derived.Test.YtpbahibieegbgaaGreatRows
import Derived.ProofKit
namespace Go.Proofs.YtpbahibieegbgaaGreat
open Go Go.ChangeShapes Go.WideShapes Go.ChangeAt Go.RowKit Go.AM
theorem Tryz.own:ownKnob Tryz.prog.godebug=none:=by kernel_rfl
theorem Tryz.laidOut:laidOutB Tryz.prog=true:=by kernel_rfl
theorem Tryz.rt22:rtOf Tryz.prog 60 22=some (.sl (.int .u8 .nil) .nil):=by kernel_rfl
theorem Tryz.reads5:∀t∈Tryz.f5.params.toList,Tryz.prog.readableRec t=true∧t<Tryz.prog.types.size:=by
 intro t ht
 have:t=22:=by simpa [Tryz.params5] using ht
 rcases this with rfl<;>exact⟨by kernel_rfl,of_decide_eq_true (by kernel_rfl)⟩
set_option maxRecDepth 100000 in
theorem lifted (os:Os) (started:os.Started) (H:Type) (enc:TypeId×Value→H):
 ReturnsInHanded {} Tryz.checked os 5 .any (Rows.fnPathSpec.pre6 enc Tryz.prog Tryz.f5 Rows.fnPathRow.domain false) (Rows.fnPathSpec.post enc Tryz.prog Tryz.f5 false true false false):=by
 refine returnsInHanded_of_change_sized (C:=Tryz.checked) Tryz.own started (by kernel_rfl) Tryz.func5
  (ChangeSpec.witness6 (enc:=enc) (C:=Tryz.checked) false ⟨#[],#[.slice none 0 0],[]⟩ 8 (by kernel_rfl) (by kernel_rfl) (by kernel_rfl) (by kernel_rfl)) ?_
 intro W base args ds gs before hval0 hW hcnd hwt _
 have hval:∀(j:Nat) t v,Tryz.f5.params[j]?=some t→args[j]?=some v→Value.okWide Tryz.prog W .any base t v:=hval0
 have hW':DataW.Whole enc Tryz.prog Tryz.f5.params.toList Rows.fnPathSpec.vars false W args.toList ds gs before:=hW
 obtain⟨p,q,hA0,hV,hb,hfz,hnd⟩:=hW'
 obtain⟨rfl,rfl⟩:=trodVars_none hV
 have hA:DataW.TrodAll enc Tryz.prog W 0 (fun _=>true) true [22] args.toList ds p:=hA0
 have hw:∀k∈DataW.weightsEach Tryz.prog [22] ds,k≤reachBytes:=by
  intro k hk
  have:=List.all_eq_true.1 hwt k (by
   show k∈DataW.weightsEach Tryz.prog ([22]++[]) (ds++[])
   simpa using hk)
  simpa using this
 have hlen:=(trod_len hA).1
 have hdl:=(trod_len hA).2
 obtain⟨v0,h0,r0⟩:=law_args hA hw 0 22 rfl
 have h0':args[0]?=some v0:=by simpa using h0
 obtain⟨x0,g0,rel0⟩:=arg_one (c:=fun l=>aB false l) (okWide_slice Tryz.underlying22 (hval 0 22 v0 rfl h0')) Tryz.rt22 r0 dec_bytes
 have hsz:args.size=1:=by simpa using hlen
 refine(law_calls (fnPath x0 g0) (by rw[hsz];rfl) (fun i t hi=>?_)).mono (fun e W' he=>?_)
 ·match i,hi with
  |0,hi=>cases hi;exact⟨v0,h0',rel0⟩
  |i+1,hi=>simp at hi
 ·have hds:Rows.fnPathSpec.fn H ds={ results:=[.lit (.bool true)],args:=ds}:=by
   match ds,hdl with
   |[d0],_=>rfl
  exact⟨.bool true,he.1,law_post hW rfl hds Tryz.laidOut Tryz.reads5 (t:=4) (by kernel_rfl) (by kernel_rfl) he.2⟩
theorem holds:Rows.FnPathSaid:=
 OpenClaim.holds_of_wide 5 Tryz.f5 rfl rfl rfl rfl rfl rfl rfl ⟨rfl,rfl,rfl,rfl,rfl⟩ rfl rfl rfl rfl rfl (by kernel_rfl) Tryz.func5 (by kernel_rfl)
  (of_decide_eq_true (by kernel_rfl)) (by unfold Func.isWrapper;first|(rw[if_pos (by decide+kernel)];kernel_rfl)|(rw[if_neg (by decide+kernel)];exact⟨rfl,rfl⟩))
  (fun os started H enc _=>lifted os started H enc)
end Go.Proofs.YtpbahibieegbgaaGreat
