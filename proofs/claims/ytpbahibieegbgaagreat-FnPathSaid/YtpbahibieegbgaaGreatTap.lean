/- Tapes as arguments of laws. -/
import Derived.Test.YtpbahibieegbgaaGreatData
namespace Go.AM
open Go
theorem dec_u8:Dec (.int .u8 .nil) cB (fun _=>True):=fun l hl=>by
 obtain⟨n,hn,hr⟩:=dec_int .u8 l hl
 have hb:0≤n∧n≤255:=hn
 refine⟨UInt8.ofNat n.toNat,trivial,?_⟩
 have e:(UInt8.ofNat n.toNat).toNat=n.toNat % 256:=UInt8.toNat_ofNat' ..
 have e2:cB (UInt8.ofNat n.toNat)=[.int .u8 n]:=by
  unfold cB
  rw[e,show ((n.toNat % 256:Nat):Int)=n by omega]
 rw[e2]
 exact hr
theorem dec_bytes:Dec (.sl (.int .u8 .nil) .nil) (fun l=>[aB false l]) (fun l=>l.length≤2^47∧∀x∈l,True):=dec_sl 0 dec_u8
end Go.AM
