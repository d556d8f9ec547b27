/- Lemmas for the proof of this claim. -/
import Derived.Test.YtpbahibieegbgaaGreatDll
import Derived.Test.YtpbahibieegbgaaGreatAm4
namespace Go.AM
open Go Go.Proofs
set_option maxRecDepth 100000
set_option maxHeartbeats 8000000 in
theorem spec_DrawPathTo (code : List UInt8) (h : code.length ≤ 2 ^ 40) : ACalls Tryz.prog 19 [.one (aB false code)] (fun r => ∃ x : DSchema × DTree × DEx, (okSchema (2 ^ 10) x.1 ∧ (okTree (2 ^ 12) x.2.1 ∧ x.2.1.nodes.length ≤ 31) ∧ okEx (2 ^ 20 + 1) x.2.2) ∧ r = .tup [.agg (cSchema true true x.1), .agg (cTree true true x.2.1), .agg (cEx true false x.2.2)]) := by
  have nt : Tryz.f19.ntmps = 20 := rfl
  have rs : Tryz.f19.results = #[.cell 2 27, .cell 3 30, .cell 4 50] := rfl
  refine ACalls.of_runC (m := 400) mixed Tryz.func19 rfl rfl (Nat.le_of_ble_eq_true rfl) ?_
  simp only [nt, rs]
  clear nt rs
  (try refine am (h := ?_)); (try with_reducible apply True.intro)
  repeat' with_reducible first | refine And.intro ?_ ?_ | intro _
  all_goals try exact amA
  refine CallK.new (spec_l1New code h) ?_
  rintro xc
  (try refine am (h := ?_)); (try with_reducible apply True.intro)
  repeat' with_reducible first | refine And.intro ?_ ?_ | intro _
  all_goals try exact amA
  refine CallK.cur (spec_l5Right code.length h) rfl rfl rfl (fun _ _ _ => amC) ?_
  rintro s ⟨hs, hs1, hs2⟩
  (try refine am (h := ?_)); (try with_reducible apply True.intro)
  have hs20 : okSchema (2 ^ 20) s := okSchema_up hs
  repeat' with_reducible first | refine And.intro ?_ ?_ | intro _
  all_goals try exact amA
  refine CallK.cur (spec_l19Draw code.length h s _ _ hs20 hs2) rfl rfl rfl (fun _ _ _ => amC) ?_
  rintro t ht
  (try refine am (h := ?_)); (try with_reducible apply True.intro)
  repeat' with_reducible first | refine And.intro ?_ ?_ | intro _
  all_goals try exact amA
  refine CallCE.cur (spec_l7Draw code.length h s _ _ hs20) rfl (⟨[], 0⟩) ?hcq rfl rfl rfl (fun _ _ _ => amC) (fun _ => rfl) (fun _ => rfl) ?_
  case hcq => exact ⟨⟨Nat.zero_le _, fun x hx => by simp at hx⟩, ⟨by show IntKind.i64.min ≤ (0 : Int); decide, by show (0 : Int) ≤ IntKind.i64.max; decide⟩⟩
  rintro e he
  (try refine am (h := ?_)); (try with_reducible apply True.intro)
  repeat' with_reducible first | refine And.intro ?_ ?_ | intro _
  all_goals try exact amA
  refine FinK.ex ((s, t, e)) ?hq1 ?_
  case hq1 => exact ⟨hs, ht, he⟩
  refine FinK.tup ?_ ?_
  all_goals (try refine amF (h := ?_))
  all_goals (try with_reducible apply True.intro)
end Go.AM
namespace Go.AM
open Go Go.Proofs
set_option maxRecDepth 100000
theorem spec_DrawPathToR (code : List UInt8) (h : code.length ≤ 2 ^ 40) : ACalls Tryz.prog 19 [.one (aB false code)] (fun r => ∃ x : DSchema × DTree × DEx, (okSchema (2 ^ 10) x.1 ∧ (okTree (2 ^ 12) x.2.1 ∧ x.2.1.nodes.length ≤ 31) ∧ okEx (2 ^ 20 + 1) x.2.2) ∧ r = .tup [.agg (cSchema false true x.1), .agg (cTree false true x.2.1), .agg (cEx false false x.2.2)]) :=
  ACalls.roX (spec_DrawPathTo code h)
end Go.AM
