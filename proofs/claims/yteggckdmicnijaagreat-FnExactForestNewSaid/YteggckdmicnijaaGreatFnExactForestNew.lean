/- For every input the law FnExactForestNew answers true and leaves its arguments as they were: the given statement FnExactForestNewSaid, without a condition. -/
import Derived.Test.YteggckdmicnijaaGreatLForestNew
import Derived.Test.YteggckdmicnijaaGreatTpe
import Derived.Test.YteggckdmicnijaaGreatAm4
import Derived.Test.YteggckdmicnijaaGreatRows
import Derived.ProofKit
namespace Go.Proofs.YteggckdmicnijaaGreat
open Go Go.ChangeShapes Go.WideShapes Go.ChangeAt Go.RowKit Go.AM
theorem Tryz.own : ownKnob Tryz.prog.godebug = none := by kernel_rfl
theorem Tryz.laidOut : laidOutB Tryz.prog = true := by kernel_rfl
theorem Tryz.rt29 : rtOf Tryz.prog 60 29 = some rConf := by kernel_rfl
theorem Tryz.rt32 : rtOf Tryz.prog 60 32 = some rTape := by kernel_rfl
theorem Tryz.reads4 : ∀ t ∈ Tryz.f4.params.toList, Tryz.prog.readableRec t = true ∧ t < Tryz.prog.types.size := by
  intro t ht
  have : t = 29 ∨ t = 32 := by simpa [Tryz.params4] using ht
  rcases this with rfl | rfl <;> exact ⟨by kernel_rfl, of_decide_eq_true (by kernel_rfl)⟩
set_option maxRecDepth 100000 in
theorem lifted (os : Os) (started : os.Started) (H : Type) (enc : TypeId × Value → H) :
    ReturnsInHanded {} Tryz.checked os 4 .any (Rows.fnExactForestNewSpec.pre6 enc Tryz.prog Tryz.f4 Rows.fnExactForestNewRow.domain false) (Rows.fnExactForestNewSpec.post enc Tryz.prog Tryz.f4 false true false false) := by
  refine returnsInHanded_of_change_sized (C := Tryz.checked) Tryz.own started (by kernel_rfl) Tryz.func4
    (ChangeSpec.witness6 (enc := enc) (C := Tryz.checked) false ⟨#[], #[.agg #[.slice none 0 0, .slice none 0 0, .int .i64 0, .int .i64 0, .int .i64 0, .int .i64 0, .int .i64 0, .int .i64 0, .bool false, .int .i64 0, .int .i64 0, .int .i64 0, .int .i64 0, .int .i64 0], .agg #[.slice none 0 0, .int .i64 0]], []⟩ 8 (by kernel_rfl) (by kernel_rfl) (by kernel_rfl) (by kernel_rfl)) ?_
  intro W base args ds gs before hval0 hW hcnd hwt _
  have hval : ∀ (j : Nat) t v, Tryz.f4.params[j]? = some t → args[j]? = some v → Value.okWide Tryz.prog W .any base t v := hval0
  have hW' : DataW.Whole enc Tryz.prog Tryz.f4.params.toList Rows.fnExactForestNewSpec.vars false W args.toList ds gs before := hW
  obtain ⟨p, q, hA0, hV, hb, hfz, hnd⟩ := hW'
  obtain ⟨rfl, rfl⟩ := trodVars_none hV
  have hA : DataW.TrodAll enc Tryz.prog W 0 (fun _ => true) true [29, 32] args.toList ds p := hA0
  have hw : ∀ k ∈ DataW.weightsEach Tryz.prog [29, 32] ds, k ≤ reachBytes := by
    intro k hk
    have := List.all_eq_true.1 hwt k (by
      show k ∈ DataW.weightsEach Tryz.prog ([29, 32] ++ []) (ds ++ [])
      simpa using hk)
    simpa using this
  have hlen := (trod_len hA).1
  have hdl := (trod_len hA).2
  obtain ⟨v0, h0, r0⟩ := law_args hA hw 0 29 rfl
  have h0' : args[0]? = some v0 := by simpa using h0
  obtain ⟨x0, g0, rel0⟩ := arg_agg Tryz.underlying29 (hval 0 29 v0 rfl h0') Tryz.rt29 r0 dec_Conf
  obtain ⟨v1, h1, r1⟩ := law_args hA hw 1 32 rfl
  have h1' : args[1]? = some v1 := by simpa using h1
  obtain ⟨x1, g1, rel1⟩ := arg_agg Tryz.underlying32 (hval 1 32 v1 rfl h1') Tryz.rt32 r1 dec_Tape
  have hsz : args.size = 2 := by simpa using hlen
  refine (law_calls (fnExactForestNew x0 x1 g0 g1) (by rw [hsz]; rfl) (fun i t hi => ?_)).mono (fun e W' he => ?_)
  · match i, hi with
    | 0, hi => cases hi; exact ⟨v0, h0', rel0⟩
    | 1, hi => cases hi; exact ⟨v1, h1', rel1⟩
    | i + 2, hi => simp at hi
  · have hds : Rows.fnExactForestNewSpec.fn H ds = { results := [.lit (.bool true)], args := ds } := by
      match ds, hdl with
      | [d0, d1], _ => rfl
    exact ⟨.bool true, he.1, law_post hW rfl hds Tryz.laidOut Tryz.reads4 (t := 4) (by kernel_rfl) (by kernel_rfl) he.2⟩
theorem holds : Rows.FnExactForestNewSaid :=
  OpenClaim.holds_of_wide 4 Tryz.f4 rfl rfl rfl rfl rfl rfl rfl ⟨rfl, rfl, rfl, rfl, rfl⟩ rfl rfl rfl rfl rfl (by kernel_rfl) Tryz.func4 (by kernel_rfl)
    (of_decide_eq_true (by kernel_rfl)) (by unfold Func.isWrapper; first | (rw [if_pos (by decide +kernel)]; kernel_rfl) | (rw [if_neg (by decide +kernel)]; exact ⟨rfl, rfl⟩))
    (fun os started H enc _ => lifted os started H enc)
end Go.Proofs.YteggckdmicnijaaGreat
