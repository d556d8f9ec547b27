/- For every input the law FnExactScoreOk answers true and leaves its arguments as they were: the given statement FnExactScoreOkSaid, without a condition. -/
import Derived.Test.YtbfofhfeghfpoaaLScoreOk
import Derived.Test.YtbfofhfeghfpoaaAm4
import Derived.Test.YtbfofhfeghfpoaaRows
import Derived.ProofKit
namespace Go.Proofs.Ytbfofhfeghfpoaa
open Go Go.ChangeShapes Go.WideShapes Go.ChangeAt Go.RowKit Go.AM
theorem Try.own : ownKnob Try.prog.godebug = none := by kernel_rfl
theorem Try.laidOut : laidOutB Try.prog = true := by kernel_rfl
theorem Try.rt3 : rtOf Try.prog 60 3 = some (.int .i64 .nil) := by kernel_rfl
theorem Try.rt44 : rtOf Try.prog 60 44 = some rScore := by kernel_rfl
theorem Try.reads5 : ∀ t ∈ Try.f5.params.toList, Try.prog.readableRec t = true ∧ t < Try.prog.types.size := by
  intro t ht
  have : t = 3 ∨ t = 44 := by simpa [Try.params5] using ht
  rcases this with rfl | rfl <;> exact ⟨by kernel_rfl, of_decide_eq_true (by kernel_rfl)⟩
set_option maxRecDepth 100000 in
theorem lifted (os : Os) (started : os.Started) (H : Type) (enc : TypeId × Value → H) :
    ReturnsInHanded {} Try.checked os 5 .any (Rows.fnExactScoreOkSpec.pre6 enc Try.prog Try.f5 Rows.fnExactScoreOkRow.domain false) (Rows.fnExactScoreOkSpec.post enc Try.prog Try.f5 false true false false) := by
  refine returnsInHanded_of_change_sized (C := Try.checked) Try.own started (by kernel_rfl) Try.func5
    (ChangeSpec.witness6 (enc := enc) (C := Try.checked) false ⟨#[], #[.int .i64 0, .agg #[.slice none 0 0, .slice none 0 0]], []⟩ 8 (by kernel_rfl) (by kernel_rfl) (by kernel_rfl) (by kernel_rfl)) ?_
  intro W base args ds gs before hval0 hW hcnd hwt _
  have hval : ∀ (j : Nat) t v, Try.f5.params[j]? = some t → args[j]? = some v → Value.okWide Try.prog W .any base t v := hval0
  have hW' : DataW.Whole enc Try.prog Try.f5.params.toList Rows.fnExactScoreOkSpec.vars false W args.toList ds gs before := hW
  obtain ⟨p, q, hA0, hV, hb, hfz, hnd⟩ := hW'
  obtain ⟨rfl, rfl⟩ := trodVars_none hV
  have hA : DataW.TrodAll enc Try.prog W 0 (fun _ => true) true [3, 44] args.toList ds p := hA0
  have hw : ∀ k ∈ DataW.weightsEach Try.prog [3, 44] ds, k ≤ reachBytes := by
    intro k hk
    have := List.all_eq_true.1 hwt k (by
      show k ∈ DataW.weightsEach Try.prog ([3, 44] ++ []) (ds ++ [])
      simpa using hk)
    simpa using this
  have hlen := (trod_len hA).1
  have hdl := (trod_len hA).2
  obtain ⟨v0, h0, r0⟩ := law_args hA hw 0 3 rfl
  have h0' : args[0]? = some v0 := by simpa using h0
  obtain ⟨x0, g0, rel0⟩ := arg_one (c := fun n => .int .i64 n) (okWide_int Try.underlying3 (hval 0 3 v0 rfl h0')) Try.rt3 r0 (dec_int .i64)
  obtain ⟨v1, h1, r1⟩ := law_args hA hw 1 44 rfl
  have h1' : args[1]? = some v1 := by simpa using h1
  obtain ⟨x1, g1, rel1⟩ := arg_agg Try.underlying44 (hval 1 44 v1 rfl h1') Try.rt44 r1 dec_Score
  have hsz : args.size = 2 := by simpa using hlen
  refine (law_calls (fnExactScoreOk x0 x1 g0 g1) (by rw [hsz]; rfl) (fun i t hi => ?_)).mono (fun e W' he => ?_)
  · match i, hi with
    | 0, hi => cases hi; exact ⟨v0, h0', rel0⟩
    | 1, hi => cases hi; exact ⟨v1, h1', rel1⟩
    | i + 2, hi => simp at hi
  · have hds : Rows.fnExactScoreOkSpec.fn H ds = { results := [.lit (.bool true)], args := ds } := by
      match ds, hdl with
      | [d0, d1], _ => rfl
    exact ⟨.bool true, he.1, law_post hW rfl hds Try.laidOut Try.reads5 (t := 4) (by kernel_rfl) (by kernel_rfl) he.2⟩
theorem holds : Rows.FnExactScoreOkSaid :=
  OpenClaim.holds_of_wide 5 Try.f5 rfl rfl rfl rfl rfl rfl rfl ⟨rfl, rfl, rfl, rfl, rfl⟩ rfl rfl rfl rfl rfl (by kernel_rfl) Try.func5 (by kernel_rfl)
    (of_decide_eq_true (by kernel_rfl)) (by unfold Func.isWrapper; first | (rw [if_pos (by decide +kernel)]; kernel_rfl) | (rw [if_neg (by decide +kernel)]; exact ⟨rfl, rfl⟩))
    (fun os started H enc _ => lifted os started H enc)
end Go.Proofs.Ytbfofhfeghfpoaa
