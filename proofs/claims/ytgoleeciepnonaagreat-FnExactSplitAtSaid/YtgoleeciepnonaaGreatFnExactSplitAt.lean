/- For every input the law FnExactSplitAt answers true and leaves its arguments as they were: the given statement FnExactSplitAtSaid, without a condition. -/
import Derived.Test.YtgoleeciepnonaaGreatLSplitAt
import Derived.Test.YtgoleeciepnonaaGreatAm4
import Derived.Test.YtgoleeciepnonaaGreatRows
import Derived.ProofKit
namespace Go.Proofs.YtgoleeciepnonaaGreat
open Go Go.ChangeShapes Go.WideShapes Go.ChangeAt Go.RowKit Go.AM
theorem Tryz.own : ownKnob Tryz.prog.godebug = none := by kernel_rfl
theorem Tryz.laidOut : laidOutB Tryz.prog = true := by kernel_rfl
theorem Tryz.rt3 : rtOf Tryz.prog 60 3 = some (.int .i64 .nil) := by kernel_rfl
theorem Tryz.rt25 : rtOf Tryz.prog 60 25 = some rSchema := by kernel_rfl
theorem Tryz.rt28 : rtOf Tryz.prog 60 28 = some rTree := by kernel_rfl
theorem Tryz.rt30 : rtOf Tryz.prog 60 30 = some rFork := by kernel_rfl
theorem Tryz.rt31 : rtOf Tryz.prog 60 31 = some (.sl (.sl (.int .i64 .nil) .nil) .nil) := by kernel_rfl
theorem Tryz.reads3 : ∀ t ∈ Tryz.f3.params.toList, Tryz.prog.readableRec t = true ∧ t < Tryz.prog.types.size := by
  intro t ht
  have : t = 25 ∨ t = 28 ∨ t = 3 ∨ t = 30 ∨ t = 31 := by simpa [Tryz.params3] using ht
  rcases this with rfl | rfl | rfl | rfl | rfl <;> exact ⟨by kernel_rfl, of_decide_eq_true (by kernel_rfl)⟩
set_option maxRecDepth 100000 in
theorem lifted (os : Os) (started : os.Started) (H : Type) (enc : TypeId × Value → H) :
    ReturnsInHanded {} Tryz.checked os 3 .any (Rows.fnExactSplitAtSpec.pre6 enc Tryz.prog Tryz.f3 Rows.fnExactSplitAtRow.domain false) (Rows.fnExactSplitAtSpec.post enc Tryz.prog Tryz.f3 false true false false) := by
  refine returnsInHanded_of_change_sized (C := Tryz.checked) Tryz.own started (by kernel_rfl) Tryz.func3
    (ChangeSpec.witness6 (enc := enc) (C := Tryz.checked) false ⟨#[], #[.agg #[.slice none 0 0, .slice none 0 0], .agg #[.slice none 0 0, .int .i64 0], .int .i64 0, .agg #[.int .i64 0, .int .i64 0], .slice none 0 0], []⟩ 8 (by kernel_rfl) (by kernel_rfl) (by kernel_rfl) (by kernel_rfl)) ?_
  intro W base args ds gs before hval0 hW hcnd hwt _
  have hval : ∀ (j : Nat) t v, Tryz.f3.params[j]? = some t → args[j]? = some v → Value.okWide Tryz.prog W .any base t v := hval0
  have hW' : DataW.Whole enc Tryz.prog Tryz.f3.params.toList Rows.fnExactSplitAtSpec.vars false W args.toList ds gs before := hW
  obtain ⟨p, q, hA0, hV, hb, hfz, hnd⟩ := hW'
  obtain ⟨rfl, rfl⟩ := trodVars_none hV
  have hA : DataW.TrodAll enc Tryz.prog W 0 (fun _ => true) true [25, 28, 3, 30, 31] args.toList ds p := hA0
  have hw : ∀ k ∈ DataW.weightsEach Tryz.prog [25, 28, 3, 30, 31] ds, k ≤ reachBytes := by
    intro k hk
    have := List.all_eq_true.1 hwt k (by
      show k ∈ DataW.weightsEach Tryz.prog ([25, 28, 3, 30, 31] ++ []) (ds ++ [])
      simpa using hk)
    simpa using this
  have hlen := (trod_len hA).1
  have hdl := (trod_len hA).2
  obtain ⟨v0, h0, r0⟩ := law_args hA hw 0 25 rfl
  have h0' : args[0]? = some v0 := by simpa using h0
  obtain ⟨x0, g0, rel0⟩ := arg_agg Tryz.underlying25 (hval 0 25 v0 rfl h0') Tryz.rt25 r0 dec_Schema
  obtain ⟨v1, h1, r1⟩ := law_args hA hw 1 28 rfl
  have h1' : args[1]? = some v1 := by simpa using h1
  obtain ⟨x1, g1, rel1⟩ := arg_agg Tryz.underlying28 (hval 1 28 v1 rfl h1') Tryz.rt28 r1 dec_Tree
  obtain ⟨v2, h2, r2⟩ := law_args hA hw 2 3 rfl
  have h2' : args[2]? = some v2 := by simpa using h2
  obtain ⟨x2, g2, rel2⟩ := arg_one (c := fun n => .int .i64 n) (okWide_int Tryz.underlying3 (hval 2 3 v2 rfl h2')) Tryz.rt3 r2 (dec_int .i64)
  obtain ⟨v3, h3, r3⟩ := law_args hA hw 3 30 rfl
  have h3' : args[3]? = some v3 := by simpa using h3
  obtain ⟨x3, g3, rel3⟩ := arg_agg Tryz.underlying30 (hval 3 30 v3 rfl h3') Tryz.rt30 r3 dec_Fork
  obtain ⟨v4, h4, r4⟩ := law_args hA hw 4 31 rfl
  have h4' : args[4]? = some v4 := by simpa using h4
  obtain ⟨x4, g4, rel4⟩ := arg_one (c := fun l => aL false false l) (okWide_slice Tryz.underlying31 (hval 4 31 v4 rfl h4')) Tryz.rt31 r4 dec_okL
  have hsz : args.size = 5 := by simpa using hlen
  refine (law_calls (fnExactSplitAt x0 x1 x2 x3 x4 g0 g1 g2 g3 g4) (by rw [hsz]; rfl) (fun i t hi => ?_)).mono (fun e W' he => ?_)
  · match i, hi with
    | 0, hi => cases hi; exact ⟨v0, h0', rel0⟩
    | 1, hi => cases hi; exact ⟨v1, h1', rel1⟩
    | 2, hi => cases hi; exact ⟨v2, h2', rel2⟩
    | 3, hi => cases hi; exact ⟨v3, h3', rel3⟩
    | 4, hi => cases hi; exact ⟨v4, h4', rel4⟩
    | i + 5, hi => simp at hi
  · have hds : Rows.fnExactSplitAtSpec.fn H ds = { results := [.lit (.bool true)], args := ds } := by
      match ds, hdl with
      | [d0, d1, d2, d3, d4], _ => rfl
    exact ⟨.bool true, he.1, law_post hW rfl hds Tryz.laidOut Tryz.reads3 (t := 4) (by kernel_rfl) (by kernel_rfl) he.2⟩
theorem holds : Rows.FnExactSplitAtSaid :=
  OpenClaim.holds_of_wide 3 Tryz.f3 rfl rfl rfl rfl rfl rfl rfl ⟨rfl, rfl, rfl, rfl, rfl⟩ rfl rfl rfl rfl rfl (by kernel_rfl) Tryz.func3 (by kernel_rfl)
    (of_decide_eq_true (by kernel_rfl)) (by unfold Func.isWrapper; first | (rw [if_pos (by decide +kernel)]; kernel_rfl) | (rw [if_neg (by decide +kernel)]; exact ⟨rfl, rfl⟩))
    (fun os started H enc _ => lifted os started H enc)
end Go.Proofs.YtgoleeciepnonaaGreat
